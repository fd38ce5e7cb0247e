/- What was written as a word is read as it was: kind by kind. -/
import Derived.Test.YtppocjgjjjojiaaDoorCodReadImpl
import Derived.Test.YtppocjgjjjojiaaDoorCodPlain
namespace Go.Proofs.YtppocjgjjjojiaaDoor
open Go.RowKit
set_option maxRecDepth 100000

def RdGood (i : Nat) (d a b f n c : Int) : Prop :=
  0 ≤ c ∧ c < 65536 ∧ c / 4096 = i ∧ (tkD i c).1 = d ∧ (tkA i c).1 = a ∧ (tkB i c).1 = b ∧ (tkF i c).1 = f ∧ rdN i c = n

theorem rdGood_0 (d a b f n : Int) (h : codOk ((0 : Nat) : Int) d a b f n = true) : RdGood 0 d a b f n ((cutS 0 d a b f n).1 * 2 ^ (cutS 0 d a b f n).2) := by
  simp [codOk, fld, numB, show kd 0 = true from rfl, show ka 0 = true from rfl, show kb 0 = true from rfl, show kp 0 = 8 from rfl, show kw 0 = 0 from rfl, show ks 0 = false from rfl] at h
  generalize hc : (cutS 0 d a b f n).1 * 2 ^ (cutS 0 d a b f n).2 = c
  simp [cutS, cut, show kd 0 = true from rfl, show ka 0 = true from rfl, show kb 0 = true from rfl, show kp 0 = 8 from rfl, show kw 0 = 0 from rfl, show ks 0 = false from rfl] at hc
  unfold RdGood
  simp [tkD, tkA, tkB, tkF, tkN, rdN, tk, sgn, show kd 0 = true from rfl, show ka 0 = true from rfl, show kb 0 = true from rfl, show kp 0 = 8 from rfl, show kw 0 = 0 from rfl, show ks 0 = false from rfl]
  (try split) <;> omega

theorem rdGood_1 (d a b f n : Int) (h : codOk ((1 : Nat) : Int) d a b f n = true) : RdGood 1 d a b f n ((cutS 1 d a b f n).1 * 2 ^ (cutS 1 d a b f n).2) := by
  simp [codOk, fld, numB, show kd 1 = true from rfl, show ka 1 = true from rfl, show kb 1 = false from rfl, show kp 1 = 0 from rfl, show kw 1 = 6 from rfl, show ks 1 = true from rfl] at h
  generalize hc : (cutS 1 d a b f n).1 * 2 ^ (cutS 1 d a b f n).2 = c
  simp [cutS, cut, show kd 1 = true from rfl, show ka 1 = true from rfl, show kb 1 = false from rfl, show kp 1 = 0 from rfl, show kw 1 = 6 from rfl, show ks 1 = true from rfl] at hc
  unfold RdGood
  simp [tkD, tkA, tkB, tkF, tkN, rdN, tk, sgn, show kd 1 = true from rfl, show ka 1 = true from rfl, show kb 1 = false from rfl, show kp 1 = 0 from rfl, show kw 1 = 6 from rfl, show ks 1 = true from rfl]
  (try split) <;> omega

theorem rdGood_2 (d a b f n : Int) (h : codOk ((2 : Nat) : Int) d a b f n = true) : RdGood 2 d a b f n ((cutS 2 d a b f n).1 * 2 ^ (cutS 2 d a b f n).2) := by
  simp [codOk, fld, numB, show kd 2 = true from rfl, show ka 2 = false from rfl, show kb 2 = false from rfl, show kp 2 = 0 from rfl, show kw 2 = 9 from rfl, show ks 2 = false from rfl] at h
  generalize hc : (cutS 2 d a b f n).1 * 2 ^ (cutS 2 d a b f n).2 = c
  simp [cutS, cut, show kd 2 = true from rfl, show ka 2 = false from rfl, show kb 2 = false from rfl, show kp 2 = 0 from rfl, show kw 2 = 9 from rfl, show ks 2 = false from rfl] at hc
  unfold RdGood
  simp [tkD, tkA, tkB, tkF, tkN, rdN, tk, sgn, show kd 2 = true from rfl, show ka 2 = false from rfl, show kb 2 = false from rfl, show kp 2 = 0 from rfl, show kw 2 = 9 from rfl, show ks 2 = false from rfl]
  (try split) <;> omega

theorem rdGood_3 (d a b f n : Int) (h : codOk ((3 : Nat) : Int) d a b f n = true) : RdGood 3 d a b f n ((cutS 3 d a b f n).1 * 2 ^ (cutS 3 d a b f n).2) := by
  simp [codOk, fld, numB, show kd 3 = true from rfl, show ka 3 = true from rfl, show kb 3 = false from rfl, show kp 3 = 0 from rfl, show kw 3 = 6 from rfl, show ks 3 = true from rfl] at h
  generalize hc : (cutS 3 d a b f n).1 * 2 ^ (cutS 3 d a b f n).2 = c
  simp [cutS, cut, show kd 3 = true from rfl, show ka 3 = true from rfl, show kb 3 = false from rfl, show kp 3 = 0 from rfl, show kw 3 = 6 from rfl, show ks 3 = true from rfl] at hc
  unfold RdGood
  simp [tkD, tkA, tkB, tkF, tkN, rdN, tk, sgn, show kd 3 = true from rfl, show ka 3 = true from rfl, show kb 3 = false from rfl, show kp 3 = 0 from rfl, show kw 3 = 6 from rfl, show ks 3 = true from rfl]
  (try split) <;> omega

theorem rdGood_4 (d a b f n : Int) (h : codOk ((4 : Nat) : Int) d a b f n = true) : RdGood 4 d a b f n ((cutS 4 d a b f n).1 * 2 ^ (cutS 4 d a b f n).2) := by
  simp [codOk, fld, numB, show kd 4 = false from rfl, show ka 4 = true from rfl, show kb 4 = true from rfl, show kp 4 = 0 from rfl, show kw 4 = 6 from rfl, show ks 4 = true from rfl] at h
  generalize hc : (cutS 4 d a b f n).1 * 2 ^ (cutS 4 d a b f n).2 = c
  simp [cutS, cut, show kd 4 = false from rfl, show ka 4 = true from rfl, show kb 4 = true from rfl, show kp 4 = 0 from rfl, show kw 4 = 6 from rfl, show ks 4 = true from rfl] at hc
  unfold RdGood
  simp [tkD, tkA, tkB, tkF, tkN, rdN, tk, sgn, show kd 4 = false from rfl, show ka 4 = true from rfl, show kb 4 = true from rfl, show kp 4 = 0 from rfl, show kw 4 = 6 from rfl, show ks 4 = true from rfl]
  (try split) <;> omega

theorem rdGood_5 (d a b f n : Int) (h : codOk ((5 : Nat) : Int) d a b f n = true) : RdGood 5 d a b f n ((cutS 5 d a b f n).1 * 2 ^ (cutS 5 d a b f n).2) := by
  simp [codOk, fld, numB, show kd 5 = false from rfl, show ka 5 = true from rfl, show kb 5 = true from rfl, show kp 5 = 0 from rfl, show kw 5 = 6 from rfl, show ks 5 = true from rfl] at h
  generalize hc : (cutS 5 d a b f n).1 * 2 ^ (cutS 5 d a b f n).2 = c
  simp [cutS, cut, show kd 5 = false from rfl, show ka 5 = true from rfl, show kb 5 = true from rfl, show kp 5 = 0 from rfl, show kw 5 = 6 from rfl, show ks 5 = true from rfl] at hc
  unfold RdGood
  simp [tkD, tkA, tkB, tkF, tkN, rdN, tk, sgn, show kd 5 = false from rfl, show ka 5 = true from rfl, show kb 5 = true from rfl, show kp 5 = 0 from rfl, show kw 5 = 6 from rfl, show ks 5 = true from rfl]
  (try split) <;> omega

theorem rdGood_6 (d a b f n : Int) (h : codOk ((6 : Nat) : Int) d a b f n = true) : RdGood 6 d a b f n ((cutS 6 d a b f n).1 * 2 ^ (cutS 6 d a b f n).2) := by
  simp [codOk, fld, numB, show kd 6 = false from rfl, show ka 6 = true from rfl, show kb 6 = true from rfl, show kp 6 = 0 from rfl, show kw 6 = 6 from rfl, show ks 6 = true from rfl] at h
  generalize hc : (cutS 6 d a b f n).1 * 2 ^ (cutS 6 d a b f n).2 = c
  simp [cutS, cut, show kd 6 = false from rfl, show ka 6 = true from rfl, show kb 6 = true from rfl, show kp 6 = 0 from rfl, show kw 6 = 6 from rfl, show ks 6 = true from rfl] at hc
  unfold RdGood
  simp [tkD, tkA, tkB, tkF, tkN, rdN, tk, sgn, show kd 6 = false from rfl, show ka 6 = true from rfl, show kb 6 = true from rfl, show kp 6 = 0 from rfl, show kw 6 = 6 from rfl, show ks 6 = true from rfl]
  (try split) <;> omega

theorem rdGood_7 (d a b f n : Int) (h : codOk ((7 : Nat) : Int) d a b f n = true) : RdGood 7 d a b f n ((cutS 7 d a b f n).1 * 2 ^ (cutS 7 d a b f n).2) := by
  simp [codOk, fld, numB, show kd 7 = true from rfl, show ka 7 = false from rfl, show kb 7 = false from rfl, show kp 7 = 0 from rfl, show kw 7 = 9 from rfl, show ks 7 = true from rfl] at h
  generalize hc : (cutS 7 d a b f n).1 * 2 ^ (cutS 7 d a b f n).2 = c
  simp [cutS, cut, show kd 7 = true from rfl, show ka 7 = false from rfl, show kb 7 = false from rfl, show kp 7 = 0 from rfl, show kw 7 = 9 from rfl, show ks 7 = true from rfl] at hc
  unfold RdGood
  simp [tkD, tkA, tkB, tkF, tkN, rdN, tk, sgn, show kd 7 = true from rfl, show ka 7 = false from rfl, show kb 7 = false from rfl, show kp 7 = 0 from rfl, show kw 7 = 9 from rfl, show ks 7 = true from rfl]
  (try split) <;> omega

theorem rdGood_8 (d a b f n : Int) (h : codOk ((8 : Nat) : Int) d a b f n = true) : RdGood 8 d a b f n ((cutS 8 d a b f n).1 * 2 ^ (cutS 8 d a b f n).2) := by
  simp [codOk, fld, numB, show kd 8 = true from rfl, show ka 8 = true from rfl, show kb 8 = false from rfl, show kp 8 = 0 from rfl, show kw 8 = 6 from rfl, show ks 8 = true from rfl] at h
  generalize hc : (cutS 8 d a b f n).1 * 2 ^ (cutS 8 d a b f n).2 = c
  simp [cutS, cut, show kd 8 = true from rfl, show ka 8 = true from rfl, show kb 8 = false from rfl, show kp 8 = 0 from rfl, show kw 8 = 6 from rfl, show ks 8 = true from rfl] at hc
  unfold RdGood
  simp [tkD, tkA, tkB, tkF, tkN, rdN, tk, sgn, show kd 8 = true from rfl, show ka 8 = true from rfl, show kb 8 = false from rfl, show kp 8 = 0 from rfl, show kw 8 = 6 from rfl, show ks 8 = true from rfl]
  (try split) <;> omega

theorem rdGood_9 (d a b f n : Int) (h : codOk ((9 : Nat) : Int) d a b f n = true) : RdGood 9 d a b f n ((cutS 9 d a b f n).1 * 2 ^ (cutS 9 d a b f n).2) := by
  simp [codOk, fld, numB, show kd 9 = true from rfl, show ka 9 = true from rfl, show kb 9 = true from rfl, show kp 9 = 0 from rfl, show kw 9 = 0 from rfl, show ks 9 = false from rfl] at h
  generalize hc : (cutS 9 d a b f n).1 * 2 ^ (cutS 9 d a b f n).2 = c
  simp [cutS, cut, show kd 9 = true from rfl, show ka 9 = true from rfl, show kb 9 = true from rfl, show kp 9 = 0 from rfl, show kw 9 = 0 from rfl, show ks 9 = false from rfl] at hc
  unfold RdGood
  simp [tkD, tkA, tkB, tkF, tkN, rdN, tk, sgn, show kd 9 = true from rfl, show ka 9 = true from rfl, show kb 9 = true from rfl, show kp 9 = 0 from rfl, show kw 9 = 0 from rfl, show ks 9 = false from rfl]
  (try split) <;> omega

theorem rdGood_10 (d a b f n : Int) (h : codOk ((10 : Nat) : Int) d a b f n = true) : RdGood 10 d a b f n ((cutS 10 d a b f n).1 * 2 ^ (cutS 10 d a b f n).2) := by
  simp [codOk, fld, numB, show kd 10 = true from rfl, show ka 10 = true from rfl, show kb 10 = true from rfl, show kp 10 = 0 from rfl, show kw 10 = 0 from rfl, show ks 10 = false from rfl] at h
  generalize hc : (cutS 10 d a b f n).1 * 2 ^ (cutS 10 d a b f n).2 = c
  simp [cutS, cut, show kd 10 = true from rfl, show ka 10 = true from rfl, show kb 10 = true from rfl, show kp 10 = 0 from rfl, show kw 10 = 0 from rfl, show ks 10 = false from rfl] at hc
  unfold RdGood
  simp [tkD, tkA, tkB, tkF, tkN, rdN, tk, sgn, show kd 10 = true from rfl, show ka 10 = true from rfl, show kb 10 = true from rfl, show kp 10 = 0 from rfl, show kw 10 = 0 from rfl, show ks 10 = false from rfl]
  (try split) <;> omega

theorem rdGood_11 (d a b f n : Int) (h : codOk ((11 : Nat) : Int) d a b f n = true) : RdGood 11 d a b f n ((cutS 11 d a b f n).1 * 2 ^ (cutS 11 d a b f n).2) := by
  simp [codOk, fld, numB, show kd 11 = false from rfl, show ka 11 = false from rfl, show kb 11 = false from rfl, show kp 11 = 0 from rfl, show kw 11 = 0 from rfl, show ks 11 = false from rfl] at h
  generalize hc : (cutS 11 d a b f n).1 * 2 ^ (cutS 11 d a b f n).2 = c
  simp [cutS, cut, show kd 11 = false from rfl, show ka 11 = false from rfl, show kb 11 = false from rfl, show kp 11 = 0 from rfl, show kw 11 = 0 from rfl, show ks 11 = false from rfl] at hc
  unfold RdGood
  simp [tkD, tkA, tkB, tkF, tkN, rdN, tk, sgn, show kd 11 = false from rfl, show ka 11 = false from rfl, show kb 11 = false from rfl, show kp 11 = 0 from rfl, show kw 11 = 0 from rfl, show ks 11 = false from rfl]
  (try split) <;> omega

theorem rdGood_12 (d a b f n : Int) (h : codOk ((12 : Nat) : Int) d a b f n = true) : RdGood 12 d a b f n ((cutS 12 d a b f n).1 * 2 ^ (cutS 12 d a b f n).2) := by
  simp [codOk, fld, numB, show kd 12 = false from rfl, show ka 12 = false from rfl, show kb 12 = false from rfl, show kp 12 = 0 from rfl, show kw 12 = 9 from rfl, show ks 12 = false from rfl] at h
  generalize hc : (cutS 12 d a b f n).1 * 2 ^ (cutS 12 d a b f n).2 = c
  simp [cutS, cut, show kd 12 = false from rfl, show ka 12 = false from rfl, show kb 12 = false from rfl, show kp 12 = 0 from rfl, show kw 12 = 9 from rfl, show ks 12 = false from rfl] at hc
  unfold RdGood
  simp [tkD, tkA, tkB, tkF, tkN, rdN, tk, sgn, show kd 12 = false from rfl, show ka 12 = false from rfl, show kb 12 = false from rfl, show kp 12 = 0 from rfl, show kw 12 = 9 from rfl, show ks 12 = false from rfl]
  (try split) <;> omega

theorem rdGood_13 (d a b f n : Int) (h : codOk ((13 : Nat) : Int) d a b f n = true) : RdGood 13 d a b f n ((cutS 13 d a b f n).1 * 2 ^ (cutS 13 d a b f n).2) := by
  simp [codOk, fld, numB, show kd 13 = false from rfl, show ka 13 = false from rfl, show kb 13 = false from rfl, show kp 13 = 0 from rfl, show kw 13 = 0 from rfl, show ks 13 = false from rfl] at h
  generalize hc : (cutS 13 d a b f n).1 * 2 ^ (cutS 13 d a b f n).2 = c
  simp [cutS, cut, show kd 13 = false from rfl, show ka 13 = false from rfl, show kb 13 = false from rfl, show kp 13 = 0 from rfl, show kw 13 = 0 from rfl, show ks 13 = false from rfl] at hc
  unfold RdGood
  simp [tkD, tkA, tkB, tkF, tkN, rdN, tk, sgn, show kd 13 = false from rfl, show ka 13 = false from rfl, show kb 13 = false from rfl, show kp 13 = 0 from rfl, show kw 13 = 0 from rfl, show ks 13 = false from rfl]
  (try split) <;> omega

theorem rdGood_14 (d a b f n : Int) (h : codOk ((14 : Nat) : Int) d a b f n = true) : RdGood 14 d a b f n ((cutS 14 d a b f n).1 * 2 ^ (cutS 14 d a b f n).2) := by
  simp [codOk, fld, numB, show kd 14 = true from rfl, show ka 14 = false from rfl, show kb 14 = false from rfl, show kp 14 = 5 from rfl, show kw 14 = 0 from rfl, show ks 14 = false from rfl] at h
  generalize hc : (cutS 14 d a b f n).1 * 2 ^ (cutS 14 d a b f n).2 = c
  simp [cutS, cut, show kd 14 = true from rfl, show ka 14 = false from rfl, show kb 14 = false from rfl, show kp 14 = 5 from rfl, show kw 14 = 0 from rfl, show ks 14 = false from rfl] at hc
  unfold RdGood
  simp [tkD, tkA, tkB, tkF, tkN, rdN, tk, sgn, show kd 14 = true from rfl, show ka 14 = false from rfl, show kb 14 = false from rfl, show kp 14 = 5 from rfl, show kw 14 = 0 from rfl, show ks 14 = false from rfl]
  (try split) <;> omega

theorem rdGood_15 (d a b f n : Int) (h : codOk ((15 : Nat) : Int) d a b f n = true) : RdGood 15 d a b f n ((cutS 15 d a b f n).1 * 2 ^ (cutS 15 d a b f n).2) := by
  simp [codOk, fld, numB, show kd 15 = false from rfl, show ka 15 = true from rfl, show kb 15 = false from rfl, show kp 15 = 5 from rfl, show kw 15 = 0 from rfl, show ks 15 = false from rfl] at h
  generalize hc : (cutS 15 d a b f n).1 * 2 ^ (cutS 15 d a b f n).2 = c
  simp [cutS, cut, show kd 15 = false from rfl, show ka 15 = true from rfl, show kb 15 = false from rfl, show kp 15 = 5 from rfl, show kw 15 = 0 from rfl, show ks 15 = false from rfl] at hc
  unfold RdGood
  simp [tkD, tkA, tkB, tkF, tkN, rdN, tk, sgn, show kd 15 = false from rfl, show ka 15 = true from rfl, show kb 15 = false from rfl, show kp 15 = 5 from rfl, show kw 15 = 0 from rfl, show ks 15 = false from rfl]
  (try split) <;> omega

theorem rdGood (i : Nat) (hi : i < 16) (d a b f n : Int) (h : codOk i d a b f n = true) : RdGood i d a b f n ((cutS i d a b f n).1 * 2 ^ (cutS i d a b f n).2) := by
  obtain rfl | rfl | rfl | rfl | rfl | rfl | rfl | rfl | rfl | rfl | rfl | rfl | rfl | rfl | rfl | rfl := sixteen hi
  · exact rdGood_0 d a b f n h
  · exact rdGood_1 d a b f n h
  · exact rdGood_2 d a b f n h
  · exact rdGood_3 d a b f n h
  · exact rdGood_4 d a b f n h
  · exact rdGood_5 d a b f n h
  · exact rdGood_6 d a b f n h
  · exact rdGood_7 d a b f n h
  · exact rdGood_8 d a b f n h
  · exact rdGood_9 d a b f n h
  · exact rdGood_10 d a b f n h
  · exact rdGood_11 d a b f n h
  · exact rdGood_12 d a b f n h
  · exact rdGood_13 d a b f n h
  · exact rdGood_14 d a b f n h
  · exact rdGood_15 d a b f n h

/-- What was written is read. -/
theorem rd_back (k d a b f n : Int) (h : codOk k d a b f n = true) : rdRes (codWord k d a b f n) = .tuple #[instV k d a b f n, .bool true] ∧ 0 ≤ codWord k d a b f n ∧ codWord k d a b f n < 65536 := by
  have hk0 : 0 ≤ k ∧ k < 16 := by simp only [codOk, Bool.and_eq_true, decide_eq_true_eq] at h; exact h.1
  obtain ⟨i, rfl⟩ := Int.eq_ofNat_of_zero_le hk0.1
  have hi : i < 16 := by omega
  have e : codWord i d a b f n = (cutS i d a b f n).1 * 2 ^ (cutS i d a b f n).2 := by
    rw [← cwS_cut i d a b f n hi]; simp [codWord, h]
  obtain ⟨c0, c1, c2, hd, ha, hb, hf, hn⟩ := rdGood i hi d a b f n h
  rw [← e] at c0 c1 c2 hd ha hb hf hn
  have ho : rdOk i (codWord i d a b f n) = true := by simp [rdOk, hd, ha, hb, hf, hn]
  have := rdRes_yes i (codWord i d a b f n) ⟨c0, c1⟩ c2.symm ho
  rw [hd, ha, hb, hf, hn] at this
  exact ⟨this, c0, c1⟩
/-- What is read as an instruction is one, has the word, and its kind is the word's highest bits. -/
theorem rd_yes (w : Int) : (rdRes w = .tuple #[instV 0 0 0 0 0 0, .bool false]) ∨
    ∃ k d a b f n : Int, rdRes w = .tuple #[instV k d a b f n, .bool true] ∧ codOk k d a b f n = true ∧ codWord k d a b f n = w ∧ k = w / 4096 ∧ 0 ≤ w ∧ w < 65536 := by
  by_cases hw : 0 ≤ w ∧ w < 65536
  · have hi : ((w / 4096).toNat : Int) = w / 4096 := by omega
    cases ho : rdOk (w / 4096).toNat w
    · exact .inl (rdRes_no _ w hw hi ho)
    · refine .inr ⟨_, _, _, _, _, _, rdRes_yes _ w hw hi ho, ?_, ?_, hi, hw.1, hw.2⟩
      · cases hc : codOk (w / 4096).toNat (tkD (w / 4096).toNat w).1 (tkA (w / 4096).toNat w).1 (tkB (w / 4096).toNat w).1 (tkF (w / 4096).toNat w).1 (rdN (w / 4096).toNat w)
        · rw [rdOk_no _ w hw.1 _ rfl hc] at ho; cases ho
        · rfl
      · simpa [rdOk] using ho
  · exact .inl (if_neg hw)
end Go.Proofs.YtppocjgjjjojiaaDoor
