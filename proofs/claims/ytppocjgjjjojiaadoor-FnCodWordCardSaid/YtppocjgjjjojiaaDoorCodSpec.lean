/- Instructions by the reference: l2Has, l2Num, CodOk, CodWord. -/
import Derived.Test.YtppocjgjjjojiaaDoorCod
import Derived.Deep.DeepCutAuto
import Derived.LoopTactic
namespace Go.Proofs.YtppocjgjjjojiaaDoor
open Go.RowKit

def inB (n lo hi : Int) : Bool := decide (lo ≤ n) && decide (n ≤ hi)
theorem l1In_any (n lo hi : Int) (w : World) :
    Calls Tryd.prog 75 #[.int .i64 n, .int .i64 lo, .int .i64 hi] w fun e w' => e = .returned (.bool (inB n lo hi)) ∧ w = w' := by
  unfold inB
  by_cases h1 : lo ≤ n
  · go_enter Tryd.func75, Tryd.ntmps75
    go_wp2
    go_ret
    simp [h1]
  · go_enter Tryd.func75, Tryd.ntmps75
    go_wp2
    go_ret
    simp; omega
theorem l2Reg_any (n : Int) (w : World) :
    Calls Tryd.prog 76 #[.int .i64 n] w fun e w' => e = .returned (.bool (inB n 0 7)) ∧ w = w' := by
  go_enter Tryd.func76, Tryd.ntmps76
  go_wp2_with (go_at_call 75; refine (l1In_any _ _ _ _).mono ?_; rintro e w' ⟨rfl, rfl⟩)
  go_ret
  exact ⟨rfl, rfl⟩

/-- What a number's kind has; of what is no kind nothing. -/
def kNo (k : Int) : Nat := if 0 ≤ k ∧ k < 16 then k.toNat else 16
theorem kd_16 : kd 16 = false ∧ ka 16 = false ∧ kb 16 = false ∧ kp 16 = 0 ∧ kw 16 = 0 := by decide
theorem kNo_nat (i : Nat) (h : i < 16) : kNo i = i := by unfold kNo; rw [if_pos (by omega)]; rfl
set_option maxHeartbeats 2000000 in
theorem l2Has_any (k : Int) (w : World) :
    Calls Tryd.prog 64 #[.int .i64 k] w fun e w' => e = .returned (.tuple #[.bool (kd (kNo k)), .bool (ka (kNo k)), .bool (kb (kNo k)), .bool (decide (0 < kp (kNo k))), .int .i64 (kw (kNo k) : Int)]) ∧ w = w' := by
  by_cases h : 0 ≤ k ∧ k < 16
  · obtain ⟨i, rfl⟩ := Int.eq_ofNat_of_zero_le h.1
    have hi : i < 16 := by omega
    clear h
    rw [kNo_nat i hi]
    have hc : i = 0 ∨ i = 1 ∨ i = 2 ∨ i = 3 ∨ i = 4 ∨ i = 5 ∨ i = 6 ∨ i = 7 ∨ i = 8 ∨ i = 9 ∨ i = 10 ∨ i = 11 ∨ i = 12 ∨ i = 13 ∨ i = 14 ∨ i = 15 := by omega
    rcases hc with rfl | rfl | rfl | rfl | rfl | rfl | rfl | rfl | rfl | rfl | rfl | rfl | rfl | rfl | rfl | rfl
    all_goals
      go_enter Tryd.func64, Tryd.ntmps64
      go_wp2
      refine bodyPost_ret (by simp [results, Tryd.results64, go_sem]; rfl) rfl ⟨?_, rfl⟩
      first | rfl | (simp [kd, ka, kb, kp, kw, kRow, kTab]; done)
  · have e : kNo k = 16 := by unfold kNo; rw [if_neg h]
    rw [e]
    have n0 : (k == 0) = false := by simp; omega
    have n1 : (k == 1) = false := by simp; omega
    have n2 : (k == 2) = false := by simp; omega
    have n3 : (k == 3) = false := by simp; omega
    have n4 : (k == 4) = false := by simp; omega
    have n5 : (k == 5) = false := by simp; omega
    have n6 : (k == 6) = false := by simp; omega
    have n7 : (k == 7) = false := by simp; omega
    have n8 : (k == 8) = false := by simp; omega
    have n9 : (k == 9) = false := by simp; omega
    have n10 : (k == 10) = false := by simp; omega
    have n12 : (k == 12) = false := by simp; omega
    have n14 : (k == 14) = false := by simp; omega
    have n15 : (k == 15) = false := by simp; omega
    clear h e
    go_enter Tryd.func64, Tryd.ntmps64
    go_wp2
    refine bodyPost_ret (by simp [results, Tryd.results64, go_sem]; rfl) rfl ⟨?_, rfl⟩
    rfl

theorem sixteen {i : Nat} (h : i < 16) : i = 0 ∨ i = 1 ∨ i = 2 ∨ i = 3 ∨ i = 4 ∨ i = 5 ∨ i = 6 ∨ i = 7 ∨ i = 8 ∨ i = 9 ∨ i = 10 ∨ i = 11 ∨ i = 12 ∨ i = 13 ∨ i = 14 ∨ i = 15 := by omega
theorem l1In_q (n lo hi : Int) (w : World) :
    Calls Tryd.prog 75 #[.int .i64 n, .int .i64 lo, .int .i64 hi] w fun e w' => e = .returned (.bool (inB n lo hi)) ∧ w' = w :=
  (l1In_any n lo hi w).mono fun _ _ h => ⟨h.1, h.2.symm⟩
theorem l2Num_none (k n : Int) (w : World) :
    Calls Tryd.prog 77 #[.int .i64 k, .int .i64 n, .int .i64 0] w fun e w' => e = .returned (.bool (n == 0)) ∧ w' = w := by
  go_enter Tryd.func77, Tryd.ntmps77
  go_wp2
  go_ret
  exact ⟨rfl, rfl⟩
set_option maxHeartbeats 1000000 in
theorem l2Num_sys (k n b : Int) (w : World) (hk : k = 2 ∨ k = 12) (hb : b = 6 ∨ b = 9) :
    Calls Tryd.prog 77 #[.int .i64 k, .int .i64 n, .int .i64 b] w fun e w' => e = .returned (.bool (inB n 0 (2 ^ b.toNat - 1))) ∧ w' = w := by
  rcases hk with rfl | rfl <;> rcases hb with rfl | rfl
  all_goals
    go_enter Tryd.func77, Tryd.ntmps77
    go_wp2_with (go_at_call 75; refine (l1In_any _ _ _ _).mono ?_; rintro e w' ⟨rfl, rfl⟩)
    go_ret
    exact ⟨rfl, rfl⟩
def NumP (b n : Int) (w : World) (e : Ending) (w' : World) : Prop := e = .returned (.bool (inB n (-(2 ^ (b.toNat - 1))) (2 ^ (b.toNat - 1) - 1))) ∧ ∃ m, w' = w.drewN m
set_option maxHeartbeats 1000000 in
theorem l2Num_sgn (k n b : Int) (w : World) (h2 : (k == 2) = false) (h12 : (k == 12) = false) (hb : b = 6 ∨ b = 9) :
    Calls Tryd.prog 77 #[.int .i64 k, .int .i64 n, .int .i64 b] w (NumP b n w) := by
  rcases hb with rfl | rfl
  all_goals
    go_enter Tryd.func77, Tryd.ntmps77
    go_wp2_with fail
    go_quiet ((go_at_call 75; exact Calls.quiet_of_same (l1In_q _ _ _ _)))
    go_wp2
    go_ret
    exact ⟨rfl, _, rfl⟩
def NumQ (i : Nat) (n : Int) (w : World) (e : Ending) (w' : World) : Prop := e = .returned (.bool (numB (kw i) (ks i) n)) ∧ ∃ m, w' = w.drewN m
theorem num0 (b : Bool) (n : Int) : numB 0 b n = (n == 0) := by simp [numB]
theorem numU9 (n : Int) : numB 9 false n = inB n 0 511 := by rw [Bool.eq_iff_iff]; simp [numB, inB]; omega
theorem numS6 (n : Int) : numB 6 true n = inB n (-32) 31 := by rw [Bool.eq_iff_iff]; simp [numB, inB]; omega
theorem numS9 (n : Int) : numB 9 true n = inB n (-256) 255 := by rw [Bool.eq_iff_iff]; simp [numB, inB]; omega
theorem num_ways (i : Nat) (h : i < 16) : kw i = 0 ∨ (kw i = 9 ∧ ks i = false ∧ (i = 2 ∨ i = 12)) ∨ (kw i = 6 ∧ ks i = true ∧ i ≠ 2 ∧ i ≠ 12) ∨ (kw i = 9 ∧ ks i = true ∧ i ≠ 2 ∧ i ≠ 12) := by
  have : ∀ k : Fin 16, kw k = 0 ∨ (kw k = 9 ∧ ks k = false ∧ (k.1 = 2 ∨ k.1 = 12)) ∨ (kw k = 6 ∧ ks k = true ∧ k.1 ≠ 2 ∧ k.1 ≠ 12) ∨ (kw k = 9 ∧ ks k = true ∧ k.1 ≠ 2 ∧ k.1 ≠ 12) := by decide
  exact this ⟨i, h⟩
theorem l2Num_any (i : Nat) (n : Int) (w : World) (hi : i < 16) :
    Calls Tryd.prog 77 #[.int .i64 (i : Int), .int .i64 n, .int .i64 (kw i : Int)] w (NumQ i n w) := by
  unfold NumQ
  rcases num_ways i hi with h | ⟨h, hs, hk⟩ | ⟨h, hs, h2, h12⟩ | ⟨h, hs, h2, h12⟩
  · rw [h, num0]
    exact (l2Num_none _ n w).mono fun e w' h => ⟨h.1, 0, h.2⟩
  · rw [h, hs, numU9]
    exact (l2Num_sys _ n 9 w (by omega) (by decide)).mono fun e w' h => ⟨h.1, 0, h.2⟩
  · rw [h, hs, numS6]
    exact (l2Num_sgn _ n 6 w (by simp; omega) (by simp; omega) (by decide)).mono fun e w' h => h
  · rw [h, hs, numS9]
    exact (l2Num_sgn _ n 9 w (by simp; omega) (by simp; omega) (by decide)).mono fun e w' h => h

def geSet (i : Nat) : Bool := decide (i = 14 ∨ i = 15)
def topOf (i : Nat) : Int := if i = 14 ∨ i = 15 then 4 else if 0 < kp i then 7 else 0
def topF (i : Nat) : Int := if 0 < kp i then 7 else 0
theorem topOf_eq (i : Nat) (f : Int) (h : i < 16) : inB f 0 (topOf i) = fld (decide (0 < kp i)) f (kp i) := by
  have hh : ∀ k : Fin 16, (topOf k = 0 ∧ kp k = 0) ∨ (topOf k = 7 ∧ kp k = 8) ∨ (topOf k = 4 ∧ kp k = 5) := by decide
  rcases hh ⟨i, h⟩ with ⟨h1, h2⟩ | ⟨h1, h2⟩ | ⟨h1, h2⟩
  all_goals
    dsimp only at h1 h2
    rw [h1, h2, Bool.eq_iff_iff]
    simp [inB, fld]
    try omega
theorem fld_eq (has : Bool) (x : Int) : ((x == 0) || (has && inB x 0 7)) = fld has x 8 := by
  rw [Bool.eq_iff_iff]; cases has <;> simp [inB, fld] <;> omega

theorem four_ways (x : Int) (h : Bool) : (((x == 0) = true) ∧ True) ∨ ((x == 0) = false ∧ h = true ∧ inB x 0 7 = true) ∨ ((x == 0) = false ∧ h = true ∧ inB x 0 7 = false) ∨ ((x == 0) = false ∧ h = false) := by
  cases (x == 0) <;> cases h <;> cases inB x 0 7 <;> simp

set_option maxRecDepth 100000 in
set_option maxHeartbeats 40000000 in
theorem spec_CodOk_any (k d a b f n : Int) (w : World) :
    Calls Tryd.prog 24 #[.agg #[.int .i64 k, .int .i64 d, .int .i64 a, .int .i64 b, .int .i64 f, .int .i64 n]] w fun e w' => e = .returned (.bool (codOk k d a b f n)) ∧ Gr w w' := by
  by_cases hk : 0 ≤ k ∧ k < 16
  · obtain ⟨i, rfl⟩ := Int.eq_ofNat_of_zero_le hk.1
    have hi : i < 16 := by omega
    have e0 : inB (i : Int) 0 15 = true := by simp [inB]; omega
    have HR : Hid (codOk i d a b f n = (fld (kd i) d 8 && fld (ka i) a 8 && fld (kb i) b 8 && fld (decide (0 < kp i)) f (kp i) && numB (kw i) (ks i) n)) := by
      show codOk i d a b f n = _
      simp [codOk]; omega
    have HT := Lib.hid (topOf_eq i f hi)
    have HD := Lib.hid (fld_eq (kd i) d)
    have HA := Lib.hid (fld_eq (ka i) a)
    have HB := Lib.hid (fld_eq (kb i) b)
    clear hk
    go_enter Tryd.func24, Tryd.ntmps24
    go_wp2_with fail
    refine (l1In_any _ _ _ _).mono ?_; rintro _ _ ⟨rfl, rfl⟩
    go_wp2_with fail
    refine (l2Has_any _ _).mono ?_; rintro _ _ ⟨rfl, rfl⟩
    rw [kNo_nat i hi]
    go_upto_if 22 with (fail)
    go_cut [8] (fun s8 wx => s8 = .int .i64 (topF i) ∧ wx = (w.alloc (.cells #[.int .i64 (i : Int), .int .i64 d, .int .i64 a, .int .i64 b, .int .i64 f, .int .i64 n] 25)))
    case first =>
      by_cases hp : 0 < kp i
      all_goals
        go_wp2_with fail
        go_meet
        exact ⟨by simp [topF, hp], rfl⟩
    case rest =>
      obtain ⟨rfl, rfl⟩ := hcut
      go_upto_region 7 with (fail)
      go_cut [30] (fun s30 wx => s30 = .bool (geSet i) ∧ wx = (w.alloc (.cells #[.int .i64 (i : Int), .int .i64 d, .int .i64 a, .int .i64 b, .int .i64 f, .int .i64 n] 25)))
      case first =>
        by_cases h14 : ((i : Int) == 14) = true
        · go_wp2_with fail
          go_meet
          exact ⟨by simp [geSet] at h14 ⊢; omega, rfl⟩
        · have h14 : ((i : Int) == 14) = false := by simpa using h14
          go_wp2_with fail
          go_meet
          exact ⟨by simp [geSet] at h14 ⊢; rw [Bool.eq_iff_iff]; simp; omega, rfl⟩
      case rest =>
        obtain ⟨rfl, rfl⟩ := hcut
        go_upto_if 30 with (fail)
        go_cut [8] (fun s8 wx => s8 = .int .i64 (topOf i) ∧ wx = (w.alloc (.cells #[.int .i64 (i : Int), .int .i64 d, .int .i64 a, .int .i64 b, .int .i64 f, .int .i64 n] 25)))
        case first =>
          by_cases h14 : geSet i = true
          · go_wp2_with fail
            go_meet
            exact ⟨by simp [geSet] at h14; simp [topOf, h14], rfl⟩
            rename_i q; rw [h14] at q; cases q
          · have h14 : geSet i = false := by simpa using h14
            go_wp2_with fail
            go_meet
            exact ⟨by simp [geSet] at h14; simp [topOf, topF, h14], rfl⟩
        case rest =>
          obtain ⟨rfl, rfl⟩ := hcut
          go_upto_region 9 with (fail)
          rcases four_ways d (kd i) with ⟨d1, d2⟩ | ⟨d1, d2, d3⟩ | ⟨d1, d2, d3⟩ | ⟨d1, d2⟩
          · clear d2
            rcases four_ways a (ka i) with ⟨a1, a2⟩ | ⟨a1, a2, a3⟩ | ⟨a1, a2, a3⟩ | ⟨a1, a2⟩
            · clear a2
              rcases four_ways b (kb i) with ⟨b1, b2⟩ | ⟨b1, b2, b3⟩ | ⟨b1, b2, b3⟩ | ⟨b1, b2⟩
              · clear b2
                by_cases hf : inB f 0 (topOf i) = true
                · skip
                  have V := Lib.hid (show codOk (i : Int) d a b f n = numB (kw i) (ks i) n by rw [HR.out, ← HD.out, ← HA.out, ← HB.out, ← HT.out]; simp [d1, a1, b1, hf])
                  clear HR HT HD HA HB
                  go_wp2_with (first | (go_at_call 76; (with_reducible refine (l2Reg_any _ _).mono ?_); rintro _ _ ⟨rfl, rfl⟩) | (go_at_call 75; (with_reducible refine (l1In_any _ _ _ _).mono ?_); rintro _ _ ⟨rfl, rfl⟩) | (go_at_call 77; (with_reducible refine (l2Num_any _ _ _ hi).mono ?_); rintro e w' ⟨rfl, m, rfl⟩))
                  go_ret
                  refine ⟨by rw [V.out]; rfl, ?_⟩
                  exact (Gr.alloc (Gr.refl _) _).drewN _
                · have hf : inB f 0 (topOf i) = false := by simpa using hf
                  have V := Lib.hid (show codOk (i : Int) d a b f n = false by rw [HR.out, ← HD.out, ← HA.out, ← HB.out, ← HT.out]; simp [d1, a1, b1, hf])
                  clear HR HT HD HA HB
                  go_wp2_with (first | (go_at_call 76; (with_reducible refine (l2Reg_any _ _).mono ?_); rintro _ _ ⟨rfl, rfl⟩) | (go_at_call 75; (with_reducible refine (l1In_any _ _ _ _).mono ?_); rintro _ _ ⟨rfl, rfl⟩) | (go_at_call 77; (with_reducible refine (l2Num_any _ _ _ hi).mono ?_); rintro e w' ⟨rfl, m, rfl⟩))
                  go_ret
                  refine ⟨by rw [V.out]; rfl, ?_⟩
                  exact Gr.alloc (Gr.refl _) _
              · skip
                by_cases hf : inB f 0 (topOf i) = true
                · skip
                  have V := Lib.hid (show codOk (i : Int) d a b f n = numB (kw i) (ks i) n by rw [HR.out, ← HD.out, ← HA.out, ← HB.out, ← HT.out]; simp [d1, a1, b1, b2, b3, hf])
                  clear HR HT HD HA HB
                  go_wp2_with (first | (go_at_call 76; (with_reducible refine (l2Reg_any _ _).mono ?_); rintro _ _ ⟨rfl, rfl⟩) | (go_at_call 75; (with_reducible refine (l1In_any _ _ _ _).mono ?_); rintro _ _ ⟨rfl, rfl⟩) | (go_at_call 77; (with_reducible refine (l2Num_any _ _ _ hi).mono ?_); rintro e w' ⟨rfl, m, rfl⟩))
                  go_ret
                  refine ⟨by rw [V.out]; rfl, ?_⟩
                  exact (Gr.alloc (Gr.refl _) _).drewN _
                · have hf : inB f 0 (topOf i) = false := by simpa using hf
                  have V := Lib.hid (show codOk (i : Int) d a b f n = false by rw [HR.out, ← HD.out, ← HA.out, ← HB.out, ← HT.out]; simp [d1, a1, b1, b2, b3, hf])
                  clear HR HT HD HA HB
                  go_wp2_with (first | (go_at_call 76; (with_reducible refine (l2Reg_any _ _).mono ?_); rintro _ _ ⟨rfl, rfl⟩) | (go_at_call 75; (with_reducible refine (l1In_any _ _ _ _).mono ?_); rintro _ _ ⟨rfl, rfl⟩) | (go_at_call 77; (with_reducible refine (l2Num_any _ _ _ hi).mono ?_); rintro e w' ⟨rfl, m, rfl⟩))
                  go_ret
                  refine ⟨by rw [V.out]; rfl, ?_⟩
                  exact Gr.alloc (Gr.refl _) _
              · skip
                have V := Lib.hid (show codOk (i : Int) d a b f n = false by rw [HR.out, ← HD.out, ← HA.out, ← HB.out, ← HT.out]; simp [d1, a1, b1, b2, b3])
                clear HR HT HD HA HB
                go_wp2_with (first | (go_at_call 76; (with_reducible refine (l2Reg_any _ _).mono ?_); rintro _ _ ⟨rfl, rfl⟩) | (go_at_call 75; (with_reducible refine (l1In_any _ _ _ _).mono ?_); rintro _ _ ⟨rfl, rfl⟩) | (go_at_call 77; (with_reducible refine (l2Num_any _ _ _ hi).mono ?_); rintro e w' ⟨rfl, m, rfl⟩))
                go_ret
                refine ⟨by rw [V.out]; rfl, ?_⟩
                exact Gr.alloc (Gr.refl _) _
              · skip
                have V := Lib.hid (show codOk (i : Int) d a b f n = false by rw [HR.out, ← HD.out, ← HA.out, ← HB.out, ← HT.out]; simp [d1, a1, b1, b2])
                clear HR HT HD HA HB
                go_wp2_with (first | (go_at_call 76; (with_reducible refine (l2Reg_any _ _).mono ?_); rintro _ _ ⟨rfl, rfl⟩) | (go_at_call 75; (with_reducible refine (l1In_any _ _ _ _).mono ?_); rintro _ _ ⟨rfl, rfl⟩) | (go_at_call 77; (with_reducible refine (l2Num_any _ _ _ hi).mono ?_); rintro e w' ⟨rfl, m, rfl⟩))
                go_ret
                refine ⟨by rw [V.out]; rfl, ?_⟩
                exact Gr.alloc (Gr.refl _) _
            · skip
              rcases four_ways b (kb i) with ⟨b1, b2⟩ | ⟨b1, b2, b3⟩ | ⟨b1, b2, b3⟩ | ⟨b1, b2⟩
              · clear b2
                by_cases hf : inB f 0 (topOf i) = true
                · skip
                  have V := Lib.hid (show codOk (i : Int) d a b f n = numB (kw i) (ks i) n by rw [HR.out, ← HD.out, ← HA.out, ← HB.out, ← HT.out]; simp [d1, a1, a2, a3, b1, hf])
                  clear HR HT HD HA HB
                  go_wp2_with (first | (go_at_call 76; (with_reducible refine (l2Reg_any _ _).mono ?_); rintro _ _ ⟨rfl, rfl⟩) | (go_at_call 75; (with_reducible refine (l1In_any _ _ _ _).mono ?_); rintro _ _ ⟨rfl, rfl⟩) | (go_at_call 77; (with_reducible refine (l2Num_any _ _ _ hi).mono ?_); rintro e w' ⟨rfl, m, rfl⟩))
                  go_ret
                  refine ⟨by rw [V.out]; rfl, ?_⟩
                  exact (Gr.alloc (Gr.refl _) _).drewN _
                · have hf : inB f 0 (topOf i) = false := by simpa using hf
                  have V := Lib.hid (show codOk (i : Int) d a b f n = false by rw [HR.out, ← HD.out, ← HA.out, ← HB.out, ← HT.out]; simp [d1, a1, a2, a3, b1, hf])
                  clear HR HT HD HA HB
                  go_wp2_with (first | (go_at_call 76; (with_reducible refine (l2Reg_any _ _).mono ?_); rintro _ _ ⟨rfl, rfl⟩) | (go_at_call 75; (with_reducible refine (l1In_any _ _ _ _).mono ?_); rintro _ _ ⟨rfl, rfl⟩) | (go_at_call 77; (with_reducible refine (l2Num_any _ _ _ hi).mono ?_); rintro e w' ⟨rfl, m, rfl⟩))
                  go_ret
                  refine ⟨by rw [V.out]; rfl, ?_⟩
                  exact Gr.alloc (Gr.refl _) _
              · skip
                by_cases hf : inB f 0 (topOf i) = true
                · skip
                  have V := Lib.hid (show codOk (i : Int) d a b f n = numB (kw i) (ks i) n by rw [HR.out, ← HD.out, ← HA.out, ← HB.out, ← HT.out]; simp [d1, a1, a2, a3, b1, b2, b3, hf])
                  clear HR HT HD HA HB
                  go_wp2_with (first | (go_at_call 76; (with_reducible refine (l2Reg_any _ _).mono ?_); rintro _ _ ⟨rfl, rfl⟩) | (go_at_call 75; (with_reducible refine (l1In_any _ _ _ _).mono ?_); rintro _ _ ⟨rfl, rfl⟩) | (go_at_call 77; (with_reducible refine (l2Num_any _ _ _ hi).mono ?_); rintro e w' ⟨rfl, m, rfl⟩))
                  go_ret
                  refine ⟨by rw [V.out]; rfl, ?_⟩
                  exact (Gr.alloc (Gr.refl _) _).drewN _
                · have hf : inB f 0 (topOf i) = false := by simpa using hf
                  have V := Lib.hid (show codOk (i : Int) d a b f n = false by rw [HR.out, ← HD.out, ← HA.out, ← HB.out, ← HT.out]; simp [d1, a1, a2, a3, b1, b2, b3, hf])
                  clear HR HT HD HA HB
                  go_wp2_with (first | (go_at_call 76; (with_reducible refine (l2Reg_any _ _).mono ?_); rintro _ _ ⟨rfl, rfl⟩) | (go_at_call 75; (with_reducible refine (l1In_any _ _ _ _).mono ?_); rintro _ _ ⟨rfl, rfl⟩) | (go_at_call 77; (with_reducible refine (l2Num_any _ _ _ hi).mono ?_); rintro e w' ⟨rfl, m, rfl⟩))
                  go_ret
                  refine ⟨by rw [V.out]; rfl, ?_⟩
                  exact Gr.alloc (Gr.refl _) _
              · skip
                have V := Lib.hid (show codOk (i : Int) d a b f n = false by rw [HR.out, ← HD.out, ← HA.out, ← HB.out, ← HT.out]; simp [d1, a1, a2, a3, b1, b2, b3])
                clear HR HT HD HA HB
                go_wp2_with (first | (go_at_call 76; (with_reducible refine (l2Reg_any _ _).mono ?_); rintro _ _ ⟨rfl, rfl⟩) | (go_at_call 75; (with_reducible refine (l1In_any _ _ _ _).mono ?_); rintro _ _ ⟨rfl, rfl⟩) | (go_at_call 77; (with_reducible refine (l2Num_any _ _ _ hi).mono ?_); rintro e w' ⟨rfl, m, rfl⟩))
                go_ret
                refine ⟨by rw [V.out]; rfl, ?_⟩
                exact Gr.alloc (Gr.refl _) _
              · skip
                have V := Lib.hid (show codOk (i : Int) d a b f n = false by rw [HR.out, ← HD.out, ← HA.out, ← HB.out, ← HT.out]; simp [d1, a1, a2, a3, b1, b2])
                clear HR HT HD HA HB
                go_wp2_with (first | (go_at_call 76; (with_reducible refine (l2Reg_any _ _).mono ?_); rintro _ _ ⟨rfl, rfl⟩) | (go_at_call 75; (with_reducible refine (l1In_any _ _ _ _).mono ?_); rintro _ _ ⟨rfl, rfl⟩) | (go_at_call 77; (with_reducible refine (l2Num_any _ _ _ hi).mono ?_); rintro e w' ⟨rfl, m, rfl⟩))
                go_ret
                refine ⟨by rw [V.out]; rfl, ?_⟩
                exact Gr.alloc (Gr.refl _) _
            · skip
              have V := Lib.hid (show codOk (i : Int) d a b f n = false by rw [HR.out, ← HD.out, ← HA.out, ← HB.out, ← HT.out]; simp [d1, a1, a2, a3])
              clear HR HT HD HA HB
              go_wp2_with (first | (go_at_call 76; (with_reducible refine (l2Reg_any _ _).mono ?_); rintro _ _ ⟨rfl, rfl⟩) | (go_at_call 75; (with_reducible refine (l1In_any _ _ _ _).mono ?_); rintro _ _ ⟨rfl, rfl⟩) | (go_at_call 77; (with_reducible refine (l2Num_any _ _ _ hi).mono ?_); rintro e w' ⟨rfl, m, rfl⟩))
              go_ret
              refine ⟨by rw [V.out]; rfl, ?_⟩
              exact Gr.alloc (Gr.refl _) _
            · skip
              have V := Lib.hid (show codOk (i : Int) d a b f n = false by rw [HR.out, ← HD.out, ← HA.out, ← HB.out, ← HT.out]; simp [d1, a1, a2])
              clear HR HT HD HA HB
              go_wp2_with (first | (go_at_call 76; (with_reducible refine (l2Reg_any _ _).mono ?_); rintro _ _ ⟨rfl, rfl⟩) | (go_at_call 75; (with_reducible refine (l1In_any _ _ _ _).mono ?_); rintro _ _ ⟨rfl, rfl⟩) | (go_at_call 77; (with_reducible refine (l2Num_any _ _ _ hi).mono ?_); rintro e w' ⟨rfl, m, rfl⟩))
              go_ret
              refine ⟨by rw [V.out]; rfl, ?_⟩
              exact Gr.alloc (Gr.refl _) _
          · skip
            rcases four_ways a (ka i) with ⟨a1, a2⟩ | ⟨a1, a2, a3⟩ | ⟨a1, a2, a3⟩ | ⟨a1, a2⟩
            · clear a2
              rcases four_ways b (kb i) with ⟨b1, b2⟩ | ⟨b1, b2, b3⟩ | ⟨b1, b2, b3⟩ | ⟨b1, b2⟩
              · clear b2
                by_cases hf : inB f 0 (topOf i) = true
                · skip
                  have V := Lib.hid (show codOk (i : Int) d a b f n = numB (kw i) (ks i) n by rw [HR.out, ← HD.out, ← HA.out, ← HB.out, ← HT.out]; simp [d1, d2, d3, a1, b1, hf])
                  clear HR HT HD HA HB
                  go_wp2_with (first | (go_at_call 76; (with_reducible refine (l2Reg_any _ _).mono ?_); rintro _ _ ⟨rfl, rfl⟩) | (go_at_call 75; (with_reducible refine (l1In_any _ _ _ _).mono ?_); rintro _ _ ⟨rfl, rfl⟩) | (go_at_call 77; (with_reducible refine (l2Num_any _ _ _ hi).mono ?_); rintro e w' ⟨rfl, m, rfl⟩))
                  go_ret
                  refine ⟨by rw [V.out]; rfl, ?_⟩
                  exact (Gr.alloc (Gr.refl _) _).drewN _
                · have hf : inB f 0 (topOf i) = false := by simpa using hf
                  have V := Lib.hid (show codOk (i : Int) d a b f n = false by rw [HR.out, ← HD.out, ← HA.out, ← HB.out, ← HT.out]; simp [d1, d2, d3, a1, b1, hf])
                  clear HR HT HD HA HB
                  go_wp2_with (first | (go_at_call 76; (with_reducible refine (l2Reg_any _ _).mono ?_); rintro _ _ ⟨rfl, rfl⟩) | (go_at_call 75; (with_reducible refine (l1In_any _ _ _ _).mono ?_); rintro _ _ ⟨rfl, rfl⟩) | (go_at_call 77; (with_reducible refine (l2Num_any _ _ _ hi).mono ?_); rintro e w' ⟨rfl, m, rfl⟩))
                  go_ret
                  refine ⟨by rw [V.out]; rfl, ?_⟩
                  exact Gr.alloc (Gr.refl _) _
              · skip
                by_cases hf : inB f 0 (topOf i) = true
                · skip
                  have V := Lib.hid (show codOk (i : Int) d a b f n = numB (kw i) (ks i) n by rw [HR.out, ← HD.out, ← HA.out, ← HB.out, ← HT.out]; simp [d1, d2, d3, a1, b1, b2, b3, hf])
                  clear HR HT HD HA HB
                  go_wp2_with (first | (go_at_call 76; (with_reducible refine (l2Reg_any _ _).mono ?_); rintro _ _ ⟨rfl, rfl⟩) | (go_at_call 75; (with_reducible refine (l1In_any _ _ _ _).mono ?_); rintro _ _ ⟨rfl, rfl⟩) | (go_at_call 77; (with_reducible refine (l2Num_any _ _ _ hi).mono ?_); rintro e w' ⟨rfl, m, rfl⟩))
                  go_ret
                  refine ⟨by rw [V.out]; rfl, ?_⟩
                  exact (Gr.alloc (Gr.refl _) _).drewN _
                · have hf : inB f 0 (topOf i) = false := by simpa using hf
                  have V := Lib.hid (show codOk (i : Int) d a b f n = false by rw [HR.out, ← HD.out, ← HA.out, ← HB.out, ← HT.out]; simp [d1, d2, d3, a1, b1, b2, b3, hf])
                  clear HR HT HD HA HB
                  go_wp2_with (first | (go_at_call 76; (with_reducible refine (l2Reg_any _ _).mono ?_); rintro _ _ ⟨rfl, rfl⟩) | (go_at_call 75; (with_reducible refine (l1In_any _ _ _ _).mono ?_); rintro _ _ ⟨rfl, rfl⟩) | (go_at_call 77; (with_reducible refine (l2Num_any _ _ _ hi).mono ?_); rintro e w' ⟨rfl, m, rfl⟩))
                  go_ret
                  refine ⟨by rw [V.out]; rfl, ?_⟩
                  exact Gr.alloc (Gr.refl _) _
              · skip
                have V := Lib.hid (show codOk (i : Int) d a b f n = false by rw [HR.out, ← HD.out, ← HA.out, ← HB.out, ← HT.out]; simp [d1, d2, d3, a1, b1, b2, b3])
                clear HR HT HD HA HB
                go_wp2_with (first | (go_at_call 76; (with_reducible refine (l2Reg_any _ _).mono ?_); rintro _ _ ⟨rfl, rfl⟩) | (go_at_call 75; (with_reducible refine (l1In_any _ _ _ _).mono ?_); rintro _ _ ⟨rfl, rfl⟩) | (go_at_call 77; (with_reducible refine (l2Num_any _ _ _ hi).mono ?_); rintro e w' ⟨rfl, m, rfl⟩))
                go_ret
                refine ⟨by rw [V.out]; rfl, ?_⟩
                exact Gr.alloc (Gr.refl _) _
              · skip
                have V := Lib.hid (show codOk (i : Int) d a b f n = false by rw [HR.out, ← HD.out, ← HA.out, ← HB.out, ← HT.out]; simp [d1, d2, d3, a1, b1, b2])
                clear HR HT HD HA HB
                go_wp2_with (first | (go_at_call 76; (with_reducible refine (l2Reg_any _ _).mono ?_); rintro _ _ ⟨rfl, rfl⟩) | (go_at_call 75; (with_reducible refine (l1In_any _ _ _ _).mono ?_); rintro _ _ ⟨rfl, rfl⟩) | (go_at_call 77; (with_reducible refine (l2Num_any _ _ _ hi).mono ?_); rintro e w' ⟨rfl, m, rfl⟩))
                go_ret
                refine ⟨by rw [V.out]; rfl, ?_⟩
                exact Gr.alloc (Gr.refl _) _
            · skip
              rcases four_ways b (kb i) with ⟨b1, b2⟩ | ⟨b1, b2, b3⟩ | ⟨b1, b2, b3⟩ | ⟨b1, b2⟩
              · clear b2
                by_cases hf : inB f 0 (topOf i) = true
                · skip
                  have V := Lib.hid (show codOk (i : Int) d a b f n = numB (kw i) (ks i) n by rw [HR.out, ← HD.out, ← HA.out, ← HB.out, ← HT.out]; simp [d1, d2, d3, a1, a2, a3, b1, hf])
                  clear HR HT HD HA HB
                  go_wp2_with (first | (go_at_call 76; (with_reducible refine (l2Reg_any _ _).mono ?_); rintro _ _ ⟨rfl, rfl⟩) | (go_at_call 75; (with_reducible refine (l1In_any _ _ _ _).mono ?_); rintro _ _ ⟨rfl, rfl⟩) | (go_at_call 77; (with_reducible refine (l2Num_any _ _ _ hi).mono ?_); rintro e w' ⟨rfl, m, rfl⟩))
                  go_ret
                  refine ⟨by rw [V.out]; rfl, ?_⟩
                  exact (Gr.alloc (Gr.refl _) _).drewN _
                · have hf : inB f 0 (topOf i) = false := by simpa using hf
                  have V := Lib.hid (show codOk (i : Int) d a b f n = false by rw [HR.out, ← HD.out, ← HA.out, ← HB.out, ← HT.out]; simp [d1, d2, d3, a1, a2, a3, b1, hf])
                  clear HR HT HD HA HB
                  go_wp2_with (first | (go_at_call 76; (with_reducible refine (l2Reg_any _ _).mono ?_); rintro _ _ ⟨rfl, rfl⟩) | (go_at_call 75; (with_reducible refine (l1In_any _ _ _ _).mono ?_); rintro _ _ ⟨rfl, rfl⟩) | (go_at_call 77; (with_reducible refine (l2Num_any _ _ _ hi).mono ?_); rintro e w' ⟨rfl, m, rfl⟩))
                  go_ret
                  refine ⟨by rw [V.out]; rfl, ?_⟩
                  exact Gr.alloc (Gr.refl _) _
              · skip
                by_cases hf : inB f 0 (topOf i) = true
                · skip
                  have V := Lib.hid (show codOk (i : Int) d a b f n = numB (kw i) (ks i) n by rw [HR.out, ← HD.out, ← HA.out, ← HB.out, ← HT.out]; simp [d1, d2, d3, a1, a2, a3, b1, b2, b3, hf])
                  clear HR HT HD HA HB
                  go_wp2_with (first | (go_at_call 76; (with_reducible refine (l2Reg_any _ _).mono ?_); rintro _ _ ⟨rfl, rfl⟩) | (go_at_call 75; (with_reducible refine (l1In_any _ _ _ _).mono ?_); rintro _ _ ⟨rfl, rfl⟩) | (go_at_call 77; (with_reducible refine (l2Num_any _ _ _ hi).mono ?_); rintro e w' ⟨rfl, m, rfl⟩))
                  go_ret
                  refine ⟨by rw [V.out]; rfl, ?_⟩
                  exact (Gr.alloc (Gr.refl _) _).drewN _
                · have hf : inB f 0 (topOf i) = false := by simpa using hf
                  have V := Lib.hid (show codOk (i : Int) d a b f n = false by rw [HR.out, ← HD.out, ← HA.out, ← HB.out, ← HT.out]; simp [d1, d2, d3, a1, a2, a3, b1, b2, b3, hf])
                  clear HR HT HD HA HB
                  go_wp2_with (first | (go_at_call 76; (with_reducible refine (l2Reg_any _ _).mono ?_); rintro _ _ ⟨rfl, rfl⟩) | (go_at_call 75; (with_reducible refine (l1In_any _ _ _ _).mono ?_); rintro _ _ ⟨rfl, rfl⟩) | (go_at_call 77; (with_reducible refine (l2Num_any _ _ _ hi).mono ?_); rintro e w' ⟨rfl, m, rfl⟩))
                  go_ret
                  refine ⟨by rw [V.out]; rfl, ?_⟩
                  exact Gr.alloc (Gr.refl _) _
              · skip
                have V := Lib.hid (show codOk (i : Int) d a b f n = false by rw [HR.out, ← HD.out, ← HA.out, ← HB.out, ← HT.out]; simp [d1, d2, d3, a1, a2, a3, b1, b2, b3])
                clear HR HT HD HA HB
                go_wp2_with (first | (go_at_call 76; (with_reducible refine (l2Reg_any _ _).mono ?_); rintro _ _ ⟨rfl, rfl⟩) | (go_at_call 75; (with_reducible refine (l1In_any _ _ _ _).mono ?_); rintro _ _ ⟨rfl, rfl⟩) | (go_at_call 77; (with_reducible refine (l2Num_any _ _ _ hi).mono ?_); rintro e w' ⟨rfl, m, rfl⟩))
                go_ret
                refine ⟨by rw [V.out]; rfl, ?_⟩
                exact Gr.alloc (Gr.refl _) _
              · skip
                have V := Lib.hid (show codOk (i : Int) d a b f n = false by rw [HR.out, ← HD.out, ← HA.out, ← HB.out, ← HT.out]; simp [d1, d2, d3, a1, a2, a3, b1, b2])
                clear HR HT HD HA HB
                go_wp2_with (first | (go_at_call 76; (with_reducible refine (l2Reg_any _ _).mono ?_); rintro _ _ ⟨rfl, rfl⟩) | (go_at_call 75; (with_reducible refine (l1In_any _ _ _ _).mono ?_); rintro _ _ ⟨rfl, rfl⟩) | (go_at_call 77; (with_reducible refine (l2Num_any _ _ _ hi).mono ?_); rintro e w' ⟨rfl, m, rfl⟩))
                go_ret
                refine ⟨by rw [V.out]; rfl, ?_⟩
                exact Gr.alloc (Gr.refl _) _
            · skip
              have V := Lib.hid (show codOk (i : Int) d a b f n = false by rw [HR.out, ← HD.out, ← HA.out, ← HB.out, ← HT.out]; simp [d1, d2, d3, a1, a2, a3])
              clear HR HT HD HA HB
              go_wp2_with (first | (go_at_call 76; (with_reducible refine (l2Reg_any _ _).mono ?_); rintro _ _ ⟨rfl, rfl⟩) | (go_at_call 75; (with_reducible refine (l1In_any _ _ _ _).mono ?_); rintro _ _ ⟨rfl, rfl⟩) | (go_at_call 77; (with_reducible refine (l2Num_any _ _ _ hi).mono ?_); rintro e w' ⟨rfl, m, rfl⟩))
              go_ret
              refine ⟨by rw [V.out]; rfl, ?_⟩
              exact Gr.alloc (Gr.refl _) _
            · skip
              have V := Lib.hid (show codOk (i : Int) d a b f n = false by rw [HR.out, ← HD.out, ← HA.out, ← HB.out, ← HT.out]; simp [d1, d2, d3, a1, a2])
              clear HR HT HD HA HB
              go_wp2_with (first | (go_at_call 76; (with_reducible refine (l2Reg_any _ _).mono ?_); rintro _ _ ⟨rfl, rfl⟩) | (go_at_call 75; (with_reducible refine (l1In_any _ _ _ _).mono ?_); rintro _ _ ⟨rfl, rfl⟩) | (go_at_call 77; (with_reducible refine (l2Num_any _ _ _ hi).mono ?_); rintro e w' ⟨rfl, m, rfl⟩))
              go_ret
              refine ⟨by rw [V.out]; rfl, ?_⟩
              exact Gr.alloc (Gr.refl _) _
          · skip
            have V := Lib.hid (show codOk (i : Int) d a b f n = false by rw [HR.out, ← HD.out, ← HA.out, ← HB.out, ← HT.out]; simp [d1, d2, d3])
            clear HR HT HD HA HB
            go_wp2_with (first | (go_at_call 76; (with_reducible refine (l2Reg_any _ _).mono ?_); rintro _ _ ⟨rfl, rfl⟩) | (go_at_call 75; (with_reducible refine (l1In_any _ _ _ _).mono ?_); rintro _ _ ⟨rfl, rfl⟩) | (go_at_call 77; (with_reducible refine (l2Num_any _ _ _ hi).mono ?_); rintro e w' ⟨rfl, m, rfl⟩))
            go_ret
            refine ⟨by rw [V.out]; rfl, ?_⟩
            exact Gr.alloc (Gr.refl _) _
          · skip
            have V := Lib.hid (show codOk (i : Int) d a b f n = false by rw [HR.out, ← HD.out, ← HA.out, ← HB.out, ← HT.out]; simp [d1, d2])
            clear HR HT HD HA HB
            go_wp2_with (first | (go_at_call 76; (with_reducible refine (l2Reg_any _ _).mono ?_); rintro _ _ ⟨rfl, rfl⟩) | (go_at_call 75; (with_reducible refine (l1In_any _ _ _ _).mono ?_); rintro _ _ ⟨rfl, rfl⟩) | (go_at_call 77; (with_reducible refine (l2Num_any _ _ _ hi).mono ?_); rintro e w' ⟨rfl, m, rfl⟩))
            go_ret
            refine ⟨by rw [V.out]; rfl, ?_⟩
            exact Gr.alloc (Gr.refl _) _
  · have e0 : inB k 0 15 = false := by rw [Bool.eq_false_iff]; intro h; simp [inB] at h; omega
    have V := Lib.hid (show codOk k d a b f n = false by simp [codOk]; omega)
    clear hk
    go_enter Tryd.func24, Tryd.ntmps24
    go_wp2_with fail
    refine (l1In_any _ _ _ _).mono ?_; rintro _ _ ⟨rfl, rfl⟩
    go_wp2_with fail
    go_ret
    refine ⟨by rw [V.out]; rfl, ?_⟩
    exact Gr.alloc (Gr.refl _) _
end Go.Proofs.YtppocjgjjjojiaaDoor
