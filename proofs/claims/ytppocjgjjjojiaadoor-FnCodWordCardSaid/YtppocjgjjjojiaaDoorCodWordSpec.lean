/- The reference's CodWord: its loop over four fields. -/
import Derived.Test.YtppocjgjjjojiaaDoorCodSpec
import Derived.Test.YtppocjgjjjojiaaDoorCodPlain
namespace Go.Proofs.YtppocjgjjjojiaaDoor
open Go.RowKit

def hs (i k : Nat) : Bool := match k with | 0 => kd i | 1 => ka i | 2 => kb i | _ => decide (0 < kp i)
def xsv (d a b f : Int) (k : Nat) : Int := match k with | 0 => d | 1 => a | 2 => b | _ => f
def acc (i : Nat) (d a b f : Int) : Nat → Int × Nat
  | 0 => ((i : Int), 12)
  | k + 1 => if hs i k = true then ((acc i d a b f k).1 * 8 + xsv d a b f k, (acc i d a b f k).2 - 3) else acc i d a b f k
theorem acc_rng (i : Nat) (d a b f : Int) (hi : i < 16) (hx : ∀ k, k < 4 → hs i k = true → 0 ≤ xsv d a b f k ∧ xsv d a b f k < 8) (k : Nat) (hk : k ≤ 4) :
    0 ≤ (acc i d a b f k).1 ∧ (acc i d a b f k).1 < 2 ^ (16 - (acc i d a b f k).2) ∧ 12 ≤ (acc i d a b f k).2 + 3 * k ∧ (acc i d a b f k).2 ≤ 12 := by
  induction k with
  | zero => simp [acc]; omega
  | succ k ih =>
    obtain ⟨h1, h2, h3, h4⟩ := ih (by omega)
    simp only [acc]
    by_cases h : hs i k = true
    · rw [if_pos h]
      obtain ⟨x0, x1⟩ := hx k (by omega) h
      have e : (2 : Int) ^ (16 - ((acc i d a b f k).2 - 3)) = 2 ^ (16 - (acc i d a b f k).2) * 8 := by
        rw [show (8 : Int) = 2 ^ 3 from rfl, ← Int.pow_add]; congr 1; omega
      dsimp only
      rw [e]
      omega
    · rw [if_neg h]
      omega

def lef (i : Nat) : Nat → Nat | 0 => 12 | k + 1 => if hs i k = true then lef i k - 3 else lef i k
theorem acc_lef (i : Nat) (d a b f : Int) (k : Nat) : (acc i d a b f k).2 = lef i k := by
  induction k with
  | zero => rfl
  | succ k ih => simp only [acc, lef]; by_cases h : hs i k = true <;> simp [h, ih]
theorem acc_left (i : Nat) (d a b f : Int) (hi : i < 16) : kw i ≤ (acc i d a b f 4).2 := by
  rw [acc_lef]
  have : ∀ k : Fin 16, kw k ≤ lef k 4 := by decide
  exact this ⟨i, hi⟩
theorem num_rng (i : Nat) (d a b f n : Int) (hi : i < 16) (hok : codOk i d a b f n = true) : 0 ≤ n + 2 ^ kw i ∧ n ≤ 511 := by
  simp only [codOk, Int.toNat_natCast, Bool.and_eq_true] at hok
  have h := hok.2.2
  rcases num_ways i hi with e | ⟨e, s, _⟩ | ⟨e, s, _⟩ | ⟨e, s, _⟩
  · rw [e, num0] at h; rw [e]; simp at h; omega
  · rw [e, s, numU9] at h; rw [e]; simp [inB] at h; omega
  · rw [e, s, numS6] at h; rw [e]; simp [inB] at h; omega
  · rw [e, s, numS9] at h; rw [e]; simp [inB] at h; omega
theorem cutS_acc (i : Nat) (d a b f n : Int) (hi : i < 16) (hx : ∀ k, k < 4 → hs i k = true → 0 ≤ xsv d a b f k ∧ xsv d a b f k < 8) :
    cutS i d a b f n = cut (decide (0 < kw i)) n (kw i) (acc i d a b f 4) := by
  have st : ∀ k, k < 4 → acc i d a b f (k + 1) = cut (hs i k) (xsv d a b f k) 3 (acc i d a b f k) := by
    intro k hk
    have hr := acc_rng i d a b f hi hx k (by omega)
    simp only [acc, cut]
    by_cases h : hs i k = true
    · have := hx k hk h
      rw [if_pos h, if_pos ⟨h, by omega⟩, show xsv d a b f k % 2 ^ 3 = xsv d a b f k by omega]
      rfl
    · rw [if_neg h, if_neg (fun q => h q.1)]
  rw [st 3 (by decide), st 2 (by decide), st 1 (by decide), st 0 (by decide)]
  rfl
theorem pow_le16 (l : Nat) : (2 : Int) ^ (16 - l) ≤ 65536 := by
  have h : 2 ^ (16 - l) ≤ 2 ^ 16 := Nat.pow_le_pow_right (show 0 < 2 by decide) (show 16 - l ≤ 16 by omega)
  have e : (2 : Int) ^ (16 - l) = ((2 ^ (16 - l) : Nat) : Int) := (Int.natCast_pow 2 (16 - l)).symm
  omega
theorem shl_at (y : Int) (k : Nat) (h0 : 0 ≤ y * 2 ^ k) (h1 : y * 2 ^ k < 65536) : wrap64 (y * 2 ^ k) = y * 2 ^ k := by
  generalize y * 2 ^ k = z at *
  exact IntWalk.wrap64_in _ (by omega)
theorem end0 (i : Nat) (d a b f n x : Int) (l : Nat) (hi : i < 16) (HX : cutS i d a b f n = cut (decide (0 < kw i)) n (kw i) (x, l)) (hF : Fits (x, l)) (hw : kw i = 0) :
    wrap64 (x * 2 ^ l) = (cwS i d a b f n).1 := by
  rw [cwS_cut i d a b f n hi, HX, hw]
  show _ = x * 2 ^ l
  exact shl_at x l (Int.mul_nonneg hF.1 (Int.le_of_lt (Int.pow_pos (by decide)))) hF.lt
theorem endk (i : Nat) (d a b f n x : Int) (l k : Nat) (p : Int) (hp : p = 2 ^ k) (hi : i < 16) (HX : cutS i d a b f n = cut (decide (0 < kw i)) n (kw i) (x, l)) (hF : Fits (x, l)) (hw : kw i = k) (hk0 : 0 < k) (hkl : k ≤ l) :
    wrap64 ((x * p + n % p) * 2 ^ (l - k)) = (cwS i d a b f n).1 := by
  have F2 := hF.cut true n k
  have ec : cut true n k (x, l) = (x * 2 ^ k + n % 2 ^ k, l - k) := if_pos ⟨rfl, hkl⟩
  rw [cwS_cut i d a b f n hi, HX, hw, show decide (0 < k) = true from decide_eq_true hk0, ec]
  rw [ec] at F2
  rw [hp]
  have f0 : 0 ≤ x * 2 ^ k + n % 2 ^ k := F2.1
  have f1 : x * 2 ^ k + n % 2 ^ k < 2 ^ (16 - (l - k)) := F2.2.1
  have f2 := pow_le16 (l - k)
  exact shl_at _ _ (Int.mul_nonneg f0 (Int.le_of_lt (Int.pow_pos (by decide)))) F2.lt
theorem ok_fields (i : Nat) (d a b f n : Int) (hi : i < 16) (hok : codOk i d a b f n = true) : ∀ k, k < 4 → hs i k = true → 0 ≤ xsv d a b f k ∧ xsv d a b f k < 8 := by
  have hp : kp i ≤ 8 := by
    have : ∀ k : Fin 16, kp k ≤ 8 := by decide
    exact this ⟨i, hi⟩
  simp only [codOk, fld, Int.toNat_natCast, Bool.and_eq_true] at hok
  obtain ⟨-, ⟨⟨⟨h0, h1⟩, h2⟩, h3⟩, -⟩ := hok
  intro k hk hh
  obtain rfl | rfl | rfl | rfl : k = 0 ∨ k = 1 ∨ k = 2 ∨ k = 3 := by omega
  · rw [if_pos (show kd i = true from hh)] at h0; simpa [xsv] using h0
  · rw [if_pos (show ka i = true from hh)] at h1; simpa [xsv] using h1
  · rw [if_pos (show kb i = true from hh)] at h2; simpa [xsv] using h2
  · rw [if_pos (show decide (0 < kp i) = true from hh)] at h3; simp at h3; simp [xsv]; omega

set_option maxRecDepth 100000 in
set_option maxHeartbeats 4000000 in
theorem spec_CodWord_yes (i : Nat) (d a b f n : Int) (w : World) (hi : i < 16) (hok : codOk i d a b f n = true) :
    Calls Tryd.prog 15 #[.agg #[.int .i64 (i : Int), .int .i64 d, .int .i64 a, .int .i64 b, .int .i64 f, .int .i64 n]] w fun e w' => e = .returned (.int .i64 (cwS i d a b f n).1) ∧ Gr w w' := by
  have hx := Lib.hid (ok_fields i d a b f n hi hok)
  have hok' := hok
  have HK := Lib.hid hok; clear hok
  obtain ⟨D, hD⟩ : ∃ D, Hid (kd i = D) := ⟨_, Lib.hid rfl⟩
  obtain ⟨A, hA⟩ : ∃ D, Hid (ka i = D) := ⟨_, Lib.hid rfl⟩
  obtain ⟨B, hB⟩ : ∃ D, Hid (kb i = D) := ⟨_, Lib.hid rfl⟩
  obtain ⟨F, hF⟩ : ∃ D, Hid (decide (0 < kp i) = D) := ⟨_, Lib.hid rfl⟩
  obtain ⟨W, hW⟩ : ∃ D, Hid (kw i = D) := ⟨_, Lib.hid rfl⟩
  have hl4 := Lib.hid (acc_left i d a b f hi)
  have hn := Lib.hid (num_rng i d a b f n hi hok'); clear hok'
  go_enter Tryd.func15, Tryd.ntmps15
  go_wp2_with fail
  refine (spec_CodOk_any _ _ _ _ _ _ _).mono ?_; rintro _ w1 ⟨rfl, k1⟩
  rw [HK.out]
  have B1 := (BK.new w #[.int .i64 (i : Int), .int .i64 d, .int .i64 a, .int .i64 b, .int .i64 f, .int .i64 n] 25).gr k1
  have q1 := B1.cell
  have lt1 := B1.lt
  go_wp2_with fail
  refine (l2Has_any _ _).mono ?_; rintro _ _ ⟨rfl, rfl⟩
  rw [kNo_nat i hi, hD.out, hA.out, hB.out, hF.out, hW.out]
  go_wp2_with fail
  go_loop [8, 9, 12] (fun x l k => ∃ m : Nat, m ≤ 4 ∧ k = .int .i64 (m : Int) ∧ x = .int .i64 (acc i d a b f m).1 ∧ l = .int .i64 ((acc i d a b f m).2 : Int)) (fun _ _ k => 4 - (intOf k).toNat)
  case atStart => exact ⟨0, by omega, rfl, rfl, rfl⟩
  case round =>
    obtain ⟨m, hm, rfl, rfl, rfl⟩ := hrel
    obtain ⟨x0, x1, l0, l1⟩ := acc_rng i d a b f hi hx.out m hm
    have x2 : (acc i d a b f m).1 < 65536 := Int.lt_of_lt_of_le x1 (pow_le16 _)
    have HFT := Lib.hid (show Fits (acc i d a b f m) from ⟨x0, x1, by omega⟩)
    clear x1
    by_cases h4 : m = 4
    · subst h4
      have hwl := hl4.out
      rw [hW.out] at hwl
      have HX := Lib.hid (show cutS i d a b f n = cut (decide (0 < kw i)) n (kw i) (acc i d a b f 4) from cutS_acc i d a b f n hi hx.out)
      generalize hz : acc i d a b f 4 = z at *
      clear hz
      obtain ⟨x, l⟩ := z
      dsimp only at x0 x2 l0 l1 hwl ⊢
      have hw3 := kw_cases i hi
      rw [hW.out] at hw3
      obtain ⟨n0, n1⟩ := hn.out
      rw [hW.out] at n0
      have GG := Lib.hid ((((Gr.refl w).alloc (.cells #[.int .i64 (i : Int), .int .i64 d, .int .i64 a, .int .i64 b, .int .i64 f, .int .i64 n] 25)).trans k1).alloc (.cells #[.int .i64 d, .int .i64 a, .int .i64 b, .int .i64 f] 3) |>.alloc (.cells #[.bool D, .bool A, .bool B, .bool F] 4))
      rcases hw3 with rfl | rfl | rfl
      · go_wp2_with fail
        go_ret
        refine ⟨?_, GG.out⟩
        exact congrArg (fun z => Ending.returned (.int .i64 z)) (end0 i d a b f n x l hi HX.out HFT.out hW.out)
      · go_wp2_with fail
        go_quiet (fail)
        go_wp2_with fail
        go_ret
        refine ⟨?_, GG.out.drewN _⟩
        exact congrArg (fun z => Ending.returned (.int .i64 z)) (endk i d a b f n x l 6 64 (by decide) hi HX.out HFT.out hW.out (by decide) hwl)
      · go_wp2_with fail
        go_quiet (fail)
        go_wp2_with fail
        go_ret
        refine ⟨?_, GG.out.drewN _⟩
        exact congrArg (fun z => Ending.returned (.int .i64 z)) (endk i d a b f n x l 9 512 (by decide) hi HX.out HFT.out hW.out (by decide) hwl)
    have hm3 : m < 4 := by omega
    clear hm h4
    have EN := Lib.hid (show acc i d a b f (m + 1) = if hs i m = true then ((acc i d a b f m).1 * 8 + xsv d a b f m, (acc i d a b f m).2 - 3) else acc i d a b f m from rfl)
    have XB := Lib.hid (hx.out m hm3)
    generalize hz : acc i d a b f m = z at *
    clear hz
    obtain ⟨x, l⟩ := z
    dsimp only at x0 x2 l0 l1 EN ⊢
    obtain rfl | rfl | rfl | rfl : m = 0 ∨ m = 1 ∨ m = 2 ∨ m = 3 := by omega
    · cases D
      · have EM := Lib.hid (show acc i d a b f (0 + 1) = (x, l) by rw [EN.out]; exact if_neg (by rw [show hs i 0 = false from hD.out]; decide))
        clear EN XB
        go_wp2_with fail
        go_round
        case rel => exact ⟨0 + 1, by omega, by go_num, by rw [EM.out], by rw [EM.out]⟩
        case measure => simp [intOf]
      · have EM := Lib.hid (show acc i d a b f (0 + 1) = (x * 8 + d, l - 3) by rw [EN.out]; exact if_pos hD.out)
        obtain ⟨y0, y1⟩ : 0 ≤ d ∧ d < 8 := XB.out hD.out
        clear EN XB
        go_wp2_with fail
        go_round
        case rel => exact ⟨0 + 1, by omega, by go_num, by rw [EM.out], by rw [EM.out]; show Value.int .i64 ((l : Int) - 3) = Value.int .i64 ((l - 3 : Nat) : Int); congr 1; omega⟩
        case measure => simp [intOf]
    · cases A
      · have EM := Lib.hid (show acc i d a b f (1 + 1) = (x, l) by rw [EN.out]; exact if_neg (by rw [show hs i 1 = false from hA.out]; decide))
        clear EN XB
        go_wp2_with fail
        go_round
        case rel => exact ⟨1 + 1, by omega, by go_num, by rw [EM.out], by rw [EM.out]⟩
        case measure => simp [intOf]
      · have EM := Lib.hid (show acc i d a b f (1 + 1) = (x * 8 + a, l - 3) by rw [EN.out]; exact if_pos hA.out)
        obtain ⟨y0, y1⟩ : 0 ≤ a ∧ a < 8 := XB.out hA.out
        clear EN XB
        go_wp2_with fail
        go_round
        case rel => exact ⟨1 + 1, by omega, by go_num, by rw [EM.out], by rw [EM.out]; show Value.int .i64 ((l : Int) - 3) = Value.int .i64 ((l - 3 : Nat) : Int); congr 1; omega⟩
        case measure => simp [intOf]
    · cases B
      · have EM := Lib.hid (show acc i d a b f (2 + 1) = (x, l) by rw [EN.out]; exact if_neg (by rw [show hs i 2 = false from hB.out]; decide))
        clear EN XB
        go_wp2_with fail
        go_round
        case rel => exact ⟨2 + 1, by omega, by go_num, by rw [EM.out], by rw [EM.out]⟩
        case measure => simp [intOf]
      · have EM := Lib.hid (show acc i d a b f (2 + 1) = (x * 8 + b, l - 3) by rw [EN.out]; exact if_pos hB.out)
        obtain ⟨y0, y1⟩ : 0 ≤ b ∧ b < 8 := XB.out hB.out
        clear EN XB
        go_wp2_with fail
        go_round
        case rel => exact ⟨2 + 1, by omega, by go_num, by rw [EM.out], by rw [EM.out]; show Value.int .i64 ((l : Int) - 3) = Value.int .i64 ((l - 3 : Nat) : Int); congr 1; omega⟩
        case measure => simp [intOf]
    · cases F
      · have EM := Lib.hid (show acc i d a b f (3 + 1) = (x, l) by rw [EN.out]; exact if_neg (by rw [show hs i 3 = false from hF.out]; decide))
        clear EN XB
        go_wp2_with fail
        go_round
        case rel => exact ⟨3 + 1, by omega, by go_num, by rw [EM.out], by rw [EM.out]⟩
        case measure => simp [intOf]
      · have EM := Lib.hid (show acc i d a b f (3 + 1) = (x * 8 + f, l - 3) by rw [EN.out]; exact if_pos hF.out)
        obtain ⟨y0, y1⟩ : 0 ≤ f ∧ f < 8 := XB.out hF.out
        clear EN XB
        go_wp2_with fail
        go_round
        case rel => exact ⟨3 + 1, by omega, by go_num, by rw [EM.out], by rw [EM.out]; show Value.int .i64 ((l : Int) - 3) = Value.int .i64 ((l - 3 : Nat) : Int); congr 1; omega⟩
        case measure => simp [intOf]
theorem spec_CodWord_any (k d a b f n : Int) (w : World) :
    Calls Tryd.prog 15 #[.agg #[.int .i64 k, .int .i64 d, .int .i64 a, .int .i64 b, .int .i64 f, .int .i64 n]] w fun e w' => e = .returned (.int .i64 (codWord k d a b f n)) ∧ Gr w w' := by
  cases hok : codOk k d a b f n
  · have HK := Lib.hid hok
    have HE : Hid (codWord k d a b f n = -1) := by show codWord k d a b f n = -1; simp [codWord, hok]
    clear hok
    go_enter Tryd.func15, Tryd.ntmps15
    go_wp2_with fail
    refine (spec_CodOk_any _ _ _ _ _ _ _).mono ?_; rintro _ w1 ⟨rfl, k1⟩
    rw [HK.out]
    go_wp2_with fail
    go_ret
    exact ⟨by rw [HE.out]; rfl, ((Gr.refl _).alloc _).trans k1⟩
  · have hk0 : 0 ≤ k ∧ k < 16 := by simp only [codOk, Bool.and_eq_true, decide_eq_true_eq] at hok; exact hok.1
    obtain ⟨i, rfl⟩ := Int.eq_ofNat_of_zero_le hk0.1
    have e : codWord i d a b f n = (cwS i d a b f n).1 := by simp [codWord, hok]
    rw [e]
    exact spec_CodWord_yes i d a b f n w (by omega) hok
end Go.Proofs.YtppocjgjjjojiaaDoor
