/- The bits of a word that the program puts one after another are what the reference reckons. No program in sight. -/
import Derived.Test.YtppocjgjjjojiaaDoorCod
namespace Go.Proofs.YtppocjgjjjojiaaDoor
open Go.RowKit

theorem wrap_u16 (n : Int) : IntKind.u16.wrap n = n % 65536 := by simp [IntKind.wrap, IntKind.bits, IntKind.signed]
theorem wraps_u16 (n : Int) (h₀ : 0 ≤ n) (h₁ : n < 2 ^ 16) : IntKind.u16.wrap n = n := by rw [wrap_u16]; omega
theorem mask_u16 (wide : Nat) (h : wide = 3 ∨ wide = 4 ∨ wide = 6 ∨ wide = 9) : IntKind.u16.wrap (IntKind.u16.wrap (2 ^ wide) - 1) = 2 ^ wide - 1 := by
  rw [wrap_u16, wrap_u16]
  rcases h with rfl | rfl | rfl | rfl <;> decide
theorem put_step (W v : Int) (wide l : Nat) (hw : wide = 3 ∨ wide = 4 ∨ wide = 6 ∨ wide = 9) (hwl : wide ≤ l) (hl : l ≤ 16) (h0 : 0 ≤ W) (h1 : W * 2 ^ l < 65536) :
    putV (W * 2 ^ l) v wide l = (W * 2 ^ wide + v % 2 ^ wide) * 2 ^ (l - wide) := by
  have pw : (0 : Int) < 2 ^ wide := Int.pow_pos (by decide)
  have pm : (0 : Int) < 2 ^ (l - wide) := Int.pow_pos (by decide)
  have pl : (0 : Int) < 2 ^ l := Int.pow_pos (by decide)
  have el : (2 : Int) ^ l = 2 ^ wide * 2 ^ (l - wide) := by rw [← Int.pow_add]; congr 1; omega
  have hl16 : (2 : Int) ^ l ≤ 2 ^ 16 := by
    have := Nat.pow_le_pow_right (show 0 < 2 by decide) hl
    exact_mod_cast this
  have hdv : (2 : Int) ^ wide ∣ 65536 := by rcases hw with rfl | rfl | rfl | rfl <;> decide
  have hm0 : 0 ≤ v % 65536 := Int.emod_nonneg _ (by decide)
  have hm1 : v % 65536 < 2 ^ 16 := Int.emod_lt_of_pos _ (by decide)
  have hr0 : 0 ≤ v % 2 ^ wide := Int.emod_nonneg _ (by omega)
  have hr1 : v % 2 ^ wide < 2 ^ wide := Int.emod_lt_of_pos _ pw
  have hy0 : 0 ≤ v % 2 ^ wide * 2 ^ (l - wide) := Int.mul_nonneg hr0 (Int.le_of_lt pm)
  have hy1 : v % 2 ^ wide * 2 ^ (l - wide) < 2 ^ l := by rw [el]; exact Int.mul_lt_mul_of_pos_right hr1 pm
  unfold putV
  rw [mask_u16 wide hw, wrap_u16 v, bits_mask .u16 16 (by decide) wraps_u16 wide (by omega) _ hm0 hm1, Int.emod_emod_of_dvd _ hdv,
    wraps_u16 _ hy0 (by omega), bits_join .u16 16 (by decide) wraps_u16 l _ _ (Int.mul_nonneg h0 (Int.le_of_lt pl)) (Int.mul_emod_left _ _) (by omega) hy0 hy1 (by omega), el, Int.add_mul, Int.mul_assoc]

/-- The reference's reckoning: a word's part so far, and how many bits are left. -/
def cut (has : Bool) (x : Int) (wide : Nat) (s : Int × Nat) : Int × Nat := if has = true ∧ wide ≤ s.2 then (s.1 * 2 ^ wide + x % 2 ^ wide, s.2 - wide) else s
def Fits (s : Int × Nat) : Prop := 0 ≤ s.1 ∧ s.1 < 2 ^ (16 - s.2) ∧ s.2 ≤ 16
theorem Fits.lt {s : Int × Nat} (h : Fits s) : s.1 * 2 ^ s.2 < 65536 := by
  have pl : (0 : Int) < 2 ^ s.2 := Int.pow_pos (by decide)
  have e : (2 : Int) ^ (16 - s.2) * 2 ^ s.2 = 65536 := by
    rw [← Int.pow_add, Nat.sub_add_cancel h.2.2]; rfl
  have := Int.mul_lt_mul_of_pos_right h.2.1 pl
  omega
theorem Fits.cut {s : Int × Nat} (h : Fits s) (has : Bool) (x : Int) (wide : Nat) : Fits (cut has x wide s) := by
  unfold Go.Proofs.YtppocjgjjjojiaaDoor.cut
  split
  · rename_i hh
    have pw : (0 : Int) < 2 ^ wide := Int.pow_pos (by decide)
    have hr0 : 0 ≤ x % 2 ^ wide := Int.emod_nonneg _ (by omega)
    have hr1 : x % 2 ^ wide < 2 ^ wide := Int.emod_lt_of_pos _ pw
    have h2 : s.1 * 2 ^ wide ≤ (2 ^ (16 - s.2) - 1) * 2 ^ wide := Int.mul_le_mul_of_nonneg_right (by have := h.2.1; omega) (Int.le_of_lt pw)
    have e : (2 : Int) ^ (16 - (s.2 - wide)) = 2 ^ (16 - s.2) * 2 ^ wide := by
      rw [← Int.pow_add]; congr 1; have := h.2.2; omega
    refine ⟨Int.add_nonneg (Int.mul_nonneg h.1 (Int.le_of_lt pw)) hr0, ?_, by have := h.2.2; show s.2 - wide ≤ 16; omega⟩
    show s.1 * 2 ^ wide + x % 2 ^ wide < 2 ^ (16 - (s.2 - wide))
    rw [e]
    rw [Int.sub_mul] at h2
    omega
  · exact h
theorem putS_cut (s : Int × Nat) (h : Fits s) (has : Bool) (v : Int) (wide : Nat) (hw : has = true → wide = 3 ∨ wide = 4 ∨ wide = 6 ∨ wide = 9) :
    putS has v wide (s.1 * 2 ^ s.2, s.2) = ((cut has v wide s).1 * 2 ^ (cut has v wide s).2, (cut has v wide s).2) := by
  unfold putS cut
  by_cases hh : has = true ∧ wide ≤ s.2
  · rw [if_pos hh, if_pos hh]
    show (putV _ v wide s.2, s.2 - wide) = _
    rw [put_step s.1 v wide s.2 (hw hh.1) hh.2 h.2.2 h.1 h.lt]
  · rw [if_neg hh, if_neg hh]

/-- The reference's word, step by step. -/
def cutS (i : Nat) (d a b f n : Int) : Int × Nat :=
  cut (decide (0 < kw i)) n (kw i) (cut (decide (0 < kp i)) f 3 (cut (kb i) b 3 (cut (ka i) a 3 (cut (kd i) d 3 ((i : Int), 12)))))
theorem fits0 (i : Nat) (h : i < 16) : Fits ((i : Int), 12) := ⟨by simp, by simp; omega, by simp⟩
theorem cwS_cut (i : Nat) (d a b f n : Int) (hi : i < 16) : (cwS i d a b f n).1 = (cutS i d a b f n).1 * 2 ^ (cutS i d a b f n).2 := by
  have F1 := (fits0 i hi).cut (kd i) d 3
  have F2 := F1.cut (ka i) a 3
  have F3 := F2.cut (kb i) b 3
  have F4 := F3.cut (decide (0 < kp i)) f 3
  have e0 : putS true (i : Int) 4 (0, 16) = ((i : Int) * 2 ^ 12, 12) := by
    have := putS_cut (0, 16) ⟨by simp, by simp, by simp⟩ true (i : Int) 4 (fun _ => by decide)
    simp only [cut] at this
    simp at this
    rw [show ((i : Int) % 16) = i by omega] at this
    simpa using this
  have h3 : ∀ x : Bool, x = true → (3 : Nat) = 3 ∨ (3 : Nat) = 4 ∨ (3 : Nat) = 6 ∨ (3 : Nat) = 9 := fun _ _ => .inl rfl
  have hk : decide (0 < kw i) = true → kw i = 3 ∨ kw i = 4 ∨ kw i = 6 ∨ kw i = 9 := by
    intro h
    have h : 0 < kw i := of_decide_eq_true h
    rcases kw_cases i hi with h | h | h <;> omega
  unfold cwS
  rw [e0, putS_cut ((i : Int), 12) (fits0 i hi) (kd i) d 3 (h3 _), putS_cut _ F1 (ka i) a 3 (h3 _), putS_cut _ F2 (kb i) b 3 (h3 _), putS_cut _ F3 (decide (0 < kp i)) f 3 (h3 _), putS_cut _ F4 (decide (0 < kw i)) n (kw i) hk]
  rfl
end Go.Proofs.YtppocjgjjjojiaaDoor
