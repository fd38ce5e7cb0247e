/- Reading a word: bitReader.take, the reading, and what the program's CodRead returns. -/
import Derived.Test.YtppocjgjjjojiaaDoorCodWordSpec
namespace Go.Proofs.YtppocjgjjjojiaaDoor
open Go.RowKit

def TakeP (g : Nat) (b : Int) (has : Bool) (wide l : Nat) (w : World) (e : Ending) (w' : World) : Prop :=
  ∃ v l', (v, l') = (if has = true ∧ wide ≤ l then (b / 2 ^ (l - wide) % 2 ^ wide, l - wide) else ((0 : Int), l)) ∧ e = .returned (.int .i64 v) ∧ Mu (· = g) w w' ∧ BK w' g #[.int .u16 b, .int .u64 (l' : Int)]

theorem take_val (b : Int) (wide s : Nat) (hw : wide = 3 ∨ wide = 4 ∨ wide = 6 ∨ wide = 9) (hb : 0 ≤ b ∧ b < 65536) :
    wrap64 (bits .and .u16 (b / 2 ^ s) (IntKind.u16.wrap (IntKind.u16.wrap (2 ^ wide) - 1))) = b / 2 ^ s % 2 ^ wide := by
  have ps : (0 : Int) < 2 ^ s := Int.pow_pos (by decide)
  have h0 : 0 ≤ b / 2 ^ s := Int.ediv_nonneg hb.1 (Int.le_of_lt ps)
  have h1 : b / 2 ^ s ≤ b := Int.ediv_le_self _ hb.1
  rw [mask_u16 wide hw, bits_mask .u16 16 (by decide) wraps_u16 wide (by omega) _ h0 (by omega)]
  have pw : (0 : Int) < 2 ^ wide := Int.pow_pos (by decide)
  have h2 := Int.emod_nonneg (b / 2 ^ s) (show (2 : Int) ^ wide ≠ 0 by omega)
  have h3 := Int.emod_lt_of_pos (b / 2 ^ s) pw
  have p9 : (2 : Int) ^ wide ≤ 512 := by rcases hw with rfl | rfl | rfl | rfl <;> decide
  exact IntWalk.wrap64_in _ (by omega)
set_option maxHeartbeats 1000000 in
theorem take_any (g : Nat) (b : Int) (has : Bool) (wide l : Nat) (w : World) (h : BK w g #[.int .u16 b, .int .u64 (l : Int)]) (hl : l ≤ 16) (h3 : Hid (has = true → wide = 3 ∨ wide = 4 ∨ wide = 6 ∨ wide = 9)) (hb : 0 ≤ b ∧ b < 65536) :
    Calls Tryd.prog 66 #[.pointer (some ⟨g, 0, none⟩), .bool has, .int .u64 (wide : Int)] w (TakeP g b has wide l w) := by
  have c0 : w.cell? ⟨g, 0, none⟩ = some (.int .u16 b) := h.cell 0
  have c1 : w.cell? ⟨g, 1, none⟩ = some (.int .u64 l) := h.cell 1
  have f0 := h.free 0
  have f1 := h.free 1
  have H := Lib.hid h; clear h
  cases has
  · go_enter Tryd.func66, Tryd.ntmps66
    go_wp2
    go_ret
    exact ⟨0, l, by simp, rfl, .refl _ _, H.out⟩
  by_cases hwl : wide ≤ l
  · have hw : wide ≤ 16 := by have := h3.out rfl; omega
    have HW := Lib.hid (h3.out rfl)
    clear h3
    have HE : Hid (∀ nq, Mu (· = g) w ((w.setCell ⟨g, 1, none⟩ (.int .u64 ((l : Int) - wide))).drewN nq) ∧ BK ((w.setCell ⟨g, 1, none⟩ (.int .u64 ((l : Int) - wide))).drewN nq) g #[.int .u16 b, .int .u64 ((l - wide : Nat) : Int)]) := fun nq =>
      ⟨((Mu.refl (· = g) w).set (p := ⟨g, 1, none⟩) (.inl rfl) _).drewN nq, by rw [Int.ofNat_sub hwl]; exact (H.out.set 1 (.int .u64 ((l : Int) - wide))).drewN nq⟩
    go_enter Tryd.func66, Tryd.ntmps66
    go_wp2_with fail
    go_quiet (fail)
    go_wp2_with fail
    go_ret
    exact ⟨b / 2 ^ (l - wide) % 2 ^ wide, l - wide, by rw [if_pos ⟨rfl, hwl⟩], congrArg (fun z => Ending.returned (.int .i64 z)) (take_val b wide (l - wide) HW.out hb), (HE.out nq).1, (HE.out nq).2⟩
  · go_enter Tryd.func66, Tryd.ntmps66
    go_wp2
    go_ret
    exact ⟨0, l, by simp [hwl], rfl, .refl _ _, H.out⟩

theorem WrdOk_in (n : Int) (w : World) (h : 0 ≤ n ∧ n < 65536) : Calls Tryd.prog 26 #[.int .i64 n] w fun e w' => e = .returned (.bool true) ∧ w = w' := by
  obtain ⟨h0, h1⟩ := h
  go_enter Tryd.func26, Tryd.ntmps26
  go_wp2
  go_ret
  exact ⟨rfl, rfl⟩
theorem wrapped_neg (n : Int) (w : World) (h : -32768 ≤ n ∧ n < 0) : Calls Tryd.prog 93 #[.int .i64 n] w fun e w' => e = .returned (.int .i64 (n + 65536)) ∧ w = w' := by
  obtain ⟨h0, h1⟩ := h
  go_enter Tryd.func93, Tryd.ntmps93
  go_wp2
  go_ret
  refine ⟨?_, rfl⟩
  simp [wrap_u16, wrap64]
  omega
/-- A number of so many bits with its sign. -/
def sgn (wide : Nat) (n : Int) : Int := if 2 ^ (wide - 1) ≤ n then n - 2 ^ wide else n
def sgnW (wide : Nat) (n : Int) : Int := if 2 ^ (wide - 1) ≤ n then n - 2 ^ wide + 65536 else n
set_option maxHeartbeats 1000000 in
theorem WrdSign_any (n : Int) (wide : Nat) (w : World) (hw : wide = 6 ∨ wide = 9) (h : 0 ≤ n ∧ n < 2 ^ wide) :
    Calls Tryd.prog 68 #[.int .i64 n, .int .i64 (wide : Int)] w fun e w' => e = .returned (.int .i64 (sgnW wide n)) ∧ w = w' := by
  obtain ⟨h0, h1⟩ := h
  rcases hw with rfl | rfl
  · by_cases hn : 32 ≤ n
    · have HS := Lib.hid (show sgnW 6 n = n - 64 + 65536 from if_pos hn)
      go_enter Tryd.func68, Tryd.ntmps68
      go_wp2_with (go_at_call 93; (with_reducible refine (wrapped_neg _ _ (by omega)).mono ?_); rintro _ _ ⟨rfl, rfl⟩)
      go_ret
      exact ⟨by rw [HS.out]; rfl, rfl⟩
    · have HS := Lib.hid (show sgnW 6 n = n from if_neg hn)
      go_enter Tryd.func68, Tryd.ntmps68
      go_wp2
      go_ret
      exact ⟨by rw [HS.out]; rfl, rfl⟩
  · by_cases hn : 256 ≤ n
    · have HS := Lib.hid (show sgnW 9 n = n - 512 + 65536 from if_pos hn)
      go_enter Tryd.func68, Tryd.ntmps68
      go_wp2_with (go_at_call 93; (with_reducible refine (wrapped_neg _ _ (by omega)).mono ?_); rintro _ _ ⟨rfl, rfl⟩)
      go_ret
      exact ⟨by rw [HS.out]; rfl, rfl⟩
    · have HS := Lib.hid (show sgnW 9 n = n from if_neg hn)
      go_enter Tryd.func68, Tryd.ntmps68
      go_wp2
      go_ret
      exact ⟨by rw [HS.out]; rfl, rfl⟩
theorem signed_any (m : Int) (w : World) (h : 0 ≤ m ∧ m < 65536) : Calls Tryd.prog 119 #[.int .u16 m] w fun e w' => e = .returned (.int .i64 (if 32768 ≤ m then m - 65536 else m)) ∧ w = w' := by
  obtain ⟨h0, h1⟩ := h
  generalize hq : (if 32768 ≤ m then m - 65536 else m) = q
  have HQ := Lib.hid hq; clear hq
  go_enter Tryd.func119, Tryd.ntmps119
  go_wp2
  go_ret
  refine ⟨?_, rfl⟩
  rw [← HQ.out]
  have e : IntKind.i16.wrap m = if 32768 ≤ m then m - 65536 else m := by
    simp [IntKind.wrap, IntKind.bits, IntKind.signed]
    split <;> omega
  simp [e, wrap64]
  split <;> omega
theorem WrdInt_any (m : Int) (w : World) (h : 0 ≤ m ∧ m < 65536) : Calls Tryd.prog 67 #[.int .i64 m] w fun e w' => e = .returned (.int .i64 (if 32768 ≤ m then m - 65536 else m)) ∧ w = w' := by
  obtain ⟨h0, h1⟩ := h
  generalize hq : (if 32768 ≤ m then m - 65536 else m) = q
  have HQ := Lib.hid hq; clear hq
  go_enter Tryd.func67, Tryd.ntmps67
  go_wp2_with (go_at_call 26; (with_reducible refine (WrdOk_in _ _ ⟨h0, h1⟩).mono ?_); rintro _ _ ⟨rfl, rfl⟩)
  refine (signed_any _ _ (by omega)).mono ?_; rintro _ _ ⟨rfl, rfl⟩
  rw [HQ.out]
  go_wp2_with fail
  go_ret
  exact ⟨rfl, rfl⟩
end Go.Proofs.YtppocjgjjjojiaaDoor
