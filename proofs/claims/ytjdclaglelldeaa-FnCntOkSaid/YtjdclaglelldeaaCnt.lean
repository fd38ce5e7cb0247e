/- CntOk of the program and of the reference: what each computes. -/
import Derived.Test.YtjdclaglelldeaaBase
namespace Go.Proofs.Ytjdclaglelldeaa
open Go.RowKit

def inB (n lo hi : Int) : Bool := decide (lo ≤ n) && decide (n ≤ hi)
def dbl (n : Int) : Int := wrap64 (2 * n)
def cntOk (a b c d e f : Int) : Bool := inB a 0 9999 && inB b 0 (dbl a) && inB c 0 a && inB d 0 (dbl a) && inB f 0 a && inB e 0 d

theorem l1In_any (n lo hi : Int) (w : World) :
    Calls Try.prog 26 #[.int .i64 n, .int .i64 lo, .int .i64 hi] w fun e w' => e = .returned (.bool (inB n lo hi)) ∧ w = w' := by
  unfold inB
  by_cases h1 : lo ≤ n
  · go_enter Try.func26, Try.ntmps26
    go_wp2
    go_ret
    simp [h1]
  · go_enter Try.func26, Try.ntmps26
    go_wp2
    go_ret
    simp; omega

theorem within_any (n m : Int) (w : World) :
    Calls Try.prog 27 #[.int .i64 n, .int .i64 m] w fun e w' => e = .returned (.bool (inB n 0 m)) ∧ w = w' := by
  unfold inB
  by_cases h1 : 0 ≤ n
  · go_enter Try.func27, Try.ntmps27
    go_wp2
    go_ret
    simp [h1]
  · go_enter Try.func27, Try.ntmps27
    go_wp2
    go_ret
    simp; omega

theorem spec_CntOk_any (a b c d e f : Int) (w : World) :
    Calls Try.prog 7 #[.agg #[.int .i64 a, .int .i64 b, .int .i64 c, .int .i64 d, .int .i64 e, .int .i64 f]] w fun r w' => r = .returned (.bool (cntOk a b c d e f)) ∧ Gr w w' := by
  go_enter Try.func7, Try.ntmps7
  go_wp2_with (go_at_call 26; refine (l1In_any _ _ _ _).mono ?_; rintro e w' ⟨rfl, rfl⟩)
  all_goals go_ret
  all_goals exact ⟨by simp [cntOk, dbl, *], (Gr.refl _).alloc _⟩
theorem impl_CntOk_any (a b c d e f : Int) (w : World) :
    Calls Try.prog 9 #[.agg #[.int .i64 a, .int .i64 b, .int .i64 c, .int .i64 d, .int .i64 e, .int .i64 f]] w fun r w' => r = .returned (.bool (cntOk a b c d e f)) ∧ Gr w w' := by
  go_enter Try.func9, Try.ntmps9
  go_wp2_with (go_at_call 27; refine (within_any _ _ _).mono ?_; rintro e w' ⟨rfl, rfl⟩)
  all_goals go_ret
  all_goals exact ⟨by simp [cntOk, dbl, *], (Gr.refl _).alloc _⟩
end Go.Proofs.Ytjdclaglelldeaa
