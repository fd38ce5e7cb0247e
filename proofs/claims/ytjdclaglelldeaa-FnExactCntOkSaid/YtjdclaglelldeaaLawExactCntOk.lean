/- The program's CntOk returns what the reference's returns, for all arguments. No condition. -/
import Derived.Test.YtjdclaglelldeaaCnt
import Derived.Test.YtjdclaglelldeaaRow
namespace Go.Proofs.Ytjdclaglelldeaa
open Go.RowKit Go.ChangeShapes Go.WideShapes Go.ChangeAt

theorem toCnt_any (a b c d e f : Int) (w : World) :
    Calls Try.prog 8 #[.agg #[.int .i64 a, .int .i64 b, .int .i64 c, .int .i64 d, .int .i64 e, .int .i64 f]] w fun r w' => r = .returned (.agg #[.int .i64 a, .int .i64 b, .int .i64 c, .int .i64 d, .int .i64 e, .int .i64 f]) ∧ Gr w w' := by
  go_enter Try.func8, Try.ntmps8
  go_wp2
  exact bodyPost_ret (v := .agg #[.int .i64 a, .int .i64 b, .int .i64 c, .int .i64 d, .int .i64 e, .int .i64 f]) (by simp [results, Try.results8, go_sem]) rfl ⟨rfl, (((Gr.refl _).alloc _).alloc _).alloc _⟩

set_option maxHeartbeats 1000000 in
theorem exactCntOk_any (a b c d e f : Int) (w : World) :
    Calls Try.prog 3 #[.agg #[.int .i64 a, .int .i64 b, .int .i64 c, .int .i64 d, .int .i64 e, .int .i64 f]] w fun r w' => r = .returned (.bool true) ∧ Gr w w' := by
  go_enter Try.func3, Try.ntmps3
  go_wp2_with fail
  refine (toCnt_any _ _ _ _ _ _ _).mono ?_; rintro _ w1 ⟨rfl, h1⟩; have B1 := (BK.new w _ _).gr h1; have c1 := B1.cell
  go_wp2_with fail
  refine (spec_CntOk_any _ _ _ _ _ _ _).mono ?_; rintro _ w2 ⟨rfl, h2⟩; have B2 := B1.gr h2; have c2 := B2.cell
  go_wp2_with fail
  refine (toCnt_any _ _ _ _ _ _ _).mono ?_; rintro _ w3 ⟨rfl, h3⟩
  go_wp2_with fail
  refine (impl_CntOk_any _ _ _ _ _ _ _).mono ?_; rintro _ w4 ⟨rfl, h4⟩
  go_wp2
  go_ret
  exact ⟨rfl, (((Gr.refl w).alloc _).trans h1 |>.trans h2 |>.trans h3 |>.trans h4)⟩

theorem FnExactCntOk_walk {H : Type} {enc : TypeId × Value → H} (W : World) (base : Nat) (v : Value) (d : DataW H) (p : List MemPlace) (hv : Value.okWide Try.prog W .any base 23 v)
    (h : DataW.Trod enc Try.prog W 0 (fun _ => true) true 23 v d p) : Calls Try.prog 3 #[v] W fun e W' => e = .returned (.bool true) ∧ Gr W W' := by
  obtain ⟨⟨l⟩, rfl, hsz⟩ := okWide_struct Try.underlying23 hv
  obtain ⟨n, hn⟩ := h
  obtain ⟨hl, hf⟩ := rd_field Try.underlying23 hn
  have c0 : Try.prog.cellsOf 23 = 6 := by kernel_rfl
  have c1 : Try.prog.cellsOf 3 = 1 := by kernel_rfl
  rw [c0] at hl
  match l, hl with
  | [x0, x1, x2, x3, x4, x5], _ =>
    obtain ⟨_, y0, g0⟩ := hf 0 _ _ _ rfl rfl c1
    obtain ⟨_, y1, g1⟩ := hf 1 _ _ _ rfl rfl c1
    obtain ⟨_, y2, g2⟩ := hf 2 _ _ _ rfl rfl c1
    obtain ⟨_, y3, g3⟩ := hf 3 _ _ _ rfl rfl c1
    obtain ⟨_, y4, g4⟩ := hf 4 _ _ _ rfl rfl c1
    obtain ⟨_, y5, g5⟩ := hf 5 _ _ _ rfl rfl c1
    obtain ⟨a0, e0, _⟩ := rd_int Try.underlying3 g0 rfl
    obtain ⟨a1, e1, _⟩ := rd_int Try.underlying3 g1 rfl
    obtain ⟨a2, e2, _⟩ := rd_int Try.underlying3 g2 rfl
    obtain ⟨a3, e3, _⟩ := rd_int Try.underlying3 g3 rfl
    obtain ⟨a4, e4, _⟩ := rd_int Try.underlying3 g4 rfl
    obtain ⟨a5, e5, _⟩ := rd_int Try.underlying3 g5 rfl
    simp [Value.cells] at e0 e1 e2 e3 e4 e5
    subst e0; subst e1; subst e2; subst e3; subst e4; subst e5
    exact exactCntOk_any _ _ _ _ _ _ W
set_option maxRecDepth 100000 in
theorem FnExactCntOk_lifted (os : Os) (started : os.Started) (H : Type) (enc : TypeId × Value → H) :
    ReturnsInHanded {} Try.checked os 3 .any (Rows.fnExactCntOkSpec.pre6 enc Try.prog Try.f3 Rows.fnExactCntOkRow.domain false) (Rows.fnExactCntOkSpec.post enc Try.prog Try.f3 false true false false) := by
  refine returnsInHanded_of_change (C := Try.checked) Row.own started (by kernel_rfl) Try.func3
    (ChangeSpec.witness6 (enc := enc) (C := Try.checked) false ⟨#[], #[.agg #[.int .i64 0, .int .i64 0, .int .i64 0, .int .i64 0, .int .i64 0, .int .i64 0]], []⟩ 12 (by kernel_rfl) (by kernel_rfl) (by kernel_rfl) (by kernel_rfl)) ?_
  intro W base args ds gs before hval0 hW hcnd _
  have hval : ∀ (j : Nat) t v, Try.f3.params[j]? = some t → args[j]? = some v → Value.okWide Try.prog W .any base t v := hval0
  have hW' := hW
  obtain ⟨p, q, hA0, hV, rfl, hfz, hnd⟩ := hW
  have hA : DataW.TrodAll enc Try.prog W 0 (fun _ => true) true Try.f3.params.toList args.toList ds p := hA0
  obtain ⟨rfl, rfl⟩ := trodVars_none hV
  have hkeep := fun (W' : World) (hb : Below W.heap.size W W') => trodAll_keep Row.laidOut hb Try.f3.params.toList args.toList ds p (by rw [Try.params3]; intro t ht; simp at ht; (repeat (first | (obtain rfl | ht := ht) | subst ht)) <;> exact ⟨by kernel_rfl, of_decide_eq_true (by kernel_rfl)⟩) hA
  rw [Try.params3] at hA hval
  obtain ⟨v0, vs0, d0, ds0, p0, q0, hargs, rfl, rfl, h0, r0⟩ := trodAll_cons hA
  obtain ⟨rfl, rfl, rfl⟩ := trodAll_nil r0
  obtain rfl : args = #[v0] := by cases args; simp_all
  refine (FnExactCntOk_walk W base v0 d0 p0 (hval 0 _ v0 rfl rfl) h0).mono fun e W' ⟨he, bel⟩ => ?_
  subst he
  exact ⟨_, rfl, _, _, _, [], _, [], hW', trodAll_mk1 (shut_bool Try.underlying4 _), hkeep W' bel, rfl, bel.frame _, fun h => by cases h⟩
theorem FnExactCntOk_holds : Rows.FnExactCntOkSaid :=
  OpenClaim.holds_of_wide 3 Try.f3 rfl rfl rfl rfl rfl rfl rfl ⟨rfl, rfl, rfl, rfl, rfl⟩ rfl rfl rfl rfl rfl (by kernel_rfl) Try.func3 (by kernel_rfl)
    (of_decide_eq_true (by kernel_rfl)) (by unfold Func.isWrapper; first | (rw [if_pos (by decide +kernel)]; kernel_rfl) | (rw [if_neg (by decide +kernel)]; exact ⟨rfl, rfl⟩))
    (fun os started H enc _ => FnExactCntOk_lifted os started H enc)
end Go.Proofs.Ytjdclaglelldeaa
