/- The law FnExactCodWord: the walk. -/
import Derived.Test.YtppocjgjjjojiaaDoorCodWordSpec
import Derived.Test.YtppocjgjjjojiaaDoorRow
import Derived.Test.YtppocjgjjjojiaaDoorLaid
import Derived.ChangeVars
import Derived.JoinedOf
import Derived.LaidLaws
import Derived.LaidHandle
import Derived.OpenVars
import Derived.ChangeBears2
import Derived.Test.YtppocjgjjjojiaaDoorTie
import Derived.Test.YtppocjgjjjojiaaDoorCards
namespace Go.Proofs.YtppocjgjjjojiaaDoor
open Go.RowKit Go.ChangeShapes Go.WideShapes Go.ChangeAt
set_option maxRecDepth 100000

theorem toCod_any (a b c d e f : Int) (w : World) :
    Calls Tryd.prog 16 #[.agg #[.int .i64 a, .int .i64 b, .int .i64 c, .int .i64 d, .int .i64 e, .int .i64 f]] w fun r w' => r = .returned (.agg #[.int .i64 a, .int .i64 b, .int .i64 c, .int .i64 d, .int .i64 e, .int .i64 f]) ∧ Gr w w' := by
  go_enter Tryd.func16, Tryd.ntmps16
  go_wp2
  exact bodyPost_ret (v := .agg #[.int .i64 a, .int .i64 b, .int .i64 c, .int .i64 d, .int .i64 e, .int .i64 f]) (by simp [results, Tryd.results16, go_sem]) rfl ⟨rfl, (((Gr.refl _).alloc _).alloc _).alloc _⟩

set_option maxHeartbeats 1000000 in
theorem exactCodWord_any (a b c d e f : Int) (w : World) (hk : KF w) :
    Calls Tryd.prog 3 #[.agg #[.int .i64 a, .int .i64 b, .int .i64 c, .int .i64 d, .int .i64 e, .int .i64 f]] w fun r w' => r = .returned (.bool true) ∧ Gr w w' := by
  go_enter Tryd.func3, Tryd.ntmps3
  go_wp2_with fail
  refine (toCod_any _ _ _ _ _ _ _).mono ?_; rintro _ w1 ⟨rfl, h1⟩; have B1 := (BK.new w _ _).gr h1; have c1 := B1.cell
  go_wp2_with fail
  refine (spec_CodWord_any _ _ _ _ _ _ _).mono ?_; rintro _ w2 ⟨rfl, h2⟩; have B2 := B1.gr h2; have c2 := B2.cell
  go_wp2_with fail
  refine (toCod_any _ _ _ _ _ _ _).mono ?_; rintro _ w3 ⟨rfl, h3⟩
  have K3 := hk.gr (((Gr.refl w).alloc _).trans h1 |>.trans h2 |>.trans h3)
  go_wp2_with fail
  refine (CodWord_any _ _ _ _ _ _ _ K3).mono ?_; rintro _ w4 ⟨rfl, h4⟩
  go_wp2
  go_ret
  exact ⟨rfl, (((Gr.refl w).alloc _).trans h1 |>.trans h2 |>.trans h3 |>.trans h4)⟩

theorem FnExactCodWord_walk {H : Type} {enc : TypeId × Value → H} (W : World) (hk : KF W) (base : Nat) (v : Value) (d : DataW H) (p : List MemPlace) (hv : Value.okWide Tryd.prog W .any base 23 v)
    (h : DataW.Trod enc Tryd.prog W 0 (fun _ => true) true 23 v d p) : Calls Tryd.prog 3 #[v] W fun e W' => e = .returned (.bool true) ∧ Gr W W' := by
  obtain ⟨⟨l⟩, rfl, hsz⟩ := okWide_struct Tryd.underlying23 hv
  obtain ⟨n, hn⟩ := h
  obtain ⟨hl, hf⟩ := rd_field Tryd.underlying23 hn
  have c0 : Tryd.prog.cellsOf 23 = 6 := by kernel_rfl
  have c1 : Tryd.prog.cellsOf 3 = 1 := by kernel_rfl
  rw [c0] at hl
  match l, hl with
  | [x0, x1, x2, x3, x4, x5], _ =>
    obtain ⟨_, y0, g0⟩ := hf 0 _ _ _ rfl rfl c1
    obtain ⟨_, y1, g1⟩ := hf 1 _ _ _ rfl rfl c1
    obtain ⟨_, y2, g2⟩ := hf 2 _ _ _ rfl rfl c1
    obtain ⟨_, y3, g3⟩ := hf 3 _ _ _ rfl rfl c1
    obtain ⟨_, y4, g4⟩ := hf 4 _ _ _ rfl rfl c1
    obtain ⟨_, y5, g5⟩ := hf 5 _ _ _ rfl rfl c1
    obtain ⟨a0, e0, _⟩ := rd_int Tryd.underlying3 g0 rfl
    obtain ⟨a1, e1, _⟩ := rd_int Tryd.underlying3 g1 rfl
    obtain ⟨a2, e2, _⟩ := rd_int Tryd.underlying3 g2 rfl
    obtain ⟨a3, e3, _⟩ := rd_int Tryd.underlying3 g3 rfl
    obtain ⟨a4, e4, _⟩ := rd_int Tryd.underlying3 g4 rfl
    obtain ⟨a5, e5, _⟩ := rd_int Tryd.underlying3 g5 rfl
    simp [Value.cells] at e0 e1 e2 e3 e4 e5
    subst e0; subst e1; subst e2; subst e3; subst e4; subst e5
    exact exactCodWord_any _ _ _ _ _ _ W hk

/-- The table's cells. -/
def kCells : Array Value := ((List.range 16).flatMap fun k => [.bool (kd k), .bool (ka k), .bool (kb k), .int .i64 (kp k), .int .u64 (kw k : Int), .bool (ks k)]).toArray
noncomputable def laidWorld (os : Os) : World :=
  let w0 := World.holding Tryd.prog os ⟨#[], #[], []⟩
  { w0 with heap := w0.heap.modify 0 fun
      | .cells _ t frozen => .cells kCells t frozen
      | o => o }
abbrev kLaid : List (String × DataW Unit) := [("loop.example/harbinger/impl.kindFields", Rows.laid_loop_example_harbinger_impl_kindFields)]
theorem laidWorld_met (os : Os) (args : Array Value) : laidMetH Tryd.prog kLaid ((laidWorld os).forCall (fun _ _ => 0) ⟨#[], args, []⟩).memory := by
  refine laidMetH_of_parts (laidMet_of_run' 12 ?_ ?_) (by kernel_rfl)
  · kernel_rfl
  · kernel_rfl

theorem FnExactCodWord_lifted (os : Os) (started : os.Started) (H : Type) (enc : TypeId × Value → H) :
    ReturnsInHanded {} Tryd.checked os 3 .any (fun w args => (Rows.fnExactCodWordSpec.pre enc Tryd.prog Tryd.f3 [] false w args ∧ laidMetH Tryd.prog kLaid w) ∧ sizedMet enc Tryd.prog Tryd.f3 (OpenSpec.ofChange Rows.fnExactCodWordSpec) false w args)
      (Rows.fnExactCodWordSpec.post enc Tryd.prog Tryd.f3 false true false false) := by
  refine returnsInHanded_of_change_and (C := Tryd.checked) (X := fun w _ => laidMetH Tryd.prog kLaid w) (fun _ _ _ hh h => h.of_heap hh) Row.own started (by kernel_rfl) Tryd.func3
    (ChangeSpec.witness_at (enc := enc) (C := Tryd.checked) (os := os) (X := fun w _ => laidMetH Tryd.prog kLaid w) false (laidWorld os) #[.agg #[.int .i64 0, .int .i64 0, .int .i64 0, .int .i64 0, .int .i64 0, .int .i64 0]] 12 rfl (by kernel_rfl) (by kernel_rfl) (by kernel_rfl) (by kernel_rfl) (by kernel_rfl) (laidWorld_met os _)) ?_
  intro W base args ds gs before hval0 hW _ _ hL _
  have hval : ∀ (j : Nat) t v, Tryd.f3.params[j]? = some t → args[j]? = some v → Value.okWide Tryd.prog W .any base t v := hval0
  have hL' : laidMet Tryd.prog kLaid W := hL
  have hk := KF_of_laid hL' (List.mem_singleton.2 rfl)
  have hW' := hW
  obtain ⟨p, q, hA0, hV0, rfl, hfz, hnd⟩ := hW
  have hA : DataW.TrodAll enc Tryd.prog W 0 (fun _ => true) true Tryd.f3.params.toList args.toList ds p := hA0
  have hV : DataW.TrodVars enc Tryd.prog W (fun _ => true) ["loop.example/harbinger/impl.kindFields"] gs q := hV0
  have hkeep := fun (W' : World) (hb : Below W.heap.size W W') => trodAll_keep Row.laidOut hb Tryd.f3.params.toList args.toList ds p (by rw [Tryd.params3]; intro t ht; simp at ht; (repeat (first | (obtain rfl | ht := ht) | subst ht)) <;> exact ⟨by kernel_rfl, of_decide_eq_true (by kernel_rfl)⟩) hA
  have hvars := fun (W' : World) (hb : Below W.heap.size W W') => hb.trodVars Row.laidOut (by kernel_rfl) hV
  rw [Tryd.params3] at hA hval
  obtain ⟨v0, vs0, d0, ds0, p0, q0, hargs, rfl, rfl, h0, r0⟩ := trodAll_cons hA
  obtain ⟨rfl, rfl, rfl⟩ := trodAll_nil r0
  obtain rfl : args = #[v0] := by cases args; simp_all
  obtain ⟨g1, hg1⟩ : ∃ g1, gs = [g1] := by
    obtain ⟨_, _, _, _, d, _, e, _⟩ := trodVars_one hV
    exact ⟨d, e⟩
  subst hg1
  refine (FnExactCodWord_walk W hk base v0 d0 p0 (hval 0 _ v0 rfl rfl) h0).mono fun e W' ⟨he, bel⟩ => ?_
  subst he
  exact ⟨_, rfl, _, _, _, [], _, _, hW', trodAll_mk1 (shut_bool Tryd.underlying4 _), hkeep W' bel, hvars W' bel, bel.frame _, fun h => by cases h⟩
theorem FnExactCodWord_holds : Rows.FnExactCodWordSaid :=
  OpenClaim.holds_of_wide 3 Tryd.f3 rfl rfl rfl rfl rfl rfl rfl ⟨rfl, rfl, rfl, rfl, rfl⟩ rfl rfl rfl rfl rfl (by kernel_rfl) Tryd.func3 (by kernel_rfl)
    (of_decide_eq_true (by kernel_rfl)) (by unfold Func.isWrapper; first | (rw [if_pos (by decide +kernel)]; kernel_rfl) | (rw [if_neg (by decide +kernel)]; exact ⟨rfl, rfl⟩))
    (fun os started H enc _ => FnExactCodWord_lifted os started H enc)
end Go.Proofs.YtppocjgjjjojiaaDoor
