/- The law FnExactCodRead: the walk and the row. -/
import Derived.Test.YtppocjgjjjojiaaDoorCodReadSpec
import Derived.Test.YtppocjgjjjojiaaDoorLawExactCodWord
namespace Go.Proofs.YtppocjgjjjojiaaDoor
open Go.RowKit Go.ChangeShapes Go.WideShapes Go.ChangeAt
set_option maxRecDepth 100000

theorem eqCod_same (a b c d e f : Int) (w : World) :
    Calls Tryd.prog 20 #[.agg #[.int .i64 a, .int .i64 b, .int .i64 c, .int .i64 d, .int .i64 e, .int .i64 f], .agg #[.int .i64 a, .int .i64 b, .int .i64 c, .int .i64 d, .int .i64 e, .int .i64 f]] w fun r w' => r = .returned (.bool true) ∧ Gr w w' := by
  go_enter Tryd.func20, Tryd.ntmps20
  go_wp2_with fail
  go_ret
  exact ⟨rfl, ((Gr.refl _).alloc _).alloc _⟩
theorem rdRes_form (b : Int) : ∃ k d a b' f n ok, rdRes b = .tuple #[instV k d a b' f n, .bool ok] := by
  unfold rdRes
  split
  · unfold rdResI
    split
    · exact ⟨_, _, _, _, _, _, _, rfl⟩
    · exact ⟨_, _, _, _, _, _, _, rfl⟩
  · exact ⟨_, _, _, _, _, _, _, rfl⟩
set_option maxHeartbeats 1000000 in
theorem exactCodRead_any (b : Int) (w : World) (hk : KF w) :
    Calls Tryd.prog 4 #[.int .i64 b] w fun r w' => r = .returned (.bool true) ∧ Gr w w' := by
  obtain ⟨k, d, a, b', f, n, ok, hR⟩ := rdRes_form b
  have HR := Lib.hid hR; clear hR
  go_enter Tryd.func4, Tryd.ntmps4
  go_wp2_with fail
  refine (spec_CodRead_any _ _).mono ?_; rintro _ w1 ⟨rfl, h1⟩
  rw [HR.out]
  unfold instV
  go_wp2_with fail
  have G2 := h1.alloc (.cells #[.int .i64 k, .int .i64 d, .int .i64 a, .int .i64 b', .int .i64 f, .int .i64 n] 25)
  have B2 := BK.new w1 #[.int .i64 k, .int .i64 d, .int .i64 a, .int .i64 b', .int .i64 f, .int .i64 n] 25
  refine (CodRead_any _ _ (hk.gr G2)).mono ?_; rintro _ w2 ⟨rfl, h2⟩
  rw [HR.out]
  unfold instV
  have B3 := B2.gr h2
  have c3 := B3.cell
  have l3 := B3.lt
  have hlt : w1.heap.size < w2.heap.size := l3
  have G3 := Lib.hid (G2.trans h2)
  clear B2 h2 G2
  go_wp2_with fail
  have G4 := Lib.hid (G3.out.alloc (.cells #[.int .i64 k, .int .i64 d, .int .i64 a, .int .i64 b', .int .i64 f, .int .i64 n] 25))
  refine (eqCod_same _ _ _ _ _ _ _).mono ?_; rintro _ w4 ⟨rfl, h4⟩
  cases ok
  all_goals
    go_wp2_with fail
    go_ret
    exact ⟨rfl, G4.out.trans h4⟩
/-- The law's walk over an argument that was laid. -/
theorem FnExactCodRead_walk (W : World) (hk : KF W) (base : Nat) (v : Value) (hv : Value.okWide Tryd.prog W .any base 3 v) :
    Calls Tryd.prog 4 #[v] W fun e W' => e = .returned (.bool true) ∧ Gr W W' := by
  obtain ⟨n, rfl⟩ := okWide_int Tryd.underlying3 hv
  exact exactCodRead_any _ W hk
theorem FnExactCodRead_lifted (os : Os) (started : os.Started) (H : Type) (enc : TypeId × Value → H) :
    ReturnsInHanded {} Tryd.checked os 4 .any (fun w args => (Rows.fnExactCodReadSpec.pre enc Tryd.prog Tryd.f4 [] false w args ∧ laidMetH Tryd.prog kLaid w) ∧ sizedMet enc Tryd.prog Tryd.f4 (OpenSpec.ofChange Rows.fnExactCodReadSpec) false w args)
      (Rows.fnExactCodReadSpec.post enc Tryd.prog Tryd.f4 false true false false) := by
  refine returnsInHanded_of_change_and (C := Tryd.checked) (X := fun w _ => laidMetH Tryd.prog kLaid w) (fun _ _ _ hh h => h.of_heap hh) Row.own started (by kernel_rfl) Tryd.func4
    (ChangeSpec.witness_at (enc := enc) (C := Tryd.checked) (os := os) (X := fun w _ => laidMetH Tryd.prog kLaid w) false (laidWorld os) #[.int .i64 0] 12 rfl (by kernel_rfl) (by kernel_rfl) (by kernel_rfl) (by kernel_rfl) (by kernel_rfl) (laidWorld_met os _)) ?_
  intro W base args ds gs before hval0 hW _ _ hL _
  have hval : ∀ (j : Nat) t v, Tryd.f4.params[j]? = some t → args[j]? = some v → Value.okWide Tryd.prog W .any base t v := hval0
  have hL' : laidMet Tryd.prog kLaid W := hL
  have hk := KF_of_laid hL' (List.mem_singleton.2 rfl)
  have hW' := hW
  obtain ⟨p, q, hA0, hV0, rfl, hfz, hnd⟩ := hW
  have hA : DataW.TrodAll enc Tryd.prog W 0 (fun _ => true) true Tryd.f4.params.toList args.toList ds p := hA0
  have hV : DataW.TrodVars enc Tryd.prog W (fun _ => true) ["loop.example/harbinger/impl.kindFields"] gs q := hV0
  have hkeep := fun (W' : World) (hb : Below W.heap.size W W') => trodAll_keep Row.laidOut hb Tryd.f4.params.toList args.toList ds p (by rw [Tryd.params4]; intro t ht; simp at ht; (repeat (first | (obtain rfl | ht := ht) | subst ht)) <;> exact ⟨by kernel_rfl, of_decide_eq_true (by kernel_rfl)⟩) hA
  have hvars := fun (W' : World) (hb : Below W.heap.size W W') => hb.trodVars Row.laidOut (by kernel_rfl) hV
  rw [Tryd.params4] at hA hval
  obtain ⟨v0, vs0, d0, ds0, p0, q0, hargs, rfl, rfl, h0, r0⟩ := trodAll_cons hA
  obtain ⟨rfl, rfl, rfl⟩ := trodAll_nil r0
  obtain rfl : args = #[v0] := by cases args; simp_all
  obtain ⟨g1, hg1⟩ : ∃ g1, gs = [g1] := by
    obtain ⟨_, _, _, _, d, _, e, _⟩ := trodVars_one hV
    exact ⟨d, e⟩
  subst hg1
  refine (FnExactCodRead_walk W hk base v0 (hval 0 _ v0 rfl rfl)).mono fun e W' ⟨he, bel⟩ => ?_
  subst he
  exact ⟨_, rfl, _, _, _, [], _, _, hW', trodAll_mk1 (shut_bool Tryd.underlying4 _), hkeep W' bel, hvars W' bel, bel.frame _, fun h => by cases h⟩
theorem FnExactCodRead_holds : Rows.FnExactCodReadSaid :=
  OpenClaim.holds_of_wide 4 Tryd.f4 rfl rfl rfl rfl rfl rfl rfl ⟨rfl, rfl, rfl, rfl, rfl⟩ rfl rfl rfl rfl rfl (by kernel_rfl) Tryd.func4 (by kernel_rfl)
    (of_decide_eq_true (by kernel_rfl)) (by unfold Func.isWrapper; first | (rw [if_pos (by decide +kernel)]; kernel_rfl) | (rw [if_neg (by decide +kernel)]; exact ⟨rfl, rfl⟩))
    (fun os started H enc _ => FnExactCodRead_lifted os started H enc)
end Go.Proofs.YtppocjgjjjojiaaDoor
