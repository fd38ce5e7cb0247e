/- What is over was named: of what is drawn for CntOk the program and the reference agree, and with more it is not. No condition. -/
import Derived.Test.YtjdclaglelldeaaCnt
import Derived.Test.YtjdclaglelldeaaDrawCnt
import Derived.Test.YtjdclaglelldeaaRow
namespace Go.Proofs.Ytjdclaglelldeaa
open Go.RowKit Go.ChangeShapes Go.WideShapes Go.ChangeAt

def DrawCntP (w : World) (e : Ending) (w' : World) : Prop := ∃ a b c d x y : Int, e = .returned (.agg #[.int .i64 a, .int .i64 b, .int .i64 c, .int .i64 d, .int .i64 x, .int .i64 y]) ∧ Gr w w'
theorem DrawCntOk_any (A : Option Addr) (n c : Nat) (w : World) (hc : n ≤ c) (hy : Bytes w A n) :
    Calls Try.prog 10 #[.slice A n c] w (DrawCntP w) := by
  go_enter Try.func10, Try.ntmps10
  go_wp2_with fail
  have R0 := BK.new w #[.int .i64 0, .int .i64 0, .int .i64 0, .int .i64 0, .int .i64 0, .int .i64 0] 25
  refine (open_any A n c _ hc (hy.mu (S := fun _ => False) (.of_gr ((Gr.refl _).alloc _)) (fun _ _ _ _ h => h))).mono ?_; rintro _ w1 ⟨gr, rfl, hg, k1, r1⟩
  have hg' : w.heap.size < gr := by simp at hg; omega
  go_wp2_with fail
  refine (l20Cnt_any gr 0 w1 (by omega) r1).mono ?_; rintro _ w2 ⟨a, b, c, d, x, y, rfl, k2, r2⟩
  have R2 := (R0.gr k1).mu k2 (Nat.ne_of_lt hg')
  have q := R2.cell; have q' := R2.free
  go_wp2_with fail
  have RE := (((((R2.set 0 (.int .i64 a)).set 1 (.int .i64 b)).set 2 (.int .i64 c)).set 3 (.int .i64 d)).set 4 (.int .i64 x)).set 5 (.int .i64 y)
  have hq := RE.cell
  have K : Gr w w2 := ((Mu.of_gr (S := (· = gr)) (((Gr.refl w).alloc _).trans k1)).trans k2).gr (fun k hk e => by omega)
  exact bodyPost_ret (v := .agg #[.int .i64 a, .int .i64 b, .int .i64 c, .int .i64 d, .int .i64 x, .int .i64 y]) (by simp [results, Try.results10, go_sem, hq]) rfl
    ⟨a, b, c, d, x, y, rfl, (((((K.set (p := ⟨_, 0, none⟩) (Nat.le_refl _) _).set (p := ⟨_, 1, none⟩) (Nat.le_refl _) _).set (p := ⟨_, 2, none⟩) (Nat.le_refl _) _).set (p := ⟨_, 3, none⟩) (Nat.le_refl _) _).set (p := ⟨_, 4, none⟩) (Nat.le_refl _) _).set (p := ⟨_, 5, none⟩) (Nat.le_refl _) _⟩

theorem cnt_over (a b c d e f : Int) (h : cntOk a b c d e f = true) : cntOk a (wrap64 (wrap64 (2 * a) + 1)) c d e f = false ∧ cntOk a b c d (wrap64 (d + 1)) f = false ∧ cntOk 10000 b c d e f = false := by
  simp only [cntOk, inB, Bool.and_eq_true, decide_eq_true_eq] at h
  have w1 : dbl a = 2 * a := by unfold dbl wrap64; omega
  have w2 : wrap64 (wrap64 (2 * a) + 1) = 2 * a + 1 := by unfold wrap64; omega
  have w3 : wrap64 (d + 1) = d + 1 := by unfold wrap64; omega
  refine ⟨?_, ?_, ?_⟩
  · simp [cntOk, inB, w1, w2]; omega
  · simp [cntOk, inB, w1, w3]; omega
  · simp [cntOk, inB]
theorem cnt_zero : cntOk 0 0 0 0 0 0 = true := by simp [cntOk, inB, dbl, wrap64]

set_option maxRecDepth 100000 in
set_option maxHeartbeats 4000000 in
theorem cntOk_law (A : Option Addr) (n c : Nat) (w : World) (hc : n ≤ c) (hy : Bytes w A n) :
    Calls Try.prog 4 #[.slice A n c] w fun r w' => r = .returned (.bool true) ∧ Gr w w' := by
  by_cases hn : (n : Int) > 1048576
  · go_enter Try.func4, Try.ntmps4
    go_wp2_with fail
    go_ret
    exact ⟨rfl, Gr.refl _⟩
  · go_enter Try.func4, Try.ntmps4
    go_wp2_with fail
    refine (DrawCntOk_any A n c w hc hy).mono ?_; rintro _ w1 ⟨a, b, c', d, x, y, rfl, k1⟩
    go_wp2_with fail
    refine (impl_CntOk_any _ _ _ _ _ _ _).mono ?_; rintro _ w2 ⟨rfl, k2⟩
    have B2 := (BK.new w1 _ _).gr k2
    have q2 := B2.cell
    go_wp2_with fail
    refine (spec_CntOk_any _ _ _ _ _ _ _).mono ?_; rintro _ w3 ⟨rfl, k3⟩
    have B3 := B2.gr k3
    clear q2 B2
    have q3 := B3.cell
    go_wp2_with fail
    refine (impl_CntOk_any _ _ _ _ _ _ _).mono ?_; rintro _ w4 ⟨rfl, k4⟩
    have B4 := B3.gr k4
    clear q3 B3
    have q4 := B4.cell
    have z0 := cnt_zero
    have K4 : Gr w w4 := k1.trans ((((Gr.refl w1).alloc _).trans k2).trans k3 |>.trans k4)
    clear k1 k2 k3 k4
    cases hok : cntOk a b c' d x y
    · go_wp2_with fail
      go_ret
      exact ⟨rfl, K4⟩
    · obtain ⟨o1, o2, o3⟩ := cnt_over _ _ _ _ _ _ hok
      have O1 := Lib.hid o1; have O2 := Lib.hid o2; have O3 := Lib.hid o3
      clear o1 o2 o3
      have l4 := B4.lt
      go_wp2_with fail
      refine (impl_CntOk_any _ _ _ _ _ _ _).mono ?_; rintro _ w5 ⟨rfl, k5⟩
      have Y5 := ((BK.new (w4.alloc (.cells #[.int .i64 a, .int .i64 (wrap64 (wrap64 (2 * a) + 1)), .int .i64 c', .int .i64 d, .int .i64 x, .int .i64 y] 25))
        #[.int .i64 a, .int .i64 b, .int .i64 c', .int .i64 d, .int .i64 (wrap64 (d + 1)), .int .i64 y] 25).alloc (.cells #[.int .i64 10000, .int .i64 b, .int .i64 c', .int .i64 d, .int .i64 x, .int .i64 y] 25)).gr k5
      have Z5 := (BK.new ((w4.alloc (.cells #[.int .i64 a, .int .i64 (wrap64 (wrap64 (2 * a) + 1)), .int .i64 c', .int .i64 d, .int .i64 x, .int .i64 y] 25)).alloc
        (.cells #[.int .i64 a, .int .i64 b, .int .i64 c', .int .i64 d, .int .i64 (wrap64 (d + 1)), .int .i64 y] 25)) #[.int .i64 10000, .int .i64 b, .int .i64 c', .int .i64 d, .int .i64 x, .int .i64 y] 25).gr k5
      simp only [World.size_alloc] at Y5 Z5
      have K5 : Gr w w5 := K4.trans (((((Gr.refl w4).alloc _).alloc _).alloc _).trans k5)
      rw [O1.out]
      have y5 := Y5.cell
      clear q4
      go_wp2_with fail
      refine (impl_CntOk_any _ _ _ _ _ _ _).mono ?_; rintro _ w6 ⟨rfl, k6⟩
      rw [O2.out]
      have z6 := (Z5.gr k6).cell
      go_wp2_with fail
      refine (impl_CntOk_any _ _ _ _ _ _ _).mono ?_; rintro _ w7 ⟨rfl, k7⟩
      rw [O3.out]
      go_wp2_with fail
      go_ret
      exact ⟨rfl, (K5.trans k6).trans k7⟩

theorem FnCntOk_walk {H : Type} {enc : TypeId × Value → H} (W : World) (base : Nat) (v : Value) (d : DataW H) (p : List MemPlace) (hv : Value.okWide Try.prog W .any base 28 v)
    (h : DataW.Trod enc Try.prog W 0 (fun _ => true) true 28 v d p) : Calls Try.prog 4 #[v] W fun e W' => e = .returned (.bool true) ∧ Gr W W' := by
  obtain ⟨A, n, c, rfl, hc, hy⟩ := open_code hv h
  exact cntOk_law A n c W hc hy
set_option maxRecDepth 100000 in
theorem FnCntOk_lifted (os : Os) (started : os.Started) (H : Type) (enc : TypeId × Value → H) :
    ReturnsInHanded {} Try.checked os 4 .any (Rows.fnCntOkSpec.pre6 enc Try.prog Try.f4 Rows.fnCntOkRow.domain false) (Rows.fnCntOkSpec.post enc Try.prog Try.f4 false true false false) := by
  refine returnsInHanded_of_change (C := Try.checked) Row.own started (by kernel_rfl) Try.func4
    (ChangeSpec.witness6 (enc := enc) (C := Try.checked) false ⟨#[], #[.slice none 0 0], []⟩ 12 (by kernel_rfl) (by kernel_rfl) (by kernel_rfl) (by kernel_rfl)) ?_
  intro W base args ds gs before hval0 hW hcnd _
  have hval : ∀ (j : Nat) t v, Try.f4.params[j]? = some t → args[j]? = some v → Value.okWide Try.prog W .any base t v := hval0
  have hW' := hW
  obtain ⟨p, q, hA0, hV, rfl, hfz, hnd⟩ := hW
  have hA : DataW.TrodAll enc Try.prog W 0 (fun _ => true) true Try.f4.params.toList args.toList ds p := hA0
  obtain ⟨rfl, rfl⟩ := trodVars_none hV
  have hkeep := fun (W' : World) (hb : Below W.heap.size W W') => trodAll_keep Row.laidOut hb Try.f4.params.toList args.toList ds p (by rw [Try.params4]; intro t ht; simp at ht; (repeat (first | (obtain rfl | ht := ht) | subst ht)) <;> exact ⟨by kernel_rfl, of_decide_eq_true (by kernel_rfl)⟩) hA
  rw [Try.params4] at hA hval
  obtain ⟨v0, vs0, d0, ds0, p0, q0, hargs, rfl, rfl, h0, r0⟩ := trodAll_cons hA
  obtain ⟨rfl, rfl, rfl⟩ := trodAll_nil r0
  obtain rfl : args = #[v0] := by cases args; simp_all
  refine (FnCntOk_walk W base v0 d0 p0 (hval 0 _ v0 rfl rfl) h0).mono fun e W' ⟨he, bel⟩ => ?_
  subst he
  exact ⟨_, rfl, _, _, _, [], _, [], hW', trodAll_mk1 (shut_bool Try.underlying4 _), hkeep W' bel, rfl, bel.frame _, fun h => by cases h⟩
theorem FnCntOk_holds : Rows.FnCntOkSaid :=
  OpenClaim.holds_of_wide 4 Try.f4 rfl rfl rfl rfl rfl rfl rfl ⟨rfl, rfl, rfl, rfl, rfl⟩ rfl rfl rfl rfl rfl (by kernel_rfl) Try.func4 (by kernel_rfl)
    (of_decide_eq_true (by kernel_rfl)) (by unfold Func.isWrapper; first | (rw [if_pos (by decide +kernel)]; kernel_rfl) | (rw [if_neg (by decide +kernel)]; exact ⟨rfl, rfl⟩))
    (fun os started H enc _ => FnCntOk_lifted os started H enc)
end Go.Proofs.Ytjdclaglelldeaa
