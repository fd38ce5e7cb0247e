/- The law FnCodWord: of what is drawn the program and the reference agree, and codRead of CodWord of an instruction is it. -/
import Derived.Test.YtppocjgjjjojiaaDoorDrawInst
import Derived.Test.YtppocjgjjjojiaaDoorLawExactCodRead
import Derived.Test.YtppocjgjjjojiaaDoorCodBack
namespace Go.Proofs.YtppocjgjjjojiaaDoor
open Go.RowKit Go.ChangeShapes Go.WideShapes Go.ChangeAt
set_option maxRecDepth 100000

def DrawInstP (w : World) (e : Ending) (w' : World) : Prop := ∃ k d a b f n : Int, e = .returned (instV k d a b f n) ∧ Gr w w'
def DrawNumP (w : World) (e : Ending) (w' : World) : Prop := ∃ n : Int, e = .returned (.int .i64 n) ∧ Gr w w'
set_option maxHeartbeats 1000000 in
theorem DrawCodWord_any (A : Option Addr) (n c : Nat) (w : World) (hc : n ≤ c) (hy : Bytes w A n) :
    Calls Tryd.prog 21 #[.slice A n c] w (DrawInstP w) := by
  go_enter Tryd.func21, Tryd.ntmps21
  go_wp2_with fail
  have R0 := BK.new w #[.int .i64 0, .int .i64 0, .int .i64 0, .int .i64 0, .int .i64 0, .int .i64 0] 25
  refine (open_any A n c _ hc (hy.mu (S := fun _ => False) (.of_gr ((Gr.refl _).alloc _)) (fun _ _ _ _ h => h))).mono ?_; rintro _ w1 ⟨gr, rfl, hg, k1, r1⟩
  have hg' : w.heap.size < gr := by simp at hg; omega
  go_wp2_with fail
  refine (l20Inst_any gr 0 5 w1 (by omega) r1 (by omega)).mono ?_; rintro _ w2 ⟨k, d, a, b, f, n', rfl, k2, r2⟩
  unfold instV
  have R2 := (R0.gr k1).mu k2 (Nat.ne_of_lt hg')
  have q := R2.cell; have q' := R2.free; have ql := R2.lt
  have K : Gr w w2 := ((Mu.of_gr (S := (· = gr)) (((Gr.refl w).alloc _).trans k1)).trans k2).gr (fun k hk e => by omega)
  have K := Lib.hid K; clear k1 k2 r1 r2
  go_wp2_with fail
  have hq := (R2.six (.int .i64 k) (.int .i64 d) (.int .i64 a) (.int .i64 b) (.int .i64 f) (.int .i64 n')).cell
  exact bodyPost_ret (v := instV k d a b f n') (by simp [results, Tryd.results21, go_sem, hq, instV]) rfl ⟨k, d, a, b, f, n', rfl, K.out.six (Nat.le_refl _) _ _ _ _ _ _⟩
set_option maxHeartbeats 1000000 in
theorem DrawCodRead_any (A : Option Addr) (n c : Nat) (w : World) (hc : n ≤ c) (hy : Bytes w A n) :
    Calls Tryd.prog 22 #[.slice A n c] w (DrawNumP w) := by
  go_enter Tryd.func22, Tryd.ntmps22
  go_wp2_with fail
  refine (open_any A n c _ hc hy).mono ?_; rintro _ w1 ⟨gr, rfl, hg, k1, r1⟩
  go_wp2_with fail
  refine (pick_any gr _ 2 _ (by omega) r1).mono ?_; rintro _ w2 ⟨v, rfl, a1, b1, k2, r2⟩
  have K2 := (Mu.of_gr (S := (· = gr)) k1).trans k2
  have K2 := Lib.hid K2; clear k1 k2
  by_cases hv : v = 0
  · subst hv
    go_wp2_with fail
    refine (l20Word_any gr _ 6 _ (by omega) r2 (by omega)).mono ?_; rintro _ w3 ⟨x, rfl, -, k3, r3⟩
    go_wp2_with fail
    go_ret
    exact ⟨x, rfl, (K2.out.trans k3).gr (fun k hk e => by omega)⟩
  · go_wp2_with fail
    refine (l20Inst_any gr _ 0 _ (by omega) r2 (by omega)).mono ?_; rintro _ w3 ⟨k, d, a, b, f, n', rfl, k3, r3⟩
    unfold instV
    go_wp2_with fail
    refine (spec_CodWord_any _ _ _ _ _ _ _).mono ?_; rintro _ w4 ⟨rfl, k4⟩
    go_wp2_with fail
    go_ret
    exact ⟨_, rfl, ((K2.out.trans k3).gr (fun k hk e => by omega)).trans k4⟩
theorem rd_form2 (x : Int) : ∃ k d a b f n ok, rdRes x = .tuple #[instV k d a b f n, .bool ok] ∧ (ok = false → k = 0 ∧ d = 0 ∧ a = 0 ∧ b = 0 ∧ f = 0 ∧ n = 0) ∧
    (ok = true → codOk k d a b f n = true ∧ codWord k d a b f n = x ∧ x / 4096 = k ∧ 0 ≤ x ∧ x < 65536) := by
  rcases rd_yes x with h | ⟨k, d, a, b, f, n, h, h1, h2, h3, h4, h5⟩
  · exact ⟨0, 0, 0, 0, 0, 0, false, h, (fun _ => ⟨rfl, rfl, rfl, rfl, rfl, rfl⟩), (fun h => by cases h)⟩
  · exact ⟨k, d, a, b, f, n, true, h, (fun h => by cases h), (fun _ => ⟨h1, h2, h3.symm, h4, h5⟩)⟩
theorem haOk_any (w : World) : Calls Tryd.prog 25 #[] w fun r w' => r = .returned (.bool true) ∧ Gr w w' := by
  go_enter Tryd.func25, Tryd.ntmps25
  go_wp2_with (go_at_call 26; (with_reducible refine (WrdOk_in _ _ (by omega)).mono ?_); rintro _ _ ⟨rfl, rfl⟩)
  go_ret
  exact ⟨rfl, .refl _⟩
set_option maxHeartbeats 8000000 in
theorem codWord_law (A A' : Option Addr) (n n' c c' : Nat) (w : World) (hk : KF w) (hc : n ≤ c) (hy : Bytes w A n) (hc' : n' ≤ c') (hy' : Bytes w A' n') :
    Calls Tryd.prog 5 #[.slice A n c, .slice A' n' c'] w fun r w' => r = .returned (.bool true) ∧ Gr w w' := by
  by_cases hn : (n : Int) > 1048576
  · go_enter Tryd.func5, Tryd.ntmps5
    go_wp2_with fail
    go_ret
    exact ⟨rfl, Gr.refl _⟩
  by_cases hn' : (n' : Int) > 1048576
  · go_enter Tryd.func5, Tryd.ntmps5
    go_wp2_with fail
    go_ret
    exact ⟨rfl, Gr.refl _⟩
  have HY' := Lib.hid hy'; clear hy'
  go_enter Tryd.func5, Tryd.ntmps5
  go_wp2_with fail
  refine (DrawCodWord_any A n c w hc hy).mono ?_; rintro _ w1 ⟨k, d, a, b, f, m, rfl, k1⟩
  unfold instV
  have B1 := BK.new w1 #[.int .i64 k, .int .i64 d, .int .i64 a, .int .i64 b, .int .i64 f, .int .i64 m] 25
  have G1 := k1.alloc (.cells #[.int .i64 k, .int .i64 d, .int .i64 a, .int .i64 b, .int .i64 f, .int .i64 m] 25)
  go_wp2_with fail
  refine (DrawCodRead_any A' n' c' _ hc' (HY'.out.mu (S := fun _ => False) (.of_gr G1) (fun _ _ _ _ h => h))).mono ?_; rintro _ w2 ⟨x, rfl, k2⟩
  have B2 := B1.gr k2; have G2 := G1.trans k2
  have b2 := B2.cell; have l2 := B2.lt
  clear B1 G1 k1 k2
  go_wp2_with fail
  refine (CodWord_any _ _ _ _ _ _ _ (hk.gr G2)).mono ?_; rintro _ w3 ⟨rfl, k3⟩
  have B3 := B2.gr k3; have G3 := G2.trans k3
  clear b2 l2 B2 G2 k3
  go_wp2_with fail
  obtain ⟨rk, rd', ra, rb, rf, rn, ok, hR, hno, hyes⟩ := rd_form2 x
  have HNO := Lib.hid hno; have HYES := Lib.hid hyes; clear hno hyes
  have HR := Lib.hid hR
  refine (CodRead_any _ _ (hk.gr G3)).mono ?_; rintro _ w4 ⟨rfl, k4⟩
  rw [HR.out]
  unfold instV
  have B4 := B3.gr k4; have G4 := G3.trans k4
  clear B3 G3 k4
  have X4 := BK.new w4 #[.int .i64 rk, .int .i64 rd', .int .i64 ra, .int .i64 rb, .int .i64 rf, .int .i64 rn] 25
  have C4 := B4.alloc (.cells #[.int .i64 rk, .int .i64 rd', .int .i64 ra, .int .i64 rb, .int .i64 rf, .int .i64 rn] 25)
  have G5 := G4.alloc (.cells #[.int .i64 rk, .int .i64 rd', .int .i64 ra, .int .i64 rb, .int .i64 rf, .int .i64 rn] 25)
  clear B4 G4
  go_wp2_with fail
  refine (spec_CodRead_any _ _).mono ?_; rintro _ w5 ⟨rfl, k5⟩
  rw [HR.out]
  unfold instV
  have X5 := X4.gr k5; have C5 := C4.gr k5; have G6 := G5.trans k5
  clear X4 C4 G5 k5
  have Y6 := BK.new w5 #[.int .i64 rk, .int .i64 rd', .int .i64 ra, .int .i64 rb, .int .i64 rf, .int .i64 rn] 25
  have X6 := X5.alloc (.cells #[.int .i64 rk, .int .i64 rd', .int .i64 ra, .int .i64 rb, .int .i64 rf, .int .i64 rn] 25)
  have C6 := C5.alloc (.cells #[.int .i64 rk, .int .i64 rd', .int .i64 ra, .int .i64 rb, .int .i64 rf, .int .i64 rn] 25)
  have G7 := G6.alloc (.cells #[.int .i64 rk, .int .i64 rd', .int .i64 ra, .int .i64 rb, .int .i64 rf, .int .i64 rn] 25)
  have c5 := C5.cell; have l5 := C5.lt
  clear X5 G6
  go_wp2_with fail
  refine (spec_CodWord_any _ _ _ _ _ _ _).mono ?_; rintro _ w6 ⟨rfl, k6⟩
  have Y7 := Y6.gr k6; have X7 := X6.gr k6; have C7 := C6.gr k6; have G8 := Lib.hid (G7.trans k6)
  clear c5 l5 C5 Y6 X6 C6 G7 k6
  have y7 := Y7.cell; have x7 := X7.cell; have c7 := C7.cell; have ly := Y7.lt; have lx := X7.lt; have lc := C7.lt
  cases ok
  · obtain ⟨rfl, rfl, rfl, rfl, rfl, rfl⟩ := HNO.out rfl
    clear HNO HYES
    go_wp2_with fail
    refine (spec_CodOk_any _ _ _ _ _ _ _).mono ?_; rintro _ v1 ⟨rfl, j1⟩
    have D1 := C7.gr j1; have H1 := Lib.hid (G8.out.trans j1)
    have d1 := D1.cell; have ld1 := D1.lt
    clear j1
    cases hok : codOk k d a b f m
    · have HE : Hid (codWord k d a b f m = -1) := Lib.hid (by simp [codWord, hok])
      clear hok
      rw [HE.out]
      go_wp2_with fail
      refine (haOk_any _).mono ?_; rintro _ v2 ⟨rfl, j2⟩
      go_wp2_with fail
      go_ret
      exact ⟨rfl, H1.out.trans j2⟩
    · obtain ⟨hb, h0', h1'⟩ := rd_back k d a b f m hok
      clear hok
      have HBK := Lib.hid hb; clear hb
      go_wp2_with fail
      refine (CodRead_any _ _ (hk.gr H1.out)).mono ?_; rintro _ v2 ⟨rfl, j2⟩
      rw [HBK.out]
      unfold instV
      have D2 := D1.gr j2
      have D3 := D2.alloc (.cells #[.int .i64 k, .int .i64 d, .int .i64 a, .int .i64 b, .int .i64 f, .int .i64 m] 25)
      have H2 := Lib.hid ((H1.out.trans j2).alloc (.cells #[.int .i64 k, .int .i64 d, .int .i64 a, .int .i64 b, .int .i64 f, .int .i64 m] 25))
      have l2 := D2.lt
      have d2 := D2.cell
      clear j2 d1 ld1
      go_wp2_with fail
      refine (WrdOk_in _ _ ⟨h0', h1'⟩).mono ?_; rintro _ _ ⟨rfl, rfl⟩
      go_wp2_with fail
      go_ret
      exact ⟨rfl, H2.out⟩
  · obtain ⟨ho, hw, hk4, h0, h1⟩ := HYES.out rfl
    clear HNO HYES
    have HO := Lib.hid ho; have HW := Lib.hid hw; clear ho hw
    go_wp2_with fail
    refine (CodOk_any _ _ _ _ _ _ _ (hk.gr G8.out)).mono ?_; rintro _ w7 ⟨rfl, k7⟩
    rw [HO.out]
    have X8 := X7.gr k7; have C8 := C7.gr k7; have G9 := Lib.hid (G8.out.trans k7)
    clear y7 x7 c7 ly lx lc k7
    have x8 := X8.cell; have lx8 := X8.lt
    go_wp2_with fail
    refine (CodWord_any _ _ _ _ _ _ _ (hk.gr G9.out)).mono ?_; rintro _ w8 ⟨rfl, k8⟩
    rw [HW.out]
    have X9 := X8.gr k8; have C9 := C8.gr k8; have G10 := Lib.hid (G9.out.trans k8)
    clear x8 lx8 k8
    have x9 := X9.cell; have lx9 := X9.lt
    have c9 := C9.cell; have lc9 := C9.lt
    go_wp2_with fail
    refine (spec_CodOk_any _ _ _ _ _ _ _).mono ?_; rintro _ v1 ⟨rfl, j1⟩
    have D1 := C9.gr j1; have H1 := Lib.hid (G10.out.trans j1)
    have d1 := D1.cell; have ld1 := D1.lt
    clear j1
    cases hok : codOk k d a b f m
    · have HE : Hid (codWord k d a b f m = -1) := Lib.hid (by simp [codWord, hok])
      clear hok
      rw [HE.out]
      go_wp2_with fail
      refine (haOk_any _).mono ?_; rintro _ v2 ⟨rfl, j2⟩
      go_wp2_with fail
      go_ret
      exact ⟨rfl, H1.out.trans j2⟩
    · obtain ⟨hb, h0', h1'⟩ := rd_back k d a b f m hok
      clear hok
      have HBK := Lib.hid hb; clear hb
      go_wp2_with fail
      refine (CodRead_any _ _ (hk.gr H1.out)).mono ?_; rintro _ v2 ⟨rfl, j2⟩
      rw [HBK.out]
      unfold instV
      have D2 := D1.gr j2
      have D3 := D2.alloc (.cells #[.int .i64 k, .int .i64 d, .int .i64 a, .int .i64 b, .int .i64 f, .int .i64 m] 25)
      have H2 := Lib.hid ((H1.out.trans j2).alloc (.cells #[.int .i64 k, .int .i64 d, .int .i64 a, .int .i64 b, .int .i64 f, .int .i64 m] 25))
      have l2 := D2.lt
      have d2 := D2.cell
      clear j2 d1 ld1
      go_wp2_with fail
      refine (WrdOk_in _ _ ⟨h0', h1'⟩).mono ?_; rintro _ _ ⟨rfl, rfl⟩
      go_wp2_with fail
      go_ret
      exact ⟨rfl, H2.out⟩
theorem FnCodWord_walk {H : Type} {enc : TypeId × Value → H} (W : World) (hk : KF W) (base : Nat) (v v' : Value) (d d' : DataW H) (p p' : List MemPlace) (hv : Value.okWide Tryd.prog W .any base 32 v)
    (h : DataW.Trod enc Tryd.prog W 0 (fun _ => true) true 32 v d p) (hv' : Value.okWide Tryd.prog W .any base 32 v') (h' : DataW.Trod enc Tryd.prog W 0 (fun _ => true) true 32 v' d' p') :
    Calls Tryd.prog 5 #[v, v'] W fun e W' => e = .returned (.bool true) ∧ Gr W W' := by
  obtain ⟨A, n, c, rfl, hc, hy⟩ := open_code hv h
  obtain ⟨A', n', c', rfl, hc', hy'⟩ := open_code hv' h'
  exact codWord_law A A' n n' c c' W hk hc hy hc' hy'
theorem FnCodWord_lifted (os : Os) (started : os.Started) (H : Type) (enc : TypeId × Value → H) :
    ReturnsInHanded {} Tryd.checked os 5 .any (fun w args => (Rows.fnCodWordSpec.pre enc Tryd.prog Tryd.f5 [] false w args ∧ laidMetH Tryd.prog kLaid w) ∧ sizedMet enc Tryd.prog Tryd.f5 (OpenSpec.ofChange Rows.fnCodWordSpec) false w args)
      (Rows.fnCodWordSpec.post enc Tryd.prog Tryd.f5 false true false false) := by
  refine returnsInHanded_of_change_and (C := Tryd.checked) (X := fun w _ => laidMetH Tryd.prog kLaid w) (fun _ _ _ hh h => h.of_heap hh) Row.own started (by kernel_rfl) Tryd.func5
    (ChangeSpec.witness_at (enc := enc) (C := Tryd.checked) (os := os) (X := fun w _ => laidMetH Tryd.prog kLaid w) false (laidWorld os) #[.slice none 0 0, .slice none 0 0] 12 rfl (by kernel_rfl) (by kernel_rfl) (by kernel_rfl) (by kernel_rfl) (by kernel_rfl) (laidWorld_met os _)) ?_
  intro W base args ds gs before hval0 hW _ _ hL _
  have hval : ∀ (j : Nat) t v, Tryd.f5.params[j]? = some t → args[j]? = some v → Value.okWide Tryd.prog W .any base t v := hval0
  have hL' : laidMet Tryd.prog kLaid W := hL
  have hk := KF_of_laid hL' (List.mem_singleton.2 rfl)
  have hW' := hW
  obtain ⟨p, q, hA0, hV0, rfl, hfz, hnd⟩ := hW
  have hA : DataW.TrodAll enc Tryd.prog W 0 (fun _ => true) true Tryd.f5.params.toList args.toList ds p := hA0
  have hV : DataW.TrodVars enc Tryd.prog W (fun _ => true) ["loop.example/harbinger/impl.kindFields"] gs q := hV0
  have hkeep := fun (W' : World) (hb : Below W.heap.size W W') => trodAll_keep Row.laidOut hb Tryd.f5.params.toList args.toList ds p (by rw [Tryd.params5]; intro t ht; simp at ht; (repeat (first | (obtain rfl | ht := ht) | subst ht)) <;> exact ⟨by kernel_rfl, of_decide_eq_true (by kernel_rfl)⟩) hA
  have hvars := fun (W' : World) (hb : Below W.heap.size W W') => hb.trodVars Row.laidOut (by kernel_rfl) hV
  rw [Tryd.params5] at hA hval
  obtain ⟨v0, vs0, d0, ds0, p0, q0, hargs, rfl, rfl, h0, r0⟩ := trodAll_cons hA
  obtain ⟨v1, vs1, d1, ds1, p1, q1, rfl, rfl, rfl, h1, r1⟩ := trodAll_cons r0
  obtain ⟨rfl, rfl, rfl⟩ := trodAll_nil r1
  obtain rfl : args = #[v0, v1] := by cases args; simp_all
  obtain ⟨g1, hg1⟩ : ∃ g1, gs = [g1] := by
    obtain ⟨_, _, _, _, d, _, e, _⟩ := trodVars_one hV
    exact ⟨d, e⟩
  subst hg1
  refine (FnCodWord_walk W hk base v0 v1 d0 d1 p0 p1 (hval 0 _ v0 rfl rfl) h0 (hval 1 _ v1 rfl rfl) h1).mono fun e W' ⟨he, bel⟩ => ?_
  subst he
  exact ⟨_, rfl, _, _, _, [], _, _, hW', trodAll_mk1 (shut_bool Tryd.underlying4 _), hkeep W' bel, hvars W' bel, bel.frame _, fun h => by cases h⟩
theorem FnCodWord_holds : Rows.FnCodWordSaid :=
  OpenClaim.holds_of_wide 5 Tryd.f5 rfl rfl rfl rfl rfl rfl rfl ⟨rfl, rfl, rfl, rfl, rfl⟩ rfl rfl rfl rfl rfl (by kernel_rfl) Tryd.func5 (by kernel_rfl)
    (of_decide_eq_true (by kernel_rfl)) (by unfold Func.isWrapper; first | (rw [if_pos (by decide +kernel)]; kernel_rfl) | (rw [if_neg (by decide +kernel)]; exact ⟨rfl, rfl⟩))
    (fun os started H enc _ => FnCodWord_lifted os started H enc)
end Go.Proofs.YtppocjgjjjojiaaDoor
