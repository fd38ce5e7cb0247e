/- An instruction that is drawn: l20Inst. -/
import Derived.Test.YtppocjgjjjojiaaDoorDraw
import Derived.Test.YtppocjgjjjojiaaDoorCodReadSpec
namespace Go.Proofs.YtppocjgjjjojiaaDoor
open Go.RowKit

structure IC (gr Z C m : Nat) (w W : World) : Prop where
  hg : gr < w.heap.size
  hz : w.heap.size ≤ Z
  hc : Z < C
  mu : Mu (· = gr) w W
  rd : Rdr W gr m
  z : BK W Z #[.int .i64 0, .int .i64 0, .int .i64 0, .int .i64 0, .int .i64 0, .int .i64 0]
  c : ∃ k d a b f n : Int, BK W C #[.int .i64 k, .int .i64 d, .int .i64 a, .int .i64 b, .int .i64 f, .int .i64 n]
section
variable {gr Z C m m' : Nat} {w W W1 : World}
theorem IC.call (h : IC gr Z C m w W) (k : Mu (· = gr) W W1) (r : Rdr W1 gr m') : IC gr Z C m' w W1 := by
  obtain ⟨h1, h2, h3, h4, h5, h6, k0, d, a, b, f, n, h7⟩ := h
  exact ⟨h1, h2, h3, h4.trans k, r, h6.mu k (by omega), k0, d, a, b, f, n, h7.mu k (by omega)⟩
theorem IC.skip (h : IC gr Z C m w W) (o : Obj) : IC gr Z C m w (W.alloc o) := by
  obtain ⟨h1, h2, h3, h4, h5, h6, k0, d, a, b, f, n, h7⟩ := h
  exact ⟨h1, h2, h3, h4.alloc o, h5.gr ((Gr.refl _).alloc o), h6.alloc o, k0, d, a, b, f, n, h7.alloc o⟩
theorem IC.drewN (h : IC gr Z C m w W) (q : Nat) : IC gr Z C m w (W.drewN q) := by
  obtain ⟨h1, h2, h3, h4, h5, h6, k0, d, a, b, f, n, h7⟩ := h
  exact ⟨h1, h2, h3, h4.drewN q, h5.drewN q, h6.drewN q, k0, d, a, b, f, n, h7.drewN q⟩
theorem IC.more (h : IC gr Z C m w W) (k : m ≤ m') : IC gr Z C m' w W := by
  obtain ⟨h1, h2, h3, h4, h5, h6, h7⟩ := h
  exact ⟨h1, h2, h3, h4, h5.more k, h6, h7⟩
theorem IC.put (h : IC gr Z C m w W) (j : Nat) (hj : j < 6) (v : Int) : IC gr Z C m w (W.setCell ⟨C, j, none⟩ (.int .i64 v)) := by
  obtain ⟨h1, h2, h3, h4, h5, h6, k0, d, a, b, f, n, h7⟩ := h
  refine ⟨h1, h2, h3, h4.set (p := ⟨C, j, none⟩) (.inr (Nat.le_of_lt (Nat.lt_of_le_of_lt h2 h3))) _, h5.set (p := ⟨C, j, none⟩) (by show gr < C; omega) _, h6.far (p := ⟨C, j, none⟩) (Nat.ne_of_lt h3) _, ?_⟩
  have q := h7.set j (.int .i64 v)
  obtain rfl | rfl | rfl | rfl | rfl | rfl : j = 0 ∨ j = 1 ∨ j = 2 ∨ j = 3 ∨ j = 4 ∨ j = 5 := by omega
  · exact ⟨v, d, a, b, f, n, q⟩
  · exact ⟨k0, v, a, b, f, n, q⟩
  · exact ⟨k0, d, v, b, f, n, q⟩
  · exact ⟨k0, d, a, v, f, n, q⟩
  · exact ⟨k0, d, a, b, v, n, q⟩
  · exact ⟨k0, d, a, b, f, v, q⟩
end
theorem BK.pickd {w : World} {g : Nat} (l : List Int) (h : BK w g (l.map (Value.int .i64)).toArray) (v : Int) (n : Int) (hn : n = l.length) (hl : 0 < n) (h0 : 0 ≤ v) (h1 : v < n ∨ v = 0) : ∃ x : Int, w.cell? ⟨g, v.toNat, none⟩ = some (.int .i64 x) := by
  obtain ⟨x, -, hx⟩ := lit_at l v h0 (by omega) (by omega)
  exact ⟨x, by rw [h.cell]; exact hx⟩
theorem Mu.six {S : Nat → Prop} {u w : World} {g : Nat} (h : Mu S u w) (hg : u.heap.size ≤ g) (b0 b1 b2 b3 b4 b5 : Value) :
    Mu S u ((((((w.setCell ⟨g, 0, none⟩ b0).setCell ⟨g, 1, none⟩ b1).setCell ⟨g, 2, none⟩ b2).setCell ⟨g, 3, none⟩ b3).setCell ⟨g, 4, none⟩ b4).setCell ⟨g, 5, none⟩ b5) :=
  (((((h.set (p := ⟨g, 0, none⟩) (.inr hg) b0).set (p := ⟨g, 1, none⟩) (.inr hg) b1).set (p := ⟨g, 2, none⟩) (.inr hg) b2).set (p := ⟨g, 3, none⟩) (.inr hg) b3).set (p := ⟨g, 4, none⟩) (.inr hg) b4).set (p := ⟨g, 5, none⟩) (.inr hg) b5
theorem Rdr.six {w : World} {gr m g : Nat} (h : Rdr w gr m) (hg : gr < g) (b0 b1 b2 b3 b4 b5 : Value) :
    Rdr ((((((w.setCell ⟨g, 0, none⟩ b0).setCell ⟨g, 1, none⟩ b1).setCell ⟨g, 2, none⟩ b2).setCell ⟨g, 3, none⟩ b3).setCell ⟨g, 4, none⟩ b4).setCell ⟨g, 5, none⟩ b5) gr m :=
  (((((h.set (p := ⟨g, 0, none⟩) hg b0).set (p := ⟨g, 1, none⟩) hg b1).set (p := ⟨g, 2, none⟩) hg b2).set (p := ⟨g, 3, none⟩) hg b3).set (p := ⟨g, 4, none⟩) hg b4).set (p := ⟨g, 5, none⟩) hg b5
def InstP (gr m : Nat) (w : World) (e : Ending) (w' : World) : Prop := ∃ k d a b f n : Int, e = .returned (instV k d a b f n) ∧ Mu (· = gr) w w' ∧ Rdr w' gr (m + 60)

set_option maxRecDepth 100000 in
set_option maxHeartbeats 8000000 in
theorem l20Inst_any (gr m : Nat) (n : Int) (w : World) (hm : m + 60 < 1000000000) (h : Rdr w gr m) (hn : 0 ≤ n ∧ n ≤ 1000) :
    Calls Tryd.prog 69 #[.pointer (some ⟨gr, 0, none⟩), .int .i64 n] w (InstP gr m w) := by
  have hgl := h.lt
  go_enter Tryd.func69, Tryd.ntmps69
  go_wp2_with fail
  refine (pick_any gr _ 16 _ (by omega) (h.gr ((Gr.refl w).alloc _))).mono ?_; rintro _ w1 ⟨v1, rfl, a1, b1, k1, r1⟩
  have M1 := ((Mu.refl (· = gr) w).alloc (.cells #[.int .i64 0, .int .i64 0, .int .i64 0, .int .i64 0, .int .i64 0, .int .i64 0] 25)).trans k1
  have Z1 := (BK.new w #[.int .i64 0, .int .i64 0, .int .i64 0, .int .i64 0, .int .i64 0, .int .i64 0] 25).mu k1 (by omega)
  go_wp2_with fail
  refine (pick_any gr _ 16 _ (by omega) r1).mono ?_; rintro _ w2 ⟨v2, rfl, a2, b2, k2, r2⟩
  have M2 := M1.trans k2; have Z2 := Z1.mu k2 (by omega)
  go_wp2_with fail
  refine (pick_any gr _ 16 _ (by omega) (r2.gr ((Gr.refl _).alloc _))).mono ?_; rintro _ w3 ⟨v3, rfl, a3, b3, k3, r3⟩
  have M3 := (M2.alloc _).trans k3; have Z3 := (Z2.alloc _).mu k3 (by omega)
  obtain ⟨x, hx⟩ := BK.pickd [0, 0, 1, 1, 3, 3, 4, 4, 5, 6, 7, 8, 9, 2, v1, v2] ((BK.new w2 _ _).mu k3 (Nat.ne_of_gt r2.lt)) v3 16 rfl (by decide) a3 b3
  have b3' : v3 < 16 := by omega
  -- GEN
  go_wp2_with fail
  have I0 : IC gr w.heap.size w3.heap.size (m + 3) w (w3.alloc (.cells #[.int .i64 x, .int .i64 0, .int .i64 0, .int .i64 0, .int .i64 0, .int .i64 0] 25)) :=
    ⟨hgl, Nat.le_refl _, Z3.lt, M3.alloc _, r3.gr ((Gr.refl _).alloc _), Z3.alloc _, x, 0, 0, 0, 0, 0, BK.new _ _ _⟩
  have I0 := I0.more (show m + 3 ≤ m + 5 by omega)
  clear Z1 Z2 Z3 M1 M2 M3 r1 r2 r3 k1 k2 k3 hx
  refine (l2Has_any _ _).mono ?_; rintro _ _ ⟨rfl, rfl⟩
  generalize hD : kd (kNo x) = D; generalize hA : ka (kNo x) = A; generalize hBB : kb (kNo x) = B; generalize hF : decide (0 < kp (kNo x)) = F; generalize hW : kw (kNo x) = W
  clear hD hA hBB hF hW
  go_upto_if 30 with (fail)
  go_cut [] (fun wx => IC gr w.heap.size w3.heap.size (m + 9) w wx)
  case first =>
    cases D
    · go_wp2_with fail
      go_meet
      exact I0.more (by omega)
    · go_wp2_with fail
      refine (pick_any gr _ 3 _ (by omega) (I0).rd).mono ?_; rintro _ u1 ⟨v1, rfl, a1, b1, k1, r1⟩
      have J1 := (I0).call k1 r1; clear k1 r1
      go_wp2_with fail
      refine (pick_any gr _ 8 _ (by omega) (J1).rd).mono ?_; rintro _ u2 ⟨v2, rfl, a2, b2, k2, r2⟩
      have J2 := (J1).call k2 r2; clear k2 r2
      go_wp2_with fail
      refine (pick_any gr _ 2 _ (by omega) (J2.skip _).rd).mono ?_; rintro _ u3 ⟨v3, rfl, a3, b3, k3, r3⟩
      have J3 := (J2.skip _).call k3 r3
      obtain ⟨x3, hx3⟩ := BK.pickd [1 + v1, v2] ((BK.new u2 _ _).mu k3 (Nat.ne_of_gt J2.rd.lt)) v3 2 rfl (by decide) a3 b3
      have b3' : v3 < 2 := by omega
      clear k3 r3
      obtain ⟨z0, z1, z2, z3, z4, z5, hB⟩ := (J3).c; have qx := hB.cell; have fx := hB.free; have lx := hB.lt; clear hB
      go_wp2_with fail
      go_meet
      exact (J3.put 1 (by decide) _).more (by omega)
  case rest =>
    have I1 := hcut; clear hcut
    go_upto_if 42 with (fail)
    go_cut [] (fun wx => IC gr w.heap.size w3.heap.size (m + 13) w wx)
    case first =>
      cases A
      · go_wp2_with fail
        go_meet
        exact I1.more (by omega)
      · go_wp2_with fail
        refine (pick_any gr _ 4 _ (by omega) (I1).rd).mono ?_; rintro _ u1 ⟨v1, rfl, a1, b1, k1, r1⟩
        have J1 := (I1).call k1 r1; clear k1 r1
        go_wp2_with fail
        refine (pick_any gr _ 8 _ (by omega) (J1).rd).mono ?_; rintro _ u2 ⟨v2, rfl, a2, b2, k2, r2⟩
        have J2 := (J1).call k2 r2; clear k2 r2
        go_wp2_with fail
        refine (pick_any gr _ 2 _ (by omega) (J2.skip _).rd).mono ?_; rintro _ u3 ⟨v3, rfl, a3, b3, k3, r3⟩
        have J3 := (J2.skip _).call k3 r3
        obtain ⟨x3, hx3⟩ := BK.pickd [v1, v2] ((BK.new u2 _ _).mu k3 (Nat.ne_of_gt J2.rd.lt)) v3 2 rfl (by decide) a3 b3
        have b3' : v3 < 2 := by omega
        clear k3 r3
        obtain ⟨z0, z1, z2, z3, z4, z5, hB⟩ := (J3).c; have qx := hB.cell; have fx := hB.free; have lx := hB.lt; clear hB
        go_wp2_with fail
        go_meet
        exact (J3.put 2 (by decide) _).more (by omega)
    case rest =>
      have I2 := hcut; clear hcut
      go_upto_if 53 with (fail)
      go_cut [] (fun wx => IC gr w.heap.size w3.heap.size (m + 17) w wx)
      case first =>
        cases B
        · go_wp2_with fail
          go_meet
          exact I2.more (by omega)
        · go_wp2_with fail
          refine (pick_any gr _ 4 _ (by omega) (I2).rd).mono ?_; rintro _ u1 ⟨v1, rfl, a1, b1, k1, r1⟩
          have J1 := (I2).call k1 r1; clear k1 r1
          go_wp2_with fail
          refine (pick_any gr _ 8 _ (by omega) (J1).rd).mono ?_; rintro _ u2 ⟨v2, rfl, a2, b2, k2, r2⟩
          have J2 := (J1).call k2 r2; clear k2 r2
          go_wp2_with fail
          refine (pick_any gr _ 2 _ (by omega) (J2.skip _).rd).mono ?_; rintro _ u3 ⟨v3, rfl, a3, b3, k3, r3⟩
          have J3 := (J2.skip _).call k3 r3
          obtain ⟨x3, hx3⟩ := BK.pickd [v1, v2] ((BK.new u2 _ _).mu k3 (Nat.ne_of_gt J2.rd.lt)) v3 2 rfl (by decide) a3 b3
          have b3' : v3 < 2 := by omega
          clear k3 r3
          obtain ⟨z0, z1, z2, z3, z4, z5, hB⟩ := (J3).c; have qx := hB.cell; have fx := hB.free; have lx := hB.lt; clear hB
          go_wp2_with fail
          go_meet
          exact (J3.put 3 (by decide) _).more (by omega)
      case rest =>
        have I3 := hcut; clear hcut
        go_upto_if 64 with (fail)
        go_cut [] (fun wx => IC gr w.heap.size w3.heap.size (m + 21) w wx)
        case first =>
          cases F
          · go_wp2_with fail
            go_meet
            exact I3.more (by omega)
          · go_wp2_with fail
            refine (pick_any gr _ 8 _ (by omega) (I3).rd).mono ?_; rintro _ u1 ⟨v1, rfl, a1, b1, k1, r1⟩
            have J1 := (I3).call k1 r1; clear k1 r1
            obtain ⟨z0, z1, z2, z3, z4, z5, hB⟩ := J1.c; have qx := hB.cell; have fx := hB.free; have lx := hB.lt; clear hB
            have J2 := J1.put 4 (by decide) v1
            by_cases h14 : (z0 == 14) = true
            · go_wp2_with fail
              refine (pick_any gr _ 5 _ (by omega) (J2).rd).mono ?_; rintro _ u3 ⟨v3, rfl, a3, b3, k3, r3⟩
              have J3 := (J2).call k3 r3; clear k3 r3
              obtain ⟨y0, y1, y2, y3, y4, y5, hB⟩ := J3.c; have qy := hB.cell; have fy := hB.free; have ly := hB.lt; clear hB qx fx lx
              go_wp2_with fail
              go_meet
              exact (J3.put 4 (by decide) _).more (by omega)
            · have h14 : (z0 == 14) = false := by simpa using h14
              by_cases h15 : (z0 == 15) = true
              · go_wp2_with fail
                refine (pick_any gr _ 5 _ (by omega) (J2).rd).mono ?_; rintro _ u3 ⟨v3, rfl, a3, b3, k3, r3⟩
                have J3 := (J2).call k3 r3; clear k3 r3
                obtain ⟨y0, y1, y2, y3, y4, y5, hB⟩ := J3.c; have qy := hB.cell; have fy := hB.free; have ly := hB.lt; clear hB qx fx lx
                go_wp2_with fail
                go_meet
                exact (J3.put 4 (by decide) _).more (by omega)
              · have h15 : (z0 == 15) = false := by simpa using h15
                go_wp2_with fail
                go_meet
                exact J2.more (by omega)
        case rest =>
          have I4 := hcut; clear hcut
          go_upto_if 80 with (fail)
          go_cut [] (fun wx => IC gr w.heap.size w3.heap.size (m + 29) w wx)
          case first =>
            by_cases hW : 0 < W
            · go_wp2_with fail
              refine (pick_any gr _ 8 _ (by omega) (I4).rd).mono ?_; rintro _ u1 ⟨v1, rfl, a1, b1, k1, r1⟩
              have J1 := (I4).call k1 r1; clear k1 r1
              go_wp2_with fail
              refine (pick_any gr _ 32 _ (by omega) (J1).rd).mono ?_; rintro _ u2 ⟨v2, rfl, a2, b2, k2, r2⟩
              have J2 := (J1).call k2 r2; clear k2 r2
              go_wp2_with fail
              refine (pick_any gr _ 5 _ (by omega) (J2).rd).mono ?_; rintro _ u4 ⟨v4, rfl, a4, b4, k4, r4⟩
              have J4 := (J2).call k4 r4; clear k4 r4
              go_wp2_with fail
              refine (pick_any gr _ 3 _ (by omega) (J4.skip _).rd).mono ?_; rintro _ u3 ⟨v3, rfl, a3, b3, k3, r3⟩
              have J3 := (J4.skip _).call k3 r3
              obtain ⟨x3, hx3⟩ := BK.pickd [v1, v2, v4] ((BK.new u4 _ _).mu k3 (Nat.ne_of_gt J4.rd.lt)) v3 3 rfl (by decide) a3 b3
              have b3' : v3 < 3 := by omega
              clear k3 r3
              obtain ⟨z0, z1, z2, z3, z4, z5, hB⟩ := (J3).c; have qx := hB.cell; have fx := hB.free; have lx := hB.lt; clear hB
              have J5 := J3.put 5 (by decide) x3
              by_cases h12 : z0 = 12
              · subst h12
                go_wp2_with fail
                go_meet
                exact J5.more (by omega)
              · by_cases h2 : z0 = 2
                · subst h2
                  go_wp2_with fail
                  go_meet
                  exact J5.more (by omega)
                · go_wp2_with fail
                  refine (pick_any gr _ 3 _ (by omega) (J5).rd).mono ?_; rintro _ u6 ⟨v6, rfl, a6, b6, k6, r6⟩
                  have J6 := (J5).call k6 r6; clear k6 r6
                  by_cases h6 : v6 = 0
                  · subst h6
                    go_wp2_with fail
                    any_goals (first | (exfalso; rename_i hz; rcases hz with hz | hz <;> (simp at hz; omega)) | skip)
                    refine (pick_any gr _ 4 _ (by omega) (J6).rd).mono ?_; rintro _ u7 ⟨v7, rfl, a7, b7, k7, r7⟩
                    have J7 := (J6).call k7 r7; clear k7 r7
                    obtain ⟨y0, y1, y2, y3, y4, y5, hB⟩ := J7.c; have qy := hB.cell; have fy := hB.free; have ly := hB.lt; clear hB qx fx lx
                    go_wp2_with fail
                    go_meet
                    exact (J7.put 5 (by decide) _).more (by omega)
                  · have e6 : (v6 == 0) = false := by simpa using h6
                    go_wp2_with fail
                    any_goals (first | (exfalso; have hz : (((z0 != 12) = true ∧ (z0 != 2) = true) ∧ (v6 == 0) = true) := by assumption; rw [e6] at hz; cases hz.2; done) | skip)
                    go_meet
                    exact J6.more (by omega)
            · go_wp2_with fail
              go_meet
              exact I4.more (by omega)
          case rest =>
            have I5 := hcut; clear hcut
            go_wp2_with fail
            refine (odd_any gr _ n _ (by omega) I5.rd (by omega)).mono ?_; rintro _ u1 ⟨b, rfl, -, k1, r1⟩
            have I6 := I5.call k1 r1; clear k1 r1
            go_upto_if 112 with (fail)
            go_cut [] (fun wx => IC gr w.heap.size w3.heap.size (m + 34) w wx)
            case first =>
              cases b
              · go_wp2_with fail
                go_meet
                exact I6.more (by omega)
              · go_wp2_with fail
                refine (pick_any gr _ 5 _ (by omega) (I6).rd).mono ?_; rintro _ u1 ⟨v1, rfl, a1, b1, k1, r1⟩
                have J1 := (I6).call k1 r1; clear k1 r1
                have J1 := Lib.hid J1
                obtain rfl | rfl | rfl | rfl | rfl := five a1 b1
                · go_wp2_with fail
                  refine (pick_any gr _ 2 _ (by omega) (J1.out.skip _).rd).mono ?_; rintro _ u3 ⟨v3, rfl, a3, b3, k3, r3⟩
                  have J3 := (J1.out.skip _).call k3 r3
                  obtain ⟨x3, hx3⟩ := BK.pickd [-1, 16] ((BK.new u1 _ _).mu k3 (Nat.ne_of_gt J1.out.rd.lt)) v3 2 rfl (by decide) a3 b3
                  have b3' : v3 < 2 := by omega
                  clear k3 r3
                  obtain ⟨z0, z1, z2, z3, z4, z5, hB⟩ := (J3).c; have qx := hB.cell; have fx := hB.free; have lx := hB.lt; clear hB
                  go_wp2_with fail
                  go_meet
                  exact (J3.put 0 (by decide) _).more (by omega)
                · go_wp2_with fail
                  refine (pick_any gr _ 3 _ (by omega) (J1.out.skip _).rd).mono ?_; rintro _ u3 ⟨v3, rfl, a3, b3, k3, r3⟩
                  have J3 := (J1.out.skip _).call k3 r3
                  obtain ⟨x3, hx3⟩ := BK.pickd [-1, 8, 1] ((BK.new u1 _ _).mu k3 (Nat.ne_of_gt J1.out.rd.lt)) v3 3 rfl (by decide) a3 b3
                  have b3' : v3 < 3 := by omega
                  clear k3 r3
                  obtain ⟨z0, z1, z2, z3, z4, z5, hB⟩ := (J3).c; have qx := hB.cell; have fx := hB.free; have lx := hB.lt; clear hB
                  go_wp2_with fail
                  go_meet
                  exact (J3.put 1 (by decide) _).more (by omega)
                · go_wp2_with fail
                  refine (pick_any gr _ 3 _ (by omega) (J1.out.skip _).rd).mono ?_; rintro _ u3 ⟨v3, rfl, a3, b3, k3, r3⟩
                  have J3 := (J1.out.skip _).call k3 r3
                  obtain ⟨x3, hx3⟩ := BK.pickd [-1, 8, 1] ((BK.new u1 _ _).mu k3 (Nat.ne_of_gt J1.out.rd.lt)) v3 3 rfl (by decide) a3 b3
                  have b3' : v3 < 3 := by omega
                  clear k3 r3
                  obtain ⟨z0, z1, z2, z3, z4, z5, hB⟩ := (J3).c; have qx := hB.cell; have fx := hB.free; have lx := hB.lt; clear hB
                  go_wp2_with fail
                  go_meet
                  exact (J3.put 3 (by decide) _).more (by omega)
                · go_wp2_with fail
                  refine (pick_any gr _ 3 _ (by omega) (J1.out.skip _).rd).mono ?_; rintro _ u3 ⟨v3, rfl, a3, b3, k3, r3⟩
                  have J3 := (J1.out.skip _).call k3 r3
                  obtain ⟨x3, hx3⟩ := BK.pickd [-1, 8, 6] ((BK.new u1 _ _).mu k3 (Nat.ne_of_gt J1.out.rd.lt)) v3 3 rfl (by decide) a3 b3
                  have b3' : v3 < 3 := by omega
                  clear k3 r3
                  obtain ⟨z0, z1, z2, z3, z4, z5, hB⟩ := (J3).c; have qx := hB.cell; have fx := hB.free; have lx := hB.lt; clear hB
                  go_wp2_with fail
                  go_meet
                  exact (J3.put 4 (by decide) _).more (by omega)
                · go_wp2_with fail
                  refine (pick_any gr _ 4 _ (by omega) (J1.out.skip _).rd).mono ?_; rintro _ u3 ⟨v3, rfl, a3, b3, k3, r3⟩
                  have J3 := (J1.out.skip _).call k3 r3
                  obtain ⟨x3, hx3⟩ := BK.pickd [-33, 512, 32, 1] ((BK.new u1 _ _).mu k3 (Nat.ne_of_gt J1.out.rd.lt)) v3 4 rfl (by decide) a3 b3
                  have b3' : v3 < 4 := by omega
                  clear k3 r3
                  obtain ⟨z0, z1, z2, z3, z4, z5, hB⟩ := (J3).c; have qx := hB.cell; have fx := hB.free; have lx := hB.lt; clear hB
                  go_wp2_with fail
                  go_meet
                  exact (J3.put 5 (by decide) _).more (by omega)
            case rest =>
              have I7 := hcut; clear hcut
              obtain ⟨z0, z1, z2, z3, z4, z5, hB⟩ := I7.c; have qx := hB.cell; have lx := hB.lt; clear hB
              have zq := I7.z.cell; have zf := I7.z.free; have zl := I7.z.lt
              have I7 := Lib.hid I7
              go_wp2_with fail
              have hq := (I7.out.z.six (.int .i64 z0) (.int .i64 z1) (.int .i64 z2) (.int .i64 z3) (.int .i64 z4) (.int .i64 z5)).cell
              exact bodyPost_ret (v := instV z0 z1 z2 z3 z4 z5) (by simp [results, Tryd.results69, go_sem, hq, instV]) rfl ⟨z0, z1, z2, z3, z4, z5, rfl, Mu.six I7.out.mu (Nat.le_refl _) _ _ _ _ _ _, (Rdr.six I7.out.rd (by omega) _ _ _ _ _ _).more (by omega)⟩
end Go.Proofs.YtppocjgjjjojiaaDoor
