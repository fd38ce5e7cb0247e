/- What is drawn for CntOk: six numbers. -/
import Derived.Test.YtjdclaglelldeaaDraw
namespace Go.Proofs.Ytjdclaglelldeaa
open Go.RowKit

def CntP (gr m : Nat) (w : World) (e : Ending) (w' : World) : Prop := ∃ a b c d x y : Int, e = .returned (.agg #[.int .i64 a, .int .i64 b, .int .i64 c, .int .i64 d, .int .i64 x, .int .i64 y]) ∧ Mu (· = gr) w w' ∧ Rdr w' gr (m + 20)

theorem three {v : Int} (h0 : 0 ≤ v) (h : v < 3 ∨ v = 0) : v = 0 ∨ v = 1 ∨ v = 2 := by omega
set_option maxRecDepth 100000 in
set_option maxHeartbeats 4000000 in
theorem l20Cnt_any (gr m : Nat) (w : World) (hm : m + 20 < 1000000000) (h : Rdr w gr m) :
    Calls Try.prog 28 #[.pointer (some ⟨gr, 0, none⟩), .int .i64 2] w (CntP gr m w) := by
  go_enter Try.func28, Try.ntmps28
  go_wp2_with fail
  have C0 := (Ctx.start h).new #[.int .i64 0, .int .i64 0, .int .i64 0, .int .i64 0, .int .i64 0, .int .i64 0] 25
  refine (pick_any gr m 40 _ (by omega) C0.rd).mono ?_; rintro _ w1 ⟨v1, rfl, a1, b1, k1, r1⟩
  have C1 := C0.call k1 r1
  clear C0 k1 r1 h
  go_wp2_with fail
  have C2 := C1.new #[.int .i64 v1, .int .i64 0, .int .i64 0, .int .i64 0, .int .i64 0, .int .i64 0] 25
  refine (pick_any gr _ _ _ (by omega) C2.rd).mono ?_; rintro _ w2 ⟨v2, rfl, a2, b2, k2, r2⟩
  have C3 := C2.call k2 r2
  clear C1 C2 k2 r2
  have h0 := C3.at0.cell; have f0 := C3.at0.free
  go_wp2_with fail
  clear h0 f0
  have C4 := ((C3.set 1 (.int .i64 v2)).drew)
  generalize w1.heap.size = gc at *
  have P3 : Aside (∀ n : Int, Calls Try.prog 31 #[.pointer (some ⟨gr, 0, none⟩), .int .i64 n] (w2.setCell ⟨gc, 1, none⟩ (.int .i64 v2)).drew (PickP gr (m + 1 + 1) n (w2.setCell ⟨gc, 1, none⟩ (.int .i64 v2)).drew)) :=
    ⟨fun n => pick_any gr (m + 1 + 1) n _ (by omega) C4.rd⟩
  go_region_held3 (fun W => W.cell? ⟨gc, 0, none⟩ = some (.int .i64 v1) ∧ W.cell? ⟨gc, 1, none⟩ = some (.int .i64 v2))
    (first | exact ⟨C4.at0.cell 0, C4.at0.cell 1⟩ | exact ⟨C5.at0.cell 0, C5.at0.cell 1⟩ | exact ⟨(C5.set 3 _).at0.cell 0, (C5.set 3 _).at0.cell 1⟩ | go_keep)
    (((with_reducible refine (P3.out _).mono ?_); rintro _ w3 ⟨v3, rfl, a3, b3, k3, r3⟩; have C5 := C4.call k3 r3; have h3 := C5.at0.cell 3; have f3 := C5.at0.free 3))
  generalize IntKind.i64.wrap (v2 + v3) = x3 at *
  have C6 : Ctx gr (m + 3) w (w3.setCell ⟨gc, 3, none⟩ (.int .i64 x3)) [(gc, #[.int .i64 v1, .int .i64 v2, .int .i64 0, .int .i64 x3, .int .i64 0, .int .i64 0]), (w.heap.size, #[.int .i64 0, .int .i64 0, .int .i64 0, .int .i64 0, .int .i64 0, .int .i64 0])] := C5.set 3 (.int .i64 x3)
  clear C5 C4 C3 P3 h3 f3 k3 r3
  have h6 := C6.at0.cell; have f6 := C6.at0.free
  go_wp2_with fail
  refine (pick_any gr _ _ _ (by omega) C6.rd).mono ?_; rintro _ w4 ⟨v4, rfl, a4, b4, k4, r4⟩
  have C7 := C6.call k4 r4
  clear h6 f6 C6 k4 r4
  have h7 := C7.at0.cell; have f7 := C7.at0.free
  go_wp2_with fail
  clear h7 f7
  have C8 : Ctx gr (m + 4) w (w4.setCell ⟨gc, 4, none⟩ (.int .i64 v4)) [(gc, #[.int .i64 v1, .int .i64 v2, .int .i64 0, .int .i64 x3, .int .i64 v4, .int .i64 0]), (w.heap.size, #[.int .i64 0, .int .i64 0, .int .i64 0, .int .i64 0, .int .i64 0, .int .i64 0])] := C7.set 4 (.int .i64 v4)
  refine (pick_any gr _ _ _ (by omega) C8.rd).mono ?_; rintro _ w5 ⟨v5, rfl, a5, b5, k5, r5⟩
  have C9 := C8.call k5 r5
  clear C7 C8 k5 r5
  have h7 := C9.at0.cell; have f7 := C9.at0.free
  go_wp2_with fail
  clear h7 f7
  have C10 : Ctx gr (m + 5) w (w5.setCell ⟨gc, 2, none⟩ (.int .i64 v5)) [(gc, #[.int .i64 v1, .int .i64 v2, .int .i64 v5, .int .i64 x3, .int .i64 v4, .int .i64 0]), (w.heap.size, #[.int .i64 0, .int .i64 0, .int .i64 0, .int .i64 0, .int .i64 0, .int .i64 0])] := C9.set 2 (.int .i64 v5)
  refine (pick_any gr _ _ _ (by omega) C10.rd).mono ?_; rintro _ w6 ⟨v6, rfl, a6, b6, k6, r6⟩
  have C11 := C10.call k6 r6
  clear C9 C10 k6 r6
  have h7 := C11.at0.cell; have f7 := C11.at0.free
  go_wp2_with fail
  clear h7 f7
  have C12 : Ctx gr (m + 6) w (w6.setCell ⟨gc, 5, none⟩ (.int .i64 v6)) [(gc, #[.int .i64 v1, .int .i64 v2, .int .i64 v5, .int .i64 x3, .int .i64 v4, .int .i64 v6]), (w.heap.size, #[.int .i64 0, .int .i64 0, .int .i64 0, .int .i64 0, .int .i64 0, .int .i64 0])] := C11.set 5 (.int .i64 v6)
  refine (odd_any gr _ _ _ (by omega) C12.rd (by omega)).mono ?_; rintro _ w7 ⟨b, rfl, _, k7, r7⟩
  have C13 := C12.call k7 r7
  clear C11 C12 k7 r7
  cases b
  · have h7 := C13.at0.cell; have f7 := C13.at1.cell; have f8 := C13.at1.free
    go_wp2_with fail
    have CE := (((((C13.swap.set 0 (.int .i64 v1)).set 1 (.int .i64 v2)).set 2 (.int .i64 v5)).set 3 (.int .i64 x3)).set 4 (.int .i64 v4)).set 5 (.int .i64 v6)
    have hq := CE.at0.cell
    exact bodyPost_ret (v := .agg #[.int .i64 v1, .int .i64 v2, .int .i64 v5, .int .i64 x3, .int .i64 v4, .int .i64 v6]) (by simp [results, Try.results28, go_sem, hq]) rfl ⟨v1, v2, v5, x3, v4, v6, rfl, CE.mu, CE.rd.more (by omega)⟩
  · go_wp2_with fail
    refine (pick_any gr _ _ _ (by omega) C13.rd).mono ?_; rintro _ w8 ⟨v8, rfl, a8, b8, k8, r8⟩
    have C14 := C13.call k8 r8
    clear C13 k8 r8
    have hne : gc ≠ w.heap.size := fun e => by have := C14.nd; simp [e] at this
    have h7 := C14.at0.cell
    obtain rfl | rfl | rfl | rfl := four a8 b8
    · go_wp2_with fail
      have L := C14.new #[.int .i64 (-1), .int .i64 (9999), .int .i64 (10000)] 3
      refine (pick_any gr _ _ _ (by omega) L.rd).mono ?_; rintro _ w9 ⟨v9, rfl, a9, b9, k9, r9⟩
      have M := L.call k9 r9
      obtain ⟨x, _, hx⟩ := lit_at [(-1), (9999), (10000)] v9 a9 b9 (by decide)
      have q0 : w9.cell? ⟨w8.heap.size, v9.toNat, none⟩ = some (.int .i64 x) := (M.at0.cell _).trans hx
      have q1 := M.at1.cell; have q2 := M.at1.free; have q3 := M.at2.cell; have q4 := M.at2.free
      have hb9 : v9 < 3 := by omega
      clear hx b9
      go_wp2_with fail
      have CE := (((((((M.drop.set 0 (.int .i64 x)).swap.set 0 (.int .i64 x)).set 1 (.int .i64 v2)).set 2 (.int .i64 v5)).set 3 (.int .i64 x3)).set 4 (.int .i64 v4)).set 5 (.int .i64 v6))
      have hq := CE.at0.cell
      exact bodyPost_ret (v := .agg #[.int .i64 x, .int .i64 v2, .int .i64 v5, .int .i64 x3, .int .i64 v4, .int .i64 v6]) (by simp [results, Try.results28, go_sem, hq]) rfl ⟨_, _, _, _, _, _, rfl, CE.mu, CE.rd.more (by omega)⟩
    · go_wp2_with fail
      have D8 := C14.drew
      have e0 : w8.cell? ⟨gc, 0, none⟩ = some (.int .i64 v1) := C14.at0.cell 0
      have PA : Aside (∀ cs t, Calls Try.prog 31 #[.pointer (some ⟨gr, 0, none⟩), .int .i64 2] (w8.alloc (.cells cs t)).drew (PickP gr (m + 6 + 1 + 1) 2 (w8.alloc (.cells cs t)).drew)) :=
        ⟨fun cs t => pick_any gr _ 2 _ (by omega) (C14.new cs t).drew.rd⟩
      have PB : Aside (Calls Try.prog 31 #[.pointer (some ⟨gr, 0, none⟩), .int .i64 2] w8.drew (PickP gr (m + 6 + 1 + 1) 2 w8.drew)) := ⟨pick_any gr _ 2 _ (by omega) D8.rd⟩
      go_region_with (first
        | ((with_reducible refine (PA.out _ _).mono ?_); rintro _ w9 ⟨v9, rfl, a9, b9, k9, r9⟩; have M := (C14.new _ _).drew.call k9 r9; have h2 := two_at v9 a9 b9; have h3 := two_at_arr v9 a9 b9; have h4 := two_get v9 a9 b9; have h5 := two_get_arr v9 a9 b9; have hb9 : v9 < 2 := (by omega); have q0 := (M.at0.cell v9.toNat).trans (two_at_arr v9 a9 b9 _ _); have q1 : w9.cell? ⟨gc, 1, none⟩ = some (.int .i64 v2) := M.at1.cell 1; have q2 := M.at1.free 1)
        | ((with_reducible refine PB.out.mono ?_); rintro _ w9 ⟨v9, rfl, a9, b9, k9, r9⟩; have M := D8.call k9 r9; have h2 := two_at v9 a9 b9; have h3 := two_at_arr v9 a9 b9; have h4 := two_get v9 a9 b9; have h5 := two_get_arr v9 a9 b9; have hb9 : v9 < 2 := (by omega); have q1 : w9.cell? ⟨gc, 1, none⟩ = some (.int .i64 v2) := M.at0.cell 1; have q3 : w9.cell? ⟨gc, 0, none⟩ = some (.int .i64 v1) := M.at0.cell 0; have q2 := M.at0.free 1; have hlt := M.at0.lt))
      · have E := M.drop.set 1 (.int .i64 (seli v9 (-1) (IntKind.i64.wrap (IntKind.i64.wrap (2 * v1) + 1))))
        clear PA PB q0 q1 q2 h2 h3 h4 h5 D8
        generalize seli v9 (-1) (IntKind.i64.wrap (IntKind.i64.wrap (2 * v1) + 1)) = x at *
        have q1 := E.at0.cell; have q3 := E.at1.cell; have q4 := E.at1.free
        go_wp2_with fail
        have CE := ((((((E.swap.set 0 (.int .i64 v1)).set 1 (.int .i64 x)).set 2 (.int .i64 v5)).set 3 (.int .i64 x3)).set 4 (.int .i64 v4)).set 5 (.int .i64 v6))
        have hq := CE.at0.cell
        exact bodyPost_ret (v := .agg #[.int .i64 v1, .int .i64 x, .int .i64 v5, .int .i64 x3, .int .i64 v4, .int .i64 v6]) (by simp [results, Try.results28, go_sem, hq]) rfl ⟨_, _, _, _, _, _, rfl, CE.mu, CE.rd.more (by omega)⟩

      all_goals
        refine ww ?_
        intro W hW
        have E : Ctx gr (m + 6 + 1 + 1 + 1) w W [(gc, #[.int .i64 v1, .int .i64 (seli v9 (-1) (IntKind.i64.wrap (IntKind.i64.wrap (2 * v1) + 1))), .int .i64 v5, .int .i64 x3, .int .i64 v4, .int .i64 v6]), (w.heap.size, #[.int .i64 0, .int .i64 0, .int .i64 0, .int .i64 0, .int .i64 0, .int .i64 0])] := by rw [hW]; exact (M.set 1 (.int .i64 (seli v9 (-1) (IntKind.i64.wrap (IntKind.i64.wrap (2 * v1) + 1))))).skip _
        clear hW
        clear PA PB q1 q2 q3 h2 h3 h4 h5 D8
        generalize seli v9 (-1) (IntKind.i64.wrap (IntKind.i64.wrap (2 * v1) + 1)) = x at *
        have q1 := E.at0.cell; have q3 := E.at1.cell; have q4 := E.at1.free
        go_wp2_with fail
        have CE := ((((((E.swap.set 0 (.int .i64 v1)).set 1 (.int .i64 x)).set 2 (.int .i64 v5)).set 3 (.int .i64 x3)).set 4 (.int .i64 v4)).set 5 (.int .i64 v6))
        have hq := CE.at0.cell
        exact bodyPost_ret (v := .agg #[.int .i64 v1, .int .i64 x, .int .i64 v5, .int .i64 x3, .int .i64 v4, .int .i64 v6]) (by simp [results, Try.results28, go_sem, hq]) rfl ⟨_, _, _, _, _, _, rfl, CE.mu, CE.rd.more (by omega)⟩

    · go_wp2_with fail
      have D8 := C14.drew
      have e0 : w8.cell? ⟨gc, 3, none⟩ = some (.int .i64 x3) := C14.at0.cell 3
      have PA : Aside (∀ cs t, Calls Try.prog 31 #[.pointer (some ⟨gr, 0, none⟩), .int .i64 2] (w8.alloc (.cells cs t)).drew (PickP gr (m + 6 + 1 + 1) 2 (w8.alloc (.cells cs t)).drew)) :=
        ⟨fun cs t => pick_any gr _ 2 _ (by omega) (C14.new cs t).drew.rd⟩
      have PB : Aside (Calls Try.prog 31 #[.pointer (some ⟨gr, 0, none⟩), .int .i64 2] w8.drew (PickP gr (m + 6 + 1 + 1) 2 w8.drew)) := ⟨pick_any gr _ 2 _ (by omega) D8.rd⟩
      go_region_with (first
        | ((with_reducible refine (PA.out _ _).mono ?_); rintro _ w9 ⟨v9, rfl, a9, b9, k9, r9⟩; have M := (C14.new _ _).drew.call k9 r9; have h2 := two_at v9 a9 b9; have h3 := two_at_arr v9 a9 b9; have h4 := two_get v9 a9 b9; have h5 := two_get_arr v9 a9 b9; have hb9 : v9 < 2 := (by omega); have q0 := (M.at0.cell v9.toNat).trans (two_at_arr v9 a9 b9 _ _); have q1 : w9.cell? ⟨gc, 4, none⟩ = some (.int .i64 v4) := M.at1.cell 4; have q2 := M.at1.free 4)
        | ((with_reducible refine PB.out.mono ?_); rintro _ w9 ⟨v9, rfl, a9, b9, k9, r9⟩; have M := D8.call k9 r9; have h2 := two_at v9 a9 b9; have h3 := two_at_arr v9 a9 b9; have h4 := two_get v9 a9 b9; have h5 := two_get_arr v9 a9 b9; have hb9 : v9 < 2 := (by omega); have q1 : w9.cell? ⟨gc, 4, none⟩ = some (.int .i64 v4) := M.at0.cell 4; have q3 : w9.cell? ⟨gc, 3, none⟩ = some (.int .i64 x3) := M.at0.cell 3; have q2 := M.at0.free 4; have hlt := M.at0.lt))
      · have E := M.drop.set 4 (.int .i64 (seli v9 (-1) (IntKind.i64.wrap (x3 + 1))))
        clear PA PB q0 q1 q2 h2 h3 h4 h5 D8
        generalize seli v9 (-1) (IntKind.i64.wrap (x3 + 1)) = x at *
        have q1 := E.at0.cell; have q3 := E.at1.cell; have q4 := E.at1.free
        go_wp2_with fail
        have CE := ((((((E.swap.set 0 (.int .i64 v1)).set 1 (.int .i64 v2)).set 2 (.int .i64 v5)).set 3 (.int .i64 x3)).set 4 (.int .i64 x)).set 5 (.int .i64 v6))
        have hq := CE.at0.cell
        exact bodyPost_ret (v := .agg #[.int .i64 v1, .int .i64 v2, .int .i64 v5, .int .i64 x3, .int .i64 x, .int .i64 v6]) (by simp [results, Try.results28, go_sem, hq]) rfl ⟨_, _, _, _, _, _, rfl, CE.mu, CE.rd.more (by omega)⟩

      all_goals
        refine ww ?_
        intro W hW
        have E : Ctx gr (m + 6 + 1 + 1 + 1) w W [(gc, #[.int .i64 v1, .int .i64 v2, .int .i64 v5, .int .i64 x3, .int .i64 (seli v9 (-1) (IntKind.i64.wrap (x3 + 1))), .int .i64 v6]), (w.heap.size, #[.int .i64 0, .int .i64 0, .int .i64 0, .int .i64 0, .int .i64 0, .int .i64 0])] := by rw [hW]; exact (M.set 4 (.int .i64 (seli v9 (-1) (IntKind.i64.wrap (x3 + 1))))).skip _
        clear hW
        clear PA PB q1 q2 q3 h2 h3 h4 h5 D8
        generalize seli v9 (-1) (IntKind.i64.wrap (x3 + 1)) = x at *
        have q1 := E.at0.cell; have q3 := E.at1.cell; have q4 := E.at1.free
        go_wp2_with fail
        have CE := ((((((E.swap.set 0 (.int .i64 v1)).set 1 (.int .i64 v2)).set 2 (.int .i64 v5)).set 3 (.int .i64 x3)).set 4 (.int .i64 x)).set 5 (.int .i64 v6))
        have hq := CE.at0.cell
        exact bodyPost_ret (v := .agg #[.int .i64 v1, .int .i64 v2, .int .i64 v5, .int .i64 x3, .int .i64 x, .int .i64 v6]) (by simp [results, Try.results28, go_sem, hq]) rfl ⟨_, _, _, _, _, _, rfl, CE.mu, CE.rd.more (by omega)⟩

    · go_wp2_with fail
      have D8 := C14.drew
      have e0 : w8.cell? ⟨gc, 0, none⟩ = some (.int .i64 v1) := C14.at0.cell 0
      have PA : Aside (∀ cs t, Calls Try.prog 31 #[.pointer (some ⟨gr, 0, none⟩), .int .i64 2] (w8.alloc (.cells cs t)).drew (PickP gr (m + 6 + 1 + 1) 2 (w8.alloc (.cells cs t)).drew)) :=
        ⟨fun cs t => pick_any gr _ 2 _ (by omega) (C14.new cs t).drew.rd⟩
      have PB : Aside (Calls Try.prog 31 #[.pointer (some ⟨gr, 0, none⟩), .int .i64 2] w8.drew (PickP gr (m + 6 + 1 + 1) 2 w8.drew)) := ⟨pick_any gr _ 2 _ (by omega) D8.rd⟩
      go_region_with (first
        | ((with_reducible refine (PA.out _ _).mono ?_); rintro _ w9 ⟨v9, rfl, a9, b9, k9, r9⟩; have M := (C14.new _ _).drew.call k9 r9; have h2 := two_at v9 a9 b9; have h3 := two_at_arr v9 a9 b9; have h4 := two_get v9 a9 b9; have h5 := two_get_arr v9 a9 b9; have hb9 : v9 < 2 := (by omega); have q0 := (M.at0.cell v9.toNat).trans (two_at_arr v9 a9 b9 _ _); have q1 : w9.cell? ⟨gc, 2, none⟩ = some (.int .i64 v5) := M.at1.cell 2; have q2 := M.at1.free 2)
        | ((with_reducible refine PB.out.mono ?_); rintro _ w9 ⟨v9, rfl, a9, b9, k9, r9⟩; have M := D8.call k9 r9; have h2 := two_at v9 a9 b9; have h3 := two_at_arr v9 a9 b9; have h4 := two_get v9 a9 b9; have h5 := two_get_arr v9 a9 b9; have hb9 : v9 < 2 := (by omega); have q1 : w9.cell? ⟨gc, 2, none⟩ = some (.int .i64 v5) := M.at0.cell 2; have q3 : w9.cell? ⟨gc, 0, none⟩ = some (.int .i64 v1) := M.at0.cell 0; have q2 := M.at0.free 2; have hlt := M.at0.lt))
      · have E := M.drop.set 2 (.int .i64 (seli v9 (-1) (IntKind.i64.wrap (v1 + 1))))
        clear PA PB q0 q1 q2 h2 h3 h4 h5 D8
        generalize seli v9 (-1) (IntKind.i64.wrap (v1 + 1)) = x at *
        have q1 := E.at0.cell; have q3 := E.at1.cell; have q4 := E.at1.free
        go_wp2_with fail
        have CE := ((((((E.swap.set 0 (.int .i64 v1)).set 1 (.int .i64 v2)).set 2 (.int .i64 x)).set 3 (.int .i64 x3)).set 4 (.int .i64 v4)).set 5 (.int .i64 v6))
        have hq := CE.at0.cell
        exact bodyPost_ret (v := .agg #[.int .i64 v1, .int .i64 v2, .int .i64 x, .int .i64 x3, .int .i64 v4, .int .i64 v6]) (by simp [results, Try.results28, go_sem, hq]) rfl ⟨_, _, _, _, _, _, rfl, CE.mu, CE.rd.more (by omega)⟩

      all_goals
        refine ww ?_
        intro W hW
        have E : Ctx gr (m + 6 + 1 + 1 + 1) w W [(gc, #[.int .i64 v1, .int .i64 v2, .int .i64 (seli v9 (-1) (IntKind.i64.wrap (v1 + 1))), .int .i64 x3, .int .i64 v4, .int .i64 v6]), (w.heap.size, #[.int .i64 0, .int .i64 0, .int .i64 0, .int .i64 0, .int .i64 0, .int .i64 0])] := by rw [hW]; exact (M.set 2 (.int .i64 (seli v9 (-1) (IntKind.i64.wrap (v1 + 1))))).skip _
        clear hW
        clear PA PB q1 q2 q3 h2 h3 h4 h5 D8
        generalize seli v9 (-1) (IntKind.i64.wrap (v1 + 1)) = x at *
        have q1 := E.at0.cell; have q3 := E.at1.cell; have q4 := E.at1.free
        go_wp2_with fail
        have CE := ((((((E.swap.set 0 (.int .i64 v1)).set 1 (.int .i64 v2)).set 2 (.int .i64 x)).set 3 (.int .i64 x3)).set 4 (.int .i64 v4)).set 5 (.int .i64 v6))
        have hq := CE.at0.cell
        exact bodyPost_ret (v := .agg #[.int .i64 v1, .int .i64 v2, .int .i64 x, .int .i64 x3, .int .i64 v4, .int .i64 v6]) (by simp [results, Try.results28, go_sem, hq]) rfl ⟨_, _, _, _, _, _, rfl, CE.mu, CE.rd.more (by omega)⟩

end Go.Proofs.Ytjdclaglelldeaa
