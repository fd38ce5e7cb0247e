/- The reader of a code: what pick, odd and l20Open do. -/
import Derived.Test.YtppocjgjjjojiaaDoorBase
import Derived.IntWalk
namespace Go.Proofs.YtppocjgjjjojiaaDoor
open Go.RowKit

/-- Cells from o on of a block hold bytes. -/
def Bytes (w : World) (A : Option Addr) (n : Nat) : Prop :=
  0 < n → ∃ b o, A = some ⟨b, o, none⟩ ∧ b < w.heap.size ∧ ∀ k, k < n → ∃ z : Int, w.cell? ⟨b, o + k, none⟩ = some (.int .u8 z) ∧ 0 ≤ z ∧ z < 256
/-- The reader lies in block gr, apart from its code; so many bytes are behind it at most. -/
def Rdr (w : World) (gr : Nat) (m : Nat) : Prop :=
  ∃ (A : Option Addr) (n c p : Nat), BK w gr #[.slice A n c, .int .i64 (p : Int)] ∧ p ≤ m ∧ n ≤ 2000 ∧ n ≤ c ∧ Bytes w A n ∧ (∀ b o, 0 < n → A = some ⟨b, o, none⟩ → b < gr)
theorem Bytes.mu {w w1 : World} {A : Option Addr} {n : Nat} {S : Nat → Prop} (h : Bytes w A n) (k : Mu S w w1) (hs : ∀ b o, 0 < n → A = some ⟨b, o, none⟩ → ¬ S b) : Bytes w1 A n := by
  intro hn
  obtain ⟨b, o, rfl, hb, hz⟩ := h hn
  refine ⟨b, o, rfl, Nat.lt_of_lt_of_le hb k.size, fun j hj => ?_⟩
  obtain ⟨z, hc, hr⟩ := hz j hj
  exact ⟨z, (World.cell?_of_block (w := w) (a := ⟨b, o + j, none⟩) (k.block b hb (hs b o hn rfl))).trans hc, hr⟩
theorem Rdr.mu {w w1 : World} {gr m : Nat} {S : Nat → Prop} (h : Rdr w gr m) (k : Mu S w w1) (hS : ∀ b, b ≤ gr → ¬ S b) : Rdr w1 gr m := by
  obtain ⟨A, n, c, p, hb, hp, hn, hc, hy, ha⟩ := h
  exact ⟨A, n, c, p, hb.mu k (hS _ (Nat.le_refl _)), hp, hn, hc, hy.mu k (fun b o h0 e => hS b (Nat.le_of_lt (ha b o h0 e))), ha⟩
theorem Rdr.set {w : World} {gr m : Nat} (h : Rdr w gr m) {p : Addr} (hp : gr < p.block) (v : Value) : Rdr (w.setCell p v) gr m :=
  h.mu (S := fun b => b = p.block) ((Mu.refl (fun b => b = p.block) w).set (.inl rfl) v) (fun b hb e => by omega)
theorem Rdr.drew {w : World} {gr m : Nat} (h : Rdr w gr m) : Rdr w.drew gr m := h.mu (S := fun _ => False) (Mu.refl _ w).drew (fun _ _ h => h)
theorem Rdr.drewN {w : World} {gr m : Nat} (h : Rdr w gr m) (n : Nat) : Rdr (w.drewN n) gr m := h.mu (S := fun _ => False) ((Mu.refl _ w).drewN n) (fun _ _ h => h)
theorem Rdr.gr {w w1 : World} {gr m : Nat} (h : Rdr w gr m) (k : Gr w w1) : Rdr w1 gr m := h.mu (S := fun _ => False) (.of_gr k) (fun _ _ h => h)
theorem Rdr.more {w : World} {gr m m' : Nat} (h : Rdr w gr m) (k : m ≤ m') : Rdr w gr m' := by
  obtain ⟨A, n, c, p, hb, hp, hr⟩ := h
  exact ⟨A, n, c, p, hb, by omega, hr⟩
theorem Rdr.lt {w : World} {gr m : Nat} (h : Rdr w gr m) : gr < w.heap.size := by obtain ⟨A, n, c, p, hb, _⟩ := h; exact hb.lt


/-- A call at work that reads a code: what it has made itself, block by block, since the world w. -/
structure Ctx (gr m : Nat) (w W : World) (L : List (Nat × Array Value)) : Prop where
  hg : gr < w.heap.size
  mu : Mu (· = gr) w W
  rd : Rdr W gr m
  loc : ∀ p ∈ L, BK W p.1 p.2 ∧ w.heap.size ≤ p.1
  nd : (L.map (·.1)).Nodup
section
variable {gr m : Nat} {w W : World} {L : List (Nat × Array Value)} {g g0 g1 : Nat} {cs c0 c1 : Array Value}
theorem Ctx.start (h : Rdr w gr m) : Ctx gr m w w [] := ⟨h.lt, .refl _ _, h, (fun _ h => by cases h), by simp⟩
theorem Ctx.call {W1 : World} {m' : Nat} (h : Ctx gr m w W L) (k : Mu (· = gr) W W1) (r : Rdr W1 gr m') : Ctx gr m' w W1 L :=
  ⟨h.hg, h.mu.trans k, r, fun p hp => ⟨(h.loc p hp).1.mu k (Nat.ne_of_gt (Nat.lt_of_lt_of_le h.hg (h.loc p hp).2)), (h.loc p hp).2⟩, h.nd⟩
theorem Ctx.skip (h : Ctx gr m w W L) (o : Obj) : Ctx gr m w (W.alloc o) L :=
  ⟨h.hg, h.mu.alloc o, h.rd.gr ((Gr.refl _).alloc o), fun p hp => ⟨(h.loc p hp).1.alloc o, (h.loc p hp).2⟩, h.nd⟩
theorem Ctx.drew (h : Ctx gr m w W L) : Ctx gr m w W.drew L := ⟨h.hg, h.mu.drew, h.rd.drew, fun p hp => ⟨(h.loc p hp).1.drew, (h.loc p hp).2⟩, h.nd⟩
theorem Ctx.drewN (h : Ctx gr m w W L) (n : Nat) : Ctx gr m w (W.drewN n) L := ⟨h.hg, h.mu.drewN n, h.rd.drewN n, fun p hp => ⟨(h.loc p hp).1.drewN n, (h.loc p hp).2⟩, h.nd⟩
theorem Ctx.new (h : Ctx gr m w W L) (cs : Array Value) (t : TypeId) : Ctx gr m w (W.alloc (.cells cs t)) ((W.heap.size, cs) :: L) := by
  refine ⟨h.hg, h.mu.alloc _, h.rd.gr ((Gr.refl _).alloc _), fun p hp => ?_, ?_⟩
  · rcases List.mem_cons.1 hp with rfl | hp
    · exact ⟨BK.new W cs t, h.mu.size⟩
    · exact ⟨(h.loc p hp).1.alloc _, (h.loc p hp).2⟩
  · simp only [List.map_cons, List.nodup_cons]
    refine ⟨fun hm => ?_, h.nd⟩
    obtain ⟨p, hp, e⟩ := List.mem_map.1 hm
    have := (h.loc p hp).1.lt
    omega
theorem Ctx.drop {p : Nat × Array Value} (h : Ctx gr m w W (p :: L)) : Ctx gr m w W L :=
  ⟨h.hg, h.mu, h.rd, fun q hq => h.loc q (List.mem_cons_of_mem _ hq), (List.nodup_cons.1 h.nd).2⟩
theorem Ctx.swap {p q : Nat × Array Value} (h : Ctx gr m w W (p :: q :: L)) : Ctx gr m w W (q :: p :: L) :=
  ⟨h.hg, h.mu, h.rd, (fun x hx => h.loc x (by simp only [List.mem_cons] at hx ⊢; rcases hx with h | h | h <;> simp [h])), by
    have := h.nd
    simp only [List.map_cons, List.nodup_cons, List.mem_cons, not_or] at this ⊢
    exact ⟨⟨fun e => this.1.1 e.symm, this.2.1⟩, this.1.2, this.2.2⟩⟩
theorem Ctx.set (h : Ctx gr m w W ((g, cs) :: L)) (i : Nat) (v : Value) : Ctx gr m w (W.setCell ⟨g, i, none⟩ v) ((g, cs.setIfInBounds i v) :: L) := by
  have hB := h.loc (g, cs) (by simp)
  have hgg : gr < g := Nat.lt_of_lt_of_le h.hg hB.2
  refine ⟨h.hg, h.mu.set (p := ⟨g, i, none⟩) (.inr hB.2) v, h.rd.set (p := ⟨g, i, none⟩) hgg v, fun p hp => ?_, h.nd⟩
  rcases List.mem_cons.1 hp with rfl | hp
  · exact ⟨hB.1.set i v, hB.2⟩
  · have hne : p.1 ≠ g := fun e => (List.nodup_cons.1 h.nd).1 (List.mem_map.2 ⟨p, hp, e⟩)
    exact ⟨(h.loc p (List.mem_cons_of_mem _ hp)).1.far (p := ⟨g, i, none⟩) hne v, (h.loc p (List.mem_cons_of_mem _ hp)).2⟩
theorem Ctx.at0 (h : Ctx gr m w W ((g, cs) :: L)) : BK W g cs := (h.loc (g, cs) (by simp)).1
theorem Ctx.at1 {p : Nat × Array Value} (h : Ctx gr m w W (p :: (g, cs) :: L)) : BK W g cs := (h.loc (g, cs) (by simp)).1
theorem Ctx.at2 {p q : Nat × Array Value} (h : Ctx gr m w W (p :: q :: (g, cs) :: L)) : BK W g cs := (h.loc (g, cs) (by simp)).1
end

/-- A literal list of numbers at a drawn place. -/
theorem lit_at (l : List Int) (v : Int) (_h0 : 0 ≤ v) (h : v < (l.length : Int) ∨ v = 0) (hl : 0 < l.length) : ∃ x ∈ l, ((l.map (Value.int .i64)).toArray)[v.toNat]? = some (.int .i64 x) := by
  have hlt : v.toNat < l.length := by omega
  exact ⟨l[v.toNat], List.getElem_mem hlt, by simp [List.getElem?_eq_getElem hlt]⟩
def seli (v a b : Int) : Int := if v = 0 then a else b
theorem two_at (v : Int) (h0 : 0 ≤ v) (h : v < 2 ∨ v = 0) (a b : Int) : ([.int .i64 a, .int .i64 b] : List Value)[v.toNat]? = some (.int .i64 (seli v a b)) := by
  obtain rfl | rfl : v = 0 ∨ v = 1 := by omega
  · rfl
  · rfl
theorem two_at_arr (v : Int) (h0 : 0 ≤ v) (h : v < 2 ∨ v = 0) (a b : Int) : (#[.int .i64 a, .int .i64 b] : Array Value)[v.toNat]? = some (.int .i64 (seli v a b)) := by
  obtain rfl | rfl : v = 0 ∨ v = 1 := by omega
  · rfl
  · rfl
theorem two_get (v : Int) (h0 : 0 ≤ v) (h : v < 2 ∨ v = 0) (a b : Int) (hl : v.toNat < ([.int .i64 a, .int .i64 b] : List Value).length) : ([.int .i64 a, .int .i64 b] : List Value)[v.toNat]'hl = .int .i64 (seli v a b) := by
  obtain rfl | rfl : v = 0 ∨ v = 1 := by omega
  · rfl
  · rfl
theorem two_get_arr (v : Int) (h0 : 0 ≤ v) (h : v < 2 ∨ v = 0) (a b : Int) (hl : v.toNat < (#[.int .i64 a, .int .i64 b] : Array Value).size) : (#[.int .i64 a, .int .i64 b] : Array Value)[v.toNat]'hl = .int .i64 (seli v a b) := by
  obtain rfl | rfl : v = 0 ∨ v = 1 := by omega
  · rfl
  · rfl
theorem xor_nonneg (x y : Int) (hx : 0 ≤ x) (hx' : x < 4611686018427387904) (hy : 0 ≤ y) (hy' : y < 4611686018427387904) : 0 ≤ bits .xor .i64 x y := by
  obtain ⟨a, rfl⟩ := Int.eq_ofNat_of_zero_le hx
  obtain ⟨b, rfl⟩ := Int.eq_ofNat_of_zero_le hy
  have ha : a < 2 ^ 62 := by omega
  have hb : b < 2 ^ 62 := by omega
  have hc : a ^^^ b < 2 ^ 62 := Nat.xor_lt_two_pow ha hb
  have e : bits .xor .i64 (a : Int) (b : Int) = IntKind.i64.wrap ((a ^^^ b : Nat) : Int) := by
    have ha' : a % 2 ^ 64 = a := Nat.mod_eq_of_lt (by omega)
    have hb' : b % 2 ^ 64 = b := Nat.mod_eq_of_lt (by omega)
    show IntKind.i64.wrap (((BitVec.ofInt 64 (a : Int) ^^^ BitVec.ofInt 64 (b : Int)).toNat : Nat) : Int) = _
    rw [BitVec.ofInt_natCast, BitVec.ofInt_natCast, BitVec.toNat_xor, BitVec.toNat_ofNat, BitVec.toNat_ofNat, ha', hb']
  rw [e, IntWalk.i64_in _ (by omega)]
  omega

theorem bmod (a : Int) (n : Int) (h : 1 ≤ n) : 0 ≤ a % n ∧ a % n < n := ⟨Int.emod_nonneg _ (by omega), Int.emod_lt_of_pos _ (by omega)⟩

/-- The reader with one byte more behind it. -/
theorem Rdr.next {w : World} {gr m : Nat} {A : Option Addr} {l c p : Nat} (hb : BK w gr #[.slice A l c, .int .i64 (p : Int)]) (hp : p ≤ m) (hl : l ≤ 2000) (hlc : l ≤ c) (hy : Bytes w A l) (ha : ∀ b o, 0 < l → A = some ⟨b, o, none⟩ → b < gr) (k : Nat) :
    Mu (· = gr) w ((w.setCell ⟨gr, 1, none⟩ (.int .i64 ((p : Int) + 1))).drewN k) ∧ Rdr ((w.setCell ⟨gr, 1, none⟩ (.int .i64 ((p : Int) + 1))).drewN k) gr (m + 1) := by
  have hmu : Mu (· = gr) w ((w.setCell ⟨gr, 1, none⟩ (.int .i64 ((p : Int) + 1))).drewN k) := ((Mu.refl (· = gr) w).set (p := ⟨gr, 1, none⟩) (.inl rfl) _).drewN k
  refine ⟨hmu, A, l, c, p + 1, ?_, by omega, hl, hlc, hy.mu hmu (fun b o h0 e => Nat.ne_of_lt (ha b o h0 e)), ha⟩
  have := (hb.set 1 (.int .i64 ((p : Int) + 1))).drewN k
  simpa using this

def PickP (gr m : Nat) (n : Int) (w : World) (e : Ending) (w' : World) : Prop := ∃ v : Int, e = .returned (.int .i64 v) ∧ 0 ≤ v ∧ (v < n ∨ v = 0) ∧ Mu (· = gr) w w' ∧ Rdr w' gr (m + 1)
set_option maxHeartbeats 1000000 in
theorem pick_any (gr m : Nat) (n : Int) (w : World) (hm : m < 1000000000) (h : Rdr w gr m) :
    Calls Tryd.prog 71 #[.pointer (some ⟨gr, 0, none⟩), .int .i64 n] w (PickP gr m n w) := by
  obtain ⟨A, l, c, p, hb, hp, hl, hlc, hy, ha⟩ := h
  have hc := hb.cell
  have hf := hb.free
  have c0 : w.cell? ⟨gr, 0, none⟩ = some (.slice A l c) := hc 0
  have c1 : w.cell? ⟨gr, 1, none⟩ = some (.int .i64 (p : Int)) := hc 1
  have f1 := hf 1
  have hpb : p < 1000000000 := by omega
  have hend : ∀ k, Aside (Mu (· = gr) w ((w.setCell ⟨gr, 1, none⟩ (.int .i64 ((p : Int) + 1))).drewN k) ∧ Rdr ((w.setCell ⟨gr, 1, none⟩ (.int .i64 ((p : Int) + 1))).drewN k) gr (m + 1)) := fun k => ⟨Rdr.next hb hp hl hlc hy ha k⟩
  clear hc hf hb
  by_cases hn : n < 1
  · go_enter Tryd.func71, Tryd.ntmps71
    go_wp2
    go_ret
    exact ⟨0, rfl, by omega, .inr rfl, (hend 0).out⟩
  by_cases hl0 : l = 0
  · subst hl0
    go_enter Tryd.func71, Tryd.ntmps71
    go_wp2
    go_ret
    exact ⟨0, rfl, by omega, .inr rfl, (hend 0).out⟩
  obtain ⟨b, o, rfl, hbl, hz⟩ := hy (by omega)
  have hne : b ≠ gr := Nat.ne_of_lt (ha b o (by omega) rfl)
  have hn1 : 1 ≤ n := by omega
  have hl1 : ((l : Int) == 0) = false := by simp; omega
  clear ha hy
  by_cases hpl : p < l
  · obtain ⟨z, hz1, hz2, hz3⟩ := hz p hpl
    go_enter Tryd.func71, Tryd.ntmps71
    go_wp2
    go_ret
    have hb1 := bmod z n hn1
    exact ⟨_, rfl, by omega, .inl (by omega), (hend 0).out⟩
  · obtain ⟨i1, hi1, t1⟩ : ∃ i : Nat, i < l ∧ (p : Int).tmod (l : Int) = (i : Int) := ⟨p % l, Nat.mod_lt _ (by omega), (Int.ofNat_tmod p l).symm⟩
    obtain ⟨i2, hi2, t2⟩ : ∃ i : Nat, i < l ∧ ((p : Int) * 7 + 3).tmod (l : Int) = (i : Int) := ⟨(p * 7 + 3) % l, Nat.mod_lt _ (by omega), by rw [Int.ofNat_tmod]; push_cast; rfl⟩
    obtain ⟨z, hz1, hz2, hz3⟩ := hz i1 hi1
    obtain ⟨y, hy1, hy2, hy3⟩ := hz i2 hi2
    clear hz
    obtain ⟨q, hq, t3⟩ : ∃ q : Nat, q ≤ p ∧ (p : Int).tdiv (l : Int) = (q : Int) := ⟨p / l, Nat.div_le_self _ _, (Int.ofNat_tdiv p l).symm⟩
    have hlc : ¬ (p : Int) < l := by omega
    have w1 : IntKind.i64.wrap (z * 131) = z * 131 := IntWalk.i64_in _ (by omega)
    have w2 : IntKind.i64.wrap ((p : Int) * 7) = (p : Int) * 7 := IntWalk.i64_in _ (by omega)
    have w3 : IntKind.i64.wrap ((p : Int) * 7 + 3) = (p : Int) * 7 + 3 := IntWalk.i64_in _ (by omega)
    have w4 : IntKind.i64.wrap (y * 1117) = y * 1117 := IntWalk.i64_in _ (by omega)
    have w5 : IntKind.i64.wrap (z * 131 + y * 1117) = z * 131 + y * 1117 := IntWalk.i64_in _ (by omega)
    have w6 : IntKind.i64.wrap ((p : Int) * 29) = (p : Int) * 29 := IntWalk.i64_in _ (by omega)
    have w7 : IntKind.i64.wrap (z * 131 + y * 1117 + (p : Int) * 29) = z * 131 + y * 1117 + (p : Int) * 29 := IntWalk.i64_in _ (by omega)
    have w8 : IntKind.i64.wrap (q : Int) = (q : Int) := IntWalk.i64_in _ (by omega)
    have w9 : IntKind.i64.wrap ((q : Int) * 53) = (q : Int) * 53 := IntWalk.i64_in _ (by omega)
    have w10 : IntKind.i64.wrap (z * 131 + y * 1117 + (p : Int) * 29 + (q : Int) * 53) = z * 131 + y * 1117 + (p : Int) * 29 + (q : Int) * 53 := IntWalk.i64_in _ (by omega)
    go_enter Tryd.func71, Tryd.ntmps71
    go_wp2
    go_quiet (fail)
    clear w1 w2 w3 w4 w5 w6 w7 w8 w9 w10 t1 t2 t3
    go_wp2
    go_ret
    have hx := xor_nonneg (z * 131 + y * 1117 + (p : Int) * 29 + (q : Int) * 53) ((z * 131 + y * 1117 + (p : Int) * 29 + (q : Int) * 53) / 64) (by omega) (by omega) (by omega) (by omega)
    exact ⟨_, rfl, Int.tmod_nonneg _ hx, .inl (Int.tmod_lt_of_pos _ (by omega)), (hend nq).out⟩

def OddP (gr m : Nat) (n : Int) (w : World) (e : Ending) (w' : World) : Prop := ∃ v : Bool, e = .returned (.bool v) ∧ (n ≤ 0 → v = false) ∧ Mu (· = gr) w w' ∧ Rdr w' gr (m + 1)
set_option maxHeartbeats 400000 in
theorem odd_any (gr m : Nat) (n : Int) (w : World) (hm : m < 1000000000) (h : Rdr w gr m) (hn : -9223372036854775808 < n ∧ n ≤ 9223372036854775807) :
    Calls Tryd.prog 120 #[.pointer (some ⟨gr, 0, none⟩), .int .i64 n] w (OddP gr m n w) := by
  by_cases h0 : n > 0
  · go_enter Tryd.func120, Tryd.ntmps120
    go_wp2_with fail
    refine (pick_any gr m n _ hm h).mono ?_; rintro _ w1 ⟨v, rfl, h1, h2, h3, h4⟩
    go_wp2_with fail
    go_ret
    exact ⟨_, rfl, fun h => by omega, h3, h4⟩
  · go_enter Tryd.func120, Tryd.ntmps120
    go_wp2_with fail
    go_ret
    exact ⟨false, rfl, fun _ => rfl, .refl _ _, h.more (by omega)⟩

set_option maxHeartbeats 400000 in
/-- The reader is apart from a code that lay there before it. -/
theorem open_any (A : Option Addr) (n c : Nat) (w : World) (hc : n ≤ c) (hy : Bytes w A n) :
    Calls Tryd.prog 70 #[.slice A n c] w fun e w' => ∃ gr, e = .returned (.pointer (some ⟨gr, 0, none⟩)) ∧ w.heap.size ≤ gr ∧ Gr w w' ∧ Rdr w' gr 0 := by
  by_cases h : (n : Int) > 2000
  · have h2 : 2000 ≤ c := by omega
    go_enter Tryd.func70, Tryd.ntmps70
    go_wp2
    go_ret
    have hy' : Bytes w A 2000 := fun _ => by
      obtain ⟨b, o, e, hb, hz⟩ := hy (by omega)
      exact ⟨b, o, e, hb, fun k hk => hz k (by omega)⟩
    refine ⟨_, rfl, Nat.le_refl _, (Gr.refl w).alloc _, A, 2000, c, 0, BK.new w _ _, Nat.le_refl _, by omega, h2, hy'.mu (S := fun _ => False) (.of_gr ((Gr.refl w).alloc _)) (fun _ _ _ _ h => h), fun b o h0 e => ?_⟩
    obtain ⟨b', o', e', hb', _⟩ := hy' h0
    rw [e] at e'; injection e' with e'; injection e' with e1 e2; subst e1
    omega
  · go_enter Tryd.func70, Tryd.ntmps70
    go_wp2
    go_ret
    refine ⟨_, rfl, Nat.le_refl _, (Gr.refl w).alloc _, A, n, c, 0, BK.new w _ _, Nat.le_refl _, by omega, hc, hy.mu (S := fun _ => False) (.of_gr ((Gr.refl w).alloc _)) (fun _ _ _ _ h => h), fun b o h0 e => ?_⟩
    obtain ⟨b', o', e', hb', _⟩ := hy h0
    rw [e] at e'; injection e' with e'; injection e' with e1 e2; subst e1
    omega

def WordP (gr m : Nat) (n : Int) (w : World) (e : Ending) (w' : World) : Prop := ∃ v : Int, e = .returned (.int .i64 v) ∧ (n = 0 → 0 ≤ v ∧ v < 65536) ∧ Mu (· = gr) w w' ∧ Rdr w' gr (m + 20)
theorem five {v : Int} (h0 : 0 ≤ v) (h : v < 5 ∨ v = 0) : v = 0 ∨ v = 1 ∨ v = 2 ∨ v = 3 ∨ v = 4 := by omega
theorem four {v : Int} (h0 : 0 ≤ v) (h : v < 4 ∨ v = 0) : v = 0 ∨ v = 1 ∨ v = 2 ∨ v = 3 := by omega
set_option maxHeartbeats 2000000 in
theorem l20Word_any (gr m : Nat) (n : Int) (w : World) (hm : m + 20 < 1000000000) (h : Rdr w gr m) (hn : 0 ≤ n ∧ n ≤ 1000) :
    Calls Tryd.prog 72 #[.pointer (some ⟨gr, 0, none⟩), .int .i64 n] w (WordP gr m n w) := by
  go_enter Tryd.func72, Tryd.ntmps72
  go_wp2_with fail
  refine (odd_any gr m n _ (by omega) h (by omega)).mono ?_; rintro _ w1 ⟨b, rfl, hb, k1, r1⟩
  cases b
  · go_wp2_with fail
    refine (pick_any gr _ 4 _ (by omega) r1).mono ?_; rintro _ w2 ⟨v1, rfl, a1, b1, k2, r2⟩
    go_wp2_with fail
    refine (pick_any gr _ 256 _ (by omega) r2).mono ?_; rintro _ w3 ⟨v2, rfl, a2, b2, k3, r3⟩
    go_wp2_with fail
    refine (pick_any gr _ 256 _ (by omega) r3).mono ?_; rintro _ w4 ⟨v3, rfl, a3, b3, k4, r4⟩
    go_wp2_with fail
    refine (pick_any gr _ 256 _ (by omega) r4).mono ?_; rintro _ w5 ⟨v4, rfl, a4, b4, k5, r5⟩
    go_wp2_with fail
    refine (pick_any gr _ 4 _ (by omega) r5).mono ?_; rintro _ w6 ⟨v5, rfl, a5, b5, k6, r6⟩
    go_wp2_with fail
    refine (pick_any gr _ 2 _ (by omega) r6).mono ?_; rintro _ w7 ⟨v6, rfl, a6, b6, k7, r7⟩
    go_wp2_with fail
    refine (pick_any gr _ 5 _ (by omega) (r7.gr ((Gr.refl _).alloc _))).mono ?_; rintro _ w8 ⟨v7, rfl, a7, b7, k8, r8⟩
    have B := ((BK.new w7 _ _).mu k8 (Nat.ne_of_gt r7.lt)).cell
    have hend : Mu (· = gr) w w8 := k1.trans <| k2.trans <| k3.trans <| k4.trans <| k5.trans <| k6.trans <| k7.trans <| ((Mu.refl _ w7).alloc _).trans k8
    have HE := Lib.hid hend; clear hend
    have r9 := r8.more (show m + 1 + 1 + 1 + 1 + 1 + 1 + 1 + 1 ≤ m + 20 by omega)
    obtain rfl | rfl | rfl | rfl | rfl := five a7 b7
    all_goals
      go_wp2_with fail
      go_ret
      exact ⟨_, rfl, fun _ => by omega, HE.out, r9⟩
  · have hn0 : n ≠ 0 := fun e => by have := hb (by omega); cases this
    go_wp2_with fail
    refine (pick_any gr _ 4 _ (by omega) (r1.gr ((Gr.refl _).alloc _))).mono ?_; rintro _ w8 ⟨v7, rfl, a7, b7, k8, r8⟩
    have B := ((BK.new w1 _ _).mu k8 (Nat.ne_of_gt r1.lt)).cell
    have hend : Mu (· = gr) w w8 := k1.trans <| ((Mu.refl _ w1).alloc _).trans k8
    have HE := Lib.hid hend; clear hend
    have r9 := r8.more (show m + 1 + 1 ≤ m + 20 by omega)
    obtain rfl | rfl | rfl | rfl := four a7 b7
    all_goals
      go_wp2_with fail
      go_ret
      exact ⟨_, rfl, fun e => absurd e hn0, HE.out, r9⟩
end Go.Proofs.YtppocjgjjjojiaaDoor
