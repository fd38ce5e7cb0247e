/- Words that all walks of this seat use: how a call's world stands to the one before it. -/
import Derived.Test.YtppocjgjjjojiaaDoorProg
import Derived.WalkKit
import Derived.WalkSpells
import Derived.WalkLawsBesides
import Derived.Deep.QuietTactic
import Derived.BigQuiet
import Derived.Lib.Hide
import Derived.RegionTactic
import Derived.ChangeAlike
import Derived.StillTailTactics
import Derived.Deep.RegionHeld3
import Derived.KernelRfl
namespace Go.Proofs.YtppocjgjjjojiaaDoor
open Go.RowKit

/-- The world w' has all blocks of w as they were (more may have come). -/
def Gr (w w' : World) : Prop := Below w.heap.size w w'
theorem Gr.refl (w : World) : Gr w w := Below.refl _ _
theorem Gr.trans {a b c : World} (h : Gr a b) (k : Gr b c) : Gr a c :=
  Below.trans h (Below.mono k h.size)
theorem Gr.drew {a b : World} (h : Gr a b) : Gr a b.drew := Below.drew h
theorem Gr.drewN {a b : World} (h : Gr a b) (n : Nat) : Gr a (b.drewN n) := ⟨h.os, h.tape, h.output, h.size, h.block⟩
theorem Gr.alloc {a b : World} (h : Gr a b) (o : Obj) : Gr a (b.alloc o) := Below.alloc h h.size o
theorem Gr.set {a b : World} (h : Gr a b) {p : Addr} (hp : a.heap.size ≤ p.block) (v : Value) : Gr a (b.setCell p v) := Below.setCell h hp v
/-- What the walk is told of a world behind a call: two rules, and the size. -/
theorem Gr.tell {w w1 : World} (hb : Gr w w1) :
    (∀ b o, b < w.heap.size → w1.cell? ⟨b, o, none⟩ = w.cell? ⟨b, o, none⟩) ∧ (∀ b o, b < w.heap.size → w1.frozen? ⟨b, o, none⟩ = w.frozen? ⟨b, o, none⟩) ∧ w.heap.size ≤ w1.heap.size :=
  ⟨fun b o h => Below.cell hb (p := ⟨b, o, none⟩) h, fun b o h => Below.frozen hb (p := ⟨b, o, none⟩) h, hb.size⟩

/-- The world at hand under a name of its own. -/
theorem ww {K : Act → World → Prop} {a : Act} {W : World} (h : ∀ W', W' = W → K a W') : K a W := h W rfl

/-- A fact that the walk's simp does not look into. -/
structure Aside (p : Prop) : Prop where
  out : p

/-- Block g holds just the cells cs, and may be written. -/
structure BK (w : World) (g : Nat) (cs : Array Value) : Prop where
  lt : g < w.heap.size
  cell : ∀ j, w.cell? ⟨g, j, none⟩ = cs[j]?
  free : ∀ j, w.frozen? ⟨g, j, none⟩ = false
theorem BK.new (w : World) (cs : Array Value) (t : TypeId) : BK (w.alloc (.cells cs t)) w.heap.size cs :=
  ⟨by simp, fun j => cell_of_row _ _ j cs t (0, 0) (heap_alloc_new w _), fun j => frozen_of_row _ _ j cs t (heap_alloc_new w _)⟩
theorem BK.gr {w w1 : World} {g : Nat} {cs : Array Value} (h : BK w g cs) (k : Gr w w1) : BK w1 g cs :=
  ⟨Nat.lt_of_lt_of_le h.lt k.size, fun j => (k.tell.1 g j h.lt).trans (h.cell j), fun j => (k.tell.2.1 g j h.lt).trans (h.free j)⟩
theorem BK.drew {w : World} {g : Nat} {cs : Array Value} (h : BK w g cs) : BK w.drew g cs := ⟨h.lt, h.cell, h.free⟩
theorem BK.drewN {w : World} {g : Nat} {cs : Array Value} (h : BK w g cs) (n : Nat) : BK (w.drewN n) g cs := ⟨h.lt, h.cell, h.free⟩
theorem BK.alloc {w : World} {g : Nat} {cs : Array Value} (h : BK w g cs) (o : Obj) : BK (w.alloc o) g cs := h.gr ((Gr.refl w).alloc o)
theorem BK.far {w : World} {g : Nat} {cs : Array Value} (h : BK w g cs) {p : Addr} (hp : g ≠ p.block) (u : Value) : BK (w.setCell p u) g cs :=
  ⟨by simpa [World.setCell] using h.lt, fun j => (World.cell?_of_block (w := w) (a := ⟨g, j, none⟩) (Below.heap_setCell w p u g hp)).trans (h.cell j),
    fun j => (World.frozen?_of_block (w := w) (a := ⟨g, j, none⟩) (Below.heap_setCell w p u g hp)).trans (h.free j)⟩
theorem BK.set {w : World} {g : Nat} {cs : Array Value} (h : BK w g cs) (i : Nat) (u : Value) : BK (w.setCell ⟨g, i, none⟩ u) g (cs.setIfInBounds i u) := by
  refine ⟨by simpa [World.setCell] using h.lt, fun j => ?_, fun j => ?_⟩
  · have hc := h.cell
    by_cases hij : i = j
    · subst hij
      rcases hx : w.cell? ⟨g, i, none⟩ with _ | v
      · have : cs[i]? = none := by rw [← hc i, hx]
        have hsz : cs.size ≤ i := by simpa using this
        rw [Array.setIfInBounds_eq_of_size_le hsz, this]
        have hb := h.lt
        simp only [World.cell?, World.setCell, Array.getElem?_modify] at hx ⊢
        cases hg : w.heap[g]? with
        | none => simp
        | some o =>
          rw [hg] at hx
          cases o <;> simp_all
      · have hsz : i < cs.size := by
          have : cs[i]? = some v := by rw [← hc i, hx]
          exact (Array.getElem?_eq_some_iff.1 this).1
        rw [Array.getElem?_setIfInBounds_self_of_lt hsz]
        exact World.cell?_setCell_same w ⟨g, i, none⟩ u hx
    · rw [Array.getElem?_setIfInBounds_ne hij, ← hc j]
      exact World.cell?_setCell_other w ⟨g, i, none⟩ ⟨g, j, none⟩ u (fun e => hij (by injection e))
  · have := h.free j
    simp only [World.frozen?, World.setCell, Array.getElem?_modify] at this ⊢
    cases hg : w.heap[g]? with
    | none => simp
    | some o =>
      rw [hg] at this
      cases o <;> simp_all
/-- But for the blocks of S, all blocks of w stand in w'. -/
structure Mu (S : Nat → Prop) (w w' : World) : Prop where
  os : w'.os = w.os
  tape : w'.tape = w.tape
  output : w'.output = w.output
  size : w.heap.size ≤ w'.heap.size
  block : ∀ k, k < w.heap.size → ¬ S k → w'.heap[k]? = w.heap[k]?
theorem Mu.refl (S : Nat → Prop) (w : World) : Mu S w w := ⟨rfl, rfl, rfl, Nat.le_refl _, fun _ _ _ => rfl⟩
theorem Mu.trans {S : Nat → Prop} {a b c : World} (h : Mu S a b) (k : Mu S b c) : Mu S a c :=
  ⟨k.os.trans h.os, k.tape.trans h.tape, k.output.trans h.output, Nat.le_trans h.size k.size, fun i hi hs => (k.block i (Nat.lt_of_lt_of_le hi h.size) hs).trans (h.block i hi hs)⟩
theorem Mu.of_gr {S : Nat → Prop} {a b : World} (h : Gr a b) : Mu S a b := ⟨h.os, h.tape, h.output, h.size, fun k hk _ => h.block k hk⟩
theorem Mu.drewN {S : Nat → Prop} {a b : World} (h : Mu S a b) (n : Nat) : Mu S a (b.drewN n) := ⟨h.os, h.tape, h.output, h.size, h.block⟩
theorem Mu.drew {S : Nat → Prop} {a b : World} (h : Mu S a b) : Mu S a b.drew := ⟨h.os, h.tape, h.output, h.size, h.block⟩
theorem Mu.alloc {S : Nat → Prop} {a b : World} (h : Mu S a b) (o : Obj) : Mu S a (b.alloc o) := h.trans (.of_gr ((Gr.refl b).alloc o))
theorem Mu.set {S : Nat → Prop} {a b : World} (h : Mu S a b) {p : Addr} (hp : S p.block ∨ a.heap.size ≤ p.block) (v : Value) : Mu S a (b.setCell p v) :=
  ⟨h.os, h.tape, h.output, by simpa [World.setCell] using h.size, fun k hk hs => (Below.heap_setCell b p v k (fun e => by subst e; rcases hp with hp | hp; exact hs hp; omega)).trans (h.block k hk hs)⟩
theorem Mu.mono {S T : Nat → Prop} {a b : World} (h : Mu S a b) (hst : ∀ k, k < a.heap.size → S k → T k) : Mu T a b := ⟨h.os, h.tape, h.output, h.size, fun k hk hs => h.block k hk (fun e => hs (hst k hk e))⟩
/-- What was made since w, and is all that was turned. -/
theorem Mu.gr {S : Nat → Prop} {a b : World} (h : Mu S a b) (hs : ∀ k, k < a.heap.size → ¬ S k) : Gr a b := ⟨h.os, h.tape, h.output, h.size, fun k hk => h.block k hk (hs k hk)⟩
theorem BK.mu {w w1 : World} {g : Nat} {cs : Array Value} {S : Nat → Prop} (h : BK w g cs) (k : Mu S w w1) (hg : ¬ S g) : BK w1 g cs :=
  ⟨Nat.lt_of_lt_of_le h.lt k.size, fun j => (World.cell?_of_block (w := w) (a := ⟨g, j, none⟩) (k.block g h.lt hg)).trans (h.cell j), fun j => (World.frozen?_of_block (w := w) (a := ⟨g, j, none⟩) (k.block g h.lt hg)).trans (h.free j)⟩

end Go.Proofs.YtppocjgjjjojiaaDoor
