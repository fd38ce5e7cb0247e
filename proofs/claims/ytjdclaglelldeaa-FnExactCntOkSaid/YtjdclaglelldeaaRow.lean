/- From a call's contract to a law's row: what holds of every law of this seat. -/
import Derived.Test.YtjdclaglelldeaaBase
import Derived.Test.YtjdclaglelldeaaRows
import Derived.ProofKit
import Derived.OpenShut
import Derived.ShutString
import Derived.ChangeOld
import Derived.SizedLaws
import Derived.Carry
namespace Go.Proofs.Ytjdclaglelldeaa
open Go.RowKit Go.ChangeShapes Go.WideShapes Go.ChangeAt

theorem Row.own : ownKnob Try.prog.godebug = none := by kernel_rfl
theorem Row.laidOut : laidOutB Try.prog = true := by kernel_rfl

/-- Arguments read behind the call as they did, if all old blocks stand. -/
theorem trodAll_keep {H : Type} {enc : TypeId × Value → H} {P : Program} (hl : laidOutB P = true) {W W' : World} (hb : Below W.heap.size W W') :
    ∀ (ts : List TypeId) (vs : List Value) (ds : List (DataW H)) (ps : List MemPlace), (∀ t ∈ ts, P.readableRec t = true ∧ t < P.types.size) →
      DataW.TrodAll enc P W 0 (fun _ => true) true ts vs ds ps → DataW.TrodAll enc P W' 0 (fun b => decide (b < W.heap.size)) true ts vs ds ps := by
  intro ts
  induction ts with
  | nil =>
    intro vs ds ps _ h
    obtain ⟨rfl, rfl, rfl⟩ := trodAll_nil h
    rfl
  | cons t ts ih =>
    intro vs ds ps hr h
    obtain ⟨v, vs', d, ds', p, q, rfl, rfl, rfl, h1, h2⟩ := trodAll_cons h
    obtain ⟨hr1, hr2⟩ := hr t (by simp)
    have hlt : ∀ x ∈ p, x.block < W.heap.size := by
      obtain ⟨m, hm⟩ := h1
      exact DataW.trod_lt m _ _ _ hm
    exact trodAll_cons_mk (Below.trod hl hr1 hr2 h1 hb hlt) (ih vs' ds' q (fun t' ht' => hr t' (List.mem_cons_of_mem _ ht')) h2)

section
variable {H : Type} {enc : TypeId × Value → H} {P : Program} {w : World} {base : Nat} {spare : Nat → Bool} {held : Bool}
/-- What a reading tells of the cells that it reads: a number, a bool, a string. -/
theorem rd_int {t : TypeId} {k : IntKind} {n : Nat} {cs : List Value} {x : Option (DataW H × List MemPlace)} (ht : P.underlying t = some (.int k)) (h : DataW.trod enc P w base spare held n t cs = x) (hx : x.isSome = true) :
    ∃ a, cs = [.int k a] ∧ (Lit.int k a).wf = true := by
  subst h
  cases n with
  | zero => simp [DataW.trod] at hx
  | succ n =>
    unfold DataW.trod at hx
    rw [ht] at hx
    dsimp only at hx
    split at hx <;> simp_all
theorem rd_bool {t : TypeId} {n : Nat} {cs : List Value} {x : Option (DataW H × List MemPlace)} (ht : P.underlying t = some .bool) (h : DataW.trod enc P w base spare held n t cs = x) (hx : x.isSome = true) :
    ∃ b, cs = [.bool b] := by
  subst h
  cases n with
  | zero => simp [DataW.trod] at hx
  | succ n =>
    unfold DataW.trod at hx
    rw [ht] at hx
    dsimp only at hx
    split at hx <;> simp_all
theorem rd_string {t : TypeId} {n : Nat} {cs : List Value} {x : Option (DataW H × List MemPlace)} (ht : P.underlying t = some .string) (h : DataW.trod enc P w base spare held n t cs = x) (hx : x.isSome = true) :
    ∃ s, cs = [.string s] ∧ s.size ≤ maxLen := by
  subst h
  cases n with
  | zero => simp [DataW.trod] at hx
  | succ n =>
    unfold DataW.trod at hx
    rw [ht] at hx
    dsimp only at hx
    split at hx <;> simp_all
/-- A field of a struct that is read. -/
theorem rd_field {t : TypeId} {n : Nat} {cs : List Value} {x : DataW H × List MemPlace} {fs : Array Field} (ht : P.underlying t = some (.struct fs)) (h : DataW.trod enc P w base spare held n t cs = some x) :
    cs.length = P.cellsOf t ∧ ∀ (i : Nat) (f : Field) (o k : Nat), fs[i]? = some f → f.offset = o → P.cellsOf f.type = k → ∃ m y, DataW.trod enc P w base spare held m f.type ((cs.drop o).take k) = some y := by
  obtain ⟨xs, m, _, _, hl, hxs, hf⟩ := DataW.trod_struct ht h
  refine ⟨hl, fun i f o k hi ho hk => ?_⟩
  have hlt : i < xs.length := by rw [hxs]; exact (Array.getElem?_eq_some_iff.1 hi).1
  have := hf i f hi
  rw [ho, hk, List.getElem?_eq_getElem hlt] at this
  exact ⟨m, _, this⟩
end
end Go.Proofs.Ytjdclaglelldeaa
