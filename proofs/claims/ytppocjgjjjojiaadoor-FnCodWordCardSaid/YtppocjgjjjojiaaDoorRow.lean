/- From a call's contract to a law's row: what holds of every law of this seat. -/
import Derived.Test.YtppocjgjjjojiaaDoorBase
import Derived.Test.YtppocjgjjjojiaaDoorRows
import Derived.ProofKit
import Derived.OpenShut
import Derived.ShutString
import Derived.ChangeOld
import Derived.SizedLaws
import Derived.Carry
namespace Go.Proofs.YtppocjgjjjojiaaDoor
open Go.RowKit Go.ChangeShapes Go.WideShapes Go.ChangeAt
set_option maxRecDepth 100000

theorem Row.own : ownKnob Tryd.prog.godebug = none := by kernel_rfl
theorem Row.laidOut : laidOutB Tryd.prog = true := by kernel_rfl

/-- Arguments read behind the call as they did, if all old blocks stand. -/
theorem trodAll_keep {H : Type} {enc : TypeId × Value → H} {P : Program} (hl : laidOutB P = true) {W W' : World} (hb : Below W.heap.size W W') :
    ∀ (ts : List TypeId) (vs : List Value) (ds : List (DataW H)) (ps : List MemPlace), (∀ t ∈ ts, P.readableRec t = true ∧ t < P.types.size) →
      DataW.TrodAll enc P W 0 (fun _ => true) true ts vs ds ps → DataW.TrodAll enc P W' 0 (fun b => decide (b < W.heap.size)) true ts vs ds ps := by
  intro ts
  induction ts with
  | nil =>
    intro vs ds ps _ h
    obtain ⟨rfl, rfl, rfl⟩ := trodAll_nil h
    rfl
  | cons t ts ih =>
    intro vs ds ps hr h
    obtain ⟨v, vs', d, ds', p, q, rfl, rfl, rfl, h1, h2⟩ := trodAll_cons h
    obtain ⟨hr1, hr2⟩ := hr t (by simp)
    have hlt : ∀ x ∈ p, x.block < W.heap.size := by
      obtain ⟨m, hm⟩ := h1
      exact DataW.trod_lt m _ _ _ hm
    exact trodAll_cons_mk (Below.trod hl hr1 hr2 h1 hb hlt) (ih vs' ds' q (fun t' ht' => hr t' (List.mem_cons_of_mem _ ht')) h2)

section
variable {H : Type} {enc : TypeId × Value → H} {P : Program} {w : World} {base : Nat} {spare : Nat → Bool} {held : Bool}
/-- What a reading tells of the cells that it reads: a number, a bool, a string. -/
theorem rd_int {t : TypeId} {k : IntKind} {n : Nat} {cs : List Value} {x : Option (DataW H × List MemPlace)} (ht : P.underlying t = some (.int k)) (h : DataW.trod enc P w base spare held n t cs = x) (hx : x.isSome = true) :
    ∃ a, cs = [.int k a] ∧ (Lit.int k a).wf = true := by
  subst h
  cases n with
  | zero => simp [DataW.trod] at hx
  | succ n =>
    unfold DataW.trod at hx
    rw [ht] at hx
    dsimp only at hx
    split at hx <;> simp_all
theorem rd_bool {t : TypeId} {n : Nat} {cs : List Value} {x : Option (DataW H × List MemPlace)} (ht : P.underlying t = some .bool) (h : DataW.trod enc P w base spare held n t cs = x) (hx : x.isSome = true) :
    ∃ b, cs = [.bool b] := by
  subst h
  cases n with
  | zero => simp [DataW.trod] at hx
  | succ n =>
    unfold DataW.trod at hx
    rw [ht] at hx
    dsimp only at hx
    split at hx <;> simp_all
theorem rd_string {t : TypeId} {n : Nat} {cs : List Value} {x : Option (DataW H × List MemPlace)} (ht : P.underlying t = some .string) (h : DataW.trod enc P w base spare held n t cs = x) (hx : x.isSome = true) :
    ∃ s, cs = [.string s] ∧ s.size ≤ maxLen := by
  subst h
  cases n with
  | zero => simp [DataW.trod] at hx
  | succ n =>
    unfold DataW.trod at hx
    rw [ht] at hx
    dsimp only at hx
    split at hx <;> simp_all
/-- A field of a struct that is read. -/
theorem rd_field {t : TypeId} {n : Nat} {cs : List Value} {x : DataW H × List MemPlace} {fs : Array Field} (ht : P.underlying t = some (.struct fs)) (h : DataW.trod enc P w base spare held n t cs = some x) :
    cs.length = P.cellsOf t ∧ ∀ (i : Nat) (f : Field) (o k : Nat), fs[i]? = some f → f.offset = o → P.cellsOf f.type = k → ∃ m y, DataW.trod enc P w base spare held m f.type ((cs.drop o).take k) = some y := by
  obtain ⟨xs, m, _, _, hl, hxs, hf⟩ := DataW.trod_struct ht h
  refine ⟨hl, fun i f o k hi ho hk => ?_⟩
  have hlt : i < xs.length := by rw [hxs]; exact (Array.getElem?_eq_some_iff.1 hi).1
  have := hf i f hi
  rw [ho, hk, List.getElem?_eq_getElem hlt] at this
  exact ⟨m, _, this⟩
end

/-- A code: a slice of bytes that came in. -/
theorem open_code {H : Type} {enc : TypeId × Value → H} {W : World} {base : Nat} {v : Value} {d : DataW H} {p : List MemPlace} (hv : Value.okWide Tryd.prog W .any base 32 v)
    (h : DataW.Trod enc Tryd.prog W 0 (fun _ => true) true 32 v d p) : ∃ A n c, v = .slice A n c ∧ n ≤ c ∧
      (0 < n → ∃ b o, A = some ⟨b, o, none⟩ ∧ b < W.heap.size ∧ ∀ k, k < n → ∃ z : Int, W.cell? ⟨b, o + k, none⟩ = some (.int .u8 z) ∧ 0 ≤ z ∧ z < 256) := by
  obtain ⟨A, n, c, rfl⟩ := okWide_slice Tryd.underlying32 hv
  obtain ⟨fuel, hf⟩ := h
  refine ⟨A, n, c, rfl, ?_⟩
  rcases open_ints Tryd.underlying32 Tryd.underlying5 (by kernel_rfl) hf with ⟨hcs, _⟩ | ⟨x, l, cc, zs, hcs, _, hl, hm, hz, _, hcell, hwz⟩
  · simp [Value.cells] at hcs
    obtain ⟨rfl, rfl, rfl⟩ := hcs
    exact ⟨Nat.le_refl _, fun h => absurd h (by omega)⟩
  · simp [Value.cells] at hcs
    obtain ⟨rfl, rfl, rfl⟩ := hcs
    have hzl : zs.length = c := by simpa using hz
    refine ⟨hl, fun h0 => ?_⟩
    · have h0' := hcell 0 (by omega)
      obtain ⟨xb, xo, xs⟩ := x
      have hs : xs = none := by
        cases xs with
        | none => rfl
        | some q => simp [Addr.add, World.cell?] at h0'; split at h0' <;> simp_all
      subst hs
      have hb : xb < W.heap.size := World.block_lt_of_cell? W _ (by simpa [Addr.add] using h0')
      refine ⟨xb, xo, rfl, hb, fun k hk => ?_⟩
      have hk' := hcell k (by omega)
      have hw := hwz (zs.getD k 0) (by rw [List.getD_eq_getElem?_getD, List.getElem?_eq_getElem (show k < zs.length by omega)]; simp)
      refine ⟨zs.getD k 0, ?_, ?_⟩
      · rw [← hk']
        simp only [Addr.add]
        split
        · rename_i e; subst e; simp
        · rfl
      · simp only [Lit.wf, Bool.and_eq_true, decide_eq_true_eq] at hw
        have e1 : IntKind.u8.min = 0 := rfl
        have e2 : IntKind.u8.max = 255 := rfl
        omega
end Go.Proofs.YtppocjgjjjojiaaDoor
