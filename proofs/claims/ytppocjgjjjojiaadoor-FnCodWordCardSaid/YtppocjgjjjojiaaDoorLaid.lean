/- The table of kinds, laid as the row says, is the table that the walks use. -/
import Derived.Test.YtppocjgjjjojiaaDoorCod
import Derived.Test.YtppocjgjjjojiaaDoorRow
import Derived.Lib.LaidU8
namespace Go.Proofs.YtppocjgjjjojiaaDoor
open Go.RowKit Go.ChangeShapes Go.WideShapes Go.ChangeAt
set_option maxRecDepth 100000

section
variable {H : Type} {enc : TypeId × Value → H} {P : Program} {w : World} {base : Nat} {sp : Nat → Bool} {held : Bool}
theorem lit_int {t : TypeId} {k : IntKind} {n : Nat} {cs : List Value} {a : Int} {p : List MemPlace} (ht : P.underlying t = some (.int k)) (h : DataW.trod enc P w base sp held n t cs = some (.lit (.int k a), p)) : cs = [.int k a] := by
  cases n with
  | zero => simp [DataW.trod] at h
  | succ n =>
    match cs with
    | [] => simp [DataW.trod, ht] at h
    | c :: c' :: r => simp [DataW.trod, ht] at h
    | [c] => cases c <;> simp [DataW.trod, ht] at h <;> simp_all
theorem lit_bool {t : TypeId} {n : Nat} {cs : List Value} {a : Bool} {p : List MemPlace} (ht : P.underlying t = some .bool) (h : DataW.trod enc P w base sp held n t cs = some (.lit (.bool a), p)) : cs = [.bool a] := by
  cases n with
  | zero => simp [DataW.trod] at h
  | succ n =>
    match cs with
    | [] => simp [DataW.trod, ht] at h
    | c :: c' :: r => simp [DataW.trod, ht] at h
    | [c] => cases c <;> simp [DataW.trod, ht] at h <;> simp_all
theorem lit_field {t : TypeId} {n : Nat} {cs : List Value} {ds : List (DataW H)} {q : List MemPlace} {fs : Array Field} (ht : P.underlying t = some (.struct fs)) (h : DataW.trod enc P w base sp held n t cs = some (.agg ds, q)) :
    cs.length = P.cellsOf t ∧ ∀ (i : Nat) (f : Field) (o k : Nat) (d : DataW H), fs[i]? = some f → f.offset = o → P.cellsOf f.type = k → ds[i]? = some d → ∃ m y, DataW.trod enc P w base sp held m f.type ((cs.drop o).take k) = some (d, y) := by
  obtain ⟨xs, m, _, hx, hl, hxs, hf⟩ := DataW.trod_struct ht h
  refine ⟨hl, fun i f o k d hi ho hk hd => ?_⟩
  have hlt : i < xs.length := by rw [hxs]; exact (Array.getElem?_eq_some_iff.1 hi).1
  have := hf i f hi
  rw [ho, hk, List.getElem?_eq_getElem hlt] at this
  have e : ds = xs.map (·.1) := by
    have := congrArg Prod.fst hx
    simpa using this
  rw [e] at hd
  have : xs[i].1 = d := by simpa [hlt] using hd
  exact ⟨m, xs[i].2, by rw [← this]; assumption⟩
end

def kDat (i : Nat) : DataW Unit := .agg [.lit (.bool (kd i)), .lit (.bool (ka i)), .lit (.bool (kb i)), .lit (.int .i64 (kp i)), .lit (.int .u64 (kw i : Int)), .lit (.bool (ks i))]
theorem kDat_at (k : Nat) (hk : k < 16) : ([kDat 0, kDat 1, kDat 2, kDat 3, kDat 4, kDat 5, kDat 6, kDat 7, kDat 8, kDat 9, kDat 10, kDat 11, kDat 12, kDat 13, kDat 14, kDat 15] : List (DataW Unit))[k]? = some (kDat k) := by
  obtain rfl | rfl | rfl | rfl | rfl | rfl | rfl | rfl | rfl | rfl | rfl | rfl | rfl | rfl | rfl | rfl : k = 0 ∨ k = 1 ∨ k = 2 ∨ k = 3 ∨ k = 4 ∨ k = 5 ∨ k = 6 ∨ k = 7 ∨ k = 8 ∨ k = 9 ∨ k = 10 ∨ k = 11 ∨ k = 12 ∨ k = 13 ∨ k = 14 ∨ k = 15 := by omega
  all_goals rfl
theorem kDat_all : Rows.laid_loop_example_harbinger_impl_kindFields = (.agg [kDat 0, kDat 1, kDat 2, kDat 3, kDat 4, kDat 5, kDat 6, kDat 7, kDat 8, kDat 9, kDat 10, kDat 11, kDat 12, kDat 13, kDat 14, kDat 15] : DataW Unit) := rfl
theorem pick1 {cs : Array Value} {a o : Nat} {v : Value} (ho : o < 6) (h : (((cs.toList.drop a).take 6).drop o).take 1 = [v]) : cs[a + o]? = some v := by
  have := congrArg (fun l => l[0]?) h
  simp [List.getElem?_drop, ho] at this
  simpa using this
theorem cell_lt {w : World} {b o : Nat} {v : Value} (h : w.cell? ⟨b, o, none⟩ = some v) : b < w.heap.size := by
  unfold World.cell? at h
  by_cases hb : b < w.heap.size
  · exact hb
  · rw [show w.heap[(⟨b, o, none⟩ : Addr).block]? = none from Array.getElem?_eq_none (by simpa using hb)] at h
    simp at h
theorem KF_of_laid {l : List (String × DataW Unit)} {W : World} (h : laidMet Tryd.prog l W) (hm : ("loop.example/harbinger/impl.kindFields", Rows.laid_loop_example_harbinger_impl_kindFields) ∈ l) : KF W := by
  obtain ⟨g, t, cs, fuel, p, hg, ht, hvar, hd⟩ := Lib.laidMet.reads h hm
  obtain rfl := Option.some.inj ((show Tryd.prog.globalNamed "loop.example/harbinger/impl.kindFields" = some 0 by kernel_rfl).symm.trans hg)
  rw [kDat_all] at hd
  have hcell := fun o => World.var?_cell hg hvar o
  have htt : (Tryd.prog.globals[0]?).map (·.type) = some 91 := by kernel_rfl
  obtain rfl := Option.some.inj (htt.symm.trans ht)
  have c6 : Tryd.prog.cellsOf 90 = 6 := by kernel_rfl
  have cb : Tryd.prog.cellsOf 4 = 1 := by kernel_rfl
  have ci : Tryd.prog.cellsOf 3 = 1 := by kernel_rfl
  have cu : Tryd.prog.cellsOf 36 = 1 := by kernel_rfl
  have all : ∀ k, k < 16 → W.cell? ⟨0, k * 6, none⟩ = some (.bool (kd k)) ∧ W.cell? ⟨0, k * 6 + 1, none⟩ = some (.bool (ka k)) ∧
      W.cell? ⟨0, k * 6 + 2, none⟩ = some (.bool (kb k)) ∧ W.cell? ⟨0, k * 6 + 3, none⟩ = some (.int .i64 (kp k)) ∧ W.cell? ⟨0, k * 6 + 4, none⟩ = some (.int .u64 (kw k : Int)) ∧
      W.cell? ⟨0, k * 6 + 5, none⟩ = some (.bool (ks k)) := by
    intro k hk
    obtain ⟨f', d, q, hds, htr⟩ := Lib.array_elem Tryd.underlying91 hd k hk
    rw [kDat_at k hk] at hds
    obtain rfl := Option.some.inj hds
    rw [c6] at htr
    obtain ⟨-, hf⟩ := lit_field Tryd.underlying90 htr
    obtain ⟨_, _, g0⟩ := hf 0 _ _ _ _ rfl rfl cb rfl
    obtain ⟨_, _, g1⟩ := hf 1 _ _ _ _ rfl rfl cb rfl
    obtain ⟨_, _, g2⟩ := hf 2 _ _ _ _ rfl rfl cb rfl
    obtain ⟨_, _, g3⟩ := hf 3 _ _ _ _ rfl rfl ci rfl
    obtain ⟨_, _, g4⟩ := hf 4 _ _ _ _ rfl rfl cu rfl
    obtain ⟨_, _, g5⟩ := hf 5 _ _ _ _ rfl rfl cb rfl
    refine ⟨(hcell _).trans (pick1 (a := k * 6) (o := 0) (by decide) (lit_bool Tryd.underlying4 g0)), (hcell _).trans (pick1 (a := k * 6) (o := 1) (by decide) (lit_bool Tryd.underlying4 g1)), (hcell _).trans (pick1 (a := k * 6) (o := 2) (by decide) (lit_bool Tryd.underlying4 g2)),
      (hcell _).trans (pick1 (a := k * 6) (o := 3) (by decide) (lit_int Tryd.underlying3 g3)), (hcell _).trans (pick1 (a := k * 6) (o := 4) (by decide) (lit_int Tryd.underlying36 g4)), (hcell _).trans (pick1 (a := k * 6) (o := 5) (by decide) (lit_bool Tryd.underlying4 g5))⟩
  exact ⟨cell_lt (all 0 (by decide)).1, all⟩
end Go.Proofs.YtppocjgjjjojiaaDoor
