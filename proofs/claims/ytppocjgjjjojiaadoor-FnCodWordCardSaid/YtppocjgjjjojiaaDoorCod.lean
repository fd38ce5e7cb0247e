/- Instructions: CodOk, and how a word's bits are put and taken. -/
import Derived.Test.YtppocjgjjjojiaaDoorBase
import Derived.Laws.BitsLemmas
namespace Go.Proofs.YtppocjgjjjojiaaDoor
open Go.RowKit

/-! ### What a kind of instruction has -/
structure KRow where
  d : Bool
  a : Bool
  b : Bool
  p : Int
  w : Nat
  s : Bool
def kTab : List KRow := [⟨true, true, true, 8, 0, false⟩, ⟨true, true, false, 0, 6, true⟩, ⟨true, false, false, 0, 9, false⟩, ⟨true, true, false, 0, 6, true⟩,
  ⟨false, true, true, 0, 6, true⟩, ⟨false, true, true, 0, 6, true⟩, ⟨false, true, true, 0, 6, true⟩, ⟨true, false, false, 0, 9, true⟩,
  ⟨true, true, false, 0, 6, true⟩, ⟨true, true, true, 0, 0, false⟩, ⟨true, true, true, 0, 0, false⟩, ⟨false, false, false, 0, 0, false⟩,
  ⟨false, false, false, 0, 9, false⟩, ⟨false, false, false, 0, 0, false⟩, ⟨true, false, false, 5, 0, false⟩, ⟨false, true, false, 5, 0, false⟩]
def kRow (k : Nat) : KRow := kTab.getD k ⟨false, false, false, 0, 0, false⟩
def kd (k : Nat) : Bool := (kRow k).d
def ka (k : Nat) : Bool := (kRow k).a
def kb (k : Nat) : Bool := (kRow k).b
def kp (k : Nat) : Int := (kRow k).p
def kw (k : Nat) : Nat := (kRow k).w
def ks (k : Nat) : Bool := (kRow k).s

/-- The table of kinds lies in its variable. -/
def KF (w : World) : Prop := 0 < w.heap.size ∧ ∀ k, k < 16 → w.cell? ⟨0, k * 6, none⟩ = some (.bool (kd k)) ∧ w.cell? ⟨0, k * 6 + 1, none⟩ = some (.bool (ka k)) ∧
  w.cell? ⟨0, k * 6 + 2, none⟩ = some (.bool (kb k)) ∧ w.cell? ⟨0, k * 6 + 3, none⟩ = some (.int .i64 (kp k)) ∧ w.cell? ⟨0, k * 6 + 4, none⟩ = some (.int .u64 (kw k : Int)) ∧
  w.cell? ⟨0, k * 6 + 5, none⟩ = some (.bool (ks k))
theorem KF.gr {w w' : World} (h : KF w) (k : Gr w w') : KF w' := by
  refine ⟨Nat.lt_of_lt_of_le h.1 k.size, fun i hi => ?_⟩
  obtain ⟨h0, h1, h2, h3, h4, h5⟩ := h.2 i hi
  have t := fun o => k.tell.1 0 o h.1
  exact ⟨(t _).trans h0, (t _).trans h1, (t _).trans h2, (t _).trans h3, (t _).trans h4, (t _).trans h5⟩

def fld (has : Bool) (v many : Int) : Bool := if has then decide (0 ≤ v) && decide (v < many) else v == 0
def numB (wide : Nat) (sgn : Bool) (n : Int) : Bool :=
  if wide = 0 then n == 0 else if sgn then decide (-(2 ^ (wide - 1) : Int) ≤ n) && decide (n < 2 ^ (wide - 1)) else decide (0 ≤ n) && decide (n < 2 ^ wide)
def codOk (k d a b f n : Int) : Bool :=
  decide (0 ≤ k) && decide (k < 16) && (fld (kd k.toNat) d 8 && fld (ka k.toNat) a 8 && fld (kb k.toNat) b 8 && fld (decide (0 < kp k.toNat)) f (kp k.toNat) && numB (kw k.toNat) (ks k.toNat) n)

theorem fieldOk_any (has : Bool) (v many : Int) (w : World) :
    Calls Tryd.prog 73 #[.bool has, .int .i64 v, .int .i64 many] w fun e w' => e = .returned (.bool (fld has v many)) ∧ w = w' := by
  cases has
  · go_enter Tryd.func73, Tryd.ntmps73
    go_wp2
    go_ret
    exact ⟨rfl, rfl⟩
  · by_cases h : 0 ≤ v
    · go_enter Tryd.func73, Tryd.ntmps73
      go_wp2
      go_ret
      exact ⟨by simp [fld, h], rfl⟩
    · go_enter Tryd.func73, Tryd.ntmps73
      go_wp2
      go_ret
      exact ⟨by simp [fld]; omega, rfl⟩

set_option maxHeartbeats 1000000 in
theorem numberOk_any (x y z : Bool) (p : Int) (wide : Nat) (sgn : Bool) (n : Int) (w : World) (hw : wide = 0 ∨ wide = 6 ∨ wide = 9) :
    Calls Tryd.prog 74 #[.agg #[.bool x, .bool y, .bool z, .int .i64 p, .int .u64 (wide : Int), .bool sgn], .int .i64 n] w fun e w' => e = .returned (.bool (numB wide sgn n)) ∧ Gr w w' := by
  rcases hw with rfl | rfl | rfl
  · go_enter Tryd.func74, Tryd.ntmps74
    go_wp2
    go_ret
    exact ⟨by simp [numB], (Gr.refl _).alloc _⟩
  · cases sgn
    · by_cases h : 0 ≤ n
      all_goals
        go_enter Tryd.func74, Tryd.ntmps74
        go_wp2
        go_ret
        exact ⟨by first | (simp [numB, *]; done) | (simp [numB]; omega), (Gr.refl _).alloc _⟩
    · by_cases h : -32 ≤ n
      all_goals
        go_enter Tryd.func74, Tryd.ntmps74
        go_wp2
        go_ret
        exact ⟨by first | (simp [numB, *]; done) | (simp [numB]; omega), (Gr.refl _).alloc _⟩
  · cases sgn
    · by_cases h : 0 ≤ n
      all_goals
        go_enter Tryd.func74, Tryd.ntmps74
        go_wp2
        go_ret
        exact ⟨by first | (simp [numB, *]; done) | (simp [numB]; omega), (Gr.refl _).alloc _⟩
    · by_cases h : -256 ≤ n
      all_goals
        go_enter Tryd.func74, Tryd.ntmps74
        go_wp2
        go_ret
        exact ⟨by first | (simp [numB, *]; done) | (simp [numB]; omega), (Gr.refl _).alloc _⟩

theorem kw_cases (k : Nat) (h : k < 16) : kw k = 0 ∨ kw k = 6 ∨ kw k = 9 := by
  have : ∀ k : Fin 16, kw k = 0 ∨ kw k = 6 ∨ kw k = 9 := by decide
  exact this ⟨k, h⟩

set_option maxRecDepth 100000 in
set_option maxHeartbeats 2000000 in
theorem CodOk_any (k d a b f n : Int) (w : World) (hk : KF w) :
    Calls Tryd.prog 23 #[.agg #[.int .i64 k, .int .i64 d, .int .i64 a, .int .i64 b, .int .i64 f, .int .i64 n]] w fun e w' => e = .returned (.bool (codOk k d a b f n)) ∧ Gr w w' := by
  by_cases h0 : k < 0
  · go_enter Tryd.func23, Tryd.ntmps23
    go_wp2_with fail
    go_ret
    exact ⟨by simp [codOk]; omega, (Gr.refl _).alloc _⟩
  by_cases h1 : 16 ≤ k
  · go_enter Tryd.func23, Tryd.ntmps23
    go_wp2_with fail
    go_ret
    exact ⟨by simp [codOk]; omega, (Gr.refl _).alloc _⟩
  obtain ⟨i, rfl⟩ := Int.eq_ofNat_of_zero_le (show 0 ≤ k by omega)
  have hi : i < 16 := by omega
  have hlt := hk.1
  obtain ⟨t0, t1, t2, t3, t4, t5⟩ := hk.2 i hi
  have hwc := kw_cases i hi
  go_enter Tryd.func23, Tryd.ntmps23
  go_wp2_with (first | (go_at_call 73; refine (fieldOk_any _ _ _ _).mono ?_; rintro e w' ⟨rfl, rfl⟩) | (go_at_call 74; refine (numberOk_any _ _ _ _ _ _ _ _ hwc).mono ?_; rintro e w1 ⟨rfl, k1⟩))
  all_goals go_ret
  · exact ⟨by simp [codOk, *], (((Gr.refl _).alloc _).alloc _).trans k1⟩
  all_goals exact ⟨by simp [codOk, *], ((Gr.refl _).alloc _).alloc _⟩

/-! ### A word's bits -/
def putV (b v : Int) (wide l : Nat) : Int :=
  bits .or .u16 b (IntKind.u16.wrap (bits .and .u16 (IntKind.u16.wrap v) (IntKind.u16.wrap (IntKind.u16.wrap (2 ^ wide) - 1)) * 2 ^ (l - wide)))
def putS (has : Bool) (v : Int) (wide : Nat) (s : Int × Nat) : Int × Nat := if has = true ∧ wide ≤ s.2 then (putV s.1 v wide s.2, s.2 - wide) else s
def PutP (g : Nat) (has : Bool) (v : Int) (wide : Nat) (s : Int × Nat) (w : World) (e : Ending) (w' : World) : Prop :=
  e = .returned (.tuple #[]) ∧ Mu (· = g) w w' ∧ BK w' g #[.int .u16 (putS has v wide s).1, .int .u64 ((putS has v wide s).2 : Int)]

set_option maxHeartbeats 1000000 in
theorem put_any (g : Nat) (has : Bool) (v : Int) (wide : Nat) (s : Int × Nat) (w : World) (h : BK w g #[.int .u16 s.1, .int .u64 (s.2 : Int)]) (hl : s.2 ≤ 16) (hw : wide ≤ 16) :
    Calls Tryd.prog 65 #[.pointer (some ⟨g, 0, none⟩), .bool has, .int .i64 v, .int .u64 (wide : Int)] w (PutP g has v wide s w) := by
  obtain ⟨b, l⟩ := s
  dsimp only at h hl
  have c0 : w.cell? ⟨g, 0, none⟩ = some (.int .u16 b) := h.cell 0
  have c1 : w.cell? ⟨g, 1, none⟩ = some (.int .u64 l) := h.cell 1
  have f0 := h.free 0
  have f1 := h.free 1
  have H := Lib.hid h; clear h
  cases has
  · go_enter Tryd.func65, Tryd.ntmps65
    go_wp2
    refine bodyPost_ret (results_none rfl _ _ _) rfl ⟨rfl, .refl _ _, by simpa [putS] using H.out⟩
  by_cases hwl : wide ≤ l
  · go_enter Tryd.func65, Tryd.ntmps65
    go_wp2
    go_region
    go_wp2
    go_end0
    have hmu := (((Mu.refl (· = g) w).set (p := ⟨g, 1, none⟩) (.inl rfl) (.int .u64 ((l : Int) - wide))).set (p := ⟨g, 0, none⟩) (.inl rfl) (.int .u16 (putV b v wide l))).drew
    have hbk := ((H.out.set 1 (.int .u64 ((l : Int) - wide))).set 0 (.int .u16 (putV b v wide l))).drew
    refine ⟨rfl, hmu, ?_⟩
    have e1 : ((putS true v wide (b, l)).2 : Int) = (l : Int) - wide := by simp [putS, hwl, Int.ofNat_sub hwl]
    have e2 : (putS true v wide (b, l)).1 = putV b v wide l := by simp [putS, hwl]
    rw [e1, e2]
    exact hbk
  · go_enter Tryd.func65, Tryd.ntmps65
    go_wp2
    refine bodyPost_ret (results_none rfl _ _ _) rfl ⟨rfl, .refl _ _, by simpa [putS, hwl] using H.out⟩

def cwS (i : Nat) (d a b f n : Int) : Int × Nat :=
  putS (decide (0 < kw i)) n (kw i) (putS (decide (0 < kp i)) f 3 (putS (kb i) b 3 (putS (ka i) a 3 (putS (kd i) d 3 (putS true i 4 (0, 16))))))
theorem putS_le (has : Bool) (v : Int) (wide : Nat) (s : Int × Nat) : (putS has v wide s).2 ≤ s.2 := by unfold putS; split <;> simp

set_option maxRecDepth 100000 in
set_option maxHeartbeats 4000000 in
theorem CodWord_yes (i : Nat) (d a b f n : Int) (w : World) (hk : KF w) (hi : i < 16) (hok : codOk i d a b f n = true) (hb : 0 ≤ (cwS i d a b f n).1 ∧ (cwS i d a b f n).1 < 65536) :
    Calls Tryd.prog 17 #[.agg #[.int .i64 (i : Int), .int .i64 d, .int .i64 a, .int .i64 b, .int .i64 f, .int .i64 n]] w fun e w' => e = .returned (.int .i64 (cwS i d a b f n).1) ∧ Gr w w' := by
  have HK := Lib.hid hok; clear hok
  have HB := Lib.hid hb; clear hb
  have hwc := kw_cases i hi
  go_enter Tryd.func17, Tryd.ntmps17
  go_wp2_with fail
  refine (CodOk_any _ _ _ _ _ _ _ (hk.gr ((Gr.refl _).alloc _))).mono ?_; rintro _ w1 ⟨rfl, k1⟩
  rw [HK.out]
  have hk1 := (hk.gr ((Gr.refl _).alloc _)).gr k1
  have B1 := (BK.new w _ _).gr k1
  have q1 := B1.cell
  have lt1 := B1.lt
  have hlt := hk1.1
  obtain ⟨t0, t1, t2, t3, t4, t5⟩ := hk1.2 i hi
  go_wp2_with fail
  have G0 : Gr w1 (w1.alloc (.cells #[.bool (kd i), .bool (ka i), .bool (kb i), .int .i64 (kp i), .int .u64 (kw i : Int), .bool (ks i)] 90)) := (Gr.refl _).alloc _
  have XS := (BK.new w1 #[.bool (kd i), .bool (ka i), .bool (kb i), .int .i64 (kp i), .int .u64 (kw i : Int), .bool (ks i)] 90).alloc (.cells #[.int .u16 0, .int .u64 16] 95)
  have XW := BK.new (w1.alloc (.cells #[.bool (kd i), .bool (ka i), .bool (kb i), .int .i64 (kp i), .int .u64 (kw i : Int), .bool (ks i)] 90)) #[.int .u16 0, .int .u64 16] 95
  have XB := (B1.gr G0).alloc (.cells #[.int .u16 0, .int .u64 16] 95)
  have GG := Lib.hid ((((Gr.refl w).alloc (.cells #[.int .i64 (i : Int), .int .i64 d, .int .i64 a, .int .i64 b, .int .i64 f, .int .i64 n] 25)).trans k1).trans (G0.alloc (.cells #[.int .u16 0, .int .u64 16] 95)))
  rw [World.size_alloc] at XW
  clear q1 t0 t1 t2 t3 t4 t5 G0 k1
  refine (put_any (w1.heap.size + 1) true i 4 (0, 16) _ XW (by simp) (by omega)).mono ?_; rintro _ w3 ⟨rfl, m3, b3⟩
  have P3 := XS.mu m3 (by omega); have A3 := XB.mu m3 (by omega); have p3 := P3.cell; have a3 := A3.cell
  go_wp2_with fail
  refine (put_any (w1.heap.size + 1) (kd i) d 3 _ _ b3 (Nat.le_trans (by first | exact putS_le _ _ _ _ | exact Nat.le_trans (putS_le _ _ _ _) (putS_le _ _ _ _) | exact Nat.le_trans (putS_le _ _ _ _) (Nat.le_trans (putS_le _ _ _ _) (putS_le _ _ _ _)) | exact Nat.le_trans (putS_le _ _ _ _) (Nat.le_trans (putS_le _ _ _ _) (Nat.le_trans (putS_le _ _ _ _) (putS_le _ _ _ _))) | exact Nat.le_trans (putS_le _ _ _ _) (Nat.le_trans (putS_le _ _ _ _) (Nat.le_trans (putS_le _ _ _ _) (Nat.le_trans (putS_le _ _ _ _) (putS_le _ _ _ _))))) (show ((0 : Int), (16 : Nat)).2 ≤ 16 from Nat.le_refl _)) (by omega)).mono ?_; rintro _ w4 ⟨rfl, m4, b4⟩
  have P4 := P3.mu m4 (by omega); have A4 := A3.mu m4 (by omega); clear p3 a3; have p4 := P4.cell; have a4 := A4.cell
  go_wp2_with fail
  refine (put_any (w1.heap.size + 1) (ka i) a 3 _ _ b4 (Nat.le_trans (by first | exact putS_le _ _ _ _ | exact Nat.le_trans (putS_le _ _ _ _) (putS_le _ _ _ _) | exact Nat.le_trans (putS_le _ _ _ _) (Nat.le_trans (putS_le _ _ _ _) (putS_le _ _ _ _)) | exact Nat.le_trans (putS_le _ _ _ _) (Nat.le_trans (putS_le _ _ _ _) (Nat.le_trans (putS_le _ _ _ _) (putS_le _ _ _ _))) | exact Nat.le_trans (putS_le _ _ _ _) (Nat.le_trans (putS_le _ _ _ _) (Nat.le_trans (putS_le _ _ _ _) (Nat.le_trans (putS_le _ _ _ _) (putS_le _ _ _ _))))) (show ((0 : Int), (16 : Nat)).2 ≤ 16 from Nat.le_refl _)) (by omega)).mono ?_; rintro _ w5 ⟨rfl, m5, b5⟩
  have P5 := P4.mu m5 (by omega); have A5 := A4.mu m5 (by omega); clear p4 a4; have p5 := P5.cell; have a5 := A5.cell
  go_wp2_with fail
  refine (put_any (w1.heap.size + 1) (kb i) b 3 _ _ b5 (Nat.le_trans (by first | exact putS_le _ _ _ _ | exact Nat.le_trans (putS_le _ _ _ _) (putS_le _ _ _ _) | exact Nat.le_trans (putS_le _ _ _ _) (Nat.le_trans (putS_le _ _ _ _) (putS_le _ _ _ _)) | exact Nat.le_trans (putS_le _ _ _ _) (Nat.le_trans (putS_le _ _ _ _) (Nat.le_trans (putS_le _ _ _ _) (putS_le _ _ _ _))) | exact Nat.le_trans (putS_le _ _ _ _) (Nat.le_trans (putS_le _ _ _ _) (Nat.le_trans (putS_le _ _ _ _) (Nat.le_trans (putS_le _ _ _ _) (putS_le _ _ _ _))))) (show ((0 : Int), (16 : Nat)).2 ≤ 16 from Nat.le_refl _)) (by omega)).mono ?_; rintro _ w6 ⟨rfl, m6, b6⟩
  have P6 := P5.mu m6 (by omega); have A6 := A5.mu m6 (by omega); clear p5 a5; have p6 := P6.cell; have a6 := A6.cell
  go_wp2_with fail
  refine (put_any (w1.heap.size + 1) (decide (0 < kp i)) f 3 _ _ b6 (Nat.le_trans (by first | exact putS_le _ _ _ _ | exact Nat.le_trans (putS_le _ _ _ _) (putS_le _ _ _ _) | exact Nat.le_trans (putS_le _ _ _ _) (Nat.le_trans (putS_le _ _ _ _) (putS_le _ _ _ _)) | exact Nat.le_trans (putS_le _ _ _ _) (Nat.le_trans (putS_le _ _ _ _) (Nat.le_trans (putS_le _ _ _ _) (putS_le _ _ _ _))) | exact Nat.le_trans (putS_le _ _ _ _) (Nat.le_trans (putS_le _ _ _ _) (Nat.le_trans (putS_le _ _ _ _) (Nat.le_trans (putS_le _ _ _ _) (putS_le _ _ _ _))))) (show ((0 : Int), (16 : Nat)).2 ≤ 16 from Nat.le_refl _)) (by omega)).mono ?_; rintro _ w7 ⟨rfl, m7, b7⟩
  have P7 := P6.mu m7 (by omega); have A7 := A6.mu m7 (by omega); clear p6 a6; have p7 := P7.cell; have a7 := A7.cell
  go_wp2_with fail
  refine (put_any (w1.heap.size + 1) (decide (0 < kw i)) n (kw i) _ _ b7 (Nat.le_trans (by first | exact putS_le _ _ _ _ | exact Nat.le_trans (putS_le _ _ _ _) (putS_le _ _ _ _) | exact Nat.le_trans (putS_le _ _ _ _) (Nat.le_trans (putS_le _ _ _ _) (putS_le _ _ _ _)) | exact Nat.le_trans (putS_le _ _ _ _) (Nat.le_trans (putS_le _ _ _ _) (Nat.le_trans (putS_le _ _ _ _) (putS_le _ _ _ _))) | exact Nat.le_trans (putS_le _ _ _ _) (Nat.le_trans (putS_le _ _ _ _) (Nat.le_trans (putS_le _ _ _ _) (Nat.le_trans (putS_le _ _ _ _) (putS_le _ _ _ _))))) (show ((0 : Int), (16 : Nat)).2 ≤ 16 from Nat.le_refl _)) (by omega)).mono ?_; rintro _ w8 ⟨rfl, m8, b8⟩
  have P8 := P7.mu m8 (by omega); have A8 := A7.mu m8 (by omega); clear p7 a7; have p8 := P8.cell; have a8 := A8.cell
  have hB0 : 0 ≤ (cwS i d a b f n).1 := HB.out.1
  have hB1 : (cwS i d a b f n).1 < 65536 := HB.out.2
  have c8 : w8.cell? ⟨w1.heap.size + 1, 0, none⟩ = some (.int .u16 (cwS i d a b f n).1) := b8.cell 0
  go_wp2_with fail
  go_ret
  exact ⟨rfl, (((((((Mu.of_gr (S := (· = w1.heap.size + 1)) GG.out).trans m3).trans m4).trans m5).trans m6).trans m7).trans m8).gr (fun k hk e => by omega)⟩

theorem wrap_u16_rng (n : Int) : 0 ≤ IntKind.u16.wrap n ∧ IntKind.u16.wrap n < 65536 := by
  simp [IntKind.wrap, IntKind.bits, IntKind.signed]; omega
theorem putS_rng (has : Bool) (v : Int) (wide : Nat) (s : Int × Nat) (h : 0 ≤ s.1 ∧ s.1 < 65536) : 0 ≤ (putS has v wide s).1 ∧ (putS has v wide s).1 < 65536 := by
  unfold putS
  split
  · exact wrap_u16_rng _
  · exact h
theorem cwS_rng (i : Nat) (d a b f n : Int) : 0 ≤ (cwS i d a b f n).1 ∧ (cwS i d a b f n).1 < 65536 :=
  putS_rng _ _ _ _ (putS_rng _ _ _ _ (putS_rng _ _ _ _ (putS_rng _ _ _ _ (putS_rng _ _ _ _ (putS_rng _ _ _ _ ⟨by simp, by simp⟩)))))

def codWord (k d a b f n : Int) : Int := if codOk k d a b f n then (cwS k.toNat d a b f n).1 else -1
theorem CodWord_any (k d a b f n : Int) (w : World) (hk : KF w) :
    Calls Tryd.prog 17 #[.agg #[.int .i64 k, .int .i64 d, .int .i64 a, .int .i64 b, .int .i64 f, .int .i64 n]] w fun e w' => e = .returned (.int .i64 (codWord k d a b f n)) ∧ Gr w w' := by
  cases hok : codOk k d a b f n
  · have HK := Lib.hid hok
    have HE : Hid (codWord k d a b f n = -1) := by show codWord k d a b f n = -1; simp [codWord, hok]
    clear hok
    go_enter Tryd.func17, Tryd.ntmps17
    go_wp2_with fail
    refine (CodOk_any _ _ _ _ _ _ _ (hk.gr ((Gr.refl _).alloc _))).mono ?_; rintro _ w1 ⟨rfl, k1⟩
    rw [HK.out]
    go_wp2_with fail
    go_ret
    exact ⟨by rw [HE.out]; rfl, ((Gr.refl _).alloc _).trans k1⟩
  · have hk0 : 0 ≤ k ∧ k < 16 := by simp only [codOk, Bool.and_eq_true, decide_eq_true_eq] at hok; exact hok.1
    obtain ⟨i, rfl⟩ := Int.eq_ofNat_of_zero_le hk0.1
    have e : codWord i d a b f n = (cwS i d a b f n).1 := by simp [codWord, hok]
    rw [e]
    exact CodWord_yes i d a b f n w hk (by omega) hok (cwS_rng _ _ _ _ _ _)
end Go.Proofs.YtppocjgjjjojiaaDoor
