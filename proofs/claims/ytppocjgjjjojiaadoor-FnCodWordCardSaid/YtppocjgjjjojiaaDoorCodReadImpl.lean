/- The program's CodRead. -/
import Derived.Test.YtppocjgjjjojiaaDoorCodRead
namespace Go.Proofs.YtppocjgjjjojiaaDoor
open Go.RowKit

def tk (b : Int) (has : Bool) (wide l : Nat) : Int × Nat := if has = true ∧ wide ≤ l then (b / 2 ^ (l - wide) % 2 ^ wide, l - wide) else (0, l)
def tkD (i : Nat) (b : Int) := tk b (kd i) 3 12
def tkA (i : Nat) (b : Int) := tk b (ka i) 3 (tkD i b).2
def tkB (i : Nat) (b : Int) := tk b (kb i) 3 (tkA i b).2
def tkF (i : Nat) (b : Int) := tk b (decide (0 < kp i)) 3 (tkB i b).2
def tkN (i : Nat) (b : Int) := tk b (decide (0 < kw i)) (kw i) (tkF i b).2
def rdN (i : Nat) (b : Int) : Int := if ks i then sgn (kw i) (tkN i b).1 else (tkN i b).1
/-- Whether the word is an instruction. -/
def rdOk (i : Nat) (b : Int) : Bool := codWord i (tkD i b).1 (tkA i b).1 (tkB i b).1 (tkF i b).1 (rdN i b) == b
theorem tk_le (b : Int) (has : Bool) (wide l : Nat) : (tk b has wide l).2 ≤ l := by unfold tk; split <;> simp

theorem Gr.mu1 {a b c : World} {g : Nat} (h : Gr a b) (m : Mu (· = g) b c) (hg : a.heap.size ≤ g) : Gr a c :=
  ((Mu.of_gr (S := (· = g)) h).trans m).gr (fun k hk e => by omega)
theorem ks_wide (i : Nat) (hi : i < 16) (h : ks i = true) : kw i = 6 ∨ kw i = 9 := by
  rcases num_ways i hi with q | ⟨q, _, _⟩ | ⟨q, _, _⟩ | ⟨q, _, _⟩
  · exfalso
    have : ∀ k : Fin 16, ks k = true → kw k ≠ 0 := by decide
    exact this ⟨i, hi⟩ h q
  all_goals omega
theorem tk_rng (b : Int) (has : Bool) (wide l : Nat) : 0 ≤ (tk b has wide l).1 ∧ (tk b has wide l).1 < 2 ^ wide := by
  have pw : (0 : Int) < 2 ^ wide := Int.pow_pos (by decide)
  unfold tk
  split
  · exact ⟨Int.emod_nonneg _ (by omega), Int.emod_lt_of_pos _ pw⟩
  · exact ⟨Int.le_refl _, pw⟩
theorem sgnW_rng (wide : Nat) (n : Int) (hw : wide = 6 ∨ wide = 9) (h : 0 ≤ n ∧ n < 2 ^ wide) : 0 ≤ sgnW wide n ∧ sgnW wide n < 65536 := by
  unfold sgnW
  rcases hw with rfl | rfl <;> simp at h ⊢ <;> split <;> omega
theorem sgn_int (wide : Nat) (n : Int) (hw : wide = 6 ∨ wide = 9) (h : 0 ≤ n ∧ n < 2 ^ wide) : (if 32768 ≤ sgnW wide n then sgnW wide n - 65536 else sgnW wide n) = sgn wide n := by
  unfold sgnW sgn
  rcases hw with rfl | rfl <;> simp at h ⊢ <;> split <;> split <;> omega
theorem T3 (x : Bool) : Hid (x = true → (3 : Nat) = 3 ∨ (3 : Nat) = 4 ∨ (3 : Nat) = 6 ∨ (3 : Nat) = 9) := fun _ => .inl rfl
theorem lkD (i : Nat) (b : Int) : (tkD i b).2 ≤ 16 := Nat.le_trans (tk_le _ _ _ _) (by decide)
theorem lkA (i : Nat) (b : Int) : (tkA i b).2 ≤ 16 := Nat.le_trans (tk_le _ _ _ _) (lkD i b)
theorem lkB (i : Nat) (b : Int) : (tkB i b).2 ≤ 16 := Nat.le_trans (tk_le _ _ _ _) (lkA i b)
theorem lkF (i : Nat) (b : Int) : (tkF i b).2 ≤ 16 := Nat.le_trans (tk_le _ _ _ _) (lkB i b)
theorem kwT (i : Nat) (hi : i < 16) : decide (0 < kw i) = true → kw i = 3 ∨ kw i = 4 ∨ kw i = 6 ∨ kw i = 9 := by
  intro h
  have h : 0 < kw i := of_decide_eq_true h
  rcases kw_cases i hi with h | h | h <;> omega
def instV (k d a b f n : Int) : Value := .agg #[.int .i64 k, .int .i64 d, .int .i64 a, .int .i64 b, .int .i64 f, .int .i64 n]
def rdResI (i : Nat) (b : Int) : Value :=
  if rdOk i b = true then .tuple #[instV i (tkD i b).1 (tkA i b).1 (tkB i b).1 (tkF i b).1 (rdN i b), .bool true] else .tuple #[instV 0 0 0 0 0 0, .bool false]
/-- What CodRead returns of a number. -/
def rdRes (b : Int) : Value := if 0 ≤ b ∧ b < 65536 then rdResI (b / 4096).toNat b else .tuple #[instV 0 0 0 0 0 0, .bool false]
def ReadP (b : Int) (w : World) (e : Ending) (w' : World) : Prop := e = .returned (rdRes b) ∧ Gr w w'
theorem rdRes_no (i : Nat) (b : Int) (hb : 0 ≤ b ∧ b < 65536) (hi : (i : Int) = b / 4096) (h : rdOk i b = false) : rdRes b = .tuple #[instV 0 0 0 0 0 0, .bool false] := by
  have : (b / 4096).toNat = i := by omega
  simp [rdRes, hb, this, rdResI, h]
theorem rdRes_yes (i : Nat) (b : Int) (hb : 0 ≤ b ∧ b < 65536) (hi : (i : Int) = b / 4096) (h : rdOk i b = true) :
    rdRes b = .tuple #[instV i (tkD i b).1 (tkA i b).1 (tkB i b).1 (tkF i b).1 (rdN i b), .bool true] := by
  have : (b / 4096).toNat = i := by omega
  simp [rdRes, hb, this, rdResI, h]
theorem rdOk_no (i : Nat) (b : Int) (hb : 0 ≤ b) (n : Int) (hn : n = rdN i b) (h : codOk i (tkD i b).1 (tkA i b).1 (tkB i b).1 (tkF i b).1 n = false) : rdOk i b = false := by
  subst hn
  have : codWord i (tkD i b).1 (tkA i b).1 (tkB i b).1 (tkF i b).1 (rdN i b) = -1 := by simp [codWord, h]
  simp [rdOk, this]; omega
theorem BK.six {w : World} {g : Nat} {a0 a1 a2 a3 a4 a5 : Value} (h : BK w g #[a0, a1, a2, a3, a4, a5]) (b0 b1 b2 b3 b4 b5 : Value) :
    BK ((((((w.setCell ⟨g, 0, none⟩ b0).setCell ⟨g, 1, none⟩ b1).setCell ⟨g, 2, none⟩ b2).setCell ⟨g, 3, none⟩ b3).setCell ⟨g, 4, none⟩ b4).setCell ⟨g, 5, none⟩ b5) g #[b0, b1, b2, b3, b4, b5] :=
  (((((h.set 0 b0).set 1 b1).set 2 b2).set 3 b3).set 4 b4).set 5 b5
theorem Gr.six {u w : World} {g : Nat} (h : Gr u w) (hg : u.heap.size ≤ g) (b0 b1 b2 b3 b4 b5 : Value) :
    Gr u ((((((w.setCell ⟨g, 0, none⟩ b0).setCell ⟨g, 1, none⟩ b1).setCell ⟨g, 2, none⟩ b2).setCell ⟨g, 3, none⟩ b3).setCell ⟨g, 4, none⟩ b4).setCell ⟨g, 5, none⟩ b5) :=
  (((((h.set (p := ⟨g, 0, none⟩) hg b0).set (p := ⟨g, 1, none⟩) hg b1).set (p := ⟨g, 2, none⟩) hg b2).set (p := ⟨g, 3, none⟩) hg b3).set (p := ⟨g, 4, none⟩) hg b4).set (p := ⟨g, 5, none⟩) hg b5
set_option maxRecDepth 100000 in
set_option maxHeartbeats 4000000 in
theorem CodRead_in (b : Int) (w : World) (hk : KF w) (hb : 0 ≤ b ∧ b < 65536) :
    Calls Tryd.prog 19 #[.int .i64 b] w (ReadP b w) := by
  go_enter Tryd.func19, Tryd.ntmps19
  go_wp2_with (go_at_call 26; (with_reducible refine (WrdOk_in _ _ hb).mono ?_); rintro _ _ ⟨rfl, rfl⟩)
  have XR := BK.new (w.alloc (.cells #[.int .i64 0, .int .i64 0, .int .i64 0, .int .i64 0, .int .i64 0, .int .i64 0] 25)) #[.int .u16 b, .int .u64 16] 97
  rw [World.size_alloc] at XR
  have T4 : Hid (true = true → (4 : Nat) = 3 ∨ (4 : Nat) = 4 ∨ (4 : Nat) = 6 ∨ (4 : Nat) = 9) := fun _ => .inr (.inl rfl)
  refine (take_any (w.heap.size + 1) b true 4 16 _ XR (by decide) T4 hb).mono ?_
  rintro _ w1 ⟨v, l', hv, rfl, m1, b1⟩
  have g1 := ((((Gr.refl w).alloc (.cells #[.int .i64 0, .int .i64 0, .int .i64 0, .int .i64 0, .int .i64 0, .int .i64 0] 25)).alloc (.cells #[.int .u16 b, .int .u64 16] 97))).mu1 m1 (by omega)
  have z1 := ((BK.new w #[.int .i64 0, .int .i64 0, .int .i64 0, .int .i64 0, .int .i64 0, .int .i64 0] 25).alloc (.cells #[.int .u16 b, .int .u64 16] 97)).mu m1 (by omega)
  have GH1 := Lib.hid g1; have ZH1 := Lib.hid z1; clear g1 z1
  rw [if_pos ⟨rfl, by decide⟩] at hv
  obtain ⟨hv1, hv2⟩ := Prod.mk.inj hv
  clear hv
  subst hv2
  obtain ⟨i, hi, rfl, hvi⟩ : ∃ i : Nat, i < 16 ∧ v = (i : Int) ∧ Hid ((i : Int) = b / 4096) := by
    have hv : v = b / 4096 % 16 := hv1
    exact ⟨(b / 4096).toNat, by omega, by omega, Lib.hid (by omega)⟩
  clear hv1
  have hk1 : KF w1 := by
    have g0 : Gr w ((w.alloc (.cells #[.int .i64 0, .int .i64 0, .int .i64 0, .int .i64 0, .int .i64 0, .int .i64 0] 25)).alloc (.cells #[.int .u16 b, .int .u64 16] 97)) := ((Gr.refl w).alloc _).alloc _
    exact hk.gr (((Mu.of_gr (S := (· = w.heap.size + 1)) g0).trans m1).gr (fun k hk e => by omega))
  have q1 := b1.cell
  have lt1 := b1.lt
  have hlt := hk1.1
  have hw1 : w.heap.size < w1.heap.size := by omega
  obtain ⟨t0, t1, t2, t3, t4, t5⟩ := hk1.2 i hi
  go_wp2_with fail
  have G0 : Gr w1 (w1.alloc (.cells #[.int .i64 (i : Int), .int .i64 0, .int .i64 0, .int .i64 0, .int .i64 0, .int .i64 0] 25)) := (Gr.refl _).alloc _
  have C1 := (BK.new w1 #[.int .i64 (i : Int), .int .i64 0, .int .i64 0, .int .i64 0, .int .i64 0, .int .i64 0] 25).alloc (.cells #[.bool (kd i), .bool (ka i), .bool (kb i), .int .i64 (kp i), .int .u64 (kw i : Int), .bool (ks i)] 90)
  have S1 := BK.new (w1.alloc (.cells #[.int .i64 (i : Int), .int .i64 0, .int .i64 0, .int .i64 0, .int .i64 0, .int .i64 0] 25)) #[.bool (kd i), .bool (ka i), .bool (kb i), .int .i64 (kp i), .int .u64 (kw i : Int), .bool (ks i)] 90
  have R1 := (b1.gr G0).alloc (.cells #[.bool (kd i), .bool (ka i), .bool (kb i), .int .i64 (kp i), .int .u64 (kw i : Int), .bool (ks i)] 90)
  rw [World.size_alloc] at S1
  clear q1 t0 t1 t2 t3 t4 t5 G0
  have TN := Lib.hid (kwT i hi)
  refine (take_any (w.heap.size + 1) b (kd i) 3 12 _ R1 (by decide) (T3 _) hb).mono ?_
  rintro _ w2 ⟨v, l, hv, rfl, m2, b2⟩
  obtain ⟨hv1, hv2⟩ := Prod.mk.inj (show (v, l) = ((tkD i b).1, (tkD i b).2) from hv)
  clear hv
  subst hv1; subst hv2
  have GH2 := Lib.hid (((GH1.out.alloc (.cells #[.int .i64 (i : Int), .int .i64 0, .int .i64 0, .int .i64 0, .int .i64 0, .int .i64 0] 25)).alloc (.cells #[.bool (kd i), .bool (ka i), .bool (kb i), .int .i64 (kp i), .int .u64 (kw i : Int), .bool (ks i)] 90)).mu1 m2 (by omega))
  have ZH2 := Lib.hid (((ZH1.out.alloc (.cells #[.int .i64 (i : Int), .int .i64 0, .int .i64 0, .int .i64 0, .int .i64 0, .int .i64 0] 25)).alloc (.cells #[.bool (kd i), .bool (ka i), .bool (kb i), .int .i64 (kp i), .int .u64 (kw i : Int), .bool (ks i)] 90)).mu m2 (by omega))
  have C2 := C1.mu m2 (by omega); have S2 := S1.mu m2 (by omega)
  have c2 := C2.cell; have s2 := S2.cell; have cl2 := C2.lt; have sl2 := S2.lt; have cf2 := C2.free
  go_wp2_with fail
  clear c2 s2 cl2 sl2 cf2
  have D2 := (C2.set 1 (.int .i64 (tkD i b).1))
  have E2 := S2.far (p := ⟨w1.heap.size, 1, none⟩) (Nat.succ_ne_self _) (.int .i64 (tkD i b).1)
  have R2 := b2.far (p := ⟨w1.heap.size, 1, none⟩) (Nat.ne_of_lt lt1) (.int .i64 (tkD i b).1)
  refine (take_any (w.heap.size + 1) b (ka i) 3 (tkD i b).2 _ R2 (lkD i b) (T3 _) hb).mono ?_
  rintro _ w3 ⟨v, l, hv, rfl, m3, b3⟩
  obtain ⟨hv1, hv2⟩ := Prod.mk.inj (show (v, l) = ((tkA i b).1, (tkA i b).2) from hv)
  clear hv
  subst hv1; subst hv2
  have GH3 := Lib.hid ((GH2.out.set (p := ⟨w1.heap.size, 1, none⟩) (Nat.le_of_lt hw1) (.int .i64 (tkD i b).1)).mu1 m3 (by omega))
  have ZH3 := Lib.hid ((ZH2.out.far (p := ⟨w1.heap.size, 1, none⟩) (Nat.ne_of_lt hw1) (.int .i64 (tkD i b).1)).mu m3 (by omega))
  have C3 : BK w3 w1.heap.size #[.int .i64 (i : Int), .int .i64 (tkD i b).1, .int .i64 0, .int .i64 0, .int .i64 0, .int .i64 0] := D2.mu m3 (by omega)
  have S3 := E2.mu m3 (by omega)
  have c3 := C3.cell; have s3 := S3.cell; have cl3 := C3.lt; have sl3 := S3.lt; have cf3 := C3.free
  go_wp2_with fail
  clear c3 s3 cl3 sl3 cf3
  have D3 := (C3.set 2 (.int .i64 (tkA i b).1))
  have E3 := S3.far (p := ⟨w1.heap.size, 2, none⟩) (Nat.succ_ne_self _) (.int .i64 (tkA i b).1)
  have R3 := b3.far (p := ⟨w1.heap.size, 2, none⟩) (Nat.ne_of_lt lt1) (.int .i64 (tkA i b).1)
  refine (take_any (w.heap.size + 1) b (kb i) 3 (tkA i b).2 _ R3 (lkA i b) (T3 _) hb).mono ?_
  rintro _ w4 ⟨v, l, hv, rfl, m4, b4⟩
  obtain ⟨hv1, hv2⟩ := Prod.mk.inj (show (v, l) = ((tkB i b).1, (tkB i b).2) from hv)
  clear hv
  subst hv1; subst hv2
  have GH4 := Lib.hid ((GH3.out.set (p := ⟨w1.heap.size, 2, none⟩) (Nat.le_of_lt hw1) (.int .i64 (tkA i b).1)).mu1 m4 (by omega))
  have ZH4 := Lib.hid ((ZH3.out.far (p := ⟨w1.heap.size, 2, none⟩) (Nat.ne_of_lt hw1) (.int .i64 (tkA i b).1)).mu m4 (by omega))
  have C4 : BK w4 w1.heap.size #[.int .i64 (i : Int), .int .i64 (tkD i b).1, .int .i64 (tkA i b).1, .int .i64 0, .int .i64 0, .int .i64 0] := D3.mu m4 (by omega)
  have S4 := E3.mu m4 (by omega)
  have c4 := C4.cell; have s4 := S4.cell; have cl4 := C4.lt; have sl4 := S4.lt; have cf4 := C4.free
  go_wp2_with fail
  clear c4 s4 cl4 sl4 cf4
  have D4 := (C4.set 3 (.int .i64 (tkB i b).1))
  have E4 := S4.far (p := ⟨w1.heap.size, 3, none⟩) (Nat.succ_ne_self _) (.int .i64 (tkB i b).1)
  have R4 := b4.far (p := ⟨w1.heap.size, 3, none⟩) (Nat.ne_of_lt lt1) (.int .i64 (tkB i b).1)
  refine (take_any (w.heap.size + 1) b (decide (0 < kp i)) 3 (tkB i b).2 _ R4 (lkB i b) (T3 _) hb).mono ?_
  rintro _ w5 ⟨v, l, hv, rfl, m5, b5⟩
  obtain ⟨hv1, hv2⟩ := Prod.mk.inj (show (v, l) = ((tkF i b).1, (tkF i b).2) from hv)
  clear hv
  subst hv1; subst hv2
  have GH5 := Lib.hid ((GH4.out.set (p := ⟨w1.heap.size, 3, none⟩) (Nat.le_of_lt hw1) (.int .i64 (tkB i b).1)).mu1 m5 (by omega))
  have ZH5 := Lib.hid ((ZH4.out.far (p := ⟨w1.heap.size, 3, none⟩) (Nat.ne_of_lt hw1) (.int .i64 (tkB i b).1)).mu m5 (by omega))
  have C5 : BK w5 w1.heap.size #[.int .i64 (i : Int), .int .i64 (tkD i b).1, .int .i64 (tkA i b).1, .int .i64 (tkB i b).1, .int .i64 0, .int .i64 0] := D4.mu m5 (by omega)
  have S5 := E4.mu m5 (by omega)
  have c5 := C5.cell; have s5 := S5.cell; have cl5 := C5.lt; have sl5 := S5.lt; have cf5 := C5.free
  go_wp2_with fail
  clear c5 s5 cl5 sl5 cf5
  have D5 := (C5.set 4 (.int .i64 (tkF i b).1))
  have E5 := S5.far (p := ⟨w1.heap.size, 4, none⟩) (Nat.succ_ne_self _) (.int .i64 (tkF i b).1)
  have R5 := b5.far (p := ⟨w1.heap.size, 4, none⟩) (Nat.ne_of_lt lt1) (.int .i64 (tkF i b).1)
  refine (take_any (w.heap.size + 1) b (decide (0 < kw i)) (kw i) (tkF i b).2 _ R5 (lkF i b) TN hb).mono ?_
  rintro _ w6 ⟨v, l, hv, rfl, m6, b6⟩
  obtain ⟨hv1, hv2⟩ := Prod.mk.inj (show (v, l) = ((tkN i b).1, (tkN i b).2) from hv)
  clear hv
  subst hv1; subst hv2
  have GH6 := Lib.hid ((GH5.out.set (p := ⟨w1.heap.size, 4, none⟩) (Nat.le_of_lt hw1) (.int .i64 (tkF i b).1)).mu1 m6 (by omega))
  have ZH6 := Lib.hid ((ZH5.out.far (p := ⟨w1.heap.size, 4, none⟩) (Nat.ne_of_lt hw1) (.int .i64 (tkF i b).1)).mu m6 (by omega))
  have C6 : BK w6 w1.heap.size #[.int .i64 (i : Int), .int .i64 (tkD i b).1, .int .i64 (tkA i b).1, .int .i64 (tkB i b).1, .int .i64 (tkF i b).1, .int .i64 0] := D5.mu m6 (by omega)
  have S6 := E5.mu m6 (by omega)
  have c6 := C6.cell; have s6 := S6.cell; have cl6 := C6.lt; have sl6 := S6.lt; have cf6 := C6.free
  by_cases hsg : ks i = true
  · have hw69 := ks_wide i hi hsg
    have HG := Lib.hid hsg
    have hN := tk_rng b (decide (0 < kw i)) (kw i) (tkF i b).2
    have ew : wrap64 (kw i : Int) = (kw i : Int) := IntWalk.wrap64_in _ (by omega)
    have EW := Lib.hid ew; clear ew
    have HN := Lib.hid hN; clear hN
    have HI := Lib.hid (sgn_int (kw i) (tkN i b).1 hw69 HN.out)
    have HM := Lib.hid (sgnW_rng (kw i) (tkN i b).1 hw69 HN.out)
    go_wp2_with fail
    try rw [EW.out]
    refine (WrdSign_any _ (kw i) _ hw69 HN.out).mono ?_; rintro _ _ ⟨rfl, rfl⟩
    go_wp2_with fail
    refine (WrdInt_any _ _ HM.out).mono ?_; rintro _ _ ⟨rfl, rfl⟩
    rw [HI.out]
    go_wp2_with fail
    have GW := (GH6.out.set (p := ⟨w1.heap.size, 5, none⟩) (Nat.le_of_lt hw1) (.int .i64 (tkN i b).1)).set (p := ⟨w1.heap.size, 5, none⟩) (Nat.le_of_lt hw1) (.int .i64 (sgn (kw i) (tkN i b).1))
    have ZW := (ZH6.out.far (p := ⟨w1.heap.size, 5, none⟩) (Nat.ne_of_lt hw1) (.int .i64 (tkN i b).1)).far (p := ⟨w1.heap.size, 5, none⟩) (Nat.ne_of_lt hw1) (.int .i64 (sgn (kw i) (tkN i b).1))
    have CW : BK _ w1.heap.size #[.int .i64 (i : Int), .int .i64 (tkD i b).1, .int .i64 (tkA i b).1, .int .i64 (tkB i b).1, .int .i64 (tkF i b).1, .int .i64 (sgn (kw i) (tkN i b).1)] := (C6.set 5 (.int .i64 (tkN i b).1)).set 5 (.int .i64 (sgn (kw i) (tkN i b).1))
    have HN2 : Hid (sgn (kw i) (tkN i b).1 = rdN i b) := Lib.hid (by simp [rdN, HG.out])
    clear c6 s6 cl6 sl6 cf6
    have KW := hk.gr GW
    refine (CodOk_any _ _ _ _ _ _ _ KW).mono ?_; rintro _ w7 ⟨rfl, k7⟩
    have Z7 := Lib.hid (ZW.gr k7)
    have C7 := CW.gr k7
    have c7 := C7.cell
    have z7 := Z7.out.cell
    have zf7 := Z7.out.free
    have zl7 := Z7.out.lt
    have g7 := GW.trans k7
    have K7 := hk.gr g7
    have GH7 := Lib.hid g7
    clear g7
    have c7l := C7.lt
    cases ho : codOk i (tkD i b).1 (tkA i b).1 (tkB i b).1 (tkF i b).1 (sgn (kw i) (tkN i b).1)
    · have HR := Lib.hid (rdRes_no i b hb hvi.out (rdOk_no i b hb.1 _ HN2.out ho))
      clear ho
      go_wp2_with fail
      have hq := (Z7.out.six (.int .i64 0) (.int .i64 0) (.int .i64 0) (.int .i64 0) (.int .i64 0) (.int .i64 0)).cell
      exact bodyPost_ret (v := .tuple #[instV 0 0 0 0 0 0, .bool false]) (by simp [results, Tryd.results19, go_sem, hq, instV]) rfl ⟨by rw [HR.out], GH7.out.six (Nat.le_refl _) _ _ _ _ _ _⟩
    · have HO := Lib.hid ho
      clear ho
      go_wp2_with fail
      refine (CodWord_any _ _ _ _ _ _ _ K7).mono ?_; rintro _ w8 ⟨rfl, k8⟩
      have Z8 := Lib.hid (Z7.out.gr k8)
      have C8 := C7.gr k8
      have c8 := C8.cell
      have z8 := Z8.out.cell
      have zf8 := Z8.out.free
      have zl8 := Z8.out.lt
      have GH8 := Lib.hid (GH7.out.trans k8)
      by_cases he : codWord i (tkD i b).1 (tkA i b).1 (tkB i b).1 (tkF i b).1 (sgn (kw i) (tkN i b).1) = b
      · have HE := Lib.hid he
        rw [he]
        go_wp2_with fail
        have HR := Lib.hid (rdRes_yes i b hb hvi.out (show rdOk i b = true by rw [HN2.out] at HE; simp [rdOk, HE.out]))
        have hq := (Z8.out.six (.int .i64 (i : Int)) (.int .i64 (tkD i b).1) (.int .i64 (tkA i b).1) (.int .i64 (tkB i b).1) (.int .i64 (tkF i b).1) (.int .i64 (sgn (kw i) (tkN i b).1))).cell
        exact bodyPost_ret (v := .tuple #[instV i (tkD i b).1 (tkA i b).1 (tkB i b).1 (tkF i b).1 (sgn (kw i) (tkN i b).1), .bool true]) (by simp [results, Tryd.results19, go_sem, hq, instV]) rfl ⟨by rw [HR.out, HN2.out], GH8.out.six (Nat.le_refl _) _ _ _ _ _ _⟩
      · have HE := Lib.hid he
        go_wp2_with fail
        have HR := Lib.hid (rdRes_no i b hb hvi.out (show rdOk i b = false by rw [HN2.out] at HE; simp [rdOk, HE.out]))
        have hq := (Z8.out.six (.int .i64 0) (.int .i64 0) (.int .i64 0) (.int .i64 0) (.int .i64 0) (.int .i64 0)).cell
        exact bodyPost_ret (v := .tuple #[instV 0 0 0 0 0 0, .bool false]) (by simp [results, Tryd.results19, go_sem, hq, instV]) rfl ⟨by rw [HR.out], GH8.out.six (Nat.le_refl _) _ _ _ _ _ _⟩
  · have hsg : ks i = false := by simpa using hsg
    have HG := Lib.hid hsg
    go_wp2_with fail
    have GW := GH6.out.set (p := ⟨w1.heap.size, 5, none⟩) (Nat.le_of_lt hw1) (.int .i64 (tkN i b).1)
    have ZW := ZH6.out.far (p := ⟨w1.heap.size, 5, none⟩) (Nat.ne_of_lt hw1) (.int .i64 (tkN i b).1)
    have CW : BK _ w1.heap.size #[.int .i64 (i : Int), .int .i64 (tkD i b).1, .int .i64 (tkA i b).1, .int .i64 (tkB i b).1, .int .i64 (tkF i b).1, .int .i64 (tkN i b).1] := C6.set 5 (.int .i64 (tkN i b).1)
    have HN2 : Hid ((tkN i b).1 = rdN i b) := Lib.hid (by simp [rdN, HG.out])
    clear c6 s6 cl6 sl6 cf6
    have KW := hk.gr GW
    refine (CodOk_any _ _ _ _ _ _ _ KW).mono ?_; rintro _ w7 ⟨rfl, k7⟩
    have Z7 := Lib.hid (ZW.gr k7)
    have C7 := CW.gr k7
    have c7 := C7.cell
    have z7 := Z7.out.cell
    have zf7 := Z7.out.free
    have zl7 := Z7.out.lt
    have g7 := GW.trans k7
    have K7 := hk.gr g7
    have GH7 := Lib.hid g7
    clear g7
    have c7l := C7.lt
    cases ho : codOk i (tkD i b).1 (tkA i b).1 (tkB i b).1 (tkF i b).1 (tkN i b).1
    · have HR := Lib.hid (rdRes_no i b hb hvi.out (rdOk_no i b hb.1 _ HN2.out ho))
      clear ho
      go_wp2_with fail
      have hq := (Z7.out.six (.int .i64 0) (.int .i64 0) (.int .i64 0) (.int .i64 0) (.int .i64 0) (.int .i64 0)).cell
      exact bodyPost_ret (v := .tuple #[instV 0 0 0 0 0 0, .bool false]) (by simp [results, Tryd.results19, go_sem, hq, instV]) rfl ⟨by rw [HR.out], GH7.out.six (Nat.le_refl _) _ _ _ _ _ _⟩
    · have HO := Lib.hid ho
      clear ho
      go_wp2_with fail
      refine (CodWord_any _ _ _ _ _ _ _ K7).mono ?_; rintro _ w8 ⟨rfl, k8⟩
      have Z8 := Lib.hid (Z7.out.gr k8)
      have C8 := C7.gr k8
      have c8 := C8.cell
      have z8 := Z8.out.cell
      have zf8 := Z8.out.free
      have zl8 := Z8.out.lt
      have GH8 := Lib.hid (GH7.out.trans k8)
      by_cases he : codWord i (tkD i b).1 (tkA i b).1 (tkB i b).1 (tkF i b).1 (tkN i b).1 = b
      · have HE := Lib.hid he
        rw [he]
        go_wp2_with fail
        have HR := Lib.hid (rdRes_yes i b hb hvi.out (show rdOk i b = true by rw [HN2.out] at HE; simp [rdOk, HE.out]))
        have hq := (Z8.out.six (.int .i64 (i : Int)) (.int .i64 (tkD i b).1) (.int .i64 (tkA i b).1) (.int .i64 (tkB i b).1) (.int .i64 (tkF i b).1) (.int .i64 (tkN i b).1)).cell
        exact bodyPost_ret (v := .tuple #[instV i (tkD i b).1 (tkA i b).1 (tkB i b).1 (tkF i b).1 (tkN i b).1, .bool true]) (by simp [results, Tryd.results19, go_sem, hq, instV]) rfl ⟨by rw [HR.out, HN2.out], GH8.out.six (Nat.le_refl _) _ _ _ _ _ _⟩
      · have HE := Lib.hid he
        go_wp2_with fail
        have HR := Lib.hid (rdRes_no i b hb hvi.out (show rdOk i b = false by rw [HN2.out] at HE; simp [rdOk, HE.out]))
        have hq := (Z8.out.six (.int .i64 0) (.int .i64 0) (.int .i64 0) (.int .i64 0) (.int .i64 0) (.int .i64 0)).cell
        exact bodyPost_ret (v := .tuple #[instV 0 0 0 0 0 0, .bool false]) (by simp [results, Tryd.results19, go_sem, hq, instV]) rfl ⟨by rw [HR.out], GH8.out.six (Nat.le_refl _) _ _ _ _ _ _⟩
set_option maxRecDepth 100000 in
set_option maxHeartbeats 2000000 in
theorem CodRead_out (b : Int) (w : World) (hb : ¬ (0 ≤ b ∧ b < 65536)) : Calls Tryd.prog 19 #[.int .i64 b] w (ReadP b w) := by
  have HR : Hid (rdRes b = .tuple #[instV 0 0 0 0 0 0, .bool false]) := Lib.hid (if_neg hb)
  have HO : ∀ u : World, Calls Tryd.prog 26 #[.int .i64 b] u fun e w' => e = .returned (.bool false) ∧ Gr u w' := by
    intro u
    by_cases h0 : 0 ≤ b
    · have h1 : ¬ b < 65536 := fun h => hb ⟨h0, h⟩
      go_enter Tryd.func26, Tryd.ntmps26
      go_wp2
      go_ret
      exact ⟨by simp, .refl _⟩
    · go_enter Tryd.func26, Tryd.ntmps26
      go_wp2
      go_ret
      exact ⟨by simp, .refl _⟩
  have HO := Lib.hid HO
  clear hb
  have Z := BK.new w #[.int .i64 0, .int .i64 0, .int .i64 0, .int .i64 0, .int .i64 0, .int .i64 0] 25
  go_enter Tryd.func19, Tryd.ntmps19
  go_wp2_with fail
  refine (HO.out _).mono ?_; rintro _ w1 ⟨rfl, k1⟩
  have Z1 := Z.gr k1
  have z1 := Z1.cell
  have zf1 := Z1.free
  have zl1 := Z1.lt
  have G1 := Lib.hid (((Gr.refl w).alloc _).trans k1)
  clear k1 Z
  go_wp2_with fail
  have hq := (Z1.six (.int .i64 0) (.int .i64 0) (.int .i64 0) (.int .i64 0) (.int .i64 0) (.int .i64 0)).cell
  exact bodyPost_ret (v := .tuple #[instV 0 0 0 0 0 0, .bool false]) (by simp [results, Tryd.results19, go_sem, hq, instV]) rfl ⟨by rw [HR.out], G1.out.six (Nat.le_refl _) _ _ _ _ _ _⟩
/-- The program's CodRead, of any number. -/
theorem CodRead_any (b : Int) (w : World) (hk : KF w) : Calls Tryd.prog 19 #[.int .i64 b] w (ReadP b w) := by
  by_cases hb : 0 ≤ b ∧ b < 65536
  · exact CodRead_in b w hk hb
  · exact CodRead_out b w hb
end Go.Proofs.YtppocjgjjjojiaaDoor
