/- The reference's CodRead: its loop over four fields, and the number. -/
import Derived.Test.YtppocjgjjjojiaaDoorCodReadImpl
namespace Go.Proofs.YtppocjgjjjojiaaDoor
open Go.RowKit

def fv (i : Nat) (b : Int) (j : Nat) : Int := if hs i j = true then b / 2 ^ lef i (j + 1) % 8 else 0
def cv (i : Nat) (b : Int) (j m : Nat) : Int := if j < m then fv i b j else 0
structure RdL (i : Nat) (b : Int) (g : Nat) (u w : World) (m : Nat) : Prop where
  bk : BK w g #[.int .i64 (cv i b 0 m), .int .i64 (cv i b 1 m), .int .i64 (cv i b 2 m), .int .i64 (cv i b 3 m)]
  mu : Mu (· = g) u w
theorem lef_ge (i : Nat) (hi : i < 16) (m : Nat) (hm : m < 4) (h : hs i m = true) : 3 ≤ lef i m := by
  have : ∀ k : Fin 16, ∀ m : Fin 4, hs k m = true → 3 ≤ lef k m := by decide
  exact this ⟨i, hi⟩ ⟨m, hm⟩ h
theorem lef_le (i m : Nat) : lef i m ≤ 12 := by
  induction m with
  | zero => simp [lef]
  | succ m ih => simp only [lef]; split <;> omega
theorem RdL.hit {i : Nat} {b : Int} {g : Nat} {u w : World} {m : Nat} (R : RdL i b g u w m) (hm : m < 4) (h : hs i m = true) (v : Int) (hv : v = b / 2 ^ lef i (m + 1) % 8) :
    RdL i b g u (w.setCell ⟨g, m, none⟩ (.int .i64 v)) (m + 1) := by
  refine ⟨?_, R.mu.set (.inl rfl) _⟩
  subst hv
  have q := R.bk.set m (.int .i64 (b / 2 ^ lef i (m + 1) % 8))
  obtain rfl | rfl | rfl | rfl : m = 0 ∨ m = 1 ∨ m = 2 ∨ m = 3 := by omega
  all_goals (simp [cv, fv, h] at q ⊢; exact q)
theorem RdL.miss {i : Nat} {b : Int} {g : Nat} {u w : World} {m : Nat} (R : RdL i b g u w m) (hm : m < 4) (h : hs i m = false) : RdL i b g u w (m + 1) := by
  refine ⟨?_, R.mu⟩
  have q := R.bk
  obtain rfl | rfl | rfl | rfl : m = 0 ∨ m = 1 ∨ m = 2 ∨ m = 3 := by omega
  all_goals (simp [cv, fv, h] at q ⊢; exact q)
theorem lef_hit (i m : Nat) (h : hs i m = true) : lef i (m + 1) = lef i m - 3 := by simp [lef, h]
theorem lef_miss (i m : Nat) (h : hs i m = false) : lef i (m + 1) = lef i m := by simp [lef, h]
theorem tk_fv (i : Nat) (hi : i < 16) (b : Int) (m : Nat) (hm : m < 4) : tk b (hs i m) 3 (lef i m) = (fv i b m, lef i (m + 1)) := by
  cases h : hs i m
  · simp [tk, fv, h, lef]
  · simp [tk, fv, h, lef, lef_ge i hi m hm h]
theorem tk_all (i : Nat) (hi : i < 16) (b : Int) : tkD i b = (fv i b 0, lef i 1) ∧ tkA i b = (fv i b 1, lef i 2) ∧ tkB i b = (fv i b 2, lef i 3) ∧ tkF i b = (fv i b 3, lef i 4) := by
  have hD : tkD i b = (fv i b 0, lef i 1) := tk_fv i hi b 0 (by decide)
  have hA : tkA i b = (fv i b 1, lef i 2) := by unfold tkA; rw [hD]; exact tk_fv i hi b 1 (by decide)
  have hB : tkB i b = (fv i b 2, lef i 3) := by unfold tkB; rw [hA]; exact tk_fv i hi b 2 (by decide)
  exact ⟨hD, hA, hB, by unfold tkF; rw [hB]; exact tk_fv i hi b 3 (by decide)⟩
theorem lef4 (i : Nat) (hi : i < 16) : kw i ≤ lef i 4 := by
  have : ∀ k : Fin 16, kw k ≤ lef k 4 := by decide
  exact this ⟨i, hi⟩
structure RdC (i : Nat) (b : Int) (n : Int) (C : Nat) (w wx : World) : Prop where
  c : BK wx C #[.int .i64 (i : Int), .int .i64 (tkD i b).1, .int .i64 (tkA i b).1, .int .i64 (tkB i b).1, .int .i64 (tkF i b).1, .int .i64 n]
  z : BK wx w.heap.size #[.int .i64 0, .int .i64 0, .int .i64 0, .int .i64 0, .int .i64 0, .int .i64 0]
  g : Gr w wx
theorem RdC.num {i : Nat} {b n : Int} {C : Nat} {w wx : World} (R : RdC i b n C w wx) (hC : w.heap.size < C) (k : Int) : RdC i b k C w (wx.setCell ⟨C, 5, none⟩ (.int .i64 k)) :=
  ⟨R.c.set 5 (.int .i64 k), R.z.far (Nat.ne_of_lt hC) _, R.g.set (Nat.le_of_lt hC) _⟩
theorem RdC.drewN {i : Nat} {b n : Int} {C : Nat} {w wx : World} (R : RdC i b n C w wx) (k : Nat) : RdC i b n C w (wx.drewN k) := ⟨R.c.drewN k, R.z.drewN k, R.g.drewN k⟩
theorem RdC.drew {i : Nat} {b n : Int} {C : Nat} {w wx : World} (R : RdC i b n C w wx) : RdC i b n C w wx.drew := ⟨R.c.drew, R.z.drew, R.g.drew⟩
theorem RdC.mk4 {i : Nat} {hi : i < 16} {b : Int} {C : Nat} {w wr : World} (hC : w.heap.size < C) (c : BK wr C #[.int .i64 (i : Int), .int .i64 0, .int .i64 0, .int .i64 0, .int .i64 0, .int .i64 0])
    (z : BK wr w.heap.size #[.int .i64 0, .int .i64 0, .int .i64 0, .int .i64 0, .int .i64 0, .int .i64 0]) (g : Gr w wr) :
    RdC i b 0 C w ((((wr.setCell ⟨C, 1, none⟩ (.int .i64 (cv i b 0 4))).setCell ⟨C, 2, none⟩ (.int .i64 (cv i b 1 4))).setCell ⟨C, 3, none⟩ (.int .i64 (cv i b 2 4))).setCell ⟨C, 4, none⟩ (.int .i64 (cv i b 3 4))) := by
  obtain ⟨h0, h1, h2, h3⟩ := tk_all i hi b
  refine ⟨?_, (((z.far (p := ⟨C, 1, none⟩) (Nat.ne_of_lt hC) _).far (p := ⟨C, 2, none⟩) (Nat.ne_of_lt hC) _).far (p := ⟨C, 3, none⟩) (Nat.ne_of_lt hC) _).far (p := ⟨C, 4, none⟩) (Nat.ne_of_lt hC) _,
    (((g.set (p := ⟨C, 1, none⟩) (Nat.le_of_lt hC) _).set (p := ⟨C, 2, none⟩) (Nat.le_of_lt hC) _).set (p := ⟨C, 3, none⟩) (Nat.le_of_lt hC) _).set (p := ⟨C, 4, none⟩) (Nat.le_of_lt hC) _⟩
  rw [h0, h1, h2, h3]
  exact (((c.set 1 (.int .i64 (cv i b 0 4))).set 2 (.int .i64 (cv i b 1 4))).set 3 (.int .i64 (cv i b 2 4))).set 4 (.int .i64 (cv i b 3 4))
theorem tmod_at (b : Int) (l : Nat) (p : Int) (b0 : 0 ≤ b) : (b / 2 ^ l).tmod p = b / 2 ^ l % p := Int.tmod_eq_emod_of_nonneg (Int.ediv_nonneg b0 (Int.le_of_lt (Int.pow_pos (by decide))))
theorem rdN_no (i : Nat) (hi : i < 16) (b : Int) (e : kw i = 0) : rdN i b = 0 := by
  have hs0 : ks i = false := by
    cases h : ks i
    · rfl
    · have := ks_wide i hi h; omega
  simp [rdN, hs0, tkN, tk, e]
theorem tkN_at (i : Nat) (hi : i < 16) (b : Int) (k : Nat) (hk : 0 < k) (e : kw i = k) : (tkN i b).1 = b / 2 ^ (lef i 4 - k) % 2 ^ k := by
  obtain ⟨-, -, -, h3⟩ := tk_all i hi b
  have h4 := lef4 i hi
  rw [e] at h4
  unfold tkN
  rw [h3, e]
  simp [tk, hk, h4]
theorem rdN_uns (i : Nat) (hi : i < 16) (b : Int) (b0 : 0 ≤ b) (e : kw i = 9) (s : ks i = false) : rdN i b = (b / 2 ^ (lef i 4 - 9)).tmod 512 := by
  rw [tmod_at _ _ _ b0]
  simp [rdN, s, tkN_at i hi b 9 (by decide) e]
theorem rdN_sgn (i : Nat) (hi : i < 16) (b : Int) (b0 : 0 ≤ b) (k : Nat) (hk : 0 < k) (p : Int) (hp : p = 2 ^ k) (h : Int) (hh : h = 2 ^ (k - 1)) (e : kw i = k) (s : ks i = true) :
    rdN i b = if h ≤ (b / 2 ^ (lef i 4 - k)).tmod p then (b / 2 ^ (lef i 4 - k)).tmod p - p else (b / 2 ^ (lef i 4 - k)).tmod p := by
  rw [tmod_at _ _ _ b0, hp, hh]
  simp only [rdN, s, if_true, tkN_at i hi b k hk e, e, sgn]
theorem spec_WrdOk_any (n : Int) (w : World) : Calls Tryd.prog 40 #[.int .i64 n] w fun e w' => e = .returned (.bool (inB n 0 65535)) ∧ Gr w w' := by
  go_enter Tryd.func40, Tryd.ntmps40
  go_wp2_with fail
  refine (l1In_any _ _ _ _).mono ?_; rintro _ _ ⟨rfl, rfl⟩
  go_wp2_with fail
  go_ret
  exact ⟨rfl, .refl _⟩
set_option maxRecDepth 100000 in
set_option maxHeartbeats 20000000 in
theorem spec_CodRead_in (b : Int) (w : World) (hb : 0 ≤ b ∧ b < 65536) :
    Calls Tryd.prog 18 #[.int .i64 b] w (ReadP b w) := by
  obtain ⟨i, hi, hvi⟩ : ∃ i : Nat, i < 16 ∧ Hid ((i : Int) = b / 4096) := ⟨(b / 4096).toNat, by omega, Lib.hid (by omega)⟩
  have hsh : b / 4096 = (i : Int) := hvi.out.symm
  obtain ⟨D, hD⟩ : ∃ D, Hid (kd i = D) := ⟨_, Lib.hid rfl⟩
  obtain ⟨A, hA⟩ : ∃ D, Hid (ka i = D) := ⟨_, Lib.hid rfl⟩
  obtain ⟨B, hB⟩ : ∃ D, Hid (kb i = D) := ⟨_, Lib.hid rfl⟩
  obtain ⟨F, hF⟩ : ∃ D, Hid (decide (0 < kp i) = D) := ⟨_, Lib.hid rfl⟩
  obtain ⟨W, hW⟩ : ∃ D, Hid (kw i = D) := ⟨_, Lib.hid rfl⟩
  have HB := Lib.hid hb
  obtain ⟨b0, b1⟩ := hb
  go_enter Tryd.func18, Tryd.ntmps18
  go_wp2_with fail
  refine (spec_WrdOk_any _ _).mono ?_; rintro _ w1 ⟨rfl, k1⟩
  rw [show inB b 0 65535 = true by simp [inB]; omega]
  have Z1 := (BK.new w #[.int .i64 0, .int .i64 0, .int .i64 0, .int .i64 0, .int .i64 0, .int .i64 0] 25).gr k1
  have G1 := ((Gr.refl w).alloc (.cells #[.int .i64 0, .int .i64 0, .int .i64 0, .int .i64 0, .int .i64 0, .int .i64 0] 25)).trans k1
  have z1l := Z1.lt
  go_wp2_with fail
  refine (l2Has_any _ _).mono ?_; rintro _ _ ⟨rfl, rfl⟩
  rw [kNo_nat i hi, hD.out, hA.out, hB.out, hF.out, hW.out]
  go_wp2_with fail
  have C0 := ((BK.new w1 #[.int .i64 (i : Int), .int .i64 0, .int .i64 0, .int .i64 0, .int .i64 0, .int .i64 0] 25).alloc (.cells #[.int .i64 0, .int .i64 0, .int .i64 0, .int .i64 0] 3)).alloc (.cells #[.bool D, .bool A, .bool B, .bool F] 4)
  have L0 := (BK.new (w1.alloc (.cells #[.int .i64 (i : Int), .int .i64 0, .int .i64 0, .int .i64 0, .int .i64 0, .int .i64 0] 25)) #[.int .i64 0, .int .i64 0, .int .i64 0, .int .i64 0] 3).alloc (.cells #[.bool D, .bool A, .bool B, .bool F] 4)
  have H0 := BK.new ((w1.alloc (.cells #[.int .i64 (i : Int), .int .i64 0, .int .i64 0, .int .i64 0, .int .i64 0, .int .i64 0] 25)).alloc (.cells #[.int .i64 0, .int .i64 0, .int .i64 0, .int .i64 0] 3)) #[.bool D, .bool A, .bool B, .bool F] 4
  have Z0 := ((Z1.alloc (.cells #[.int .i64 (i : Int), .int .i64 0, .int .i64 0, .int .i64 0, .int .i64 0, .int .i64 0] 25)).alloc (.cells #[.int .i64 0, .int .i64 0, .int .i64 0, .int .i64 0] 3)).alloc (.cells #[.bool D, .bool A, .bool B, .bool F] 4)
  have G0 := ((G1.alloc (.cells #[.int .i64 (i : Int), .int .i64 0, .int .i64 0, .int .i64 0, .int .i64 0, .int .i64 0] 25)).alloc (.cells #[.int .i64 0, .int .i64 0, .int .i64 0, .int .i64 0] 3)).alloc (.cells #[.bool D, .bool A, .bool B, .bool F] 4)
  obtain ⟨u, hu⟩ : ∃ u, u = ((w1.alloc (.cells #[.int .i64 (i : Int), .int .i64 0, .int .i64 0, .int .i64 0, .int .i64 0, .int .i64 0] 25)).alloc (.cells #[.int .i64 0, .int .i64 0, .int .i64 0, .int .i64 0] 3)).alloc (.cells #[.bool D, .bool A, .bool B, .bool F] 4) := ⟨_, rfl⟩
  rw [← hu] at C0 L0 H0 Z0 G0 ⊢
  simp only [World.size_alloc] at L0 H0
  have C0 := Lib.hid C0; have L0 := Lib.hid L0; have H0 := Lib.hid H0; have Z0 := Lib.hid Z0; have G0 := Lib.hid G0
  clear hu Z1 G1
  go_loopw [10, 13] (fun at_ k wr => ∃ m : Nat, m ≤ 4 ∧ k = .int .i64 (m : Int) ∧ at_ = .int .i64 (lef i m : Int) ∧ RdL i b (w1.heap.size + 1) u wr m) (fun _ k _ => 4 - (intOf k).toNat)
  case atStart => exact ⟨0, by omega, rfl, rfl, L0.out, .refl _ _⟩
  case round =>
    obtain ⟨m, hm, rfl, rfl, R⟩ := hrel
    have HL := Lib.hid (H0.out.mu R.mu (by omega))
    have hc := HL.out.cell
    have hlt := HL.out.lt
    have lc := R.bk.cell
    have ll := R.bk.lt
    have lf := R.bk.free
    have hl0 := lef_le i m
    have R := Lib.hid R
    by_cases h4 : m = 4
    · subst h4
      have HC := Lib.hid (C0.out.mu R.out.mu (by omega))
      have cc := HC.out.cell
      have cl := HC.out.lt
      have cf := HC.out.free
      clear hc hlt
      have HR0 := Lib.hid (RdC.mk4 (hi := hi) (b := b) z1l HC.out (Z0.out.mu R.out.mu (by omega)) ((Mu.of_gr (S := (· = w1.heap.size + 1)) G0.out).trans R.out.mu |>.gr (by omega)))
      have hl4 := lef4 i hi
      rw [hW.out] at hl4
      go_upto_if 70 with (fail)
      go_cut [10] (fun s10 wx => RdC i b (rdN i b) w1.heap.size w wx)
      case first =>
        rcases num_ways i hi with e | ⟨e, s, h2⟩ | ⟨e, s, n2, n12⟩ | ⟨e, s, n2, n12⟩
        · rw [hW.out] at e; subst e
          go_wp2_with fail
          go_meet
          rw [rdN_no i hi b hW.out]
          exact HR0.out
        · rw [hW.out] at e; subst e
          have hN := Lib.hid (rdN_uns i hi b b0 hW.out s)
          have t0 : 0 ≤ (b / 2 ^ (lef i 4 - 9)).tmod 512 ∧ (b / 2 ^ (lef i 4 - 9)).tmod 512 < 512 := by rw [tmod_at _ _ _ b0]; omega
          obtain ⟨t0, t1⟩ := t0
          rcases h2 with h2 | h2
          · have q12 : ((i : Int) == 12) = false := by simp; omega
            have d12 : decide ((i : Int) = 12) = false := by simp; omega
            have e12 : ¬ ((i : Int) = 12) := by omega
            have q2 : ((i : Int) == 2) = true := by simp; omega
            have e2 : ((i : Int) = 2) = True := by simp; omega
            clear h2
            go_wp2_with fail
            go_region
            go_wp2_with fail
            go_quiet (fail)
            go_wp2_with fail
            go_meet
            rw [hN.out]
            first | exact ((HR0.out.num z1l _).drew).drewN _ | exact (HR0.out.num z1l _).drewN _
          · have q12 : ((i : Int) == 12) = true := by simp; omega
            have e12 : ((i : Int) = 12) = True := by simp; omega
            clear h2
            go_wp2_with fail
            go_region
            go_wp2_with fail
            go_quiet (fail)
            go_wp2_with fail
            go_meet
            rw [hN.out]
            first | exact ((HR0.out.num z1l _).drew).drewN _ | exact (HR0.out.num z1l _).drewN _
        · rw [hW.out] at e; subst e
          have q12 : ((i : Int) == 12) = false := by simp; omega
          have d12 : decide ((i : Int) = 12) = false := by simp; omega
          have e12 : ¬ ((i : Int) = 12) := by omega
          have q2 : ((i : Int) == 2) = false := by simp; omega
          have d2 : decide ((i : Int) = 2) = false := by simp; omega
          have e2 : ¬ ((i : Int) = 2) := by omega
          clear n2 n12
          have wk : IntKind.i64.wrap 5 = 5 := by decide
          have wp : IntKind.i64.wrap 32 = 32 := by decide
          have hN := Lib.hid (rdN_sgn i hi b b0 6 (by decide) 64 (by decide) 32 (by decide) hW.out s)
          have t0 : 0 ≤ (b / 2 ^ (lef i 4 - 6)).tmod 64 ∧ (b / 2 ^ (lef i 4 - 6)).tmod 64 < 64 := by rw [tmod_at _ _ _ b0]; omega
          obtain ⟨t0, t1⟩ := t0
          by_cases hs : 32 ≤ (b / 2 ^ (lef i 4 - 6)).tmod 64
          · go_wp2_with fail
            go_region
            go_wp2_with fail
            go_quiet (fail)
            go_wp2_with fail
            any_goals (first | (exfalso; rename_i hz; rcases hz with hz | hz <;> (simp at hz; omega)) | skip)
            go_region
            go_wp2_with fail
            go_meet
            have RR := HR0.out.num z1l ((b / 2 ^ (lef i 4 - 6)).tmod 64)
            have RS := (RR.drewN (1 + nq + 1)).num z1l ((b / 2 ^ (lef i 4 - 6)).tmod 64 - 64)
            rw [hN.out, if_pos hs]
            exact RS
          · have hd : decide (32 ≤ (b / 2 ^ (lef i 4 - 6)).tmod 64) = false := decide_eq_false hs
            have hs : (b / 2 ^ (lef i 4 - 6)).tmod 64 < 32 := by omega
            go_wp2_with fail
            go_region
            go_wp2_with fail
            go_quiet (fail)
            go_wp2_with fail
            any_goals (first | (exfalso; rename_i hz; have hz2 := hz.2; (try rw [wp] at hz2); omega) | skip)
            go_meet
            rw [hN.out, if_neg (by omega)]
            first | exact ((HR0.out.num z1l _).drew).drewN _ | exact (HR0.out.num z1l _).drewN _
        · rw [hW.out] at e; subst e
          have q12 : ((i : Int) == 12) = false := by simp; omega
          have d12 : decide ((i : Int) = 12) = false := by simp; omega
          have e12 : ¬ ((i : Int) = 12) := by omega
          have q2 : ((i : Int) == 2) = false := by simp; omega
          have d2 : decide ((i : Int) = 2) = false := by simp; omega
          have e2 : ¬ ((i : Int) = 2) := by omega
          clear n2 n12
          have wk : IntKind.i64.wrap 8 = 8 := by decide
          have wp : IntKind.i64.wrap 256 = 256 := by decide
          have hN := Lib.hid (rdN_sgn i hi b b0 9 (by decide) 512 (by decide) 256 (by decide) hW.out s)
          have t0 : 0 ≤ (b / 2 ^ (lef i 4 - 9)).tmod 512 ∧ (b / 2 ^ (lef i 4 - 9)).tmod 512 < 512 := by rw [tmod_at _ _ _ b0]; omega
          obtain ⟨t0, t1⟩ := t0
          by_cases hs : 256 ≤ (b / 2 ^ (lef i 4 - 9)).tmod 512
          · go_wp2_with fail
            go_region
            go_wp2_with fail
            go_quiet (fail)
            go_wp2_with fail
            any_goals (first | (exfalso; rename_i hz; rcases hz with hz | hz <;> (simp at hz; omega)) | skip)
            go_region
            go_wp2_with fail
            go_meet
            have RR := HR0.out.num z1l ((b / 2 ^ (lef i 4 - 9)).tmod 512)
            have RS := (RR.drewN (1 + nq + 1)).num z1l ((b / 2 ^ (lef i 4 - 9)).tmod 512 - 512)
            rw [hN.out, if_pos hs]
            exact RS
          · have hd : decide (256 ≤ (b / 2 ^ (lef i 4 - 9)).tmod 512) = false := decide_eq_false hs
            have hs : (b / 2 ^ (lef i 4 - 9)).tmod 512 < 256 := by omega
            go_wp2_with fail
            go_region
            go_wp2_with fail
            go_quiet (fail)
            go_wp2_with fail
            any_goals (first | (exfalso; rename_i hz; have hz2 := hz.2; (try rw [wp] at hz2); omega) | skip)
            go_meet
            rw [hN.out, if_neg (by omega)]
            first | exact ((HR0.out.num z1l _).drew).drewN _ | exact (HR0.out.num z1l _).drewN _
      case rest =>
        have CW := Lib.hid hcut
        have c7 := hcut.c.cell; have c7l := hcut.c.lt
        have zf7 := hcut.z.free; have zl7 := hcut.z.lt; have z7 := hcut.z.cell
        clear hcut cc cl cf lc ll lf
        go_wp2_with fail
        refine (spec_CodOk_any _ _ _ _ _ _ _).mono ?_; rintro _ w7 ⟨rfl, k7⟩
        have C7 := Lib.hid (CW.out.c.gr k7)
        have Z7 := Lib.hid (CW.out.z.gr k7)
        have G7 := Lib.hid (CW.out.g.trans k7)
        clear c7 c7l zf7 zl7 z7 k7
        have c7 := C7.out.cell; have c7l := C7.out.lt
        have zf7 := Z7.out.free; have zl7 := Z7.out.lt; have z7 := Z7.out.cell
        cases ho : codOk i (tkD i b).1 (tkA i b).1 (tkB i b).1 (tkF i b).1 (rdN i b)
        · have HR := Lib.hid (rdRes_no i b HB.out hvi.out (rdOk_no i b b0 _ rfl ho))
          clear ho
          go_wp2_with fail
          have hq := (Z7.out.six (.int .i64 0) (.int .i64 0) (.int .i64 0) (.int .i64 0) (.int .i64 0) (.int .i64 0)).cell
          exact bodyPost_ret (v := .tuple #[instV 0 0 0 0 0 0, .bool false]) (by simp [results, Tryd.results18, go_sem, hq, instV]) rfl ⟨by rw [HR.out], G7.out.six (Nat.le_refl _) _ _ _ _ _ _⟩
        · have HO := Lib.hid ho
          clear ho
          go_wp2_with fail
          refine (spec_CodWord_any _ _ _ _ _ _ _).mono ?_; rintro _ w8 ⟨rfl, k8⟩
          have C8 := Lib.hid (C7.out.gr k8)
          have Z8 := Lib.hid (Z7.out.gr k8)
          have G8 := Lib.hid (G7.out.trans k8)
          clear c7 c7l zf7 zl7 z7 k8
          have c8 := C8.out.cell; have c8l := C8.out.lt
          have zf8 := Z8.out.free; have zl8 := Z8.out.lt; have z8 := Z8.out.cell
          by_cases he : codWord i (tkD i b).1 (tkA i b).1 (tkB i b).1 (tkF i b).1 (rdN i b) = b
          · have HE := Lib.hid he
            rw [he]
            go_wp2_with fail
            have HR := Lib.hid (rdRes_yes i b HB.out hvi.out (show rdOk i b = true by simp [rdOk, HE.out]))
            have hq := (Z8.out.six (.int .i64 (i : Int)) (.int .i64 (tkD i b).1) (.int .i64 (tkA i b).1) (.int .i64 (tkB i b).1) (.int .i64 (tkF i b).1) (.int .i64 (rdN i b))).cell
            exact bodyPost_ret (v := .tuple #[instV i (tkD i b).1 (tkA i b).1 (tkB i b).1 (tkF i b).1 (rdN i b), .bool true]) (by simp [results, Tryd.results18, go_sem, hq, instV]) rfl ⟨by rw [HR.out], G8.out.six (Nat.le_refl _) _ _ _ _ _ _⟩
          · have HE := Lib.hid he
            go_wp2_with fail
            have HR := Lib.hid (rdRes_no i b HB.out hvi.out (show rdOk i b = false by simp [rdOk, HE.out]))
            have hq := (Z8.out.six (.int .i64 0) (.int .i64 0) (.int .i64 0) (.int .i64 0) (.int .i64 0) (.int .i64 0)).cell
            exact bodyPost_ret (v := .tuple #[instV 0 0 0 0 0 0, .bool false]) (by simp [results, Tryd.results18, go_sem, hq, instV]) rfl ⟨by rw [HR.out], G8.out.six (Nat.le_refl _) _ _ _ _ _ _⟩
    have hm3 : m < 4 := by omega
    clear hm h4
    obtain rfl | rfl | rfl | rfl : m = 0 ∨ m = 1 ∨ m = 2 ∨ m = 3 := by omega
    · cases D
      · have R2 := Lib.hid (R.out.miss (by decide) (show hs i 0 = false from hD.out))
        have HLN := Lib.hid (lef_miss i 0 hD.out)
        go_wp2_with fail
        go_roundw
        case rel => exact ⟨0 + 1, by omega, by go_num, by rw [HLN.out], R2.out⟩
        case measure => simp [intOf]
      · have R2 := Lib.hid fun v => R.out.hit (by decide) (show hs i 0 = true from hD.out) v
        have HLN := Lib.hid (lef_hit i 0 hD.out)
        have hge : 3 ≤ lef i 0 := lef_ge i hi 0 (by decide) hD.out
        go_wp2_with fail
        go_roundw
        case rel => exact ⟨0 + 1, by omega, by go_num, by rw [HLN.out]; show Value.int .i64 ((lef i 0 : Int) - 3) = Value.int .i64 ((lef i 0 - 3 : Nat) : Int); congr 1 <;> omega, R2.out _ (by rw [HLN.out]; exact Int.tmod_eq_emod_of_nonneg (Int.ediv_nonneg b0 (Int.le_of_lt (Int.pow_pos (by decide)))))⟩
        case measure => simp [intOf]
    · cases A
      · have R2 := Lib.hid (R.out.miss (by decide) (show hs i 1 = false from hA.out))
        have HLN := Lib.hid (lef_miss i 1 hA.out)
        go_wp2_with fail
        go_roundw
        case rel => exact ⟨1 + 1, by omega, by go_num, by rw [HLN.out], R2.out⟩
        case measure => simp [intOf]
      · have R2 := Lib.hid fun v => R.out.hit (by decide) (show hs i 1 = true from hA.out) v
        have HLN := Lib.hid (lef_hit i 1 hA.out)
        have hge : 3 ≤ lef i 1 := lef_ge i hi 1 (by decide) hA.out
        go_wp2_with fail
        go_roundw
        case rel => exact ⟨1 + 1, by omega, by go_num, by rw [HLN.out]; show Value.int .i64 ((lef i 1 : Int) - 3) = Value.int .i64 ((lef i 1 - 3 : Nat) : Int); congr 1 <;> omega, R2.out _ (by rw [HLN.out]; exact Int.tmod_eq_emod_of_nonneg (Int.ediv_nonneg b0 (Int.le_of_lt (Int.pow_pos (by decide)))))⟩
        case measure => simp [intOf]
    · cases B
      · have R2 := Lib.hid (R.out.miss (by decide) (show hs i 2 = false from hB.out))
        have HLN := Lib.hid (lef_miss i 2 hB.out)
        go_wp2_with fail
        go_roundw
        case rel => exact ⟨2 + 1, by omega, by go_num, by rw [HLN.out], R2.out⟩
        case measure => simp [intOf]
      · have R2 := Lib.hid fun v => R.out.hit (by decide) (show hs i 2 = true from hB.out) v
        have HLN := Lib.hid (lef_hit i 2 hB.out)
        have hge : 3 ≤ lef i 2 := lef_ge i hi 2 (by decide) hB.out
        go_wp2_with fail
        go_roundw
        case rel => exact ⟨2 + 1, by omega, by go_num, by rw [HLN.out]; show Value.int .i64 ((lef i 2 : Int) - 3) = Value.int .i64 ((lef i 2 - 3 : Nat) : Int); congr 1 <;> omega, R2.out _ (by rw [HLN.out]; exact Int.tmod_eq_emod_of_nonneg (Int.ediv_nonneg b0 (Int.le_of_lt (Int.pow_pos (by decide)))))⟩
        case measure => simp [intOf]
    · cases F
      · have R2 := Lib.hid (R.out.miss (by decide) (show hs i 3 = false from hF.out))
        have HLN := Lib.hid (lef_miss i 3 hF.out)
        go_wp2_with fail
        go_roundw
        case rel => exact ⟨3 + 1, by omega, by go_num, by rw [HLN.out], R2.out⟩
        case measure => simp [intOf]
      · have R2 := Lib.hid fun v => R.out.hit (by decide) (show hs i 3 = true from hF.out) v
        have HLN := Lib.hid (lef_hit i 3 hF.out)
        have hge : 3 ≤ lef i 3 := lef_ge i hi 3 (by decide) hF.out
        go_wp2_with fail
        go_roundw
        case rel => exact ⟨3 + 1, by omega, by go_num, by rw [HLN.out]; show Value.int .i64 ((lef i 3 : Int) - 3) = Value.int .i64 ((lef i 3 - 3 : Nat) : Int); congr 1 <;> omega, R2.out _ (by rw [HLN.out]; exact Int.tmod_eq_emod_of_nonneg (Int.ediv_nonneg b0 (Int.le_of_lt (Int.pow_pos (by decide)))))⟩
        case measure => simp [intOf]
set_option maxRecDepth 100000 in
set_option maxHeartbeats 2000000 in
theorem spec_CodRead_out (b : Int) (w : World) (hb : ¬ (0 ≤ b ∧ b < 65536)) : Calls Tryd.prog 18 #[.int .i64 b] w (ReadP b w) := by
  have HR : Hid (rdRes b = .tuple #[instV 0 0 0 0 0 0, .bool false]) := Lib.hid (if_neg hb)
  have hin : inB b 0 65535 = false := by simp [inB]; omega
  clear hb
  have Z := BK.new w #[.int .i64 0, .int .i64 0, .int .i64 0, .int .i64 0, .int .i64 0, .int .i64 0] 25
  go_enter Tryd.func18, Tryd.ntmps18
  go_wp2_with fail
  refine (spec_WrdOk_any _ _).mono ?_; rintro _ w1 ⟨rfl, k1⟩
  rw [hin]
  have Z1 := Z.gr k1
  have z1 := Z1.cell
  have zf1 := Z1.free
  have zl1 := Z1.lt
  have G1 := Lib.hid (((Gr.refl w).alloc _).trans k1)
  clear k1 Z hin
  go_wp2_with fail
  have hq := (Z1.six (.int .i64 0) (.int .i64 0) (.int .i64 0) (.int .i64 0) (.int .i64 0) (.int .i64 0)).cell
  exact bodyPost_ret (v := .tuple #[instV 0 0 0 0 0 0, .bool false]) (by simp [results, Tryd.results18, go_sem, hq, instV]) rfl ⟨by rw [HR.out], G1.out.six (Nat.le_refl _) _ _ _ _ _ _⟩
/-- The reference's CodRead, of any number. -/
theorem spec_CodRead_any (b : Int) (w : World) : Calls Tryd.prog 18 #[.int .i64 b] w (ReadP b w) := by
  by_cases hb : 0 ≤ b ∧ b < 65536
  · exact spec_CodRead_in b w hb
  · exact spec_CodRead_out b w hb
end Go.Proofs.YtppocjgjjjojiaaDoor
