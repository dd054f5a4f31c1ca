/- decimal: payload, number, trailing and finite of both encodings: what they return. decimal.Encode: what it returns. decimal.Decode: what it returns. decimal.Recode: what it returns. -/
import Derived.Test.YtiplbpfdkcddlaaDoorJD15
import Derived.Test.YtiplbpfdkcddlaaDoorJDm5
import Derived.Test.YtiplbpfdkcddlaaDoorJD12
import Derived.Test.YtiplbpfdkcddlaaDoorJDm3
set_option linter.unusedSimpArgs false
set_option linter.unusedVariables false
set_option linter.unnecessarySimpa false
namespace Go.Proofs.YtiplbpfdkcddlaaDoor
open Go.RowKit Go.Proofs.YtiplbpfdkcddlaaDoorW.PrintWords Go.Proofs.YtiplbpfdkcddlaaDoorW.PrintLast Go.Proofs.YtiplbpfdkcddlaaDoorW.PrintMore Go.Proofs.YtiplbpfdkcddlaaDoor.NL
set_option maxRecDepth 100000
set_option exponentiation.threshold 33000

abbrev fF (f : Int) : Value := fV (dP f) (dL f) (dH f) (wnN f : Nat) (tnN f : Nat)
theorem tn_cast (f : Int) : ((tnN f : Nat) : Int) = 10 * (kN f : Int) := by unfold tnN; omega
theorem w_small {f : Int} (hf : isDec f = true) : 2 ^ wnN f ≤ 4096 ∧ 0 < wnN f ∧ tnN f ≤ 110 := by
  rcases dec_cases hf with rfl | rfl | rfl <;> decide
theorem c_small {f : Int} (hf : isDec f = true) : 10 ^ (pN f + 1) < 2 ^ 120 := by
  rcases dec_cases hf with rfl | rfl | rfl <;> decide +kernel
theorem p_wrap {f : Int} (hf : isDec f = true) : wrap64 (dP f - 1) = (pN f : Nat) ∧ IntKind.i64.wrap (dP f - 1) = (pN f : Nat) := by
  obtain ⟨n1, n2, n3, n4, n5, n6, n7, n8, n9, n10, n11⟩ := dec_nums hf
  exact ⟨by rw [n3, w64e (by omega) (by omega)]; omega, by rw [n3, IntKind.wrap_i64]; omega⟩
/-! Payloads. -/
theorem pay_1 {f hi lo : Int} {T : Nat} (w : World) (hf : isDec f = true) (hw : Wd T hi lo) :
    Calls Tryd.prog 108 #[.agg #[], fF f, wV hi lo] w (PayP (payX f 1 T).1 (payX f 1 T).2 w) := by
  obtain ⟨n1, n2, n3, n4, n5, n6, n7, n8, n9, n10, n11⟩ := dec_nums hf
  have h := tpay_any (P := dP f) (L := dL f) (H := dH f) (W := (wnN f : Nat)) w hw n5
  exact h
theorem pay_2 {f hi lo : Int} {T : Nat} (w : World) (hf : isDec f = true) (hw : Wd T hi lo) :
    Calls Tryd.prog 113 #[.agg #[], fF f, wV hi lo] w (PayP (payX f 2 T).1 (payX f 2 T).2 w) := by
  obtain ⟨n1, n2, n3, n4, n5, n6, n7, n8, n9, n10, n11⟩ := dec_nums hf
  obtain ⟨p1, p2⟩ := p_wrap hf
  have hT : T < 2 ^ 240 := Nat.lt_trans hw.lt (show 2 ^ 128 < 2 ^ 240 from Nat.pow_lt_pow_right (by decide) (by decide))
  have HNu := Lib.hid fun w' => dnumber_any w' hw
  have HBe : Hid (∀ A n c w', Kd.C (Kd.int .u32) w' A n (ofN T) → n ≤ c → Calls Tryd.prog 27 #[.slice A n c, .int .i64 (pN f : Nat)] w' fun r w'' => r = .returned (.bool (decide (T < 10 ^ pN f))) ∧ Below w'.heap.size w' w'') := Lib.hid fun A n c w' g1 g2 => by
    have := dbelow_any (e := pN f) w' g1 (lim_ofN _) g2 (by omega) n6
    rwa [val_ofN, ok_240 hT, Bool.true_and] at this
  unfold payX
  rw [if_neg (by decide)]
  by_cases h : T < 10 ^ pN f
  · rw [if_pos h]
    rw [decide_eq_true h] at HBe
    exact ppay_t w p1 p2 HNu HBe
  · rw [if_neg h]
    rw [decide_eq_false h] at HBe
    exact ppay_f w p1 p2 HNu HBe
/-! Numbers. -/
theorem num_1 {f hi lo : Int} {G T : Nat} (w : World) (hf : isDec f = true) (hw : Wd T hi lo) (hG : G < 2 ^ (wnN f + 5)) :
    Calls Tryd.prog 107 #[.agg #[], fF f, .int .u64 (G : Nat), wV hi lo] w (NumP (numX f 1 G T).1 (dL f + ((numX f 1 G T).2.1 : Nat)) (numX f 1 G T).2.2 w) := by
  obtain ⟨n1, n2, n3, n4, n5, n6, n7, n8, n9, n10, n11⟩ := dec_nums hf
  have := tnum_any (H := dH f) w hw n5 n4 hG ⟨n6, n7⟩ n3 ⟨n8, n9⟩
  rw [← tn_cast] at this
  exact this
theorem num_2 {f hi lo : Int} {G T : Nat} (w : World) (hf : isDec f = true) (hw : Wd T hi lo) (hT : T < 2 ^ tnN f) (hG : G < 30 * 2 ^ wnN f) :
    Calls Tryd.prog 112 #[.agg #[], fF f, .int .u64 (G : Nat), wV hi lo] w (NumP (numX f 2 G T).1 (dL f + ((numX f 2 G T).2.1 : Nat)) (numX f 2 G T).2.2 w) := by
  obtain ⟨n1, n2, n3, n4, n5, n6, n7, n8, n9, n10, n11⟩ := dec_nums hf
  obtain ⟨s1, s2, s3⟩ := w_small hf
  obtain ⟨-, d2, d3⟩ := dec_gF2 hG
  have hp := Nat.two_pow_pos (wnN f)
  have h110 : 2 ^ tnN f ≤ 2 ^ 110 := Nat.pow_le_pow_right (by decide) s3
  have hC : decN2 G (wnN f) * 2 ^ tnN f + T < 2 ^ 128 := by
    have h1 : decN2 G (wnN f) * 2 ^ tnN f ≤ 9 * 2 ^ 110 := Nat.mul_le_mul d3 h110
    have h2 : 9 * 2 ^ 110 + 2 ^ 110 < 2 ^ 128 := by decide +kernel
    omega
  have hM : decN2 G (wnN f) * 2 ^ tnN f < W128 := Nat.lt_of_le_of_lt (Nat.le_add_right _ T) hC
  have hC2 : decN2 G (wnN f) * 2 ^ tnN f + T < 2 ^ 240 := Nat.lt_trans hC (Nat.pow_lt_pow_right (by decide) (by decide))
  have HLf : Hid (∀ w', Calls Tryd.prog 22 #[wV 0 (decN2 G (wnN f) : Nat), .int .i64 (tnN f : Nat)] w' (GivesW (decN2 G (wnN f) * 2 ^ tnN f) w')) := Lib.hid fun w' => by
    have := wleft_any (tnN f) w' (show Wd (decN2 G (wnN f)) 0 (decN2 G (wnN f) : Nat) from ⟨by omega, by omega, by omega, by omega, by omega⟩) (by omega)
    rwa [Nat.mod_eq_of_lt hM] at this
  have HJ : Hid (∀ h1 l1 w', Hid (Wd (decN2 G (wnN f) * 2 ^ tnN f) h1 l1) → Calls Tryd.prog 21 #[wV h1 l1, wV hi lo] w' (GivesW (decN2 G (wnN f) * 2 ^ tnN f + T) w')) := Lib.hid fun h1 l1 w' g => wjoin_any (k := tnN f) w' g.out hw (Nat.mul_mod_left _ _) hT
  have HNu := Lib.hid fun h1 l1 w' (g : Hid (Wd (decN2 G (wnN f) * 2 ^ tnN f + T) h1 l1)) => dnumber_any w' g.out
  have HBe : Hid (∀ A n c w', Kd.C (Kd.int .u32) w' A n (ofN (decN2 G (wnN f) * 2 ^ tnN f + T)) → n ≤ c → Calls Tryd.prog 27 #[.slice A n c, .int .i64 (dP f)] w' fun r w'' => r = .returned (.bool (decide (decN2 G (wnN f) * 2 ^ tnN f + T < 10 ^ (pN f + 1)))) ∧ Below w'.heap.size w' w'') := Lib.hid fun A n c w' g1 g2 => by
    have := dbelow_any (e := pN f + 1) w' g1 (lim_ofN _) g2 (by omega) (by omega)
    rw [val_ofN, ok_240 hC2, Bool.true_and] at this
    rw [n3]; exact this
  have hE : decE2 G (wnN f) ≤ 100000 := by omega
  have hGs : G < 18446744073709551616 := by omega
  unfold numX
  rw [if_neg (by decide)]
  have fin : ∀ bb : Bool, bb = decide (decN2 G (wnN f) * 2 ^ tnN f + T < 10 ^ (pN f + 1)) → (if decN2 G (wnN f) * 2 ^ tnN f + T < 10 ^ (pN f + 1) then (decN2 G (wnN f) * 2 ^ tnN f + T, decE2 G (wnN f), true) else (0, decE2 G (wnN f), false)) = (if bb then decN2 G (wnN f) * 2 ^ tnN f + T else 0, decE2 G (wnN f), bb) := by
    intro bb hb
    rw [hb]
    split
    · rename_i h; rw [decide_eq_true h]; rfl
    · rename_i h; rw [decide_eq_false h]; rfl
  rw [fin _ rfl]
  generalize decide (decN2 G (wnN f) * 2 ^ tnN f + T < 10 ^ (pN f + 1)) = bb at HBe
  clear fin
  by_cases h3 : G / 2 ^ (wnN f + 3) = 3
  · have t3 : ((G : Int) / 2 ^ (wnN f + 3) == 3) = true := by rw [cast_div, h3]; rfl
    have e1 : (G : Int) / 2 ^ (wnN f + 3) = 3 := by rw [cast_div, h3]; rfl
    have f2 : bits .and .u64 (G : Int) 1 = ((G % 2 : Nat) : Int) := u64_mask 1 (by decide) hGs
    have hN : decN2 G (wnN f) = 8 + G % 2 := by unfold decN2; rw [if_pos h3]
    have hE2 : decE2 G (wnN f) = G / 2 % 2 ^ (wnN f + 2) := by unfold decE2; rw [if_pos h3]
    have f3 : bits .or .u64 8 ((G % 2 : Nat) : Int) = (decN2 G (wnN f) : Nat) := by
      rw [hN]; exact or_dis (a := 8) (k := 3) (by omega) (by omega) (by decide) (by omega)
    have hpc : (((2 ^ (wnN f + 2) : Nat) : Int)) = (2 : Int) ^ (wnN f + 2) := by simp
    have hp4 : 2 ^ (wnN f + 2) = 4 * 2 ^ wnN f := p2 _
    have f7 : IntKind.u64.wrap (2 ^ ((wnN f : Int) + 2).toNat) = (2 : Int) ^ (wnN f + 2) := by
      rw [show ((wnN f : Int) + 2).toNat = wnN f + 2 by omega, ← hpc, IntKind.wrap_u64]; omega
    have f8 : IntKind.u64.wrap ((2 : Int) ^ (wnN f + 2) - 1) = ((2 ^ (wnN f + 2) - 1 : Nat) : Int) := by
      rw [← hpc, IntKind.wrap_u64]; omega
    have f9 : bits .and .u64 ((G : Int) / 2) ((2 ^ (wnN f + 2) - 1 : Nat) : Int) = (decE2 G (wnN f) : Nat) := by
      have h1 : ((2 ^ (wnN f + 2) - 1 : Nat) : Int) = (2 : Int) ^ (wnN f + 2) - 1 := by rw [← hpc]; omega
      rw [h1, show ((G : Int) / 2) = ((G / 2 : Nat) : Int) by omega, hE2]
      exact u64_mask (wnN f + 2) (by omega) (by omega)
    cases bb with
    | true => exact pnum_bt w n4 s3 hE ⟨n8, n9⟩ t3 e1 f2 f3 f7 f8 f9 HLf HJ HNu HBe
    | false => exact pnum_bf w n4 s3 hE ⟨n8, n9⟩ t3 e1 f2 f3 f7 f8 f9 HLf HJ HNu HBe
  · have t3 : ((G : Int) / 2 ^ (wnN f + 3) == 3) = false := beq_eq_false_iff_ne.mpr (by rw [cast_div]; exact fun h => h3 (by exact_mod_cast h))
    have hN : decN2 G (wnN f) = G % 8 := by unfold decN2; rw [if_neg h3]
    have hE2 : decE2 G (wnN f) = G / 8 := by unfold decE2; rw [if_neg h3]
    have f2 : bits .and .u64 (G : Int) 7 = (decN2 G (wnN f) : Nat) := by rw [hN]; exact u64_mask 3 (by decide) hGs
    have f3 : (G : Int) / 8 = (decE2 G (wnN f) : Nat) := by rw [hE2]; omega
    cases bb with
    | true => exact pnum_at (b := 0) w n4 s3 hE ⟨n8, n9⟩ t3 f2 f3 HLf HJ HNu HBe
    | false => exact pnum_af (b := 0) w n4 s3 hE ⟨n8, n9⟩ t3 f2 f3 HLf HJ HNu HBe
/-! Finite data. -/
theorem exp_wraps {ex L : Int} {E : Nat} (h : ex - L = (E : Int)) (hE : E < 100000) : IntKind.u64.wrap (IntKind.i64.wrap (ex - L)) = (E : Nat) ∧ IntKind.u64.wrap (wrap64 (ex - L)) = (E : Nat) ∧ IntKind.u64.wrap (ex - L) = (E : Nat) ∧ IntKind.i64.wrap (ex - L) = ex - L ∧ wrap64 (ex - L) = ex - L := by
  have e1 : IntKind.i64.wrap (ex - L) = ex - L := by rw [IntKind.wrap_i64]; omega
  have e2 : wrap64 (ex - L) = ex - L := w64e (by omega) (by omega)
  have e3 : IntKind.u64.wrap (ex - L) = (E : Nat) := by rw [IntKind.wrap_u64]; omega
  exact ⟨by rw [e1]; exact e3, by rw [e2]; exact e3, e3, e1, e2⟩
theorem fin_1 {f ex : Int} {C nl c : Nat} {A : Option Addr} (w : World) (hf : isDec f = true) (hA : Kd.C (Kd.int .u32) w A nl (ofN C)) (hc : nl ≤ c) (hC : C < 10 ^ (pN f + 1)) (h1 : dL f ≤ ex) (h2 : ex ≤ dH f) :
    Calls Tryd.prog 106 #[.agg #[], fF f, .slice A nl c, .int .i64 ex] w (FinP (gEn f 1 1 C ex) (tEn f 1 1 C) w) := by
  obtain ⟨n1, n2, n3, n4, n5, n6, n7, n8, n9, n10, n11⟩ := dec_nums hf
  obtain ⟨s1, s2, s3⟩ := w_small hf
  obtain ⟨p1, p2⟩ := p_wrap hf
  obtain ⟨m1, m2, m3, m4, m5, m6⟩ := dec_more hf
  obtain ⟨E, hE⟩ : ∃ E : Nat, ex - dL f = (E : Int) := ⟨(ex - dL f).toNat, by omega⟩
  have hE3 : E < 3 * 2 ^ wnN f := by omega
  have hw0 := Nat.two_pow_pos (wnN f)
  obtain ⟨x1, x2, x3, x4, x5⟩ := exp_wraps hE (by omega)
  have hc1 := c_small hf
  have hC240 : C < 2 ^ 240 := Nat.lt_trans hC (Nat.lt_trans hc1 (Nat.pow_lt_pow_right (by decide) (by decide)))
  have hY : 10 ^ pN f < 2 ^ 240 := Nat.lt_of_le_of_lt (Nat.pow_le_pow_right (by decide) (Nat.le_succ _)) (Nat.lt_trans hc1 (Nat.pow_lt_pow_right (by decide) (by decide)))
  have hY0 : 10 ^ pN f ≠ 0 := Nat.pos_iff_ne_zero.1 (Nat.pow_pos (by decide))
  have hd : C / 10 ^ pN f ≤ 9 := by
    have : C / 10 ^ pN f < 10 := Nat.div_lt_of_lt_mul (by rw [← Nat.pow_succ]; exact hC)
    omega
  have hR : C % 10 ^ pN f < 2 ^ 128 := Nat.lt_of_le_of_lt (Nat.mod_le _ _) (Nat.lt_trans hC (Nat.lt_trans hc1 (Nat.pow_lt_pow_right (by decide) (by decide))))
  have HPw := Lib.hid fun w' => dpower_any (e := pN f) w' (by omega) n6
  have HDi : Hid (∀ A' n' c' w', Kd.C (Kd.int .u32) w' A nl (ofN C) → Kd.C (Kd.int .u32) w' A' n' (ofN (10 ^ pN f)) → n' ≤ c' → Calls Tryd.prog 38 #[.slice A nl c, .slice A' n' c'] w' (NumErr2 (ofN (C / 10 ^ pN f)) (ofN (C % 10 ^ pN f)) 0 w')) := Lib.hid fun A' n' c' w' g1 g2 g3 => n_div w' g1 hc g2 g3 hC240 hY hY0
  have HTo : Hid (∀ A n' c w', Kd.C (Kd.int .u32) w' A n' (ofN (C / 10 ^ pN f)) → n' ≤ c → Calls Tryd.prog 110 #[.slice A n' c] w' fun e w'' => e = .returned (.tuple #[.int .u64 (C / 10 ^ pN f : Nat), .int .i64 0]) ∧ w' = w'') := Lib.hid fun A n' c w' g1 g2 => n_uint w' g1 g2 (by omega)
  have HTr : Hid (∀ A n' c w', Kd.C (Kd.int .u32) w' A n' (ofN (C % 10 ^ pN f)) → n' ≤ c → Calls Tryd.prog 109 #[.agg #[], fV (dP f) (dL f) (dH f) (wnN f : Nat) (10 * (kN f : Int)), .slice A n' c] w' (GivesW (trailV (kN f) (C % 10 ^ pN f)) w')) := Lib.hid fun A n' c w' g1 g2 => by
    have := ttrail_any (P := dP f) (L := dL f) (H := dH f) (W := (wnN f : Nat)) w' g1 g2 hR n5
    rwa [Int.natCast_mul] at this
  have hpc : (((2 ^ wnN f : Nat) : Int)) = (2 : Int) ^ wnN f := by simp
  have e1 : (E : Int) / 2 ^ wnN f = ((E / 2 ^ wnN f : Nat) : Int) := cast_div _ _
  have e7 : IntKind.u64.wrap (2 ^ wnN f) = (2 : Int) ^ wnN f := by rw [← hpc, IntKind.wrap_u64]; omega
  have e8 : IntKind.u64.wrap ((2 : Int) ^ wnN f - 1) = ((2 ^ wnN f - 1 : Nat) : Int) := by rw [← hpc, IntKind.wrap_u64]; omega
  have e9 : bits .and .u64 (E : Int) ((2 ^ wnN f - 1 : Nat) : Int) = ((E % 2 ^ wnN f : Nat) : Int) := by
    have h1 : ((2 ^ wnN f - 1 : Nat) : Int) = (2 : Int) ^ wnN f - 1 := by rw [← hpc]; omega
    rw [h1]; exact u64_mask (wnN f) (by omega) (by omega)
  have hT : tEn f 1 1 C = trailV (kN f) (C % 10 ^ pN f) := by unfold tEn; rfl
  have hG : gEn f 1 1 C ex = gF1 (wnN f) (C / 10 ^ pN f) E := by
    unfold gEn
    simp only [Int.reduceEq, reduceIte]
    rw [hE]; rfl
  rw [hT, hG, show fF f = fV (dP f) (dL f) (dH f) (wnN f : Nat) (10 * (kN f : Int)) by rw [← tn_cast]]
  unfold gF1
  have hu : E / 2 ^ wnN f ≤ 2 := by
    have : E / 2 ^ wnN f < 3 := Nat.div_lt_of_lt_mul (by rw [Nat.mul_comm]; exact hE3)
    omega
  have hl : E % 2 ^ wnN f < 2 ^ wnN f := Nat.mod_lt _ hw0
  have q3 := p3 (wnN f)
  have q1 := Go.Proofs.YtiplbpfdkcddlaaDoor.p1 (wnN f)
  generalize C / 10 ^ pN f = d at *
  generalize E / 2 ^ wnN f = u at *
  generalize E % 2 ^ wnN f = lw at *
  have mu3 : u * 2 ^ (wnN f + 3) ≤ 2 * 2 ^ (wnN f + 3) := Nat.mul_le_mul_right _ hu
  have mu1 : u * 2 ^ (wnN f + 1) ≤ 2 * 2 ^ (wnN f + 1) := Nat.mul_le_mul_right _ hu
  have wu : ∀ {x : Nat}, x < 18446744073709551616 → IntKind.u64.wrap (x : Int) = (x : Int) := fun h => by rw [IntKind.wrap_u64]; omega
  by_cases h8 : d < 8
  · have md : d * 2 ^ wnN f ≤ 7 * 2 ^ wnN f := Nat.mul_le_mul_right _ (by omega)
    refine tfin_a (b := 0) w hA hc p1 p2 n4 HPw HDi HTo HTr x1 x2 x3 x4 x5 e1 e7 e8 e9 (decide_eq_true (by omega)) ?_
    rw [if_pos h8, show ((wnN f : Int) + 3).toNat = wnN f + 3 by omega, cast_mul_pow, cast_mul_pow, wu (by omega), wu (by omega), or_dis (k := wnN f + 3) (by omega) (by omega) (Nat.mul_mod_left _ _) (by omega), or_dis (k := wnN f) (by omega) (by omega) ?_ hl]
    rw [q3, ← Nat.mul_assoc, ← Nat.add_mul]; exact Nat.mul_mod_left _ _
  · have hb : d % 2 ≤ 1 := by omega
    have mb : d % 2 * 2 ^ wnN f ≤ 1 * 2 ^ wnN f := Nat.mul_le_mul_right _ hb
    refine tfin_b (b := d % 2) w hA hc p1 p2 n4 HPw HDi HTo HTr x1 x2 x3 x4 x5 e1 e7 e8 e9 (decide_eq_false (by omega)) (u64_mask 1 (by decide) (by omega)) ?_
    have c3 : (3 : Int) * 2 ^ (wnN f + 3) = ((3 * 2 ^ (wnN f + 3) : Nat) : Int) := cast_mul_pow 3 _
    rw [if_neg h8, show ((wnN f : Int) + 3).toNat = wnN f + 3 by omega, show ((wnN f : Int) + 1).toNat = wnN f + 1 by omega, c3, cast_mul_pow, cast_mul_pow, wu (by omega), wu (by omega), wu (by omega), or_dis (k := wnN f + 3) (by omega) (by omega) (Nat.mul_mod_left _ _) (by omega), or_dis (k := wnN f + 1) (by omega) (by omega) ?_ (by omega), or_dis (k := wnN f) (by omega) (by omega) ?_ hl]
    · rw [q3, q1, ← Nat.mul_assoc, ← Nat.mul_assoc, ← Nat.add_mul, ← Nat.add_mul]; exact Nat.mul_mod_left _ _
    · rw [q3, q1, show 3 * (8 * 2 ^ wnN f) + u * (2 * 2 ^ wnN f) = (12 + u) * (2 * 2 ^ wnN f) by rw [Nat.add_mul]; omega]; exact Nat.mul_mod_left _ _
theorem fin_2 {f ex : Int} {C nl c : Nat} {A : Option Addr} (w : World) (hf : isDec f = true) (hA : Kd.C (Kd.int .u32) w A nl (ofN C)) (hc : nl ≤ c) (hC : C < 10 ^ (pN f + 1)) (h1 : dL f ≤ ex) (h2 : ex ≤ dH f) :
    Calls Tryd.prog 111 #[.agg #[], fF f, .slice A nl c, .int .i64 ex] w (FinP (gEn f 2 1 C ex) (tEn f 2 1 C) w) := by
  obtain ⟨n1, n2, n3, n4, n5, n6, n7, n8, n9, n10, n11⟩ := dec_nums hf
  obtain ⟨s1, s2, s3⟩ := w_small hf
  obtain ⟨m1, m2, m3, m4, m5, m6⟩ := dec_more hf
  obtain ⟨E, hE⟩ : ∃ E : Nat, ex - dL f = (E : Int) := ⟨(ex - dL f).toNat, by omega⟩
  have hE3 : E < 3 * 2 ^ wnN f := by omega
  have hw0 := Nat.two_pow_pos (wnN f)
  obtain ⟨x1, x2, x3, x4, x5⟩ := exp_wraps hE (by omega)
  have hc1 := c_small hf
  have hC128 : C < 2 ^ 128 := Nat.lt_trans hC (Nat.lt_trans hc1 (Nat.pow_lt_pow_right (by decide) (by decide)))
  have hd : C / 2 ^ tnN f ≤ 9 := by
    have : C / 2 ^ tnN f < 10 := Nat.div_lt_of_lt_mul (by omega)
    omega
  have HWo : Hid (∀ w', Kd.C (Kd.int .u32) w' A nl (ofN C) → Calls Tryd.prog 115 #[.slice A nl c] w' (GivesW C w')) := Lib.hid fun w' g => dwordOf_any w' g hc hC128
  have HRi : Hid (∀ hi lo w', Hid (Wd C hi lo) → Calls Tryd.prog 25 #[wV hi lo, .int .i64 (tnN f : Nat)] w' (GivesW (C / 2 ^ tnN f) w')) := Lib.hid fun hi lo w' g => wright_any (tnN f) w' g.out (by omega)
  have HLo : Hid (∀ hi lo w', Hid (Wd C hi lo) → Calls Tryd.prog 23 #[wV hi lo, .int .i64 (tnN f : Nat)] w' (GivesW (C % 2 ^ tnN f) w')) := Lib.hid fun hi lo w' g => wlow_any (tnN f) w' g.out (by omega)
  have hT : tEn f 2 1 C = C % 2 ^ tnN f := by unfold tEn; rfl
  have hG : gEn f 2 1 C ex = gF2 (wnN f) (C / 2 ^ tnN f) E := by
    unfold gEn
    simp only [Int.reduceEq, reduceIte]
    rw [hE]; rfl
  rw [hT, hG]
  unfold gF2
  have q3 := p3 (wnN f)
  generalize C / 2 ^ tnN f = d at *
  have wu : ∀ {x : Nat}, x < 18446744073709551616 → IntKind.u64.wrap (x : Int) = (x : Int) := fun h => by rw [IntKind.wrap_u64]; omega
  have cE8 : (E : Int) * 8 = ((E * 8 : Nat) : Int) := by omega
  have cE2 : (E : Int) * 2 = ((E * 2 : Nat) : Int) := by omega
  by_cases h8 : d < 8
  · refine pfin_a w hA (by omega) s3 n4 HWo HRi HLo x1 x2 x3 x4 x5 (decide_eq_true (by omega)) ?_
    rw [if_pos h8, cE8, wu (by omega), or_dis (k := 3) (by omega) (by omega) (by omega) (by omega)]
  · refine pfin_b w hA (by omega) s3 n4 HWo HRi HLo x1 x2 x3 x4 x5 (decide_eq_false (by omega)) ?_
    have c3 : (3 : Int) * 2 ^ (wnN f + 3) = ((3 * 2 ^ (wnN f + 3) : Nat) : Int) := cast_mul_pow 3 _
    rw [if_neg h8, show ((wnN f : Int) + 3).toNat = wnN f + 3 by omega, c3, cE2, wu (by omega), wu (by omega), (show bits .and .u64 (d : Int) 1 = ((d % 2 : Nat) : Int) from u64_mask 1 (by decide) (by omega)), or_dis (k := wnN f + 3) (by omega) (by omega) (Nat.mul_mod_left _ _) (by omega), or_dis (k := 1) (by omega) (by omega) (by rw [q3]; omega) (by omega)]
theorem trl_1 {f : Int} {C nl c : Nat} {A : Option Addr} (w : World) (hf : isDec f = true) (hA : Kd.C (Kd.int .u32) w A nl (ofN C)) (hc : nl ≤ c) (hC : C < 2 ^ 128) :
    Calls Tryd.prog 109 #[.agg #[], fF f, .slice A nl c] w (GivesW (trX f 1 C) w) := by
  obtain ⟨n1, n2, n3, n4, n5, n6, n7, n8, n9, n10, n11⟩ := dec_nums hf
  exact ttrail_any (P := dP f) (L := dL f) (H := dH f) (W := (wnN f : Nat)) w hA hc hC n5
theorem trl_2 {f : Int} {C nl c : Nat} {A : Option Addr} (w : World) (hA : Kd.C (Kd.int .u32) w A nl (ofN C)) (hc : nl ≤ c) (hC : C < 2 ^ 128) :
    Calls Tryd.prog 114 #[.agg #[], fF f, .slice A nl c] w (GivesW (trX f 2 C) w) := ptrail_any w hA hc hC
end Go.Proofs.YtiplbpfdkcddlaaDoor

set_option linter.unusedSimpArgs false
set_option linter.unusedVariables false
set_option linter.unnecessarySimpa false
namespace Go.Proofs.YtiplbpfdkcddlaaDoor
open Go.RowKit Go.Proofs.YtiplbpfdkcddlaaDoorW.PrintWords Go.Proofs.YtiplbpfdkcddlaaDoorW.PrintLast Go.Proofs.YtiplbpfdkcddlaaDoorW.PrintMore Go.Proofs.YtiplbpfdkcddlaaDoor.NL
set_option maxRecDepth 100000
set_option exponentiation.threshold 33000

theorem meth_fin1 : ∀ w : World, (method 254 83 (.agg #[]) "soroban/decimal.finite").run Tryd.prog w = .ok (106, .agg #[]) w := fun _ => by kernel_rfl
theorem meth_fin2 : ∀ w : World, (method 254 84 (.agg #[]) "soroban/decimal.finite").run Tryd.prog w = .ok (111, .agg #[]) w := fun _ => by kernel_rfl
theorem meth_tr1 : ∀ w : World, (method 254 83 (.agg #[]) "soroban/decimal.trailing").run Tryd.prog w = .ok (109, .agg #[]) w := fun _ => by kernel_rfl
theorem meth_tr2 : ∀ w : World, (method 254 84 (.agg #[]) "soroban/decimal.trailing").run Tryd.prog w = .ok (114, .agg #[]) w := fun _ => by kernel_rfl
theorem nil_fin1 : ∀ w : World, (nilAhead 254 83 (.agg #[]) "soroban/decimal.finite").run Tryd.prog w = .ok (some false) w := fun _ => by kernel_rfl
theorem nil_fin2 : ∀ w : World, (nilAhead 254 84 (.agg #[]) "soroban/decimal.finite").run Tryd.prog w = .ok (some false) w := fun _ => by kernel_rfl
theorem nil_tr1 : ∀ w : World, (nilAhead 254 83 (.agg #[]) "soroban/decimal.trailing").run Tryd.prog w = .ok (some false) w := fun _ => by kernel_rfl
theorem nil_tr2 : ∀ w : World, (nilAhead 254 84 (.agg #[]) "soroban/decimal.trailing").run Tryd.prog w = .ok (some false) w := fun _ => by kernel_rfl
theorem okD {f cl ex : Int} {l : List Int} (h : decOk f cl l ex = true) (la : Lim l) : isDec f = true ∧ l = ofN (val l) ∧ decV f cl (val l) ex := by
  unfold decOk at h
  simp only [Bool.and_eq_true] at h
  obtain ⟨h1, h2, h3⟩ := h
  refine ⟨h1, (ofN_val la (okN_iff.1 h2).2).symm, ?_⟩
  unfold decV
  split at h3
  · rename_i hc
    simp only [Bool.and_eq_true, decide_eq_true_eq] at h3
    exact .inl ⟨hc, h3.1, h3.2.1, h3.2.2⟩
  · split at h3
    · rename_i hc
      simp only [Bool.and_eq_true, decide_eq_true_eq] at h3
      exact .inr (.inl ⟨hc, by rw [List.length_eq_zero_iff.1 h3.1]; rfl, h3.2⟩)
    · split at h3
      · rename_i hc
        simp only [Bool.and_eq_true, decide_eq_true_eq] at h3
        exact .inr (.inr ⟨hc, h3.1, h3.2⟩)
      · cases h3
theorem okD_iff {f cl ex : Int} {C : Nat} (hf : isDec f = true) (hv : decV f cl C ex) : decOk f cl (ofN C) ex = true := by
  unfold decOk
  have hc := c_small hf
  have hC : C < 2 ^ 240 := by
    have hp : 10 ^ pN f ≤ 10 ^ (pN f + 1) := Nat.pow_le_pow_right (by decide) (Nat.le_succ _)
    have h2 : (2 : Nat) ^ 120 < 2 ^ 240 := Nat.pow_lt_pow_right (by decide) (by decide)
    rcases hv with ⟨-, h, -⟩ | ⟨-, h, -⟩ | ⟨-, h, -⟩ <;> omega
  rw [hf, ok_240 hC, val_ofN, Bool.true_and, Bool.true_and]
  rcases hv with ⟨rfl, h, h1, h2⟩ | ⟨rfl, rfl, h2⟩ | ⟨rfl | rfl, h, h2⟩
  · rw [if_pos rfl, decide_eq_true h, decide_eq_true h1, decide_eq_true h2]; rfl
  · rw [if_neg (by decide), if_pos rfl, ofN_zero, h2]; rfl
  · rw [if_neg (by decide), if_neg (by decide), if_pos (by decide), decide_eq_true h, h2]; rfl
  · rw [if_neg (by decide), if_neg (by decide), if_pos (by decide), decide_eq_true h, h2]; rfl
theorem v_small {f cl ex : Int} {C : Nat} (hf : isDec f = true) (hv : decV f cl C ex) : C < 2 ^ 128 := by
  have hc := c_small hf
  have hp : 10 ^ pN f ≤ 10 ^ (pN f + 1) := Nat.pow_le_pow_right (by decide) (Nat.le_succ _)
  have h2 : (2 : Nat) ^ 120 < 2 ^ 128 := Nat.pow_lt_pow_right (by decide) (by decide)
  rcases hv with ⟨-, h, -⟩ | ⟨-, h, -⟩ | ⟨-, h, -⟩ <;> omega
/-- Encode, given what the encoding's functions return. -/
theorem denc_core {f cl e ex : Int} {ng : Bool} {A : Option Addr} {n c C gfin gtr : Nat} {te : TypeId} (w : World) (hT : Tab w) (hf : isDec f = true) (hv : decV f cl C ex) (hA : Kd.C (Kd.int .u32) w A n (ofN C)) (hc : n ≤ c)
    (HEn : ∀ w, Calls Tryd.prog 18 #[.int .i64 e] w fun r w' => r = .returned (.iface te (.agg #[])) ∧ Below w.heap.size w w')
    (hm : ∀ w', (method 254 te (.agg #[]) "soroban/decimal.finite").run Tryd.prog w' = .ok (gfin, .agg #[]) w') (hna : ∀ w', (nilAhead 254 te (.agg #[]) "soroban/decimal.finite").run Tryd.prog w' = .ok (some false) w') (ef : ∀ args w', (callFunc gfin args).run Tryd.prog w' = .ok (.enter gfin args) w')
    (hmt : ∀ w', (method 254 te (.agg #[]) "soroban/decimal.trailing").run Tryd.prog w' = .ok (gtr, .agg #[]) w') (hnat : ∀ w', (nilAhead 254 te (.agg #[]) "soroban/decimal.trailing").run Tryd.prog w' = .ok (some false) w') (eft : ∀ args w', (callFunc gtr args).run Tryd.prog w' = .ok (.enter gtr args) w')
    (HM : ∀ (A' : Option Addr) (n' c' : Nat) (w' : World), Kd.C (Kd.int .u32) w' A' n' (ofN C) → n' ≤ c' → C < 10 ^ (pN f + 1) → dL f ≤ ex → ex ≤ dH f → Calls Tryd.prog gfin #[.agg #[], fF f, .slice A' n' c', .int .i64 ex] w' (FinP (gEn f e 1 C ex) (tEn f e 1 C) w'))
    (HTr : ∀ (A' : Option Addr) (n' c' : Nat) (w' : World), Kd.C (Kd.int .u32) w' A' n' (ofN C) → n' ≤ c' → C < 2 ^ 128 → Calls Tryd.prog gtr #[.agg #[], fF f, .slice A' n' c'] w' (GivesW (trX f e C) w')) :
    Calls Tryd.prog 9 #[dV f cl ng A n c ex, .int .i64 e] w (EncP (packX f e cl ng C ex) w) := by
  obtain ⟨n1, n2, n3, n4, n5, n6, n7, n8, n9, n10, n11⟩ := dec_nums hf
  obtain ⟨s1, s2, s3⟩ := w_small hf
  obtain ⟨m1, m2, m3, m4, m5, m6⟩ := dec_more hf
  obtain ⟨l1, l2⟩ := en_lt (e := e) hf hv
  have hC128 := v_small hf hv
  have hw0 := Nat.two_pow_pos (wnN f)
  have hB : 2 * 2 ^ (wnN f - 1) = 2 ^ wnN f := by rw [Nat.mul_comm, ← Nat.pow_succ, Nat.succ_eq_add_one, m6]
  have hn : n = (ofN C).length := hA.1.symm
  have hn2 : n ≤ 35184372088832 := by rw [hn]; exact Nat.le_trans (len_240 (Nat.lt_trans hC128 (Nat.pow_lt_pow_right (by decide) (by decide)))) (by decide)
  have h5 := p5 (wnN f)
  have hcl : cl = 1 ∨ cl = 2 ∨ cl = 3 ∨ cl = 4 := by
    rcases hv with ⟨h, -⟩ | ⟨h, -⟩ | ⟨h | h, -⟩ <;> omega
  have HCk : Hid (∀ w', Below w.heap.size w w' → Calls Tryd.prog 13 #[dV f cl ng A n c ex] w' fun r w'' => r = .returned (.int .i64 0) ∧ Below w'.heap.size w' w'') := Lib.hid fun w' hb => by
    have := dcheck_any (f := f) (cl := cl) (ng := ng) (ex := ex) w' (hT.below hb) (Kd.C_below hA hb) (lim_ofN _) hc
    rwa [okD_iff hf hv, if_pos rfl] at this
  have HFo : Hid (∀ w', Tab w' → Calls Tryd.prog 19 #[.int .i64 f] w' fun r w'' => r = .returned (.tuple #[fF f, .bool true]) ∧ Below w'.heap.size w' w'') := Lib.hid fun w' h => by
    have := formatOf_ok w' hf h
    rwa [n1, n2] at this
  have wu : ∀ {x : Nat}, x < 18446744073709551616 → IntKind.u64.wrap (x : Int) = (x : Int) := fun h => by rw [IntKind.wrap_u64]; omega
  have hG64 : gEn f e cl C ex < 18446744073709551616 := by omega
  have t110 : 2 ^ (tnN f) ≤ 2 ^ 110 := Nat.pow_le_pow_right (by decide) s3
  have e2 : 2 ^ (wnN f + 5) * 2 ^ tnN f = 2 ^ (tnN f + wnN f + 5) := by rw [← Nat.pow_add]; congr 1; omega
  have hG2 : gEn f e cl C ex * 2 ^ tnN f + 2 ^ tnN f ≤ 2 ^ (tnN f + wnN f + 5) := by
    rw [← e2, ← Nat.succ_mul]; exact Nat.mul_le_mul_right _ l2
  have hs127 : 2 ^ (tnN f + wnN f + 5) ≤ 2 ^ 127 := Nat.pow_le_pow_right (by decide) (by omega)
  have h127 : (2 : Nat) ^ 127 < W128 := by decide
  have HLf : Hid (∀ w', Calls Tryd.prog 22 #[wV 0 (gEn f e cl C ex : Nat), .int .i64 (tnN f : Nat)] w' (GivesW (gEn f e cl C ex * 2 ^ tnN f) w')) := Lib.hid fun w' => by
    have := wleft_any (tnN f) w' (show Wd (gEn f e cl C ex) 0 (gEn f e cl C ex : Nat) from ⟨by omega, by omega, by omega, by omega, by omega⟩) (by omega)
    rwa [Nat.mod_eq_of_lt (by omega)] at this
  have HJ : Hid (∀ thi tlo hi lo w', Hid (Wd (tEn f e cl C) thi tlo) → Hid (Wd (gEn f e cl C ex * 2 ^ tnN f) hi lo) → Calls Tryd.prog 21 #[wV thi tlo, wV hi lo] w' (GivesW (tEn f e cl C + gEn f e cl C ex * 2 ^ tnN f) w')) := Lib.hid fun thi tlo hi lo w' g1 g2 => wjoin_low w' g1.out g2.out l1 (Nat.mul_mod_left _ _)
  have HLs : Hid (∀ w', Calls Tryd.prog 22 #[wV 0 1, .int .i64 ((tnN f : Int) + wnN f + 5)] w' (GivesW (2 ^ (tnN f + wnN f + 5)) w')) := Lib.hid fun w' => by
    have := wleft_any (tnN f + wnN f + 5) w' (show Wd 1 0 1 from ⟨by decide, by decide, by decide, by decide, rfl⟩) (by omega)
    rw [Nat.one_mul, Nat.mod_eq_of_lt (by omega)] at this
    rwa [show ((tnN f + wnN f + 5 : Nat) : Int) = (tnN f : Int) + wnN f + 5 by omega] at this
  have HJ2 : Hid (∀ jhi jlo hi lo w', Hid (Wd (tEn f e cl C + gEn f e cl C ex * 2 ^ tnN f) jhi jlo) → Hid (Wd (2 ^ (tnN f + wnN f + 5)) hi lo) → Calls Tryd.prog 21 #[wV jhi jlo, wV hi lo] w' (GivesW (tEn f e cl C + gEn f e cl C ex * 2 ^ tnN f + 2 ^ (tnN f + wnN f + 5)) w')) := Lib.hid fun jhi jlo hi lo w' g1 g2 => wjoin_low (k := tnN f + wnN f + 5) w' g1.out g2.out (by omega) (Nat.mod_self _)
  have c30 : (30 : Int) * 2 ^ wnN f = ((30 * 2 ^ wnN f : Nat) : Int) := cast_mul_pow 30 _
  have c31 : (31 : Int) * 2 ^ wnN f = ((31 * 2 ^ wnN f : Nat) : Int) := cast_mul_pow 31 _
  have c63 : (63 : Int) * 2 ^ (wnN f - 1) = ((63 * 2 ^ (wnN f - 1) : Nat) : Int) := cast_mul_pow 63 _
  refine enc_all (te := te) (v := .agg #[]) (gfin := gfin) (gtr := gtr) (l := ofN C) (P := dP f) (L := dL f) (H := dH f) (wn := wnN f) (tn := tnN f) (G := gEn f e cl C ex) (T := tEn f e cl C) (G2 := gEn f e cl C ex * 2 ^ tnN f) (J := tEn f e cl C + gEn f e cl C ex * 2 ^ tnN f) (S := 2 ^ (tnN f + wnN f + 5)) (R := tEn f e cl C + gEn f e cl C ex * 2 ^ tnN f + 2 ^ (tnN f + wnN f + 5)) w hT (Lib.hid fun w' => HEn w') HCk HFo hcl
    (Lib.hid fun w' hb => clone_nat A n c (ofN C) w' (Kd.C_below hA hb) hn2) hm hna ef (Lib.hid ?hM) (Lib.hid ?h0) (Lib.hid ?h2) (Lib.hid ?h3) (Lib.hid ?h4) (decide_eq_false (by omega)) (by rw [IntKind.wrap_i64]; omega) hmt hnat eft (Lib.hid ?hT) (Lib.hid ?q0) (Lib.hid ?q1) n4 s3 s2 HLf HJ HLs HJ2
  case hM =>
    rintro rfl A' n' c' w' g1 g2
    rcases hv with ⟨-, h, h1, h2⟩ | ⟨h, -⟩ | ⟨h | h, -⟩
    · exact HM A' n' c' w' g1 g2 h h1 h2
    · omega
    · omega
    · omega
  case h0 => rintro rfl; rfl
  case h2 => rintro rfl; rw [c30, wu (by omega)]; rfl
  case h3 => rintro rfl; rw [c31, wu (by omega)]; rfl
  case h4 => rintro rfl; rw [c63, wu (by omega)]; rfl
  case hT =>
    intro h w' hb
    have : tEn f e cl C = trX f e C := by unfold tEn; rw [if_neg (by omega), if_pos h]
    rw [this]
    exact HTr A n c w' (Kd.C_below hA hb) hc hC128
  case q0 => rintro rfl; rfl
  case q1 => rintro rfl; rfl
theorem dencode_ok {f cl e ex : Int} {ng : Bool} {A : Option Addr} {n c : Nat} {l : List Int} (w : World) (hT : Tab w) (he : e = 1 ∨ e = 2) (hd : decOk f cl l ex = true) (hA : Kd.C (Kd.int .u32) w A n l) (la : Lim l) (hc : n ≤ c) :
    Calls Tryd.prog 9 #[dV f cl ng A n c ex, .int .i64 e] w (EncP (packX f e cl ng (val l) ex) w) := by
  obtain ⟨hf, hl, hv⟩ := okD hd la
  rw [hl] at hA
  rcases he with rfl | rfl
  · exact denc_core (gfin := 106) (gtr := 109) w hT hf hv hA hc enc_tens meth_fin1 nil_fin1 (enters_of Tryd.func106 (by kernel_rfl) rfl) meth_tr1 nil_tr1 (enters_of Tryd.func109 (by kernel_rfl) rfl) (fun A' n' c' w' g1 g2 g3 g4 g5 => fin_1 w' hf g1 g2 g3 g4 g5) (fun A' n' c' w' g1 g2 g3 => trl_1 w' hf g1 g2 g3)
  · exact denc_core (gfin := 111) (gtr := 114) w hT hf hv hA hc enc_plain meth_fin2 nil_fin2 (enters_of Tryd.func111 (by kernel_rfl) rfl) meth_tr2 nil_tr2 (enters_of Tryd.func114 (by kernel_rfl) rfl) (fun A' n' c' w' g1 g2 g3 g4 g5 => fin_2 w' hf g1 g2 g3 g4 g5) (fun A' n' c' w' g1 g2 g3 => trl_2 w' g1 g2 g3)
set_option maxHeartbeats 2000000 in
theorem denc_bad {f cl e ex : Int} {ng : Bool} {A : Option Addr} {n c : Nat} {v : Value} (w : World)
    (HEn : Hid (∀ w', Calls Tryd.prog 18 #[.int .i64 e] w' fun r w'' => r = .returned v ∧ Below w'.heap.size w' w''))
    (HCk : Hid (∀ w', Below w.heap.size w w' → Calls Tryd.prog 13 #[dV f cl ng A n c ex] w' fun r w'' => r = .returned (.int .i64 1) ∧ Below w'.heap.size w' w'')) :
    Calls Tryd.prog 9 #[dV f cl ng A n c ex, .int .i64 e] w fun r w' => r = .returned (.tuple #[wV 0 0, .int .i64 1]) ∧ Below w.heap.size w w' := by
  go_enter Tryd.func9, Tryd.ntmps9
  go_wp2_with (first | fail | (go_at_call 18; (with_reducible refine (HEn.out _).mono ?_); rintro r w1 ⟨rfl, b1⟩; obtain ⟨hc1, hf1⟩ := bcell b1; have hz1 := below_size b1; (try simp at hz1); have zz1_0 : w.heap.size < w1.heap.size := (by omega); have zz1_1 : w.heap.size + 1 < w1.heap.size := (by omega)) | (go_at_call 13; (with_reducible refine (HCk.out _ bel).mono ?_); rintro r w2 ⟨rfl, b2⟩; obtain ⟨hc2, hf2⟩ := bcell b2; have hz2 := below_size b2; (try simp at hz2); have zz2_0 : w.heap.size < w2.heap.size := (by omega); have zz2_1 : w.heap.size + 1 < w2.heap.size := (by omega)))
  all_goals exact bodyPost_ret (v := .tuple #[wV 0 0, .int .i64 1]) (by simp [results, Tryd.results9, go_sem, *]) rfl ⟨rfl, bel⟩
set_option maxHeartbeats 2000000 in
theorem denc_none {f cl e ex : Int} {ng : Bool} {A : Option Addr} {n c : Nat} (w : World)
    (HEn : Hid (∀ w', Calls Tryd.prog 18 #[.int .i64 e] w' fun r w'' => r = .returned .nilIface ∧ Below w'.heap.size w' w''))
    (HCk : Hid (∀ w', Below w.heap.size w w' → Calls Tryd.prog 13 #[dV f cl ng A n c ex] w' fun r w'' => r = .returned (.int .i64 0) ∧ Below w'.heap.size w' w'')) :
    Calls Tryd.prog 9 #[dV f cl ng A n c ex, .int .i64 e] w fun r w' => r = .returned (.tuple #[wV 0 0, .int .i64 1]) ∧ Below w.heap.size w w' := by
  go_enter Tryd.func9, Tryd.ntmps9
  go_wp2_with (first | fail | (go_at_call 18; (with_reducible refine (HEn.out _).mono ?_); rintro r w1 ⟨rfl, b1⟩; obtain ⟨hc1, hf1⟩ := bcell b1; have hz1 := below_size b1; (try simp at hz1); have zz1_0 : w.heap.size < w1.heap.size := (by omega); have zz1_1 : w.heap.size + 1 < w1.heap.size := (by omega)) | (go_at_call 13; (with_reducible refine (HCk.out _ bel).mono ?_); rintro r w2 ⟨rfl, b2⟩; obtain ⟨hc2, hf2⟩ := bcell b2; have hz2 := below_size b2; (try simp at hz2); have zz2_0 : w.heap.size < w2.heap.size := (by omega); have zz2_1 : w.heap.size + 1 < w2.heap.size := (by omega)))
  all_goals exact bodyPost_ret (v := .tuple #[wV 0 0, .int .i64 1]) (by simp [results, Tryd.results9, go_sem, *]) rfl ⟨rfl, bel⟩
/-- What Encode returns: bits, and an error. -/
def encR (f cl : Int) (ng : Bool) (l : List Int) (ex e : Int) : Nat × Int := if decOk f cl l ex = true ∧ (e = 1 ∨ e = 2) then (packX f e cl ng (val l) ex, 0) else (0, 1)
theorem dencode_any {f cl e ex : Int} {ng : Bool} {A : Option Addr} {n c : Nat} {l : List Int} (w : World) (hT : Tab w) (hA : Kd.C (Kd.int .u32) w A n l) (la : Lim l) (hc : n ≤ c) :
    Calls Tryd.prog 9 #[dV f cl ng A n c ex, .int .i64 e] w fun r w' => ∃ hi lo : Int, r = .returned (.tuple #[wV hi lo, .int .i64 (encR f cl ng l ex e).2]) ∧ Hid (Wd (encR f cl ng l ex e).1 hi lo) ∧ Below w.heap.size w w' := by
  have HCk := fun w' (hb : Below w.heap.size w w') => dcheck_any (f := f) (cl := cl) (ng := ng) (ex := ex) w' (hT.below hb) (Kd.C_below hA hb) la hc
  have z0 : Hid (Wd 0 0 0) := Lib.hid ⟨by decide, by decide, by decide, by decide, rfl⟩
  unfold encR
  by_cases h : decOk f cl l ex = true ∧ (e = 1 ∨ e = 2)
  · rw [if_pos h]
    exact dencode_ok w hT h.2 h.1 hA la hc
  · rw [if_neg h]
    by_cases hd : decOk f cl l ex = true
    · have he : e ≠ 1 ∧ e ≠ 2 := ⟨fun h1 => h ⟨hd, .inl h1⟩, fun h1 => h ⟨hd, .inr h1⟩⟩
      rw [hd, if_pos rfl] at HCk
      refine (denc_none (f := f) (cl := cl) (ng := ng) (ex := ex) w (Lib.hid fun w' => enc_none w' he.1 he.2) (Lib.hid HCk)).mono ?_
      rintro r w' ⟨rfl, hb⟩
      exact ⟨0, 0, rfl, z0, hb⟩
    · rw [if_neg hd] at HCk
      obtain ⟨v, HEn⟩ : ∃ v, ∀ w', Calls Tryd.prog 18 #[.int .i64 e] w' fun r w'' => r = .returned v ∧ Below w'.heap.size w' w'' := by
        by_cases h1 : e = 1
        · subst h1; exact ⟨_, enc_tens⟩
        · by_cases h2 : e = 2
          · subst h2; exact ⟨_, enc_plain⟩
          · exact ⟨_, fun w' => enc_none w' h1 h2⟩
      refine (denc_bad (f := f) (cl := cl) (ng := ng) (ex := ex) w (Lib.hid HEn) (Lib.hid HCk)).mono ?_
      rintro r w' ⟨rfl, hb⟩
      exact ⟨0, 0, rfl, z0, hb⟩
end Go.Proofs.YtiplbpfdkcddlaaDoor

set_option linter.unusedSimpArgs false
set_option linter.unusedVariables false
set_option linter.unnecessarySimpa false
namespace Go.Proofs.YtiplbpfdkcddlaaDoor
open Go.RowKit Go.Proofs.YtiplbpfdkcddlaaDoorW.PrintWords Go.Proofs.YtiplbpfdkcddlaaDoorW.PrintLast Go.Proofs.YtiplbpfdkcddlaaDoorW.PrintMore Go.Proofs.YtiplbpfdkcddlaaDoor.NL
set_option maxRecDepth 100000
set_option exponentiation.threshold 33000

theorem meth_num2 : ∀ w : World, (method 254 84 (.agg #[]) "soroban/decimal.number").run Tryd.prog w = .ok (112, .agg #[]) w := fun _ => by kernel_rfl
theorem meth_pay1 : ∀ w : World, (method 254 83 (.agg #[]) "soroban/decimal.payload").run Tryd.prog w = .ok (108, .agg #[]) w := fun _ => by kernel_rfl
theorem meth_pay2 : ∀ w : World, (method 254 84 (.agg #[]) "soroban/decimal.payload").run Tryd.prog w = .ok (113, .agg #[]) w := fun _ => by kernel_rfl
/-- A datum that was read, and whether its bits are canonical. -/
def DecP (f cl : Int) (ng : Bool) (R : Nat) (ex : Int) (cb : Bool) (w : World) (r : Ending) (w' : World) : Prop := ∃ u, r = .returned (.tuple #[.agg #[.int .i64 f, .int .i64 cl, .bool ng, u, .int .i64 ex], .bool cb, .int .i64 0]) ∧ Kd.R (Kd.int .u32) 46 w' w.heap.size (fun _ => True) u (ofN R) ∧ Below w.heap.size w w'
theorem sg_beq (s : Nat) (h : s < 2) : ((s : Int) == 1) = decide (s = 1) := by
  rcases (show s = 0 ∨ s = 1 by omega) with rfl | rfl <;> rfl
theorem nat_beq0 (s : Nat) : ((s : Int) == 0) = decide (s = 0) := by
  by_cases h : s = 0
  · subst h; rfl
  · rw [decide_eq_false h]; exact beq_eq_false_iff_ne.mpr (by omega)
theorem div_beq (G w k : Nat) : ((G : Int) / 2 ^ w == (k : Int)) = decide (G / 2 ^ w = k) := by
  rw [cast_div]
  by_cases h : G / 2 ^ w = k
  · rw [decide_eq_true h, h]; exact beq_self_eq_true _
  · rw [decide_eq_false h]; exact beq_eq_false_iff_ne.mpr (by exact_mod_cast h)
theorem ddec_core {f e hi lo : Int} {N gnum gpay : Nat} {te : TypeId} (w : World) (hT : Tab w) (hf : isDec f = true) (hw : Wd N hi lo) (hN : N < 2 ^ sN f)
    (HEn : ∀ w, Calls Tryd.prog 18 #[.int .i64 e] w fun r w' => r = .returned (.iface te (.agg #[])) ∧ Below w.heap.size w w')
    (hm : ∀ w', (method 254 te (.agg #[]) "soroban/decimal.number").run Tryd.prog w' = .ok (gnum, .agg #[]) w') (ef : ∀ args w', (callFunc gnum args).run Tryd.prog w' = .ok (.enter gnum args) w')
    (hmp : ∀ w', (method 254 te (.agg #[]) "soroban/decimal.payload").run Tryd.prog w' = .ok (gpay, .agg #[]) w') (efp : ∀ args w', (callFunc gpay args).run Tryd.prog w' = .ok (.enter gpay args) w')
    (HNum : ∀ (hi lo : Int) (w' : World), Wd (lN f N) hi lo → gN f N < 30 * 2 ^ wnN f → Calls Tryd.prog gnum #[.agg #[], fF f, .int .u64 (gN f N : Nat), wV hi lo] w' (NumP (numX f e (gN f N) (lN f N)).1 (dL f + ((numX f e (gN f N) (lN f N)).2.1 : Nat)) (numX f e (gN f N) (lN f N)).2.2 w'))
    (HPay : ∀ (hi lo : Int) (w' : World), Wd (lN f N) hi lo → Calls Tryd.prog gpay #[.agg #[], fF f, wV hi lo] w' (PayP (payX f e (lN f N)).1 (payX f e (lN f N)).2 w')) :
    Calls Tryd.prog 10 #[.int .i64 f, .int .i64 e, .agg #[.int .u64 hi, .int .u64 lo]] w (DecP f (clN f N) (ngN f N) (coN f e N) (exN f e N) (caN f e N) w) := by
  obtain ⟨n1, n2, n3, n4, n5, n6, n7, n8, n9, n10, n11⟩ := dec_nums hf
  obtain ⟨s1, s2, s3⟩ := w_small hf
  have hs0 : sN f = 1 + wnN f + 5 + tnN f := rfl
  have htn : tnN f ≤ 110 := by unfold tnN; omega
  have HFo : Hid (∀ w', Tab w' → Calls Tryd.prog 19 #[.int .i64 f] w' fun r w'' => r = .returned (.tuple #[fV (dP f) (dL f) (dH f) (wnN f : Nat) (tnN f : Nat), .bool true]) ∧ Below w'.heap.size w' w'') := Lib.hid fun w' h => by
    have := formatOf_ok w' hf h
    rwa [n1, n2] at this
  have HLs : Hid (∀ w', Calls Tryd.prog 23 #[wV hi lo, .int .i64 (sN f : Nat)] w' fun r w'' => r = .returned (wV hi lo) ∧ Below w'.heap.size w' w'') := Lib.hid fun w' => by
    refine (wlow_any (sN f) w' hw n10).mono ?_
    rintro r w'' ⟨hi', lo', rfl, hw', hb⟩
    have h2 := hw'.out
    rw [Nat.mod_eq_of_lt hN] at h2
    obtain ⟨rfl, rfl⟩ := wd_eq hw h2
    exact ⟨rfl, hb⟩
  have HFD : ∀ (from_ many : Nat) (a b : Int), from_ ≤ 128 → many ≤ 63 → (from_ : Int) = a → (many : Int) = b → Hid (∀ g w', w'.cell? ⟨g, 0, none⟩ = some (.int .u64 hi) → w'.cell? ⟨g, 1, none⟩ = some (.int .u64 lo) → Calls Tryd.prog 24 #[.int .i64 a, .int .i64 b, .pointer (some ⟨g, 0, none⟩)] w' fun r w'' => r = .returned (.int .u64 (N / 2 ^ from_ % 2 ^ many : Nat)) ∧ Below w'.heap.size w' w'') := fun from_ many a b h1 h2 h3 h4 => Lib.hid fun g w' h0 h1' => by
    rw [← h3, ← h4]; exact fld_any w' hw h1 h2 h0 h1'
  have HF1 := HFD (tnN f) (wnN f + 5) (tnN f : Nat) ((wnN f : Int) + 5) (by omega) n11 rfl (by omega)
  have HF2 := HFD (sN f - 1) 1 ((sN f : Int) - 1) 1 (by omega) (by decide) (by omega) rfl
  have HL := Lib.hid fun w' => wlow_any (tnN f) w' hw (by omega)
  obtain ⟨-, hl1, hg1⟩ := whole_of hN
  have hsg : ((N / 2 ^ (sN f - 1) % 2 ^ 1 : Nat) : Int) = ((sgN f N : Nat) : Int) := rfl
  have hng : (((N / 2 ^ (sN f - 1) % 2 ^ 1 : Nat) : Int) == 1) = ngN f N := by
    rw [hsg]; exact sg_beq _ (Nat.mod_lt _ (by decide))
  have h30b := div_beq (gN f N) (wnN f) 30
  have h31b := div_beq (gN f N) (wnN f) 31
  have hgm : ∀ k, k ≤ wnN f + 5 → N / 2 ^ tnN f % 2 ^ k = gN f N % 2 ^ k := fun k hk => by
    unfold gN
    rw [Nat.mod_mod_of_dvd]
    exact ⟨2 ^ (wnN f + 5 - k), by rw [← Nat.pow_add]; congr 1; omega⟩
  have HF3 := HFD (tnN f) (wnN f) (tnN f : Nat) (wnN f : Nat) (by omega) (by omega) rfl rfl
  have HF5 := HFD (tnN f + wnN f - 1) 1 ((tnN f : Int) + wnN f - 1) 1 (by omega) (by decide) (by omega) rfl
  have HF4 := HFD (tnN f) (wnN f - 1) (tnN f : Nat) ((wnN f : Int) - 1) (by omega) (by omega) rfl (by omega)
  by_cases h30 : gN f N / 2 ^ wnN f = 30
  · have hcl : clN f N = 2 := by unfold clN; rw [if_pos h30]
    have hca : caN f e N = (decide (gN f N % 2 ^ wnN f = 0) && decide (lN f N = 0)) := by
      unfold caN
      rw [hcl, if_neg (by decide), if_pos rfl, Bool.decide_and]
    have hco : coN f e N = 0 := by unfold coN; rw [hcl, if_neg (by decide), if_pos rfl]
    have hex : exN f e N = 0 := by unfold exN; rw [hcl, if_neg (by decide)]
    rw [decide_eq_true h30] at h30b
    rw [hcl, hco, hex]
    refine dec_oth (P := dP f) (L := dL f) (H := dH f) (T := lN f N) (gpay := gpay) (te := te) (v := .agg #[]) (R := 0) (a := decide (gN f N % 2 ^ wnN f = 0)) (c := (payX f e (lN f N)).2) w hT HFo (Lib.hid fun w' => HEn w') (Lib.hid hs0) n4 htn HLs HF1 HL HF2 hng s2 (Lib.hid (.inl ⟨h30b, rfl, rfl, hca⟩)) HF3 HF5 HF4 (Lib.hid ?_) (Lib.hid rfl) (Lib.hid rfl) hmp efp (Lib.hid ?_)
    · rw [hgm _ (by omega)]; exact nat_beq0 _
    · intro h; rw [show (((N / 2 ^ tnN f % 2 ^ (wnN f + 5) : Nat) : Int) / 2 ^ wnN f == 30) = true from h30b] at h; cases h
  · rw [decide_eq_false h30] at h30b
    by_cases h31 : gN f N / 2 ^ wnN f = 31
    · rw [decide_eq_true h31] at h31b
      have hbit : gN f N / 2 ^ (wnN f - 1) % 2 = N / 2 ^ (tnN f + wnN f - 1) % 2 := by
        have h1 : N / 2 ^ (tnN f + wnN f - 1) = N / 2 ^ tnN f / 2 ^ (wnN f - 1) := by
          rw [Nat.div_div_eq_div_mul, ← Nat.pow_add]; congr 2; omega
        rw [h1]
        unfold gN
        generalize N / 2 ^ tnN f = x
        have h2 := Nat.testBit_mod_two_pow x (wnN f + 5) (wnN f - 1)
        rw [decide_eq_true (by omega), Bool.true_and, Nat.testBit_eq_decide_div_mod_eq, Nat.testBit_eq_decide_div_mod_eq, decide_eq_decide] at h2
        omega
      have hcl : clN f N = (if decide (gN f N / 2 ^ (wnN f - 1) % 2 = 1) then 4 else 3) := by
        unfold clN
        rw [if_neg h30, if_pos h31]
        split
        · rename_i h; rw [decide_eq_true h]; rfl
        · rename_i h; rw [decide_eq_false h]; rfl
      have hc34 : clN f N ≠ 1 ∧ clN f N ≠ 2 := by rw [hcl]; split <;> omega
      have hca : caN f e N = ((payX f e (lN f N)).2 && decide (gN f N % 2 ^ (wnN f - 1) = 0)) := by
        unfold caN
        rw [if_neg hc34.1, if_neg hc34.2]
      have hco : coN f e N = (payX f e (lN f N)).1 := by unfold coN; rw [if_neg hc34.1, if_neg hc34.2]
      have hex : exN f e N = 0 := by unfold exN; rw [if_neg hc34.1]
      rw [hco, hex]
      refine dec_oth (P := dP f) (L := dL f) (H := dH f) (T := lN f N) (gpay := gpay) (te := te) (v := .agg #[]) (R := (payX f e (lN f N)).1) (b := decide (gN f N / 2 ^ (wnN f - 1) % 2 = 1)) (a2 := decide (gN f N % 2 ^ (wnN f - 1) = 0)) (c := (payX f e (lN f N)).2) w hT HFo (Lib.hid fun w' => HEn w') (Lib.hid hs0) n4 htn HLs HF1 HL HF2 hng s2 (Lib.hid (.inr ⟨h30b, h31b, hcl, hca⟩)) HF3 HF5 HF4 (Lib.hid rfl) (Lib.hid ?_) (Lib.hid ?_) hmp efp (Lib.hid ?_)
      · rw [hbit]
        exact sg_beq _ (Nat.mod_lt _ (by decide))
      · rw [hgm _ (by omega)]; exact nat_beq0 _
      · exact fun _ thi tlo w' h => HPay thi tlo w' h.out
    · rw [decide_eq_false h31] at h31b
      have hcl : clN f N = 1 := by unfold clN; rw [if_neg h30, if_neg h31]
      have hca : caN f e N = (numX f e (gN f N) (lN f N)).2.2 := by unfold caN; rw [if_pos hcl]
      have hco : coN f e N = (numX f e (gN f N) (lN f N)).1 := by unfold coN; rw [if_pos hcl]
      have hex : exN f e N = dL f + ((numX f e (gN f N) (lN f N)).2.1 : Nat) := by unfold exN; rw [if_pos hcl]
      rw [hcl, hca, hco, hex]
      refine dec_fin (P := dP f) (L := dL f) (H := dH f) (T := lN f N) (gnum := gnum) (te := te) (v := .agg #[]) w hT HFo (Lib.hid fun w' => HEn w') (Lib.hid hs0) n4 htn HLs HF1 HL HF2 hng h30b h31b hm ef (Lib.hid fun thi tlo w' h => HNum thi tlo w' h.out (lt30 hg1 h30 h31))
theorem ddecode_ok {f e hi lo : Int} {N : Nat} (w : World) (hT : Tab w) (hf : isDec f = true) (he : e = 1 ∨ e = 2) (hw : Wd N hi lo) (hN : N < 2 ^ sN f) :
    Calls Tryd.prog 10 #[.int .i64 f, .int .i64 e, .agg #[.int .u64 hi, .int .u64 lo]] w (DecP f (clN f N) (ngN f N) (coN f e N) (exN f e N) (caN f e N) w) := by
  obtain ⟨-, hl1, hg1⟩ := whole_of hN
  rcases he with rfl | rfl
  · exact ddec_core (gnum := 107) (gpay := 108) w hT hf hw hN enc_tens meth_num (enters_of Tryd.func107 (by kernel_rfl) rfl) meth_pay1 (enters_of Tryd.func108 (by kernel_rfl) rfl) (fun hi lo w' g1 g2 => num_1 w' hf g1 hg1) (fun hi lo w' g1 => pay_1 w' hf g1)
  · exact ddec_core (gnum := 112) (gpay := 113) w hT hf hw hN enc_plain meth_num2 (enters_of Tryd.func112 (by kernel_rfl) rfl) meth_pay2 (enters_of Tryd.func113 (by kernel_rfl) rfl) (fun hi lo w' g1 g2 => num_2 w' hf g1 hl1 g2) (fun hi lo w' g1 => pay_2 w' hf g1)
/-- What Decode returns. -/
def decR (f e : Int) (N : Nat) : Int × Int × Bool × List Int × Int × Bool × Int := if isDec f = true ∧ (e = 1 ∨ e = 2) ∧ N < 2 ^ sN f then (f, clN f N, ngN f N, ofN (coN f e N), exN f e N, caN f e N, 0) else (0, 0, false, [], 0, false, 1)
theorem ddecode_any {f e hi lo : Int} {N : Nat} (w : World) (hT : Tab w) (hw : Wd N hi lo) :
    Calls Tryd.prog 10 #[.int .i64 f, .int .i64 e, .agg #[.int .u64 hi, .int .u64 lo]] w fun r w' => ∃ u, r = .returned (.tuple #[.agg #[.int .i64 (decR f e N).1, .int .i64 (decR f e N).2.1, .bool (decR f e N).2.2.1, u, .int .i64 (decR f e N).2.2.2.2.1], .bool (decR f e N).2.2.2.2.2.1, .int .i64 (decR f e N).2.2.2.2.2.2]) ∧ Kd.R (Kd.int .u32) 46 w' w.heap.size (fun _ => True) u (decR f e N).2.2.2.1 ∧ Below w.heap.size w w' := by
  have bad : ∀ {P : Ending → World → Prop}, Calls Tryd.prog 10 #[.int .i64 f, .int .i64 e, .agg #[.int .u64 hi, .int .u64 lo]] w (fun r w' => r = .returned (.tuple #[.agg #[.int .i64 0, .int .i64 0, .bool false, .slice none 0 0, .int .i64 0], .bool false, .int .i64 1]) ∧ Below w.heap.size w w') →
      Calls Tryd.prog 10 #[.int .i64 f, .int .i64 e, .agg #[.int .u64 hi, .int .u64 lo]] w (fun r w' => ∃ u, r = .returned (.tuple #[.agg #[.int .i64 0, .int .i64 0, .bool false, u, .int .i64 0], .bool false, .int .i64 1]) ∧ Kd.R (Kd.int .u32) 46 w' w.heap.size (fun _ => True) u [] ∧ Below w.heap.size w w') := fun h => h.mono fun r w' ⟨h1, h2⟩ => ⟨_, h1, Kd.R_nil _ _ _ _ _, h2⟩
  unfold decR
  by_cases h : isDec f = true ∧ (e = 1 ∨ e = 2) ∧ N < 2 ^ sN f
  · rw [if_pos h]
    exact ddecode_ok w hT h.1 h.2.1 hw h.2.2
  · rw [if_neg h]
    refine bad (P := fun _ _ => True) ?_
    cases hf : isDec f with
    | false =>
      obtain ⟨v, HEn⟩ : ∃ v, ∀ w', Calls Tryd.prog 18 #[.int .i64 e] w' fun r w'' => r = .returned v ∧ Below w'.heap.size w' w'' := by
        by_cases h1 : e = 1
        · subst h1; exact ⟨_, enc_tens⟩
        · by_cases h2 : e = 2
          · subst h2; exact ⟨_, enc_plain⟩
          · exact ⟨_, fun w' => enc_none w' h1 h2⟩
      exact dec_err1 (P := 0) (L := 0) (H := 0) (h2 := 0) (l2 := 0) (wn := 0) (tn := 0) (s := 0) (te := 0) w (Lib.hid fun w' => formatOf_no w' hf) (Lib.hid HEn)
    | true =>
      obtain ⟨n1, n2, n3, n4, n5, n6, n7, n8, n9, n10, n11⟩ := dec_nums hf
      obtain ⟨s1, s2, s3⟩ := w_small hf
      have HFo : Hid (∀ w', Below w.heap.size w w' → Calls Tryd.prog 19 #[.int .i64 f] w' fun r w'' => r = .returned (.tuple #[fF f, .bool true]) ∧ Below w'.heap.size w' w'') := Lib.hid fun w' hb => by
        have := formatOf_ok w' hf (hT.below hb)
        rwa [n1, n2] at this
      by_cases he : e = 1 ∨ e = 2
      · have hN : ¬ N < 2 ^ sN f := fun h1 => h ⟨hf, he, h1⟩
        obtain ⟨te, HEn⟩ : ∃ te, ∀ w', Calls Tryd.prog 18 #[.int .i64 e] w' fun r w'' => r = .returned (.iface te (.agg #[])) ∧ Below w'.heap.size w' w'' := by
          rcases he with rfl | rfl
          · exact ⟨_, enc_tens⟩
          · exact ⟨_, enc_plain⟩
        have hM : N % 2 ^ sN f < W128 := Nat.lt_of_le_of_lt (Nat.mod_le _ _) hw.lt
        have hW := Wd.of hM
        refine dec_err3 (wn := wnN f) (tn := tnN f) (s := sN f) (te := te) (v := .agg #[]) w HFo n4 s3 (Lib.hid HEn) (Lib.hid rfl) n4 s3 (h2 := ((N % 2 ^ sN f / 18446744073709551616 : Nat) : Int)) (l2 := ((N % 2 ^ sN f % 18446744073709551616 : Nat) : Int)) (Lib.hid fun w' => ?_) ?_
        · refine (wlow_any (sN f) w' hw n10).mono ?_
          rintro r w'' ⟨hi', lo', rfl, hw', hb⟩
          obtain ⟨rfl, rfl⟩ := wd_eq hW hw'.out
          exact ⟨rfl, hb⟩
        · rw [Bool.and_eq_false_iff]
          by_cases e1 : ((N % 2 ^ sN f / 18446744073709551616 : Nat) : Int) = hi
          · by_cases e2 : ((N % 2 ^ sN f % 18446744073709551616 : Nat) : Int) = lo
            · exfalso
              rw [e1, e2] at hW
              obtain ⟨a0, a1, b0, b1, e3⟩ := hW
              obtain ⟨c0, c1, d0, d1, e4⟩ := hw
              have h1 : N % 2 ^ sN f < 2 ^ sN f := Nat.mod_lt _ (Nat.two_pow_pos _)
              omega
            · exact .inr (beq_eq_false_iff_ne.mpr e2)
          · exact .inl (beq_eq_false_iff_ne.mpr e1)
      · exact dec_err2 (h2 := 0) (l2 := 0) (s := 0) (te := 0) (v := .nilIface) w HFo n4 s3 (Lib.hid fun w' => enc_none w' (fun h1 => he (.inl h1)) (fun h1 => he (.inr h1)))
end Go.Proofs.YtiplbpfdkcddlaaDoor

set_option linter.unusedSimpArgs false
set_option linter.unusedVariables false
set_option linter.unnecessarySimpa false
namespace Go.Proofs.YtiplbpfdkcddlaaDoor
open Go.RowKit Go.Proofs.YtiplbpfdkcddlaaDoorW.PrintWords Go.Proofs.YtiplbpfdkcddlaaDoorW.PrintLast Go.Proofs.YtiplbpfdkcddlaaDoorW.PrintMore Go.Proofs.YtiplbpfdkcddlaaDoor.NL
set_option maxRecDepth 100000
set_option exponentiation.threshold 33000

set_option maxHeartbeats 4000000 in
theorem drec_ok {f from_ to_ hi lo F cl ex er : Int} {ng cb : Bool} {l : List Int} {M : Nat} (w : World)
    (HDe : Hid (∀ w', Below w.heap.size w w' → Calls Tryd.prog 10 #[.int .i64 f, .int .i64 from_, .agg #[.int .u64 hi, .int .u64 lo]] w' fun r w'' => ∃ u, r = .returned (.tuple #[.agg #[.int .i64 F, .int .i64 cl, .bool ng, u, .int .i64 ex], .bool cb, .int .i64 0]) ∧ Kd.R (Kd.int .u32) 46 w'' w'.heap.size (fun _ => True) u l ∧ Below w'.heap.size w' w''))
    (HEc : Hid (∀ A n c w', Below w.heap.size w w' → Kd.C (Kd.int .u32) w' A n l → n ≤ c → Calls Tryd.prog 9 #[dV F cl ng A n c ex, .int .i64 to_] w' fun r w'' => ∃ hi lo : Int, r = .returned (.tuple #[wV hi lo, .int .i64 er]) ∧ Hid (Wd M hi lo) ∧ Below w'.heap.size w' w'')) :
    Calls Tryd.prog 12 #[.int .i64 f, .int .i64 from_, .int .i64 to_, .agg #[.int .u64 hi, .int .u64 lo]] w fun r w' => ∃ hi lo : Int, r = .returned (.tuple #[wV hi lo, .int .i64 er]) ∧ Hid (Wd M hi lo) ∧ Below w.heap.size w w' := by
  go_enter Tryd.func12, Tryd.ntmps12
  go_wp2_with (first | fail | (go_at_call 10; (with_reducible refine (HDe.out _ bel).mono ?_); rintro r w1 ⟨u1, rfl, hv1, b1⟩; obtain ⟨A1, c1, rfl⟩ := Kd.R_slice hv1; have HV1 := Lib.hid (R_C hv1); clear hv1; obtain ⟨hc1, hf1⟩ := bcell b1; have hz1 := below_size b1; (try simp at hz1); have zz1_0 : w.heap.size < w1.heap.size := (by omega); have zz1_1 : w.heap.size + 1 < w1.heap.size := (by omega)) | (go_at_call 9; (with_reducible refine (HEc.out _ _ _ _ bel (Kd.C_below HV1.out.1 bel) HV1.out.2).mono ?_); rintro r w2 ⟨hi2, lo2, rfl, hw2, b2⟩; obtain ⟨hc2, hf2⟩ := bcell b2; have hz2 := below_size b2; (try simp at hz2); have zz2_0 : w.heap.size < w2.heap.size := (by omega); have zz2_1 : w.heap.size + 1 < w2.heap.size := (by omega)))
  all_goals exact bodyPost_ret (v := .tuple #[wV hi2 lo2, .int .i64 er]) (by simp [results, Tryd.results12, go_sem, *]) rfl ⟨_, _, rfl, hw2, bel⟩
set_option maxHeartbeats 4000000 in
theorem drec_bad {f from_ to_ hi lo F cl ex er : Int} {ng cb : Bool} {l : List Int} (w : World) (her : (er != 0) = true)
    (HDe : Hid (∀ w', Below w.heap.size w w' → Calls Tryd.prog 10 #[.int .i64 f, .int .i64 from_, .agg #[.int .u64 hi, .int .u64 lo]] w' fun r w'' => ∃ u, r = .returned (.tuple #[.agg #[.int .i64 F, .int .i64 cl, .bool ng, u, .int .i64 ex], .bool cb, .int .i64 er]) ∧ Kd.R (Kd.int .u32) 46 w'' w'.heap.size (fun _ => True) u l ∧ Below w'.heap.size w' w'')) :
    Calls Tryd.prog 12 #[.int .i64 f, .int .i64 from_, .int .i64 to_, .agg #[.int .u64 hi, .int .u64 lo]] w fun r w' => ∃ hi lo : Int, r = .returned (.tuple #[wV hi lo, .int .i64 er]) ∧ Hid (Wd 0 hi lo) ∧ Below w.heap.size w w' := by
  go_enter Tryd.func12, Tryd.ntmps12
  go_wp2_with (first | fail | (go_at_call 10; (with_reducible refine (HDe.out _ bel).mono ?_); rintro r w1 ⟨u1, rfl, hv1, b1⟩; obtain ⟨A1, c1, rfl⟩ := Kd.R_slice hv1; have HV1 := Lib.hid (R_C hv1); clear hv1; obtain ⟨hc1, hf1⟩ := bcell b1; have hz1 := below_size b1; (try simp at hz1); have zz1_0 : w.heap.size < w1.heap.size := (by omega); have zz1_1 : w.heap.size + 1 < w1.heap.size := (by omega)))
  all_goals exact bodyPost_ret (v := .tuple #[wV 0 0, .int .i64 er]) (by simp [results, Tryd.results12, go_sem, *]) rfl ⟨0, 0, rfl, Lib.hid ⟨by decide, by decide, by decide, by decide, rfl⟩, bel⟩
/-- What Recode returns: bits, and an error. -/
def recR (f from_ to_ : Int) (N : Nat) : Nat × Int := if (decR f from_ N).2.2.2.2.2.2 = 0 then encR (decR f from_ N).1 (decR f from_ N).2.1 (decR f from_ N).2.2.1 (decR f from_ N).2.2.2.1 (decR f from_ N).2.2.2.2.1 to_ else (0, (decR f from_ N).2.2.2.2.2.2)
theorem decR_lim (f e : Int) (N : Nat) : Lim (decR f e N).2.2.2.1 := by
  unfold decR
  split
  · exact lim_ofN _
  · exact fun x hx => by cases hx
theorem drecode_any {f from_ to_ hi lo : Int} {N : Nat} (w : World) (hT : Tab w) (hw : Wd N hi lo) :
    Calls Tryd.prog 12 #[.int .i64 f, .int .i64 from_, .int .i64 to_, .agg #[.int .u64 hi, .int .u64 lo]] w fun r w' => ∃ hi lo : Int, r = .returned (.tuple #[wV hi lo, .int .i64 (recR f from_ to_ N).2]) ∧ Hid (Wd (recR f from_ to_ N).1 hi lo) ∧ Below w.heap.size w w' := by
  have HDe := fun w' (hb : Below w.heap.size w w') => ddecode_any (f := f) (e := from_) w' (hT.below hb) hw
  have hl := decR_lim f from_ N
  unfold recR
  by_cases h : (decR f from_ N).2.2.2.2.2.2 = 0
  · rw [if_pos h]
    rw [h] at HDe
    exact drec_ok w (Lib.hid HDe) (Lib.hid fun A n c w' hb g1 g2 => dencode_any w' (hT.below hb) g1 hl g2)
  · rw [if_neg h]
    exact drec_bad w (by simpa using h) (Lib.hid HDe)
/-! The contracts in the form that printed walks ask for. -/
def u32L (l : List Int) : Bool := l.all (fun x => decide (0 ≤ x ∧ x < 4294967296))
theorem u32L_of {l : List Int} (h : u32L l = true) : Lim l := fun x hx => by simpa using List.all_eq_true.1 h x hx
theorem u32L_mk {l : List Int} (h : Lim l) : u32L l = true := List.all_eq_true.2 (fun x hx => by simpa using h x hx)
theorem u32L_ofN (n : Nat) : u32L (ofN n) = true := u32L_mk (lim_ofN n)
def u64B (x : Int) : Bool := decide (0 ≤ x ∧ x < 18446744073709551616)
/-- The number of a raw's two words. -/
def rawN (hi lo : Int) : Nat := hi.toNat * 18446744073709551616 + lo.toNat
theorem rawN_wd {hi lo : Int} (h : u64B hi = true) (h2 : u64B lo = true) : Wd (rawN hi lo) hi lo := by
  simp only [u64B, decide_eq_true_eq] at h h2
  exact ⟨h.1, h.2, h2.1, h2.2, rfl⟩
theorem wd_words {N : Nat} {hi lo : Int} (h : Wd N hi lo) : hi = ((N / 18446744073709551616 : Nat) : Int) ∧ lo = ((N % 18446744073709551616 : Nat) : Int) := by
  obtain ⟨a0, a1, b0, b1, hN⟩ := h
  omega
def wHi (N : Nat) : Int := ((N / 18446744073709551616 : Nat) : Int)
def wLo (N : Nat) : Int := ((N % 18446744073709551616 : Nat) : Int)
def soroban_decimal_Pack.f (a0 : Int) : Option (Int × Int) := some (packR a0)
theorem soroban_decimal_Pack.calls (a0 r1 r2 : Int) (w : World) (h : soroban_decimal_Pack.f a0 = some (r1, r2)) : Calls Tryd.prog 7 #[.int .i64 a0] w fun e w' => e = .returned (.tuple #[.int .i64 r1, .int .i64 r2]) ∧ Below w.heap.size w w' := by
  injection h with h
  have := pack_any a0 w
  rw [h] at this
  exact this
def soroban_decimal_Unpack.f (a0 : Int) : Option (Int × Bool × Int) := some (unpackR a0)
theorem soroban_decimal_Unpack.calls (a0 r1 : Int) (r2 : Bool) (r3 : Int) (w : World) (h : soroban_decimal_Unpack.f a0 = some (r1, r2, r3)) : Calls Tryd.prog 8 #[.int .i64 a0] w fun e w' => e = .returned (.tuple #[.int .i64 r1, .bool r2, .int .i64 r3]) ∧ Below w.heap.size w w' := by
  injection h with h
  have := unpack_any a0 w
  rw [h] at this
  exact this
end Go.Proofs.YtiplbpfdkcddlaaDoor
