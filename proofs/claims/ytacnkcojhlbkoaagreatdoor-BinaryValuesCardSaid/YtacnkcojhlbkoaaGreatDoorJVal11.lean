/- binary: pack of a datum, Encode. binary: what bits mean. -/
import Derived.Test.YtacnkcojhlbkoaaGreatDoorJVal10
set_option linter.unusedSimpArgs false
set_option linter.unusedVariables false
set_option linter.unnecessarySimpa false
namespace Go.Proofs.YtacnkcojhlbkoaaGreatDoor
open Go.RowKit Go.Proofs.YtacnkcojhlbkoaaGreatDoorW.PrintWords Go.Proofs.YtacnkcojhlbkoaaGreatDoorW.PrintLast Go.Proofs.YtacnkcojhlbkoaaGreatDoorW.PrintMore Go.Proofs.YtacnkcojhlbkoaaGreatDoor.NL
set_option maxRecDepth 100000
set_option exponentiation.threshold 130

/-- A datum's exponent field and fraction. -/
def fieldN (f cl : Int) (N : Nat) (ex : Int) : Nat := if cl = 1 then (if (blen N : Int) = fmD f then (ex - fmL f + 1).toNat else 0) else lastN f
def fracN (f cl : Int) (N : Nat) : Nat := if cl = 1 then (if (blen N : Int) = fmD f then N % 2 ^ (fmD f - 1).toNat else N) else if cl = 2 then 0 else N + (if (cl == 3) = true then 2 ^ (fmD f - 2).toNat else 0)
def packN (f cl : Int) (ng : Bool) (N : Nat) (ex : Int) : Nat := packFR f ng (fieldN f cl N ex) (fracN f cl N)

theorem pow_le2 {a b : Nat} (h : a ≤ b) : 2 ^ a ≤ 2 ^ b := Nat.pow_le_pow_right (by omega) h
theorem last_bd {f : Int} (hf : isFm f = true) : fmH f - fmL f + 1 ≤ lastN f := by
  rcases fm_cases hf with rfl | rfl | rfl | rfl | rfl <;> decide
theorem frac_bd {f cl : Int} {N : Nat} {ex : Int} (hf : isFm f = true) (h : fits (fmD f) (fmL f) (fmH f) cl (blen N) ex = true) : fieldN f cl N ex ≤ lastN f ∧ fracN f cl N < 2 ^ oneN f ∧ N < W128 := by
  obtain ⟨d1, d2⟩ := D_bd2 f
  have hl := last_bd hf
  have hN := lt_blen N
  have hW : ∀ k, k ≤ 128 → blen N ≤ k → N < W128 := fun k h1 h2 => Nat.lt_of_lt_of_le hN (Nat.le_trans (pow_le2 (Nat.le_trans h2 h1)) (by decide))
  unfold fits at h
  unfold fieldN fracN oneN
  by_cases c1 : cl = 1
  · rw [if_pos c1] at h ⊢
    rw [if_pos c1]
    simp only [Bool.and_eq_true, Bool.or_eq_true, decide_eq_true_eq] at h
    obtain ⟨⟨⟨h1, h2⟩, h3⟩, h4⟩ := h
    by_cases hz : (blen N : Int) = fmD f
    · rw [if_pos hz, if_pos hz]
      exact ⟨by omega, Nat.mod_lt _ (Nat.two_pow_pos _), hW 113 (by omega) (by omega)⟩
    · rw [if_neg hz, if_neg hz]
      exact ⟨by omega, Nat.lt_of_lt_of_le hN (pow_le2 (by omega)), hW 113 (by omega) (by omega)⟩
  · rw [if_neg c1] at h ⊢
    rw [if_neg c1]
    by_cases c2 : cl = 2
    · rw [if_pos c2] at h ⊢
      simp only [Bool.and_eq_true, decide_eq_true_eq] at h
      exact ⟨Nat.le_refl _, Nat.two_pow_pos _, hW 0 (by omega) (by omega)⟩
    · rw [if_neg c2] at h ⊢
      have h1 : (blen N : Int) ≤ fmD f - 2 := by
        split at h
        · simp only [Bool.and_eq_true, decide_eq_true_eq] at h
          exact h.1
        · split at h
          · simp only [Bool.and_eq_true, decide_eq_true_eq] at h
            exact h.1.2
          · simp at h
      refine ⟨Nat.le_refl _, ?_, hW 113 (by omega) (by omega)⟩
      have e : (fmD f - 1).toNat = (fmD f - 2).toNat + 1 := by omega
      rw [e, Nat.pow_succ]
      have h2 : N < 2 ^ (fmD f - 2).toNat := Nat.lt_of_lt_of_le hN (pow_le2 (by omega))
      split <;> omega

/-- The bits of a datum that a format has. -/
theorem pack_any {f cl : Int} {ng : Bool} {A : Option Addr} {n c : Nat} {a : List Int} {ex : Int} (w : World) (hA : Kd.C (Kd.int .u32) w A n a) (la : Lim a) (hc : n ≤ c) (hf : isFm f = true) (hb : hasB f cl a ex = true) :
    Calls Tryz.prog 72 #[kV f, dV f cl ng A n c ex] w (GivesW (packN f cl ng (val a) ex) w) := by
  unfold hasB at hb
  obtain ⟨hok, hfit⟩ := (Bool.and_eq_true _ _).mp hb
  obtain ⟨hF, hR, hN⟩ := frac_bd hf hfit
  have hn := len4 hA la hc hok hN
  have hWO : ∀ w1, Below w.heap.size w w1 → WordOf A n c (val a) w1 := fun w1 h1 w' h2 => wordOf_any w' (Kd.C_below (Kd.C_below hA h1) h2) la hn
  unfold packN
  by_cases c2 : cl = 2
  · refine pack_core f f cl ex ng w hf hF hR 144 148 (fun v w => meth_1 v w) cf_1 fun w' h1 => ?_
    subst c2
    refine (cont_inf f f ex ng w' (hWO w' h1)).mono ?_
    rintro e w2 ⟨rfl, b2⟩
    exact ⟨_, rfl, Lib.hid fun w3 => by
      have := bits_endless f w3
      exact this, b2⟩
  · by_cases c1 : cl = 1
    · refine pack_core f f cl ex ng w hf hF hR 149 150 (fun v w => meth_3 v w) cf_3 fun w' h1 => ?_
      unfold fieldN fracN
      rw [if_pos c1, if_pos c1]
      subst c1
      unfold fits at hfit
      rw [if_pos rfl] at hfit
      simp only [Bool.and_eq_true, Bool.or_eq_true, decide_eq_true_eq] at hfit
      obtain ⟨⟨⟨h1', h2⟩, h3⟩, h4⟩ := hfit
      by_cases hz : (blen (val a) : Int) = fmD f
      · rw [if_pos hz, if_pos hz]
        refine (cont_full f f ex ng w' hz h2 h3 (hWO w' h1)).mono ?_
        rintro e w2 ⟨hi, lo, rfl, hw, b2⟩
        exact ⟨_, rfl, Lib.hid fun w3 => bits_number f w3 hw.out, b2⟩
      · rw [if_neg hz, if_neg hz]
        refine (cont_sub f f ex ng w' hz (hWO w' h1)).mono ?_
        rintro e w2 ⟨hi, lo, rfl, hw, b2⟩
        exact ⟨_, rfl, Lib.hid fun w3 => bits_number f w3 hw.out, b2⟩
    · refine pack_core f f cl ex ng w hf hF hR 146 149 (fun v w => meth_2 v w) cf_2 fun w' h1 => ?_
      refine (cont_nan f f cl ex ng w' c1 c2 (hWO w' h1)).mono ?_
      rintro e w2 ⟨hi, lo, rfl, hw, b2⟩
      refine ⟨_, rfl, Lib.hid fun w3 => ?_, b2⟩
      unfold fieldN fracN
      rw [if_neg c1, if_neg c1, if_neg c2]
      unfold fits at hfit
      rw [if_neg c1, if_neg c2] at hfit
      obtain ⟨d1, d2⟩ := D_bd2 f
      have h1 : (blen (val a) : Int) ≤ fmD f - 2 := by
        split at hfit
        · simp only [Bool.and_eq_true, decide_eq_true_eq] at hfit
          exact hfit.1
        · split at hfit
          · simp only [Bool.and_eq_true, decide_eq_true_eq] at hfit
            exact hfit.1.2
          · simp at hfit
      exact bits_none f (cl == 3) w3 hw.out (Nat.lt_of_lt_of_le (lt_blen _) (pow_le2 (by omega)))

/-- Bits and an error. -/
def GivesRaw (N : Nat) (er : Int) (w : World) (e : Ending) (w' : World) : Prop := ∃ hi lo : Int, e = .returned (.tuple #[wV hi lo, .int .i64 er]) ∧ Hid (Wd N hi lo) ∧ Below w.heap.size w w'
set_option maxHeartbeats 4000000 in
theorem encode_no {f cl : Int} {ng : Bool} {A : Option Addr} {n c : Nat} {ex : Int} (w : World) (hf : isFm f = false) :
    Calls Tryz.prog 30 #[dV f cl ng A n c ex] w (GivesRaw 0 1 w) := by
  have HK := Lib.hid fun w' => kindOf_no hf w'
  clear hf
  go_enter_defers Tryz.func30, Tryz.ntmps30
  go_wp2_with (first | (go_at_call 41; (with_reducible refine (HK.out _).mono ?_); rintro e w1 ⟨rfl, b1⟩))
  (refine leaves_cons (f := 39) (args := #[.pointer (some ⟨w.heap.size + 1 + 1, 0, none⟩)]) (by simp) (by simp [go_sem]) ?_; refine (bcaught_panic (w.heap.size + 1 + 1) (1) 0 [] _ (BlkIs.one blk0)).mono ?_; rintro e u' w'' ⟨rfl, rfl, hch, hp⟩; have hp' : BlkIs w'' (w.heap.size + 1 + 1) 28 (· = #[.int .i64 (1)]) := ⟨_, hp, rfl⟩)
  have hd : BlkIs w'' (w.heap.size + 1) 66 (· = #[.int .u64 0, .int .u64 0]) := blk0
  exact ⟨.tuple #[.agg #[.int .u64 0, .int .u64 0], .int .i64 1], rresults (rs := [.cell 2 66, .cell 3 28]) rfl (by simp) (.cell (w.heap.size + 1) rfl (load_agg (t := 66) hd Tryz.underlying66 rfl (by kernel_rfl)) (.cell (w.heap.size + 1 + 1) rfl (load_one (t := 28) hp' (by kernel_rfl)) .nil)), 0, 0, rfl, Lib.hid (Wd.mk (H := 0) (L := 0) (by omega) (by omega) rfl), below_chg bel hch (by omega)⟩
set_option maxHeartbeats 8000000 in
theorem encode_fm {f cl : Int} {ng : Bool} {A : Option Addr} {n c : Nat} {a : List Int} {ex : Int} (w : World) (hA : Kd.C (Kd.int .u32) w A n a) (la : Lim a) (hc : n ≤ c) (hf : isFm f = true) (b : Bool) (hh : hasB f cl a ex = b) :
    Calls Tryz.prog 30 #[dV f cl ng A n c ex] w (GivesRaw (if b then packN f cl ng (val a) ex else 0) (if b then 0 else 1) w) := by
  have HK := Lib.hid fun w' => kindOf_ok hf w'
  have HH := has_hid (f := f) (cl := cl) (ng := ng) (ex := ex) hA la hc
  have HP : Hid (b = true → ∀ w', Below w.heap.size w w' → Calls Tryz.prog 72 #[kV f, dV f cl ng A n c ex] w' (GivesW (packN f cl ng (val a) ex) w')) := Lib.hid fun e w' h1 => pack_any w' (Kd.C_below hA h1) la hc hf (by rw [hh, e])
  rw [hh] at HH
  clear hA hh hf
  unfold kV at *
  generalize fmD f = D at *
  generalize fmE f = E at *
  generalize fmL f = L at *
  generalize fmH f = H at *
  generalize fmW f = W at *
  generalize packN f cl ng (val a) ex = N at *
  cases b with
  | true =>
    have HP' := Lib.hid (HP.out rfl)
    clear HP
    rw [if_pos rfl, if_pos rfl]
    go_enter_defers Tryz.func30, Tryz.ntmps30
    go_wp2_with (first | (go_at_call 41; (with_reducible refine (HK.out _).mono ?_); rintro e w1 ⟨rfl, b1⟩; obtain ⟨hc1, hf1⟩ := bcell b1; have hz1 := below_size b1; (try simp at hz1); have z01 : w.heap.size < w1.heap.size := (by omega); have z11 : w.heap.size + 1 < w1.heap.size := (by omega); have z21 : w.heap.size + 1 + 1 < w1.heap.size := (by omega)) | (go_at_call 42; (with_reducible refine (HH.out _ bel).mono ?_); rintro e w2 ⟨rfl, b2⟩; obtain ⟨hc2, hf2⟩ := bcell b2; have hz2 := below_size b2; (try simp at hz2); have z02 : w.heap.size < w2.heap.size := (by omega); have z12 : w.heap.size + 1 < w2.heap.size := (by omega); have z22 : w.heap.size + 1 + 1 < w2.heap.size := (by omega); have zz2 : w1.heap.size < w2.heap.size := (by omega)) | (go_at_call 40; (with_reducible refine (bneed_true _ _).mono ?_); rintro e w9 ⟨rfl, rfl⟩) | (go_at_call 72; (with_reducible refine (HP'.out _ bel).mono ?_); rintro e w3 ⟨hi, lo, rfl, hw3, b3⟩; obtain ⟨hc3, hf3⟩ := bcell b3; have hz3 := below_size b3; (try simp at hz3); have z03 : w.heap.size < w3.heap.size := (by omega); have z13 : w.heap.size + 1 < w3.heap.size := (by omega); have z23 : w.heap.size + 1 + 1 < w3.heap.size := (by omega)))
    (refine leaves_cons (f := 39) (args := #[.pointer (some ⟨w.heap.size + 1 + 1, 0, none⟩)]) (by simp) (by simp [go_sem]) ?_; refine (bcaught_idle _ _).mono ?_; rintro e u' w'' ⟨rfl, rfl, rfl⟩)
    exact ⟨.tuple #[.agg #[.int .u64 hi, .int .u64 lo], .int .i64 0], rresults (rs := [.cell 2 66, .cell 3 28]) rfl (by simp) (.cell (w.heap.size + 1) rfl (load_agg (t := 66) blk0 Tryz.underlying66 rfl (by kernel_rfl)) (.cell (w.heap.size + 1 + 1) rfl (load_one (t := 28) blk0 (by kernel_rfl)) .nil)), hi, lo, rfl, hw3, bel⟩
  | false =>
    rw [if_neg (by simp), if_neg (by simp)]
    clear HP
    go_enter_defers Tryz.func30, Tryz.ntmps30
    go_wp2_with (first | (go_at_call 41; (with_reducible refine (HK.out _).mono ?_); rintro e w1 ⟨rfl, b1⟩; obtain ⟨hc1, hf1⟩ := bcell b1; have hz1 := below_size b1; (try simp at hz1); have z01 : w.heap.size < w1.heap.size := (by omega); have z11 : w.heap.size + 1 < w1.heap.size := (by omega); have z21 : w.heap.size + 1 + 1 < w1.heap.size := (by omega)) | (go_at_call 42; (with_reducible refine (HH.out _ bel).mono ?_); rintro e w2 ⟨rfl, b2⟩; obtain ⟨hc2, hf2⟩ := bcell b2; have hz2 := below_size b2; (try simp at hz2); have z02 : w.heap.size < w2.heap.size := (by omega); have z12 : w.heap.size + 1 < w2.heap.size := (by omega); have z22 : w.heap.size + 1 + 1 < w2.heap.size := (by omega); have zz2 : w1.heap.size < w2.heap.size := (by omega)) | (go_at_call 40; (with_reducible refine (bneed_false _ _).mono ?_); rintro e w9 ⟨rfl, rfl⟩))
    (refine leaves_cons (f := 39) (args := #[.pointer (some ⟨w.heap.size + 1 + 1, 0, none⟩)]) (by simp) (by simp [go_sem]) ?_; refine (bcaught_panic (w.heap.size + 1 + 1) (1) 0 [] _ (BlkIs.one blk0)).mono ?_; rintro e u' w'' ⟨rfl, rfl, hch, hp⟩; have hp' : BlkIs w'' (w.heap.size + 1 + 1) 28 (· = #[.int .i64 (1)]) := ⟨_, hp, rfl⟩)
    have hd : BlkIs w'' (w.heap.size + 1) 66 (· = #[.int .u64 0, .int .u64 0]) := blk0
    exact ⟨.tuple #[.agg #[.int .u64 0, .int .u64 0], .int .i64 1], rresults (rs := [.cell 2 66, .cell 3 28]) rfl (by simp) (.cell (w.heap.size + 1) rfl (load_agg (t := 66) hd Tryz.underlying66 rfl (by kernel_rfl)) (.cell (w.heap.size + 1 + 1) rfl (load_one (t := 28) hp' (by kernel_rfl)) .nil)), 0, 0, rfl, Lib.hid (Wd.mk (H := 0) (L := 0) (by omega) (by omega) rfl), below_chg bel hch (by omega)⟩

theorem encode_any {f cl : Int} {ng : Bool} {A : Option Addr} {n c : Nat} {a : List Int} {ex : Int} (w : World) (hA : Kd.C (Kd.int .u32) w A n a) (la : Lim a) (hc : n ≤ c) :
    Calls Tryz.prog 30 #[dV f cl ng A n c ex] w (GivesRaw (if datOk f cl a ex then packN f cl ng (val a) ex else 0) (if datOk f cl a ex then 0 else 1) w) := by
  unfold datOk
  cases hf : isFm f with
  | false => exact encode_no w hf
  | true => exact encode_fm w hA la hc hf _ rfl
end Go.Proofs.YtacnkcojhlbkoaaGreatDoor

set_option linter.unusedSimpArgs false
set_option linter.unusedVariables false
set_option linter.unnecessarySimpa false
namespace Go.Proofs.YtacnkcojhlbkoaaGreatDoor
open Go.RowKit Go.Proofs.YtacnkcojhlbkoaaGreatDoorW.PrintWords Go.Proofs.YtacnkcojhlbkoaaGreatDoorW.PrintLast Go.Proofs.YtacnkcojhlbkoaaGreatDoorW.PrintMore Go.Proofs.YtacnkcojhlbkoaaGreatDoor.NL
set_option maxRecDepth 100000
set_option exponentiation.threshold 130

end Go.Proofs.YtacnkcojhlbkoaaGreatDoor
namespace Go.Proofs.YtacnkcojhlbkoaaGreatDoor.NL
open Go Go.RowKit Go.Proofs
theorem Wd.small {N : Nat} {hi lo : Int} (h : Wd N hi lo) (hN : N < 18446744073709551616) : hi = 0 ∧ lo = N := by
  obtain ⟨a0, a1, b0, b1, hN⟩ := h
  omega
theorem Wd.zero {N : Nat} {hi lo : Int} (h : Wd N hi lo) : (hi = 0 ∧ lo = 0) ↔ N = 0 := by
  obtain ⟨a0, a1, b0, b1, hN⟩ := h
  omega
theorem Wd.same {M N : Nat} {hi lo hi' lo' : Int} (h : Wd M hi lo) (h' : Wd N hi' lo') : (hi = hi' ∧ lo = lo') ↔ M = N := by
  obtain ⟨a0, a1, b0, b1, hM⟩ := h
  obtain ⟨c0, c1, d0, d1, hN⟩ := h'
  omega
end Go.Proofs.YtacnkcojhlbkoaaGreatDoor.NL
namespace Go.Proofs.YtacnkcojhlbkoaaGreatDoor
open Go.RowKit Go.Proofs.YtacnkcojhlbkoaaGreatDoorW.PrintWords Go.Proofs.YtacnkcojhlbkoaaGreatDoorW.PrintLast Go.Proofs.YtacnkcojhlbkoaaGreatDoorW.PrintMore Go.Proofs.YtacnkcojhlbkoaaGreatDoor.NL
set_option maxRecDepth 100000
/-- What a field, an integer bit and a fraction mean. -/
def MeanP (b4 one : Bool) (F T R d : Nat) (hi lo : Int) (w : World) (e : Ending) (w' : World) : Prop :=
  Below w.heap.size w w' ∧
  if b4 = true ∧ one = false ∧ F ≠ 0 then e = .returned (.iface 146 (.agg #[.int .u64 0, .int .u64 1, .bool false]))
  else if b4 = true ∧ one = true ∧ F = 0 then e = .returned (.iface 149 (.agg #[.int .u64 0, .int .u64 1, .int .u64 hi, .int .u64 lo]))
  else if F ≠ T then e = .returned (.iface 149 (.agg #[.int .u64 0, .int .u64 F, .int .u64 hi, .int .u64 lo]))
  else if R = 0 then e = .returned (.iface 144 (.agg #[]))
  else ∃ h l : Int, e = .returned (.iface 146 (.agg #[.int .u64 h, .int .u64 l, .bool (decide (R % 2 ^ d ≠ R))])) ∧ Hid (Wd (R % 2 ^ d) h l)

set_option maxHeartbeats 8000000 in
theorem mean_A {F R : Nat} {hi lo : Int} (f : Int) (one : Bool) (w : World) (hR : Wd R hi lo) (hb : (f == 4) = true) (ho : one = false) (hF : F ≠ 0) :
    Calls Tryz.prog 107 #[kV f, wV 0 F, wV hi lo, .bool one] w (MeanP (f == 4) one F (lastN f) R (fmD f - 2).toNat hi lo w) := by
  have HEX := Lib.hid fun w' => explicit_any f w'
  have HLA := Lib.hid fun w' => last_any f w'
  obtain ⟨d1, d2⟩ := D_bd2 f
  obtain ⟨p, hp⟩ : ∃ p : Nat, fmD f - 2 = p := ⟨(fmD f - 2).toNat, by omega⟩
  have hp2 : (fmD f - 2).toNat = p := by omega
  have hwp : IntKind.i64.wrap (p : Int) = p := by rw [IntKind.wrap_i64]; omega
  have HLO : Hid (∀ w', Calls Tryz.prog 106 #[wV hi lo, .int .i64 p] w' (GivesW (R % 2 ^ p) w')) := Lib.hid fun w' => wlow_any p w' hR (by omega)
  rw [hp2]
  obtain ⟨b4, hb4⟩ : ∃ b, (f == 4) = b := ⟨_, rfl⟩
  rw [hb4] at HEX ⊢
  have HR := Lib.hid hR
  unfold kV at *
  clear hp2 hR
  show Calls Tryz.prog 107 #[.agg #[.int .i64 (fmD f), .int .i64 (fmE f), .int .i64 (fmL f), .int .i64 (fmH f), .int .i64 (fmW f), .int .i64 f], wV 0 F, wV hi lo, .bool one] w _
  generalize lastN f = T at *
  generalize fmD f = D at *
  generalize fmE f = E at *
  generalize fmL f = L at *
  generalize fmH f = H at *
  generalize fmW f = W at *
  obtain rfl : b4 = true := hb4.symm.trans hb
  clear hb hb4
  subst ho
  have t0 : ((F : Int) == 0) = false := by simp; omega
  have HF := Lib.hid hF
  clear hF
  go_enter Tryz.func107, Tryz.ntmps107
  go_wp2_with (first | (go_at_call 103; (with_reducible refine (HEX.out _).mono ?_); rintro e w1 ⟨rfl, b1⟩; obtain ⟨hc1, hf1⟩ := bcell b1; (try simp only [dr_size, dr_cell] at hc1); (try simp only [dr_size, dr_frozen] at hf1); have hz1 := below_size b1; (try simp at hz1); (try have z01 : w.heap.size < w1.heap.size := (by omega)); (try have z11 : w.heap.size + 1 < w1.heap.size := (by omega)); (try have z21 : w.heap.size + 1 + 1 < w1.heap.size := (by omega)); (try have z31 : w.heap.size + 1 + 1 + 1 < w1.heap.size := (by omega))) | (go_at_call 103; (with_reducible refine (HEX.out _).mono ?_); rintro e w2 ⟨rfl, b2⟩; obtain ⟨hc2, hf2⟩ := bcell b2; (try simp only [dr_size, dr_cell] at hc2); (try simp only [dr_size, dr_frozen] at hf2); have hz2 := below_size b2; (try simp at hz2); (try have z02 : w.heap.size < w2.heap.size := (by omega)); (try have z12 : w.heap.size + 1 < w2.heap.size := (by omega)); (try have z22 : w.heap.size + 1 + 1 < w2.heap.size := (by omega)); (try have z32 : w.heap.size + 1 + 1 + 1 < w2.heap.size := (by omega)); (try have yw12 : w1.heap.size < w2.heap.size := (by omega))))
  exact bodyPost_ret (v := .iface 146 (.agg #[.int .u64 0, .int .u64 1, .bool false])) (by simp [results, Tryz.results107, go_sem]) rfl ⟨bel, by rw [if_pos ⟨rfl, rfl, HF.out⟩]⟩

set_option maxHeartbeats 8000000 in
theorem mean_B {F R : Nat} {hi lo : Int} (f : Int) (one : Bool) (w : World) (hR : Wd R hi lo) (hb : (f == 4) = true) (ho : one = true) (hF : F = 0) :
    Calls Tryz.prog 107 #[kV f, wV 0 F, wV hi lo, .bool one] w (MeanP (f == 4) one F (lastN f) R (fmD f - 2).toNat hi lo w) := by
  have HEX := Lib.hid fun w' => explicit_any f w'
  have HLA := Lib.hid fun w' => last_any f w'
  obtain ⟨d1, d2⟩ := D_bd2 f
  obtain ⟨p, hp⟩ : ∃ p : Nat, fmD f - 2 = p := ⟨(fmD f - 2).toNat, by omega⟩
  have hp2 : (fmD f - 2).toNat = p := by omega
  have hwp : IntKind.i64.wrap (p : Int) = p := by rw [IntKind.wrap_i64]; omega
  have HLO : Hid (∀ w', Calls Tryz.prog 106 #[wV hi lo, .int .i64 p] w' (GivesW (R % 2 ^ p) w')) := Lib.hid fun w' => wlow_any p w' hR (by omega)
  rw [hp2]
  obtain ⟨b4, hb4⟩ : ∃ b, (f == 4) = b := ⟨_, rfl⟩
  rw [hb4] at HEX ⊢
  have HR := Lib.hid hR
  unfold kV at *
  clear hp2 hR
  show Calls Tryz.prog 107 #[.agg #[.int .i64 (fmD f), .int .i64 (fmE f), .int .i64 (fmL f), .int .i64 (fmH f), .int .i64 (fmW f), .int .i64 f], wV 0 F, wV hi lo, .bool one] w _
  generalize lastN f = T at *
  generalize fmD f = D at *
  generalize fmE f = E at *
  generalize fmL f = L at *
  generalize fmH f = H at *
  generalize fmW f = W at *
  obtain rfl : b4 = true := hb4.symm.trans hb
  clear hb hb4
  subst ho
  subst hF
  go_enter Tryz.func107, Tryz.ntmps107
  go_wp2_with (first | (go_at_call 103; (with_reducible refine (HEX.out _).mono ?_); rintro e w1 ⟨rfl, b1⟩; obtain ⟨hc1, hf1⟩ := bcell b1; (try simp only [dr_size, dr_cell] at hc1); (try simp only [dr_size, dr_frozen] at hf1); have hz1 := below_size b1; (try simp at hz1); (try have z01 : w.heap.size < w1.heap.size := (by omega)); (try have z11 : w.heap.size + 1 < w1.heap.size := (by omega)); (try have z21 : w.heap.size + 1 + 1 < w1.heap.size := (by omega)); (try have z31 : w.heap.size + 1 + 1 + 1 < w1.heap.size := (by omega))) | (go_at_call 103; (with_reducible refine (HEX.out _).mono ?_); rintro e w2 ⟨rfl, b2⟩; obtain ⟨hc2, hf2⟩ := bcell b2; (try simp only [dr_size, dr_cell] at hc2); (try simp only [dr_size, dr_frozen] at hf2); have hz2 := below_size b2; (try simp at hz2); (try have z02 : w.heap.size < w2.heap.size := (by omega)); (try have z12 : w.heap.size + 1 < w2.heap.size := (by omega)); (try have z22 : w.heap.size + 1 + 1 < w2.heap.size := (by omega)); (try have z32 : w.heap.size + 1 + 1 + 1 < w2.heap.size := (by omega)); (try have yw12 : w1.heap.size < w2.heap.size := (by omega))))
  exact bodyPost_ret (v := .iface 149 (.agg #[.int .u64 0, .int .u64 1, .int .u64 hi, .int .u64 lo])) (by simp [results, Tryz.results107, go_sem]) rfl ⟨bel, by rw [if_neg (by simp), if_pos ⟨rfl, rfl, rfl⟩]⟩

set_option maxHeartbeats 8000000 in
theorem mean_C1 {F R : Nat} {hi lo : Int} (f : Int) (one : Bool) (w : World) (hR : Wd R hi lo) (hT : F ≠ lastN f) (hA2 : ¬ ((f == 4) = true ∧ one = false ∧ F ≠ 0)) (hB2 : ¬ ((f == 4) = true ∧ one = true ∧ F = 0)) (hb : (f == 4) = false) :
    Calls Tryz.prog 107 #[kV f, wV 0 F, wV hi lo, .bool one] w (MeanP (f == 4) one F (lastN f) R (fmD f - 2).toNat hi lo w) := by
  have HEX := Lib.hid fun w' => explicit_any f w'
  have HLA := Lib.hid fun w' => last_any f w'
  obtain ⟨d1, d2⟩ := D_bd2 f
  obtain ⟨p, hp⟩ : ∃ p : Nat, fmD f - 2 = p := ⟨(fmD f - 2).toNat, by omega⟩
  have hp2 : (fmD f - 2).toNat = p := by omega
  have hwp : IntKind.i64.wrap (p : Int) = p := by rw [IntKind.wrap_i64]; omega
  have HLO : Hid (∀ w', Calls Tryz.prog 106 #[wV hi lo, .int .i64 p] w' (GivesW (R % 2 ^ p) w')) := Lib.hid fun w' => wlow_any p w' hR (by omega)
  rw [hp2]
  obtain ⟨b4, hb4⟩ : ∃ b, (f == 4) = b := ⟨_, rfl⟩
  rw [hb4] at HEX ⊢
  have HR := Lib.hid hR
  unfold kV at *
  clear hp2 hR
  show Calls Tryz.prog 107 #[.agg #[.int .i64 (fmD f), .int .i64 (fmE f), .int .i64 (fmL f), .int .i64 (fmH f), .int .i64 (fmW f), .int .i64 f], wV 0 F, wV hi lo, .bool one] w _
  generalize lastN f = T at *
  generalize fmD f = D at *
  generalize fmE f = E at *
  generalize fmL f = L at *
  generalize fmH f = H at *
  generalize fmW f = W at *
  rw [hb4] at hA2 hB2
  have HT := Lib.hid hT
  have HA2 := Lib.hid hA2
  have HB2 := Lib.hid hB2
  have hpost : ∀ w' e, e = .returned (.iface 149 (.agg #[.int .u64 0, .int .u64 F, .int .u64 hi, .int .u64 lo])) → Below w.heap.size w w' → MeanP b4 one F T R p hi lo w e w' := fun w' e h1 h2 => ⟨h2, by rw [if_neg HA2.out, if_neg HB2.out, if_pos HT.out]; exact h1⟩
  have HPO := Lib.hid hpost
  have t9 : ((F : Int) == (T : Int)) = false := by simp; omega
  obtain rfl : b4 = false := hb4.symm.trans hb
  clear hb hb4
  clear hT hA2 hB2 hpost HT HA2 HB2
  go_enter Tryz.func107, Tryz.ntmps107
  go_wp2_with (first | (go_at_call 103; (with_reducible refine (HEX.out _).mono ?_); rintro e w1 ⟨rfl, b1⟩; obtain ⟨hc1, hf1⟩ := bcell b1; (try simp only [dr_size, dr_cell] at hc1); (try simp only [dr_size, dr_frozen] at hf1); have hz1 := below_size b1; (try simp at hz1); (try have z01 : w.heap.size < w1.heap.size := (by omega)); (try have z11 : w.heap.size + 1 < w1.heap.size := (by omega)); (try have z21 : w.heap.size + 1 + 1 < w1.heap.size := (by omega)); (try have z31 : w.heap.size + 1 + 1 + 1 < w1.heap.size := (by omega))) | (go_at_call 103; (with_reducible refine (HEX.out _).mono ?_); rintro e w2 ⟨rfl, b2⟩; obtain ⟨hc2, hf2⟩ := bcell b2; (try simp only [dr_size, dr_cell] at hc2); (try simp only [dr_size, dr_frozen] at hf2); have hz2 := below_size b2; (try simp at hz2); (try have z02 : w.heap.size < w2.heap.size := (by omega)); (try have z12 : w.heap.size + 1 < w2.heap.size := (by omega)); (try have z22 : w.heap.size + 1 + 1 < w2.heap.size := (by omega)); (try have z32 : w.heap.size + 1 + 1 + 1 < w2.heap.size := (by omega)); (try have yw12 : w1.heap.size < w2.heap.size := (by omega))))
  go_region_with (first | (go_at_call 123; (with_reducible refine (HLA.out _).mono ?_); rintro e w3 ⟨rfl, b3⟩; obtain ⟨hc3, hf3⟩ := bcell b3; (try simp only [dr_size, dr_cell] at hc3); (try simp only [dr_size, dr_frozen] at hf3); have hz3 := below_size b3; (try simp at hz3); (try have z03 : w.heap.size < w3.heap.size := (by omega)); (try have z13 : w.heap.size + 1 < w3.heap.size := (by omega)); (try have z23 : w.heap.size + 1 + 1 < w3.heap.size := (by omega)); (try have z33 : w.heap.size + 1 + 1 + 1 < w3.heap.size := (by omega)); (try have yw13 : w1.heap.size < w3.heap.size := (by omega)); (try have yw23 : w2.heap.size < w3.heap.size := (by omega))))
  all_goals
    go_wp2
    exact bodyPost_ret (v := .iface 149 (.agg #[.int .u64 0, .int .u64 F, .int .u64 hi, .int .u64 lo])) (by simp [results, Tryz.results107, go_sem]) rfl (HPO.out _ _ rfl bel)

set_option maxHeartbeats 8000000 in
theorem mean_C2 {F R : Nat} {hi lo : Int} (f : Int) (one : Bool) (w : World) (hR : Wd R hi lo) (hT : F ≠ lastN f) (hA2 : ¬ ((f == 4) = true ∧ one = false ∧ F ≠ 0)) (hB2 : ¬ ((f == 4) = true ∧ one = true ∧ F = 0)) (hb : (f == 4) = true) (ho : one = false) :
    Calls Tryz.prog 107 #[kV f, wV 0 F, wV hi lo, .bool one] w (MeanP (f == 4) one F (lastN f) R (fmD f - 2).toNat hi lo w) := by
  have HEX := Lib.hid fun w' => explicit_any f w'
  have HLA := Lib.hid fun w' => last_any f w'
  obtain ⟨d1, d2⟩ := D_bd2 f
  obtain ⟨p, hp⟩ : ∃ p : Nat, fmD f - 2 = p := ⟨(fmD f - 2).toNat, by omega⟩
  have hp2 : (fmD f - 2).toNat = p := by omega
  have hwp : IntKind.i64.wrap (p : Int) = p := by rw [IntKind.wrap_i64]; omega
  have HLO : Hid (∀ w', Calls Tryz.prog 106 #[wV hi lo, .int .i64 p] w' (GivesW (R % 2 ^ p) w')) := Lib.hid fun w' => wlow_any p w' hR (by omega)
  rw [hp2]
  obtain ⟨b4, hb4⟩ : ∃ b, (f == 4) = b := ⟨_, rfl⟩
  rw [hb4] at HEX ⊢
  have HR := Lib.hid hR
  unfold kV at *
  clear hp2 hR
  show Calls Tryz.prog 107 #[.agg #[.int .i64 (fmD f), .int .i64 (fmE f), .int .i64 (fmL f), .int .i64 (fmH f), .int .i64 (fmW f), .int .i64 f], wV 0 F, wV hi lo, .bool one] w _
  generalize lastN f = T at *
  generalize fmD f = D at *
  generalize fmE f = E at *
  generalize fmL f = L at *
  generalize fmH f = H at *
  generalize fmW f = W at *
  rw [hb4] at hA2 hB2
  have HT := Lib.hid hT
  have HA2 := Lib.hid hA2
  have HB2 := Lib.hid hB2
  have hpost : ∀ w' e, e = .returned (.iface 149 (.agg #[.int .u64 0, .int .u64 F, .int .u64 hi, .int .u64 lo])) → Below w.heap.size w w' → MeanP b4 one F T R p hi lo w e w' := fun w' e h1 h2 => ⟨h2, by rw [if_neg HA2.out, if_neg HB2.out, if_pos HT.out]; exact h1⟩
  have HPO := Lib.hid hpost
  have t9 : ((F : Int) == (T : Int)) = false := by simp; omega
  obtain rfl : b4 = true := hb4.symm.trans hb
  clear hb hb4
  subst ho
  obtain rfl : F = 0 := Classical.not_not.mp fun h => hA2 ⟨rfl, rfl, h⟩
  have t8 : ((0 : Int) == (T : Int)) = false := by simpa using t9
  clear hT hA2 hB2 hpost HT HA2 HB2
  go_enter Tryz.func107, Tryz.ntmps107
  go_wp2_with (first | (go_at_call 103; (with_reducible refine (HEX.out _).mono ?_); rintro e w1 ⟨rfl, b1⟩; obtain ⟨hc1, hf1⟩ := bcell b1; (try simp only [dr_size, dr_cell] at hc1); (try simp only [dr_size, dr_frozen] at hf1); have hz1 := below_size b1; (try simp at hz1); (try have z01 : w.heap.size < w1.heap.size := (by omega)); (try have z11 : w.heap.size + 1 < w1.heap.size := (by omega)); (try have z21 : w.heap.size + 1 + 1 < w1.heap.size := (by omega)); (try have z31 : w.heap.size + 1 + 1 + 1 < w1.heap.size := (by omega))) | (go_at_call 103; (with_reducible refine (HEX.out _).mono ?_); rintro e w2 ⟨rfl, b2⟩; obtain ⟨hc2, hf2⟩ := bcell b2; (try simp only [dr_size, dr_cell] at hc2); (try simp only [dr_size, dr_frozen] at hf2); have hz2 := below_size b2; (try simp at hz2); (try have z02 : w.heap.size < w2.heap.size := (by omega)); (try have z12 : w.heap.size + 1 < w2.heap.size := (by omega)); (try have z22 : w.heap.size + 1 + 1 < w2.heap.size := (by omega)); (try have z32 : w.heap.size + 1 + 1 + 1 < w2.heap.size := (by omega)); (try have yw12 : w1.heap.size < w2.heap.size := (by omega))))
  go_region_with (first | (go_at_call 123; (with_reducible refine (HLA.out _).mono ?_); rintro e w3 ⟨rfl, b3⟩; obtain ⟨hc3, hf3⟩ := bcell b3; (try simp only [dr_size, dr_cell] at hc3); (try simp only [dr_size, dr_frozen] at hf3); have hz3 := below_size b3; (try simp at hz3); (try have z03 : w.heap.size < w3.heap.size := (by omega)); (try have z13 : w.heap.size + 1 < w3.heap.size := (by omega)); (try have z23 : w.heap.size + 1 + 1 < w3.heap.size := (by omega)); (try have z33 : w.heap.size + 1 + 1 + 1 < w3.heap.size := (by omega)); (try have yw13 : w1.heap.size < w3.heap.size := (by omega)); (try have yw23 : w2.heap.size < w3.heap.size := (by omega))))
  all_goals
    go_wp2
    exact bodyPost_ret (v := .iface 149 (.agg #[.int .u64 0, .int .u64 ((0 : Nat) : Int), .int .u64 hi, .int .u64 lo])) (by simp [results, Tryz.results107, go_sem]) rfl (HPO.out _ _ rfl bel)

set_option maxHeartbeats 8000000 in
theorem mean_C3 {F R : Nat} {hi lo : Int} (f : Int) (one : Bool) (w : World) (hR : Wd R hi lo) (hT : F ≠ lastN f) (hA2 : ¬ ((f == 4) = true ∧ one = false ∧ F ≠ 0)) (hB2 : ¬ ((f == 4) = true ∧ one = true ∧ F = 0)) (hb : (f == 4) = true) (ho : one = true) :
    Calls Tryz.prog 107 #[kV f, wV 0 F, wV hi lo, .bool one] w (MeanP (f == 4) one F (lastN f) R (fmD f - 2).toNat hi lo w) := by
  have HEX := Lib.hid fun w' => explicit_any f w'
  have HLA := Lib.hid fun w' => last_any f w'
  obtain ⟨d1, d2⟩ := D_bd2 f
  obtain ⟨p, hp⟩ : ∃ p : Nat, fmD f - 2 = p := ⟨(fmD f - 2).toNat, by omega⟩
  have hp2 : (fmD f - 2).toNat = p := by omega
  have hwp : IntKind.i64.wrap (p : Int) = p := by rw [IntKind.wrap_i64]; omega
  have HLO : Hid (∀ w', Calls Tryz.prog 106 #[wV hi lo, .int .i64 p] w' (GivesW (R % 2 ^ p) w')) := Lib.hid fun w' => wlow_any p w' hR (by omega)
  rw [hp2]
  obtain ⟨b4, hb4⟩ : ∃ b, (f == 4) = b := ⟨_, rfl⟩
  rw [hb4] at HEX ⊢
  have HR := Lib.hid hR
  unfold kV at *
  clear hp2 hR
  show Calls Tryz.prog 107 #[.agg #[.int .i64 (fmD f), .int .i64 (fmE f), .int .i64 (fmL f), .int .i64 (fmH f), .int .i64 (fmW f), .int .i64 f], wV 0 F, wV hi lo, .bool one] w _
  generalize lastN f = T at *
  generalize fmD f = D at *
  generalize fmE f = E at *
  generalize fmL f = L at *
  generalize fmH f = H at *
  generalize fmW f = W at *
  rw [hb4] at hA2 hB2
  have HT := Lib.hid hT
  have HA2 := Lib.hid hA2
  have HB2 := Lib.hid hB2
  have hpost : ∀ w' e, e = .returned (.iface 149 (.agg #[.int .u64 0, .int .u64 F, .int .u64 hi, .int .u64 lo])) → Below w.heap.size w w' → MeanP b4 one F T R p hi lo w e w' := fun w' e h1 h2 => ⟨h2, by rw [if_neg HA2.out, if_neg HB2.out, if_pos HT.out]; exact h1⟩
  have HPO := Lib.hid hpost
  have t9 : ((F : Int) == (T : Int)) = false := by simp; omega
  obtain rfl : b4 = true := hb4.symm.trans hb
  clear hb hb4
  subst ho
  have t0 : ((F : Int) == 0) = false := by simp; intro h; exact hB2 ⟨rfl, rfl, by omega⟩
  clear hT hA2 hB2 hpost HT HA2 HB2
  go_enter Tryz.func107, Tryz.ntmps107
  go_wp2_with (first | (go_at_call 103; (with_reducible refine (HEX.out _).mono ?_); rintro e w1 ⟨rfl, b1⟩; obtain ⟨hc1, hf1⟩ := bcell b1; (try simp only [dr_size, dr_cell] at hc1); (try simp only [dr_size, dr_frozen] at hf1); have hz1 := below_size b1; (try simp at hz1); (try have z01 : w.heap.size < w1.heap.size := (by omega)); (try have z11 : w.heap.size + 1 < w1.heap.size := (by omega)); (try have z21 : w.heap.size + 1 + 1 < w1.heap.size := (by omega)); (try have z31 : w.heap.size + 1 + 1 + 1 < w1.heap.size := (by omega))) | (go_at_call 103; (with_reducible refine (HEX.out _).mono ?_); rintro e w2 ⟨rfl, b2⟩; obtain ⟨hc2, hf2⟩ := bcell b2; (try simp only [dr_size, dr_cell] at hc2); (try simp only [dr_size, dr_frozen] at hf2); have hz2 := below_size b2; (try simp at hz2); (try have z02 : w.heap.size < w2.heap.size := (by omega)); (try have z12 : w.heap.size + 1 < w2.heap.size := (by omega)); (try have z22 : w.heap.size + 1 + 1 < w2.heap.size := (by omega)); (try have z32 : w.heap.size + 1 + 1 + 1 < w2.heap.size := (by omega)); (try have yw12 : w1.heap.size < w2.heap.size := (by omega))))
  go_region_with (first | (go_at_call 123; (with_reducible refine (HLA.out _).mono ?_); rintro e w3 ⟨rfl, b3⟩; obtain ⟨hc3, hf3⟩ := bcell b3; (try simp only [dr_size, dr_cell] at hc3); (try simp only [dr_size, dr_frozen] at hf3); have hz3 := below_size b3; (try simp at hz3); (try have z03 : w.heap.size < w3.heap.size := (by omega)); (try have z13 : w.heap.size + 1 < w3.heap.size := (by omega)); (try have z23 : w.heap.size + 1 + 1 < w3.heap.size := (by omega)); (try have z33 : w.heap.size + 1 + 1 + 1 < w3.heap.size := (by omega)); (try have yw13 : w1.heap.size < w3.heap.size := (by omega)); (try have yw23 : w2.heap.size < w3.heap.size := (by omega))))
  all_goals
    go_wp2
    exact bodyPost_ret (v := .iface 149 (.agg #[.int .u64 0, .int .u64 F, .int .u64 hi, .int .u64 lo])) (by simp [results, Tryz.results107, go_sem]) rfl (HPO.out _ _ rfl bel)

set_option maxHeartbeats 8000000 in
theorem mean_D1 {F R : Nat} {hi lo : Int} (f : Int) (one : Bool) (w : World) (hR : Wd R hi lo) (hT : F = lastN f) (hF0 : F ≠ 0) (hb : (f == 4) = false) (hR0 : R = 0) :
    Calls Tryz.prog 107 #[kV f, wV 0 F, wV hi lo, .bool one] w (MeanP (f == 4) one F (lastN f) R (fmD f - 2).toNat hi lo w) := by
  have HEX := Lib.hid fun w' => explicit_any f w'
  have HLA := Lib.hid fun w' => last_any f w'
  obtain ⟨d1, d2⟩ := D_bd2 f
  obtain ⟨p, hp⟩ : ∃ p : Nat, fmD f - 2 = p := ⟨(fmD f - 2).toNat, by omega⟩
  have hp2 : (fmD f - 2).toNat = p := by omega
  have hwp : IntKind.i64.wrap (p : Int) = p := by rw [IntKind.wrap_i64]; omega
  have HLO : Hid (∀ w', Calls Tryz.prog 106 #[wV hi lo, .int .i64 p] w' (GivesW (R % 2 ^ p) w')) := Lib.hid fun w' => wlow_any p w' hR (by omega)
  rw [hp2]
  obtain ⟨b4, hb4⟩ : ∃ b, (f == 4) = b := ⟨_, rfl⟩
  rw [hb4] at HEX ⊢
  have HR := Lib.hid hR
  unfold kV at *
  clear hp2 hR
  show Calls Tryz.prog 107 #[.agg #[.int .i64 (fmD f), .int .i64 (fmE f), .int .i64 (fmL f), .int .i64 (fmH f), .int .i64 (fmW f), .int .i64 f], wV 0 F, wV hi lo, .bool one] w _
  generalize lastN f = T at *
  generalize fmD f = D at *
  generalize fmE f = E at *
  generalize fmL f = L at *
  generalize fmH f = H at *
  generalize fmW f = W at *
  obtain rfl : b4 = false := hb4.symm.trans hb
  clear hb hb4
  have hpost : ∀ w' e, e = .returned (.iface 144 (.agg #[])) → Below w.heap.size w w' → MeanP false one F T R p hi lo w e w' := fun w' e h1 h2 => ⟨h2, by rw [if_neg (by simp), if_neg (by simp [hF0]), if_neg (by simp [hT]), if_pos hR0]; exact h1⟩
  obtain ⟨rfl, rfl⟩ := HR.out.zero.mpr hR0
  have HPO := Lib.hid hpost
  clear hpost
  clear hF0
  subst hT
  go_enter Tryz.func107, Tryz.ntmps107
  go_wp2_with (first | (go_at_call 103; (with_reducible refine (HEX.out _).mono ?_); rintro e w1 ⟨rfl, b1⟩; obtain ⟨hc1, hf1⟩ := bcell b1; (try simp only [dr_size, dr_cell] at hc1); (try simp only [dr_size, dr_frozen] at hf1); have hz1 := below_size b1; (try simp at hz1); (try have z01 : w.heap.size < w1.heap.size := (by omega)); (try have z11 : w.heap.size + 1 < w1.heap.size := (by omega)); (try have z21 : w.heap.size + 1 + 1 < w1.heap.size := (by omega)); (try have z31 : w.heap.size + 1 + 1 + 1 < w1.heap.size := (by omega))) | (go_at_call 103; (with_reducible refine (HEX.out _).mono ?_); rintro e w2 ⟨rfl, b2⟩; obtain ⟨hc2, hf2⟩ := bcell b2; (try simp only [dr_size, dr_cell] at hc2); (try simp only [dr_size, dr_frozen] at hf2); have hz2 := below_size b2; (try simp at hz2); (try have z02 : w.heap.size < w2.heap.size := (by omega)); (try have z12 : w.heap.size + 1 < w2.heap.size := (by omega)); (try have z22 : w.heap.size + 1 + 1 < w2.heap.size := (by omega)); (try have z32 : w.heap.size + 1 + 1 + 1 < w2.heap.size := (by omega)); (try have yw12 : w1.heap.size < w2.heap.size := (by omega))))
  go_region_with (first | (go_at_call 123; (with_reducible refine (HLA.out _).mono ?_); rintro e w3 ⟨rfl, b3⟩; obtain ⟨hc3, hf3⟩ := bcell b3; (try simp only [dr_size, dr_cell] at hc3); (try simp only [dr_size, dr_frozen] at hf3); have hz3 := below_size b3; (try simp at hz3); (try have z03 : w.heap.size < w3.heap.size := (by omega)); (try have z13 : w.heap.size + 1 < w3.heap.size := (by omega)); (try have z23 : w.heap.size + 1 + 1 < w3.heap.size := (by omega)); (try have z33 : w.heap.size + 1 + 1 + 1 < w3.heap.size := (by omega)); (try have yw13 : w1.heap.size < w3.heap.size := (by omega)); (try have yw23 : w2.heap.size < w3.heap.size := (by omega))))
  all_goals
    go_wp2_with (first | (go_at_call 106; (with_reducible refine (HLO.out _).mono ?_); rintro e w4 ⟨h4, l4, rfl, hw4, b4⟩; obtain ⟨hc4, hf4⟩ := bcell b4; (try simp only [dr_size, dr_cell] at hc4); (try simp only [dr_size, dr_frozen] at hf4); have hz4 := below_size b4; (try simp at hz4); (try have z04 : w.heap.size < w4.heap.size := (by omega)); (try have z14 : w.heap.size + 1 < w4.heap.size := (by omega)); (try have z24 : w.heap.size + 1 + 1 < w4.heap.size := (by omega)); (try have z34 : w.heap.size + 1 + 1 + 1 < w4.heap.size := (by omega)); (try have yw14 : w1.heap.size < w4.heap.size := (by omega)); (try have yw24 : w2.heap.size < w4.heap.size := (by omega)); (try have yw34 : w3.heap.size < w4.heap.size := (by omega))))
    exact bodyPost_ret (v := .iface 144 (.agg #[])) (by simp [results, Tryz.results107, go_sem]) rfl (HPO.out _ _ rfl bel)

set_option maxHeartbeats 8000000 in
theorem mean_D2 {F R : Nat} {hi lo : Int} (f : Int) (one : Bool) (w : World) (hR : Wd R hi lo) (hT : F = lastN f) (hF0 : F ≠ 0) (hb : (f == 4) = true) (ho : one = true) (hR0 : R = 0) :
    Calls Tryz.prog 107 #[kV f, wV 0 F, wV hi lo, .bool one] w (MeanP (f == 4) one F (lastN f) R (fmD f - 2).toNat hi lo w) := by
  have HEX := Lib.hid fun w' => explicit_any f w'
  have HLA := Lib.hid fun w' => last_any f w'
  obtain ⟨d1, d2⟩ := D_bd2 f
  obtain ⟨p, hp⟩ : ∃ p : Nat, fmD f - 2 = p := ⟨(fmD f - 2).toNat, by omega⟩
  have hp2 : (fmD f - 2).toNat = p := by omega
  have hwp : IntKind.i64.wrap (p : Int) = p := by rw [IntKind.wrap_i64]; omega
  have HLO : Hid (∀ w', Calls Tryz.prog 106 #[wV hi lo, .int .i64 p] w' (GivesW (R % 2 ^ p) w')) := Lib.hid fun w' => wlow_any p w' hR (by omega)
  rw [hp2]
  obtain ⟨b4, hb4⟩ : ∃ b, (f == 4) = b := ⟨_, rfl⟩
  rw [hb4] at HEX ⊢
  have HR := Lib.hid hR
  unfold kV at *
  clear hp2 hR
  show Calls Tryz.prog 107 #[.agg #[.int .i64 (fmD f), .int .i64 (fmE f), .int .i64 (fmL f), .int .i64 (fmH f), .int .i64 (fmW f), .int .i64 f], wV 0 F, wV hi lo, .bool one] w _
  generalize lastN f = T at *
  generalize fmD f = D at *
  generalize fmE f = E at *
  generalize fmL f = L at *
  generalize fmH f = H at *
  generalize fmW f = W at *
  obtain rfl : b4 = true := hb4.symm.trans hb
  clear hb hb4
  subst ho
  have t0 : ((F : Int) == 0) = false := by simp; omega
  have hpost : ∀ w' e, e = .returned (.iface 144 (.agg #[])) → Below w.heap.size w w' → MeanP true true F T R p hi lo w e w' := fun w' e h1 h2 => ⟨h2, by rw [if_neg (by simp), if_neg (by simp [hF0]), if_neg (by simp [hT]), if_pos hR0]; exact h1⟩
  obtain ⟨rfl, rfl⟩ := HR.out.zero.mpr hR0
  have HPO := Lib.hid hpost
  clear hpost
  clear hF0
  subst hT
  go_enter Tryz.func107, Tryz.ntmps107
  go_wp2_with (first | (go_at_call 103; (with_reducible refine (HEX.out _).mono ?_); rintro e w1 ⟨rfl, b1⟩; obtain ⟨hc1, hf1⟩ := bcell b1; (try simp only [dr_size, dr_cell] at hc1); (try simp only [dr_size, dr_frozen] at hf1); have hz1 := below_size b1; (try simp at hz1); (try have z01 : w.heap.size < w1.heap.size := (by omega)); (try have z11 : w.heap.size + 1 < w1.heap.size := (by omega)); (try have z21 : w.heap.size + 1 + 1 < w1.heap.size := (by omega)); (try have z31 : w.heap.size + 1 + 1 + 1 < w1.heap.size := (by omega))) | (go_at_call 103; (with_reducible refine (HEX.out _).mono ?_); rintro e w2 ⟨rfl, b2⟩; obtain ⟨hc2, hf2⟩ := bcell b2; (try simp only [dr_size, dr_cell] at hc2); (try simp only [dr_size, dr_frozen] at hf2); have hz2 := below_size b2; (try simp at hz2); (try have z02 : w.heap.size < w2.heap.size := (by omega)); (try have z12 : w.heap.size + 1 < w2.heap.size := (by omega)); (try have z22 : w.heap.size + 1 + 1 < w2.heap.size := (by omega)); (try have z32 : w.heap.size + 1 + 1 + 1 < w2.heap.size := (by omega)); (try have yw12 : w1.heap.size < w2.heap.size := (by omega))))
  go_region_with (first | (go_at_call 123; (with_reducible refine (HLA.out _).mono ?_); rintro e w3 ⟨rfl, b3⟩; obtain ⟨hc3, hf3⟩ := bcell b3; (try simp only [dr_size, dr_cell] at hc3); (try simp only [dr_size, dr_frozen] at hf3); have hz3 := below_size b3; (try simp at hz3); (try have z03 : w.heap.size < w3.heap.size := (by omega)); (try have z13 : w.heap.size + 1 < w3.heap.size := (by omega)); (try have z23 : w.heap.size + 1 + 1 < w3.heap.size := (by omega)); (try have z33 : w.heap.size + 1 + 1 + 1 < w3.heap.size := (by omega)); (try have yw13 : w1.heap.size < w3.heap.size := (by omega)); (try have yw23 : w2.heap.size < w3.heap.size := (by omega))))
  all_goals
    go_wp2_with (first | (go_at_call 106; (with_reducible refine (HLO.out _).mono ?_); rintro e w4 ⟨h4, l4, rfl, hw4, b4⟩; obtain ⟨hc4, hf4⟩ := bcell b4; (try simp only [dr_size, dr_cell] at hc4); (try simp only [dr_size, dr_frozen] at hf4); have hz4 := below_size b4; (try simp at hz4); (try have z04 : w.heap.size < w4.heap.size := (by omega)); (try have z14 : w.heap.size + 1 < w4.heap.size := (by omega)); (try have z24 : w.heap.size + 1 + 1 < w4.heap.size := (by omega)); (try have z34 : w.heap.size + 1 + 1 + 1 < w4.heap.size := (by omega)); (try have yw14 : w1.heap.size < w4.heap.size := (by omega)); (try have yw24 : w2.heap.size < w4.heap.size := (by omega)); (try have yw34 : w3.heap.size < w4.heap.size := (by omega))))
    exact bodyPost_ret (v := .iface 144 (.agg #[])) (by simp [results, Tryz.results107, go_sem]) rfl (HPO.out _ _ rfl bel)
end Go.Proofs.YtacnkcojhlbkoaaGreatDoor
