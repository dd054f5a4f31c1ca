/- binary: finite, Make, Special. binary: Least, LeastNormal, Epsilon: their walks. binary: what a datum is in bits. -/
import Derived.Test.YtacnkcojhlbkoaaGreatDoorJFor8
set_option linter.unusedSimpArgs false
set_option linter.unusedVariables false
set_option linter.unnecessarySimpa false
namespace Go.Proofs.YtacnkcojhlbkoaaGreatDoor
open Go.RowKit Go.Proofs.YtacnkcojhlbkoaaGreatDoorW.PrintWords Go.Proofs.YtacnkcojhlbkoaaGreatDoorW.PrintLast Go.Proofs.YtacnkcojhlbkoaaGreatDoorW.PrintMore Go.Proofs.YtacnkcojhlbkoaaGreatDoor.NL
set_option maxRecDepth 100000
set_option exponentiation.threshold 100
attribute [local go_sem] max2_int min2_int max_two min_two

theorem blen_small_k {a : List Int} (la : Lim a) {k : Nat} (h : a.length ≤ k) : blen (val a) ≤ 32 * k := by
  rw [blen_le, ← W_two]
  exact Nat.lt_of_lt_of_le (val_lt la) (W_le h)
theorem len_blen {n k : Nat} (h : blen n ≤ 32 * k) : (ofN n).length ≤ k := by
  refine len_ofN_le (Nat.lt_of_lt_of_le (lt_blen _) ?_)
  show _ ≤ W k
  rw [W_two]
  exact Nat.pow_le_pow_right (by omega) h
/-- A datum with a coefficient of its own comes back. -/
def DatumP (f cl : Int) (ng : Bool) (a : List Int) (ex : Int) (w : World) (e : Ending) (w' : World) : Prop := ∃ v, e = .returned (.agg #[.int .i64 f, .int .i64 cl, .bool ng, v, .int .i64 ex]) ∧ Kd.R (Kd.int .u32) 40 w' w.heap.size (fun _ => True) v a ∧ Below w.heap.size w w'
/-- A datum and an error. -/
def DatumE (f cl : Int) (ng : Bool) (a : List Int) (ex er : Int) (w : World) (e : Ending) (w' : World) : Prop := ∃ v, e = .returned (.tuple #[.agg #[.int .i64 f, .int .i64 cl, .bool ng, v, .int .i64 ex], .int .i64 er]) ∧ Kd.R (Kd.int .u32) 40 w' w.heap.size (fun _ => True) v a ∧ Below w.heap.size w w'

theorem Chg.refl0 (w : World) (S : Nat → Prop) : Chg w w S := Chg.of_below (Below.refl _ _)
theorem chg0 {w w' : World} {g : Nat} (h : Chg w w' (fun k => k = g) := by repeat (first | with_reducible exact Chg.refl0 _ _ | ((refine Chg.setCell ?_ ?hpp _); (case hpp => exact rfl)))) : Chg w w' (fun k => k = g) := h
theorem chg2 {w w' : World} {g g2 : Nat} (h : Chg w w' (fun k => k = g ∨ k = g2) := by repeat (first | with_reducible exact Chg.refl0 _ _ | ((refine Chg.setCell ?_ ?hpp _); (case hpp => first | exact .inl rfl | exact .inr rfl))))   : Chg w w' (fun k => k = g ∨ k = g2) := h
theorem R_chg {w1 w2 : World} {base : Nat} {v : Value} {xs : List Int} {S : Nat → Prop} (h : Kd.R (Kd.int .u32) 40 w1 base (fun _ => True) v xs) (hc : Chg w1 w2 S) (hS : ∀ k, base ≤ k → ¬ S k) : Kd.R (Kd.int .u32) 40 w2 base (fun _ => True) v xs :=
  Kd.R_mono (Kd.R_step (Kd.R_bound h) (fun k hk hlt => hc.block k hlt (hS k hk.2.1))) (fun _ _ => trivial)

set_option maxHeartbeats 4000000 in
theorem finite_any {f ex : Int} {ng : Bool} {A : Option Addr} {n c : Nat} {a : List Int} (w : World) (hA : Kd.C (Kd.int .u32) w A n a) (hn : n ≤ 1000000000) :
    Calls Tryz.prog 66 #[kV f, .bool ng, .slice A n c, .int .i64 ex] w (DatumP f 1 ng a ex w) := by
  have HCL : Hid (∀ w', Below w.heap.size w w' → Calls Tryz.prog 97 #[.slice A n c] w' (NewRow w' a)) := Lib.hid fun w' hb => clone_nat A n c a w' (Kd.C_below hA hb) (by omega)
  clear hA
  go_enter Tryz.func66, Tryz.ntmps66
  go_wp2_with fail
  go_region_held3 (fun w' => w'.cell? ⟨w.heap.size, 5, none⟩ = some (.int .i64 f)) (first | (go_keep; done) | (rw [hc1 _ _ (by first | omega | (simp; omega) | simp)]; first | assumption | (simp; done))) ((go_at_call 97; (with_reducible refine (HCL.out _ bel).mono ?_); rintro e w1 ⟨v1, rfl, hv1, b1⟩; obtain ⟨A1, c1, rfl⟩ := Kd.R_slice hv1; have HV := Lib.hid hv1; clear hv1; obtain ⟨hc1, hf1⟩ := bcell b1; have hz1 := below_size b1; (try simp at hz1); have z0 : w.heap.size < w1.heap.size := (by omega); have z1 : w.heap.size + 1 < w1.heap.size := (by omega)))
  rename_i hHeld
  clear hHeld
  go_wp2
  exact bodyPost_ret (v := .agg #[.int .i64 f, .int .i64 1, .bool ng, .slice A1 a.length c1, .int .i64 ex]) (by simp [results, Tryz.results66, go_sem, hc1, z0, z1]) rfl ⟨_, rfl, Kd.R_lower (R_chg (S := fun k => k = w.heap.size + 1) HV.out chg0 (by simp; omega)) (by simp; omega), bel⟩

theorem fmL_bd (f : Int) : -20000 ≤ fmL f ∧ fmL f ≤ 0 := by unfold fmL; repeat' split <;> omega
theorem fmH_bd (f : Int) : 0 ≤ fmH f ∧ fmH f ≤ 20000 := by unfold fmH; repeat' split <;> omega
abbrev D0P (er : Int) := DatumE 0 0 false [] 0 er
set_option maxHeartbeats 4000000 in
theorem make_nofm {f ex : Int} {ng : Bool} {A : Option Addr} {n c : Nat} {a : List Int} (w : World) (hf : isFm f = false) : Calls Tryz.prog 35 #[.int .i64 f, .bool ng, .slice A n c, .int .i64 ex] w (D0P 1 w) := by
  have HK := Lib.hid fun w' => kindOf_no hf w'
  clear hf
  go_enter_defers Tryz.func35, Tryz.ntmps35
  go_wp2_with (first | (go_at_call 41; (with_reducible refine (HK.out _).mono ?_); rintro e w1 ⟨rfl, b1⟩; obtain ⟨hc1, hf1⟩ := bcell b1; have hz1 := below_size b1; (try simp at hz1)))
  (refine leaves_cons (f := 39) (args := #[.pointer (some ⟨w.heap.size + 1, 0, none⟩)]) (by simp) (by simp [go_sem]) ?_; refine (bcaught_panic (w.heap.size + 1) (1) 0 [] _ (BlkIs.one blk0)).mono ?_; rintro e u' w'' ⟨rfl, rfl, hch, hp⟩; have hp' : BlkIs w'' (w.heap.size + 1) 28 (· = #[.int .i64 (1)]) := ⟨_, hp, rfl⟩)
  have hd : BlkIs w'' w.heap.size 25 (· = #[.int .i64 0, .int .i64 0, .bool false, .slice none 0 0, .int .i64 0]) := blk0
  exact ⟨.tuple #[.agg #[.int .i64 0, .int .i64 0, .bool false, .slice none 0 0, .int .i64 0], .int .i64 1], rresults (rs := [.cell 8 25, .cell 9 28]) rfl (by simp) (.cell w.heap.size rfl (load_agg (t := 25) hd Tryz.underlying25 rfl (by kernel_rfl)) (.cell (w.heap.size + 1) rfl (load_one (t := 28) hp' (by kernel_rfl)) .nil)), .slice none 0 0, rfl, Kd.R_nil _ _ _ _ _, below_chg bel hch (by omega)⟩

set_option maxHeartbeats 4000000 in
theorem make_bad {f ex : Int} {ng : Bool} {A : Option Addr} {n c : Nat} {a : List Int} (w : World) (hf : isFm f = true) (hA : Kd.C (Kd.int .u32) w A n a) (la : Lim a) (hok : okN a = false) : Calls Tryz.prog 35 #[.int .i64 f, .bool ng, .slice A n c, .int .i64 ex] w (D0P 1 w) := by
  have HK := Lib.hid fun w' => kindOf_ok hf w'
  have HV : Hid (∀ w', Below w.heap.size w w' → Calls Tryz.prog 62 #[.slice A n c] w' fun e w'' => e = .returned (.bool false) ∧ w' = w'') := Lib.hid fun w' hb => by
    have := valid_any A n c a w' (Kd.C_below hA hb) la
    rwa [hok] at this
  clear hf hA hok
  go_enter_defers Tryz.func35, Tryz.ntmps35
  go_wp2_with (first | (go_at_call 41; (with_reducible refine (HK.out _).mono ?_); rintro e w1 ⟨rfl, b1⟩; obtain ⟨hc1, hf1⟩ := bcell b1; have hz1 := below_size b1; (try simp at hz1); have z0 : w.heap.size < w1.heap.size := (by omega); have z1 : w.heap.size + 1 < w1.heap.size := (by omega)) | (go_at_call 62; (with_reducible refine (HV.out _ bel).mono ?_); rintro e w9 ⟨rfl, rfl⟩) | (go_at_call 40; (with_reducible refine (bneed_false _ _).mono ?_); rintro e w9 ⟨rfl, rfl⟩))
  (refine leaves_cons (f := 39) (args := #[.pointer (some ⟨w.heap.size + 1, 0, none⟩)]) (by simp) (by simp [go_sem]) ?_; refine (bcaught_panic (w.heap.size + 1) (1) 0 [] _ (BlkIs.one blk0)).mono ?_; rintro e u' w'' ⟨rfl, rfl, hch, hp⟩; have hp' : BlkIs w'' (w.heap.size + 1) 28 (· = #[.int .i64 (1)]) := ⟨_, hp, rfl⟩)
  have hd : BlkIs w'' w.heap.size 25 (· = #[.int .i64 0, .int .i64 0, .bool false, .slice none 0 0, .int .i64 0]) := blk0
  exact ⟨.tuple #[.agg #[.int .i64 0, .int .i64 0, .bool false, .slice none 0 0, .int .i64 0], .int .i64 1], rresults (rs := [.cell 8 25, .cell 9 28]) rfl (by simp) (.cell w.heap.size rfl (load_agg (t := 25) hd Tryz.underlying25 rfl (by kernel_rfl)) (.cell (w.heap.size + 1) rfl (load_one (t := 28) hp' (by kernel_rfl)) .nil)), .slice none 0 0, rfl, Kd.R_nil _ _ _ _ _, below_chg bel hch (by omega)⟩

set_option maxHeartbeats 4000000 in
theorem make_zero {f ex : Int} {ng : Bool} {A : Option Addr} {n c : Nat} {a : List Int} (w : World) (hf : isFm f = true) (hA : Kd.C (Kd.int .u32) w A n a) (la : Lim a) (hc : n ≤ c) (hok : okN a = true) (hz : val a = 0) : Calls Tryz.prog 35 #[.int .i64 f, .bool ng, .slice A n c, .int .i64 ex] w (DatumE f 1 ng [] (fmL f) 0 w) := by
  have HK := Lib.hid fun w' => kindOf_ok hf w'
  have HV : Hid (∀ w', Below w.heap.size w w' → Calls Tryz.prog 62 #[.slice A n c] w' fun e w'' => e = .returned (.bool true) ∧ w' = w'') := Lib.hid fun w' hb => by
    have := valid_any A n c a w' (Kd.C_below hA hb) la
    rwa [hok] at this
  have HS : Hid (∀ w', Below w.heap.size w w' → Calls Tryz.prog 75 #[.slice A n c] w' fun e w'' => e = .returned (.int .i64 (blen (val a) : Nat)) ∧ w' = w'') := Lib.hid fun w' hb => by
    obtain ⟨h1, h2⟩ := ok_num hA la hc hok hb
    exact bsize_any h1 h2
  have hzs : blen (val a) ≤ 32768 := by
    obtain ⟨h1, h2⟩ := okN_iff.1 hok
    have := blen_small_k la h1; omega
  obtain ⟨dd1, dd2⟩ := fmD_bd f
  obtain ⟨dl1, dl2⟩ := fmL_bd f
  obtain ⟨dh1, dh2⟩ := fmH_bd f
  have hz0 : blen (val a) = 0 := by rw [hz]; rfl
  have HFN : Hid (∀ w', Below w.heap.size w w' → Calls Tryz.prog 66 #[kV f, .bool ng, .slice none 0 0, .int .i64 (fmL f)] w' (DatumP f 1 ng [] (fmL f) w')) := Lib.hid fun w' hb => finite_any w' (R_nilC w') (by omega)
  rw [hz0] at HS
  clear hf hA hok hz hz0 hzs
  unfold kV at *
  generalize fmD f = D at *
  generalize fmE f = E at *
  generalize fmL f = L at *
  generalize fmH f = H at *
  generalize fmW f = W at *
  go_enter_defers Tryz.func35, Tryz.ntmps35
  go_wp2_with (first | (go_at_call 41; (with_reducible refine (HK.out _).mono ?_); rintro e w1 ⟨rfl, b1⟩; obtain ⟨hc1, hf1⟩ := bcell b1; have hz1 := below_size b1; (try simp at hz1); have z0 : w.heap.size < w1.heap.size := (by omega); have z1 : w.heap.size + 1 < w1.heap.size := (by omega)) | (go_at_call 62; (with_reducible refine (HV.out _ bel).mono ?_); rintro e w9 ⟨rfl, rfl⟩) | (go_at_call 40; (with_reducible refine (bneed_true _ _).mono ?_); rintro e w9 ⟨rfl, rfl⟩) | (go_at_call 75; (with_reducible refine (HS.out _ bel).mono ?_); rintro e w9 ⟨rfl, rfl⟩) | (go_at_call 66; (with_reducible refine (HFN.out _ bel).mono ?_); rintro e w4 ⟨v4, rfl, hv4, b4⟩; obtain ⟨A4, c4, rfl⟩ := Kd.R_slice hv4; have HV4 := Lib.hid hv4; clear hv4; obtain ⟨hc4, hf4⟩ := bcell b4; have hz4 := below_size b4; (try simp at hz4); have y0 : w.heap.size < w4.heap.size := (by omega); have y1 : w.heap.size + 1 < w4.heap.size := (by omega)))
  (refine leaves_cons (f := 39) (args := #[.pointer (some ⟨w.heap.size + 1, 0, none⟩)]) (by simp) (by simp [go_sem]) ?_; refine (bcaught_idle _ _).mono ?_; rintro e u' w'' ⟨rfl, rfl, rfl⟩)
  refine ⟨.tuple #[.agg #[.int .i64 f, .int .i64 1, .bool ng, .slice A4 ([] : List Int).length c4, .int .i64 L], .int .i64 0], rresults (rs := [.cell 8 25, .cell 9 28]) rfl (by simp) (.cell w.heap.size rfl (load_agg (t := 25) blk0 Tryz.underlying25 rfl (by kernel_rfl)) (.cell (w.heap.size + 1) rfl (load_one (t := 28) blk0 (by kernel_rfl)) .nil)), _, rfl, Kd.R_lower (R_chg (S := fun k => k = w.heap.size ∨ k = w.heap.size + 1) HV4.out chg2 (by intro k hk; (try simp at hk ⊢); omega)) (by first | omega | (simp; omega)), bel⟩

/-- The exponent of the datum. -/
def makeQ (f ex : Int) (n : Nat) : Int := max (fmL f) (ex + n - fmD f)
def makeC1 (f ex : Int) : Bool := decide (ex ≤ fmH f + fmD f) && decide (fmL f - 32768 ≤ ex)
def makeC2 (f ex : Int) (a : List Int) : Bool := decide (makeQ f ex (blen (val a)) ≤ fmH f) && decide (makeQ f ex (blen (val a)) ≤ ex + (tz (val a) : Nat))

set_option maxHeartbeats 8000000 in
theorem make_c1 {f ex : Int} {ng : Bool} {A : Option Addr} {n c : Nat} {a : List Int} (w : World) (hT : Tab w) (hf : isFm f = true) (hA : Kd.C (Kd.int .u32) w A n a) (la : Lim a) (hc : n ≤ c) (hok : okN a = true) (hz : val a ≠ 0) (h1 : makeC1 f ex = false) : Calls Tryz.prog 35 #[.int .i64 f, .bool ng, .slice A n c, .int .i64 ex] w (D0P 3 w) := by
  have HK := Lib.hid fun w' => kindOf_ok hf w'
  have HV : Hid (∀ w', Below w.heap.size w w' → Calls Tryz.prog 62 #[.slice A n c] w' fun e w'' => e = .returned (.bool true) ∧ w' = w'') := Lib.hid fun w' hb => by
    have := valid_any A n c a w' (Kd.C_below hA hb) la
    rwa [hok] at this
  have HS : Hid (∀ w', Below w.heap.size w w' → Calls Tryz.prog 75 #[.slice A n c] w' fun e w'' => e = .returned (.int .i64 (blen (val a) : Nat)) ∧ w' = w'') := Lib.hid fun w' hb => by
    obtain ⟨h1, h2⟩ := ok_num hA la hc hok hb
    exact bsize_any h1 h2
  have hzs : blen (val a) ≤ 32768 := by
    obtain ⟨h1, h2⟩ := okN_iff.1 hok
    have := blen_small_k la h1; omega
  obtain ⟨dd1, dd2⟩ := fmD_bd f
  obtain ⟨dl1, dl2⟩ := fmL_bd f
  obtain ⟨dh1, dh2⟩ := fmH_bd f
  have HZ : Hid (∀ w', Below w.heap.size w w' → Calls Tryz.prog 57 #[.slice A n c] w' fun e w'' => e = .returned (.tuple #[.int .i64 (tz (val a) : Nat), .int .i64 0]) ∧ w' = w'') := Lib.hid fun w' hb => by
    have := nZeros_any w' (hT.below hb) (Kd.C_below hA hb) la hc
    unfold natZeros at this
    rwa [if_pos hok] at this
  have htz : tz (val a) ≤ 32768 := by
    obtain ⟨m, h1, h2⟩ := tz_spec hz
    have h3 : blen (val a) = blen m + tz (val a) := by
      have := blen_mul_pow (n := m) (by omega) (tz (val a))
      rwa [← h2] at this
    omega
  have hnz : 0 < blen (val a) := by
    have := mt blen_eq_zero.1 hz
    omega
  have t0 : (((blen (val a) : Nat) : Int) == 0) = false := by simp; omega
  unfold makeC1 at h1
  clear hf hA hok hz hT htz
  unfold kV at *
  generalize fmD f = D at *
  generalize fmE f = E at *
  generalize fmL f = L at *
  generalize fmH f = H at *
  generalize fmW f = W at *
  generalize blen (val a) = z at *
  generalize tz (val a) = y at *
  have h2 : H + D < ex ∨ ex < L - 32768 := by
    simp at h1
    omega
  clear h1
  rcases h2 with h2 | h2
  · have d0 : decide (ex ≤ H + D) = false := decide_eq_false (by omega)
    go_enter_defers Tryz.func35, Tryz.ntmps35
    go_wp2_with (first | (go_at_call 41; (with_reducible refine (HK.out _).mono ?_); rintro e w1 ⟨rfl, b1⟩; obtain ⟨hc1, hf1⟩ := bcell b1; have hz1 := below_size b1; (try simp at hz1); have z0 : w.heap.size < w1.heap.size := (by omega); have z1 : w.heap.size + 1 < w1.heap.size := (by omega)) | (go_at_call 62; (with_reducible refine (HV.out _ bel).mono ?_); rintro e w9 ⟨rfl, rfl⟩) | (go_at_call 40; (with_reducible refine (bneed_true _ _).mono ?_); rintro e w9 ⟨rfl, rfl⟩) | (go_at_call 75; (with_reducible refine (HS.out _ bel).mono ?_); rintro e w9 ⟨rfl, rfl⟩) | (go_at_call 57; (with_reducible refine (HZ.out _ bel).mono ?_); rintro e w9 ⟨rfl, rfl⟩) | (go_at_call 40; (with_reducible refine (bneed_false _ _).mono ?_); rintro e w9 ⟨rfl, rfl⟩))
    (refine leaves_cons (f := 39) (args := #[.pointer (some ⟨w.heap.size + 1, 0, none⟩)]) (by simp) (by simp [go_sem]) ?_; refine (bcaught_panic (w.heap.size + 1) (3) 0 [] _ (BlkIs.one blk0)).mono ?_; rintro e u' w'' ⟨rfl, rfl, hch, hp⟩; have hp' : BlkIs w'' (w.heap.size + 1) 28 (· = #[.int .i64 (3)]) := ⟨_, hp, rfl⟩)
    have hd : BlkIs w'' w.heap.size 25 (· = #[.int .i64 0, .int .i64 0, .bool false, .slice none 0 0, .int .i64 0]) := blk0
    exact ⟨.tuple #[.agg #[.int .i64 0, .int .i64 0, .bool false, .slice none 0 0, .int .i64 0], .int .i64 3], rresults (rs := [.cell 8 25, .cell 9 28]) rfl (by simp) (.cell w.heap.size rfl (load_agg (t := 25) hd Tryz.underlying25 rfl (by kernel_rfl)) (.cell (w.heap.size + 1) rfl (load_one (t := 28) hp' (by kernel_rfl)) .nil)), .slice none 0 0, rfl, Kd.R_nil _ _ _ _ _, below_chg bel hch (by omega)⟩
  · have d0 : decide (L - 32768 ≤ ex) = false := decide_eq_false (by omega)
    have d1 : decide (ex ≤ H + D) = true := decide_eq_true (by omega)
    go_enter_defers Tryz.func35, Tryz.ntmps35
    go_wp2_with (first | (go_at_call 41; (with_reducible refine (HK.out _).mono ?_); rintro e w1 ⟨rfl, b1⟩; obtain ⟨hc1, hf1⟩ := bcell b1; have hz1 := below_size b1; (try simp at hz1); have z0 : w.heap.size < w1.heap.size := (by omega); have z1 : w.heap.size + 1 < w1.heap.size := (by omega)) | (go_at_call 62; (with_reducible refine (HV.out _ bel).mono ?_); rintro e w9 ⟨rfl, rfl⟩) | (go_at_call 40; (with_reducible refine (bneed_true _ _).mono ?_); rintro e w9 ⟨rfl, rfl⟩) | (go_at_call 75; (with_reducible refine (HS.out _ bel).mono ?_); rintro e w9 ⟨rfl, rfl⟩) | (go_at_call 57; (with_reducible refine (HZ.out _ bel).mono ?_); rintro e w9 ⟨rfl, rfl⟩) | (go_at_call 40; (with_reducible refine (bneed_false _ _).mono ?_); rintro e w9 ⟨rfl, rfl⟩))
    (refine leaves_cons (f := 39) (args := #[.pointer (some ⟨w.heap.size + 1, 0, none⟩)]) (by simp) (by simp [go_sem]) ?_; refine (bcaught_panic (w.heap.size + 1) (3) 0 [] _ (BlkIs.one blk0)).mono ?_; rintro e u' w'' ⟨rfl, rfl, hch, hp⟩; have hp' : BlkIs w'' (w.heap.size + 1) 28 (· = #[.int .i64 (3)]) := ⟨_, hp, rfl⟩)
    have hd : BlkIs w'' w.heap.size 25 (· = #[.int .i64 0, .int .i64 0, .bool false, .slice none 0 0, .int .i64 0]) := blk0
    exact ⟨.tuple #[.agg #[.int .i64 0, .int .i64 0, .bool false, .slice none 0 0, .int .i64 0], .int .i64 3], rresults (rs := [.cell 8 25, .cell 9 28]) rfl (by simp) (.cell w.heap.size rfl (load_agg (t := 25) hd Tryz.underlying25 rfl (by kernel_rfl)) (.cell (w.heap.size + 1) rfl (load_one (t := 28) hp' (by kernel_rfl)) .nil)), .slice none 0 0, rfl, Kd.R_nil _ _ _ _ _, below_chg bel hch (by omega)⟩

set_option maxHeartbeats 8000000 in
theorem make_c2 {f ex : Int} {ng : Bool} {A : Option Addr} {n c : Nat} {a : List Int} (w : World) (hT : Tab w) (hf : isFm f = true) (hA : Kd.C (Kd.int .u32) w A n a) (la : Lim a) (hc : n ≤ c) (hok : okN a = true) (hz : val a ≠ 0) (h1 : makeC1 f ex = true) (h2 : makeC2 f ex a = false) : Calls Tryz.prog 35 #[.int .i64 f, .bool ng, .slice A n c, .int .i64 ex] w (D0P 3 w) := by
  have HK := Lib.hid fun w' => kindOf_ok hf w'
  have HV : Hid (∀ w', Below w.heap.size w w' → Calls Tryz.prog 62 #[.slice A n c] w' fun e w'' => e = .returned (.bool true) ∧ w' = w'') := Lib.hid fun w' hb => by
    have := valid_any A n c a w' (Kd.C_below hA hb) la
    rwa [hok] at this
  have HS : Hid (∀ w', Below w.heap.size w w' → Calls Tryz.prog 75 #[.slice A n c] w' fun e w'' => e = .returned (.int .i64 (blen (val a) : Nat)) ∧ w' = w'') := Lib.hid fun w' hb => by
    obtain ⟨h1, h2⟩ := ok_num hA la hc hok hb
    exact bsize_any h1 h2
  have hzs : blen (val a) ≤ 32768 := by
    obtain ⟨h1, h2⟩ := okN_iff.1 hok
    have := blen_small_k la h1; omega
  obtain ⟨dd1, dd2⟩ := fmD_bd f
  obtain ⟨dl1, dl2⟩ := fmL_bd f
  obtain ⟨dh1, dh2⟩ := fmH_bd f
  have HZ : Hid (∀ w', Below w.heap.size w w' → Calls Tryz.prog 57 #[.slice A n c] w' fun e w'' => e = .returned (.tuple #[.int .i64 (tz (val a) : Nat), .int .i64 0]) ∧ w' = w'') := Lib.hid fun w' hb => by
    have := nZeros_any w' (hT.below hb) (Kd.C_below hA hb) la hc
    unfold natZeros at this
    rwa [if_pos hok] at this
  have htz : tz (val a) ≤ 32768 := by
    obtain ⟨m, h1, h2⟩ := tz_spec hz
    have h3 : blen (val a) = blen m + tz (val a) := by
      have := blen_mul_pow (n := m) (by omega) (tz (val a))
      rwa [← h2] at this
    omega
  have hnz : 0 < blen (val a) := by
    have := mt blen_eq_zero.1 hz
    omega
  have t0 : (((blen (val a) : Nat) : Int) == 0) = false := by simp; omega
  obtain ⟨q, hq⟩ : ∃ q, makeQ f ex (blen (val a)) = q := ⟨_, rfl⟩
  unfold makeC1 at h1
  simp only [Bool.and_eq_true, decide_eq_true_eq] at h1
  obtain ⟨e1, e2⟩ := h1
  unfold makeC2 at h2
  rw [hq] at h2
  unfold makeQ at hq
  clear hf hA hok hz hT htz
  unfold kV at *
  generalize fmD f = D at *
  generalize fmE f = E at *
  generalize fmL f = L at *
  generalize fmH f = H at *
  generalize fmW f = W at *
  generalize blen (val a) = z at *
  generalize tz (val a) = y at *
  have hq2 : (if L < ex + z - D then ex + z - D else L) = q := by split <;> omega
  have h3 : H < q ∨ ex + y < q := by
    simp at h2
    omega
  clear h2 hq
  have d0 : decide (ex ≤ H + D) = true := decide_eq_true (by omega)
  have d1 : decide (L - 32768 ≤ ex) = true := decide_eq_true (by omega)
  by_cases h2 : H < q
  · have d2 : decide (q ≤ H) = false := decide_eq_false (by omega)
    go_enter_defers Tryz.func35, Tryz.ntmps35
    go_wp2_with (first | (go_at_call 41; (with_reducible refine (HK.out _).mono ?_); rintro e w1 ⟨rfl, b1⟩; obtain ⟨hc1, hf1⟩ := bcell b1; have hz1 := below_size b1; (try simp at hz1); have z0 : w.heap.size < w1.heap.size := (by omega); have z1 : w.heap.size + 1 < w1.heap.size := (by omega)) | (go_at_call 62; (with_reducible refine (HV.out _ bel).mono ?_); rintro e w9 ⟨rfl, rfl⟩) | (go_at_call 40; (with_reducible refine (bneed_true _ _).mono ?_); rintro e w9 ⟨rfl, rfl⟩) | (go_at_call 75; (with_reducible refine (HS.out _ bel).mono ?_); rintro e w9 ⟨rfl, rfl⟩) | (go_at_call 57; (with_reducible refine (HZ.out _ bel).mono ?_); rintro e w9 ⟨rfl, rfl⟩) | (go_at_call 40; (with_reducible refine (bneed_false _ _).mono ?_); rintro e w9 ⟨rfl, rfl⟩))
    (refine leaves_cons (f := 39) (args := #[.pointer (some ⟨w.heap.size + 1, 0, none⟩)]) (by simp) (by simp [go_sem]) ?_; refine (bcaught_panic (w.heap.size + 1) (3) 0 [] _ (BlkIs.one blk0)).mono ?_; rintro e u' w'' ⟨rfl, rfl, hch, hp⟩; have hp' : BlkIs w'' (w.heap.size + 1) 28 (· = #[.int .i64 (3)]) := ⟨_, hp, rfl⟩)
    have hd : BlkIs w'' w.heap.size 25 (· = #[.int .i64 0, .int .i64 0, .bool false, .slice none 0 0, .int .i64 0]) := blk0
    exact ⟨.tuple #[.agg #[.int .i64 0, .int .i64 0, .bool false, .slice none 0 0, .int .i64 0], .int .i64 3], rresults (rs := [.cell 8 25, .cell 9 28]) rfl (by simp) (.cell w.heap.size rfl (load_agg (t := 25) hd Tryz.underlying25 rfl (by kernel_rfl)) (.cell (w.heap.size + 1) rfl (load_one (t := 28) hp' (by kernel_rfl)) .nil)), .slice none 0 0, rfl, Kd.R_nil _ _ _ _ _, below_chg bel hch (by omega)⟩
  · have d2 : decide (q ≤ H) = true := decide_eq_true (by omega)
    have d3 : decide (q ≤ ex + y) = false := decide_eq_false (by omega)
    go_enter_defers Tryz.func35, Tryz.ntmps35
    go_wp2_with (first | (go_at_call 41; (with_reducible refine (HK.out _).mono ?_); rintro e w1 ⟨rfl, b1⟩; obtain ⟨hc1, hf1⟩ := bcell b1; have hz1 := below_size b1; (try simp at hz1); have z0 : w.heap.size < w1.heap.size := (by omega); have z1 : w.heap.size + 1 < w1.heap.size := (by omega)) | (go_at_call 62; (with_reducible refine (HV.out _ bel).mono ?_); rintro e w9 ⟨rfl, rfl⟩) | (go_at_call 40; (with_reducible refine (bneed_true _ _).mono ?_); rintro e w9 ⟨rfl, rfl⟩) | (go_at_call 75; (with_reducible refine (HS.out _ bel).mono ?_); rintro e w9 ⟨rfl, rfl⟩) | (go_at_call 57; (with_reducible refine (HZ.out _ bel).mono ?_); rintro e w9 ⟨rfl, rfl⟩) | (go_at_call 40; (with_reducible refine (bneed_false _ _).mono ?_); rintro e w9 ⟨rfl, rfl⟩))
    (refine leaves_cons (f := 39) (args := #[.pointer (some ⟨w.heap.size + 1, 0, none⟩)]) (by simp) (by simp [go_sem]) ?_; refine (bcaught_panic (w.heap.size + 1) (3) 0 [] _ (BlkIs.one blk0)).mono ?_; rintro e u' w'' ⟨rfl, rfl, hch, hp⟩; have hp' : BlkIs w'' (w.heap.size + 1) 28 (· = #[.int .i64 (3)]) := ⟨_, hp, rfl⟩)
    have hd : BlkIs w'' w.heap.size 25 (· = #[.int .i64 0, .int .i64 0, .bool false, .slice none 0 0, .int .i64 0]) := blk0
    exact ⟨.tuple #[.agg #[.int .i64 0, .int .i64 0, .bool false, .slice none 0 0, .int .i64 0], .int .i64 3], rresults (rs := [.cell 8 25, .cell 9 28]) rfl (by simp) (.cell w.heap.size rfl (load_agg (t := 25) hd Tryz.underlying25 rfl (by kernel_rfl)) (.cell (w.heap.size + 1) rfl (load_one (t := 28) hp' (by kernel_rfl)) .nil)), .slice none 0 0, rfl, Kd.R_nil _ _ _ _ _, below_chg bel hch (by omega)⟩

set_option maxHeartbeats 8000000 in
theorem make_shl {f ex : Int} {ng : Bool} {A : Option Addr} {n c : Nat} {a : List Int} (w : World) (hT : Tab w) (hf : isFm f = true) (hA : Kd.C (Kd.int .u32) w A n a) (la : Lim a) (hc : n ≤ c) (hok : okN a = true) (hz : val a ≠ 0) (h1 : makeC1 f ex = true) (h2 : makeC2 f ex a = true) (h5 : makeQ f ex (blen (val a)) ≤ ex) : Calls Tryz.prog 35 #[.int .i64 f, .bool ng, .slice A n c, .int .i64 ex] w (DatumE f 1 ng (ofN (val a * 2 ^ (ex - makeQ f ex (blen (val a))).toNat)) (makeQ f ex (blen (val a))) 0 w) := by
  have HK := Lib.hid fun w' => kindOf_ok hf w'
  have HV : Hid (∀ w', Below w.heap.size w w' → Calls Tryz.prog 62 #[.slice A n c] w' fun e w'' => e = .returned (.bool true) ∧ w' = w'') := Lib.hid fun w' hb => by
    have := valid_any A n c a w' (Kd.C_below hA hb) la
    rwa [hok] at this
  have HS : Hid (∀ w', Below w.heap.size w w' → Calls Tryz.prog 75 #[.slice A n c] w' fun e w'' => e = .returned (.int .i64 (blen (val a) : Nat)) ∧ w' = w'') := Lib.hid fun w' hb => by
    obtain ⟨h1, h2⟩ := ok_num hA la hc hok hb
    exact bsize_any h1 h2
  have hzs : blen (val a) ≤ 32768 := by
    obtain ⟨h1, h2⟩ := okN_iff.1 hok
    have := blen_small_k la h1; omega
  obtain ⟨dd1, dd2⟩ := fmD_bd f
  obtain ⟨dl1, dl2⟩ := fmL_bd f
  obtain ⟨dh1, dh2⟩ := fmH_bd f
  have HZ : Hid (∀ w', Below w.heap.size w w' → Calls Tryz.prog 57 #[.slice A n c] w' fun e w'' => e = .returned (.tuple #[.int .i64 (tz (val a) : Nat), .int .i64 0]) ∧ w' = w'') := Lib.hid fun w' hb => by
    have := nZeros_any w' (hT.below hb) (Kd.C_below hA hb) la hc
    unfold natZeros at this
    rwa [if_pos hok] at this
  have htz : tz (val a) ≤ 32768 := by
    obtain ⟨m, h1, h2⟩ := tz_spec hz
    have h3 : blen (val a) = blen m + tz (val a) := by
      have := blen_mul_pow (n := m) (by omega) (tz (val a))
      rwa [← h2] at this
    omega
  have hnz : 0 < blen (val a) := by
    have := mt blen_eq_zero.1 hz
    omega
  have t0 : (((blen (val a) : Nat) : Int) == 0) = false := by simp; omega
  obtain ⟨q, hq⟩ : ∃ q, makeQ f ex (blen (val a)) = q := ⟨_, rfl⟩
  unfold makeC1 at h1
  simp only [Bool.and_eq_true, decide_eq_true_eq] at h1
  obtain ⟨e1, e2⟩ := h1
  unfold makeC2 at h2
  rw [hq] at h2
  rw [hq] at h5 ⊢
  unfold makeQ at hq
  simp only [Bool.and_eq_true, decide_eq_true_eq] at h2
  obtain ⟨e3, e4⟩ := h2
  have hq2 : (if fmL f < ex + (blen (val a) : Nat) - fmD f then ex + (blen (val a) : Nat) - fmD f else fmL f) = q := by split <;> omega
  have HML : Hid (blen (val a * 2 ^ (ex - q).toNat) = blen (val a) + (ex - q).toNat) := Lib.hid (blen_mul_pow hz _)
  have HMM : Hid True := Lib.hid trivial
  have HSH : Hid (∀ w', Below w.heap.size w w' → Calls Tryz.prog 76 #[.slice A n c, .int .i64 (ex - q)] w' (NumErr (ofN (val a * 2 ^ (ex - q).toNat)) 0 w')) := Lib.hid fun w' hb => by
    have h6 := nShl_any (ex - q) w' (Kd.C_below hA hb) la hc
    have h7 : natShl a (ex - q) = (ofN (val a * 2 ^ (ex - q).toNat), 0) := by
      unfold natShl
      have l0 : a ≠ [] := by rintro rfl; exact hz rfl
      have l1 : 0 ≤ ex - q := by omega
      have l2 : ex - q ≤ 32768 := by omega
      rw [hok]
      simp only [l1, l0, l2, decide_true, Bool.and_self, if_true, if_false, numOut]
      rw [if_pos]
      exact len_blen (by rw [HML.out]; omega)
    rwa [h7] at h6
  have HFN : Hid (∀ A3 c3 w', Kd.C (Kd.int .u32) w' A3 (ofN (val a * 2 ^ (ex - q).toNat)).length (ofN (val a * 2 ^ (ex - q).toNat)) → Calls Tryz.prog 66 #[kV f, .bool ng, .slice A3 (ofN (val a * 2 ^ (ex - q).toNat)).length c3, .int .i64 q] w' (DatumP f 1 ng (ofN (val a * 2 ^ (ex - q).toNat)) q w')) := Lib.hid fun A3 c3 w' hC => finite_any w' hC (by
    exact Nat.le_trans (len_blen (k := 1024) (by rw [HML.out]; omega)) (by omega))
  obtain ⟨lst, hlst⟩ : ∃ lst, ofN (val a * 2 ^ (ex - q).toNat) = lst := ⟨_, rfl⟩
  rw [hlst] at HSH HFN ⊢
  clear hf hA hok hz hT hlst HML HMM
  unfold kV at *
  generalize fmD f = D at *
  generalize fmE f = E at *
  generalize fmL f = L at *
  generalize fmH f = H at *
  generalize fmW f = W at *
  generalize blen (val a) = z at *
  generalize tz (val a) = y at *
  have d0 : decide (ex ≤ H + D) = true := decide_eq_true (by omega)
  have d1 : decide (L - 32768 ≤ ex) = true := decide_eq_true (by omega)
  have d2 : decide (q ≤ H) = true := decide_eq_true (by omega)
  have d3 : decide (q ≤ ex + y) = true := decide_eq_true (by omega)
  have d4 : decide (q ≤ ex) = true := decide_eq_true (by omega)
  clear hq
  go_enter_defers Tryz.func35, Tryz.ntmps35
  go_wp2_with (first | (go_at_call 41; (with_reducible refine (HK.out _).mono ?_); rintro e w1 ⟨rfl, b1⟩; obtain ⟨hc1, hf1⟩ := bcell b1; have hz1 := below_size b1; (try simp at hz1); have z0 : w.heap.size < w1.heap.size := (by omega); have z1 : w.heap.size + 1 < w1.heap.size := (by omega)) | (go_at_call 62; (with_reducible refine (HV.out _ bel).mono ?_); rintro e w9 ⟨rfl, rfl⟩) | (go_at_call 40; (with_reducible refine (bneed_true _ _).mono ?_); rintro e w9 ⟨rfl, rfl⟩) | (go_at_call 75; (with_reducible refine (HS.out _ bel).mono ?_); rintro e w9 ⟨rfl, rfl⟩) | (go_at_call 57; (with_reducible refine (HZ.out _ bel).mono ?_); rintro e w9 ⟨rfl, rfl⟩) | (go_at_call 76; (with_reducible refine (HSH.out _ bel).mono ?_); rintro e w3 ⟨v3, rfl, hv3, b3⟩; obtain ⟨A3, c3, rfl⟩ := Kd.R_slice hv3; have HV3 := Lib.hid (R_C hv3); clear hv3; obtain ⟨hc3, hf3⟩ := bcell b3; have hz3 := below_size b3; (try simp at hz3); have x0 : w.heap.size < w3.heap.size := (by omega); have x1 : w.heap.size + 1 < w3.heap.size := (by omega); have x2 : w1.heap.size < w3.heap.size := (by omega)) | (go_at_call 66; (with_reducible refine (HFN.out _ _ _ HV3.out.1).mono ?_); rintro e w4 ⟨v4, rfl, hv4, b4⟩; obtain ⟨A4, c4, rfl⟩ := Kd.R_slice hv4; have HV4 := Lib.hid hv4; clear hv4; obtain ⟨hc4, hf4⟩ := bcell b4; have hz4 := below_size b4; (try simp at hz4); have y0 : w.heap.size < w4.heap.size := (by omega); have y1 : w.heap.size + 1 < w4.heap.size := (by omega)))
  (refine leaves_cons (f := 39) (args := #[.pointer (some ⟨w.heap.size + 1, 0, none⟩)]) (by simp) (by simp [go_sem]) ?_; refine (bcaught_idle _ _).mono ?_; rintro e u' w'' ⟨rfl, rfl, rfl⟩)
  refine ⟨.tuple #[.agg #[.int .i64 f, .int .i64 1, .bool ng, .slice A4 (lst).length c4, .int .i64 q], .int .i64 0], rresults (rs := [.cell 8 25, .cell 9 28]) rfl (by simp) (.cell w.heap.size rfl (load_agg (t := 25) blk0 Tryz.underlying25 rfl (by kernel_rfl)) (.cell (w.heap.size + 1) rfl (load_one (t := 28) blk0 (by kernel_rfl)) .nil)), _, rfl, Kd.R_lower (R_chg (S := fun k => k = w.heap.size ∨ k = w.heap.size + 1) HV4.out chg2 (by intro k hk; (try simp at hk ⊢); omega)) (by first | omega | (simp; omega)), bel⟩

set_option maxHeartbeats 8000000 in
theorem make_shr {f ex : Int} {ng : Bool} {A : Option Addr} {n c : Nat} {a : List Int} (w : World) (hT : Tab w) (hf : isFm f = true) (hA : Kd.C (Kd.int .u32) w A n a) (la : Lim a) (hc : n ≤ c) (hok : okN a = true) (hz : val a ≠ 0) (h1 : makeC1 f ex = true) (h2 : makeC2 f ex a = true) (h5 : ex < makeQ f ex (blen (val a))) : Calls Tryz.prog 35 #[.int .i64 f, .bool ng, .slice A n c, .int .i64 ex] w (DatumE f 1 ng (ofN (val a / 2 ^ (makeQ f ex (blen (val a)) - ex).toNat)) (makeQ f ex (blen (val a))) 0 w) := by
  have HK := Lib.hid fun w' => kindOf_ok hf w'
  have HV : Hid (∀ w', Below w.heap.size w w' → Calls Tryz.prog 62 #[.slice A n c] w' fun e w'' => e = .returned (.bool true) ∧ w' = w'') := Lib.hid fun w' hb => by
    have := valid_any A n c a w' (Kd.C_below hA hb) la
    rwa [hok] at this
  have HS : Hid (∀ w', Below w.heap.size w w' → Calls Tryz.prog 75 #[.slice A n c] w' fun e w'' => e = .returned (.int .i64 (blen (val a) : Nat)) ∧ w' = w'') := Lib.hid fun w' hb => by
    obtain ⟨h1, h2⟩ := ok_num hA la hc hok hb
    exact bsize_any h1 h2
  have hzs : blen (val a) ≤ 32768 := by
    obtain ⟨h1, h2⟩ := okN_iff.1 hok
    have := blen_small_k la h1; omega
  obtain ⟨dd1, dd2⟩ := fmD_bd f
  obtain ⟨dl1, dl2⟩ := fmL_bd f
  obtain ⟨dh1, dh2⟩ := fmH_bd f
  have HZ : Hid (∀ w', Below w.heap.size w w' → Calls Tryz.prog 57 #[.slice A n c] w' fun e w'' => e = .returned (.tuple #[.int .i64 (tz (val a) : Nat), .int .i64 0]) ∧ w' = w'') := Lib.hid fun w' hb => by
    have := nZeros_any w' (hT.below hb) (Kd.C_below hA hb) la hc
    unfold natZeros at this
    rwa [if_pos hok] at this
  have htz : tz (val a) ≤ 32768 := by
    obtain ⟨m, h1, h2⟩ := tz_spec hz
    have h3 : blen (val a) = blen m + tz (val a) := by
      have := blen_mul_pow (n := m) (by omega) (tz (val a))
      rwa [← h2] at this
    omega
  have hnz : 0 < blen (val a) := by
    have := mt blen_eq_zero.1 hz
    omega
  have t0 : (((blen (val a) : Nat) : Int) == 0) = false := by simp; omega
  obtain ⟨q, hq⟩ : ∃ q, makeQ f ex (blen (val a)) = q := ⟨_, rfl⟩
  unfold makeC1 at h1
  simp only [Bool.and_eq_true, decide_eq_true_eq] at h1
  obtain ⟨e1, e2⟩ := h1
  unfold makeC2 at h2
  rw [hq] at h2
  rw [hq] at h5 ⊢
  unfold makeQ at hq
  simp only [Bool.and_eq_true, decide_eq_true_eq] at h2
  obtain ⟨e3, e4⟩ := h2
  have hq2 : (if fmL f < ex + (blen (val a) : Nat) - fmD f then ex + (blen (val a) : Nat) - fmD f else fmL f) = q := by split <;> omega
  have HML : Hid (blen (val a / 2 ^ (q - ex).toNat) = blen (val a) - (q - ex).toNat) := Lib.hid (by
    obtain ⟨m, m1, m2⟩ := tz_spec hz
    obtain ⟨j, hj⟩ : ∃ j, tz (val a) = j + (q - ex).toNat := ⟨tz (val a) - (q - ex).toNat, by omega⟩
    have e5 : val a / 2 ^ (q - ex).toNat = m * 2 ^ j := by
      rw [hj, Nat.pow_add, ← Nat.mul_assoc] at m2
      conv => lhs; rw [m2]
      exact Nat.mul_div_cancel _ (Nat.two_pow_pos _)
    have e6 := blen_mul_pow (n := m) (by omega) j
    have e7 := blen_mul_pow (n := m) (by omega) (tz (val a))
    rw [← m2] at e7
    rw [e5, e6]
    omega)
  have HMM : Hid True := Lib.hid trivial
  have HSH : Hid (∀ w', Below w.heap.size w w' → Calls Tryz.prog 58 #[.slice A n c, .int .i64 (q - ex)] w' (NumErr (ofN (val a / 2 ^ (q - ex).toNat)) 0 w')) := Lib.hid fun w' hb => by
    have h6 := nShr_any (q - ex) w' (Kd.C_below hA hb) la hc (by omega)
    have h7 : natShr a (q - ex) = (ofN (val a / 2 ^ (q - ex).toNat), 0) := by
      unfold natShr
      have l1 : 0 ≤ q - ex := by omega
      rw [hok]
      simp only [l1, decide_true, Bool.and_self, if_true]
    rwa [h7] at h6
  have HFN : Hid (∀ A3 c3 w', Kd.C (Kd.int .u32) w' A3 (ofN (val a / 2 ^ (q - ex).toNat)).length (ofN (val a / 2 ^ (q - ex).toNat)) → Calls Tryz.prog 66 #[kV f, .bool ng, .slice A3 (ofN (val a / 2 ^ (q - ex).toNat)).length c3, .int .i64 q] w' (DatumP f 1 ng (ofN (val a / 2 ^ (q - ex).toNat)) q w')) := Lib.hid fun A3 c3 w' hC => finite_any w' hC (by
    exact Nat.le_trans (len_blen (k := 1024) (by rw [HML.out]; omega)) (by omega))
  obtain ⟨lst, hlst⟩ : ∃ lst, ofN (val a / 2 ^ (q - ex).toNat) = lst := ⟨_, rfl⟩
  rw [hlst] at HSH HFN ⊢
  clear hf hA hok hz hT hlst HML HMM
  unfold kV at *
  generalize fmD f = D at *
  generalize fmE f = E at *
  generalize fmL f = L at *
  generalize fmH f = H at *
  generalize fmW f = W at *
  generalize blen (val a) = z at *
  generalize tz (val a) = y at *
  have d0 : decide (ex ≤ H + D) = true := decide_eq_true (by omega)
  have d1 : decide (L - 32768 ≤ ex) = true := decide_eq_true (by omega)
  have d2 : decide (q ≤ H) = true := decide_eq_true (by omega)
  have d3 : decide (q ≤ ex + y) = true := decide_eq_true (by omega)
  have d4 : decide (q ≤ ex) = false := decide_eq_false (by omega)
  clear hq
  go_enter_defers Tryz.func35, Tryz.ntmps35
  go_wp2_with (first | (go_at_call 41; (with_reducible refine (HK.out _).mono ?_); rintro e w1 ⟨rfl, b1⟩; obtain ⟨hc1, hf1⟩ := bcell b1; have hz1 := below_size b1; (try simp at hz1); have z0 : w.heap.size < w1.heap.size := (by omega); have z1 : w.heap.size + 1 < w1.heap.size := (by omega)) | (go_at_call 62; (with_reducible refine (HV.out _ bel).mono ?_); rintro e w9 ⟨rfl, rfl⟩) | (go_at_call 40; (with_reducible refine (bneed_true _ _).mono ?_); rintro e w9 ⟨rfl, rfl⟩) | (go_at_call 75; (with_reducible refine (HS.out _ bel).mono ?_); rintro e w9 ⟨rfl, rfl⟩) | (go_at_call 57; (with_reducible refine (HZ.out _ bel).mono ?_); rintro e w9 ⟨rfl, rfl⟩) | (go_at_call 58; (with_reducible refine (HSH.out _ bel).mono ?_); rintro e w3 ⟨v3, rfl, hv3, b3⟩; obtain ⟨A3, c3, rfl⟩ := Kd.R_slice hv3; have HV3 := Lib.hid (R_C hv3); clear hv3; obtain ⟨hc3, hf3⟩ := bcell b3; have hz3 := below_size b3; (try simp at hz3); have x0 : w.heap.size < w3.heap.size := (by omega); have x1 : w.heap.size + 1 < w3.heap.size := (by omega); have x2 : w1.heap.size < w3.heap.size := (by omega)) | (go_at_call 66; (with_reducible refine (HFN.out _ _ _ HV3.out.1).mono ?_); rintro e w4 ⟨v4, rfl, hv4, b4⟩; obtain ⟨A4, c4, rfl⟩ := Kd.R_slice hv4; have HV4 := Lib.hid hv4; clear hv4; obtain ⟨hc4, hf4⟩ := bcell b4; have hz4 := below_size b4; (try simp at hz4); have y0 : w.heap.size < w4.heap.size := (by omega); have y1 : w.heap.size + 1 < w4.heap.size := (by omega)))
  (refine leaves_cons (f := 39) (args := #[.pointer (some ⟨w.heap.size + 1, 0, none⟩)]) (by simp) (by simp [go_sem]) ?_; refine (bcaught_idle _ _).mono ?_; rintro e u' w'' ⟨rfl, rfl, rfl⟩)
  refine ⟨.tuple #[.agg #[.int .i64 f, .int .i64 1, .bool ng, .slice A4 (lst).length c4, .int .i64 q], .int .i64 0], rresults (rs := [.cell 8 25, .cell 9 28]) rfl (by simp) (.cell w.heap.size rfl (load_agg (t := 25) blk0 Tryz.underlying25 rfl (by kernel_rfl)) (.cell (w.heap.size + 1) rfl (load_one (t := 28) blk0 (by kernel_rfl)) .nil)), _, rfl, Kd.R_lower (R_chg (S := fun k => k = w.heap.size ∨ k = w.heap.size + 1) HV4.out chg2 (by intro k hk; (try simp at hk ⊢); omega)) (by first | omega | (simp; omega)), bel⟩
end Go.Proofs.YtacnkcojhlbkoaaGreatDoor

set_option linter.unusedSimpArgs false
set_option linter.unusedVariables false
set_option linter.unnecessarySimpa false
namespace Go.Proofs.YtacnkcojhlbkoaaGreatDoor
open Go.RowKit Go.Proofs.YtacnkcojhlbkoaaGreatDoorW.PrintWords Go.Proofs.YtacnkcojhlbkoaaGreatDoorW.PrintLast Go.Proofs.YtacnkcojhlbkoaaGreatDoorW.PrintMore Go.Proofs.YtacnkcojhlbkoaaGreatDoor.NL
set_option maxRecDepth 100000

theorem oneR (W : World) : Kd.R (Kd.int .u32) 40 (W.alloc (.cells #[.int .u32 1] 40)) W.heap.size (fun _ => True) (.slice (some ⟨W.heap.size, 0, none⟩) 1 1) [1] := R_fresh W W.heap.size rfl [1] #[.int .u32 1] rfl 1 rfl (Nat.le_refl _) (by simp)
theorem oneR_at (W : World) (g b : Nat) (hg : g = W.heap.size) (hb : b ≤ W.heap.size) : Kd.R (Kd.int .u32) 40 (W.alloc (.cells #[.int .u32 1] 40)) b (fun _ => True) (.slice (some ⟨g, 0, none⟩) 1 1) [1] := by
  subst hg; exact Kd.R_lower (oneR W) hb
/-- A number and an exponent. -/
def PairP (rs : List Int) (e : Int) (w : World) (r : Ending) (w' : World) : Prop := ∃ v, r = .returned (.tuple #[v, .int .i64 e]) ∧ Kd.R (Kd.int .u32) 40 w' w.heap.size (fun _ => True) v rs ∧ Below w.heap.size w w'
set_option maxHeartbeats 4000000 in
theorem made_any {D E L H W f ex q : Int} {g : Nat} {rs xs : List Int} (w : World)
    (HK : Hid (∀ w', Calls Tryz.prog 41 #[.int .i64 f] w' fun e w'' => e = .returned (.agg #[.int .i64 D, .int .i64 E, .int .i64 L, .int .i64 H, .int .i64 W, .int .i64 f]) ∧ Below w'.heap.size w' w''))
    (HG : Hid (∀ w', Calls Tryz.prog g #[.agg #[.int .i64 D, .int .i64 E, .int .i64 L, .int .i64 H, .int .i64 W, .int .i64 f]] w' (PairP rs ex w')))
    (HM : Hid (∀ A2 c2 w', Below w.heap.size w w' → Kd.C (Kd.int .u32) w' A2 rs.length rs → rs.length ≤ c2 → Calls Tryz.prog 35 #[.int .i64 f, .bool false, .slice A2 rs.length c2, .int .i64 ex] w' (DatumE f 1 false xs q 0 w')))
    (ef : ∀ args w, (callFunc g args).run Tryz.prog w = .ok (.enter g args) w) :
    Calls Tryz.prog 45 #[.int .i64 f, .func (.func g) #[] #[]] w (DatumE f 1 false xs q 0 w) := by
  go_enter_defers Tryz.func45, Tryz.ntmps45
  go_wp2_with (first | fail | (go_at_call 41; (with_reducible refine (HK.out _).mono ?_); rintro e w1 ⟨rfl, b1⟩; obtain ⟨hc1, hf1⟩ := bcell b1; have hz1 := below_size b1; (try simp at hz1); have z01 : w.heap.size < w1.heap.size := (by omega); have z11 : w.heap.size + 1 < w1.heap.size := (by omega)))
  refine (HG.out _).mono ?_
  rintro e w2 ⟨v2, rfl, hv2, b2⟩
  obtain ⟨A2, c2, rfl⟩ := Kd.R_slice hv2
  have HC2 := Lib.hid (R_C hv2)
  clear hv2 ef
  obtain ⟨hc2, hf2⟩ := bcell b2
  have hz2 := below_size b2
  simp at hz2
  have z02 : w.heap.size < w2.heap.size := by omega
  have z12 : w.heap.size + 1 < w2.heap.size := by omega
  go_wp2_with (first | fail | (go_at_call 35; (with_reducible refine (HM.out _ _ _ bel HC2.out.1 HC2.out.2).mono ?_); rintro e w3 ⟨v3, rfl, hv3, b3⟩; obtain ⟨A3, c3, rfl⟩ := Kd.R_slice hv3; have HV3 := Lib.hid hv3; clear hv3; obtain ⟨hc3, hf3⟩ := bcell b3; have hz3 := below_size b3; (try simp at hz3); have z03 : w.heap.size < w3.heap.size := (by omega); have z13 : w.heap.size + 1 < w3.heap.size := (by omega)))
  (refine leaves_cons (f := 39) (args := #[.pointer (some ⟨w.heap.size + 1, 0, none⟩)]) (by simp) (by simp [go_sem]) ?_; refine (bcaught_idle _ _).mono ?_; rintro e u' w'' ⟨rfl, rfl, rfl⟩)
  exact ⟨.tuple #[.agg #[.int .i64 f, .int .i64 1, .bool false, .slice A3 xs.length c3, .int .i64 q], .int .i64 0], rresults (rs := [.cell 4 25, .cell 5 28]) rfl (by simp) (.cell w.heap.size rfl (load_agg (t := 25) blk0 Tryz.underlying25 rfl (by kernel_rfl)) (.cell (w.heap.size + 1) rfl (load_one (t := 28) blk0 (by kernel_rfl)) .nil)), _, rfl, Kd.R_lower (R_chg (S := fun k => k = w.heap.size ∨ k = w.heap.size + 1) HV3.out chg2 (by intro k hk; (try simp at hk ⊢); omega)) (by first | omega | (simp; omega)), bel⟩
set_option maxHeartbeats 2000000 in
theorem least_one {D E L H W f q : Int} (w : World) (hq : L = q) :
    Calls Tryz.prog 46 #[.agg #[.int .i64 D, .int .i64 E, .int .i64 L, .int .i64 H, .int .i64 W, .int .i64 f]] w (PairP [1] q w) := by
  go_enter Tryz.func46, Tryz.ntmps46
  go_wp2_with fail
  go_region
  go_wp2_with fail
  all_goals exact bodyPost_ret (v := .tuple #[.slice (some ⟨w.heap.size + 1, 0, none⟩) 1 1, .int .i64 q]) (by simp [results, Tryz.results46, go_sem, *]) rfl ⟨_, rfl, oneR_at _ _ _ (by first | rfl | (simp; done)) (by first | omega | (simp; omega) | (simp; done)), bel⟩
set_option maxHeartbeats 2000000 in
theorem lnorm_one {D E L H W f q : Int} (w : World) (hq : wrap64 (wrap64 (L + D) - 1) = q) :
    Calls Tryz.prog 47 #[.agg #[.int .i64 D, .int .i64 E, .int .i64 L, .int .i64 H, .int .i64 W, .int .i64 f]] w (PairP [1] q w) := by
  go_enter Tryz.func47, Tryz.ntmps47
  go_wp2_with fail
  go_region
  go_wp2_with fail
  all_goals exact bodyPost_ret (v := .tuple #[.slice (some ⟨w.heap.size + 1, 0, none⟩) 1 1, .int .i64 q]) (by simp [results, Tryz.results47, go_sem, *]) rfl ⟨_, rfl, oneR_at _ _ _ (by first | rfl | (simp; done)) (by first | omega | (simp; omega) | (simp; done)), bel⟩
set_option maxHeartbeats 2000000 in
theorem eps_one {D E L H W f q : Int} (w : World) (hq : wrap64 (1 - D) = q) :
    Calls Tryz.prog 51 #[.agg #[.int .i64 D, .int .i64 E, .int .i64 L, .int .i64 H, .int .i64 W, .int .i64 f]] w (PairP [1] q w) := by
  go_enter Tryz.func51, Tryz.ntmps51
  go_wp2_with fail
  go_region
  go_wp2_with fail
  all_goals exact bodyPost_ret (v := .tuple #[.slice (some ⟨w.heap.size + 1, 0, none⟩) 1 1, .int .i64 q]) (by simp [results, Tryz.results51, go_sem, *]) rfl ⟨_, rfl, oneR_at _ _ _ (by first | rfl | (simp; done)) (by first | omega | (simp; omega) | (simp; done)), bel⟩
end Go.Proofs.YtacnkcojhlbkoaaGreatDoor

set_option linter.unusedSimpArgs false
set_option linter.unusedVariables false
set_option linter.unnecessarySimpa false
namespace Go.Proofs.YtacnkcojhlbkoaaGreatDoor.NL
open Go Go.RowKit Go.Proofs
theorem Wd.or' {M N : Nat} {hi lo hi' lo' : Int} (h : Wd M hi lo) (h' : Wd N hi' lo') (key : M ||| N = M + N) : Wd (M + N) (bits .or .u64 hi hi') (bits .or .u64 lo lo') := by
  obtain ⟨H, L, rfl, rfl, h1, h2, rfl⟩ := h.nats
  obtain ⟨H', L', rfl, rfl, h3, h4, rfl⟩ := h'.nats
  rw [u64_or_nat _ _ h1 h3, u64_or_nat _ _ h2 h4]
  have hl : L ||| L' < 18446744073709551616 := Nat.or_lt_two_pow (n := 64) h2 h4
  have hh : H ||| H' < 18446744073709551616 := Nat.or_lt_two_pow (n := 64) h1 h3
  refine Wd.mk hh hl ?_
  rw [← key]
  have e1 : H * 18446744073709551616 + L = (H <<< 64) ||| L := by rw [← Nat.shiftLeft_add_eq_or_of_lt (by exact h2), Nat.shiftLeft_eq]
  have e2 : H' * 18446744073709551616 + L' = (H' <<< 64) ||| L' := by rw [← Nat.shiftLeft_add_eq_or_of_lt (by exact h4), Nat.shiftLeft_eq]
  have e3 : (H ||| H') * 18446744073709551616 + (L ||| L') = ((H ||| H') <<< 64) ||| (L ||| L') := by rw [← Nat.shiftLeft_add_eq_or_of_lt (by exact hl), Nat.shiftLeft_eq]
  rw [e1, e2, e3, Nat.shiftLeft_or_distrib]
  rw [Nat.or_assoc, Nat.or_assoc, ← Nat.or_assoc (H' <<< 64) L, Nat.or_comm (H' <<< 64) L, Nat.or_assoc L]
/-- A bit that is not there yet. -/
theorem or_bit {M j : Nat} (h : M / 2 ^ j % 2 = 0) : M ||| 2 ^ j = M + 2 ^ j := by
  have h1 := Nat.div_add_mod M (2 ^ j)
  have h2 := Nat.mod_lt M (Nat.two_pow_pos j)
  obtain ⟨q, hq⟩ : ∃ q, M / 2 ^ j = 2 * q := ⟨M / 2 ^ j / 2, by omega⟩
  rw [hq] at h1
  generalize M % 2 ^ j = B at *
  have e1 : 2 ^ j * (2 * q) = q * 2 ^ (j + 1) := by rw [Nat.pow_succ, Nat.mul_comm q, Nat.mul_assoc]
  rw [e1] at h1
  have e2 : (q * 2 ^ (j + 1)) ||| B = M := by rw [nat_join (j + 1) _ _ (Nat.mul_mod_left _ _) (by rw [Nat.pow_succ]; omega)]; exact h1
  have e3 : (2 ^ j) ||| B = 2 ^ j + B := nat_join j _ _ (Nat.mod_self _) h2
  have e4 : (q * 2 ^ (j + 1)) ||| (2 ^ j + B) = q * 2 ^ (j + 1) + (2 ^ j + B) := nat_join (j + 1) _ _ (Nat.mul_mod_left _ _) (by rw [Nat.pow_succ]; omega)
  rw [← e2, Nat.or_assoc, Nat.or_comm B, e3, e4, e2]
  omega
end Go.Proofs.YtacnkcojhlbkoaaGreatDoor.NL
namespace Go.Proofs.YtacnkcojhlbkoaaGreatDoor
open Go.RowKit Go.Proofs.YtacnkcojhlbkoaaGreatDoorW.PrintWords Go.Proofs.YtacnkcojhlbkoaaGreatDoorW.PrintLast Go.Proofs.YtacnkcojhlbkoaaGreatDoorW.PrintMore Go.Proofs.YtacnkcojhlbkoaaGreatDoor.NL
set_option maxRecDepth 100000
set_option exponentiation.threshold 130

set_option maxHeartbeats 1000000 in
theorem wor_any' {M N : Nat} {hi lo hi' lo' : Int} (w : World) (h : Wd M hi lo) (h' : Wd N hi' lo') (key : M ||| N = M + N) :
    Calls Tryz.prog 102 #[wV hi lo, wV hi' lo'] w (GivesW (M + N) w) := by
  have HV := Lib.hid (h.or' h' key)
  obtain ⟨a0, a1, b0, b1, -⟩ := h
  obtain ⟨c0, c1, d0, d1, -⟩ := h'
  clear key
  go_enter Tryz.func102, Tryz.ntmps102
  go_wp2
  try go_region
  try go_wp2
  exact bodyPost_ret (v := wV (bits .or .u64 hi hi') (bits .or .u64 lo lo')) (by simp [results, Tryz.results102, go_sem]) rfl ⟨_, _, rfl, HV, bel⟩

theorem fmE_bd (f : Int) : 0 ≤ fmE f ∧ fmE f ≤ 20000 := by unfold fmE; repeat' split <;> omega
theorem fmW_bd (f : Int) : 16 ≤ fmW f ∧ fmW f ≤ 128 := by unfold fmW; repeat' split <;> omega
/-- The greatest exponent field. -/
def lastN (f : Int) : Nat := (2 * fmE f + 1).toNat
def frontN (f : Int) : Nat := if f = 4 then (fmD f).toNat else (fmD f).toNat - 1

set_option maxHeartbeats 1000000 in
theorem last_any (f : Int) (w : World) : Calls Tryz.prog 123 #[kV f] w fun e w' => e = .returned (wV 0 (lastN f)) ∧ Below w.heap.size w w' := by
  obtain ⟨h1, h2⟩ := fmE_bd f
  have hl : ((lastN f : Nat) : Int) = 2 * fmE f + 1 := by unfold lastN; omega
  rw [hl]
  show Calls Tryz.prog 123 #[.agg #[.int .i64 (fmD f), .int .i64 (fmE f), .int .i64 (fmL f), .int .i64 (fmH f), .int .i64 (fmW f), .int .i64 f]] w _
  clear hl
  generalize fmD f = D at *
  generalize fmE f = E at *
  generalize fmL f = L at *
  generalize fmH f = H at *
  generalize fmW f = W at *
  go_enter Tryz.func123, Tryz.ntmps123
  go_wp2
  exact bodyPost_ret (v := wV 0 (2 * E + 1)) (by simp [results, Tryz.results123, go_sem]) rfl ⟨rfl, bel⟩

set_option maxHeartbeats 1000000 in
theorem explicit_any (f : Int) (w : World) : Calls Tryz.prog 103 #[kV f] w fun e w' => e = .returned (.bool (f == 4)) ∧ Below w.heap.size w w' := by
  show Calls Tryz.prog 103 #[.agg #[.int .i64 (fmD f), .int .i64 (fmE f), .int .i64 (fmL f), .int .i64 (fmH f), .int .i64 (fmW f), .int .i64 f]] w _
  generalize fmD f = D at *
  generalize fmE f = E at *
  generalize fmL f = L at *
  generalize fmH f = H at *
  generalize fmW f = W at *
  go_enter Tryz.func103, Tryz.ntmps103
  go_wp2
  exact bodyPost_ret (v := .bool (f == 4)) (by simp [results, Tryz.results103, go_sem]) rfl ⟨rfl, bel⟩

set_option maxHeartbeats 1000000 in
theorem front_any (f : Int) (w : World) : Calls Tryz.prog 101 #[kV f] w fun e w' => e = .returned (.int .i64 (frontN f : Nat)) ∧ Below w.heap.size w w' := by
  have HE := Lib.hid fun w' => explicit_any f w'
  obtain ⟨h1, h2⟩ := fmD_bd f
  have hl : ((frontN f : Nat) : Int) = if (f == 4) = true then fmD f else fmD f - 1 := by unfold frontN; simp; split <;> omega
  rw [hl]
  clear hl
  show Calls Tryz.prog 101 #[.agg #[.int .i64 (fmD f), .int .i64 (fmE f), .int .i64 (fmL f), .int .i64 (fmH f), .int .i64 (fmW f), .int .i64 f]] w _
  unfold kV at HE
  generalize fmD f = D at *
  generalize fmE f = E at *
  generalize fmL f = L at *
  generalize fmH f = H at *
  generalize fmW f = W at *
  generalize (f == 4) = b at *
  cases b with
  | true =>
    go_enter Tryz.func101, Tryz.ntmps101
    go_wp2_with (go_at_call 103; (with_reducible refine (HE.out _).mono ?_); rintro e w1 ⟨rfl, b1⟩; obtain ⟨hc1, hf1⟩ := bcell b1; have hz1 := below_size b1; (try simp at hz1); have z0 : w.heap.size < w1.heap.size := (by omega))
    exact bodyPost_ret (v := .int .i64 D) (by simp [results, Tryz.results101, go_sem, hc1, z0]) rfl ⟨by simp, bel⟩
  | false =>
    go_enter Tryz.func101, Tryz.ntmps101
    go_wp2_with (go_at_call 103; (with_reducible refine (HE.out _).mono ?_); rintro e w1 ⟨rfl, b1⟩; obtain ⟨hc1, hf1⟩ := bcell b1; have hz1 := below_size b1; (try simp at hz1); have z0 : w.heap.size < w1.heap.size := (by omega))
    exact bodyPost_ret (v := .int .i64 (D - 1)) (by simp [results, Tryz.results101, go_sem, hc1, z0]) rfl ⟨by simp, bel⟩

/-- A field and a fraction. -/
def GivesFR (F R : Nat) (w : World) (e : Ending) (w' : World) : Prop := ∃ hi lo : Int, e = .returned (.tuple #[wV 0 F, wV hi lo]) ∧ Hid (Wd R hi lo) ∧ Below w.heap.size w w'
set_option maxHeartbeats 1000000 in
theorem bits_number {F R : Nat} {hi lo : Int} (f : Int) (w : World) (hw : Wd R hi lo) : Calls Tryz.prog 150 #[.agg #[.int .u64 0, .int .u64 F, .int .u64 hi, .int .u64 lo], kV f] w (GivesFR F R w) := by
  have HW := Lib.hid hw
  clear hw
  show Calls Tryz.prog 150 #[.agg #[.int .u64 0, .int .u64 F, .int .u64 hi, .int .u64 lo], .agg #[.int .i64 (fmD f), .int .i64 (fmE f), .int .i64 (fmL f), .int .i64 (fmH f), .int .i64 (fmW f), .int .i64 f]] w _
  go_enter Tryz.func150, Tryz.ntmps150
  go_wp2
  go_region
  go_wp2
  exact bodyPost_ret (v := .tuple #[wV 0 F, wV hi lo]) (by simp [results, Tryz.results150, go_sem]) rfl ⟨_, _, rfl, HW, bel⟩
set_option maxHeartbeats 1000000 in
theorem bits_endless (f : Int) (w : World) : Calls Tryz.prog 148 #[.agg #[], kV f] w (GivesFR (lastN f) 0 w) := by
  have HL := Lib.hid fun w' => last_any f w'
  show Calls Tryz.prog 148 #[.agg #[], .agg #[.int .i64 (fmD f), .int .i64 (fmE f), .int .i64 (fmL f), .int .i64 (fmH f), .int .i64 (fmW f), .int .i64 f]] w _
  generalize lastN f = T at *
  go_enter Tryz.func148, Tryz.ntmps148
  go_wp2_with (go_at_call 123; (with_reducible refine (HL.out _).mono ?_); rintro e w1 ⟨rfl, b1⟩; obtain ⟨hc1, hf1⟩ := bcell b1; have hz1 := below_size b1; (try simp at hz1); have z0 : w.heap.size < w1.heap.size := (by omega); have z1 : w.heap.size + 1 < w1.heap.size := (by omega); (try have z2 : w.heap.size + 2 < w1.heap.size := (by omega)))
  exact bodyPost_ret (v := .tuple #[wV 0 T, wV 0 0]) (by simp [results, Tryz.results148, go_sem, hc1, z0, z1]) rfl ⟨_, _, rfl, Lib.hid (Wd.mk (H := 0) (L := 0) (by omega) (by omega) rfl), bel⟩

theorem D_bd2 (f : Int) : 11 ≤ fmD f ∧ fmD f ≤ 113 := by unfold fmD; repeat' split <;> omega
theorem wd_one : Wd 1 0 1 := Wd.mk (H := 0) (L := 1) (by omega) (by omega) rfl
set_option maxHeartbeats 4000000 in
theorem bits_none {R : Nat} {hi lo : Int} (f : Int) (q : Bool) (w : World) (hw : Wd R hi lo) (hR : R < 2 ^ (fmD f - 2).toNat) : Calls Tryz.prog 149 #[.agg #[.int .u64 hi, .int .u64 lo, .bool q], kV f] w (GivesFR (lastN f) (R + if q then 2 ^ (fmD f - 2).toNat else 0) w) := by
  have HW := Lib.hid hw
  obtain ⟨h1, h2⟩ := D_bd2 f
  have HL := Lib.hid fun w' => last_any f w'
  obtain ⟨p, hp⟩ : ∃ p : Nat, fmD f - 2 = p := ⟨(fmD f - 2).toNat, by omega⟩
  have hp2 : (fmD f - 2).toNat = p := by omega
  have hp3 : p ≤ 111 := by omega
  have HS : Hid (∀ w', Calls Tryz.prog 100 #[wV 0 1, .int .i64 p] w' (GivesW (2 ^ p) w')) := Lib.hid fun w' => by
    have := wshl_any p w' wd_one (by omega)
    rwa [Nat.one_mul, Nat.mod_eq_of_lt (show 2 ^ p < W128 from Nat.lt_of_le_of_lt (Nat.pow_le_pow_right (by omega) hp3) (by decide))] at this
  have key : R ||| 2 ^ p = R + 2 ^ p := or_bit (by rw [Nat.div_eq_of_lt (by rwa [hp2] at hR)])
  have HO : Hid (∀ h l w', Hid (Wd (2 ^ p) h l) → Calls Tryz.prog 102 #[wV hi lo, wV h l] w' (GivesW (R + 2 ^ p) w')) := Lib.hid fun h l w' hh => wor_any' w' HW.out hh.out key
  rw [hp2]
  clear hw hp2 hR key
  show Calls Tryz.prog 149 #[.agg #[.int .u64 hi, .int .u64 lo, .bool q], .agg #[.int .i64 (fmD f), .int .i64 (fmE f), .int .i64 (fmL f), .int .i64 (fmH f), .int .i64 (fmW f), .int .i64 f]] w _
  unfold kV at HL
  generalize lastN f = T at *
  generalize fmD f = D at *
  generalize fmE f = E at *
  generalize fmL f = L at *
  generalize fmH f = H at *
  generalize fmW f = W at *
  cases q with
  | true =>
    rw [if_pos rfl]
    generalize 2 ^ p = P at *
    have hwp : IntKind.i64.wrap (p : Int) = p := by rw [IntKind.wrap_i64]; omega
    go_enter Tryz.func149, Tryz.ntmps149
    go_wp2
    go_region_with (first | (go_at_call 100; (try rw [hwp]); (with_reducible refine (HS.out _).mono ?_); rintro e w1 ⟨hi1, lo1, rfl, hw1, b1⟩; obtain ⟨hc1, hf1⟩ := bcell b1; have hz1 := below_size b1; (try simp at hz1); have z01 : w.heap.size < w1.heap.size := (by omega); have z11 : w.heap.size + 1 < w1.heap.size := (by omega); have z21 : w.heap.size + 1 + 1 < w1.heap.size := (by omega); have z31 : w.heap.size + 1 + 1 + 1 < w1.heap.size := (by omega); have z41 : w.heap.size + 1 + 1 + 1 + 1 < w1.heap.size := (by omega)) | (go_at_call 102; (with_reducible refine (HO.out _ _ _ hw1).mono ?_); rintro e w2 ⟨hi2, lo2, rfl, hw2, b2⟩; obtain ⟨hc2, hf2⟩ := bcell b2; have hz2 := below_size b2; (try simp at hz2); have z02 : w.heap.size < w2.heap.size := (by omega); have z12 : w.heap.size + 1 < w2.heap.size := (by omega); have z22 : w.heap.size + 1 + 1 < w2.heap.size := (by omega); have z32 : w.heap.size + 1 + 1 + 1 < w2.heap.size := (by omega); have z42 : w.heap.size + 1 + 1 + 1 + 1 < w2.heap.size := (by omega)))
    all_goals
      go_wp2
      go_region_with (go_at_call 123; (with_reducible refine (HL.out _).mono ?_); rintro e w3 ⟨rfl, b3⟩; obtain ⟨hc3, hf3⟩ := bcell b3; have hz3 := below_size b3; (try simp at hz3); have z03 : w.heap.size < w3.heap.size := (by omega); have z13 : w.heap.size + 1 < w3.heap.size := (by omega); have z23 : w.heap.size + 1 + 1 < w3.heap.size := (by omega); have z33 : w.heap.size + 1 + 1 + 1 < w3.heap.size := (by omega); have z43 : w.heap.size + 4 < w3.heap.size := (by omega))
      all_goals
        go_wp2
        exact bodyPost_ret (v := .tuple #[wV 0 T, wV hi2 lo2]) (by simp [results, Tryz.results149, go_sem, hc3, hc2, hc1, z23, z33, z22, z32, z42, z21, z31, z41]) rfl ⟨_, _, rfl, hw2, bel⟩
  | false =>
    rw [if_neg (by simp), Nat.add_zero]
    go_enter Tryz.func149, Tryz.ntmps149
    go_wp2
    go_region_with (go_at_call 123; (with_reducible refine (HL.out _).mono ?_); rintro e w3 ⟨rfl, b3⟩; obtain ⟨hc3, hf3⟩ := bcell b3; have hz3 := below_size b3; (try simp at hz3); have z03 : w.heap.size < w3.heap.size := (by omega); have z13 : w.heap.size + 1 < w3.heap.size := (by omega); have z23 : w.heap.size + 1 + 1 < w3.heap.size := (by omega); have z33 : w.heap.size + 1 + 1 + 1 < w3.heap.size := (by omega); have z43 : w.heap.size + 4 < w3.heap.size := (by omega))
    all_goals
      go_wp2
      exact bodyPost_ret (v := .tuple #[wV 0 T, wV hi lo]) (by simp [results, Tryz.results149, go_sem, hc3, z23, z33]) rfl ⟨_, _, rfl, HW, bel⟩
end Go.Proofs.YtacnkcojhlbkoaaGreatDoor
