/- binary: finite, Make, Special. binary: what a datum is in bits. binary: contentOf, pack, Encode. -/
import Derived.Test.YtacnkcojhlbkoaaDoorJNxt9
set_option linter.unusedSimpArgs false
set_option linter.unusedVariables false
set_option linter.unnecessarySimpa false
namespace Go.Proofs.YtacnkcojhlbkoaaDoor
open Go.RowKit Go.Proofs.YtacnkcojhlbkoaaDoorW.PrintWords Go.Proofs.YtacnkcojhlbkoaaDoorW.PrintLast Go.Proofs.YtacnkcojhlbkoaaDoorW.PrintMore Go.Proofs.YtacnkcojhlbkoaaDoor.NL
set_option maxRecDepth 100000
set_option exponentiation.threshold 100
attribute [local go_sem] max2_int min2_int max_two min_two

theorem blen_small_k {a : List Int} (la : Lim a) {k : Nat} (h : a.length ≤ k) : blen (val a) ≤ 32 * k := by
  rw [blen_le, ← W_two]
  exact Nat.lt_of_lt_of_le (val_lt la) (W_le h)
theorem len_blen {n k : Nat} (h : blen n ≤ 32 * k) : (ofN n).length ≤ k := by
  refine len_ofN_le (Nat.lt_of_lt_of_le (lt_blen _) ?_)
  show _ ≤ W k
  rw [W_two]
  exact Nat.pow_le_pow_right (by omega) h
/-- A datum with a coefficient of its own comes back. -/
def DatumP (f cl : Int) (ng : Bool) (a : List Int) (ex : Int) (w : World) (e : Ending) (w' : World) : Prop := ∃ v, e = .returned (.agg #[.int .i64 f, .int .i64 cl, .bool ng, v, .int .i64 ex]) ∧ Kd.R (Kd.int .u32) 77 w' w.heap.size (fun _ => True) v a ∧ Below w.heap.size w w'
/-- A datum and an error. -/
def DatumE (f cl : Int) (ng : Bool) (a : List Int) (ex er : Int) (w : World) (e : Ending) (w' : World) : Prop := ∃ v, e = .returned (.tuple #[.agg #[.int .i64 f, .int .i64 cl, .bool ng, v, .int .i64 ex], .int .i64 er]) ∧ Kd.R (Kd.int .u32) 77 w' w.heap.size (fun _ => True) v a ∧ Below w.heap.size w w'

theorem Chg.refl0 (w : World) (S : Nat → Prop) : Chg w w S := Chg.of_below (Below.refl _ _)
theorem chg0 {w w' : World} {g : Nat} (h : Chg w w' (fun k => k = g) := by repeat (first | with_reducible exact Chg.refl0 _ _ | ((refine Chg.setCell ?_ ?hpp _); (case hpp => exact rfl)))) : Chg w w' (fun k => k = g) := h
theorem chg2 {w w' : World} {g g2 : Nat} (h : Chg w w' (fun k => k = g ∨ k = g2) := by repeat (first | with_reducible exact Chg.refl0 _ _ | ((refine Chg.setCell ?_ ?hpp _); (case hpp => first | exact .inl rfl | exact .inr rfl))))   : Chg w w' (fun k => k = g ∨ k = g2) := h
theorem R_chg {w1 w2 : World} {base : Nat} {v : Value} {xs : List Int} {S : Nat → Prop} (h : Kd.R (Kd.int .u32) 77 w1 base (fun _ => True) v xs) (hc : Chg w1 w2 S) (hS : ∀ k, base ≤ k → ¬ S k) : Kd.R (Kd.int .u32) 77 w2 base (fun _ => True) v xs :=
  Kd.R_mono (Kd.R_step (Kd.R_bound h) (fun k hk hlt => hc.block k hlt (hS k hk.2.1))) (fun _ _ => trivial)

set_option maxHeartbeats 4000000 in
theorem finite_any {f ex : Int} {ng : Bool} {A : Option Addr} {n c : Nat} {a : List Int} (w : World) (hA : Kd.C (Kd.int .u32) w A n a) (hn : n ≤ 1000000000) :
    Calls Tryd.prog 77 #[kV f, .bool ng, .slice A n c, .int .i64 ex] w (DatumP f 1 ng a ex w) := by
  have HCL : Hid (∀ w', Below w.heap.size w w' → Calls Tryd.prog 65 #[.slice A n c] w' (NewRow w' a)) := Lib.hid fun w' hb => clone_nat A n c a w' (Kd.C_below hA hb) (by omega)
  clear hA
  go_enter Tryd.func77, Tryd.ntmps77
  go_wp2_with fail
  go_region_held3 (fun w' => w'.cell? ⟨w.heap.size, 5, none⟩ = some (.int .i64 f)) (first | (go_keep; done) | (rw [hc1 _ _ (by first | omega | (simp; omega) | simp)]; first | assumption | (simp; done))) ((go_at_call 65; (with_reducible refine (HCL.out _ bel).mono ?_); rintro e w1 ⟨v1, rfl, hv1, b1⟩; obtain ⟨A1, c1, rfl⟩ := Kd.R_slice hv1; have HV := Lib.hid hv1; clear hv1; obtain ⟨hc1, hf1⟩ := bcell b1; have hz1 := below_size b1; (try simp at hz1); have z0 : w.heap.size < w1.heap.size := (by omega); have z1 : w.heap.size + 1 < w1.heap.size := (by omega)))
  rename_i hHeld
  clear hHeld
  go_wp2
  exact bodyPost_ret (v := .agg #[.int .i64 f, .int .i64 1, .bool ng, .slice A1 a.length c1, .int .i64 ex]) (by simp [results, Tryd.results77, go_sem, hc1, z0, z1]) rfl ⟨_, rfl, Kd.R_lower (R_chg (S := fun k => k = w.heap.size + 1) HV.out chg0 (by simp; omega)) (by simp; omega), bel⟩

theorem fmL_bd (f : Int) : -20000 ≤ fmL f ∧ fmL f ≤ 0 := by unfold fmL; repeat' split <;> omega
theorem fmH_bd (f : Int) : 0 ≤ fmH f ∧ fmH f ≤ 20000 := by unfold fmH; repeat' split <;> omega
abbrev D0P (er : Int) := DatumE 0 0 false [] 0 er
set_option maxHeartbeats 4000000 in
theorem make_nofm {f ex : Int} {ng : Bool} {A : Option Addr} {n c : Nat} {a : List Int} (w : World) (hf : isFm f = false) : Calls Tryd.prog 32 #[.int .i64 f, .bool ng, .slice A n c, .int .i64 ex] w (D0P 1 w) := by
  have HK := Lib.hid fun w' => kindOf_no hf w'
  clear hf
  go_enter_defers Tryd.func32, Tryd.ntmps32
  go_wp2_with (first | (go_at_call 42; (with_reducible refine (HK.out _).mono ?_); rintro e w1 ⟨rfl, b1⟩; obtain ⟨hc1, hf1⟩ := bcell b1; have hz1 := below_size b1; (try simp at hz1)))
  (refine leaves_cons (f := 41) (args := #[.pointer (some ⟨w.heap.size + 1, 0, none⟩)]) (by simp) (by simp [go_sem]) ?_; refine (bcaught_panic (w.heap.size + 1) (1) 0 [] _ (BlkIs.one blk0)).mono ?_; rintro e u' w'' ⟨rfl, rfl, hch, hp⟩; have hp' : BlkIs w'' (w.heap.size + 1) 31 (· = #[.int .i64 (1)]) := ⟨_, hp, rfl⟩)
  have hd : BlkIs w'' w.heap.size 25 (· = #[.int .i64 0, .int .i64 0, .bool false, .slice none 0 0, .int .i64 0]) := blk0
  exact ⟨.tuple #[.agg #[.int .i64 0, .int .i64 0, .bool false, .slice none 0 0, .int .i64 0], .int .i64 1], rresults (rs := [.cell 8 25, .cell 9 31]) rfl (by simp) (.cell w.heap.size rfl (load_agg (t := 25) hd Tryd.underlying25 rfl (by kernel_rfl)) (.cell (w.heap.size + 1) rfl (load_one (t := 31) hp' (by kernel_rfl)) .nil)), .slice none 0 0, rfl, Kd.R_nil _ _ _ _ _, below_chg bel hch (by omega)⟩

set_option maxHeartbeats 4000000 in
theorem make_bad {f ex : Int} {ng : Bool} {A : Option Addr} {n c : Nat} {a : List Int} (w : World) (hf : isFm f = true) (hA : Kd.C (Kd.int .u32) w A n a) (la : Lim a) (hok : okN a = false) : Calls Tryd.prog 32 #[.int .i64 f, .bool ng, .slice A n c, .int .i64 ex] w (D0P 1 w) := by
  have HK := Lib.hid fun w' => kindOf_ok hf w'
  have HV : Hid (∀ w', Below w.heap.size w w' → Calls Tryd.prog 67 #[.slice A n c] w' fun e w'' => e = .returned (.bool false) ∧ w' = w'') := Lib.hid fun w' hb => by
    have := valid_any A n c a w' (Kd.C_below hA hb) la
    rwa [hok] at this
  clear hf hA hok
  go_enter_defers Tryd.func32, Tryd.ntmps32
  go_wp2_with (first | (go_at_call 42; (with_reducible refine (HK.out _).mono ?_); rintro e w1 ⟨rfl, b1⟩; obtain ⟨hc1, hf1⟩ := bcell b1; have hz1 := below_size b1; (try simp at hz1); have z0 : w.heap.size < w1.heap.size := (by omega); have z1 : w.heap.size + 1 < w1.heap.size := (by omega)) | (go_at_call 67; (with_reducible refine (HV.out _ bel).mono ?_); rintro e w9 ⟨rfl, rfl⟩) | (go_at_call 43; (with_reducible refine (bneed_false _ _).mono ?_); rintro e w9 ⟨rfl, rfl⟩))
  (refine leaves_cons (f := 41) (args := #[.pointer (some ⟨w.heap.size + 1, 0, none⟩)]) (by simp) (by simp [go_sem]) ?_; refine (bcaught_panic (w.heap.size + 1) (1) 0 [] _ (BlkIs.one blk0)).mono ?_; rintro e u' w'' ⟨rfl, rfl, hch, hp⟩; have hp' : BlkIs w'' (w.heap.size + 1) 31 (· = #[.int .i64 (1)]) := ⟨_, hp, rfl⟩)
  have hd : BlkIs w'' w.heap.size 25 (· = #[.int .i64 0, .int .i64 0, .bool false, .slice none 0 0, .int .i64 0]) := blk0
  exact ⟨.tuple #[.agg #[.int .i64 0, .int .i64 0, .bool false, .slice none 0 0, .int .i64 0], .int .i64 1], rresults (rs := [.cell 8 25, .cell 9 31]) rfl (by simp) (.cell w.heap.size rfl (load_agg (t := 25) hd Tryd.underlying25 rfl (by kernel_rfl)) (.cell (w.heap.size + 1) rfl (load_one (t := 31) hp' (by kernel_rfl)) .nil)), .slice none 0 0, rfl, Kd.R_nil _ _ _ _ _, below_chg bel hch (by omega)⟩

set_option maxHeartbeats 4000000 in
theorem make_zero {f ex : Int} {ng : Bool} {A : Option Addr} {n c : Nat} {a : List Int} (w : World) (hf : isFm f = true) (hA : Kd.C (Kd.int .u32) w A n a) (la : Lim a) (hc : n ≤ c) (hok : okN a = true) (hz : val a = 0) : Calls Tryd.prog 32 #[.int .i64 f, .bool ng, .slice A n c, .int .i64 ex] w (DatumE f 1 ng [] (fmL f) 0 w) := by
  have HK := Lib.hid fun w' => kindOf_ok hf w'
  have HV : Hid (∀ w', Below w.heap.size w w' → Calls Tryd.prog 67 #[.slice A n c] w' fun e w'' => e = .returned (.bool true) ∧ w' = w'') := Lib.hid fun w' hb => by
    have := valid_any A n c a w' (Kd.C_below hA hb) la
    rwa [hok] at this
  have HS : Hid (∀ w', Below w.heap.size w w' → Calls Tryd.prog 76 #[.slice A n c] w' fun e w'' => e = .returned (.int .i64 (blen (val a) : Nat)) ∧ w' = w'') := Lib.hid fun w' hb => by
    obtain ⟨h1, h2⟩ := ok_num hA la hc hok hb
    exact bsize_any h1 h2
  have hzs : blen (val a) ≤ 32768 := by
    obtain ⟨h1, h2⟩ := okN_iff.1 hok
    have := blen_small_k la h1; omega
  obtain ⟨dd1, dd2⟩ := fmD_bd f
  obtain ⟨dl1, dl2⟩ := fmL_bd f
  obtain ⟨dh1, dh2⟩ := fmH_bd f
  have hz0 : blen (val a) = 0 := by rw [hz]; rfl
  have HFN : Hid (∀ w', Below w.heap.size w w' → Calls Tryd.prog 77 #[kV f, .bool ng, .slice none 0 0, .int .i64 (fmL f)] w' (DatumP f 1 ng [] (fmL f) w')) := Lib.hid fun w' hb => finite_any w' (R_nilC w') (by omega)
  rw [hz0] at HS
  clear hf hA hok hz hz0 hzs
  unfold kV at *
  generalize fmD f = D at *
  generalize fmE f = E at *
  generalize fmL f = L at *
  generalize fmH f = H at *
  generalize fmW f = W at *
  go_enter_defers Tryd.func32, Tryd.ntmps32
  go_wp2_with (first | (go_at_call 42; (with_reducible refine (HK.out _).mono ?_); rintro e w1 ⟨rfl, b1⟩; obtain ⟨hc1, hf1⟩ := bcell b1; have hz1 := below_size b1; (try simp at hz1); have z0 : w.heap.size < w1.heap.size := (by omega); have z1 : w.heap.size + 1 < w1.heap.size := (by omega)) | (go_at_call 67; (with_reducible refine (HV.out _ bel).mono ?_); rintro e w9 ⟨rfl, rfl⟩) | (go_at_call 43; (with_reducible refine (bneed_true _ _).mono ?_); rintro e w9 ⟨rfl, rfl⟩) | (go_at_call 76; (with_reducible refine (HS.out _ bel).mono ?_); rintro e w9 ⟨rfl, rfl⟩) | (go_at_call 77; (with_reducible refine (HFN.out _ bel).mono ?_); rintro e w4 ⟨v4, rfl, hv4, b4⟩; obtain ⟨A4, c4, rfl⟩ := Kd.R_slice hv4; have HV4 := Lib.hid hv4; clear hv4; obtain ⟨hc4, hf4⟩ := bcell b4; have hz4 := below_size b4; (try simp at hz4); have y0 : w.heap.size < w4.heap.size := (by omega); have y1 : w.heap.size + 1 < w4.heap.size := (by omega)))
  (refine leaves_cons (f := 41) (args := #[.pointer (some ⟨w.heap.size + 1, 0, none⟩)]) (by simp) (by simp [go_sem]) ?_; refine (bcaught_idle _ _).mono ?_; rintro e u' w'' ⟨rfl, rfl, rfl⟩)
  refine ⟨.tuple #[.agg #[.int .i64 f, .int .i64 1, .bool ng, .slice A4 ([] : List Int).length c4, .int .i64 L], .int .i64 0], rresults (rs := [.cell 8 25, .cell 9 31]) rfl (by simp) (.cell w.heap.size rfl (load_agg (t := 25) blk0 Tryd.underlying25 rfl (by kernel_rfl)) (.cell (w.heap.size + 1) rfl (load_one (t := 31) blk0 (by kernel_rfl)) .nil)), _, rfl, Kd.R_lower (R_chg (S := fun k => k = w.heap.size ∨ k = w.heap.size + 1) HV4.out chg2 (by intro k hk; (try simp at hk ⊢); omega)) (by first | omega | (simp; omega)), bel⟩

/-- The exponent of the datum. -/
def makeQ (f ex : Int) (n : Nat) : Int := max (fmL f) (ex + n - fmD f)
def makeC1 (f ex : Int) : Bool := decide (ex ≤ fmH f + fmD f) && decide (fmL f - 32768 ≤ ex)
def makeC2 (f ex : Int) (a : List Int) : Bool := decide (makeQ f ex (blen (val a)) ≤ fmH f) && decide (makeQ f ex (blen (val a)) ≤ ex + (tz (val a) : Nat))

set_option maxHeartbeats 8000000 in
theorem make_c1 {f ex : Int} {ng : Bool} {A : Option Addr} {n c : Nat} {a : List Int} (w : World) (hT : Tab w) (hf : isFm f = true) (hA : Kd.C (Kd.int .u32) w A n a) (la : Lim a) (hc : n ≤ c) (hok : okN a = true) (hz : val a ≠ 0) (h1 : makeC1 f ex = false) : Calls Tryd.prog 32 #[.int .i64 f, .bool ng, .slice A n c, .int .i64 ex] w (D0P 3 w) := by
  have HK := Lib.hid fun w' => kindOf_ok hf w'
  have HV : Hid (∀ w', Below w.heap.size w w' → Calls Tryd.prog 67 #[.slice A n c] w' fun e w'' => e = .returned (.bool true) ∧ w' = w'') := Lib.hid fun w' hb => by
    have := valid_any A n c a w' (Kd.C_below hA hb) la
    rwa [hok] at this
  have HS : Hid (∀ w', Below w.heap.size w w' → Calls Tryd.prog 76 #[.slice A n c] w' fun e w'' => e = .returned (.int .i64 (blen (val a) : Nat)) ∧ w' = w'') := Lib.hid fun w' hb => by
    obtain ⟨h1, h2⟩ := ok_num hA la hc hok hb
    exact bsize_any h1 h2
  have hzs : blen (val a) ≤ 32768 := by
    obtain ⟨h1, h2⟩ := okN_iff.1 hok
    have := blen_small_k la h1; omega
  obtain ⟨dd1, dd2⟩ := fmD_bd f
  obtain ⟨dl1, dl2⟩ := fmL_bd f
  obtain ⟨dh1, dh2⟩ := fmH_bd f
  have HZ : Hid (∀ w', Below w.heap.size w w' → Calls Tryd.prog 69 #[.slice A n c] w' fun e w'' => e = .returned (.tuple #[.int .i64 (tz (val a) : Nat), .int .i64 0]) ∧ w' = w'') := Lib.hid fun w' hb => by
    have := nZeros_any w' (hT.below hb) (Kd.C_below hA hb) la hc
    unfold natZeros at this
    rwa [if_pos hok] at this
  have htz : tz (val a) ≤ 32768 := by
    obtain ⟨m, h1, h2⟩ := tz_spec hz
    have h3 : blen (val a) = blen m + tz (val a) := by
      have := blen_mul_pow (n := m) (by omega) (tz (val a))
      rwa [← h2] at this
    omega
  have hnz : 0 < blen (val a) := by
    have := mt blen_eq_zero.1 hz
    omega
  have t0 : (((blen (val a) : Nat) : Int) == 0) = false := by simp; omega
  unfold makeC1 at h1
  clear hf hA hok hz hT htz
  unfold kV at *
  generalize fmD f = D at *
  generalize fmE f = E at *
  generalize fmL f = L at *
  generalize fmH f = H at *
  generalize fmW f = W at *
  generalize blen (val a) = z at *
  generalize tz (val a) = y at *
  have h2 : H + D < ex ∨ ex < L - 32768 := by
    simp at h1
    omega
  clear h1
  rcases h2 with h2 | h2
  · have d0 : decide (ex ≤ H + D) = false := decide_eq_false (by omega)
    go_enter_defers Tryd.func32, Tryd.ntmps32
    go_wp2_with (first | (go_at_call 42; (with_reducible refine (HK.out _).mono ?_); rintro e w1 ⟨rfl, b1⟩; obtain ⟨hc1, hf1⟩ := bcell b1; have hz1 := below_size b1; (try simp at hz1); have z0 : w.heap.size < w1.heap.size := (by omega); have z1 : w.heap.size + 1 < w1.heap.size := (by omega)) | (go_at_call 67; (with_reducible refine (HV.out _ bel).mono ?_); rintro e w9 ⟨rfl, rfl⟩) | (go_at_call 43; (with_reducible refine (bneed_true _ _).mono ?_); rintro e w9 ⟨rfl, rfl⟩) | (go_at_call 76; (with_reducible refine (HS.out _ bel).mono ?_); rintro e w9 ⟨rfl, rfl⟩) | (go_at_call 69; (with_reducible refine (HZ.out _ bel).mono ?_); rintro e w9 ⟨rfl, rfl⟩) | (go_at_call 43; (with_reducible refine (bneed_false _ _).mono ?_); rintro e w9 ⟨rfl, rfl⟩))
    (refine leaves_cons (f := 41) (args := #[.pointer (some ⟨w.heap.size + 1, 0, none⟩)]) (by simp) (by simp [go_sem]) ?_; refine (bcaught_panic (w.heap.size + 1) (3) 0 [] _ (BlkIs.one blk0)).mono ?_; rintro e u' w'' ⟨rfl, rfl, hch, hp⟩; have hp' : BlkIs w'' (w.heap.size + 1) 31 (· = #[.int .i64 (3)]) := ⟨_, hp, rfl⟩)
    have hd : BlkIs w'' w.heap.size 25 (· = #[.int .i64 0, .int .i64 0, .bool false, .slice none 0 0, .int .i64 0]) := blk0
    exact ⟨.tuple #[.agg #[.int .i64 0, .int .i64 0, .bool false, .slice none 0 0, .int .i64 0], .int .i64 3], rresults (rs := [.cell 8 25, .cell 9 31]) rfl (by simp) (.cell w.heap.size rfl (load_agg (t := 25) hd Tryd.underlying25 rfl (by kernel_rfl)) (.cell (w.heap.size + 1) rfl (load_one (t := 31) hp' (by kernel_rfl)) .nil)), .slice none 0 0, rfl, Kd.R_nil _ _ _ _ _, below_chg bel hch (by omega)⟩
  · have d0 : decide (L - 32768 ≤ ex) = false := decide_eq_false (by omega)
    have d1 : decide (ex ≤ H + D) = true := decide_eq_true (by omega)
    go_enter_defers Tryd.func32, Tryd.ntmps32
    go_wp2_with (first | (go_at_call 42; (with_reducible refine (HK.out _).mono ?_); rintro e w1 ⟨rfl, b1⟩; obtain ⟨hc1, hf1⟩ := bcell b1; have hz1 := below_size b1; (try simp at hz1); have z0 : w.heap.size < w1.heap.size := (by omega); have z1 : w.heap.size + 1 < w1.heap.size := (by omega)) | (go_at_call 67; (with_reducible refine (HV.out _ bel).mono ?_); rintro e w9 ⟨rfl, rfl⟩) | (go_at_call 43; (with_reducible refine (bneed_true _ _).mono ?_); rintro e w9 ⟨rfl, rfl⟩) | (go_at_call 76; (with_reducible refine (HS.out _ bel).mono ?_); rintro e w9 ⟨rfl, rfl⟩) | (go_at_call 69; (with_reducible refine (HZ.out _ bel).mono ?_); rintro e w9 ⟨rfl, rfl⟩) | (go_at_call 43; (with_reducible refine (bneed_false _ _).mono ?_); rintro e w9 ⟨rfl, rfl⟩))
    (refine leaves_cons (f := 41) (args := #[.pointer (some ⟨w.heap.size + 1, 0, none⟩)]) (by simp) (by simp [go_sem]) ?_; refine (bcaught_panic (w.heap.size + 1) (3) 0 [] _ (BlkIs.one blk0)).mono ?_; rintro e u' w'' ⟨rfl, rfl, hch, hp⟩; have hp' : BlkIs w'' (w.heap.size + 1) 31 (· = #[.int .i64 (3)]) := ⟨_, hp, rfl⟩)
    have hd : BlkIs w'' w.heap.size 25 (· = #[.int .i64 0, .int .i64 0, .bool false, .slice none 0 0, .int .i64 0]) := blk0
    exact ⟨.tuple #[.agg #[.int .i64 0, .int .i64 0, .bool false, .slice none 0 0, .int .i64 0], .int .i64 3], rresults (rs := [.cell 8 25, .cell 9 31]) rfl (by simp) (.cell w.heap.size rfl (load_agg (t := 25) hd Tryd.underlying25 rfl (by kernel_rfl)) (.cell (w.heap.size + 1) rfl (load_one (t := 31) hp' (by kernel_rfl)) .nil)), .slice none 0 0, rfl, Kd.R_nil _ _ _ _ _, below_chg bel hch (by omega)⟩

set_option maxHeartbeats 8000000 in
theorem make_c2 {f ex : Int} {ng : Bool} {A : Option Addr} {n c : Nat} {a : List Int} (w : World) (hT : Tab w) (hf : isFm f = true) (hA : Kd.C (Kd.int .u32) w A n a) (la : Lim a) (hc : n ≤ c) (hok : okN a = true) (hz : val a ≠ 0) (h1 : makeC1 f ex = true) (h2 : makeC2 f ex a = false) : Calls Tryd.prog 32 #[.int .i64 f, .bool ng, .slice A n c, .int .i64 ex] w (D0P 3 w) := by
  have HK := Lib.hid fun w' => kindOf_ok hf w'
  have HV : Hid (∀ w', Below w.heap.size w w' → Calls Tryd.prog 67 #[.slice A n c] w' fun e w'' => e = .returned (.bool true) ∧ w' = w'') := Lib.hid fun w' hb => by
    have := valid_any A n c a w' (Kd.C_below hA hb) la
    rwa [hok] at this
  have HS : Hid (∀ w', Below w.heap.size w w' → Calls Tryd.prog 76 #[.slice A n c] w' fun e w'' => e = .returned (.int .i64 (blen (val a) : Nat)) ∧ w' = w'') := Lib.hid fun w' hb => by
    obtain ⟨h1, h2⟩ := ok_num hA la hc hok hb
    exact bsize_any h1 h2
  have hzs : blen (val a) ≤ 32768 := by
    obtain ⟨h1, h2⟩ := okN_iff.1 hok
    have := blen_small_k la h1; omega
  obtain ⟨dd1, dd2⟩ := fmD_bd f
  obtain ⟨dl1, dl2⟩ := fmL_bd f
  obtain ⟨dh1, dh2⟩ := fmH_bd f
  have HZ : Hid (∀ w', Below w.heap.size w w' → Calls Tryd.prog 69 #[.slice A n c] w' fun e w'' => e = .returned (.tuple #[.int .i64 (tz (val a) : Nat), .int .i64 0]) ∧ w' = w'') := Lib.hid fun w' hb => by
    have := nZeros_any w' (hT.below hb) (Kd.C_below hA hb) la hc
    unfold natZeros at this
    rwa [if_pos hok] at this
  have htz : tz (val a) ≤ 32768 := by
    obtain ⟨m, h1, h2⟩ := tz_spec hz
    have h3 : blen (val a) = blen m + tz (val a) := by
      have := blen_mul_pow (n := m) (by omega) (tz (val a))
      rwa [← h2] at this
    omega
  have hnz : 0 < blen (val a) := by
    have := mt blen_eq_zero.1 hz
    omega
  have t0 : (((blen (val a) : Nat) : Int) == 0) = false := by simp; omega
  obtain ⟨q, hq⟩ : ∃ q, makeQ f ex (blen (val a)) = q := ⟨_, rfl⟩
  unfold makeC1 at h1
  simp only [Bool.and_eq_true, decide_eq_true_eq] at h1
  obtain ⟨e1, e2⟩ := h1
  unfold makeC2 at h2
  rw [hq] at h2
  unfold makeQ at hq
  clear hf hA hok hz hT htz
  unfold kV at *
  generalize fmD f = D at *
  generalize fmE f = E at *
  generalize fmL f = L at *
  generalize fmH f = H at *
  generalize fmW f = W at *
  generalize blen (val a) = z at *
  generalize tz (val a) = y at *
  have hq2 : (if L < ex + z - D then ex + z - D else L) = q := by split <;> omega
  have h3 : H < q ∨ ex + y < q := by
    simp at h2
    omega
  clear h2 hq
  have d0 : decide (ex ≤ H + D) = true := decide_eq_true (by omega)
  have d1 : decide (L - 32768 ≤ ex) = true := decide_eq_true (by omega)
  by_cases h2 : H < q
  · have d2 : decide (q ≤ H) = false := decide_eq_false (by omega)
    go_enter_defers Tryd.func32, Tryd.ntmps32
    go_wp2_with (first | (go_at_call 42; (with_reducible refine (HK.out _).mono ?_); rintro e w1 ⟨rfl, b1⟩; obtain ⟨hc1, hf1⟩ := bcell b1; have hz1 := below_size b1; (try simp at hz1); have z0 : w.heap.size < w1.heap.size := (by omega); have z1 : w.heap.size + 1 < w1.heap.size := (by omega)) | (go_at_call 67; (with_reducible refine (HV.out _ bel).mono ?_); rintro e w9 ⟨rfl, rfl⟩) | (go_at_call 43; (with_reducible refine (bneed_true _ _).mono ?_); rintro e w9 ⟨rfl, rfl⟩) | (go_at_call 76; (with_reducible refine (HS.out _ bel).mono ?_); rintro e w9 ⟨rfl, rfl⟩) | (go_at_call 69; (with_reducible refine (HZ.out _ bel).mono ?_); rintro e w9 ⟨rfl, rfl⟩) | (go_at_call 43; (with_reducible refine (bneed_false _ _).mono ?_); rintro e w9 ⟨rfl, rfl⟩))
    (refine leaves_cons (f := 41) (args := #[.pointer (some ⟨w.heap.size + 1, 0, none⟩)]) (by simp) (by simp [go_sem]) ?_; refine (bcaught_panic (w.heap.size + 1) (3) 0 [] _ (BlkIs.one blk0)).mono ?_; rintro e u' w'' ⟨rfl, rfl, hch, hp⟩; have hp' : BlkIs w'' (w.heap.size + 1) 31 (· = #[.int .i64 (3)]) := ⟨_, hp, rfl⟩)
    have hd : BlkIs w'' w.heap.size 25 (· = #[.int .i64 0, .int .i64 0, .bool false, .slice none 0 0, .int .i64 0]) := blk0
    exact ⟨.tuple #[.agg #[.int .i64 0, .int .i64 0, .bool false, .slice none 0 0, .int .i64 0], .int .i64 3], rresults (rs := [.cell 8 25, .cell 9 31]) rfl (by simp) (.cell w.heap.size rfl (load_agg (t := 25) hd Tryd.underlying25 rfl (by kernel_rfl)) (.cell (w.heap.size + 1) rfl (load_one (t := 31) hp' (by kernel_rfl)) .nil)), .slice none 0 0, rfl, Kd.R_nil _ _ _ _ _, below_chg bel hch (by omega)⟩
  · have d2 : decide (q ≤ H) = true := decide_eq_true (by omega)
    have d3 : decide (q ≤ ex + y) = false := decide_eq_false (by omega)
    go_enter_defers Tryd.func32, Tryd.ntmps32
    go_wp2_with (first | (go_at_call 42; (with_reducible refine (HK.out _).mono ?_); rintro e w1 ⟨rfl, b1⟩; obtain ⟨hc1, hf1⟩ := bcell b1; have hz1 := below_size b1; (try simp at hz1); have z0 : w.heap.size < w1.heap.size := (by omega); have z1 : w.heap.size + 1 < w1.heap.size := (by omega)) | (go_at_call 67; (with_reducible refine (HV.out _ bel).mono ?_); rintro e w9 ⟨rfl, rfl⟩) | (go_at_call 43; (with_reducible refine (bneed_true _ _).mono ?_); rintro e w9 ⟨rfl, rfl⟩) | (go_at_call 76; (with_reducible refine (HS.out _ bel).mono ?_); rintro e w9 ⟨rfl, rfl⟩) | (go_at_call 69; (with_reducible refine (HZ.out _ bel).mono ?_); rintro e w9 ⟨rfl, rfl⟩) | (go_at_call 43; (with_reducible refine (bneed_false _ _).mono ?_); rintro e w9 ⟨rfl, rfl⟩))
    (refine leaves_cons (f := 41) (args := #[.pointer (some ⟨w.heap.size + 1, 0, none⟩)]) (by simp) (by simp [go_sem]) ?_; refine (bcaught_panic (w.heap.size + 1) (3) 0 [] _ (BlkIs.one blk0)).mono ?_; rintro e u' w'' ⟨rfl, rfl, hch, hp⟩; have hp' : BlkIs w'' (w.heap.size + 1) 31 (· = #[.int .i64 (3)]) := ⟨_, hp, rfl⟩)
    have hd : BlkIs w'' w.heap.size 25 (· = #[.int .i64 0, .int .i64 0, .bool false, .slice none 0 0, .int .i64 0]) := blk0
    exact ⟨.tuple #[.agg #[.int .i64 0, .int .i64 0, .bool false, .slice none 0 0, .int .i64 0], .int .i64 3], rresults (rs := [.cell 8 25, .cell 9 31]) rfl (by simp) (.cell w.heap.size rfl (load_agg (t := 25) hd Tryd.underlying25 rfl (by kernel_rfl)) (.cell (w.heap.size + 1) rfl (load_one (t := 31) hp' (by kernel_rfl)) .nil)), .slice none 0 0, rfl, Kd.R_nil _ _ _ _ _, below_chg bel hch (by omega)⟩

set_option maxHeartbeats 8000000 in
theorem make_shl {f ex : Int} {ng : Bool} {A : Option Addr} {n c : Nat} {a : List Int} (w : World) (hT : Tab w) (hf : isFm f = true) (hA : Kd.C (Kd.int .u32) w A n a) (la : Lim a) (hc : n ≤ c) (hok : okN a = true) (hz : val a ≠ 0) (h1 : makeC1 f ex = true) (h2 : makeC2 f ex a = true) (h5 : makeQ f ex (blen (val a)) ≤ ex) : Calls Tryd.prog 32 #[.int .i64 f, .bool ng, .slice A n c, .int .i64 ex] w (DatumE f 1 ng (ofN (val a * 2 ^ (ex - makeQ f ex (blen (val a))).toNat)) (makeQ f ex (blen (val a))) 0 w) := by
  have HK := Lib.hid fun w' => kindOf_ok hf w'
  have HV : Hid (∀ w', Below w.heap.size w w' → Calls Tryd.prog 67 #[.slice A n c] w' fun e w'' => e = .returned (.bool true) ∧ w' = w'') := Lib.hid fun w' hb => by
    have := valid_any A n c a w' (Kd.C_below hA hb) la
    rwa [hok] at this
  have HS : Hid (∀ w', Below w.heap.size w w' → Calls Tryd.prog 76 #[.slice A n c] w' fun e w'' => e = .returned (.int .i64 (blen (val a) : Nat)) ∧ w' = w'') := Lib.hid fun w' hb => by
    obtain ⟨h1, h2⟩ := ok_num hA la hc hok hb
    exact bsize_any h1 h2
  have hzs : blen (val a) ≤ 32768 := by
    obtain ⟨h1, h2⟩ := okN_iff.1 hok
    have := blen_small_k la h1; omega
  obtain ⟨dd1, dd2⟩ := fmD_bd f
  obtain ⟨dl1, dl2⟩ := fmL_bd f
  obtain ⟨dh1, dh2⟩ := fmH_bd f
  have HZ : Hid (∀ w', Below w.heap.size w w' → Calls Tryd.prog 69 #[.slice A n c] w' fun e w'' => e = .returned (.tuple #[.int .i64 (tz (val a) : Nat), .int .i64 0]) ∧ w' = w'') := Lib.hid fun w' hb => by
    have := nZeros_any w' (hT.below hb) (Kd.C_below hA hb) la hc
    unfold natZeros at this
    rwa [if_pos hok] at this
  have htz : tz (val a) ≤ 32768 := by
    obtain ⟨m, h1, h2⟩ := tz_spec hz
    have h3 : blen (val a) = blen m + tz (val a) := by
      have := blen_mul_pow (n := m) (by omega) (tz (val a))
      rwa [← h2] at this
    omega
  have hnz : 0 < blen (val a) := by
    have := mt blen_eq_zero.1 hz
    omega
  have t0 : (((blen (val a) : Nat) : Int) == 0) = false := by simp; omega
  obtain ⟨q, hq⟩ : ∃ q, makeQ f ex (blen (val a)) = q := ⟨_, rfl⟩
  unfold makeC1 at h1
  simp only [Bool.and_eq_true, decide_eq_true_eq] at h1
  obtain ⟨e1, e2⟩ := h1
  unfold makeC2 at h2
  rw [hq] at h2
  rw [hq] at h5 ⊢
  unfold makeQ at hq
  simp only [Bool.and_eq_true, decide_eq_true_eq] at h2
  obtain ⟨e3, e4⟩ := h2
  have hq2 : (if fmL f < ex + (blen (val a) : Nat) - fmD f then ex + (blen (val a) : Nat) - fmD f else fmL f) = q := by split <;> omega
  have HML : Hid (blen (val a * 2 ^ (ex - q).toNat) = blen (val a) + (ex - q).toNat) := Lib.hid (blen_mul_pow hz _)
  have HMM : Hid True := Lib.hid trivial
  have HSH : Hid (∀ w', Below w.heap.size w w' → Calls Tryd.prog 31 #[.slice A n c, .int .i64 (ex - q)] w' (NumErr (ofN (val a * 2 ^ (ex - q).toNat)) 0 w')) := Lib.hid fun w' hb => by
    have h6 := nShl_any (ex - q) w' (Kd.C_below hA hb) la hc
    have h7 : natShl a (ex - q) = (ofN (val a * 2 ^ (ex - q).toNat), 0) := by
      unfold natShl
      have l0 : a ≠ [] := by rintro rfl; exact hz rfl
      have l1 : 0 ≤ ex - q := by omega
      have l2 : ex - q ≤ 32768 := by omega
      rw [hok]
      simp only [l1, l0, l2, decide_true, Bool.and_self, if_true, if_false, numOut]
      rw [if_pos]
      exact len_blen (by rw [HML.out]; omega)
    rwa [h7] at h6
  have HFN : Hid (∀ A3 c3 w', Kd.C (Kd.int .u32) w' A3 (ofN (val a * 2 ^ (ex - q).toNat)).length (ofN (val a * 2 ^ (ex - q).toNat)) → Calls Tryd.prog 77 #[kV f, .bool ng, .slice A3 (ofN (val a * 2 ^ (ex - q).toNat)).length c3, .int .i64 q] w' (DatumP f 1 ng (ofN (val a * 2 ^ (ex - q).toNat)) q w')) := Lib.hid fun A3 c3 w' hC => finite_any w' hC (by
    exact Nat.le_trans (len_blen (k := 1024) (by rw [HML.out]; omega)) (by omega))
  obtain ⟨lst, hlst⟩ : ∃ lst, ofN (val a * 2 ^ (ex - q).toNat) = lst := ⟨_, rfl⟩
  rw [hlst] at HSH HFN ⊢
  clear hf hA hok hz hT hlst HML HMM
  unfold kV at *
  generalize fmD f = D at *
  generalize fmE f = E at *
  generalize fmL f = L at *
  generalize fmH f = H at *
  generalize fmW f = W at *
  generalize blen (val a) = z at *
  generalize tz (val a) = y at *
  have d0 : decide (ex ≤ H + D) = true := decide_eq_true (by omega)
  have d1 : decide (L - 32768 ≤ ex) = true := decide_eq_true (by omega)
  have d2 : decide (q ≤ H) = true := decide_eq_true (by omega)
  have d3 : decide (q ≤ ex + y) = true := decide_eq_true (by omega)
  have d4 : decide (q ≤ ex) = true := decide_eq_true (by omega)
  clear hq
  go_enter_defers Tryd.func32, Tryd.ntmps32
  go_wp2_with (first | (go_at_call 42; (with_reducible refine (HK.out _).mono ?_); rintro e w1 ⟨rfl, b1⟩; obtain ⟨hc1, hf1⟩ := bcell b1; have hz1 := below_size b1; (try simp at hz1); have z0 : w.heap.size < w1.heap.size := (by omega); have z1 : w.heap.size + 1 < w1.heap.size := (by omega)) | (go_at_call 67; (with_reducible refine (HV.out _ bel).mono ?_); rintro e w9 ⟨rfl, rfl⟩) | (go_at_call 43; (with_reducible refine (bneed_true _ _).mono ?_); rintro e w9 ⟨rfl, rfl⟩) | (go_at_call 76; (with_reducible refine (HS.out _ bel).mono ?_); rintro e w9 ⟨rfl, rfl⟩) | (go_at_call 69; (with_reducible refine (HZ.out _ bel).mono ?_); rintro e w9 ⟨rfl, rfl⟩) | (go_at_call 31; (with_reducible refine (HSH.out _ bel).mono ?_); rintro e w3 ⟨v3, rfl, hv3, b3⟩; obtain ⟨A3, c3, rfl⟩ := Kd.R_slice hv3; have HV3 := Lib.hid (R_C hv3); clear hv3; obtain ⟨hc3, hf3⟩ := bcell b3; have hz3 := below_size b3; (try simp at hz3); have x0 : w.heap.size < w3.heap.size := (by omega); have x1 : w.heap.size + 1 < w3.heap.size := (by omega); have x2 : w1.heap.size < w3.heap.size := (by omega)) | (go_at_call 77; (with_reducible refine (HFN.out _ _ _ HV3.out.1).mono ?_); rintro e w4 ⟨v4, rfl, hv4, b4⟩; obtain ⟨A4, c4, rfl⟩ := Kd.R_slice hv4; have HV4 := Lib.hid hv4; clear hv4; obtain ⟨hc4, hf4⟩ := bcell b4; have hz4 := below_size b4; (try simp at hz4); have y0 : w.heap.size < w4.heap.size := (by omega); have y1 : w.heap.size + 1 < w4.heap.size := (by omega)))
  (refine leaves_cons (f := 41) (args := #[.pointer (some ⟨w.heap.size + 1, 0, none⟩)]) (by simp) (by simp [go_sem]) ?_; refine (bcaught_idle _ _).mono ?_; rintro e u' w'' ⟨rfl, rfl, rfl⟩)
  refine ⟨.tuple #[.agg #[.int .i64 f, .int .i64 1, .bool ng, .slice A4 (lst).length c4, .int .i64 q], .int .i64 0], rresults (rs := [.cell 8 25, .cell 9 31]) rfl (by simp) (.cell w.heap.size rfl (load_agg (t := 25) blk0 Tryd.underlying25 rfl (by kernel_rfl)) (.cell (w.heap.size + 1) rfl (load_one (t := 31) blk0 (by kernel_rfl)) .nil)), _, rfl, Kd.R_lower (R_chg (S := fun k => k = w.heap.size ∨ k = w.heap.size + 1) HV4.out chg2 (by intro k hk; (try simp at hk ⊢); omega)) (by first | omega | (simp; omega)), bel⟩

set_option maxHeartbeats 8000000 in
theorem make_shr {f ex : Int} {ng : Bool} {A : Option Addr} {n c : Nat} {a : List Int} (w : World) (hT : Tab w) (hf : isFm f = true) (hA : Kd.C (Kd.int .u32) w A n a) (la : Lim a) (hc : n ≤ c) (hok : okN a = true) (hz : val a ≠ 0) (h1 : makeC1 f ex = true) (h2 : makeC2 f ex a = true) (h5 : ex < makeQ f ex (blen (val a))) : Calls Tryd.prog 32 #[.int .i64 f, .bool ng, .slice A n c, .int .i64 ex] w (DatumE f 1 ng (ofN (val a / 2 ^ (makeQ f ex (blen (val a)) - ex).toNat)) (makeQ f ex (blen (val a))) 0 w) := by
  have HK := Lib.hid fun w' => kindOf_ok hf w'
  have HV : Hid (∀ w', Below w.heap.size w w' → Calls Tryd.prog 67 #[.slice A n c] w' fun e w'' => e = .returned (.bool true) ∧ w' = w'') := Lib.hid fun w' hb => by
    have := valid_any A n c a w' (Kd.C_below hA hb) la
    rwa [hok] at this
  have HS : Hid (∀ w', Below w.heap.size w w' → Calls Tryd.prog 76 #[.slice A n c] w' fun e w'' => e = .returned (.int .i64 (blen (val a) : Nat)) ∧ w' = w'') := Lib.hid fun w' hb => by
    obtain ⟨h1, h2⟩ := ok_num hA la hc hok hb
    exact bsize_any h1 h2
  have hzs : blen (val a) ≤ 32768 := by
    obtain ⟨h1, h2⟩ := okN_iff.1 hok
    have := blen_small_k la h1; omega
  obtain ⟨dd1, dd2⟩ := fmD_bd f
  obtain ⟨dl1, dl2⟩ := fmL_bd f
  obtain ⟨dh1, dh2⟩ := fmH_bd f
  have HZ : Hid (∀ w', Below w.heap.size w w' → Calls Tryd.prog 69 #[.slice A n c] w' fun e w'' => e = .returned (.tuple #[.int .i64 (tz (val a) : Nat), .int .i64 0]) ∧ w' = w'') := Lib.hid fun w' hb => by
    have := nZeros_any w' (hT.below hb) (Kd.C_below hA hb) la hc
    unfold natZeros at this
    rwa [if_pos hok] at this
  have htz : tz (val a) ≤ 32768 := by
    obtain ⟨m, h1, h2⟩ := tz_spec hz
    have h3 : blen (val a) = blen m + tz (val a) := by
      have := blen_mul_pow (n := m) (by omega) (tz (val a))
      rwa [← h2] at this
    omega
  have hnz : 0 < blen (val a) := by
    have := mt blen_eq_zero.1 hz
    omega
  have t0 : (((blen (val a) : Nat) : Int) == 0) = false := by simp; omega
  obtain ⟨q, hq⟩ : ∃ q, makeQ f ex (blen (val a)) = q := ⟨_, rfl⟩
  unfold makeC1 at h1
  simp only [Bool.and_eq_true, decide_eq_true_eq] at h1
  obtain ⟨e1, e2⟩ := h1
  unfold makeC2 at h2
  rw [hq] at h2
  rw [hq] at h5 ⊢
  unfold makeQ at hq
  simp only [Bool.and_eq_true, decide_eq_true_eq] at h2
  obtain ⟨e3, e4⟩ := h2
  have hq2 : (if fmL f < ex + (blen (val a) : Nat) - fmD f then ex + (blen (val a) : Nat) - fmD f else fmL f) = q := by split <;> omega
  have HML : Hid (blen (val a / 2 ^ (q - ex).toNat) = blen (val a) - (q - ex).toNat) := Lib.hid (by
    obtain ⟨m, m1, m2⟩ := tz_spec hz
    obtain ⟨j, hj⟩ : ∃ j, tz (val a) = j + (q - ex).toNat := ⟨tz (val a) - (q - ex).toNat, by omega⟩
    have e5 : val a / 2 ^ (q - ex).toNat = m * 2 ^ j := by
      rw [hj, Nat.pow_add, ← Nat.mul_assoc] at m2
      conv => lhs; rw [m2]
      exact Nat.mul_div_cancel _ (Nat.two_pow_pos _)
    have e6 := blen_mul_pow (n := m) (by omega) j
    have e7 := blen_mul_pow (n := m) (by omega) (tz (val a))
    rw [← m2] at e7
    rw [e5, e6]
    omega)
  have HMM : Hid True := Lib.hid trivial
  have HSH : Hid (∀ w', Below w.heap.size w w' → Calls Tryd.prog 70 #[.slice A n c, .int .i64 (q - ex)] w' (NumErr (ofN (val a / 2 ^ (q - ex).toNat)) 0 w')) := Lib.hid fun w' hb => by
    have h6 := nShr_any (q - ex) w' (Kd.C_below hA hb) la hc (by omega)
    have h7 : natShr a (q - ex) = (ofN (val a / 2 ^ (q - ex).toNat), 0) := by
      unfold natShr
      have l1 : 0 ≤ q - ex := by omega
      rw [hok]
      simp only [l1, decide_true, Bool.and_self, if_true]
    rwa [h7] at h6
  have HFN : Hid (∀ A3 c3 w', Kd.C (Kd.int .u32) w' A3 (ofN (val a / 2 ^ (q - ex).toNat)).length (ofN (val a / 2 ^ (q - ex).toNat)) → Calls Tryd.prog 77 #[kV f, .bool ng, .slice A3 (ofN (val a / 2 ^ (q - ex).toNat)).length c3, .int .i64 q] w' (DatumP f 1 ng (ofN (val a / 2 ^ (q - ex).toNat)) q w')) := Lib.hid fun A3 c3 w' hC => finite_any w' hC (by
    exact Nat.le_trans (len_blen (k := 1024) (by rw [HML.out]; omega)) (by omega))
  obtain ⟨lst, hlst⟩ : ∃ lst, ofN (val a / 2 ^ (q - ex).toNat) = lst := ⟨_, rfl⟩
  rw [hlst] at HSH HFN ⊢
  clear hf hA hok hz hT hlst HML HMM
  unfold kV at *
  generalize fmD f = D at *
  generalize fmE f = E at *
  generalize fmL f = L at *
  generalize fmH f = H at *
  generalize fmW f = W at *
  generalize blen (val a) = z at *
  generalize tz (val a) = y at *
  have d0 : decide (ex ≤ H + D) = true := decide_eq_true (by omega)
  have d1 : decide (L - 32768 ≤ ex) = true := decide_eq_true (by omega)
  have d2 : decide (q ≤ H) = true := decide_eq_true (by omega)
  have d3 : decide (q ≤ ex + y) = true := decide_eq_true (by omega)
  have d4 : decide (q ≤ ex) = false := decide_eq_false (by omega)
  clear hq
  go_enter_defers Tryd.func32, Tryd.ntmps32
  go_wp2_with (first | (go_at_call 42; (with_reducible refine (HK.out _).mono ?_); rintro e w1 ⟨rfl, b1⟩; obtain ⟨hc1, hf1⟩ := bcell b1; have hz1 := below_size b1; (try simp at hz1); have z0 : w.heap.size < w1.heap.size := (by omega); have z1 : w.heap.size + 1 < w1.heap.size := (by omega)) | (go_at_call 67; (with_reducible refine (HV.out _ bel).mono ?_); rintro e w9 ⟨rfl, rfl⟩) | (go_at_call 43; (with_reducible refine (bneed_true _ _).mono ?_); rintro e w9 ⟨rfl, rfl⟩) | (go_at_call 76; (with_reducible refine (HS.out _ bel).mono ?_); rintro e w9 ⟨rfl, rfl⟩) | (go_at_call 69; (with_reducible refine (HZ.out _ bel).mono ?_); rintro e w9 ⟨rfl, rfl⟩) | (go_at_call 70; (with_reducible refine (HSH.out _ bel).mono ?_); rintro e w3 ⟨v3, rfl, hv3, b3⟩; obtain ⟨A3, c3, rfl⟩ := Kd.R_slice hv3; have HV3 := Lib.hid (R_C hv3); clear hv3; obtain ⟨hc3, hf3⟩ := bcell b3; have hz3 := below_size b3; (try simp at hz3); have x0 : w.heap.size < w3.heap.size := (by omega); have x1 : w.heap.size + 1 < w3.heap.size := (by omega); have x2 : w1.heap.size < w3.heap.size := (by omega)) | (go_at_call 77; (with_reducible refine (HFN.out _ _ _ HV3.out.1).mono ?_); rintro e w4 ⟨v4, rfl, hv4, b4⟩; obtain ⟨A4, c4, rfl⟩ := Kd.R_slice hv4; have HV4 := Lib.hid hv4; clear hv4; obtain ⟨hc4, hf4⟩ := bcell b4; have hz4 := below_size b4; (try simp at hz4); have y0 : w.heap.size < w4.heap.size := (by omega); have y1 : w.heap.size + 1 < w4.heap.size := (by omega)))
  (refine leaves_cons (f := 41) (args := #[.pointer (some ⟨w.heap.size + 1, 0, none⟩)]) (by simp) (by simp [go_sem]) ?_; refine (bcaught_idle _ _).mono ?_; rintro e u' w'' ⟨rfl, rfl, rfl⟩)
  refine ⟨.tuple #[.agg #[.int .i64 f, .int .i64 1, .bool ng, .slice A4 (lst).length c4, .int .i64 q], .int .i64 0], rresults (rs := [.cell 8 25, .cell 9 31]) rfl (by simp) (.cell w.heap.size rfl (load_agg (t := 25) blk0 Tryd.underlying25 rfl (by kernel_rfl)) (.cell (w.heap.size + 1) rfl (load_one (t := 31) blk0 (by kernel_rfl)) .nil)), _, rfl, Kd.R_lower (R_chg (S := fun k => k = w.heap.size ∨ k = w.heap.size + 1) HV4.out chg2 (by intro k hk; (try simp at hk ⊢); omega)) (by first | omega | (simp; omega)), bel⟩
end Go.Proofs.YtacnkcojhlbkoaaDoor

set_option linter.unusedSimpArgs false
set_option linter.unusedVariables false
set_option linter.unnecessarySimpa false
namespace Go.Proofs.YtacnkcojhlbkoaaDoor.NL
open Go Go.RowKit Go.Proofs
theorem Wd.or' {M N : Nat} {hi lo hi' lo' : Int} (h : Wd M hi lo) (h' : Wd N hi' lo') (key : M ||| N = M + N) : Wd (M + N) (bits .or .u64 hi hi') (bits .or .u64 lo lo') := by
  obtain ⟨H, L, rfl, rfl, h1, h2, rfl⟩ := h.nats
  obtain ⟨H', L', rfl, rfl, h3, h4, rfl⟩ := h'.nats
  rw [u64_or_nat _ _ h1 h3, u64_or_nat _ _ h2 h4]
  have hl : L ||| L' < 18446744073709551616 := Nat.or_lt_two_pow (n := 64) h2 h4
  have hh : H ||| H' < 18446744073709551616 := Nat.or_lt_two_pow (n := 64) h1 h3
  refine Wd.mk hh hl ?_
  rw [← key]
  have e1 : H * 18446744073709551616 + L = (H <<< 64) ||| L := by rw [← Nat.shiftLeft_add_eq_or_of_lt (by exact h2), Nat.shiftLeft_eq]
  have e2 : H' * 18446744073709551616 + L' = (H' <<< 64) ||| L' := by rw [← Nat.shiftLeft_add_eq_or_of_lt (by exact h4), Nat.shiftLeft_eq]
  have e3 : (H ||| H') * 18446744073709551616 + (L ||| L') = ((H ||| H') <<< 64) ||| (L ||| L') := by rw [← Nat.shiftLeft_add_eq_or_of_lt (by exact hl), Nat.shiftLeft_eq]
  rw [e1, e2, e3, Nat.shiftLeft_or_distrib]
  rw [Nat.or_assoc, Nat.or_assoc, ← Nat.or_assoc (H' <<< 64) L, Nat.or_comm (H' <<< 64) L, Nat.or_assoc L]
/-- A bit that is not there yet. -/
theorem or_bit {M j : Nat} (h : M / 2 ^ j % 2 = 0) : M ||| 2 ^ j = M + 2 ^ j := by
  have h1 := Nat.div_add_mod M (2 ^ j)
  have h2 := Nat.mod_lt M (Nat.two_pow_pos j)
  obtain ⟨q, hq⟩ : ∃ q, M / 2 ^ j = 2 * q := ⟨M / 2 ^ j / 2, by omega⟩
  rw [hq] at h1
  generalize M % 2 ^ j = B at *
  have e1 : 2 ^ j * (2 * q) = q * 2 ^ (j + 1) := by rw [Nat.pow_succ, Nat.mul_comm q, Nat.mul_assoc]
  rw [e1] at h1
  have e2 : (q * 2 ^ (j + 1)) ||| B = M := by rw [nat_join (j + 1) _ _ (Nat.mul_mod_left _ _) (by rw [Nat.pow_succ]; omega)]; exact h1
  have e3 : (2 ^ j) ||| B = 2 ^ j + B := nat_join j _ _ (Nat.mod_self _) h2
  have e4 : (q * 2 ^ (j + 1)) ||| (2 ^ j + B) = q * 2 ^ (j + 1) + (2 ^ j + B) := nat_join (j + 1) _ _ (Nat.mul_mod_left _ _) (by rw [Nat.pow_succ]; omega)
  rw [← e2, Nat.or_assoc, Nat.or_comm B, e3, e4, e2]
  omega
end Go.Proofs.YtacnkcojhlbkoaaDoor.NL
namespace Go.Proofs.YtacnkcojhlbkoaaDoor
open Go.RowKit Go.Proofs.YtacnkcojhlbkoaaDoorW.PrintWords Go.Proofs.YtacnkcojhlbkoaaDoorW.PrintLast Go.Proofs.YtacnkcojhlbkoaaDoorW.PrintMore Go.Proofs.YtacnkcojhlbkoaaDoor.NL
set_option maxRecDepth 100000
set_option exponentiation.threshold 130

set_option maxHeartbeats 1000000 in
theorem wor_any' {M N : Nat} {hi lo hi' lo' : Int} (w : World) (h : Wd M hi lo) (h' : Wd N hi' lo') (key : M ||| N = M + N) :
    Calls Tryd.prog 92 #[wV hi lo, wV hi' lo'] w (GivesW (M + N) w) := by
  have HV := Lib.hid (h.or' h' key)
  obtain ⟨a0, a1, b0, b1, -⟩ := h
  obtain ⟨c0, c1, d0, d1, -⟩ := h'
  clear key
  go_enter Tryd.func92, Tryd.ntmps92
  go_wp2
  try go_region
  try go_wp2
  exact bodyPost_ret (v := wV (bits .or .u64 hi hi') (bits .or .u64 lo lo')) (by simp [results, Tryd.results92, go_sem]) rfl ⟨_, _, rfl, HV, bel⟩

theorem fmE_bd (f : Int) : 0 ≤ fmE f ∧ fmE f ≤ 20000 := by unfold fmE; repeat' split <;> omega
theorem fmW_bd (f : Int) : 16 ≤ fmW f ∧ fmW f ≤ 128 := by unfold fmW; repeat' split <;> omega
/-- The greatest exponent field. -/
def lastN (f : Int) : Nat := (2 * fmE f + 1).toNat
def frontN (f : Int) : Nat := if f = 4 then (fmD f).toNat else (fmD f).toNat - 1

set_option maxHeartbeats 1000000 in
theorem last_any (f : Int) (w : World) : Calls Tryd.prog 119 #[kV f] w fun e w' => e = .returned (wV 0 (lastN f)) ∧ Below w.heap.size w w' := by
  obtain ⟨h1, h2⟩ := fmE_bd f
  have hl : ((lastN f : Nat) : Int) = 2 * fmE f + 1 := by unfold lastN; omega
  rw [hl]
  show Calls Tryd.prog 119 #[.agg #[.int .i64 (fmD f), .int .i64 (fmE f), .int .i64 (fmL f), .int .i64 (fmH f), .int .i64 (fmW f), .int .i64 f]] w _
  clear hl
  generalize fmD f = D at *
  generalize fmE f = E at *
  generalize fmL f = L at *
  generalize fmH f = H at *
  generalize fmW f = W at *
  go_enter Tryd.func119, Tryd.ntmps119
  go_wp2
  exact bodyPost_ret (v := wV 0 (2 * E + 1)) (by simp [results, Tryd.results119, go_sem]) rfl ⟨rfl, bel⟩

set_option maxHeartbeats 1000000 in
theorem explicit_any (f : Int) (w : World) : Calls Tryd.prog 93 #[kV f] w fun e w' => e = .returned (.bool (f == 4)) ∧ Below w.heap.size w w' := by
  show Calls Tryd.prog 93 #[.agg #[.int .i64 (fmD f), .int .i64 (fmE f), .int .i64 (fmL f), .int .i64 (fmH f), .int .i64 (fmW f), .int .i64 f]] w _
  generalize fmD f = D at *
  generalize fmE f = E at *
  generalize fmL f = L at *
  generalize fmH f = H at *
  generalize fmW f = W at *
  go_enter Tryd.func93, Tryd.ntmps93
  go_wp2
  exact bodyPost_ret (v := .bool (f == 4)) (by simp [results, Tryd.results93, go_sem]) rfl ⟨rfl, bel⟩

set_option maxHeartbeats 1000000 in
theorem front_any (f : Int) (w : World) : Calls Tryd.prog 91 #[kV f] w fun e w' => e = .returned (.int .i64 (frontN f : Nat)) ∧ Below w.heap.size w w' := by
  have HE := Lib.hid fun w' => explicit_any f w'
  obtain ⟨h1, h2⟩ := fmD_bd f
  have hl : ((frontN f : Nat) : Int) = if (f == 4) = true then fmD f else fmD f - 1 := by unfold frontN; simp; split <;> omega
  rw [hl]
  clear hl
  show Calls Tryd.prog 91 #[.agg #[.int .i64 (fmD f), .int .i64 (fmE f), .int .i64 (fmL f), .int .i64 (fmH f), .int .i64 (fmW f), .int .i64 f]] w _
  unfold kV at HE
  generalize fmD f = D at *
  generalize fmE f = E at *
  generalize fmL f = L at *
  generalize fmH f = H at *
  generalize fmW f = W at *
  generalize (f == 4) = b at *
  cases b with
  | true =>
    go_enter Tryd.func91, Tryd.ntmps91
    go_wp2_with (go_at_call 93; (with_reducible refine (HE.out _).mono ?_); rintro e w1 ⟨rfl, b1⟩; obtain ⟨hc1, hf1⟩ := bcell b1; have hz1 := below_size b1; (try simp at hz1); have z0 : w.heap.size < w1.heap.size := (by omega))
    exact bodyPost_ret (v := .int .i64 D) (by simp [results, Tryd.results91, go_sem, hc1, z0]) rfl ⟨by simp, bel⟩
  | false =>
    go_enter Tryd.func91, Tryd.ntmps91
    go_wp2_with (go_at_call 93; (with_reducible refine (HE.out _).mono ?_); rintro e w1 ⟨rfl, b1⟩; obtain ⟨hc1, hf1⟩ := bcell b1; have hz1 := below_size b1; (try simp at hz1); have z0 : w.heap.size < w1.heap.size := (by omega))
    exact bodyPost_ret (v := .int .i64 (D - 1)) (by simp [results, Tryd.results91, go_sem, hc1, z0]) rfl ⟨by simp, bel⟩

/-- A field and a fraction. -/
def GivesFR (F R : Nat) (w : World) (e : Ending) (w' : World) : Prop := ∃ hi lo : Int, e = .returned (.tuple #[wV 0 F, wV hi lo]) ∧ Hid (Wd R hi lo) ∧ Below w.heap.size w w'
set_option maxHeartbeats 1000000 in
theorem bits_number {F R : Nat} {hi lo : Int} (f : Int) (w : World) (hw : Wd R hi lo) : Calls Tryd.prog 151 #[.agg #[.int .u64 0, .int .u64 F, .int .u64 hi, .int .u64 lo], kV f] w (GivesFR F R w) := by
  have HW := Lib.hid hw
  clear hw
  show Calls Tryd.prog 151 #[.agg #[.int .u64 0, .int .u64 F, .int .u64 hi, .int .u64 lo], .agg #[.int .i64 (fmD f), .int .i64 (fmE f), .int .i64 (fmL f), .int .i64 (fmH f), .int .i64 (fmW f), .int .i64 f]] w _
  go_enter Tryd.func151, Tryd.ntmps151
  go_wp2
  go_region
  go_wp2
  exact bodyPost_ret (v := .tuple #[wV 0 F, wV hi lo]) (by simp [results, Tryd.results151, go_sem]) rfl ⟨_, _, rfl, HW, bel⟩
set_option maxHeartbeats 1000000 in
theorem bits_endless (f : Int) (w : World) : Calls Tryd.prog 149 #[.agg #[], kV f] w (GivesFR (lastN f) 0 w) := by
  have HL := Lib.hid fun w' => last_any f w'
  show Calls Tryd.prog 149 #[.agg #[], .agg #[.int .i64 (fmD f), .int .i64 (fmE f), .int .i64 (fmL f), .int .i64 (fmH f), .int .i64 (fmW f), .int .i64 f]] w _
  generalize lastN f = T at *
  go_enter Tryd.func149, Tryd.ntmps149
  go_wp2_with (go_at_call 119; (with_reducible refine (HL.out _).mono ?_); rintro e w1 ⟨rfl, b1⟩; obtain ⟨hc1, hf1⟩ := bcell b1; have hz1 := below_size b1; (try simp at hz1); have z0 : w.heap.size < w1.heap.size := (by omega); have z1 : w.heap.size + 1 < w1.heap.size := (by omega); (try have z2 : w.heap.size + 2 < w1.heap.size := (by omega)))
  exact bodyPost_ret (v := .tuple #[wV 0 T, wV 0 0]) (by simp [results, Tryd.results149, go_sem, hc1, z0, z1]) rfl ⟨_, _, rfl, Lib.hid (Wd.mk (H := 0) (L := 0) (by omega) (by omega) rfl), bel⟩

theorem D_bd2 (f : Int) : 11 ≤ fmD f ∧ fmD f ≤ 113 := by unfold fmD; repeat' split <;> omega
theorem wd_one : Wd 1 0 1 := Wd.mk (H := 0) (L := 1) (by omega) (by omega) rfl
set_option maxHeartbeats 4000000 in
theorem bits_none {R : Nat} {hi lo : Int} (f : Int) (q : Bool) (w : World) (hw : Wd R hi lo) (hR : R < 2 ^ (fmD f - 2).toNat) : Calls Tryd.prog 150 #[.agg #[.int .u64 hi, .int .u64 lo, .bool q], kV f] w (GivesFR (lastN f) (R + if q then 2 ^ (fmD f - 2).toNat else 0) w) := by
  have HW := Lib.hid hw
  obtain ⟨h1, h2⟩ := D_bd2 f
  have HL := Lib.hid fun w' => last_any f w'
  obtain ⟨p, hp⟩ : ∃ p : Nat, fmD f - 2 = p := ⟨(fmD f - 2).toNat, by omega⟩
  have hp2 : (fmD f - 2).toNat = p := by omega
  have hp3 : p ≤ 111 := by omega
  have HS : Hid (∀ w', Calls Tryd.prog 90 #[wV 0 1, .int .i64 p] w' (GivesW (2 ^ p) w')) := Lib.hid fun w' => by
    have := wshl_any p w' wd_one (by omega)
    rwa [Nat.one_mul, Nat.mod_eq_of_lt (show 2 ^ p < W128 from Nat.lt_of_le_of_lt (Nat.pow_le_pow_right (by omega) hp3) (by decide))] at this
  have key : R ||| 2 ^ p = R + 2 ^ p := or_bit (by rw [Nat.div_eq_of_lt (by rwa [hp2] at hR)])
  have HO : Hid (∀ h l w', Hid (Wd (2 ^ p) h l) → Calls Tryd.prog 92 #[wV hi lo, wV h l] w' (GivesW (R + 2 ^ p) w')) := Lib.hid fun h l w' hh => wor_any' w' HW.out hh.out key
  rw [hp2]
  clear hw hp2 hR key
  show Calls Tryd.prog 150 #[.agg #[.int .u64 hi, .int .u64 lo, .bool q], .agg #[.int .i64 (fmD f), .int .i64 (fmE f), .int .i64 (fmL f), .int .i64 (fmH f), .int .i64 (fmW f), .int .i64 f]] w _
  unfold kV at HL
  generalize lastN f = T at *
  generalize fmD f = D at *
  generalize fmE f = E at *
  generalize fmL f = L at *
  generalize fmH f = H at *
  generalize fmW f = W at *
  cases q with
  | true =>
    rw [if_pos rfl]
    generalize 2 ^ p = P at *
    have hwp : IntKind.i64.wrap (p : Int) = p := by rw [IntKind.wrap_i64]; omega
    go_enter Tryd.func150, Tryd.ntmps150
    go_wp2
    go_region_with (first | (go_at_call 90; (try rw [hwp]); (with_reducible refine (HS.out _).mono ?_); rintro e w1 ⟨hi1, lo1, rfl, hw1, b1⟩; obtain ⟨hc1, hf1⟩ := bcell b1; have hz1 := below_size b1; (try simp at hz1); have z01 : w.heap.size < w1.heap.size := (by omega); have z11 : w.heap.size + 1 < w1.heap.size := (by omega); have z21 : w.heap.size + 1 + 1 < w1.heap.size := (by omega); have z31 : w.heap.size + 1 + 1 + 1 < w1.heap.size := (by omega); have z41 : w.heap.size + 1 + 1 + 1 + 1 < w1.heap.size := (by omega)) | (go_at_call 92; (with_reducible refine (HO.out _ _ _ hw1).mono ?_); rintro e w2 ⟨hi2, lo2, rfl, hw2, b2⟩; obtain ⟨hc2, hf2⟩ := bcell b2; have hz2 := below_size b2; (try simp at hz2); have z02 : w.heap.size < w2.heap.size := (by omega); have z12 : w.heap.size + 1 < w2.heap.size := (by omega); have z22 : w.heap.size + 1 + 1 < w2.heap.size := (by omega); have z32 : w.heap.size + 1 + 1 + 1 < w2.heap.size := (by omega); have z42 : w.heap.size + 1 + 1 + 1 + 1 < w2.heap.size := (by omega)))
    all_goals
      go_wp2
      go_region_with (go_at_call 119; (with_reducible refine (HL.out _).mono ?_); rintro e w3 ⟨rfl, b3⟩; obtain ⟨hc3, hf3⟩ := bcell b3; have hz3 := below_size b3; (try simp at hz3); have z03 : w.heap.size < w3.heap.size := (by omega); have z13 : w.heap.size + 1 < w3.heap.size := (by omega); have z23 : w.heap.size + 1 + 1 < w3.heap.size := (by omega); have z33 : w.heap.size + 1 + 1 + 1 < w3.heap.size := (by omega); have z43 : w.heap.size + 4 < w3.heap.size := (by omega))
      all_goals
        go_wp2
        exact bodyPost_ret (v := .tuple #[wV 0 T, wV hi2 lo2]) (by simp [results, Tryd.results150, go_sem, hc3, hc2, hc1, z23, z33, z22, z32, z42, z21, z31, z41]) rfl ⟨_, _, rfl, hw2, bel⟩
  | false =>
    rw [if_neg (by simp), Nat.add_zero]
    go_enter Tryd.func150, Tryd.ntmps150
    go_wp2
    go_region_with (go_at_call 119; (with_reducible refine (HL.out _).mono ?_); rintro e w3 ⟨rfl, b3⟩; obtain ⟨hc3, hf3⟩ := bcell b3; have hz3 := below_size b3; (try simp at hz3); have z03 : w.heap.size < w3.heap.size := (by omega); have z13 : w.heap.size + 1 < w3.heap.size := (by omega); have z23 : w.heap.size + 1 + 1 < w3.heap.size := (by omega); have z33 : w.heap.size + 1 + 1 + 1 < w3.heap.size := (by omega); have z43 : w.heap.size + 4 < w3.heap.size := (by omega))
    all_goals
      go_wp2
      exact bodyPost_ret (v := .tuple #[wV 0 T, wV hi lo]) (by simp [results, Tryd.results150, go_sem, hc3, z23, z33]) rfl ⟨_, _, rfl, HW, bel⟩
end Go.Proofs.YtacnkcojhlbkoaaDoor

set_option linter.unusedSimpArgs false
set_option linter.unusedVariables false
set_option linter.unnecessarySimpa false
namespace Go.Proofs.YtacnkcojhlbkoaaDoor
open Go.RowKit Go.Proofs.YtacnkcojhlbkoaaDoorW.PrintWords Go.Proofs.YtacnkcojhlbkoaaDoorW.PrintLast Go.Proofs.YtacnkcojhlbkoaaDoorW.PrintMore Go.Proofs.YtacnkcojhlbkoaaDoor.NL
set_option maxRecDepth 100000
set_option exponentiation.threshold 130

theorem len4 {w : World} {A : Option Addr} {n c : Nat} {a : List Int} (hA : Kd.C (Kd.int .u32) w A n a) (la : Lim a) (hc : n ≤ c) (hok : okN a = true) (hb : val a < W128) : n ≤ 4 := by
  obtain ⟨h1, h2⟩ := ok_num hA la hc hok (Below.refl _ _)
  exact len_le h1 (by show _ < 4294967296 ^ 4; exact hb)
def CInf (w : World) (e : Ending) (w' : World) : Prop := e = .returned (.iface 142 (.agg #[])) ∧ Below w.heap.size w w'
def CNan (N : Nat) (q : Bool) (w : World) (e : Ending) (w' : World) : Prop := ∃ hi lo : Int, e = .returned (.iface 144 (.agg #[.int .u64 hi, .int .u64 lo, .bool q])) ∧ Hid (Wd N hi lo) ∧ Below w.heap.size w w'
def CNum (M N : Nat) (w : World) (e : Ending) (w' : World) : Prop := ∃ hi lo : Int, e = .returned (.iface 147 (.agg #[.int .u64 0, .int .u64 M, .int .u64 hi, .int .u64 lo])) ∧ Hid (Wd N hi lo) ∧ Below w.heap.size w w'
abbrev WordOf (A : Option Addr) (n c : Nat) (N : Nat) (w : World) : Prop := ∀ w', Below w.heap.size w w' → Calls Tryd.prog 118 #[.slice A n c] w' (GivesW N w')

set_option maxHeartbeats 2000000 in
theorem cont_inf {N : Nat} {A : Option Addr} {n c : Nat} (f g ex : Int) (ng : Bool) (w : World) (hA : WordOf A n c N w) :
    Calls Tryd.prog 89 #[kV f, dV g 2 ng A n c ex] w (CInf w) := by
  have HWO := Lib.hid hA
  clear hA
  show Calls Tryd.prog 89 #[.agg #[.int .i64 (fmD f), .int .i64 (fmE f), .int .i64 (fmL f), .int .i64 (fmH f), .int .i64 (fmW f), .int .i64 f], dV g 2 ng A n c ex] w _
  generalize fmD f = D at *
  generalize fmE f = E at *
  generalize fmL f = L at *
  generalize fmH f = H at *
  generalize fmW f = W at *
  go_enter Tryd.func89, Tryd.ntmps89
  go_wp2_with (go_at_call 118; (with_reducible refine (HWO.out _ bel).mono ?_); rintro e w1 ⟨hi, lo, rfl, hw1, b1⟩; obtain ⟨hc1, hf1⟩ := bcell b1; have hz1 := below_size b1; (try simp at hz1); have z01 : w.heap.size < w1.heap.size := (by omega); have z11 : w.heap.size + 1 < w1.heap.size := (by omega))
  exact bodyPost_ret (v := .iface 142 (.agg #[])) (by simp [results, Tryd.results89, go_sem]) rfl ⟨rfl, bel⟩
set_option maxHeartbeats 2000000 in
theorem cont_nan {N : Nat} {A : Option Addr} {n c : Nat} (f g cl ex : Int) (ng : Bool) (w : World) (h1 : cl ≠ 1) (h2 : cl ≠ 2) (hA : WordOf A n c N w) :
    Calls Tryd.prog 89 #[kV f, dV g cl ng A n c ex] w (CNan N (cl == 3) w) := by
  have HWO := Lib.hid hA
  have t1 : (cl == 1) = false := by simpa using h1
  have t2 : (cl == 2) = false := by simpa using h2
  clear hA h1 h2
  obtain ⟨q, hq⟩ : ∃ q, (cl == 3) = q := ⟨_, rfl⟩
  rw [hq]
  show Calls Tryd.prog 89 #[.agg #[.int .i64 (fmD f), .int .i64 (fmE f), .int .i64 (fmL f), .int .i64 (fmH f), .int .i64 (fmW f), .int .i64 f], dV g cl ng A n c ex] w _
  generalize fmD f = D at *
  generalize fmE f = E at *
  generalize fmL f = L at *
  generalize fmH f = H at *
  generalize fmW f = W at *
  go_enter Tryd.func89, Tryd.ntmps89
  go_wp2_with (go_at_call 118; (with_reducible refine (HWO.out _ bel).mono ?_); rintro e w1 ⟨hi, lo, rfl, hw1, b1⟩; obtain ⟨hc1, hf1⟩ := bcell b1; have hz1 := below_size b1; (try simp at hz1); have z01 : w.heap.size < w1.heap.size := (by omega); have z11 : w.heap.size + 1 < w1.heap.size := (by omega))
  exact bodyPost_ret (v := .iface 144 (.agg #[.int .u64 hi, .int .u64 lo, .bool q])) (by simp [results, Tryd.results89, go_sem]) rfl ⟨_, _, rfl, hw1, bel⟩

set_option maxHeartbeats 4000000 in
theorem cont_sub {N : Nat} {A : Option Addr} {n c : Nat} (f g ex : Int) (ng : Bool) (w : World) (hz : (blen N : Int) ≠ fmD f) (hA : WordOf A n c N w) :
    Calls Tryd.prog 89 #[kV f, dV g 1 ng A n c ex] w (CNum 0 N w) := by
  have HWO := Lib.hid hA
  have HSZ : Hid (∀ hi lo w', Hid (Wd N hi lo) → Calls Tryd.prog 53 #[wV hi lo] w' fun e w'' => e = .returned (.int .i64 (blen N)) ∧ Below w'.heap.size w' w'') := Lib.hid fun hi lo w' hw => wsize_any w' hw.out
  have t1 : ((blen N : Int) == fmD f) = false := by simpa using hz
  clear hA hz
  show Calls Tryd.prog 89 #[.agg #[.int .i64 (fmD f), .int .i64 (fmE f), .int .i64 (fmL f), .int .i64 (fmH f), .int .i64 (fmW f), .int .i64 f], dV g 1 ng A n c ex] w _
  generalize blen N = z at *
  generalize fmD f = D at *
  generalize fmE f = E at *
  generalize fmL f = L at *
  generalize fmH f = H at *
  generalize fmW f = W at *
  go_enter Tryd.func89, Tryd.ntmps89
  go_wp2_with (go_at_call 118; (with_reducible refine (HWO.out _ bel).mono ?_); rintro e w1 ⟨hi, lo, rfl, hw1, b1⟩; obtain ⟨hc1, hf1⟩ := bcell b1; have hz1 := below_size b1; (try simp at hz1); have z01 : w.heap.size < w1.heap.size := (by omega); have z11 : w.heap.size + 1 < w1.heap.size := (by omega))
  go_region_with (go_at_call 53; (with_reducible refine (HSZ.out _ _ _ hw1).mono ?_); rintro e w2 ⟨rfl, b2⟩; obtain ⟨hc2, hf2⟩ := bcell b2; have hz2 := below_size b2; (try simp at hz2); have z02 : w.heap.size < w2.heap.size := (by omega); have z12 : w.heap.size + 1 < w2.heap.size := (by omega); (try have y12 : w1.heap.size < w2.heap.size := (by omega)); have q12 : w1.heap.size ≤ w2.heap.size := (by omega))
  all_goals
    go_wp2
    exact bodyPost_ret (v := .iface 147 (.agg #[.int .u64 0, .int .u64 ((0 : Nat) : Int), .int .u64 hi, .int .u64 lo])) (by simp [results, Tryd.results89, go_sem]) rfl ⟨_, _, rfl, hw1, bel⟩
set_option maxHeartbeats 4000000 in
theorem cont_full {N : Nat} {A : Option Addr} {n c : Nat} (f g ex : Int) (ng : Bool) (w : World) (hz : (blen N : Int) = fmD f) (hl : fmL f ≤ ex) (hh : ex ≤ fmH f) (hA : WordOf A n c N w) :
    Calls Tryd.prog 89 #[kV f, dV g 1 ng A n c ex] w (CNum (ex - fmL f + 1).toNat (N % 2 ^ (fmD f - 1).toNat) w) := by
  have HWO := Lib.hid hA
  have HSZ : Hid (∀ hi lo w', Hid (Wd N hi lo) → Calls Tryd.prog 53 #[wV hi lo] w' fun e w'' => e = .returned (.int .i64 (blen N)) ∧ Below w'.heap.size w' w'') := Lib.hid fun hi lo w' hw => wsize_any w' hw.out
  obtain ⟨d1, d2⟩ := D_bd2 f
  obtain ⟨l1, l2⟩ := fmL_bd f
  obtain ⟨l3, l4⟩ := fmH_bd f
  obtain ⟨p, hp⟩ : ∃ p : Nat, fmD f - 1 = p := ⟨(fmD f - 1).toNat, by omega⟩
  have hp2 : (fmD f - 1).toNat = p := by omega
  have HLO : Hid (∀ hi lo w', Hid (Wd N hi lo) → Calls Tryd.prog 99 #[wV hi lo, .int .i64 p] w' (GivesW (N % 2 ^ p) w')) := Lib.hid fun hi lo w' hw => wlow_any p w' hw.out (by omega)
  have t1 : ((blen N : Int) == fmD f) = true := by simpa using hz
  have hwp : IntKind.i64.wrap (p : Int) = p := by rw [IntKind.wrap_i64]; omega
  obtain ⟨m, hm⟩ : ∃ m : Nat, ex - fmL f + 1 = m := ⟨(ex - fmL f + 1).toNat, by omega⟩
  have hm2 : (ex - fmL f + 1).toNat = m := by omega
  have hm3 : IntKind.u64.wrap (IntKind.i64.wrap (IntKind.i64.wrap (ex - fmL f) + 1)) = m := by simp only [IntKind.wrap_i64, IntKind.wrap_u64]; omega
  rw [hp2, hm2]
  clear hA hz hp2 hm2
  generalize N % 2 ^ p = R at *
  show Calls Tryd.prog 89 #[.agg #[.int .i64 (fmD f), .int .i64 (fmE f), .int .i64 (fmL f), .int .i64 (fmH f), .int .i64 (fmW f), .int .i64 f], dV g 1 ng A n c ex] w _
  generalize blen N = z at *
  generalize fmD f = D at *
  generalize fmE f = E at *
  generalize fmL f = L at *
  generalize fmH f = H at *
  generalize fmW f = W at *
  go_enter Tryd.func89, Tryd.ntmps89
  go_wp2_with (go_at_call 118; (with_reducible refine (HWO.out _ bel).mono ?_); rintro e w1 ⟨hi, lo, rfl, hw1, b1⟩; obtain ⟨hc1, hf1⟩ := bcell b1; have hz1 := below_size b1; (try simp at hz1); have z01 : w.heap.size < w1.heap.size := (by omega); have z11 : w.heap.size + 1 < w1.heap.size := (by omega))
  go_region_with (go_at_call 53; (with_reducible refine (HSZ.out _ _ _ hw1).mono ?_); rintro e w2 ⟨rfl, b2⟩; obtain ⟨hc2, hf2⟩ := bcell b2; have hz2 := below_size b2; (try simp at hz2); have z02 : w.heap.size < w2.heap.size := (by omega); have z12 : w.heap.size + 1 < w2.heap.size := (by omega); (try have y12 : w1.heap.size < w2.heap.size := (by omega)); have q12 : w1.heap.size ≤ w2.heap.size := (by omega))
  all_goals
    go_wp2
    have k0 : w2.cell? ⟨w.heap.size, 0, none⟩ = some (.int .i64 D) := by first | (go_keep; done) | (rw [hc2 _ _ (by first | omega | (simp; omega) | simp)]; simp [go_sem, hc1, z01, z11, Nat.le_of_lt z01, Nat.le_of_lt z11])
    have k1 : w2.cell? ⟨w.heap.size, 2, none⟩ = some (.int .i64 L) := by first | (go_keep; done) | (rw [hc2 _ _ (by first | omega | (simp; omega) | simp)]; simp [go_sem, hc1, z01, z11, Nat.le_of_lt z01, Nat.le_of_lt z11])
    have k2 : w2.cell? ⟨w.heap.size + 1, 4, none⟩ = some (.int .i64 ex) := by first | (go_keep; done) | (rw [hc2 _ _ (by first | omega | (simp; omega) | simp)]; simp [go_sem, hc1, z01, z11, Nat.le_of_lt z01, Nat.le_of_lt z11])
    have k3 : w2.cell? ⟨w1.heap.size, 0, none⟩ = some (.int .u64 hi) := by first | (go_keep; done) | (rw [hc2 _ _ (by first | omega | (simp; omega) | simp)]; simp [go_sem, hc1, z01, z11, Nat.le_of_lt z01, Nat.le_of_lt z11])
    have k4 : w2.cell? ⟨w1.heap.size, 1, none⟩ = some (.int .u64 lo) := by first | (go_keep; done) | (rw [hc2 _ _ (by first | omega | (simp; omega) | simp)]; simp [go_sem, hc1, z01, z11, Nat.le_of_lt z01, Nat.le_of_lt z11])
    go_region_held3 (fun w' => w'.cell? ⟨w.heap.size, 0, none⟩ = some (.int .i64 D) ∧ w'.cell? ⟨w.heap.size, 2, none⟩ = some (.int .i64 L) ∧ w'.cell? ⟨w.heap.size + 1, 4, none⟩ = some (.int .i64 ex) ∧ w'.cell? ⟨w1.heap.size, 0, none⟩ = some (.int .u64 hi) ∧ w'.cell? ⟨w1.heap.size, 1, none⟩ = some (.int .u64 lo)) (first | (go_keep; done) | ((try go_split_ands); refine ⟨?_, ?_, ?_, ?_, ?_⟩ <;> first | (go_keep; done) | ((rw [hc3 _ _ (by first | omega | (simp; omega) | simp)]; first | assumption | (simp [*]; done))) | omega)) ((go_at_call 99; (try rw [hwp]); (with_reducible refine (HLO.out _ _ _ hw1).mono ?_); rintro e w3 ⟨hi3, lo3, rfl, hw3, b3⟩; obtain ⟨hc3, hf3⟩ := bcell b3; have hz3 := below_size b3; (try simp at hz3); have z03 : w.heap.size < w3.heap.size := (by omega); have z13 : w.heap.size + 1 < w3.heap.size := (by omega); (try have y13 : w1.heap.size < w3.heap.size := (by omega)); have q13 : w1.heap.size ≤ w3.heap.size := (by omega); (try have y23 : w2.heap.size < w3.heap.size := (by omega)); have q23 : w2.heap.size ≤ w3.heap.size := (by omega)))
    rename_i hHeld
    clear hHeld
    all_goals
      go_wp2
      exact bodyPost_ret (v := .iface 147 (.agg #[.int .u64 0, .int .u64 m, .int .u64 hi3, .int .u64 lo3])) (by simp [results, Tryd.results89, go_sem, hm3]) rfl ⟨_, _, rfl, hw3, bel⟩
end Go.Proofs.YtacnkcojhlbkoaaDoor
