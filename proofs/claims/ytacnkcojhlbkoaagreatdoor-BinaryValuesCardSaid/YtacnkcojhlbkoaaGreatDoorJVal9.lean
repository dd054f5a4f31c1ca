/- binary: Check, Make, Special, Encode, Decode. binary: finite, Make, Special. The specification's ValidInt: its walk. -/
import Derived.Test.YtacnkcojhlbkoaaGreatDoorJVal8
import Derived.Deep.RegionHeld3
import Derived.Deep.RegionWith
set_option linter.unusedSimpArgs false
set_option linter.unusedVariables false
set_option linter.unnecessarySimpa false
namespace Go.Proofs.YtacnkcojhlbkoaaGreatDoor
open Go.RowKit Go.Proofs.YtacnkcojhlbkoaaGreatDoorW.PrintWords Go.Proofs.YtacnkcojhlbkoaaGreatDoorW.PrintLast Go.Proofs.YtacnkcojhlbkoaaGreatDoorW.PrintMore Go.Proofs.YtacnkcojhlbkoaaGreatDoor.NL
set_option maxRecDepth 100000

theorem region_any {P : Program} {ops : Array Oper} {Q : Exit → Act → World → Prop} {id : Nat} {a : Act} {w : World} (hm : P.follows .mixedOrders = true) (h : wpAny P .any ops Q ops.size (Array.replicate ops.size false) a w.drew) : (Code.region id ops true).wp P Q a w := wp_region_any hm h
theorem fmD_bd (f : Int) : 2 ≤ fmD f ∧ fmD f ≤ 1000 := by unfold fmD; repeat' split <;> omega
set_option maxHeartbeats 1000000 in
theorem has_bad (D E L H W F f' cl : Int) (ng : Bool) (A : Option Addr) (n c : Nat) (ex : Int) (w : World)
    (hv : ∀ w', Below w.heap.size w w' → Calls Tryz.prog 62 #[.slice A n c] w' fun e w'' => e = .returned (.bool false) ∧ w' = w'') :
    Calls Tryz.prog 42 #[.agg #[.int .i64 D, .int .i64 E, .int .i64 L, .int .i64 H, .int .i64 W, .int .i64 F], dV f' cl ng A n c ex] w fun e w' => e = .returned (.bool false) ∧ Below w.heap.size w w' := by
  have HV := Lib.hid hv
  clear hv
  go_enter Tryz.func42, Tryz.ntmps42
  go_wp2_with (go_at_call 62; (with_reducible refine (HV.out _ bel).mono ?_); rintro e w1 ⟨rfl, rfl⟩)
  go_ret
  exact ⟨rfl, bel⟩
/-- What 'has' answers. -/
theorem has_any {f : Int} (f' cl : Int) (ng : Bool) {A : Option Addr} {n c : Nat} {a : List Int} (ex : Int) (w : World) (hA : Kd.C (Kd.int .u32) w A n a) (la : Lim a) (hc : n ≤ c) :
    Calls Tryz.prog 42 #[kV f, dV f' cl ng A n c ex] w fun e w' => e = .returned (.bool (hasB f cl a ex)) ∧ Below w.heap.size w w' := by
  have hv : ∀ w', Below w.heap.size w w' → Calls Tryz.prog 62 #[.slice A n c] w' fun e w'' => e = .returned (.bool (okN a)) ∧ w' = w'' := fun w' hb => valid_any A n c a w' (Kd.C_below hA hb) la
  unfold hasB
  cases hok : okN a with
  | false =>
    rw [hok] at hv
    exact has_bad _ _ _ _ _ _ _ _ _ _ _ _ _ w hv
  | true =>
    rw [hok] at hv
    refine (has_core (fmD f) (fmE f) (fmL f) (fmH f) (fmW f) f f' cl ng A n c (blen (val a)) ex w (fmD_bd f) hv fun w' hb => ?_).mono ?_
    · obtain ⟨h1, h2⟩ := ok_num hA la hc hok hb
      exact bsize_any h1 h2
    · rintro e w' ⟨rfl, hb⟩
      exact ⟨rfl, hb⟩
def datOk (f cl : Int) (a : List Int) (ex : Int) : Bool := isFm f && hasB f cl a ex
theorem has_hid {f cl : Int} {ng : Bool} {A : Option Addr} {n c : Nat} {a : List Int} {ex : Int} {w : World} (hA : Kd.C (Kd.int .u32) w A n a) (la : Lim a) (hc : n ≤ c) :
    Hid (∀ w', Below w.heap.size w w' → Calls Tryz.prog 42 #[kV f, dV f cl ng A n c ex] w' fun e w'' => e = .returned (.bool (hasB f cl a ex)) ∧ Below w'.heap.size w' w'') :=
  Lib.hid fun w' hb => has_any (f := f) f cl ng ex w' (Kd.C_below hA hb) la hc

end Go.Proofs.YtacnkcojhlbkoaaGreatDoor

set_option linter.unusedSimpArgs false
set_option linter.unusedVariables false
set_option linter.unnecessarySimpa false
namespace Go.Proofs.YtacnkcojhlbkoaaGreatDoor
open Go.RowKit Go.Proofs.YtacnkcojhlbkoaaGreatDoorW.PrintWords Go.Proofs.YtacnkcojhlbkoaaGreatDoorW.PrintLast Go.Proofs.YtacnkcojhlbkoaaGreatDoorW.PrintMore Go.Proofs.YtacnkcojhlbkoaaGreatDoor.NL
set_option maxRecDepth 100000
set_option exponentiation.threshold 100
attribute [local go_sem] max2_int min2_int max_two min_two

theorem blen_small_k {a : List Int} (la : Lim a) {k : Nat} (h : a.length ≤ k) : blen (val a) ≤ 32 * k := by
  rw [blen_le, ← W_two]
  exact Nat.lt_of_lt_of_le (val_lt la) (W_le h)
theorem len_blen {n k : Nat} (h : blen n ≤ 32 * k) : (ofN n).length ≤ k := by
  refine len_ofN_le (Nat.lt_of_lt_of_le (lt_blen _) ?_)
  show _ ≤ W k
  rw [W_two]
  exact Nat.pow_le_pow_right (by omega) h
/-- A datum with a coefficient of its own comes back. -/
def DatumP (f cl : Int) (ng : Bool) (a : List Int) (ex : Int) (w : World) (e : Ending) (w' : World) : Prop := ∃ v, e = .returned (.agg #[.int .i64 f, .int .i64 cl, .bool ng, v, .int .i64 ex]) ∧ Kd.R (Kd.int .u32) 40 w' w.heap.size (fun _ => True) v a ∧ Below w.heap.size w w'
/-- A datum and an error. -/
def DatumE (f cl : Int) (ng : Bool) (a : List Int) (ex er : Int) (w : World) (e : Ending) (w' : World) : Prop := ∃ v, e = .returned (.tuple #[.agg #[.int .i64 f, .int .i64 cl, .bool ng, v, .int .i64 ex], .int .i64 er]) ∧ Kd.R (Kd.int .u32) 40 w' w.heap.size (fun _ => True) v a ∧ Below w.heap.size w w'

theorem Chg.refl0 (w : World) (S : Nat → Prop) : Chg w w S := Chg.of_below (Below.refl _ _)
theorem chg0 {w w' : World} {g : Nat} (h : Chg w w' (fun k => k = g) := by repeat (first | with_reducible exact Chg.refl0 _ _ | ((refine Chg.setCell ?_ ?hpp _); (case hpp => exact rfl)))) : Chg w w' (fun k => k = g) := h
theorem chg2 {w w' : World} {g g2 : Nat} (h : Chg w w' (fun k => k = g ∨ k = g2) := by repeat (first | with_reducible exact Chg.refl0 _ _ | ((refine Chg.setCell ?_ ?hpp _); (case hpp => first | exact .inl rfl | exact .inr rfl))))   : Chg w w' (fun k => k = g ∨ k = g2) := h
theorem R_chg {w1 w2 : World} {base : Nat} {v : Value} {xs : List Int} {S : Nat → Prop} (h : Kd.R (Kd.int .u32) 40 w1 base (fun _ => True) v xs) (hc : Chg w1 w2 S) (hS : ∀ k, base ≤ k → ¬ S k) : Kd.R (Kd.int .u32) 40 w2 base (fun _ => True) v xs :=
  Kd.R_mono (Kd.R_step (Kd.R_bound h) (fun k hk hlt => hc.block k hlt (hS k hk.2.1))) (fun _ _ => trivial)

set_option maxHeartbeats 4000000 in
theorem finite_any {f ex : Int} {ng : Bool} {A : Option Addr} {n c : Nat} {a : List Int} (w : World) (hA : Kd.C (Kd.int .u32) w A n a) (hn : n ≤ 1000000000) :
    Calls Tryz.prog 66 #[kV f, .bool ng, .slice A n c, .int .i64 ex] w (DatumP f 1 ng a ex w) := by
  have HCL : Hid (∀ w', Below w.heap.size w w' → Calls Tryz.prog 97 #[.slice A n c] w' (NewRow w' a)) := Lib.hid fun w' hb => clone_nat A n c a w' (Kd.C_below hA hb) (by omega)
  clear hA
  go_enter Tryz.func66, Tryz.ntmps66
  go_wp2_with fail
  go_region_held3 (fun w' => w'.cell? ⟨w.heap.size, 5, none⟩ = some (.int .i64 f)) (first | (go_keep; done) | (rw [hc1 _ _ (by first | omega | (simp; omega) | simp)]; first | assumption | (simp; done))) ((go_at_call 97; (with_reducible refine (HCL.out _ bel).mono ?_); rintro e w1 ⟨v1, rfl, hv1, b1⟩; obtain ⟨A1, c1, rfl⟩ := Kd.R_slice hv1; have HV := Lib.hid hv1; clear hv1; obtain ⟨hc1, hf1⟩ := bcell b1; have hz1 := below_size b1; (try simp at hz1); have z0 : w.heap.size < w1.heap.size := (by omega); have z1 : w.heap.size + 1 < w1.heap.size := (by omega)))
  rename_i hHeld
  clear hHeld
  go_wp2
  exact bodyPost_ret (v := .agg #[.int .i64 f, .int .i64 1, .bool ng, .slice A1 a.length c1, .int .i64 ex]) (by simp [results, Tryz.results66, go_sem, hc1, z0, z1]) rfl ⟨_, rfl, Kd.R_lower (R_chg (S := fun k => k = w.heap.size + 1) HV.out chg0 (by simp; omega)) (by simp; omega), bel⟩

theorem fmL_bd (f : Int) : -20000 ≤ fmL f ∧ fmL f ≤ 0 := by unfold fmL; repeat' split <;> omega
theorem fmH_bd (f : Int) : 0 ≤ fmH f ∧ fmH f ≤ 20000 := by unfold fmH; repeat' split <;> omega
abbrev D0P (er : Int) := DatumE 0 0 false [] 0 er
set_option maxHeartbeats 4000000 in
theorem make_nofm {f ex : Int} {ng : Bool} {A : Option Addr} {n c : Nat} {a : List Int} (w : World) (hf : isFm f = false) : Calls Tryz.prog 35 #[.int .i64 f, .bool ng, .slice A n c, .int .i64 ex] w (D0P 1 w) := by
  have HK := Lib.hid fun w' => kindOf_no hf w'
  clear hf
  go_enter_defers Tryz.func35, Tryz.ntmps35
  go_wp2_with (first | (go_at_call 41; (with_reducible refine (HK.out _).mono ?_); rintro e w1 ⟨rfl, b1⟩; obtain ⟨hc1, hf1⟩ := bcell b1; have hz1 := below_size b1; (try simp at hz1)))
  (refine leaves_cons (f := 39) (args := #[.pointer (some ⟨w.heap.size + 1, 0, none⟩)]) (by simp) (by simp [go_sem]) ?_; refine (bcaught_panic (w.heap.size + 1) (1) 0 [] _ (BlkIs.one blk0)).mono ?_; rintro e u' w'' ⟨rfl, rfl, hch, hp⟩; have hp' : BlkIs w'' (w.heap.size + 1) 28 (· = #[.int .i64 (1)]) := ⟨_, hp, rfl⟩)
  have hd : BlkIs w'' w.heap.size 25 (· = #[.int .i64 0, .int .i64 0, .bool false, .slice none 0 0, .int .i64 0]) := blk0
  exact ⟨.tuple #[.agg #[.int .i64 0, .int .i64 0, .bool false, .slice none 0 0, .int .i64 0], .int .i64 1], rresults (rs := [.cell 8 25, .cell 9 28]) rfl (by simp) (.cell w.heap.size rfl (load_agg (t := 25) hd Tryz.underlying25 rfl (by kernel_rfl)) (.cell (w.heap.size + 1) rfl (load_one (t := 28) hp' (by kernel_rfl)) .nil)), .slice none 0 0, rfl, Kd.R_nil _ _ _ _ _, below_chg bel hch (by omega)⟩

set_option maxHeartbeats 4000000 in
theorem make_bad {f ex : Int} {ng : Bool} {A : Option Addr} {n c : Nat} {a : List Int} (w : World) (hf : isFm f = true) (hA : Kd.C (Kd.int .u32) w A n a) (la : Lim a) (hok : okN a = false) : Calls Tryz.prog 35 #[.int .i64 f, .bool ng, .slice A n c, .int .i64 ex] w (D0P 1 w) := by
  have HK := Lib.hid fun w' => kindOf_ok hf w'
  have HV : Hid (∀ w', Below w.heap.size w w' → Calls Tryz.prog 62 #[.slice A n c] w' fun e w'' => e = .returned (.bool false) ∧ w' = w'') := Lib.hid fun w' hb => by
    have := valid_any A n c a w' (Kd.C_below hA hb) la
    rwa [hok] at this
  clear hf hA hok
  go_enter_defers Tryz.func35, Tryz.ntmps35
  go_wp2_with (first | (go_at_call 41; (with_reducible refine (HK.out _).mono ?_); rintro e w1 ⟨rfl, b1⟩; obtain ⟨hc1, hf1⟩ := bcell b1; have hz1 := below_size b1; (try simp at hz1); have z0 : w.heap.size < w1.heap.size := (by omega); have z1 : w.heap.size + 1 < w1.heap.size := (by omega)) | (go_at_call 62; (with_reducible refine (HV.out _ bel).mono ?_); rintro e w9 ⟨rfl, rfl⟩) | (go_at_call 40; (with_reducible refine (bneed_false _ _).mono ?_); rintro e w9 ⟨rfl, rfl⟩))
  (refine leaves_cons (f := 39) (args := #[.pointer (some ⟨w.heap.size + 1, 0, none⟩)]) (by simp) (by simp [go_sem]) ?_; refine (bcaught_panic (w.heap.size + 1) (1) 0 [] _ (BlkIs.one blk0)).mono ?_; rintro e u' w'' ⟨rfl, rfl, hch, hp⟩; have hp' : BlkIs w'' (w.heap.size + 1) 28 (· = #[.int .i64 (1)]) := ⟨_, hp, rfl⟩)
  have hd : BlkIs w'' w.heap.size 25 (· = #[.int .i64 0, .int .i64 0, .bool false, .slice none 0 0, .int .i64 0]) := blk0
  exact ⟨.tuple #[.agg #[.int .i64 0, .int .i64 0, .bool false, .slice none 0 0, .int .i64 0], .int .i64 1], rresults (rs := [.cell 8 25, .cell 9 28]) rfl (by simp) (.cell w.heap.size rfl (load_agg (t := 25) hd Tryz.underlying25 rfl (by kernel_rfl)) (.cell (w.heap.size + 1) rfl (load_one (t := 28) hp' (by kernel_rfl)) .nil)), .slice none 0 0, rfl, Kd.R_nil _ _ _ _ _, below_chg bel hch (by omega)⟩

set_option maxHeartbeats 4000000 in
theorem make_zero {f ex : Int} {ng : Bool} {A : Option Addr} {n c : Nat} {a : List Int} (w : World) (hf : isFm f = true) (hA : Kd.C (Kd.int .u32) w A n a) (la : Lim a) (hc : n ≤ c) (hok : okN a = true) (hz : val a = 0) : Calls Tryz.prog 35 #[.int .i64 f, .bool ng, .slice A n c, .int .i64 ex] w (DatumE f 1 ng [] (fmL f) 0 w) := by
  have HK := Lib.hid fun w' => kindOf_ok hf w'
  have HV : Hid (∀ w', Below w.heap.size w w' → Calls Tryz.prog 62 #[.slice A n c] w' fun e w'' => e = .returned (.bool true) ∧ w' = w'') := Lib.hid fun w' hb => by
    have := valid_any A n c a w' (Kd.C_below hA hb) la
    rwa [hok] at this
  have HS : Hid (∀ w', Below w.heap.size w w' → Calls Tryz.prog 75 #[.slice A n c] w' fun e w'' => e = .returned (.int .i64 (blen (val a) : Nat)) ∧ w' = w'') := Lib.hid fun w' hb => by
    obtain ⟨h1, h2⟩ := ok_num hA la hc hok hb
    exact bsize_any h1 h2
  have hzs : blen (val a) ≤ 32768 := by
    obtain ⟨h1, h2⟩ := okN_iff.1 hok
    have := blen_small_k la h1; omega
  obtain ⟨dd1, dd2⟩ := fmD_bd f
  obtain ⟨dl1, dl2⟩ := fmL_bd f
  obtain ⟨dh1, dh2⟩ := fmH_bd f
  have hz0 : blen (val a) = 0 := by rw [hz]; rfl
  have HFN : Hid (∀ w', Below w.heap.size w w' → Calls Tryz.prog 66 #[kV f, .bool ng, .slice none 0 0, .int .i64 (fmL f)] w' (DatumP f 1 ng [] (fmL f) w')) := Lib.hid fun w' hb => finite_any w' (R_nilC w') (by omega)
  rw [hz0] at HS
  clear hf hA hok hz hz0 hzs
  unfold kV at *
  generalize fmD f = D at *
  generalize fmE f = E at *
  generalize fmL f = L at *
  generalize fmH f = H at *
  generalize fmW f = W at *
  go_enter_defers Tryz.func35, Tryz.ntmps35
  go_wp2_with (first | (go_at_call 41; (with_reducible refine (HK.out _).mono ?_); rintro e w1 ⟨rfl, b1⟩; obtain ⟨hc1, hf1⟩ := bcell b1; have hz1 := below_size b1; (try simp at hz1); have z0 : w.heap.size < w1.heap.size := (by omega); have z1 : w.heap.size + 1 < w1.heap.size := (by omega)) | (go_at_call 62; (with_reducible refine (HV.out _ bel).mono ?_); rintro e w9 ⟨rfl, rfl⟩) | (go_at_call 40; (with_reducible refine (bneed_true _ _).mono ?_); rintro e w9 ⟨rfl, rfl⟩) | (go_at_call 75; (with_reducible refine (HS.out _ bel).mono ?_); rintro e w9 ⟨rfl, rfl⟩) | (go_at_call 66; (with_reducible refine (HFN.out _ bel).mono ?_); rintro e w4 ⟨v4, rfl, hv4, b4⟩; obtain ⟨A4, c4, rfl⟩ := Kd.R_slice hv4; have HV4 := Lib.hid hv4; clear hv4; obtain ⟨hc4, hf4⟩ := bcell b4; have hz4 := below_size b4; (try simp at hz4); have y0 : w.heap.size < w4.heap.size := (by omega); have y1 : w.heap.size + 1 < w4.heap.size := (by omega)))
  (refine leaves_cons (f := 39) (args := #[.pointer (some ⟨w.heap.size + 1, 0, none⟩)]) (by simp) (by simp [go_sem]) ?_; refine (bcaught_idle _ _).mono ?_; rintro e u' w'' ⟨rfl, rfl, rfl⟩)
  refine ⟨.tuple #[.agg #[.int .i64 f, .int .i64 1, .bool ng, .slice A4 ([] : List Int).length c4, .int .i64 L], .int .i64 0], rresults (rs := [.cell 8 25, .cell 9 28]) rfl (by simp) (.cell w.heap.size rfl (load_agg (t := 25) blk0 Tryz.underlying25 rfl (by kernel_rfl)) (.cell (w.heap.size + 1) rfl (load_one (t := 28) blk0 (by kernel_rfl)) .nil)), _, rfl, Kd.R_lower (R_chg (S := fun k => k = w.heap.size ∨ k = w.heap.size + 1) HV4.out chg2 (by intro k hk; (try simp at hk ⊢); omega)) (by first | omega | (simp; omega)), bel⟩

/-- The exponent of the datum. -/
def makeQ (f ex : Int) (n : Nat) : Int := max (fmL f) (ex + n - fmD f)
def makeC1 (f ex : Int) : Bool := decide (ex ≤ fmH f + fmD f) && decide (fmL f - 32768 ≤ ex)
def makeC2 (f ex : Int) (a : List Int) : Bool := decide (makeQ f ex (blen (val a)) ≤ fmH f) && decide (makeQ f ex (blen (val a)) ≤ ex + (tz (val a) : Nat))

set_option maxHeartbeats 8000000 in
theorem make_c1 {f ex : Int} {ng : Bool} {A : Option Addr} {n c : Nat} {a : List Int} (w : World) (hT : Tab w) (hf : isFm f = true) (hA : Kd.C (Kd.int .u32) w A n a) (la : Lim a) (hc : n ≤ c) (hok : okN a = true) (hz : val a ≠ 0) (h1 : makeC1 f ex = false) : Calls Tryz.prog 35 #[.int .i64 f, .bool ng, .slice A n c, .int .i64 ex] w (D0P 3 w) := by
  have HK := Lib.hid fun w' => kindOf_ok hf w'
  have HV : Hid (∀ w', Below w.heap.size w w' → Calls Tryz.prog 62 #[.slice A n c] w' fun e w'' => e = .returned (.bool true) ∧ w' = w'') := Lib.hid fun w' hb => by
    have := valid_any A n c a w' (Kd.C_below hA hb) la
    rwa [hok] at this
  have HS : Hid (∀ w', Below w.heap.size w w' → Calls Tryz.prog 75 #[.slice A n c] w' fun e w'' => e = .returned (.int .i64 (blen (val a) : Nat)) ∧ w' = w'') := Lib.hid fun w' hb => by
    obtain ⟨h1, h2⟩ := ok_num hA la hc hok hb
    exact bsize_any h1 h2
  have hzs : blen (val a) ≤ 32768 := by
    obtain ⟨h1, h2⟩ := okN_iff.1 hok
    have := blen_small_k la h1; omega
  obtain ⟨dd1, dd2⟩ := fmD_bd f
  obtain ⟨dl1, dl2⟩ := fmL_bd f
  obtain ⟨dh1, dh2⟩ := fmH_bd f
  have HZ : Hid (∀ w', Below w.heap.size w w' → Calls Tryz.prog 57 #[.slice A n c] w' fun e w'' => e = .returned (.tuple #[.int .i64 (tz (val a) : Nat), .int .i64 0]) ∧ w' = w'') := Lib.hid fun w' hb => by
    have := nZeros_any w' (hT.below hb) (Kd.C_below hA hb) la hc
    unfold natZeros at this
    rwa [if_pos hok] at this
  have htz : tz (val a) ≤ 32768 := by
    obtain ⟨m, h1, h2⟩ := tz_spec hz
    have h3 : blen (val a) = blen m + tz (val a) := by
      have := blen_mul_pow (n := m) (by omega) (tz (val a))
      rwa [← h2] at this
    omega
  have hnz : 0 < blen (val a) := by
    have := mt blen_eq_zero.1 hz
    omega
  have t0 : (((blen (val a) : Nat) : Int) == 0) = false := by simp; omega
  unfold makeC1 at h1
  clear hf hA hok hz hT htz
  unfold kV at *
  generalize fmD f = D at *
  generalize fmE f = E at *
  generalize fmL f = L at *
  generalize fmH f = H at *
  generalize fmW f = W at *
  generalize blen (val a) = z at *
  generalize tz (val a) = y at *
  have h2 : H + D < ex ∨ ex < L - 32768 := by
    simp at h1
    omega
  clear h1
  rcases h2 with h2 | h2
  · have d0 : decide (ex ≤ H + D) = false := decide_eq_false (by omega)
    go_enter_defers Tryz.func35, Tryz.ntmps35
    go_wp2_with (first | (go_at_call 41; (with_reducible refine (HK.out _).mono ?_); rintro e w1 ⟨rfl, b1⟩; obtain ⟨hc1, hf1⟩ := bcell b1; have hz1 := below_size b1; (try simp at hz1); have z0 : w.heap.size < w1.heap.size := (by omega); have z1 : w.heap.size + 1 < w1.heap.size := (by omega)) | (go_at_call 62; (with_reducible refine (HV.out _ bel).mono ?_); rintro e w9 ⟨rfl, rfl⟩) | (go_at_call 40; (with_reducible refine (bneed_true _ _).mono ?_); rintro e w9 ⟨rfl, rfl⟩) | (go_at_call 75; (with_reducible refine (HS.out _ bel).mono ?_); rintro e w9 ⟨rfl, rfl⟩) | (go_at_call 57; (with_reducible refine (HZ.out _ bel).mono ?_); rintro e w9 ⟨rfl, rfl⟩) | (go_at_call 40; (with_reducible refine (bneed_false _ _).mono ?_); rintro e w9 ⟨rfl, rfl⟩))
    (refine leaves_cons (f := 39) (args := #[.pointer (some ⟨w.heap.size + 1, 0, none⟩)]) (by simp) (by simp [go_sem]) ?_; refine (bcaught_panic (w.heap.size + 1) (3) 0 [] _ (BlkIs.one blk0)).mono ?_; rintro e u' w'' ⟨rfl, rfl, hch, hp⟩; have hp' : BlkIs w'' (w.heap.size + 1) 28 (· = #[.int .i64 (3)]) := ⟨_, hp, rfl⟩)
    have hd : BlkIs w'' w.heap.size 25 (· = #[.int .i64 0, .int .i64 0, .bool false, .slice none 0 0, .int .i64 0]) := blk0
    exact ⟨.tuple #[.agg #[.int .i64 0, .int .i64 0, .bool false, .slice none 0 0, .int .i64 0], .int .i64 3], rresults (rs := [.cell 8 25, .cell 9 28]) rfl (by simp) (.cell w.heap.size rfl (load_agg (t := 25) hd Tryz.underlying25 rfl (by kernel_rfl)) (.cell (w.heap.size + 1) rfl (load_one (t := 28) hp' (by kernel_rfl)) .nil)), .slice none 0 0, rfl, Kd.R_nil _ _ _ _ _, below_chg bel hch (by omega)⟩
  · have d0 : decide (L - 32768 ≤ ex) = false := decide_eq_false (by omega)
    have d1 : decide (ex ≤ H + D) = true := decide_eq_true (by omega)
    go_enter_defers Tryz.func35, Tryz.ntmps35
    go_wp2_with (first | (go_at_call 41; (with_reducible refine (HK.out _).mono ?_); rintro e w1 ⟨rfl, b1⟩; obtain ⟨hc1, hf1⟩ := bcell b1; have hz1 := below_size b1; (try simp at hz1); have z0 : w.heap.size < w1.heap.size := (by omega); have z1 : w.heap.size + 1 < w1.heap.size := (by omega)) | (go_at_call 62; (with_reducible refine (HV.out _ bel).mono ?_); rintro e w9 ⟨rfl, rfl⟩) | (go_at_call 40; (with_reducible refine (bneed_true _ _).mono ?_); rintro e w9 ⟨rfl, rfl⟩) | (go_at_call 75; (with_reducible refine (HS.out _ bel).mono ?_); rintro e w9 ⟨rfl, rfl⟩) | (go_at_call 57; (with_reducible refine (HZ.out _ bel).mono ?_); rintro e w9 ⟨rfl, rfl⟩) | (go_at_call 40; (with_reducible refine (bneed_false _ _).mono ?_); rintro e w9 ⟨rfl, rfl⟩))
    (refine leaves_cons (f := 39) (args := #[.pointer (some ⟨w.heap.size + 1, 0, none⟩)]) (by simp) (by simp [go_sem]) ?_; refine (bcaught_panic (w.heap.size + 1) (3) 0 [] _ (BlkIs.one blk0)).mono ?_; rintro e u' w'' ⟨rfl, rfl, hch, hp⟩; have hp' : BlkIs w'' (w.heap.size + 1) 28 (· = #[.int .i64 (3)]) := ⟨_, hp, rfl⟩)
    have hd : BlkIs w'' w.heap.size 25 (· = #[.int .i64 0, .int .i64 0, .bool false, .slice none 0 0, .int .i64 0]) := blk0
    exact ⟨.tuple #[.agg #[.int .i64 0, .int .i64 0, .bool false, .slice none 0 0, .int .i64 0], .int .i64 3], rresults (rs := [.cell 8 25, .cell 9 28]) rfl (by simp) (.cell w.heap.size rfl (load_agg (t := 25) hd Tryz.underlying25 rfl (by kernel_rfl)) (.cell (w.heap.size + 1) rfl (load_one (t := 28) hp' (by kernel_rfl)) .nil)), .slice none 0 0, rfl, Kd.R_nil _ _ _ _ _, below_chg bel hch (by omega)⟩

set_option maxHeartbeats 8000000 in
theorem make_c2 {f ex : Int} {ng : Bool} {A : Option Addr} {n c : Nat} {a : List Int} (w : World) (hT : Tab w) (hf : isFm f = true) (hA : Kd.C (Kd.int .u32) w A n a) (la : Lim a) (hc : n ≤ c) (hok : okN a = true) (hz : val a ≠ 0) (h1 : makeC1 f ex = true) (h2 : makeC2 f ex a = false) : Calls Tryz.prog 35 #[.int .i64 f, .bool ng, .slice A n c, .int .i64 ex] w (D0P 3 w) := by
  have HK := Lib.hid fun w' => kindOf_ok hf w'
  have HV : Hid (∀ w', Below w.heap.size w w' → Calls Tryz.prog 62 #[.slice A n c] w' fun e w'' => e = .returned (.bool true) ∧ w' = w'') := Lib.hid fun w' hb => by
    have := valid_any A n c a w' (Kd.C_below hA hb) la
    rwa [hok] at this
  have HS : Hid (∀ w', Below w.heap.size w w' → Calls Tryz.prog 75 #[.slice A n c] w' fun e w'' => e = .returned (.int .i64 (blen (val a) : Nat)) ∧ w' = w'') := Lib.hid fun w' hb => by
    obtain ⟨h1, h2⟩ := ok_num hA la hc hok hb
    exact bsize_any h1 h2
  have hzs : blen (val a) ≤ 32768 := by
    obtain ⟨h1, h2⟩ := okN_iff.1 hok
    have := blen_small_k la h1; omega
  obtain ⟨dd1, dd2⟩ := fmD_bd f
  obtain ⟨dl1, dl2⟩ := fmL_bd f
  obtain ⟨dh1, dh2⟩ := fmH_bd f
  have HZ : Hid (∀ w', Below w.heap.size w w' → Calls Tryz.prog 57 #[.slice A n c] w' fun e w'' => e = .returned (.tuple #[.int .i64 (tz (val a) : Nat), .int .i64 0]) ∧ w' = w'') := Lib.hid fun w' hb => by
    have := nZeros_any w' (hT.below hb) (Kd.C_below hA hb) la hc
    unfold natZeros at this
    rwa [if_pos hok] at this
  have htz : tz (val a) ≤ 32768 := by
    obtain ⟨m, h1, h2⟩ := tz_spec hz
    have h3 : blen (val a) = blen m + tz (val a) := by
      have := blen_mul_pow (n := m) (by omega) (tz (val a))
      rwa [← h2] at this
    omega
  have hnz : 0 < blen (val a) := by
    have := mt blen_eq_zero.1 hz
    omega
  have t0 : (((blen (val a) : Nat) : Int) == 0) = false := by simp; omega
  obtain ⟨q, hq⟩ : ∃ q, makeQ f ex (blen (val a)) = q := ⟨_, rfl⟩
  unfold makeC1 at h1
  simp only [Bool.and_eq_true, decide_eq_true_eq] at h1
  obtain ⟨e1, e2⟩ := h1
  unfold makeC2 at h2
  rw [hq] at h2
  unfold makeQ at hq
  clear hf hA hok hz hT htz
  unfold kV at *
  generalize fmD f = D at *
  generalize fmE f = E at *
  generalize fmL f = L at *
  generalize fmH f = H at *
  generalize fmW f = W at *
  generalize blen (val a) = z at *
  generalize tz (val a) = y at *
  have hq2 : (if L < ex + z - D then ex + z - D else L) = q := by split <;> omega
  have h3 : H < q ∨ ex + y < q := by
    simp at h2
    omega
  clear h2 hq
  have d0 : decide (ex ≤ H + D) = true := decide_eq_true (by omega)
  have d1 : decide (L - 32768 ≤ ex) = true := decide_eq_true (by omega)
  by_cases h2 : H < q
  · have d2 : decide (q ≤ H) = false := decide_eq_false (by omega)
    go_enter_defers Tryz.func35, Tryz.ntmps35
    go_wp2_with (first | (go_at_call 41; (with_reducible refine (HK.out _).mono ?_); rintro e w1 ⟨rfl, b1⟩; obtain ⟨hc1, hf1⟩ := bcell b1; have hz1 := below_size b1; (try simp at hz1); have z0 : w.heap.size < w1.heap.size := (by omega); have z1 : w.heap.size + 1 < w1.heap.size := (by omega)) | (go_at_call 62; (with_reducible refine (HV.out _ bel).mono ?_); rintro e w9 ⟨rfl, rfl⟩) | (go_at_call 40; (with_reducible refine (bneed_true _ _).mono ?_); rintro e w9 ⟨rfl, rfl⟩) | (go_at_call 75; (with_reducible refine (HS.out _ bel).mono ?_); rintro e w9 ⟨rfl, rfl⟩) | (go_at_call 57; (with_reducible refine (HZ.out _ bel).mono ?_); rintro e w9 ⟨rfl, rfl⟩) | (go_at_call 40; (with_reducible refine (bneed_false _ _).mono ?_); rintro e w9 ⟨rfl, rfl⟩))
    (refine leaves_cons (f := 39) (args := #[.pointer (some ⟨w.heap.size + 1, 0, none⟩)]) (by simp) (by simp [go_sem]) ?_; refine (bcaught_panic (w.heap.size + 1) (3) 0 [] _ (BlkIs.one blk0)).mono ?_; rintro e u' w'' ⟨rfl, rfl, hch, hp⟩; have hp' : BlkIs w'' (w.heap.size + 1) 28 (· = #[.int .i64 (3)]) := ⟨_, hp, rfl⟩)
    have hd : BlkIs w'' w.heap.size 25 (· = #[.int .i64 0, .int .i64 0, .bool false, .slice none 0 0, .int .i64 0]) := blk0
    exact ⟨.tuple #[.agg #[.int .i64 0, .int .i64 0, .bool false, .slice none 0 0, .int .i64 0], .int .i64 3], rresults (rs := [.cell 8 25, .cell 9 28]) rfl (by simp) (.cell w.heap.size rfl (load_agg (t := 25) hd Tryz.underlying25 rfl (by kernel_rfl)) (.cell (w.heap.size + 1) rfl (load_one (t := 28) hp' (by kernel_rfl)) .nil)), .slice none 0 0, rfl, Kd.R_nil _ _ _ _ _, below_chg bel hch (by omega)⟩
  · have d2 : decide (q ≤ H) = true := decide_eq_true (by omega)
    have d3 : decide (q ≤ ex + y) = false := decide_eq_false (by omega)
    go_enter_defers Tryz.func35, Tryz.ntmps35
    go_wp2_with (first | (go_at_call 41; (with_reducible refine (HK.out _).mono ?_); rintro e w1 ⟨rfl, b1⟩; obtain ⟨hc1, hf1⟩ := bcell b1; have hz1 := below_size b1; (try simp at hz1); have z0 : w.heap.size < w1.heap.size := (by omega); have z1 : w.heap.size + 1 < w1.heap.size := (by omega)) | (go_at_call 62; (with_reducible refine (HV.out _ bel).mono ?_); rintro e w9 ⟨rfl, rfl⟩) | (go_at_call 40; (with_reducible refine (bneed_true _ _).mono ?_); rintro e w9 ⟨rfl, rfl⟩) | (go_at_call 75; (with_reducible refine (HS.out _ bel).mono ?_); rintro e w9 ⟨rfl, rfl⟩) | (go_at_call 57; (with_reducible refine (HZ.out _ bel).mono ?_); rintro e w9 ⟨rfl, rfl⟩) | (go_at_call 40; (with_reducible refine (bneed_false _ _).mono ?_); rintro e w9 ⟨rfl, rfl⟩))
    (refine leaves_cons (f := 39) (args := #[.pointer (some ⟨w.heap.size + 1, 0, none⟩)]) (by simp) (by simp [go_sem]) ?_; refine (bcaught_panic (w.heap.size + 1) (3) 0 [] _ (BlkIs.one blk0)).mono ?_; rintro e u' w'' ⟨rfl, rfl, hch, hp⟩; have hp' : BlkIs w'' (w.heap.size + 1) 28 (· = #[.int .i64 (3)]) := ⟨_, hp, rfl⟩)
    have hd : BlkIs w'' w.heap.size 25 (· = #[.int .i64 0, .int .i64 0, .bool false, .slice none 0 0, .int .i64 0]) := blk0
    exact ⟨.tuple #[.agg #[.int .i64 0, .int .i64 0, .bool false, .slice none 0 0, .int .i64 0], .int .i64 3], rresults (rs := [.cell 8 25, .cell 9 28]) rfl (by simp) (.cell w.heap.size rfl (load_agg (t := 25) hd Tryz.underlying25 rfl (by kernel_rfl)) (.cell (w.heap.size + 1) rfl (load_one (t := 28) hp' (by kernel_rfl)) .nil)), .slice none 0 0, rfl, Kd.R_nil _ _ _ _ _, below_chg bel hch (by omega)⟩

set_option maxHeartbeats 8000000 in
theorem make_shl {f ex : Int} {ng : Bool} {A : Option Addr} {n c : Nat} {a : List Int} (w : World) (hT : Tab w) (hf : isFm f = true) (hA : Kd.C (Kd.int .u32) w A n a) (la : Lim a) (hc : n ≤ c) (hok : okN a = true) (hz : val a ≠ 0) (h1 : makeC1 f ex = true) (h2 : makeC2 f ex a = true) (h5 : makeQ f ex (blen (val a)) ≤ ex) : Calls Tryz.prog 35 #[.int .i64 f, .bool ng, .slice A n c, .int .i64 ex] w (DatumE f 1 ng (ofN (val a * 2 ^ (ex - makeQ f ex (blen (val a))).toNat)) (makeQ f ex (blen (val a))) 0 w) := by
  have HK := Lib.hid fun w' => kindOf_ok hf w'
  have HV : Hid (∀ w', Below w.heap.size w w' → Calls Tryz.prog 62 #[.slice A n c] w' fun e w'' => e = .returned (.bool true) ∧ w' = w'') := Lib.hid fun w' hb => by
    have := valid_any A n c a w' (Kd.C_below hA hb) la
    rwa [hok] at this
  have HS : Hid (∀ w', Below w.heap.size w w' → Calls Tryz.prog 75 #[.slice A n c] w' fun e w'' => e = .returned (.int .i64 (blen (val a) : Nat)) ∧ w' = w'') := Lib.hid fun w' hb => by
    obtain ⟨h1, h2⟩ := ok_num hA la hc hok hb
    exact bsize_any h1 h2
  have hzs : blen (val a) ≤ 32768 := by
    obtain ⟨h1, h2⟩ := okN_iff.1 hok
    have := blen_small_k la h1; omega
  obtain ⟨dd1, dd2⟩ := fmD_bd f
  obtain ⟨dl1, dl2⟩ := fmL_bd f
  obtain ⟨dh1, dh2⟩ := fmH_bd f
  have HZ : Hid (∀ w', Below w.heap.size w w' → Calls Tryz.prog 57 #[.slice A n c] w' fun e w'' => e = .returned (.tuple #[.int .i64 (tz (val a) : Nat), .int .i64 0]) ∧ w' = w'') := Lib.hid fun w' hb => by
    have := nZeros_any w' (hT.below hb) (Kd.C_below hA hb) la hc
    unfold natZeros at this
    rwa [if_pos hok] at this
  have htz : tz (val a) ≤ 32768 := by
    obtain ⟨m, h1, h2⟩ := tz_spec hz
    have h3 : blen (val a) = blen m + tz (val a) := by
      have := blen_mul_pow (n := m) (by omega) (tz (val a))
      rwa [← h2] at this
    omega
  have hnz : 0 < blen (val a) := by
    have := mt blen_eq_zero.1 hz
    omega
  have t0 : (((blen (val a) : Nat) : Int) == 0) = false := by simp; omega
  obtain ⟨q, hq⟩ : ∃ q, makeQ f ex (blen (val a)) = q := ⟨_, rfl⟩
  unfold makeC1 at h1
  simp only [Bool.and_eq_true, decide_eq_true_eq] at h1
  obtain ⟨e1, e2⟩ := h1
  unfold makeC2 at h2
  rw [hq] at h2
  rw [hq] at h5 ⊢
  unfold makeQ at hq
  simp only [Bool.and_eq_true, decide_eq_true_eq] at h2
  obtain ⟨e3, e4⟩ := h2
  have hq2 : (if fmL f < ex + (blen (val a) : Nat) - fmD f then ex + (blen (val a) : Nat) - fmD f else fmL f) = q := by split <;> omega
  have HML : Hid (blen (val a * 2 ^ (ex - q).toNat) = blen (val a) + (ex - q).toNat) := Lib.hid (blen_mul_pow hz _)
  have HMM : Hid True := Lib.hid trivial
  have HSH : Hid (∀ w', Below w.heap.size w w' → Calls Tryz.prog 76 #[.slice A n c, .int .i64 (ex - q)] w' (NumErr (ofN (val a * 2 ^ (ex - q).toNat)) 0 w')) := Lib.hid fun w' hb => by
    have h6 := nShl_any (ex - q) w' (Kd.C_below hA hb) la hc
    have h7 : natShl a (ex - q) = (ofN (val a * 2 ^ (ex - q).toNat), 0) := by
      unfold natShl
      have l0 : a ≠ [] := by rintro rfl; exact hz rfl
      have l1 : 0 ≤ ex - q := by omega
      have l2 : ex - q ≤ 32768 := by omega
      rw [hok]
      simp only [l1, l0, l2, decide_true, Bool.and_self, if_true, if_false, numOut]
      rw [if_pos]
      exact len_blen (by rw [HML.out]; omega)
    rwa [h7] at h6
  have HFN : Hid (∀ A3 c3 w', Kd.C (Kd.int .u32) w' A3 (ofN (val a * 2 ^ (ex - q).toNat)).length (ofN (val a * 2 ^ (ex - q).toNat)) → Calls Tryz.prog 66 #[kV f, .bool ng, .slice A3 (ofN (val a * 2 ^ (ex - q).toNat)).length c3, .int .i64 q] w' (DatumP f 1 ng (ofN (val a * 2 ^ (ex - q).toNat)) q w')) := Lib.hid fun A3 c3 w' hC => finite_any w' hC (by
    exact Nat.le_trans (len_blen (k := 1024) (by rw [HML.out]; omega)) (by omega))
  obtain ⟨lst, hlst⟩ : ∃ lst, ofN (val a * 2 ^ (ex - q).toNat) = lst := ⟨_, rfl⟩
  rw [hlst] at HSH HFN ⊢
  clear hf hA hok hz hT hlst HML HMM
  unfold kV at *
  generalize fmD f = D at *
  generalize fmE f = E at *
  generalize fmL f = L at *
  generalize fmH f = H at *
  generalize fmW f = W at *
  generalize blen (val a) = z at *
  generalize tz (val a) = y at *
  have d0 : decide (ex ≤ H + D) = true := decide_eq_true (by omega)
  have d1 : decide (L - 32768 ≤ ex) = true := decide_eq_true (by omega)
  have d2 : decide (q ≤ H) = true := decide_eq_true (by omega)
  have d3 : decide (q ≤ ex + y) = true := decide_eq_true (by omega)
  have d4 : decide (q ≤ ex) = true := decide_eq_true (by omega)
  clear hq
  go_enter_defers Tryz.func35, Tryz.ntmps35
  go_wp2_with (first | (go_at_call 41; (with_reducible refine (HK.out _).mono ?_); rintro e w1 ⟨rfl, b1⟩; obtain ⟨hc1, hf1⟩ := bcell b1; have hz1 := below_size b1; (try simp at hz1); have z0 : w.heap.size < w1.heap.size := (by omega); have z1 : w.heap.size + 1 < w1.heap.size := (by omega)) | (go_at_call 62; (with_reducible refine (HV.out _ bel).mono ?_); rintro e w9 ⟨rfl, rfl⟩) | (go_at_call 40; (with_reducible refine (bneed_true _ _).mono ?_); rintro e w9 ⟨rfl, rfl⟩) | (go_at_call 75; (with_reducible refine (HS.out _ bel).mono ?_); rintro e w9 ⟨rfl, rfl⟩) | (go_at_call 57; (with_reducible refine (HZ.out _ bel).mono ?_); rintro e w9 ⟨rfl, rfl⟩) | (go_at_call 76; (with_reducible refine (HSH.out _ bel).mono ?_); rintro e w3 ⟨v3, rfl, hv3, b3⟩; obtain ⟨A3, c3, rfl⟩ := Kd.R_slice hv3; have HV3 := Lib.hid (R_C hv3); clear hv3; obtain ⟨hc3, hf3⟩ := bcell b3; have hz3 := below_size b3; (try simp at hz3); have x0 : w.heap.size < w3.heap.size := (by omega); have x1 : w.heap.size + 1 < w3.heap.size := (by omega); have x2 : w1.heap.size < w3.heap.size := (by omega)) | (go_at_call 66; (with_reducible refine (HFN.out _ _ _ HV3.out.1).mono ?_); rintro e w4 ⟨v4, rfl, hv4, b4⟩; obtain ⟨A4, c4, rfl⟩ := Kd.R_slice hv4; have HV4 := Lib.hid hv4; clear hv4; obtain ⟨hc4, hf4⟩ := bcell b4; have hz4 := below_size b4; (try simp at hz4); have y0 : w.heap.size < w4.heap.size := (by omega); have y1 : w.heap.size + 1 < w4.heap.size := (by omega)))
  (refine leaves_cons (f := 39) (args := #[.pointer (some ⟨w.heap.size + 1, 0, none⟩)]) (by simp) (by simp [go_sem]) ?_; refine (bcaught_idle _ _).mono ?_; rintro e u' w'' ⟨rfl, rfl, rfl⟩)
  refine ⟨.tuple #[.agg #[.int .i64 f, .int .i64 1, .bool ng, .slice A4 (lst).length c4, .int .i64 q], .int .i64 0], rresults (rs := [.cell 8 25, .cell 9 28]) rfl (by simp) (.cell w.heap.size rfl (load_agg (t := 25) blk0 Tryz.underlying25 rfl (by kernel_rfl)) (.cell (w.heap.size + 1) rfl (load_one (t := 28) blk0 (by kernel_rfl)) .nil)), _, rfl, Kd.R_lower (R_chg (S := fun k => k = w.heap.size ∨ k = w.heap.size + 1) HV4.out chg2 (by intro k hk; (try simp at hk ⊢); omega)) (by first | omega | (simp; omega)), bel⟩

set_option maxHeartbeats 8000000 in
theorem make_shr {f ex : Int} {ng : Bool} {A : Option Addr} {n c : Nat} {a : List Int} (w : World) (hT : Tab w) (hf : isFm f = true) (hA : Kd.C (Kd.int .u32) w A n a) (la : Lim a) (hc : n ≤ c) (hok : okN a = true) (hz : val a ≠ 0) (h1 : makeC1 f ex = true) (h2 : makeC2 f ex a = true) (h5 : ex < makeQ f ex (blen (val a))) : Calls Tryz.prog 35 #[.int .i64 f, .bool ng, .slice A n c, .int .i64 ex] w (DatumE f 1 ng (ofN (val a / 2 ^ (makeQ f ex (blen (val a)) - ex).toNat)) (makeQ f ex (blen (val a))) 0 w) := by
  have HK := Lib.hid fun w' => kindOf_ok hf w'
  have HV : Hid (∀ w', Below w.heap.size w w' → Calls Tryz.prog 62 #[.slice A n c] w' fun e w'' => e = .returned (.bool true) ∧ w' = w'') := Lib.hid fun w' hb => by
    have := valid_any A n c a w' (Kd.C_below hA hb) la
    rwa [hok] at this
  have HS : Hid (∀ w', Below w.heap.size w w' → Calls Tryz.prog 75 #[.slice A n c] w' fun e w'' => e = .returned (.int .i64 (blen (val a) : Nat)) ∧ w' = w'') := Lib.hid fun w' hb => by
    obtain ⟨h1, h2⟩ := ok_num hA la hc hok hb
    exact bsize_any h1 h2
  have hzs : blen (val a) ≤ 32768 := by
    obtain ⟨h1, h2⟩ := okN_iff.1 hok
    have := blen_small_k la h1; omega
  obtain ⟨dd1, dd2⟩ := fmD_bd f
  obtain ⟨dl1, dl2⟩ := fmL_bd f
  obtain ⟨dh1, dh2⟩ := fmH_bd f
  have HZ : Hid (∀ w', Below w.heap.size w w' → Calls Tryz.prog 57 #[.slice A n c] w' fun e w'' => e = .returned (.tuple #[.int .i64 (tz (val a) : Nat), .int .i64 0]) ∧ w' = w'') := Lib.hid fun w' hb => by
    have := nZeros_any w' (hT.below hb) (Kd.C_below hA hb) la hc
    unfold natZeros at this
    rwa [if_pos hok] at this
  have htz : tz (val a) ≤ 32768 := by
    obtain ⟨m, h1, h2⟩ := tz_spec hz
    have h3 : blen (val a) = blen m + tz (val a) := by
      have := blen_mul_pow (n := m) (by omega) (tz (val a))
      rwa [← h2] at this
    omega
  have hnz : 0 < blen (val a) := by
    have := mt blen_eq_zero.1 hz
    omega
  have t0 : (((blen (val a) : Nat) : Int) == 0) = false := by simp; omega
  obtain ⟨q, hq⟩ : ∃ q, makeQ f ex (blen (val a)) = q := ⟨_, rfl⟩
  unfold makeC1 at h1
  simp only [Bool.and_eq_true, decide_eq_true_eq] at h1
  obtain ⟨e1, e2⟩ := h1
  unfold makeC2 at h2
  rw [hq] at h2
  rw [hq] at h5 ⊢
  unfold makeQ at hq
  simp only [Bool.and_eq_true, decide_eq_true_eq] at h2
  obtain ⟨e3, e4⟩ := h2
  have hq2 : (if fmL f < ex + (blen (val a) : Nat) - fmD f then ex + (blen (val a) : Nat) - fmD f else fmL f) = q := by split <;> omega
  have HML : Hid (blen (val a / 2 ^ (q - ex).toNat) = blen (val a) - (q - ex).toNat) := Lib.hid (by
    obtain ⟨m, m1, m2⟩ := tz_spec hz
    obtain ⟨j, hj⟩ : ∃ j, tz (val a) = j + (q - ex).toNat := ⟨tz (val a) - (q - ex).toNat, by omega⟩
    have e5 : val a / 2 ^ (q - ex).toNat = m * 2 ^ j := by
      rw [hj, Nat.pow_add, ← Nat.mul_assoc] at m2
      conv => lhs; rw [m2]
      exact Nat.mul_div_cancel _ (Nat.two_pow_pos _)
    have e6 := blen_mul_pow (n := m) (by omega) j
    have e7 := blen_mul_pow (n := m) (by omega) (tz (val a))
    rw [← m2] at e7
    rw [e5, e6]
    omega)
  have HMM : Hid True := Lib.hid trivial
  have HSH : Hid (∀ w', Below w.heap.size w w' → Calls Tryz.prog 58 #[.slice A n c, .int .i64 (q - ex)] w' (NumErr (ofN (val a / 2 ^ (q - ex).toNat)) 0 w')) := Lib.hid fun w' hb => by
    have h6 := nShr_any (q - ex) w' (Kd.C_below hA hb) la hc (by omega)
    have h7 : natShr a (q - ex) = (ofN (val a / 2 ^ (q - ex).toNat), 0) := by
      unfold natShr
      have l1 : 0 ≤ q - ex := by omega
      rw [hok]
      simp only [l1, decide_true, Bool.and_self, if_true]
    rwa [h7] at h6
  have HFN : Hid (∀ A3 c3 w', Kd.C (Kd.int .u32) w' A3 (ofN (val a / 2 ^ (q - ex).toNat)).length (ofN (val a / 2 ^ (q - ex).toNat)) → Calls Tryz.prog 66 #[kV f, .bool ng, .slice A3 (ofN (val a / 2 ^ (q - ex).toNat)).length c3, .int .i64 q] w' (DatumP f 1 ng (ofN (val a / 2 ^ (q - ex).toNat)) q w')) := Lib.hid fun A3 c3 w' hC => finite_any w' hC (by
    exact Nat.le_trans (len_blen (k := 1024) (by rw [HML.out]; omega)) (by omega))
  obtain ⟨lst, hlst⟩ : ∃ lst, ofN (val a / 2 ^ (q - ex).toNat) = lst := ⟨_, rfl⟩
  rw [hlst] at HSH HFN ⊢
  clear hf hA hok hz hT hlst HML HMM
  unfold kV at *
  generalize fmD f = D at *
  generalize fmE f = E at *
  generalize fmL f = L at *
  generalize fmH f = H at *
  generalize fmW f = W at *
  generalize blen (val a) = z at *
  generalize tz (val a) = y at *
  have d0 : decide (ex ≤ H + D) = true := decide_eq_true (by omega)
  have d1 : decide (L - 32768 ≤ ex) = true := decide_eq_true (by omega)
  have d2 : decide (q ≤ H) = true := decide_eq_true (by omega)
  have d3 : decide (q ≤ ex + y) = true := decide_eq_true (by omega)
  have d4 : decide (q ≤ ex) = false := decide_eq_false (by omega)
  clear hq
  go_enter_defers Tryz.func35, Tryz.ntmps35
  go_wp2_with (first | (go_at_call 41; (with_reducible refine (HK.out _).mono ?_); rintro e w1 ⟨rfl, b1⟩; obtain ⟨hc1, hf1⟩ := bcell b1; have hz1 := below_size b1; (try simp at hz1); have z0 : w.heap.size < w1.heap.size := (by omega); have z1 : w.heap.size + 1 < w1.heap.size := (by omega)) | (go_at_call 62; (with_reducible refine (HV.out _ bel).mono ?_); rintro e w9 ⟨rfl, rfl⟩) | (go_at_call 40; (with_reducible refine (bneed_true _ _).mono ?_); rintro e w9 ⟨rfl, rfl⟩) | (go_at_call 75; (with_reducible refine (HS.out _ bel).mono ?_); rintro e w9 ⟨rfl, rfl⟩) | (go_at_call 57; (with_reducible refine (HZ.out _ bel).mono ?_); rintro e w9 ⟨rfl, rfl⟩) | (go_at_call 58; (with_reducible refine (HSH.out _ bel).mono ?_); rintro e w3 ⟨v3, rfl, hv3, b3⟩; obtain ⟨A3, c3, rfl⟩ := Kd.R_slice hv3; have HV3 := Lib.hid (R_C hv3); clear hv3; obtain ⟨hc3, hf3⟩ := bcell b3; have hz3 := below_size b3; (try simp at hz3); have x0 : w.heap.size < w3.heap.size := (by omega); have x1 : w.heap.size + 1 < w3.heap.size := (by omega); have x2 : w1.heap.size < w3.heap.size := (by omega)) | (go_at_call 66; (with_reducible refine (HFN.out _ _ _ HV3.out.1).mono ?_); rintro e w4 ⟨v4, rfl, hv4, b4⟩; obtain ⟨A4, c4, rfl⟩ := Kd.R_slice hv4; have HV4 := Lib.hid hv4; clear hv4; obtain ⟨hc4, hf4⟩ := bcell b4; have hz4 := below_size b4; (try simp at hz4); have y0 : w.heap.size < w4.heap.size := (by omega); have y1 : w.heap.size + 1 < w4.heap.size := (by omega)))
  (refine leaves_cons (f := 39) (args := #[.pointer (some ⟨w.heap.size + 1, 0, none⟩)]) (by simp) (by simp [go_sem]) ?_; refine (bcaught_idle _ _).mono ?_; rintro e u' w'' ⟨rfl, rfl, rfl⟩)
  refine ⟨.tuple #[.agg #[.int .i64 f, .int .i64 1, .bool ng, .slice A4 (lst).length c4, .int .i64 q], .int .i64 0], rresults (rs := [.cell 8 25, .cell 9 28]) rfl (by simp) (.cell w.heap.size rfl (load_agg (t := 25) blk0 Tryz.underlying25 rfl (by kernel_rfl)) (.cell (w.heap.size + 1) rfl (load_one (t := 28) blk0 (by kernel_rfl)) .nil)), _, rfl, Kd.R_lower (R_chg (S := fun k => k = w.heap.size ∨ k = w.heap.size + 1) HV4.out chg2 (by intro k hk; (try simp at hk ⊢); omega)) (by first | omega | (simp; omega)), bel⟩
end Go.Proofs.YtacnkcojhlbkoaaGreatDoor

set_option linter.unusedSimpArgs false
set_option linter.unusedVariables false
set_option linter.unnecessarySimpa false
namespace Go.Proofs.YtacnkcojhlbkoaaGreatDoor
open Go.RowKit Go.Proofs.YtacnkcojhlbkoaaGreatDoorW.PrintWords Go.Proofs.YtacnkcojhlbkoaaGreatDoorW.PrintLast Go.Proofs.YtacnkcojhlbkoaaGreatDoorW.PrintMore Go.Proofs.YtacnkcojhlbkoaaGreatDoor.NL
set_option maxRecDepth 100000

set_option maxHeartbeats 2000000 in
theorem rvint_any {ng b : Bool} {A : Option Addr} {n c : Nat} (w : World)
    (HV : Hid (∀ w', Below w.heap.size w w' → Calls Tryz.prog 37 #[.slice A n c] w' fun e w'' => e = .returned (.bool b) ∧ Below w'.heap.size w' w'')) :
    Calls Tryz.prog 24 #[.agg #[.bool ng, .slice A n c]] w fun e w' => e = .returned (.bool (b && (!ng || decide ((n : Int) > 0)))) ∧ Below w.heap.size w w' := by
  cases b <;> cases ng <;> (
    go_enter Tryz.func24, Tryz.ntmps24
    go_wp2_with (first | fail | (go_at_call 37; (with_reducible refine (HV.out _ bel).mono ?_); rintro e w1 ⟨rfl, b1⟩; obtain ⟨hc1, hf1⟩ := bcell b1; have hz1 := below_size b1; (try simp at hz1); have z01 : w.heap.size < w1.heap.size := (by omega)))
    all_goals
      go_ret
      exact ⟨by simp, bel⟩)
end Go.Proofs.YtacnkcojhlbkoaaGreatDoor
