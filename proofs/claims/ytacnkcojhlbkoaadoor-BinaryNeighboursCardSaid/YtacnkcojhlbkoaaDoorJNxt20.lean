/- binary: Greatest: what it returns. The law BinaryNeighbours: its walk: what its calls return makes it answer true. -/
import Derived.Test.YtacnkcojhlbkoaaDoorJNxt19
import Derived.Test.YtacnkcojhlbkoaaDoorJNxt17
import Derived.Test.YtacnkcojhlbkoaaDoorJNxt11
set_option linter.unusedSimpArgs false
set_option linter.unusedVariables false
set_option linter.unnecessarySimpa false
namespace Go.Proofs.YtacnkcojhlbkoaaDoor
open Go.RowKit Go.Proofs.YtacnkcojhlbkoaaDoorW.PrintWords Go.Proofs.YtacnkcojhlbkoaaDoorW.PrintLast Go.Proofs.YtacnkcojhlbkoaaDoorW.PrintMore Go.Proofs.YtacnkcojhlbkoaaDoor.NL
set_option maxRecDepth 100000
set_option exponentiation.threshold 130

theorem one_C (W : World) : Kd.C (Kd.int .u32) (W.alloc (.cells #[.int .u32 1] 77)) (some ⟨W.heap.size, 0, none⟩) 1 [1] := (R_C (R_fresh W W.heap.size rfl [1] #[.int .u32 1] rfl 1 rfl (Nat.le_refl _) (by simp))).1
theorem one_at (W : World) (g : Nat) (hg : g = W.heap.size) : Kd.C (Kd.int .u32) (W.alloc (.cells #[.int .u32 1] 77)) (some ⟨g, 0, none⟩) 1 [1] := by
  subst hg; exact one_C W
def TopP (rs : List Int) (H : Int) (w : World) (e : Ending) (w' : World) : Prop := ∃ v, e = .returned (.tuple #[v, .int .i64 H]) ∧ Kd.R (Kd.int .u32) 77 w' w.heap.size (fun _ => True) v rs ∧ Below w.heap.size w w'
set_option maxHeartbeats 2000000 in
theorem top1 {D E L H W f : Int} {ps rs : List Int} (w : World)
    (HPW : Hid (∀ w', Calls Tryd.prog 60 #[.int .i64 D] w' (NewRow w' ps)))
    (HSB : Hid (∀ A2 c2 A3 w', Kd.C (Kd.int .u32) w' A2 ps.length ps → ps.length ≤ c2 → Kd.C (Kd.int .u32) w' A3 1 [1] → Calls Tryd.prog 87 #[.slice A2 ps.length c2, .slice A3 1 1] w' (NumErr rs 0 w'))) :
    Calls Tryd.prog 86 #[.agg #[.int .i64 D, .int .i64 E, .int .i64 L, .int .i64 H, .int .i64 W, .int .i64 f]] w (TopP rs H w) := by
  go_enter Tryd.func86, Tryd.ntmps86
  go_wp2_with (first | fail | (go_at_call 60; (with_reducible refine (HPW.out _).mono ?_); rintro e w1 ⟨v1, rfl, hv1, b1⟩; obtain ⟨A1, c1, rfl⟩ := Kd.R_slice hv1; have HC1 := Lib.hid (R_C hv1); clear hv1; obtain ⟨hc1, hf1⟩ := bcell b1; have hz1 := below_size b1; (try simp at hz1); have z01 : w.heap.size < w1.heap.size := (by omega)) | (go_at_call 87; (with_reducible refine (HSB.out _ _ _ _ (Kd.C_below HC1.out.1 bel) HC1.out.2 (one_C w1)).mono ?_); rintro e w2 ⟨v2, rfl, hv2, b2⟩; obtain ⟨A2, c2, rfl⟩ := Kd.R_slice hv2; have HV2 := Lib.hid hv2; clear hv2; obtain ⟨hc2, hf2⟩ := bcell b2; have hz2 := below_size b2; (try simp at hz2); have z02 : w.heap.size < w2.heap.size := (by omega)))
  go_region
  go_wp2_with fail
  exact bodyPost_ret (v := .tuple #[.slice A2 rs.length c2, .int .i64 H]) (by simp [results, Tryd.results86, go_sem, *]) rfl ⟨_, rfl, Kd.R_lower (Kd.R_drew HV2.out) (by first | omega | (simp; omega)), bel⟩
set_option maxHeartbeats 4000000 in
theorem made_top {D E L H W f : Int} {rs xs : List Int} (w : World)
    (HK : Hid (∀ w', Calls Tryd.prog 42 #[.int .i64 f] w' fun e w'' => e = .returned (.agg #[.int .i64 D, .int .i64 E, .int .i64 L, .int .i64 H, .int .i64 W, .int .i64 f]) ∧ Below w'.heap.size w' w''))
    (HG : Hid (∀ w', Calls Tryd.prog 86 #[.agg #[.int .i64 D, .int .i64 E, .int .i64 L, .int .i64 H, .int .i64 W, .int .i64 f]] w' (TopP rs H w')))
    (HM : Hid (∀ A2 c2 w', Below w.heap.size w w' → Kd.C (Kd.int .u32) w' A2 rs.length rs → rs.length ≤ c2 → Calls Tryd.prog 32 #[.int .i64 f, .bool false, .slice A2 rs.length c2, .int .i64 H] w' (DatumE f 1 false xs H 0 w')))
    (ef : ∀ args w, (callFunc 86 args).run Tryd.prog w = .ok (.enter 86 args) w) :
    Calls Tryd.prog 85 #[.int .i64 f, .func (.func 86) #[] #[]] w (DatumE f 1 false xs H 0 w) := by
  go_enter_defers Tryd.func85, Tryd.ntmps85
  go_wp2_with (first | fail | (go_at_call 42; (with_reducible refine (HK.out _).mono ?_); rintro e w1 ⟨rfl, b1⟩; obtain ⟨hc1, hf1⟩ := bcell b1; have hz1 := below_size b1; (try simp at hz1); have z01 : w.heap.size < w1.heap.size := (by omega); have z11 : w.heap.size + 1 < w1.heap.size := (by omega)))
  refine (HG.out _).mono ?_
  rintro e w2 ⟨v2, rfl, hv2, b2⟩
  obtain ⟨A2, c2, rfl⟩ := Kd.R_slice hv2
  have HC2 := Lib.hid (R_C hv2)
  clear hv2 ef
  obtain ⟨hc2, hf2⟩ := bcell b2
  have hz2 := below_size b2
  simp at hz2
  have z02 : w.heap.size < w2.heap.size := by omega
  have z12 : w.heap.size + 1 < w2.heap.size := by omega
  go_wp2_with (first | fail | (go_at_call 32; (with_reducible refine (HM.out _ _ _ bel HC2.out.1 HC2.out.2).mono ?_); rintro e w3 ⟨v3, rfl, hv3, b3⟩; obtain ⟨A3, c3, rfl⟩ := Kd.R_slice hv3; have HV3 := Lib.hid hv3; clear hv3; obtain ⟨hc3, hf3⟩ := bcell b3; have hz3 := below_size b3; (try simp at hz3); have z03 : w.heap.size < w3.heap.size := (by omega); have z13 : w.heap.size + 1 < w3.heap.size := (by omega)))
  (refine leaves_cons (f := 41) (args := #[.pointer (some ⟨w.heap.size + 1, 0, none⟩)]) (by simp) (by simp [go_sem]) ?_; refine (bcaught_idle _ _).mono ?_; rintro e u' w'' ⟨rfl, rfl, rfl⟩)
  exact ⟨.tuple #[.agg #[.int .i64 f, .int .i64 1, .bool false, .slice A3 xs.length c3, .int .i64 H], .int .i64 0], rresults (rs := [.cell 4 25, .cell 5 31]) rfl (by simp) (.cell w.heap.size rfl (load_agg (t := 25) blk0 Tryd.underlying25 rfl (by kernel_rfl)) (.cell (w.heap.size + 1) rfl (load_one (t := 31) blk0 (by kernel_rfl)) .nil)), _, rfl, Kd.R_lower (R_chg (S := fun k => k = w.heap.size ∨ k = w.heap.size + 1) HV3.out chg2 (by intro k hk; (try simp at hk ⊢); omega)) (by first | omega | (simp; omega)), bel⟩
set_option maxHeartbeats 2000000 in
theorem greatest_walk {f H : Int} {xs : List Int} (w : World) (HM : Hid (∀ w', Below w.heap.size w w' → Calls Tryd.prog 85 #[.int .i64 f, .func (.func 86) #[] #[]] w' (DatumE f 1 false xs H 0 w'))) :
    Calls Tryd.prog 37 #[.int .i64 f] w (DatumE f 1 false xs H 0 w) := by
  go_enter Tryd.func37, Tryd.ntmps37
  go_wp2_with (first | fail | (go_at_call 85; (with_reducible refine (HM.out _ bel).mono ?_); rintro e w3 ⟨v3, rfl, hv3, b3⟩; obtain ⟨A3, c3, rfl⟩ := Kd.R_slice hv3; have HV3 := Lib.hid hv3; clear hv3; obtain ⟨hc3, hf3⟩ := bcell b3; have hz3 := below_size b3; (try simp at hz3); have z03 : w.heap.size < w3.heap.size := (by omega)))
  exact bodyPost_ret (v := .tuple #[.agg #[.int .i64 f, .int .i64 1, .bool false, .slice A3 xs.length c3, .int .i64 H], .int .i64 0]) (by simp [results, Tryd.results37, go_sem, *]) rfl ⟨_, rfl, Kd.R_lower (R_chg (S := fun k => k = w.heap.size ∨ k = w.heap.size) HV3.out chg2 (by intro k hk h; have h2 : k = w.heap.size := (by rcases h with h | h <;> exact h); (try simp at hk); first | done | omega)) (by first | omega | (simp; done) | (simp; omega)), bel⟩
/-- The greatest finite datum. -/
theorem greatest_any {f : Int} (w : World) (hf : isFm f = true) (hT : Tab w) : Calls Tryd.prog 37 #[.int .i64 f] w (DatumE f 1 false (ofN (2 ^ (oneN f + 1) - 1)) (fmH f) 0 w) := by
  obtain ⟨o1, o2, o3⟩ : fmD f = ((oneN f + 1 : Nat) : Int) ∧ oneN f ≤ 112 ∧ makeR f false (ofN (2 ^ (oneN f + 1) - 1)) (fmH f) = (f, 1, false, ofN (2 ^ (oneN f + 1) - 1), fmH f, 0) := by
    rcases fm_cases hf with rfl | rfl | rfl | rfl | rfl <;> decide +kernel
  have hp : 1 ≤ 2 ^ (oneN f + 1) := Nat.two_pow_pos _
  have hs : 2 ^ (oneN f + 1) < 2 ^ 114 := Nat.pow_lt_pow_right (by decide) (by omega)
  have hok : okN (ofN (2 ^ (oneN f + 1))) = true := okN_small hs (by omega)
  have hle : (ofN (2 ^ (oneN f + 1) - 1)).length ≤ 1024 := small_len (k := 114) (Nat.lt_of_le_of_lt (Nat.sub_le _ _) hs) (by omega)
  have HPW : Hid (∀ w', Calls Tryd.prog 60 #[.int .i64 (fmD f)] w' (NewRow w' (ofN (2 ^ (oneN f + 1))))) := Lib.hid fun w' => by
    rw [o1]; exact power_any (oneN f + 1) w' (by omega)
  have HSB : Hid (∀ A2 c2 A3 w', Kd.C (Kd.int .u32) w' A2 (ofN (2 ^ (oneN f + 1))).length (ofN (2 ^ (oneN f + 1))) → (ofN (2 ^ (oneN f + 1))).length ≤ c2 → Kd.C (Kd.int .u32) w' A3 1 [1] → Calls Tryd.prog 87 #[.slice A2 (ofN (2 ^ (oneN f + 1))).length c2, .slice A3 1 1] w' (NumErr (ofN (2 ^ (oneN f + 1) - 1)) 0 w')) := Lib.hid fun A2 c2 A3 w' h1 h2 h3 => by
    have := nSub_any w' h1 h3 (lim_ofN _) (by intro x hx; simp at hx; omega) h2 (Nat.le_refl 1)
    have e1 : okN [1] = true := by decide
    have e2 : val [1] = 1 := by decide
    unfold natSub numRes subO numOut at this
    rw [hok, e1, val_ofN, e2] at this
    simp only [Bool.and_self, if_true] at this
    rw [if_neg (show ¬ (2 ^ (oneN f + 1) < 1) by omega), if_pos rfl, if_pos hle] at this
    exact this
  have HK := Lib.hid fun w' => kindOf_ok hf w'
  unfold kV at HK
  refine greatest_walk w (Lib.hid fun w' hb => made_top w' HK (Lib.hid fun w2 => top1 w2 HPW HSB) (Lib.hid fun A2 c2 w2 h1 h2 h3 => ?_) (enters_of Tryd.func86 (by kernel_rfl) rfl))
  exact binary_Make.calls f false A2 c2 (ofN (2 ^ (oneN f + 1) - 1)) (fmH f) f 1 false (ofN (2 ^ (oneN f + 1) - 1)) (fmH f) 0 w2 h2 h3 (by unfold binary_Make.f; rw [if_pos (u32L_ofN _), o3]) (hT.below (below_step hb h1))
end Go.Proofs.YtacnkcojhlbkoaaDoor

set_option linter.unusedSimpArgs false
set_option linter.unusedVariables false
set_option linter.unnecessarySimpa false
namespace Go.Proofs.YtacnkcojhlbkoaaDoor
open Go.RowKit Go.Proofs.YtacnkcojhlbkoaaDoorW.PrintWords Go.Proofs.YtacnkcojhlbkoaaDoorW.PrintLast Go.Proofs.YtacnkcojhlbkoaaDoorW.PrintMore Go.Proofs.YtacnkcojhlbkoaaDoor.NL
set_option maxRecDepth 100000
set_option exponentiation.threshold 33000

set_option maxHeartbeats 16000000 in
theorem nxt_cl {a0 f hi1 lo1 H1 L1 cl1 ex1 : Int} {ng1 : Bool} {l1 : List Int} (w : World)
    (hT : Tab w)
    (HWh : Hid (∀ w', Calls Tryd.prog 21 #[.int .u8 a0] w' fun e w'' => e = .returned (.int .i64 f) ∧ Below w'.heap.size w' w''))
    (HC1 : Hid (∀ w', Calls Tryd.prog 22 #[.int .i64 f, .agg #[.int .u64 hi1, .int .u64 lo1]] w' fun e w'' => e = .returned (.agg #[.int .u64 H1, .int .u64 L1]) ∧ Below w'.heap.size w' w''))
    (HD1 : Hid (∀ w', Calls Tryd.prog 15 #[.int .i64 f, .agg #[.int .u64 H1, .int .u64 L1]] w' fun e w'' => ∃ v3 : Value, e = .returned (.tuple #[.agg #[.int .i64 f, .int .i64 cl1, .bool ng1, v3, .int .i64 ex1], .int .i64 0]) ∧ Kd.R (Kd.int .u32) 77 w'' w'.heap.size (fun _ => True) v3 l1 ∧ Below w'.heap.size w' w''))
    (HSa : Hid (∀ w', Tab w' → Calls Tryd.prog 11 #[] w' fun e w'' => e = .returned (.bool true) ∧ Below w'.heap.size w' w''))
    (tc : (cl1 != 1) = true) :
    Calls Tryd.prog 9 #[.int .u8 a0, .agg #[.int .u64 hi1, .int .u64 lo1]] w fun e w' => e = .returned (.bool true) ∧ Below w.heap.size w w' := by
  have HT := Lib.hid hT
  clear hT
  go_enter Tryd.func9, Tryd.ntmps9
  go_wp2_with (first | fail | (go_at_call 21; (with_reducible refine (HWh.out _).mono ?_); rintro e w1 ⟨rfl, b1⟩; obtain ⟨hc1, hf1⟩ := bcell b1; have hz1 := below_size b1; (try simp at hz1); have zz1_0 : w.heap.size < w1.heap.size := (by omega)) | (go_at_call 22; (with_reducible refine (HC1.out _).mono ?_); rintro e w2 ⟨rfl, b2⟩; obtain ⟨hc2, hf2⟩ := bcell b2; have hz2 := below_size b2; (try simp at hz2); have zz2_0 : w.heap.size < w2.heap.size := (by omega)) | (go_at_call 15; (with_reducible refine (HD1.out _).mono ?_); rintro e w3 ⟨v3, rfl, hv3, b3⟩; obtain ⟨A3, c3, rfl⟩ := Kd.R_slice hv3; have HC3 := Lib.hid (R_C hv3); clear hv3; obtain ⟨hc3, hf3⟩ := bcell b3; have hz3 := below_size b3; (try simp at hz3); have zz3_0 : w.heap.size < w3.heap.size := (by omega)) | (go_at_call 11; (with_reducible refine (HSa.out _ (HT.out.below bel)).mono ?_); rintro e w4 ⟨rfl, b4⟩; obtain ⟨hc4, hf4⟩ := bcell b4; have hz4 := below_size b4; (try simp at hz4); have zz4_0 : w.heap.size < w4.heap.size := (by omega); have zz4_1 : w3.heap.size < w4.heap.size := (by omega)))
  all_goals
    go_ret
    exact ⟨by simp, bel⟩
set_option maxHeartbeats 16000000 in
theorem nxt_ng {a0 f hi1 lo1 H1 L1 ex1 : Int} {l1 : List Int} (w : World)
    (hT : Tab w)
    (HWh : Hid (∀ w', Calls Tryd.prog 21 #[.int .u8 a0] w' fun e w'' => e = .returned (.int .i64 f) ∧ Below w'.heap.size w' w''))
    (HC1 : Hid (∀ w', Calls Tryd.prog 22 #[.int .i64 f, .agg #[.int .u64 hi1, .int .u64 lo1]] w' fun e w'' => e = .returned (.agg #[.int .u64 H1, .int .u64 L1]) ∧ Below w'.heap.size w' w''))
    (HD1 : Hid (∀ w', Calls Tryd.prog 15 #[.int .i64 f, .agg #[.int .u64 H1, .int .u64 L1]] w' fun e w'' => ∃ v3 : Value, e = .returned (.tuple #[.agg #[.int .i64 f, .int .i64 1, .bool true, v3, .int .i64 ex1], .int .i64 0]) ∧ Kd.R (Kd.int .u32) 77 w'' w'.heap.size (fun _ => True) v3 l1 ∧ Below w'.heap.size w' w''))
    (HSa : Hid (∀ w', Tab w' → Calls Tryd.prog 11 #[] w' fun e w'' => e = .returned (.bool true) ∧ Below w'.heap.size w' w'')) :
    Calls Tryd.prog 9 #[.int .u8 a0, .agg #[.int .u64 hi1, .int .u64 lo1]] w fun e w' => e = .returned (.bool true) ∧ Below w.heap.size w w' := by
  have HT := Lib.hid hT
  clear hT
  go_enter Tryd.func9, Tryd.ntmps9
  go_wp2_with (first | fail | (go_at_call 21; (with_reducible refine (HWh.out _).mono ?_); rintro e w1 ⟨rfl, b1⟩; obtain ⟨hc1, hf1⟩ := bcell b1; have hz1 := below_size b1; (try simp at hz1); have zz1_0 : w.heap.size < w1.heap.size := (by omega)) | (go_at_call 22; (with_reducible refine (HC1.out _).mono ?_); rintro e w2 ⟨rfl, b2⟩; obtain ⟨hc2, hf2⟩ := bcell b2; have hz2 := below_size b2; (try simp at hz2); have zz2_0 : w.heap.size < w2.heap.size := (by omega)) | (go_at_call 15; (with_reducible refine (HD1.out _).mono ?_); rintro e w3 ⟨v3, rfl, hv3, b3⟩; obtain ⟨A3, c3, rfl⟩ := Kd.R_slice hv3; have HC3 := Lib.hid (R_C hv3); clear hv3; obtain ⟨hc3, hf3⟩ := bcell b3; have hz3 := below_size b3; (try simp at hz3); have zz3_0 : w.heap.size < w3.heap.size := (by omega)) | (go_at_call 11; (with_reducible refine (HSa.out _ (HT.out.below bel)).mono ?_); rintro e w4 ⟨rfl, b4⟩; obtain ⟨hc4, hf4⟩ := bcell b4; have hz4 := below_size b4; (try simp at hz4); have zz4_0 : w.heap.size < w4.heap.size := (by omega); have zz4_1 : w3.heap.size < w4.heap.size := (by omega)))
  all_goals
    go_ret
    exact ⟨by simp, bel⟩
set_option maxHeartbeats 16000000 in
theorem nxt_top {a0 f hi1 lo1 H1 L1 ex1 ext : Int} {l1 li lj lt : List Int} (w : World)
    (hT : Tab w)
    (HWh : Hid (∀ w', Calls Tryd.prog 21 #[.int .u8 a0] w' fun e w'' => e = .returned (.int .i64 f) ∧ Below w'.heap.size w' w''))
    (HC1 : Hid (∀ w', Calls Tryd.prog 22 #[.int .i64 f, .agg #[.int .u64 hi1, .int .u64 lo1]] w' fun e w'' => e = .returned (.agg #[.int .u64 H1, .int .u64 L1]) ∧ Below w'.heap.size w' w''))
    (HD1 : Hid (∀ w', Calls Tryd.prog 15 #[.int .i64 f, .agg #[.int .u64 H1, .int .u64 L1]] w' fun e w'' => ∃ v3 : Value, e = .returned (.tuple #[.agg #[.int .i64 f, .int .i64 1, .bool false, v3, .int .i64 ex1], .int .i64 0]) ∧ Kd.R (Kd.int .u32) 77 w'' w'.heap.size (fun _ => True) v3 l1 ∧ Below w'.heap.size w' w''))
    (HI : Hid (∀ A c w', Kd.C (Kd.int .u32) w' A l1.length l1 → l1.length ≤ c → Calls Tryd.prog 23 #[dV f 1 false A l1.length c ex1] w' fun e w'' => ∃ v3 : Value, e = .returned (.tuple #[.agg #[.bool false, v3], .int .i64 0]) ∧ Kd.R (Kd.int .u32) 77 w'' w'.heap.size (fun _ => True) v3 li ∧ Below w'.heap.size w' w''))
    (HAI : Hid (∀ A c A' w', Kd.C (Kd.int .u32) w' A li.length li → li.length ≤ c → Kd.C (Kd.int .u32) w' A' 1 [1] → Calls Tryd.prog 36 #[.slice A li.length c, .slice A' 1 1] w' (NumErr lj 0 w')))
    (HAt : Hid (∀ A c w', Kd.C (Kd.int .u32) w' A lj.length lj → lj.length ≤ c → Calls Tryd.prog 33 #[.int .i64 f, .agg #[.bool false, .slice A lj.length c]] w' fun e w'' => ∃ v3 : Value, e = .returned (.tuple #[.agg #[.int .i64 f, .int .i64 2, .bool false, v3, .int .i64 0], .int .i64 0]) ∧ Kd.R (Kd.int .u32) 77 w'' w'.heap.size (fun _ => True) v3 [] ∧ Below w'.heap.size w' w''))
    (HGr : Hid (∀ w', Tab w' → Calls Tryd.prog 37 #[.int .i64 f] w' (DatumE f 1 false lt ext 0 w')))
    (HSt : Hid (∀ A c A' c' w', Kd.C (Kd.int .u32) w' A l1.length l1 → l1.length ≤ c → Kd.C (Kd.int .u32) w' A' lt.length lt → lt.length ≤ c' → Calls Tryd.prog 19 #[.agg #[.int .i64 f, .int .i64 1, .bool false, .slice A l1.length c, .int .i64 ex1], .agg #[.int .i64 f, .int .i64 1, .bool false, .slice A' lt.length c', .int .i64 ext]] w' fun e w'' => e = .returned (.bool true) ∧ Below w'.heap.size w' w''))
    (HSi : Hid (∀ A c w', Kd.C (Kd.int .u32) w' A 0 [] → 0 ≤ c → Calls Tryd.prog 19 #[.agg #[.int .i64 f, .int .i64 2, .bool false, .slice A 0 c, .int .i64 0], .agg #[.int .i64 f, .int .i64 2, .bool false, .slice none 0 0, .int .i64 0]] w' fun e w'' => e = .returned (.bool true) ∧ Below w'.heap.size w' w''))
    (HSa : Hid (∀ w', Tab w' → Calls Tryd.prog 11 #[] w' fun e w'' => e = .returned (.bool true) ∧ Below w'.heap.size w' w'')) :
    Calls Tryd.prog 9 #[.int .u8 a0, .agg #[.int .u64 hi1, .int .u64 lo1]] w fun e w' => e = .returned (.bool true) ∧ Below w.heap.size w w' := by
  have HT := Lib.hid hT
  clear hT
  go_enter Tryd.func9, Tryd.ntmps9
  go_upto_region 7 with (first | fail | (go_at_call 21; (with_reducible refine (HWh.out _).mono ?_); rintro e w1 ⟨rfl, b1⟩; obtain ⟨hc1, hf1⟩ := bcell b1; have hz1 := below_size b1; (try simp at hz1); have zz1_0 : w.heap.size < w1.heap.size := (by omega)) | (go_at_call 22; (with_reducible refine (HC1.out _).mono ?_); rintro e w2 ⟨rfl, b2⟩; obtain ⟨hc2, hf2⟩ := bcell b2; have hz2 := below_size b2; (try simp at hz2); have zz2_0 : w.heap.size < w2.heap.size := (by omega)) | (go_at_call 15; (with_reducible refine (HD1.out _).mono ?_); rintro e w3 ⟨v3, rfl, hv3, b3⟩; obtain ⟨A3, c3, rfl⟩ := Kd.R_slice hv3; have HC3 := Lib.hid (R_C hv3); clear hv3; obtain ⟨hc3, hf3⟩ := bcell b3; have hz3 := below_size b3; (try simp at hz3); have zz3_0 : w.heap.size < w3.heap.size := (by omega)) | (go_at_call 23; (with_reducible refine (HI.out _ _ _ (Kd.C_below HC3.out.1 bel) HC3.out.2).mono ?_); rintro e w4 ⟨v4, rfl, hv4, b4⟩; obtain ⟨A4, c4, rfl⟩ := Kd.R_slice hv4; have HC4 := Lib.hid (R_C hv4); clear hv4; obtain ⟨hc4, hf4⟩ := bcell b4; have hz4 := below_size b4; (try simp at hz4); have zz4_0 : w.heap.size < w4.heap.size := (by omega); have zz4_1 : w3.heap.size < w4.heap.size := (by omega)) | (go_at_call 36; (with_reducible refine (HAI.out _ _ _ _ (Kd.C_below HC4.out.1 bel) HC4.out.2 (one_at _ _ (by simp))).mono ?_); rintro e w5 ⟨v5, rfl, hv5, b5⟩; obtain ⟨A5, c5, rfl⟩ := Kd.R_slice hv5; have HC5 := Lib.hid (R_C hv5); clear hv5; obtain ⟨hc5, hf5⟩ := bcell b5; have hz5 := below_size b5; (try simp at hz5); have zz5_0 : w.heap.size < w5.heap.size := (by omega); have zz5_1 : w3.heap.size < w5.heap.size := (by omega); have zz5_2 : w4.heap.size < w5.heap.size := (by omega)))
  go_cut [5, 6, 9, 11, 12, 13] (fun v5 v6 v9 v11 v12 v13 wx => ∃ (pa pb : Nat) (Aa : Option Addr) (ca : Nat) (Ab : Option Addr) (cb : Nat), v5 = .int .i64 f ∧ v6 = .pointer (some ⟨pa, 0, none⟩) ∧ v9 = .int .i64 0 ∧ v11 = .int .i64 0 ∧ v12 = .pointer (some ⟨pb, 0, none⟩) ∧ v13 = .int .i64 0 ∧ BlkIs wx pa 25 (· = #[.int .i64 f, .int .i64 1, .bool false, .slice Aa l1.length ca, .int .i64 ex1]) ∧ BlkIs wx pb 25 (· = #[.int .i64 f, .int .i64 2, .bool false, .slice Ab 0 cb, .int .i64 0]) ∧ Hid (Kd.C (Kd.int .u32) wx Aa l1.length l1 ∧ l1.length ≤ ca) ∧ Hid (Kd.C (Kd.int .u32) wx Ab 0 [] ∧ 0 ≤ cb) ∧ Below w.heap.size w wx)
  case first =>
    go_wp2_with (first | fail | (go_at_call 33; (with_reducible refine (HAt.out _ _ _ (Kd.C_below HC5.out.1 bel) HC5.out.2).mono ?_); rintro e w6 ⟨v6, rfl, hv6, b6⟩; obtain ⟨A6, c6, rfl⟩ := Kd.R_slice hv6; have HC6 := Lib.hid (R_C hv6); clear hv6; obtain ⟨hc6, hf6⟩ := bcell b6; have hz6 := below_size b6; (try simp at hz6); have zz6_0 : w.heap.size < w6.heap.size := (by omega); have zz6_1 : w3.heap.size < w6.heap.size := (by omega); have zz6_2 : w4.heap.size < w6.heap.size := (by omega)))
    go_meet
    exact ⟨_, _, _, _, _, _, rfl, rfl, rfl, rfl, rfl, rfl, blk0, blk0, Lib.hid ⟨Kd.C_below HC3.out.1 bel, HC3.out.2⟩, Lib.hid ⟨Kd.C_below HC6.out.1 bel, HC6.out.2⟩, bel⟩
  case rest =>
    clear HWh HC1 HD1 HI HAI HAt
    obtain ⟨pa, pb, Aa, ca, Ab, cb, rfl, rfl, rfl, rfl, rfl, rfl, HBa, HBb, HXa, HXb, hbw⟩ := hcut
    obtain ⟨csa, hbka, rfl⟩ := HBa
    have a0 : wc.cell? ⟨pa, 0, none⟩ = some (.int .i64 f) := by simpa using blk_cell hbka 0
    have a1 : wc.cell? ⟨pa, 1, none⟩ = some (.int .i64 1) := by simpa using blk_cell hbka 1
    have a2 : wc.cell? ⟨pa, 2, none⟩ = some (.bool false) := by simpa using blk_cell hbka 2
    have a3 : wc.cell? ⟨pa, 3, none⟩ = some (.slice Aa l1.length ca) := by simpa using blk_cell hbka 3
    have a4 : wc.cell? ⟨pa, 4, none⟩ = some (.int .i64 ex1) := by simpa using blk_cell hbka 4
    have az : pa < wc.heap.size := blk_lt hbka
    have HBah := Lib.hid hbka
    clear hbka
    obtain ⟨csb, hbkb, rfl⟩ := HBb
    have b0 : wc.cell? ⟨pb, 0, none⟩ = some (.int .i64 f) := by simpa using blk_cell hbkb 0
    have b1 : wc.cell? ⟨pb, 1, none⟩ = some (.int .i64 2) := by simpa using blk_cell hbkb 1
    have b2 : wc.cell? ⟨pb, 2, none⟩ = some (.bool false) := by simpa using blk_cell hbkb 2
    have b3 : wc.cell? ⟨pb, 3, none⟩ = some (.slice Ab 0 cb) := by simpa using blk_cell hbkb 3
    have b4 : wc.cell? ⟨pb, 4, none⟩ = some (.int .i64 0) := by simpa using blk_cell hbkb 4
    have bz : pb < wc.heap.size := blk_lt hbkb
    have HBbh := Lib.hid hbkb
    clear hbkb
    go_wp2_with (first | fail | (go_at_call 37; (with_reducible refine (HGr.out _ (HT.out.below bel)).mono ?_); rintro e w10 ⟨v10, rfl, hv10, b10⟩; obtain ⟨A10, c10, rfl⟩ := Kd.R_slice hv10; have HC10 := Lib.hid (R_C hv10); clear hv10; obtain ⟨hc10, hf10⟩ := bcell b10; have hz10 := below_size b10; (try simp at hz10); have zz10_0 : pa < w10.heap.size := (by omega); have zz10_1 : pb < w10.heap.size := (by omega)) | (go_at_call 19; (with_reducible refine (HSt.out _ _ _ _ _ (Kd.C_below HXa.out.1 bel) HXa.out.2 (Kd.C_below HC10.out.1 bel) HC10.out.2).mono ?_); rintro e w11 ⟨rfl, b11⟩; obtain ⟨hc11, hf11⟩ := bcell b11; have hz11 := below_size b11; (try simp at hz11); have zz11_0 : pa < w11.heap.size := (by omega); have zz11_1 : pb < w11.heap.size := (by omega); have zz11_2 : w10.heap.size < w11.heap.size := (by omega)) | (go_at_call 11; (with_reducible refine (HSa.out _ (HT.out.below bel)).mono ?_); rintro e w12 ⟨rfl, b12⟩; obtain ⟨hc12, hf12⟩ := bcell b12; have hz12 := below_size b12; (try simp at hz12); have zz12_0 : pa < w12.heap.size := (by omega); have zz12_1 : pb < w12.heap.size := (by omega); have zz12_2 : w10.heap.size < w12.heap.size := (by omega)) | (go_at_call 19; (with_reducible refine (HSi.out _ _ _ (Kd.C_below HXb.out.1 bel) HXb.out.2).mono ?_); rintro e w13 ⟨rfl, b13⟩; obtain ⟨hc13, hf13⟩ := bcell b13; have hz13 := below_size b13; (try simp at hz13); have zz13_0 : pa < w13.heap.size := (by omega); have zz13_1 : pb < w13.heap.size := (by omega); have zz13_2 : w10.heap.size < w13.heap.size := (by omega)))
    all_goals
      go_ret
      exact ⟨by simp, bel⟩
set_option maxHeartbeats 16000000 in
theorem nxt_mid {a0 f hi1 lo1 H1 L1 ex1 exb ext xe : Int} {nx : Bool} {l1 li lj lb lt lx lm : List Int} (w : World)
    (hT : Tab w)
    (HWh : Hid (∀ w', Calls Tryd.prog 21 #[.int .u8 a0] w' fun e w'' => e = .returned (.int .i64 f) ∧ Below w'.heap.size w' w''))
    (HC1 : Hid (∀ w', Calls Tryd.prog 22 #[.int .i64 f, .agg #[.int .u64 hi1, .int .u64 lo1]] w' fun e w'' => e = .returned (.agg #[.int .u64 H1, .int .u64 L1]) ∧ Below w'.heap.size w' w''))
    (HD1 : Hid (∀ w', Calls Tryd.prog 15 #[.int .i64 f, .agg #[.int .u64 H1, .int .u64 L1]] w' fun e w'' => ∃ v3 : Value, e = .returned (.tuple #[.agg #[.int .i64 f, .int .i64 1, .bool false, v3, .int .i64 ex1], .int .i64 0]) ∧ Kd.R (Kd.int .u32) 77 w'' w'.heap.size (fun _ => True) v3 l1 ∧ Below w'.heap.size w' w''))
    (HI : Hid (∀ A c w', Kd.C (Kd.int .u32) w' A l1.length l1 → l1.length ≤ c → Calls Tryd.prog 23 #[dV f 1 false A l1.length c ex1] w' fun e w'' => ∃ v3 : Value, e = .returned (.tuple #[.agg #[.bool false, v3], .int .i64 0]) ∧ Kd.R (Kd.int .u32) 77 w'' w'.heap.size (fun _ => True) v3 li ∧ Below w'.heap.size w' w''))
    (HAI : Hid (∀ A c A' w', Kd.C (Kd.int .u32) w' A li.length li → li.length ≤ c → Kd.C (Kd.int .u32) w' A' 1 [1] → Calls Tryd.prog 36 #[.slice A li.length c, .slice A' 1 1] w' (NumErr lj 0 w')))
    (HAt : Hid (∀ A c w', Kd.C (Kd.int .u32) w' A lj.length lj → lj.length ≤ c → Calls Tryd.prog 33 #[.int .i64 f, .agg #[.bool false, .slice A lj.length c]] w' fun e w'' => ∃ v3 : Value, e = .returned (.tuple #[.agg #[.int .i64 f, .int .i64 1, .bool false, v3, .int .i64 exb], .int .i64 0]) ∧ Kd.R (Kd.int .u32) 77 w'' w'.heap.size (fun _ => True) v3 lb ∧ Below w'.heap.size w' w''))
    (HGr : Hid (∀ w', Tab w' → Calls Tryd.prog 37 #[.int .i64 f] w' (DatumE f 1 false lt ext 0 w')))
    (HSt : Hid (∀ A c A' c' w', Kd.C (Kd.int .u32) w' A l1.length l1 → l1.length ≤ c → Kd.C (Kd.int .u32) w' A' lt.length lt → lt.length ≤ c' → Calls Tryd.prog 19 #[.agg #[.int .i64 f, .int .i64 1, .bool false, .slice A l1.length c, .int .i64 ex1], .agg #[.int .i64 f, .int .i64 1, .bool false, .slice A' lt.length c', .int .i64 ext]] w' fun e w'' => e = .returned (.bool false) ∧ Below w'.heap.size w' w''))
    (HV : Hid (∀ A c w', Tab w' → Kd.C (Kd.int .u32) w' A lb.length lb → lb.length ≤ c → Calls Tryd.prog 30 #[dV f 1 false A lb.length c exb] w' fun e w'' => ∃ v3 : Value, e = .returned (.tuple #[.agg #[.bool nx, v3, .int .i64 xe], .int .i64 0]) ∧ Kd.R (Kd.int .u32) 77 w'' w'.heap.size (fun _ => True) v3 lx ∧ Below w'.heap.size w' w''))
    (HAC : Hid (∀ A c A' w', Kd.C (Kd.int .u32) w' A l1.length l1 → l1.length ≤ c → Kd.C (Kd.int .u32) w' A' 1 [1] → Calls Tryd.prog 36 #[.slice A l1.length c, .slice A' 1 1] w' (NumErr lm 0 w')))
    (HM : Hid (∀ A c w', Tab w' → Kd.C (Kd.int .u32) w' A lm.length lm → lm.length ≤ c → Calls Tryd.prog 32 #[.int .i64 f, .bool false, .slice A lm.length c, .int .i64 ex1] w' (DatumE f 1 false lb exb 0 w')))
    (HSd : Hid (∀ A c A' c' w', Kd.C (Kd.int .u32) w' A lx.length lx → lx.length ≤ c → Kd.C (Kd.int .u32) w' A' lx.length lx → lx.length ≤ c' → Calls Tryd.prog 38 #[.agg #[.bool nx, .slice A lx.length c, .int .i64 xe], .agg #[.bool nx, .slice A' lx.length c', .int .i64 xe]] w' fun e w'' => e = .returned (.bool true) ∧ Below w'.heap.size w' w''))
    (HSb : Hid (∀ A c A' c' w', Kd.C (Kd.int .u32) w' A lb.length lb → lb.length ≤ c → Kd.C (Kd.int .u32) w' A' lb.length lb → lb.length ≤ c' → Calls Tryd.prog 19 #[.agg #[.int .i64 f, .int .i64 1, .bool false, .slice A lb.length c, .int .i64 exb], .agg #[.int .i64 f, .int .i64 1, .bool false, .slice A' lb.length c', .int .i64 exb]] w' fun e w'' => e = .returned (.bool true) ∧ Below w'.heap.size w' w''))
    (HSa : Hid (∀ w', Tab w' → Calls Tryd.prog 11 #[] w' fun e w'' => e = .returned (.bool true) ∧ Below w'.heap.size w' w'')) :
    Calls Tryd.prog 9 #[.int .u8 a0, .agg #[.int .u64 hi1, .int .u64 lo1]] w fun e w' => e = .returned (.bool true) ∧ Below w.heap.size w w' := by
  have HT := Lib.hid hT
  clear hT
  go_enter Tryd.func9, Tryd.ntmps9
  go_upto_region 7 with (first | fail | (go_at_call 21; (with_reducible refine (HWh.out _).mono ?_); rintro e w1 ⟨rfl, b1⟩; obtain ⟨hc1, hf1⟩ := bcell b1; have hz1 := below_size b1; (try simp at hz1); have zz1_0 : w.heap.size < w1.heap.size := (by omega)) | (go_at_call 22; (with_reducible refine (HC1.out _).mono ?_); rintro e w2 ⟨rfl, b2⟩; obtain ⟨hc2, hf2⟩ := bcell b2; have hz2 := below_size b2; (try simp at hz2); have zz2_0 : w.heap.size < w2.heap.size := (by omega)) | (go_at_call 15; (with_reducible refine (HD1.out _).mono ?_); rintro e w3 ⟨v3, rfl, hv3, b3⟩; obtain ⟨A3, c3, rfl⟩ := Kd.R_slice hv3; have HC3 := Lib.hid (R_C hv3); clear hv3; obtain ⟨hc3, hf3⟩ := bcell b3; have hz3 := below_size b3; (try simp at hz3); have zz3_0 : w.heap.size < w3.heap.size := (by omega)) | (go_at_call 23; (with_reducible refine (HI.out _ _ _ (Kd.C_below HC3.out.1 bel) HC3.out.2).mono ?_); rintro e w4 ⟨v4, rfl, hv4, b4⟩; obtain ⟨A4, c4, rfl⟩ := Kd.R_slice hv4; have HC4 := Lib.hid (R_C hv4); clear hv4; obtain ⟨hc4, hf4⟩ := bcell b4; have hz4 := below_size b4; (try simp at hz4); have zz4_0 : w.heap.size < w4.heap.size := (by omega); have zz4_1 : w3.heap.size < w4.heap.size := (by omega)) | (go_at_call 36; (with_reducible refine (HAI.out _ _ _ _ (Kd.C_below HC4.out.1 bel) HC4.out.2 (one_at _ _ (by simp))).mono ?_); rintro e w5 ⟨v5, rfl, hv5, b5⟩; obtain ⟨A5, c5, rfl⟩ := Kd.R_slice hv5; have HC5 := Lib.hid (R_C hv5); clear hv5; obtain ⟨hc5, hf5⟩ := bcell b5; have hz5 := below_size b5; (try simp at hz5); have zz5_0 : w.heap.size < w5.heap.size := (by omega); have zz5_1 : w3.heap.size < w5.heap.size := (by omega); have zz5_2 : w4.heap.size < w5.heap.size := (by omega)))
  go_cut [5, 6, 9, 11, 12, 13] (fun v5 v6 v9 v11 v12 v13 wx => ∃ (pa pb : Nat) (Aa : Option Addr) (ca : Nat) (Ab : Option Addr) (cb : Nat), v5 = .int .i64 f ∧ v6 = .pointer (some ⟨pa, 0, none⟩) ∧ v9 = .int .i64 0 ∧ v11 = .int .i64 0 ∧ v12 = .pointer (some ⟨pb, 0, none⟩) ∧ v13 = .int .i64 0 ∧ BlkIs wx pa 25 (· = #[.int .i64 f, .int .i64 1, .bool false, .slice Aa l1.length ca, .int .i64 ex1]) ∧ BlkIs wx pb 25 (· = #[.int .i64 f, .int .i64 1, .bool false, .slice Ab lb.length cb, .int .i64 exb]) ∧ Hid (Kd.C (Kd.int .u32) wx Aa l1.length l1 ∧ l1.length ≤ ca) ∧ Hid (Kd.C (Kd.int .u32) wx Ab lb.length lb ∧ lb.length ≤ cb) ∧ Below w.heap.size w wx)
  case first =>
    go_wp2_with (first | fail | (go_at_call 33; (with_reducible refine (HAt.out _ _ _ (Kd.C_below HC5.out.1 bel) HC5.out.2).mono ?_); rintro e w6 ⟨v6, rfl, hv6, b6⟩; obtain ⟨A6, c6, rfl⟩ := Kd.R_slice hv6; have HC6 := Lib.hid (R_C hv6); clear hv6; obtain ⟨hc6, hf6⟩ := bcell b6; have hz6 := below_size b6; (try simp at hz6); have zz6_0 : w.heap.size < w6.heap.size := (by omega); have zz6_1 : w3.heap.size < w6.heap.size := (by omega); have zz6_2 : w4.heap.size < w6.heap.size := (by omega)))
    go_meet
    exact ⟨_, _, _, _, _, _, rfl, rfl, rfl, rfl, rfl, rfl, blk0, blk0, Lib.hid ⟨Kd.C_below HC3.out.1 bel, HC3.out.2⟩, Lib.hid ⟨Kd.C_below HC6.out.1 bel, HC6.out.2⟩, bel⟩
  case rest =>
    clear HWh HC1 HD1 HI HAI HAt
    obtain ⟨pa, pb, Aa, ca, Ab, cb, rfl, rfl, rfl, rfl, rfl, rfl, HBa, HBb, HXa, HXb, hbw⟩ := hcut
    obtain ⟨csa, hbka, rfl⟩ := HBa
    have a0 : wc.cell? ⟨pa, 0, none⟩ = some (.int .i64 f) := by simpa using blk_cell hbka 0
    have a1 : wc.cell? ⟨pa, 1, none⟩ = some (.int .i64 1) := by simpa using blk_cell hbka 1
    have a2 : wc.cell? ⟨pa, 2, none⟩ = some (.bool false) := by simpa using blk_cell hbka 2
    have a3 : wc.cell? ⟨pa, 3, none⟩ = some (.slice Aa l1.length ca) := by simpa using blk_cell hbka 3
    have a4 : wc.cell? ⟨pa, 4, none⟩ = some (.int .i64 ex1) := by simpa using blk_cell hbka 4
    have az : pa < wc.heap.size := blk_lt hbka
    have HBah := Lib.hid hbka
    clear hbka
    obtain ⟨csb, hbkb, rfl⟩ := HBb
    have b0 : wc.cell? ⟨pb, 0, none⟩ = some (.int .i64 f) := by simpa using blk_cell hbkb 0
    have b1 : wc.cell? ⟨pb, 1, none⟩ = some (.int .i64 1) := by simpa using blk_cell hbkb 1
    have b2 : wc.cell? ⟨pb, 2, none⟩ = some (.bool false) := by simpa using blk_cell hbkb 2
    have b3 : wc.cell? ⟨pb, 3, none⟩ = some (.slice Ab lb.length cb) := by simpa using blk_cell hbkb 3
    have b4 : wc.cell? ⟨pb, 4, none⟩ = some (.int .i64 exb) := by simpa using blk_cell hbkb 4
    have bz : pb < wc.heap.size := blk_lt hbkb
    have HBbh := Lib.hid hbkb
    clear hbkb
    go_upto_region 15 with (first | fail | (go_at_call 37; (with_reducible refine (HGr.out _ (HT.out.below bel)).mono ?_); rintro e w10 ⟨v10, rfl, hv10, b10⟩; obtain ⟨A10, c10, rfl⟩ := Kd.R_slice hv10; have HC10 := Lib.hid (R_C hv10); clear hv10; obtain ⟨hc10, hf10⟩ := bcell b10; have hz10 := below_size b10; (try simp at hz10); have zz10_0 : pa < w10.heap.size := (by omega); have zz10_1 : pb < w10.heap.size := (by omega)) | (go_at_call 19; (with_reducible refine (HSt.out _ _ _ _ _ (Kd.C_below HXa.out.1 bel) HXa.out.2 (Kd.C_below HC10.out.1 bel) HC10.out.2).mono ?_); rintro e w11 ⟨rfl, b11⟩; obtain ⟨hc11, hf11⟩ := bcell b11; have hz11 := below_size b11; (try simp at hz11); have zz11_0 : pa < w11.heap.size := (by omega); have zz11_1 : pb < w11.heap.size := (by omega); have zz11_2 : w10.heap.size < w11.heap.size := (by omega)) | (go_at_call 30; (with_reducible refine (HV.out _ _ _ (HT.out.below bel) (Kd.C_below HXb.out.1 bel) HXb.out.2).mono ?_); rintro e w12 ⟨v12, rfl, hv12, b12⟩; obtain ⟨A12, c12, rfl⟩ := Kd.R_slice hv12; have HC12 := Lib.hid (R_C hv12); clear hv12; obtain ⟨hc12, hf12⟩ := bcell b12; have hz12 := below_size b12; (try simp at hz12); have zz12_0 : pa < w12.heap.size := (by omega); have zz12_1 : pb < w12.heap.size := (by omega); have zz12_2 : w10.heap.size < w12.heap.size := (by omega); have qpa1 : pa < w12.heap.size + 1 + 1 := (by omega); have qpa2 : pa < w12.heap.size + 2 := (by omega); have qpa3 : pa ≤ w12.heap.size + 1 := (by omega); have qpb1 : pb < w12.heap.size + 1 + 1 := (by omega); have qpb2 : pb < w12.heap.size + 2 := (by omega); have qpb3 : pb ≤ w12.heap.size + 1 := (by omega)) | (go_at_call 36; (with_reducible refine (HAC.out _ _ _ _ (Kd.C_below HXa.out.1 bel) HXa.out.2 (one_at _ _ (by simp))).mono ?_); rintro e w13 ⟨v13, rfl, hv13, b13⟩; obtain ⟨A13, c13, rfl⟩ := Kd.R_slice hv13; have HC13 := Lib.hid (R_C hv13); clear hv13; obtain ⟨hc13, hf13⟩ := bcell b13; have hz13 := below_size b13; (try simp at hz13); have zz13_0 : pa < w13.heap.size := (by omega); have zz13_1 : pb < w13.heap.size := (by omega); have zz13_2 : w10.heap.size < w13.heap.size := (by omega); have zz13_3 : w12.heap.size < w13.heap.size := (by omega)))
    go_cut [9, 11, 12, 13, 16, 18] (fun v9 v11 v12 v13 v16 v18 wx => ∃ (px py : Nat) (Ax : Option Addr) (cx : Nat) (Ay : Option Addr) (cy : Nat), v9 = .int .i64 0 ∧ v11 = .int .i64 0 ∧ v12 = .pointer (some ⟨pb, 0, none⟩) ∧ v13 = .int .i64 0 ∧ v16 = .pointer (some ⟨px, 0, none⟩) ∧ v18 = .pointer (some ⟨py, 0, none⟩) ∧ BlkIs wx pb 25 (· = #[.int .i64 f, .int .i64 1, .bool false, .slice Ab lb.length cb, .int .i64 exb]) ∧ BlkIs wx px 65 (· = #[.bool nx, .slice Ax lx.length cx, .int .i64 xe]) ∧ BlkIs wx py 25 (· = #[.int .i64 f, .int .i64 1, .bool false, .slice Ay lb.length cy, .int .i64 exb]) ∧ Hid (Kd.C (Kd.int .u32) wx Ab lb.length lb ∧ lb.length ≤ cb) ∧ Hid (Kd.C (Kd.int .u32) wx Ax lx.length lx ∧ lx.length ≤ cx) ∧ Hid (Kd.C (Kd.int .u32) wx Ay lb.length lb ∧ lb.length ≤ cy) ∧ Below w.heap.size w wx)
    case first =>
      go_wp2_with (first | fail | (go_at_call 32; (with_reducible refine (HM.out _ _ _ (HT.out.below bel) (Kd.C_below HC13.out.1 bel) HC13.out.2).mono ?_); rintro e w14 ⟨v14, rfl, hv14, b14⟩; obtain ⟨A14, c14, rfl⟩ := Kd.R_slice hv14; have HC14 := Lib.hid (R_C hv14); clear hv14; obtain ⟨hc14, hf14⟩ := bcell b14; have hz14 := below_size b14; (try simp at hz14); have zz14_0 : pa < w14.heap.size := (by omega); have zz14_1 : pb < w14.heap.size := (by omega); have zz14_2 : w12.heap.size < w14.heap.size := (by omega)))
      go_meet
      have hbkb := HBbh.out
      exact ⟨_, _, _, _, _, _, rfl, rfl, rfl, rfl, rfl, rfl, blk1, blk0, blk0, Lib.hid ⟨Kd.C_below HXb.out.1 bel, HXb.out.2⟩, Lib.hid ⟨Kd.C_below HC12.out.1 bel, HC12.out.2⟩, Lib.hid ⟨Kd.C_below HC14.out.1 bel, HC14.out.2⟩, bel⟩
    case rest =>
      clear HGr HSt HAC HM HBah HBbh HXa HXb hbw a1 a2 a3 a4 az b0 b1 b2 b3 b4 bz
      obtain ⟨px, py, Ax, cx, Ay, cy, rfl, rfl, rfl, rfl, rfl, rfl, HBb, HBx, HBy, HXb, HXx, HXy, hbw⟩ := hcut
      obtain ⟨csb, hbkb, rfl⟩ := HBb
      have b0 : wc.cell? ⟨pb, 0, none⟩ = some (.int .i64 f) := by simpa using blk_cell hbkb 0
      have b1 : wc.cell? ⟨pb, 1, none⟩ = some (.int .i64 1) := by simpa using blk_cell hbkb 1
      have b2 : wc.cell? ⟨pb, 2, none⟩ = some (.bool false) := by simpa using blk_cell hbkb 2
      have b3 : wc.cell? ⟨pb, 3, none⟩ = some (.slice Ab lb.length cb) := by simpa using blk_cell hbkb 3
      have b4 : wc.cell? ⟨pb, 4, none⟩ = some (.int .i64 exb) := by simpa using blk_cell hbkb 4
      have bz : pb < wc.heap.size := blk_lt hbkb
      have HBbh := Lib.hid hbkb
      clear hbkb
      obtain ⟨csx, hbkx, rfl⟩ := HBx
      have x0 : wc.cell? ⟨px, 0, none⟩ = some (.bool nx) := by simpa using blk_cell hbkx 0
      have x1 : wc.cell? ⟨px, 1, none⟩ = some (.slice Ax lx.length cx) := by simpa using blk_cell hbkx 1
      have x2 : wc.cell? ⟨px, 2, none⟩ = some (.int .i64 xe) := by simpa using blk_cell hbkx 2
      have xz : px < wc.heap.size := blk_lt hbkx
      have HBxh := Lib.hid hbkx
      clear hbkx
      obtain ⟨csy, hbky, rfl⟩ := HBy
      have y0 : wc.cell? ⟨py, 0, none⟩ = some (.int .i64 f) := by simpa using blk_cell hbky 0
      have y1 : wc.cell? ⟨py, 1, none⟩ = some (.int .i64 1) := by simpa using blk_cell hbky 1
      have y2 : wc.cell? ⟨py, 2, none⟩ = some (.bool false) := by simpa using blk_cell hbky 2
      have y3 : wc.cell? ⟨py, 3, none⟩ = some (.slice Ay lb.length cy) := by simpa using blk_cell hbky 3
      have y4 : wc.cell? ⟨py, 4, none⟩ = some (.int .i64 exb) := by simpa using blk_cell hbky 4
      have yz : py < wc.heap.size := blk_lt hbky
      have HByh := Lib.hid hbky
      clear hbky
      go_wp2_with (first | fail | (go_at_call 30; (with_reducible refine (HV.out _ _ _ (HT.out.below bel) (Kd.C_below HXy.out.1 bel) HXy.out.2).mono ?_); rintro e w20 ⟨v20, rfl, hv20, b20⟩; obtain ⟨A20, c20, rfl⟩ := Kd.R_slice hv20; have HC20 := Lib.hid (R_C hv20); clear hv20; obtain ⟨hc20, hf20⟩ := bcell b20; have hz20 := below_size b20; (try simp at hz20); have zz20_0 : pb < w20.heap.size := (by omega); have zz20_1 : px < w20.heap.size := (by omega); have zz20_2 : py < w20.heap.size := (by omega)) | (go_at_call 11; (with_reducible refine (HSa.out _ (HT.out.below bel)).mono ?_); rintro e w21 ⟨rfl, b21⟩; obtain ⟨hc21, hf21⟩ := bcell b21; have hz21 := below_size b21; (try simp at hz21); have zz21_0 : pb < w21.heap.size := (by omega); have zz21_1 : px < w21.heap.size := (by omega); have zz21_2 : py < w21.heap.size := (by omega); have zz21_3 : w20.heap.size < w21.heap.size := (by omega)) | (go_at_call 38; (with_reducible refine (HSd.out _ _ _ _ _ (Kd.C_below HXx.out.1 bel) HXx.out.2 (Kd.C_below HC20.out.1 bel) HC20.out.2).mono ?_); rintro e w22 ⟨rfl, b22⟩; obtain ⟨hc22, hf22⟩ := bcell b22; have hz22 := below_size b22; (try simp at hz22); have zz22_0 : pb < w22.heap.size := (by omega); have zz22_1 : px < w22.heap.size := (by omega); have zz22_2 : py < w22.heap.size := (by omega); have zz22_3 : w20.heap.size < w22.heap.size := (by omega)) | (go_at_call 19; (with_reducible refine (HSb.out _ _ _ _ _ (Kd.C_below HXb.out.1 bel) HXb.out.2 (Kd.C_below HXy.out.1 bel) HXy.out.2).mono ?_); rintro e w23 ⟨rfl, b23⟩; obtain ⟨hc23, hf23⟩ := bcell b23; have hz23 := below_size b23; (try simp at hz23); have zz23_0 : pb < w23.heap.size := (by omega); have zz23_1 : px < w23.heap.size := (by omega); have zz23_2 : py < w23.heap.size := (by omega); have zz23_3 : w20.heap.size < w23.heap.size := (by omega)))
      all_goals
        go_ret
        exact ⟨by simp, bel⟩
end Go.Proofs.YtacnkcojhlbkoaaDoor
