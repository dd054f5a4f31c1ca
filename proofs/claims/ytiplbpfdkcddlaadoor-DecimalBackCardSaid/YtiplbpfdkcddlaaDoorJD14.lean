/- decimal: the trailing bits of both encodings. -/
import Derived.Test.YtiplbpfdkcddlaaDoorJD12
import Derived.Test.YtiplbpfdkcddlaaDoorJD13
set_option linter.unusedSimpArgs false
set_option linter.unusedVariables false
set_option linter.unnecessarySimpa false
namespace Go.Proofs.YtiplbpfdkcddlaaDoor
open Go.RowKit Go.Proofs.YtiplbpfdkcddlaaDoorW.PrintWords Go.Proofs.YtiplbpfdkcddlaaDoorW.PrintLast Go.Proofs.YtiplbpfdkcddlaaDoorW.PrintMore Go.Proofs.YtiplbpfdkcddlaaDoor.NL
set_option maxRecDepth 100000
set_option exponentiation.threshold 33000

/-- Two words without common bits, the lower one first. -/
theorem wjoin_low {M N k : Nat} {hi lo hi' lo' : Int} (w : World) (h : Wd M hi lo) (h' : Wd N hi' lo') (hn : M < 2 ^ k) (hm : N % 2 ^ k = 0) :
    Calls Tryd.prog 21 #[wV hi lo, wV hi' lo'] w (GivesW (M + N) w) := by
  have HV : Hid (Wd (M + N) (bits .or .u64 hi hi') (bits .or .u64 lo lo')) := Lib.hid (by
    have h3 := h'.or h hm hn
    obtain ⟨a0, a1, b0, b1, -⟩ := h
    obtain ⟨c0, c1, d0, d1, -⟩ := h'
    rw [Nat.add_comm]
    have e1 : bits .or .u64 hi hi' = bits .or .u64 hi' hi := by
      obtain ⟨x, rfl⟩ := Int.eq_ofNat_of_zero_le a0
      obtain ⟨y, rfl⟩ := Int.eq_ofNat_of_zero_le c0
      show bits .or .u64 (x : Int) (y : Int) = bits .or .u64 (y : Int) (x : Int)
      rw [u64_or_nat _ _ (by omega) (by omega), u64_or_nat _ _ (by omega) (by omega), Nat.or_comm]
    have e2 : bits .or .u64 lo lo' = bits .or .u64 lo' lo := by
      obtain ⟨x, rfl⟩ := Int.eq_ofNat_of_zero_le b0
      obtain ⟨y, rfl⟩ := Int.eq_ofNat_of_zero_le d0
      show bits .or .u64 (x : Int) (y : Int) = bits .or .u64 (y : Int) (x : Int)
      rw [u64_or_nat _ _ (by omega) (by omega), u64_or_nat _ _ (by omega) (by omega), Nat.or_comm]
    rw [e1, e2]; exact h3)
  obtain ⟨a0, a1, b0, b1, -⟩ := h
  obtain ⟨c0, c1, d0, d1, -⟩ := h'
  go_enter Tryd.func21, Tryd.ntmps21
  go_wp2
  try go_region
  try go_wp2
  exact bodyPost_ret (v := wV (bits .or .u64 hi hi') (bits .or .u64 lo lo')) (by simp [results, Tryd.results21, go_sem]) rfl ⟨_, _, rfl, HV, bel⟩
set_option maxHeartbeats 4000000 in
theorem ptrail_any {x : Nat} {P L H W T : Int} {A : Option Addr} {n c : Nat} (w : World) (hA : Kd.C (Kd.int .u32) w A n (ofN x)) (hc : n ≤ c) (hx : x < 2 ^ 128) :
    Calls Tryd.prog 114 #[.agg #[], fV P L H W T, .slice A n c] w (GivesW x w) := by
  have HC := Lib.hid hA
  have HWo := Lib.hid fun w' (h : Kd.C (Kd.int .u32) w' A n (ofN x)) => dwordOf_any w' h hc hx
  clear hA
  go_enter Tryd.func114, Tryd.ntmps114
  go_wp2_with (first | fail | (go_at_call 115; (with_reducible refine (HWo.out _ (Kd.C_below HC.out bel)).mono ?_); rintro r w1 ⟨hi1, lo1, rfl, hw1, b1⟩; obtain ⟨hc1, hf1⟩ := bcell b1; have hz1 := below_size b1; (try simp at hz1); have zz1_0 : w.heap.size < w1.heap.size := (by omega)))
  all_goals exact bodyPost_ret (v := wV hi1 lo1) (by simp [results, Tryd.results114, go_sem, *]) rfl ⟨_, _, rfl, hw1, bel⟩
theorem trail_128 {j x : Nat} (h : j ≤ 11) : trailV j x < 2 ^ (10 * j) ∧ 2 ^ (10 * j) ≤ 2 ^ 110 := by
  have h1 := trailV_lt j x
  rw [show (1024 : Nat) = 2 ^ 10 from rfl, ← Nat.pow_mul] at h1
  exact ⟨h1, Nat.pow_le_pow_right (by decide) (by omega)⟩
set_option maxHeartbeats 8000000 in
theorem ttrail_any {x k : Nat} {P L H W : Int} {A : Option Addr} {n c : Nat} (w : World) (hA : Kd.C (Kd.int .u32) w A n (ofN x)) (hc : n ≤ c) (hx : x < 2 ^ 128) (hk : k ≤ 11) :
    Calls Tryd.prog 109 #[.agg #[], fV P L H W (10 * k : Nat), .slice A n c] w (GivesW (trailV k x) w) := by
  have HC := Lib.hid hA
  have hx2 : x < 2 ^ 240 := Nat.lt_trans hx (Nat.pow_lt_pow_right (by decide) (by decide))
  go_enter Tryd.func109, Tryd.ntmps109
  go_wp2
  go_loopw [2, 8] (fun v2 v8 wr => ∃ (j : Nat) (B : Option Addr) (m d : Nat) (thi tlo : Int), j ≤ k ∧ v8 = .int .i64 (10 * (j : Int)) ∧ v2 = .slice B m d ∧ Hid (Kd.C (Kd.int .u32) wr B m (ofN (x / 1000 ^ j)) ∧ m ≤ d) ∧ Hid (Wd (trailV j x) thi tlo) ∧ BlkIs wr (w.heap.size + 1) 55 (· = #[.int .i64 P, .int .i64 L, .int .i64 H, .int .i64 W, .int .i64 (10 * k : Nat)]) ∧ BlkIs wr (w.heap.size + 1 + 1) 59 (· = #[.int .u64 0, .int .u64 0]) ∧ BlkIs wr (w.heap.size + 1 + 1 + 1) 59 (· = #[.int .u64 thi, .int .u64 tlo]) ∧ Below w.heap.size w wr) (fun v2 v8 _ => (10 * k + 10 - (intOf v8).toNat))
  case atStart => exact ⟨0, A, n, c, 0, 0, by omega, rfl, rfl, Lib.hid ⟨by rw [Nat.pow_zero, Nat.div_one]; exact Kd.C_below HC.out bel, hc⟩, Lib.hid ⟨by decide, by decide, by decide, by decide, rfl⟩, blk0, blk0, blk0, bel⟩
  case round =>
    obtain ⟨j, B, m, d, thi, tlo, hj, rfl, rfl, HR, HWt, HB4, HB6, HB7, hbw⟩ := hrel
    obtain ⟨cs4, hbk4, rfl⟩ := HB4
    obtain ⟨cs6, hbk6, rfl⟩ := HB6
    obtain ⟨cs7, hbk7, rfl⟩ := HB7
    have q_0 : wr.cell? ⟨(w.heap.size + 1), 0, none⟩ = some (.int .i64 P) := by simpa using blk_cell hbk4 0
    have q_1 : wr.cell? ⟨(w.heap.size + 1), 1, none⟩ = some (.int .i64 L) := by simpa using blk_cell hbk4 1
    have q_2 : wr.cell? ⟨(w.heap.size + 1), 2, none⟩ = some (.int .i64 H) := by simpa using blk_cell hbk4 2
    have q_3 : wr.cell? ⟨(w.heap.size + 1), 3, none⟩ = some (.int .i64 W) := by simpa using blk_cell hbk4 3
    have q_4 : wr.cell? ⟨(w.heap.size + 1), 4, none⟩ = some (.int .i64 (10 * k : Nat)) := by simpa using blk_cell hbk4 4
    have q_z : (w.heap.size + 1) < wr.heap.size := blk_lt hbk4
    have s_0 : wr.cell? ⟨(w.heap.size + 1 + 1), 0, none⟩ = some (.int .u64 0) := by simpa using blk_cell hbk6 0
    have s_f0 : wr.frozen? ⟨(w.heap.size + 1 + 1), 0, none⟩ = false := blk_frozen hbk6 0
    have s_1 : wr.cell? ⟨(w.heap.size + 1 + 1), 1, none⟩ = some (.int .u64 0) := by simpa using blk_cell hbk6 1
    have s_f1 : wr.frozen? ⟨(w.heap.size + 1 + 1), 1, none⟩ = false := blk_frozen hbk6 1
    have s_z : (w.heap.size + 1 + 1) < wr.heap.size := blk_lt hbk6
    have t_0 : wr.cell? ⟨(w.heap.size + 1 + 1 + 1), 0, none⟩ = some (.int .u64 thi) := by simpa using blk_cell hbk7 0
    have t_1 : wr.cell? ⟨(w.heap.size + 1 + 1 + 1), 1, none⟩ = some (.int .u64 tlo) := by simpa using blk_cell hbk7 1
    have t_z : (w.heap.size + 1 + 1 + 1) < wr.heap.size := blk_lt hbk7
    by_cases h0 : j = k
    · subst h0
      have d0 : decide (10 * (j : Int) < ((10 * j : Nat) : Int)) = false := decide_eq_false (by omega)
      have d1 : decide (10 * (j : Int) < (10 * (j : Int))) = false := decide_eq_false (by omega)
      go_wp2
      all_goals exact bodyPost_ret (v := wV thi tlo) (by simp [results, Tryd.results109, go_sem, *]) rfl ⟨_, _, rfl, HWt, bel⟩
    · have d0 : decide (10 * (j : Int) < ((10 * k : Nat) : Int)) = true := decide_eq_true (by omega)
      have d1 : decide (10 * (j : Int) < (10 * (k : Int))) = true := decide_eq_true (by omega)
      have hs := trail_step j x
      obtain ⟨g1, g2⟩ := trail_128 (x := x) (show j ≤ 11 by omega)
      have hX : x / 1000 ^ j < 2 ^ 240 := Nat.lt_of_le_of_lt (Nat.div_le_self _ _) hx2
      have hXm : x / 1000 ^ j % 1000 < 1000 := Nat.mod_lt _ (by decide)
      have hpk := (pkd_ok hXm).2
      have hp10 : 1024 ^ j = 2 ^ (10 * j) := by rw [show (1024 : Nat) = 2 ^ 10 from rfl, ← Nat.pow_mul]
      have hp128 : pkd (x / 1000 ^ j % 1000) * 2 ^ (10 * j) < 2 ^ 128 := by
        have h1 : pkd (x / 1000 ^ j % 1000) * 2 ^ (10 * j) ≤ 1023 * 2 ^ 110 := Nat.mul_le_mul hpk g2
        have h2 : 1023 * 2 ^ 110 < 2 ^ 128 := by decide +kernel
        omega
      have HDi : Hid (∀ A n c A' w', Kd.C (Kd.int .u32) w' A n (ofN (x / 1000 ^ j)) → n ≤ c → Kd.C (Kd.int .u32) w' A' 1 (ofN 1000) → Calls Tryd.prog 38 #[.slice A n c, .slice A' 1 1] w' (NumErr2 (ofN (x / 1000 ^ (j + 1))) (ofN (x / 1000 ^ j % 1000)) 0 w')) := Lib.hid fun A n c A' w' g1 g2 g3 => by
        have := n_div w' g1 g2 g3 (Nat.le_refl 1) hX (Nat.lt_of_lt_of_le (show 1000 < 2 ^ 10 by decide) (Nat.pow_le_pow_right (by decide) (by decide))) (by decide)
        rwa [Nat.div_div_eq_div_mul, ← Nat.pow_succ] at this
      have HTo := Lib.hid fun A n c w' (h : Kd.C (Kd.int .u32) w' A n (ofN (x / 1000 ^ j % 1000))) (h2 : n ≤ c) => n_uint w' h h2 (show x / 1000 ^ j % 1000 < 2 ^ 64 by omega)
      have HPk := Lib.hid fun w' => packed_any (n := x / 1000 ^ j % 1000) w' (by omega)
      have HLf : Hid (∀ w', Calls Tryd.prog 22 #[wV 0 (pkd (x / 1000 ^ j % 1000) : Nat), .int .i64 (10 * (j : Int))] w' (GivesW (pkd (x / 1000 ^ j % 1000) * 2 ^ (10 * j)) w')) := Lib.hid fun w' => by
        have := wleft_any (10 * j) w' (show Wd (pkd (x / 1000 ^ j % 1000)) 0 (pkd (x / 1000 ^ j % 1000) : Nat) from ⟨by omega, by omega, by omega, by omega, by omega⟩) (by omega)
        rwa [Nat.mod_eq_of_lt hp128, Int.natCast_mul] at this
      have HJ : Hid (∀ h1 l1 h2 l2 w', Hid (Wd (trailV j x) h1 l1) → Hid (Wd (pkd (x / 1000 ^ j % 1000) * 2 ^ (10 * j)) h2 l2) → Calls Tryd.prog 21 #[wV h1 l1, wV h2 l2] w' (GivesW (trailV (j + 1) x) w')) := Lib.hid fun h1 l1 h2 l2 w' g5 g6 => by
        rw [hs, hp10]; exact wjoin_low w' g5.out g6.out g1 (Nat.mul_mod_left _ _)
      clear hs hp10 hp128 g1 g2 hX
      generalize x / 1000 ^ j % 1000 = y at *
      have hcv : IntKind.i64.wrap (y : Int) = (y : Int) := by rw [IntKind.wrap_i64]; omega
      have hcu : IntKind.u64.wrap (pkd y : Int) = (pkd y : Int) := by rw [IntKind.wrap_u64]; omega
      generalize pkd y = z at *
      generalize trailV j x = T0 at *
      go_upto_region 8 with (first | fail | (go_at_call 38; (with_reducible refine (HDi.out _ _ _ _ _ (Kd.C_below HR.out.1 bel) HR.out.2 (thou_C _)).mono ?_); rintro r w1 ⟨v1, u1, rfl, hv1, hu1, b1⟩; obtain ⟨A1, c1, rfl⟩ := Kd.R_slice hv1; obtain ⟨E1, d1, rfl⟩ := Kd.R_slice hu1; have HV1 := Lib.hid (R_C hv1); have HU1 := Lib.hid (R_C hu1); clear hv1 hu1; obtain ⟨hc1, hf1⟩ := bcell b1; have hz1 := below_size b1; (try simp at hz1); have zz1_0 : w.heap.size + 1 + 1 + 1 < w1.heap.size := (by omega)) | (go_at_call 110; (with_reducible refine (HTo.out _ _ _ _ (Kd.C_below HU1.out.1 bel) HU1.out.2).mono ?_); rintro r w2 ⟨rfl, rfl⟩))
      have HB4' : BlkIs w1 (w.heap.size + 1) 55 (· = #[.int .i64 P, .int .i64 L, .int .i64 H, .int .i64 W, .int .i64 (10 * k : Nat)]) := blk1
      have HB6' : BlkIs w1 (w.heap.size + 1 + 1) 59 (· = #[.int .u64 0, .int .u64 0]) := blk1
      have HB7' : BlkIs w1 (w.heap.size + 1 + 1 + 1) 59 (· = #[.int .u64 thi, .int .u64 tlo]) := blk1
      have hbw1 : Below w.heap.size w w1 := bel
      clear q_0 q_1 q_2 q_3 q_4 q_z s_0 s_1 s_f0 s_f1 s_z t_0 t_1 t_z hbk4 hbk6 hbk7 hc1 hf1 hz1 zz1_0 b1
      obtain ⟨cs4, hbk4, rfl⟩ := HB4'
      obtain ⟨cs6, hbk6, rfl⟩ := HB6'
      obtain ⟨cs7, hbk7, rfl⟩ := HB7'
      have t_0 : w1.cell? ⟨(w.heap.size + 1 + 1 + 1), 0, none⟩ = some (.int .u64 thi) := by simpa using blk_cell hbk7 0
      have t_f0 : w1.frozen? ⟨(w.heap.size + 1 + 1 + 1), 0, none⟩ = false := blk_frozen hbk7 0
      have t_1 : w1.cell? ⟨(w.heap.size + 1 + 1 + 1), 1, none⟩ = some (.int .u64 tlo) := by simpa using blk_cell hbk7 1
      have t_f1 : w1.frozen? ⟨(w.heap.size + 1 + 1 + 1), 1, none⟩ = false := blk_frozen hbk7 1
      have t_z : (w.heap.size + 1 + 1 + 1) < w1.heap.size := blk_lt hbk7
      have HWc := HWt
      go_region_with (first | (go_at_call 16; (try rw [hcv]); (with_reducible refine (HPk.out _).mono ?_); rintro r w10 ⟨rfl, b10⟩; obtain ⟨hc10, hf10⟩ := bcell b10; (try simp only [dr_size, dr_cell] at hc10); (try simp only [dr_size, dr_frozen] at hf10); have hz10 := below_size b10; (try simp at hz10); have zz10_0 : w.heap.size + 1 + 1 + 1 < w10.heap.size := (by omega); (try have zA10 : w1.heap.size < w10.heap.size := (by omega))) | (go_at_call 22; (try rw [hcu]); (with_reducible refine (HLf.out _).mono ?_); rintro r w11 ⟨hi11, lo11, rfl, hw11, b11⟩; obtain ⟨hc11, hf11⟩ := bcell b11; (try simp only [dr_size, dr_cell] at hc11); (try simp only [dr_size, dr_frozen] at hf11); have hz11 := below_size b11; (try simp at hz11); have zz11_0 : w.heap.size + 1 + 1 + 1 < w11.heap.size := (by omega)) | (go_at_call 21; (with_reducible refine (HJ.out _ _ _ _ _ HWc hw11).mono ?_); rintro r w12 ⟨hi12, lo12, rfl, hw12, b12⟩; obtain ⟨hc12, hf12⟩ := bcell b12; (try simp only [dr_size, dr_cell] at hc12); (try simp only [dr_size, dr_frozen] at hf12); have hz12 := below_size b12; (try simp at hz12); have zz12_0 : w.heap.size + 1 + 1 + 1 < w12.heap.size := (by omega)))
      all_goals
        go_wp2_with fail
        refine ⟨?_, ?measure⟩
        repeat apply Exists.intro
        refine ⟨?rel, rfl⟩
        case rel => exact ⟨j + 1, _, _, _, _, _, by omega, by first | rfl | (simp; done) | (simp; omega), rfl, Lib.hid ⟨C_keeps HV1.out.1 (KeepsU.trans (B := w12) (KeepsU.below bel) (KeepsU.word (x := thi) (y := tlo) (kp_below t_0 bel) (kp_below t_1 bel))), HV1.out.2⟩, hw12, blk1, blk1, blk1, bel⟩
        case measure => simp [intOf]; omega
end Go.Proofs.YtiplbpfdkcddlaaDoor
