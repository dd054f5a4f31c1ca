/- decimal.Decode of what has an error: its walk. decimal.Decode of a finite datum in the packed encoding: what it returns. decimal: the bits of data as plain numbers: what is written is read, what is read is written. decimal: what bits mean, and the bits of a datum, as plain numbers: each undoes the other one. decimal.Check: what it returns. -/
import Derived.Test.YtiplbpfdkcddlaaDoorJD11
set_option linter.unusedSimpArgs false
set_option linter.unusedVariables false
set_option linter.unnecessarySimpa false
namespace Go.Proofs.YtiplbpfdkcddlaaDoor
open Go.RowKit Go.Proofs.YtiplbpfdkcddlaaDoorW.PrintWords Go.Proofs.YtiplbpfdkcddlaaDoorW.PrintLast Go.Proofs.YtiplbpfdkcddlaaDoorW.PrintMore Go.Proofs.YtiplbpfdkcddlaaDoor.NL
set_option maxRecDepth 100000
set_option exponentiation.threshold 33000

set_option maxHeartbeats 16000000 in
theorem dec_err1 {fm enc P L H hi lo h2 l2 : Int} {wn tn s : Nat} {te : TypeId} {v : Value} (w : World)
    (HFo : Hid (∀ w', Calls Tryd.prog 19 #[.int .i64 fm] w' fun r w'' => r = .returned (.tuple #[fV 0 0 0 0 0, .bool false]) ∧ Below w'.heap.size w' w''))
    (HEn : Hid (∀ w', Calls Tryd.prog 18 #[.int .i64 enc] w' fun r w'' => r = .returned v ∧ Below w'.heap.size w' w'')) :
    Calls Tryd.prog 10 #[.int .i64 fm, .int .i64 enc, .agg #[.int .u64 hi, .int .u64 lo]] w fun r w' => r = .returned (.tuple #[.agg #[.int .i64 0, .int .i64 0, .bool false, .slice none 0 0, .int .i64 0], .bool false, .int .i64 1]) ∧ Below w.heap.size w w' := by
  go_enter Tryd.func10, Tryd.ntmps10
  go_wp2_with (first | fail | (go_at_call 19; (with_reducible refine (HFo.out _).mono ?_); rintro r w1 ⟨rfl, b1⟩; obtain ⟨hc1, hf1⟩ := bcell b1; have hz1 := below_size b1; (try simp at hz1); have zz1_0 : w.heap.size < w1.heap.size := (by omega); have zz1_1 : w.heap.size + 1 < w1.heap.size := (by omega)) | (go_at_call 18; (with_reducible refine (HEn.out _).mono ?_); rintro r w2 ⟨rfl, b2⟩; obtain ⟨hc2, hf2⟩ := bcell b2; have hz2 := below_size b2; (try simp at hz2); have zz2_0 : w.heap.size < w2.heap.size := (by omega); have zz2_1 : w.heap.size + 1 < w2.heap.size := (by omega); have zz2_2 : w1.heap.size < w2.heap.size := (by omega)))
  go_quiet (fail)
  go_wp2_with fail
  all_goals exact bodyPost_ret (v := .tuple #[.agg #[.int .i64 0, .int .i64 0, .bool false, .slice none 0 0, .int .i64 0], .bool false, .int .i64 1]) (by simp [results, Tryd.results10, go_sem, *]) rfl ⟨rfl, bel⟩
set_option maxHeartbeats 16000000 in
theorem dec_err2 {fm enc P L H hi lo h2 l2 : Int} {wn tn s : Nat} {te : TypeId} {v : Value} (w : World)
    (HFo : Hid (∀ w', Below w.heap.size w w' → Calls Tryd.prog 19 #[.int .i64 fm] w' fun r w'' => r = .returned (.tuple #[fV P L H (wn : Nat) (tn : Nat), .bool true]) ∧ Below w'.heap.size w' w'')) (hwn : wn ≤ 12) (htn : tn ≤ 110)
    (HEn : Hid (∀ w', Calls Tryd.prog 18 #[.int .i64 enc] w' fun r w'' => r = .returned .nilIface ∧ Below w'.heap.size w' w'')) :
    Calls Tryd.prog 10 #[.int .i64 fm, .int .i64 enc, .agg #[.int .u64 hi, .int .u64 lo]] w fun r w' => r = .returned (.tuple #[.agg #[.int .i64 0, .int .i64 0, .bool false, .slice none 0 0, .int .i64 0], .bool false, .int .i64 1]) ∧ Below w.heap.size w w' := by
  go_enter Tryd.func10, Tryd.ntmps10
  go_wp2_with (first | fail | (go_at_call 19; (with_reducible refine (HFo.out _ bel).mono ?_); rintro r w1 ⟨rfl, b1⟩; obtain ⟨hc1, hf1⟩ := bcell b1; have hz1 := below_size b1; (try simp at hz1); have zz1_0 : w.heap.size < w1.heap.size := (by omega); have zz1_1 : w.heap.size + 1 < w1.heap.size := (by omega)) | (go_at_call 18; (with_reducible refine (HEn.out _).mono ?_); rintro r w2 ⟨rfl, b2⟩; obtain ⟨hc2, hf2⟩ := bcell b2; have hz2 := below_size b2; (try simp at hz2); have zz2_0 : w.heap.size < w2.heap.size := (by omega); have zz2_1 : w.heap.size + 1 < w2.heap.size := (by omega); have zz2_2 : w1.heap.size < w2.heap.size := (by omega)))
  go_quiet (fail)
  go_wp2_with fail
  all_goals exact bodyPost_ret (v := .tuple #[.agg #[.int .i64 0, .int .i64 0, .bool false, .slice none 0 0, .int .i64 0], .bool false, .int .i64 1]) (by simp [results, Tryd.results10, go_sem, *]) rfl ⟨rfl, bel⟩
set_option maxHeartbeats 16000000 in
theorem dec_err3 {fm enc P L H hi lo h2 l2 : Int} {wn tn s : Nat} {te : TypeId} {v : Value} (w : World)
    (HFo : Hid (∀ w', Below w.heap.size w w' → Calls Tryd.prog 19 #[.int .i64 fm] w' fun r w'' => r = .returned (.tuple #[fV P L H (wn : Nat) (tn : Nat), .bool true]) ∧ Below w'.heap.size w' w'')) (hwn : wn ≤ 12) (htn : tn ≤ 110)
    (HEn : Hid (∀ w', Calls Tryd.prog 18 #[.int .i64 enc] w' fun r w'' => r = .returned (.iface te v) ∧ Below w'.heap.size w' w''))
    (hs1 : Hid (s = 1 + wn + 5 + tn)) (hwn : wn ≤ 12) (htn : tn ≤ 110)
    (HLs : Hid (∀ w', Calls Tryd.prog 23 #[wV hi lo, .int .i64 (s : Nat)] w' fun r w'' => r = .returned (wV h2 l2) ∧ Below w'.heap.size w' w'')) (hne : (h2 == hi && (l2 == lo)) = false) :
    Calls Tryd.prog 10 #[.int .i64 fm, .int .i64 enc, .agg #[.int .u64 hi, .int .u64 lo]] w fun r w' => r = .returned (.tuple #[.agg #[.int .i64 0, .int .i64 0, .bool false, .slice none 0 0, .int .i64 0], .bool false, .int .i64 1]) ∧ Below w.heap.size w w' := by
  have hEq := fun d w => (eqWd d w h2 hi l2 lo).trans (by rw [hne])
  clear hne
  go_enter Tryd.func10, Tryd.ntmps10
  go_upto_region 4 with (first | fail | (go_at_call 19; (with_reducible refine (HFo.out _ bel).mono ?_); rintro r w1 ⟨rfl, b1⟩; obtain ⟨hc1, hf1⟩ := bcell b1; have hz1 := below_size b1; (try simp at hz1); have zz1_0 : w.heap.size < w1.heap.size := (by omega); have zz1_1 : w.heap.size + 1 < w1.heap.size := (by omega)) | (go_at_call 18; (with_reducible refine (HEn.out _).mono ?_); rintro r w2 ⟨rfl, b2⟩; obtain ⟨hc2, hf2⟩ := bcell b2; have hz2 := below_size b2; (try simp at hz2); have zz2_0 : w.heap.size < w2.heap.size := (by omega); have zz2_1 : w.heap.size + 1 < w2.heap.size := (by omega); have zz2_2 : w1.heap.size < w2.heap.size := (by omega)))
  go_cut [6, 7, 8, 9, 10, 11, 12, 13] (fun v_6 v_7 v_8 v_9 v_10 v_11 v_12 v_13 wx => ∃ (p9 p12 : Nat), v_6 = .pointer (some ⟨(w.heap.size + 1), 0, none⟩) ∧ BlkIs wx (w.heap.size + 1) 34 (· = #[.int .i64 0, .int .i64 0, .bool false, .slice none 0 0, .int .i64 0]) ∧ v_7 = .bool false ∧ v_8 = .int .i64 0 ∧ v_9 = .pointer (some ⟨p9, 0, none⟩) ∧ BlkIs wx p9 55 (· = #[.int .i64 P, .int .i64 L, .int .i64 H, .int .i64 (wn : Nat), .int .i64 (tn : Nat)]) ∧ v_10 = .bool true ∧ v_11 = .iface te v ∧ v_12 = .pointer (some ⟨p12, 0, none⟩) ∧ BlkIs wx p12 59 (· = #[.int .u64 hi, .int .u64 lo]) ∧ v_13 = .int .i64 (s : Nat) ∧ w.heap.size + 1 < p9 ∧ Below w.heap.size w wx)
  case first =>
    go_wp2_with (first | fail)
    go_meet
    exact ⟨_, _, rfl, blk0, (by first | rfl | (simp; done)), (by first | rfl | (simp; done)), rfl, blk0, (by first | rfl | (simp; done)), (by first | rfl | (simp; done)), rfl, blk0, (by first | rfl | (simp; done) | (rw [hs1.out]; simp; done) | (rw [hs1.out]; simp; omega)), (by first | assumption | omega | (simp; done) | (simp; omega)), bel⟩
  case rest =>
    skip
    obtain ⟨p9, p12, rfl, HB6, rfl, rfl, rfl, HB9, rfl, rfl, rfl, HB12, rfl, hp9, hbw⟩ := hcut
    obtain ⟨cs6, hbk6, rfl⟩ := HB6
    obtain ⟨cs9, hbk9, rfl⟩ := HB9
    obtain ⟨cs12, hbk12, rfl⟩ := HB12
    have f6_0 : wc.cell? ⟨(w.heap.size + 1), 0, none⟩ = some (.int .i64 0) := by simpa using blk_cell hbk6 0
    have f6_f0 : wc.frozen? ⟨(w.heap.size + 1), 0, none⟩ = false := blk_frozen hbk6 0
    have f6_1 : wc.cell? ⟨(w.heap.size + 1), 1, none⟩ = some (.int .i64 0) := by simpa using blk_cell hbk6 1
    have f6_f1 : wc.frozen? ⟨(w.heap.size + 1), 1, none⟩ = false := blk_frozen hbk6 1
    have f6_2 : wc.cell? ⟨(w.heap.size + 1), 2, none⟩ = some (.bool false) := by simpa using blk_cell hbk6 2
    have f6_f2 : wc.frozen? ⟨(w.heap.size + 1), 2, none⟩ = false := blk_frozen hbk6 2
    have f6_3 : wc.cell? ⟨(w.heap.size + 1), 3, none⟩ = some (.slice none 0 0) := by simpa using blk_cell hbk6 3
    have f6_f3 : wc.frozen? ⟨(w.heap.size + 1), 3, none⟩ = false := blk_frozen hbk6 3
    have f6_4 : wc.cell? ⟨(w.heap.size + 1), 4, none⟩ = some (.int .i64 0) := by simpa using blk_cell hbk6 4
    have f6_f4 : wc.frozen? ⟨(w.heap.size + 1), 4, none⟩ = false := blk_frozen hbk6 4
    have f6_z : (w.heap.size + 1) < wc.heap.size := blk_lt hbk6
    have f9_0 : wc.cell? ⟨p9, 0, none⟩ = some (.int .i64 P) := by simpa using blk_cell hbk9 0
    have f9_1 : wc.cell? ⟨p9, 1, none⟩ = some (.int .i64 L) := by simpa using blk_cell hbk9 1
    have f9_2 : wc.cell? ⟨p9, 2, none⟩ = some (.int .i64 H) := by simpa using blk_cell hbk9 2
    have f9_3 : wc.cell? ⟨p9, 3, none⟩ = some (.int .i64 (wn : Nat)) := by simpa using blk_cell hbk9 3
    have f9_4 : wc.cell? ⟨p9, 4, none⟩ = some (.int .i64 (tn : Nat)) := by simpa using blk_cell hbk9 4
    have f9_z : p9 < wc.heap.size := blk_lt hbk9
    have f12_0 : wc.cell? ⟨p12, 0, none⟩ = some (.int .u64 hi) := by simpa using blk_cell hbk12 0
    have f12_1 : wc.cell? ⟨p12, 1, none⟩ = some (.int .u64 lo) := by simpa using blk_cell hbk12 1
    have f12_z : p12 < wc.heap.size := blk_lt hbk12
    go_wp2_with fail
    go_region_held3 (fun w' => Below (wc).heap.size (wc) w' ∧ ∀ b o, b < (wc).heap.size → w'.cell? ⟨b, o, none⟩ = (wc).cell? ⟨b, o, none⟩) (first | ((try go_split_ands); refine below_S ?_; ((repeat (first | with_reducible assumption | with_reducible exact Below.refl _ _ | with_reducible refine below_alloc ?_ _ | with_reducible refine pw_below_drewN ?_ _ | with_reducible refine below_drew1 ?_ | ((with_reducible refine below_set ?_ ?hle); (case hle => first | (simp; done) | omega | (simp; omega))) | with_reducible refine below_step ?_ (by with_reducible assumption))); done))) (first | (go_at_call 23; (with_reducible refine (HLs.out _).mono ?_); rintro r w10 ⟨rfl, b10⟩; obtain ⟨hc10, hf10⟩ := bcell b10; (try simp only [dr_size, dr_cell] at hc10); (try simp only [dr_size, dr_frozen] at hf10); have hz10 := below_size b10; (try simp at hz10); have zz10_0 : w.heap.size + 1 < w10.heap.size := (by omega); have zz10_1 : p9 < w10.heap.size := (by omega); have zz10_2 : p12 < w10.heap.size := (by omega)))
    all_goals
      go_wp2_with fail
      all_goals exact bodyPost_ret (v := .tuple #[.agg #[.int .i64 0, .int .i64 0, .bool false, .slice none 0 0, .int .i64 0], .bool false, .int .i64 1]) (by simp [results, Tryd.results10, go_sem, *]) rfl ⟨rfl, bel⟩
end Go.Proofs.YtiplbpfdkcddlaaDoor

set_option linter.unusedSimpArgs false
set_option linter.unusedVariables false
set_option linter.unnecessarySimpa false
namespace Go.Proofs.YtiplbpfdkcddlaaDoor
open Go.RowKit Go.Proofs.YtiplbpfdkcddlaaDoorW.PrintWords Go.Proofs.YtiplbpfdkcddlaaDoorW.PrintLast Go.Proofs.YtiplbpfdkcddlaaDoorW.PrintMore Go.Proofs.YtiplbpfdkcddlaaDoor.NL
set_option maxRecDepth 100000
set_option exponentiation.threshold 33000

def wnN (f : Int) : Nat := if f = 6 then 6 else if f = 7 then 8 else 12
def kN (f : Int) : Nat := if f = 6 then 2 else if f = 7 then 5 else 11
def tnN (f : Int) : Nat := 10 * kN f
def sN (f : Int) : Nat := 1 + wnN f + 5 + tnN f
def pN (f : Int) : Nat := if f = 6 then 6 else if f = 7 then 15 else 33
theorem dec_nums {f : Int} (hf : isDec f = true) : dW f = (wnN f : Nat) ∧ dT f = (tnN f : Nat) ∧ dP f = (pN f : Nat) + 1 ∧ wnN f ≤ 12 ∧ kN f ≤ 11 ∧ 0 < pN f ∧ pN f ≤ 33 ∧ -100000 ≤ dL f ∧ dL f ≤ 0 ∧ sN f ≤ 128 ∧ wnN f + 5 ≤ 63 := by
  rcases dec_cases hf with rfl | rfl | rfl <;> decide
/-- The combination, the trailing bits and the sign of bits. -/
def gN (f : Int) (N : Nat) : Nat := N / 2 ^ tnN f % 2 ^ (wnN f + 5)
def lN (f : Int) (N : Nat) : Nat := N % 2 ^ tnN f
def sgN (f : Int) (N : Nat) : Nat := N / 2 ^ (sN f - 1) % 2
theorem wd_eq {N : Nat} {hi lo hi' lo' : Int} (h : Wd N hi lo) (h' : Wd N hi' lo') : hi' = hi ∧ lo' = lo := by
  obtain ⟨a0, a1, b0, b1, e⟩ := h
  obtain ⟨c0, c1, d0, d1, e'⟩ := h'
  omega
theorem meth_num : ∀ w : World, (method 254 83 (.agg #[]) "soroban/decimal.number").run Tryd.prog w = .ok (107, .agg #[]) w := fun _ => by kernel_rfl
theorem decode_packed {f hi lo : Int} {N : Nat} (w : World) (hT : Tab w) (hf : isDec f = true) (hw : Wd N hi lo) (hN : N < 2 ^ sN f) (h30 : gN f N / 2 ^ wnN f ≠ 30) (h31 : gN f N / 2 ^ wnN f ≠ 31) :
    Calls Tryd.prog 10 #[.int .i64 f, .int .i64 1, .agg #[.int .u64 hi, .int .u64 lo]] w fun r w' => ∃ u, r = .returned (.tuple #[.agg #[.int .i64 f, .int .i64 1, .bool ((sgN f N : Int) == 1), u, .int .i64 (dL f + (decE (gN f N) (wnN f) : Nat))], .bool (payC (lN f N) (kN f)), .int .i64 0]) ∧ Kd.R (Kd.int .u32) 46 w' w.heap.size (fun _ => True) u (ofN (decD (gN f N) (wnN f) * 10 ^ pN f + payV (lN f N) (kN f))) ∧ Below w.heap.size w w' := by
  obtain ⟨n1, n2, n3, n4, n5, n6, n7, n8, n9, n10, n11⟩ := dec_nums hf
  have hs0 : sN f = 1 + wnN f + 5 + tnN f := rfl
  have htn : tnN f ≤ 110 := by unfold tnN; omega
  have HFo : Hid (∀ w', Tab w' → Calls Tryd.prog 19 #[.int .i64 f] w' fun r w'' => r = .returned (.tuple #[fV (dP f) (dL f) (dH f) (wnN f : Nat) (tnN f : Nat), .bool true]) ∧ Below w'.heap.size w' w'') := Lib.hid fun w' h => by
    have := formatOf_ok w' hf h
    rwa [n1, n2] at this
  have HLs : Hid (∀ w', Calls Tryd.prog 23 #[wV hi lo, .int .i64 (sN f : Nat)] w' fun r w'' => r = .returned (wV hi lo) ∧ Below w'.heap.size w' w'') := Lib.hid fun w' => by
    refine (wlow_any (sN f) w' hw n10).mono ?_
    rintro r w'' ⟨hi', lo', rfl, hw', hb⟩
    have h2 := hw'.out
    rw [Nat.mod_eq_of_lt hN] at h2
    obtain ⟨rfl, rfl⟩ := wd_eq hw h2
    exact ⟨rfl, hb⟩
  have HF1 : Hid (∀ g w', w'.cell? ⟨g, 0, none⟩ = some (.int .u64 hi) → w'.cell? ⟨g, 1, none⟩ = some (.int .u64 lo) → Calls Tryd.prog 24 #[.int .i64 (tnN f : Nat), .int .i64 ((wnN f : Int) + 5), .pointer (some ⟨g, 0, none⟩)] w' fun r w'' => r = .returned (.int .u64 (gN f N : Nat)) ∧ Below w'.heap.size w' w'') := Lib.hid fun g w' h0 h1 => by
    have := fld_any (from_ := tnN f) (many := wnN f + 5) w' hw (by omega) n11 h0 h1
    rwa [Int.natCast_add] at this
  have HF2 : Hid (∀ g w', w'.cell? ⟨g, 0, none⟩ = some (.int .u64 hi) → w'.cell? ⟨g, 1, none⟩ = some (.int .u64 lo) → Calls Tryd.prog 24 #[.int .i64 ((sN f : Int) - 1), .int .i64 1, .pointer (some ⟨g, 0, none⟩)] w' fun r w'' => r = .returned (.int .u64 (sgN f N : Nat)) ∧ Below w'.heap.size w' w'') := Lib.hid fun g w' h0 h1 => by
    have := fld_any (from_ := sN f - 1) (many := 1) w' hw (by omega) (by decide) h0 h1
    rwa [show ((sN f - 1 : Nat) : Int) = (sN f : Int) - 1 by omega] at this
  have c1 : ((gN f N : Int) / 2 ^ wnN f == 30) = false := beq_eq_false_iff_ne.mpr (by rw [cast_div]; exact fun h => h30 (by exact_mod_cast h))
  have c2 : ((gN f N : Int) / 2 ^ wnN f == 31) = false := beq_eq_false_iff_ne.mpr (by rw [cast_div]; exact fun h => h31 (by exact_mod_cast h))
  refine dec_fin (P := dP f) (L := dL f) (H := dH f) (T := lN f N) (gnum := 107) (te := 83) (v := .agg #[]) w hT HFo (Lib.hid fun w' => enc_tens w') (Lib.hid hs0) n4 htn HLs HF1 (Lib.hid fun w' => wlow_any (tnN f) w' hw (by omega)) HF2 rfl c1 c2 meth_num (enters_of Tryd.func107 (by kernel_rfl) rfl)
    (Lib.hid fun thi tlo w' h => ?_)
  have hG : gN f N < 2 ^ (wnN f + 5) := Nat.mod_lt _ (Nat.two_pow_pos _)
  have := tnum_any (H := dH f) w' h.out n5 n4 hG ⟨n6, n7⟩ n3 ⟨n8, n9⟩
  rwa [show (10 * (kN f : Int)) = ((tnN f : Nat) : Int) from by unfold tnN; omega] at this
end Go.Proofs.YtiplbpfdkcddlaaDoor

set_option linter.unusedSimpArgs false
set_option linter.unusedVariables false
set_option linter.unnecessarySimpa false
namespace Go.Proofs.YtiplbpfdkcddlaaDoor
open Go.RowKit Go.Proofs.YtiplbpfdkcddlaaDoor.NL
set_option exponentiation.threshold 33000

/-- So many groups of ten bits of a number. -/
def trailV : Nat → Nat → Nat
  | 0, _ => 0
  | k + 1, x => trailV k (x / 1000) * 1024 + pkd (x % 1000)
theorem trailV_lt : ∀ (k x : Nat), trailV k x < 1024 ^ k := by
  intro k
  induction k with
  | zero => intro x; simp [trailV]
  | succ k ih =>
    intro x
    have h1 := ih (x / 1000)
    have h2 := (pkd_ok (show x % 1000 < 1000 by omega)).2
    show trailV k (x / 1000) * 1024 + pkd (x % 1000) < 1024 ^ (k + 1)
    rw [Nat.pow_succ]; omega
theorem trail_step : ∀ (j x : Nat), trailV (j + 1) x = trailV j x + pkd (x / 1000 ^ j % 1000) * 1024 ^ j := by
  intro j
  induction j with
  | zero => intro x; simp [trailV]
  | succ j ih =>
    intro x
    show trailV (j + 1) (x / 1000) * 1024 + pkd (x % 1000) = (trailV j (x / 1000) * 1024 + pkd (x % 1000)) + _
    rw [ih (x / 1000), Nat.div_div_eq_div_mul, show 1000 * 1000 ^ j = 1000 ^ (j + 1) by rw [Nat.pow_succ, Nat.mul_comm], Nat.add_mul, Nat.mul_assoc, ← Nat.pow_succ, Nat.succ_eq_add_one]
    omega
theorem pay_trail : ∀ (k x : Nat), x < 1000 ^ k → payV (trailV k x) k = x ∧ payC (trailV k x) k = true := by
  intro k
  induction k with
  | zero => intro x h; simp at h; subst h; exact ⟨rfl, rfl⟩
  | succ k ih =>
    intro x h
    obtain ⟨h1, h2⟩ := ih (x / 1000) (by rw [Nat.pow_succ] at h; omega)
    obtain ⟨h3, h4⟩ := pkd_ok (show x % 1000 < 1000 by omega)
    have e1 : (trailV k (x / 1000) * 1024 + pkd (x % 1000)) / 1024 = trailV k (x / 1000) := by omega
    have e2 : (trailV k (x / 1000) * 1024 + pkd (x % 1000)) % 1024 = pkd (x % 1000) := by omega
    constructor
    · show payV ((trailV k (x / 1000) * 1024 + pkd (x % 1000)) / 1024) k * 1000 + unpk ((trailV k (x / 1000) * 1024 + pkd (x % 1000)) % 1024) = x
      rw [e1, e2, h1, h3]; omega
    · show (payC ((trailV k (x / 1000) * 1024 + pkd (x % 1000)) / 1024) k && decide (pkd (unpk ((trailV k (x / 1000) * 1024 + pkd (x % 1000)) % 1024)) = (trailV k (x / 1000) * 1024 + pkd (x % 1000)) % 1024)) = true
      rw [e1, e2, h2, h3]; simp
theorem trail_pay : ∀ (k T : Nat), T < 1024 ^ k → (payC T k = decide (trailV k (payV T k) = T)) := by
  intro k
  induction k with
  | zero => intro T h; simp at h; subst h; rfl
  | succ k ih =>
    intro T h
    have h1 := ih (T / 1024) (by rw [Nat.pow_succ] at h; omega)
    have h2 := (unpk_le (show T % 1024 < 1024 by omega)).1
    have h3 := (pkd_ok (show unpk (T % 1024) < 1000 by omega)).2
    show (payC (T / 1024) k && decide (pkd (unpk (T % 1024)) = T % 1024)) = decide (trailV k ((payV (T / 1024) k * 1000 + unpk (T % 1024)) / 1000) * 1024 + pkd ((payV (T / 1024) k * 1000 + unpk (T % 1024)) % 1000) = T)
    rw [show (payV (T / 1024) k * 1000 + unpk (T % 1024)) / 1000 = payV (T / 1024) k by omega, show (payV (T / 1024) k * 1000 + unpk (T % 1024)) % 1000 = unpk (T % 1024) by omega, h1, ← Bool.decide_and]
    exact decide_eq_decide.2 (by omega)

/-- The combination of a finite datum: packed, and binary. -/
def gF1 (w d e : Nat) : Nat := if d < 8 then e / 2 ^ w * 2 ^ (w + 3) + d * 2 ^ w + e % 2 ^ w else 3 * 2 ^ (w + 3) + e / 2 ^ w * 2 ^ (w + 1) + d % 2 * 2 ^ w + e % 2 ^ w
def gF2 (w n e : Nat) : Nat := if n < 8 then e * 8 + n else 3 * 2 ^ (w + 3) + e * 2 + n % 2
/-- The first digits' bits and the exponent that a binary combination has. -/
def decN2 (G w : Nat) : Nat := if G / 2 ^ (w + 3) = 3 then 8 + G % 2 else G % 8
def decE2 (G w : Nat) : Nat := if G / 2 ^ (w + 3) = 3 then G / 2 % 2 ^ (w + 2) else G / 8
theorem p3 (w : Nat) : 2 ^ (w + 3) = 8 * 2 ^ w := by rw [Nat.pow_add, Nat.mul_comm]
theorem p1 (w : Nat) : 2 ^ (w + 1) = 2 * 2 ^ w := by rw [Nat.pow_add, Nat.mul_comm]
theorem p2 (w : Nat) : 2 ^ (w + 2) = 4 * 2 ^ w := by rw [Nat.pow_add, Nat.mul_comm]
theorem p5 (w : Nat) : 2 ^ (w + 5) = 32 * 2 ^ w := by rw [Nat.pow_add, Nat.mul_comm]
theorem dm {A q r : Nat} (hr : r < A) : (q * A + r) / A = q ∧ (q * A + r) % A = r := by
  have hA : 0 < A := by omega
  constructor
  · rw [Nat.mul_comm, Nat.mul_add_div hA, Nat.div_eq_of_lt hr, Nat.add_zero]
  · rw [Nat.mul_comm, Nat.mul_add_mod, Nat.mod_eq_of_lt hr]
/-- The parts of a combination by its first five bits. -/
theorem dec_q (G w : Nat) : decU G w = (if G / 2 ^ w / 8 = 3 then G / 2 ^ w / 2 % 4 else G / 2 ^ w / 8) ∧ decD G w = (if G / 2 ^ w / 8 = 3 then 8 + G / 2 ^ w % 2 else G / 2 ^ w % 8) := by
  unfold decU decD
  rw [p3, p1, Nat.mul_comm 8, Nat.mul_comm 2, ← Nat.div_div_eq_div_mul, ← Nat.div_div_eq_div_mul]
  exact ⟨rfl, rfl⟩
theorem gF1_q (w d e : Nat) : gF1 w d e = (if d < 8 then e / 2 ^ w * 8 + d else 24 + e / 2 ^ w * 2 + d % 2) * 2 ^ w + e % 2 ^ w := by
  unfold gF1
  rw [p3, p1]
  split
  · rw [Nat.add_mul, Nat.mul_assoc]
  · rw [Nat.add_mul, Nat.add_mul, Nat.mul_assoc (e / 2 ^ w), ← Nat.mul_assoc 3]
theorem gF1_dec {w d e : Nat} (hd : d ≤ 9) (he : e < 3 * 2 ^ w) : gF1 w d e / 2 ^ w < 30 ∧ decD (gF1 w d e) w = d ∧ decE (gF1 w d e) w = e ∧ gF1 w d e < 2 ^ (w + 5) := by
  have hA := Nat.two_pow_pos w
  have hu : e / 2 ^ w < 3 := Nat.div_lt_of_lt_mul (by rw [Nat.mul_comm]; exact he)
  obtain ⟨q1, q2⟩ := dec_q (gF1 w d e) w
  have hr : e % 2 ^ w < 2 ^ w := Nat.mod_lt _ hA
  have hm := Nat.div_add_mod e (2 ^ w)
  rw [p5]
  unfold decE
  rw [q1, q2, gF1_q, (dm hr).1, (dm hr).2]
  generalize e / 2 ^ w = u at *
  by_cases h8 : d < 8
  · simp only [if_pos h8]
    rw [if_neg (by omega), if_neg (by omega)]
    refine ⟨by omega, by omega, ?_, ?_⟩
    · rw [show (u * 8 + d) / 8 = u by omega, Nat.mul_comm]; exact hm
    · have : (u * 8 + d) * 2 ^ w ≤ 31 * 2 ^ w := Nat.mul_le_mul_right _ (by omega)
      omega
  · simp only [if_neg h8]
    rw [if_pos (by omega), if_pos (by omega)]
    refine ⟨by omega, by omega, ?_, ?_⟩
    · rw [show (24 + u * 2 + d % 2) / 2 % 4 = u by omega, Nat.mul_comm]; exact hm
    · have : (24 + u * 2 + d % 2) * 2 ^ w ≤ 31 * 2 ^ w := Nat.mul_le_mul_right _ (by omega)
      omega
theorem dec_gF1 {G w : Nat} (hG : G < 2 ^ (w + 5)) (h30 : G / 2 ^ w ≠ 30) (h31 : G / 2 ^ w ≠ 31) : gF1 w (decD G w) (decE G w) = G ∧ decE G w < 3 * 2 ^ w ∧ decD G w ≤ 9 := by
  have hA := Nat.two_pow_pos w
  have hq : G / 2 ^ w < 32 := Nat.div_lt_of_lt_mul (by rw [Nat.mul_comm, ← p5]; exact hG)
  have hr : G % 2 ^ w < 2 ^ w := Nat.mod_lt _ hA
  have hm := Nat.div_add_mod G (2 ^ w)
  obtain ⟨q1, q2⟩ := dec_q G w
  rw [gF1_q]
  unfold decE
  rw [(dm hr).1, (dm hr).2, q1, q2]
  generalize G / 2 ^ w = q at *
  rw [Nat.mul_comm] at hm
  by_cases h3 : q / 8 = 3
  · simp only [if_pos h3]
    rw [if_neg (by omega), show 24 + q / 2 % 4 * 2 + (8 + q % 2) % 2 = q by omega]
    have : q / 2 % 4 * 2 ^ w ≤ 2 * 2 ^ w := Nat.mul_le_mul_right _ (by omega)
    exact ⟨hm, by omega, by omega⟩
  · simp only [if_neg h3]
    rw [if_pos (by omega), show q / 8 * 8 + q % 8 = q by omega]
    have : q / 8 * 2 ^ w ≤ 2 * 2 ^ w := Nat.mul_le_mul_right _ (by omega)
    exact ⟨hm, by omega, by omega⟩
theorem div8 (G w : Nat) : (G / 2 ^ (w + 3) = 3) = (24 * 2 ^ w ≤ G ∧ G < 32 * 2 ^ w) := by
  have hA : 0 < 8 * 2 ^ w := by have := Nat.two_pow_pos w; omega
  rw [p3]
  apply propext
  rw [Nat.div_eq_iff hA]
  omega
theorem gF2_dec {w n e : Nat} (hn : n ≤ 9) (he : e < 3 * 2 ^ w) : gF2 w n e < 30 * 2 ^ w ∧ decN2 (gF2 w n e) w = n ∧ decE2 (gF2 w n e) w = e := by
  have hA := Nat.two_pow_pos w
  unfold decN2 decE2
  simp only [div8]
  unfold gF2
  rw [p3, p2]
  by_cases h8 : n < 8
  · simp only [if_pos h8]
    rw [if_neg (by omega), if_neg (by omega)]
    exact ⟨by omega, by omega, by omega⟩
  · simp only [if_neg h8]
    rw [if_pos (by omega), if_pos (by omega)]
    refine ⟨by omega, by omega, ?_⟩
    rw [show (3 * (8 * 2 ^ w) + e * 2 + n % 2) / 2 = e + 3 * (4 * 2 ^ w) by omega, Nat.mul_comm 3, Nat.add_mul_mod_self_left, Nat.mod_eq_of_lt (by omega)]
theorem lt30 {G w : Nat} (hG : G < 2 ^ (w + 5)) (h30 : G / 2 ^ w ≠ 30) (h31 : G / 2 ^ w ≠ 31) : G < 30 * 2 ^ w := by
  have hq : G / 2 ^ w < 32 := Nat.div_lt_of_lt_mul (by rw [Nat.mul_comm, ← p5]; exact hG)
  exact (Nat.div_lt_iff_lt_mul (Nat.two_pow_pos w)).1 (by omega)
theorem dec_gF2 {G w : Nat} (hG : G < 30 * 2 ^ w) : gF2 w (decN2 G w) (decE2 G w) = G ∧ decE2 G w < 3 * 2 ^ w ∧ decN2 G w ≤ 9 := by
  have hA := Nat.two_pow_pos w
  unfold decN2 decE2
  simp only [div8]
  unfold gF2
  rw [p3, p2]
  by_cases h3 : 24 * 2 ^ w ≤ G ∧ G < 32 * 2 ^ w
  · simp only [if_pos h3]
    have e : G / 2 % (4 * 2 ^ w) = G / 2 - 12 * 2 ^ w := by
      obtain ⟨x, hx⟩ : ∃ x, G / 2 = x + 3 * (4 * 2 ^ w) := ⟨G / 2 - 3 * (4 * 2 ^ w), by omega⟩
      rw [hx, Nat.mul_comm 3, Nat.add_mul_mod_self_left, Nat.mod_eq_of_lt (by omega)]
      omega
    rw [e, if_neg (by omega)]
    exact ⟨by omega, by omega, by omega⟩
  · simp only [if_neg h3]
    rw [if_pos (by omega)]
    exact ⟨by omega, by omega, by omega⟩
end Go.Proofs.YtiplbpfdkcddlaaDoor

set_option linter.unusedSimpArgs false
set_option linter.unusedVariables false
set_option linter.unnecessarySimpa false
namespace Go.Proofs.YtiplbpfdkcddlaaDoor
open Go.RowKit Go.Proofs.YtiplbpfdkcddlaaDoor.NL
set_option exponentiation.threshold 33000

def clN (f : Int) (N : Nat) : Int := if gN f N / 2 ^ wnN f = 30 then 2 else if gN f N / 2 ^ wnN f = 31 then (if gN f N / 2 ^ (wnN f - 1) % 2 = 1 then 4 else 3) else 1
def payX (f e : Int) (T : Nat) : Nat × Bool := if e = 1 then (payV T (kN f), payC T (kN f)) else if T < 10 ^ pN f then (T, true) else (0, false)
def numX (f e : Int) (G T : Nat) : Nat × Nat × Bool := if e = 1 then (decD G (wnN f) * 10 ^ pN f + payV T (kN f), decE G (wnN f), payC T (kN f)) else if decN2 G (wnN f) * 2 ^ tnN f + T < 10 ^ (pN f + 1) then (decN2 G (wnN f) * 2 ^ tnN f + T, decE2 G (wnN f), true) else (0, decE2 G (wnN f), false)
def coN (f e : Int) (N : Nat) : Nat := if clN f N = 1 then (numX f e (gN f N) (lN f N)).1 else if clN f N = 2 then 0 else (payX f e (lN f N)).1
def exN (f e : Int) (N : Nat) : Int := if clN f N = 1 then dL f + ((numX f e (gN f N) (lN f N)).2.1 : Nat) else 0
def caN (f e : Int) (N : Nat) : Bool := if clN f N = 1 then (numX f e (gN f N) (lN f N)).2.2 else if clN f N = 2 then decide (gN f N % 2 ^ wnN f = 0 ∧ lN f N = 0) else ((payX f e (lN f N)).2 && decide (gN f N % 2 ^ (wnN f - 1) = 0))
def ngN (f : Int) (N : Nat) : Bool := decide (sgN f N = 1)
def trX (f e : Int) (C : Nat) : Nat := if e = 1 then trailV (kN f) C else C
def gEn (f e cl : Int) (C : Nat) (ex : Int) : Nat := if cl = 2 then 30 * 2 ^ wnN f else if cl = 3 then 31 * 2 ^ wnN f else if cl = 4 then 63 * 2 ^ (wnN f - 1) else if e = 1 then gF1 (wnN f) (C / 10 ^ pN f) (ex - dL f).toNat else gF2 (wnN f) (C / 2 ^ tnN f) (ex - dL f).toNat
def tEn (f e cl : Int) (C : Nat) : Nat := if cl = 2 then 0 else if cl = 3 ∨ cl = 4 then trX f e C else if e = 1 then trailV (kN f) (C % 10 ^ pN f) else C % 2 ^ tnN f
def packX (f e cl : Int) (ng : Bool) (C : Nat) (ex : Int) : Nat := tEn f e cl C + gEn f e cl C ex * 2 ^ tnN f + (if ng then 2 ^ (tnN f + wnN f + 5) else 0)
/-- Whether a datum is one of the format. -/
def decV (f cl : Int) (C : Nat) (ex : Int) : Prop := (cl = 1 ∧ C < 10 ^ (pN f + 1) ∧ dL f ≤ ex ∧ ex ≤ dH f) ∨ (cl = 2 ∧ C = 0 ∧ ex = 0) ∨ ((cl = 3 ∨ cl = 4) ∧ C < 10 ^ pN f ∧ ex = 0)
theorem dec_more {f : Int} (hf : isDec f = true) : dH f - dL f + 1 = ((3 * 2 ^ wnN f : Nat) : Int) ∧ 1000 ^ kN f = 10 ^ pN f ∧ 1024 ^ kN f = 2 ^ tnN f ∧ 10 ^ pN f ≤ 2 ^ tnN f ∧ 10 ^ (pN f + 1) ≤ 10 * 2 ^ tnN f ∧ wnN f - 1 + 1 = wnN f := by
  rcases dec_cases hf with rfl | rfl | rfl <;> decide +kernel
theorem parts_of {t w G T : Nat} {ng : Bool} (hT : T < 2 ^ t) (hG : G < 2 ^ (w + 5)) :
    (T + G * 2 ^ t + (if ng then 2 ^ (t + w + 5) else 0)) % 2 ^ t = T ∧ (T + G * 2 ^ t + (if ng then 2 ^ (t + w + 5) else 0)) / 2 ^ t % 2 ^ (w + 5) = G ∧ (T + G * 2 ^ t + (if ng then 2 ^ (t + w + 5) else 0)) / 2 ^ (t + w + 5) % 2 = (if ng then 1 else 0) ∧ T + G * 2 ^ t + (if ng then 2 ^ (t + w + 5) else 0) < 2 ^ (1 + w + 5 + t) := by
  obtain ⟨s, hs⟩ : ∃ s : Nat, (if ng then 1 else 0) = s := ⟨_, rfl⟩
  have hs1 : s ≤ 1 := by rw [← hs]; split <;> omega
  have e1 : (if ng then 2 ^ (t + w + 5) else 0) = s * 2 ^ (w + 5) * 2 ^ t := by
    rw [← hs]
    cases ng with
    | false => simp
    | true => simp only [if_true]; rw [Nat.one_mul, ← Nat.pow_add, show t + w + 5 = w + 5 + t by omega]
  rw [e1, hs]
  have e2 : T + G * 2 ^ t + s * 2 ^ (w + 5) * 2 ^ t = (s * 2 ^ (w + 5) + G) * 2 ^ t + T := by rw [Nat.add_mul]; omega
  have e3 : 2 ^ (t + w + 5) = 2 ^ t * 2 ^ (w + 5) := by rw [← Nat.pow_add, Nat.add_assoc]
  have e4 : 2 ^ (1 + w + 5 + t) = 2 * 2 ^ (w + 5) * 2 ^ t := by rw [show 1 + w + 5 + t = 1 + (w + 5) + t by omega, Nat.pow_add, Nat.pow_add]
  rw [e2, e3, e4, ← Nat.div_div_eq_div_mul, (dm hT).1, (dm hT).2, (dm hG).1, (dm hG).2]
  refine ⟨rfl, rfl, by omega, ?_⟩
  have h1 : s * 2 ^ (w + 5) + G + 1 ≤ 2 * 2 ^ (w + 5) := by
    have : s * 2 ^ (w + 5) ≤ 1 * 2 ^ (w + 5) := Nat.mul_le_mul_right _ hs1
    omega
  have h2 := Nat.mul_le_mul_right (2 ^ t) h1
  rw [Nat.add_mul, Nat.one_mul] at h2
  omega
theorem whole_of {f : Int} {N : Nat} (hN : N < 2 ^ sN f) : N = lN f N + gN f N * 2 ^ tnN f + (if ngN f N then 2 ^ (tnN f + wnN f + 5) else 0) ∧ lN f N < 2 ^ tnN f ∧ gN f N < 2 ^ (wnN f + 5) := by
  unfold lN gN ngN sgN
  have es : sN f = 1 + wnN f + 5 + tnN f := rfl
  rw [es] at hN ⊢
  generalize tnN f = t at *
  generalize wnN f = w at *
  have e1 : 1 + w + 5 + t - 1 = t + w + 5 := by omega
  have e3 : 2 ^ (t + w + 5) = 2 ^ t * 2 ^ (w + 5) := by rw [← Nat.pow_add, Nat.add_assoc]
  have e4 : 2 ^ (1 + w + 5 + t) = 2 ^ t * (2 ^ (w + 5) * 2) := by rw [← Nat.pow_succ, ← Nat.pow_add, show t + (w + 5).succ = 1 + w + 5 + t by omega]
  rw [e4] at hN
  rw [e1, e3, ← Nat.div_div_eq_div_mul]
  have h1 := Nat.div_add_mod N (2 ^ t)
  have h2 := Nat.div_add_mod (N / 2 ^ t) (2 ^ (w + 5))
  have h3 : N / 2 ^ t < 2 ^ (w + 5) * 2 := Nat.div_lt_of_lt_mul hN
  have h4 : N / 2 ^ t / 2 ^ (w + 5) < 2 := Nat.div_lt_of_lt_mul h3
  refine ⟨?_, Nat.mod_lt _ (Nat.two_pow_pos _), Nat.mod_lt _ (Nat.two_pow_pos _)⟩
  generalize N / 2 ^ t / 2 ^ (w + 5) = s at *
  generalize N / 2 ^ t % 2 ^ (w + 5) = G at *
  have h5 : 2 ^ t * (N / 2 ^ t) = 2 ^ t * (2 ^ (w + 5) * s) + G * 2 ^ t := by rw [← h2, Nat.mul_add, Nat.mul_comm G]
  rcases (show s = 0 ∨ s = 1 by omega) with rfl | rfl
  · simp at h5 ⊢; omega
  · simp at h5 ⊢; omega
theorem en_lt {f e cl ex : Int} {C : Nat} (hf : isDec f = true) (hv : decV f cl C ex) : tEn f e cl C < 2 ^ tnN f ∧ gEn f e cl C ex < 2 ^ (wnN f + 5) := by
  obtain ⟨m1, m2, m3, m4, m5, m6⟩ := dec_more hf
  have hA := Nat.two_pow_pos (wnN f)
  have hB : 2 * 2 ^ (wnN f - 1) = 2 ^ wnN f := by rw [Nat.mul_comm, ← Nat.pow_succ, Nat.succ_eq_add_one, m6]
  have ht := Nat.two_pow_pos (tnN f)
  have hp : 0 < 10 ^ pN f := Nat.pow_pos (by decide)
  unfold decV at hv
  rw [p5]
  rcases hv with ⟨rfl, hC, h1, h2⟩ | ⟨rfl, hC, h1⟩ | ⟨h, hC, h1⟩
  · unfold tEn gEn
    simp only [Int.reduceEq, or_self, reduceIte]
    have he : (ex - dL f).toNat < 3 * 2 ^ wnN f := by omega
    split
    · have hd : C / 10 ^ pN f ≤ 9 := by
        have : C / 10 ^ pN f < 10 := Nat.div_lt_of_lt_mul (by rw [← Nat.pow_succ]; exact hC)
        omega
      refine ⟨by rw [← m3]; exact trailV_lt _ _, ?_⟩
      have := (gF1_dec hd he).2.2.2
      rwa [p5] at this
    · refine ⟨Nat.mod_lt _ ht, ?_⟩
      have hd : C / 2 ^ tnN f ≤ 9 := by
        have : C / 2 ^ tnN f < 10 := Nat.div_lt_of_lt_mul (by omega)
        omega
      have := (gF2_dec hd he).1
      omega
  · unfold tEn gEn
    rw [if_pos rfl, if_pos rfl]
    exact ⟨ht, by omega⟩
  · have hT : tEn f e cl C < 2 ^ tnN f := by
      unfold tEn trX
      rw [if_neg (by omega), if_pos h]
      split
      · rw [← m3]; exact trailV_lt _ _
      · omega
    refine ⟨hT, ?_⟩
    unfold gEn
    rw [if_neg (by omega)]
    split
    · omega
    · rw [if_pos (by omega)]; omega
theorem pay_lt {f e : Int} {T : Nat} (hf : isDec f = true) : (payX f e T).1 < 10 ^ pN f := by
  obtain ⟨m1, m2, m3, m4, m5, m6⟩ := dec_more hf
  unfold payX
  split
  · show payV T (kN f) < _
    rw [← m2]; exact payV_lt _ _
  · split
    · assumption
    · exact Nat.pow_pos (by decide)
theorem written_read {f e cl ex : Int} {C : Nat} {ng : Bool} (hf : isDec f = true) (hv : decV f cl C ex) :
    packX f e cl ng C ex < 2 ^ sN f ∧ clN f (packX f e cl ng C ex) = cl ∧ ngN f (packX f e cl ng C ex) = ng ∧ coN f e (packX f e cl ng C ex) = C ∧ exN f e (packX f e cl ng C ex) = ex ∧ caN f e (packX f e cl ng C ex) = true := by
  obtain ⟨m1, m2, m3, m4, m5, m6⟩ := dec_more hf
  obtain ⟨l1, l2⟩ := en_lt (e := e) hf hv
  have hA := Nat.two_pow_pos (wnN f)
  have hB0 := Nat.two_pow_pos (wnN f - 1)
  have hB : 2 * 2 ^ (wnN f - 1) = 2 ^ wnN f := by rw [Nat.mul_comm, ← Nat.pow_succ, Nat.succ_eq_add_one, m6]
  obtain ⟨q1, q2, q3, q4⟩ := parts_of (t := tnN f) (w := wnN f) (ng := ng) l1 l2
  have hL : lN f (packX f e cl ng C ex) = tEn f e cl C := q1
  have hG : gN f (packX f e cl ng C ex) = gEn f e cl C ex := q2
  have hS : ngN f (packX f e cl ng C ex) = ng := by
    show decide (packX f e cl ng C ex / 2 ^ (sN f - 1) % 2 = 1) = ng
    rw [show sN f - 1 = tnN f + wnN f + 5 by unfold sN; omega, show packX f e cl ng C ex / 2 ^ (tnN f + wnN f + 5) % 2 = _ from q3]
    cases ng <;> rfl
  refine ⟨q4, ?_⟩
  unfold coN exN caN
  rw [hL, hG, hS]
  unfold clN
  rw [hG]
  have hp : 0 < 10 ^ pN f := Nat.pow_pos (by decide)
  unfold decV at hv
  rcases hv with ⟨rfl, hC, h1, h2⟩ | ⟨rfl, hC, h1⟩ | ⟨h, hC, h1⟩
  · unfold tEn gEn
    simp only [Int.reduceEq, or_self, reduceIte]
    have he : (ex - dL f).toNat < 3 * 2 ^ wnN f := by omega
    unfold numX
    by_cases h1 : e = 1
    · simp only [if_pos h1]
      have hd : C / 10 ^ pN f ≤ 9 := by
        have : C / 10 ^ pN f < 10 := Nat.div_lt_of_lt_mul (by rw [← Nat.pow_succ]; exact hC)
        omega
      obtain ⟨g1, g2, g3, g4⟩ := gF1_dec hd he
      have hpt := pay_trail (kN f) (C % 10 ^ pN f) (by rw [m2]; exact Nat.mod_lt _ hp)
      rw [if_neg (by omega), if_neg (by omega)]
      simp only [if_true]
      rw [g2, g3, hpt.1, hpt.2]
      exact ⟨trivial, trivial, by rw [Nat.mul_comm]; exact Nat.div_add_mod _ _, by omega, rfl⟩
    · simp only [if_neg h1]
      have hd : C / 2 ^ tnN f ≤ 9 := by
        have : C / 2 ^ tnN f < 10 := Nat.div_lt_of_lt_mul (by omega)
        omega
      obtain ⟨g1, g2, g3⟩ := gF2_dec hd he
      have hq : gF2 (wnN f) (C / 2 ^ tnN f) (ex - dL f).toNat / 2 ^ wnN f < 30 := (Nat.div_lt_iff_lt_mul hA).2 g1
      have hw : C / 2 ^ tnN f * 2 ^ tnN f + C % 2 ^ tnN f = C := by rw [Nat.mul_comm]; exact Nat.div_add_mod _ _
      rw [if_neg (by omega), if_neg (by omega)]
      simp only [if_true]
      rw [g2, g3, hw, if_pos hC]
      exact ⟨trivial, trivial, rfl, by show dL f + (((ex - dL f).toNat : Nat) : Int) = ex; omega, rfl⟩
  · unfold tEn gEn
    rw [if_pos rfl, if_pos rfl]
    subst hC; subst h1
    rw [Nat.mul_div_cancel _ hA]
    simp
  · have e1 : gEn f e cl C ex / 2 ^ wnN f = 31 ∧ gEn f e cl C ex / 2 ^ (wnN f - 1) % 2 = (if cl = 4 then 1 else 0) ∧ gEn f e cl C ex % 2 ^ (wnN f - 1) = 0 := by
      unfold gEn
      rw [if_neg (by omega)]
      rcases h with rfl | rfl
      · rw [if_pos rfl, if_neg (by decide), Nat.mul_div_cancel _ hA, ← hB, ← Nat.mul_assoc, Nat.mul_div_cancel _ hB0]
        exact ⟨rfl, rfl, Nat.mul_mod_left _ _⟩
      · rw [if_neg (by decide), if_pos rfl, if_pos rfl, Nat.mul_div_cancel _ hB0]
        refine ⟨?_, rfl, Nat.mul_mod_left _ _⟩
        rw [← hB]
        rw [Nat.mul_div_mul_right _ _ hB0]
    obtain ⟨e1, e2, e3⟩ := e1
    have e4 : tEn f e cl C = trX f e C := by unfold tEn; rw [if_neg (by omega), if_pos h]
    have e5 : payX f e (trX f e C) = (C, true) := by
      unfold payX trX
      by_cases h1 : e = 1
      · simp only [if_pos h1]
        have hpt := pay_trail (kN f) C (by rw [m2]; exact hC)
        rw [hpt.1, hpt.2]
      · simp only [if_neg h1]
        rw [if_pos hC]
    rw [e1, e2, e3, e4, e5]
    subst h1
    rcases h with rfl | rfl <;> simp
theorem read_ok {f e : Int} {N : Nat} (hf : isDec f = true) (hN : N < 2 ^ sN f) : decV f (clN f N) (coN f e N) (exN f e N) := by
  obtain ⟨m1, m2, m3, m4, m5, m6⟩ := dec_more hf
  obtain ⟨n1, n2, n3⟩ := whole_of hN
  unfold decV coN exN
  have hc : clN f N = 1 ∨ clN f N = 2 ∨ clN f N = 3 ∨ clN f N = 4 := by unfold clN; repeat' split <;> omega
  rcases hc with h | h | h | h
  · refine .inl ⟨h, ?_⟩
    rw [if_pos h, if_pos h]
    have g30 : gN f N / 2 ^ wnN f ≠ 30 := by intro h3; unfold clN at h; rw [if_pos h3] at h; omega
    have g31 : gN f N / 2 ^ wnN f ≠ 31 := by
      intro h3; unfold clN at h; rw [if_neg (by omega), if_pos h3] at h; split at h <;> omega
    unfold numX
    by_cases h1 : e = 1
    · simp only [if_pos h1]
      obtain ⟨d1, d2, d3⟩ := dec_gF1 n3 g30 g31
      have hp := payV_lt (kN f) (lN f N)
      rw [m2] at hp
      refine ⟨?_, by omega, by omega⟩
      have : decD (gN f N) (wnN f) * 10 ^ pN f ≤ 9 * 10 ^ pN f := Nat.mul_le_mul_right _ d3
      rw [Nat.pow_succ]; omega
    · simp only [if_neg h1]
      obtain ⟨d1, d2, d3⟩ := dec_gF2 (lt30 n3 g30 g31)
      split
      · exact ⟨by assumption, by show dL f ≤ dL f + ((decE2 (gN f N) (wnN f) : Nat) : Int); omega, by show dL f + ((decE2 (gN f N) (wnN f) : Nat) : Int) ≤ dH f; omega⟩
      · exact ⟨Nat.pow_pos (by decide), by show dL f ≤ dL f + ((decE2 (gN f N) (wnN f) : Nat) : Int); omega, by show dL f + ((decE2 (gN f N) (wnN f) : Nat) : Int) ≤ dH f; omega⟩
  · exact .inr (.inl ⟨h, by rw [if_neg (by omega), if_pos h], by rw [if_neg (by omega)]⟩)
  · exact .inr (.inr ⟨.inl h, by rw [if_neg (by omega), if_neg (by omega)]; exact pay_lt hf, by rw [if_neg (by omega)]⟩)
  · exact .inr (.inr ⟨.inr h, by rw [if_neg (by omega), if_neg (by omega)]; exact pay_lt hf, by rw [if_neg (by omega)]⟩)
/-- Two wholes are equal exactly if their parts are. -/
theorem pack_iff {f e cl ex : Int} {C N : Nat} (hf : isDec f = true) (hN : N < 2 ^ sN f) (hv : decV f cl C ex) : (packX f e cl (ngN f N) C ex = N) ↔ (tEn f e cl C = lN f N ∧ gEn f e cl C ex = gN f N) := by
  obtain ⟨l1, l2⟩ := en_lt (e := e) hf hv
  obtain ⟨q1, q2, q3, q4⟩ := parts_of (t := tnN f) (w := wnN f) (ng := ngN f N) l1 l2
  obtain ⟨n1, n2, n3⟩ := whole_of hN
  constructor
  · intro h
    have a1 : lN f (packX f e cl (ngN f N) C ex) = tEn f e cl C := q1
    have a2 : gN f (packX f e cl (ngN f N) C ex) = gEn f e cl C ex := q2
    rw [h] at a1 a2
    exact ⟨a1.symm, a2.symm⟩
  · rintro ⟨h1, h2⟩
    unfold packX
    rw [h1, h2]
    exact n1.symm
theorem canonical_iff {f e : Int} {N : Nat} (hf : isDec f = true) (hN : N < 2 ^ sN f) : caN f e N = true ↔ (tEn f e (clN f N) (coN f e N) = lN f N ∧ gEn f e (clN f N) (coN f e N) (exN f e N) = gN f N) := by
  obtain ⟨m1, m2, m3, m4, m5, m6⟩ := dec_more hf
  obtain ⟨n1, n2, n3⟩ := whole_of hN
  have hA := Nat.two_pow_pos (wnN f)
  have hB0 := Nat.two_pow_pos (wnN f - 1)
  have hB : 2 * 2 ^ (wnN f - 1) = 2 ^ wnN f := by rw [Nat.mul_comm, ← Nat.pow_succ, Nat.succ_eq_add_one, m6]
  have hp : 0 < 10 ^ pN f := Nat.pow_pos (by decide)
  have hc : clN f N = 1 ∨ clN f N = 2 ∨ clN f N = 3 ∨ clN f N = 4 := by unfold clN; repeat' split <;> omega
  unfold caN coN exN tEn gEn
  rcases hc with h | h | h | h
  · have g30 : gN f N / 2 ^ wnN f ≠ 30 := by intro h3; unfold clN at h; rw [if_pos h3] at h; omega
    have g31 : gN f N / 2 ^ wnN f ≠ 31 := by
      intro h3; unfold clN at h; rw [if_neg (by omega), if_pos h3] at h; split at h <;> omega
    rw [h]
    simp only [if_true]
    simp only [Int.reduceEq, or_self, reduceIte]
    unfold numX
    by_cases h1 : e = 1
    · simp only [if_pos h1]
      obtain ⟨d1, d2, d3⟩ := dec_gF1 n3 g30 g31
      have hpv := payV_lt (kN f) (lN f N)
      rw [m2] at hpv
      rw [(dm hpv).1, (dm hpv).2, trail_pay _ _ (by rw [m3]; exact n2)]
      rw [show (dL f + ((decE (gN f N) (wnN f) : Nat) : Int) - dL f).toNat = decE (gN f N) (wnN f) by omega, d1]
      rw [decide_eq_true_iff]
      exact ⟨fun h => ⟨h, rfl⟩, fun h => h.1⟩
    · simp only [if_neg h1]
      obtain ⟨d1, d2, d3⟩ := dec_gF2 (lt30 n3 g30 g31)
      split
      · show true = true ↔ _
        rw [(dm n2).1, (dm n2).2]
        show true = true ↔ (lN f N = lN f N ∧ gF2 (wnN f) (decN2 (gN f N) (wnN f)) (dL f + ((decE2 (gN f N) (wnN f) : Nat) : Int) - dL f).toNat = gN f N)
        rw [show (dL f + ((decE2 (gN f N) (wnN f) : Nat) : Int) - dL f).toNat = decE2 (gN f N) (wnN f) by omega, d1]
        simp
      · rename_i hlt
        show false = true ↔ (0 % 2 ^ tnN f = lN f N ∧ gF2 (wnN f) (0 / 2 ^ tnN f) (dL f + ((decE2 (gN f N) (wnN f) : Nat) : Int) - dL f).toNat = gN f N)
        rw [show (dL f + ((decE2 (gN f N) (wnN f) : Nat) : Int) - dL f).toNat = decE2 (gN f N) (wnN f) by omega, Nat.zero_mod, Nat.zero_div]
        refine ⟨(fun h => by cases h), ?_⟩
        rintro ⟨h2, h3⟩
        exfalso
        have h4 := (gF2_dec (w := wnN f) (n := 0) (e := decE2 (gN f N) (wnN f)) (by omega) d2).2.1
        rw [h3] at h4
        rw [h4, ← h2] at hlt
        have := Nat.pow_pos (n := pN f + 1) (show 0 < 10 by decide)
        omega
  · have g30 : gN f N / 2 ^ wnN f = 30 := by
      unfold clN at h
      split at h
      · assumption
      · split at h
        · split at h <;> omega
        · omega
    rw [h]
    rw [if_neg (show ¬ (2 : Int) = 1 by decide)]
    simp only [if_true]
    have hm := Nat.div_add_mod (gN f N) (2 ^ wnN f)
    rw [g30] at hm
    rw [decide_eq_true_iff]
    exact ⟨fun h => ⟨h.2.symm, by omega⟩, fun h => ⟨by omega, h.1.symm⟩⟩
  all_goals
    have g31 : gN f N / 2 ^ wnN f = 31 := by
      unfold clN at h
      split at h
      · omega
      · split at h
        · assumption
        · omega
    have hb : gN f N / 2 ^ (wnN f - 1) = 62 ∨ gN f N / 2 ^ (wnN f - 1) = 63 := by
      rw [← hB, Nat.mul_comm, ← Nat.div_div_eq_div_mul] at g31; omega
    have hb2 : (gN f N / 2 ^ (wnN f - 1) % 2 = 1) = (clN f N = 4) := by
      unfold clN
      rw [if_neg (by omega), if_pos g31]
      split
      · rename_i h9; exact propext ⟨fun _ => rfl, fun _ => h9⟩
      · rename_i h9; exact propext ⟨fun h => absurd h h9, fun h => by simp at h⟩
    rw [h] at hb2
    have hm := Nat.div_add_mod (gN f N) (2 ^ (wnN f - 1))
    rw [h]
    have hpay : (payX f e (lN f N)).2 = decide (trX f e (payX f e (lN f N)).1 = lN f N) := by
      unfold payX trX
      by_cases h1 : e = 1
      · simp only [if_pos h1]
        exact trail_pay _ _ (by rw [m3]; exact n2)
      · simp only [if_neg h1]
        split
        · simp
        · rename_i hlt
          show false = decide (0 = lN f N)
          exact (decide_eq_false (by omega)).symm
    simp only [Int.reduceEq, reduceIte, true_or, or_true]
    rw [hpay, ← Bool.decide_and, decide_eq_true_iff]
  · have h62 : gN f N / 2 ^ (wnN f - 1) = 62 := by
      rcases hb with hb | hb
      · exact hb
      · rw [hb] at hb2; simp at hb2
    rw [h62] at hm
    exact ⟨fun h => ⟨h.1, by omega⟩, fun h => ⟨h.1, by omega⟩⟩
  · have h63 : gN f N / 2 ^ (wnN f - 1) = 63 := by
      rcases hb with hb | hb
      · rw [hb] at hb2; simp at hb2
      · exact hb
    rw [h63] at hm
    exact ⟨fun h => ⟨h.1, by omega⟩, fun h => ⟨h.1, by omega⟩⟩
theorem canonical {f e : Int} {N : Nat} (hf : isDec f = true) (hN : N < 2 ^ sN f) : caN f e N = decide (packX f e (clN f N) (ngN f N) (coN f e N) (exN f e N) = N) := by
  have h1 := canonical_iff (e := e) hf hN
  have h2 := pack_iff (e := e) hf hN (read_ok (e := e) hf hN)
  rw [Bool.eq_iff_iff, decide_eq_true_iff]
  exact h1.trans h2.symm
end Go.Proofs.YtiplbpfdkcddlaaDoor

set_option linter.unusedSimpArgs false
set_option linter.unusedVariables false
set_option linter.unnecessarySimpa false
namespace Go.Proofs.YtiplbpfdkcddlaaDoor
open Go.RowKit Go.Proofs.YtiplbpfdkcddlaaDoorW.PrintWords Go.Proofs.YtiplbpfdkcddlaaDoorW.PrintLast Go.Proofs.YtiplbpfdkcddlaaDoorW.PrintMore Go.Proofs.YtiplbpfdkcddlaaDoor.NL
set_option maxRecDepth 100000
set_option exponentiation.threshold 33000

@[go_sem] abbrev dV (f cl : Int) (ng : Bool) (A : Option Addr) (n c : Nat) (ex : Int) : Value := .agg #[.int .i64 f, .int .i64 cl, .bool ng, .slice A n c, .int .i64 ex]
set_option maxHeartbeats 8000000 in
theorem dchk_core {f cl ex P L H W T p1 : Int} {ng v b b2 : Bool} {A : Option Addr} {n c : Nat} (w : World) (hT : Tab w)
    (HFo : Hid (∀ w', Tab w' → Calls Tryd.prog 19 #[.int .i64 f] w' fun r w'' => r = .returned (.tuple #[fV P L H W T, .bool true]) ∧ Below w'.heap.size w' w''))
    (hp1 : IntKind.i64.wrap (P - 1) = p1)
    (HV : Hid (∀ w', Below w.heap.size w w' → Calls Tryd.prog 26 #[.slice A n c] w' fun e w'' => e = .returned (.bool v) ∧ w' = w''))
    (HB : Hid (∀ w', Below w.heap.size w w' → Calls Tryd.prog 27 #[.slice A n c, .int .i64 P] w' fun r w'' => r = .returned (.bool b) ∧ Below w'.heap.size w' w''))
    (HB2 : Hid (∀ w', Below w.heap.size w w' → Calls Tryd.prog 27 #[.slice A n c, .int .i64 p1] w' fun r w'' => r = .returned (.bool b2) ∧ Below w'.heap.size w' w'')) :
    Calls Tryd.prog 13 #[dV f cl ng A n c ex] w fun r w' => r = .returned (.int .i64 (if (v && (if cl = 1 then b && (decide (ex ≥ L) && decide (ex ≤ H)) else if cl = 2 then decide (n = 0) && decide (ex = 0) else if cl = 3 ∨ cl = 4 then b2 && decide (ex = 0) else false)) = true then 0 else 1)) ∧ Below w.heap.size w w' := by
  have HT := Lib.hid hT
  clear hT
  have en : ((n : Int) == 0) = decide (n = 0) := by
    by_cases h : n = 0
    · rw [decide_eq_true h, h]; rfl
    · rw [decide_eq_false h]; exact beq_eq_false_iff_ne.mpr (by omega)
  have ee : (ex == 0) = decide (ex = 0) := by
    by_cases h : ex = 0
    · rw [decide_eq_true h, h]; rfl
    · rw [decide_eq_false h]; exact beq_eq_false_iff_ne.mpr h
  generalize decide (n = 0) = z at *
  generalize decide (ex = 0) = z2 at *
  generalize hd1 : decide (ex ≥ L) = d1
  generalize hd2 : decide (ex ≤ H) = d2
  cases v with
  | false =>
    simp only [Bool.false_and, Bool.false_eq_true, if_false]
    go_enter Tryd.func13, Tryd.ntmps13
    go_wp2_with (first | fail | (go_at_call 19; (with_reducible refine (HFo.out _ (HT.out.below bel)).mono ?_); rintro r w1 ⟨rfl, b1⟩; obtain ⟨hc1, hf1⟩ := bcell b1; have hz1 := below_size b1; (try simp at hz1); have zz1_0 : w.heap.size < w1.heap.size := (by omega)) | (go_at_call 26; (with_reducible refine (HV.out _ bel).mono ?_); rintro r w2 ⟨rfl, rfl⟩))
    all_goals
      go_ret
      exact ⟨by simp, bel⟩
  | true =>
    rw [Bool.true_and]
    by_cases h1 : cl = 1
    · subst h1
      rw [if_pos rfl]
      cases b <;> cases d1 <;> cases d2 <;> (
        go_enter Tryd.func13, Tryd.ntmps13
        go_wp2_with (first | fail | (go_at_call 19; (with_reducible refine (HFo.out _ (HT.out.below bel)).mono ?_); rintro r w1 ⟨rfl, b1⟩; obtain ⟨hc1, hf1⟩ := bcell b1; have hz1 := below_size b1; (try simp at hz1); have zz1_0 : w.heap.size < w1.heap.size := (by omega)) | (go_at_call 26; (with_reducible refine (HV.out _ bel).mono ?_); rintro r w2 ⟨rfl, rfl⟩) | (go_at_call 27; (with_reducible refine (HB.out _ bel).mono ?_); rintro r w3 ⟨rfl, b3⟩; obtain ⟨hc3, hf3⟩ := bcell b3; have hz3 := below_size b3; (try simp at hz3); have zz3_0 : w.heap.size < w3.heap.size := (by omega); have zz3_1 : w1.heap.size < w3.heap.size := (by omega)))
        all_goals
          go_ret
          exact ⟨by simp, bel⟩)
    · have t1 : (cl == 1) = false := beq_eq_false_iff_ne.mpr h1
      rw [if_neg h1]
      by_cases h2 : cl = 2
      · subst h2
        rw [if_pos rfl]
        cases z <;> cases z2 <;> (
          go_enter Tryd.func13, Tryd.ntmps13
          go_wp2_with (first | fail | (go_at_call 19; (with_reducible refine (HFo.out _ (HT.out.below bel)).mono ?_); rintro r w1 ⟨rfl, b1⟩; obtain ⟨hc1, hf1⟩ := bcell b1; have hz1 := below_size b1; (try simp at hz1); have zz1_0 : w.heap.size < w1.heap.size := (by omega)) | (go_at_call 26; (with_reducible refine (HV.out _ bel).mono ?_); rintro r w2 ⟨rfl, rfl⟩))
          all_goals
            go_ret
            exact ⟨by simp, bel⟩)
      · have t2 : (cl == 2) = false := beq_eq_false_iff_ne.mpr h2
        rw [if_neg h2]
        by_cases h3 : cl = 3
        · subst h3
          rw [if_pos (show (3 : Int) = 3 ∨ (3 : Int) = 4 from .inl rfl)]
          cases b2 <;> cases z2 <;> (
            go_enter Tryd.func13, Tryd.ntmps13
            go_wp2_with (first | fail | (go_at_call 19; (with_reducible refine (HFo.out _ (HT.out.below bel)).mono ?_); rintro r w1 ⟨rfl, b1⟩; obtain ⟨hc1, hf1⟩ := bcell b1; have hz1 := below_size b1; (try simp at hz1); have zz1_0 : w.heap.size < w1.heap.size := (by omega)) | (go_at_call 26; (with_reducible refine (HV.out _ bel).mono ?_); rintro r w2 ⟨rfl, rfl⟩) | (go_at_call 27; (try rw [hp1]); (with_reducible refine (HB2.out _ bel).mono ?_); rintro r w3 ⟨rfl, b3⟩; obtain ⟨hc3, hf3⟩ := bcell b3; have hz3 := below_size b3; (try simp at hz3); have zz3_0 : w.heap.size < w3.heap.size := (by omega); have zz3_1 : w1.heap.size < w3.heap.size := (by omega)))
            all_goals
              go_ret
              exact ⟨by simp, bel⟩)
        · have t3 : (cl == 3) = false := beq_eq_false_iff_ne.mpr h3
          by_cases h4 : cl = 4
          · subst h4
            rw [if_pos (show (4 : Int) = 3 ∨ (4 : Int) = 4 from .inr rfl)]
            cases b2 <;> cases z2 <;> (
              go_enter Tryd.func13, Tryd.ntmps13
              go_wp2_with (first | fail | (go_at_call 19; (with_reducible refine (HFo.out _ (HT.out.below bel)).mono ?_); rintro r w1 ⟨rfl, b1⟩; obtain ⟨hc1, hf1⟩ := bcell b1; have hz1 := below_size b1; (try simp at hz1); have zz1_0 : w.heap.size < w1.heap.size := (by omega)) | (go_at_call 26; (with_reducible refine (HV.out _ bel).mono ?_); rintro r w2 ⟨rfl, rfl⟩) | (go_at_call 27; (try rw [hp1]); (with_reducible refine (HB2.out _ bel).mono ?_); rintro r w3 ⟨rfl, b3⟩; obtain ⟨hc3, hf3⟩ := bcell b3; have hz3 := below_size b3; (try simp at hz3); have zz3_0 : w.heap.size < w3.heap.size := (by omega); have zz3_1 : w1.heap.size < w3.heap.size := (by omega)))
              all_goals
                go_ret
                exact ⟨by simp, bel⟩)
          · have t4 : (cl == 4) = false := beq_eq_false_iff_ne.mpr h4
            rw [if_neg (show ¬ (cl = 3 ∨ cl = 4) by omega)]
            go_enter Tryd.func13, Tryd.ntmps13
            go_wp2_with (first | fail | (go_at_call 19; (with_reducible refine (HFo.out _ (HT.out.below bel)).mono ?_); rintro r w1 ⟨rfl, b1⟩; obtain ⟨hc1, hf1⟩ := bcell b1; have hz1 := below_size b1; (try simp at hz1); have zz1_0 : w.heap.size < w1.heap.size := (by omega)) | (go_at_call 26; (with_reducible refine (HV.out _ bel).mono ?_); rintro r w2 ⟨rfl, rfl⟩))
            all_goals
              go_ret
              exact ⟨by simp, bel⟩
/-- Whether there is such a decimal datum. -/
def decOk (f cl : Int) (l : List Int) (ex : Int) : Bool := isDec f && (okN l && (if cl = 1 then decide (val l < 10 ^ (pN f + 1)) && (decide (ex ≥ dL f) && decide (ex ≤ dH f)) else if cl = 2 then decide (l.length = 0) && decide (ex = 0) else if cl = 3 ∨ cl = 4 then decide (val l < 10 ^ pN f) && decide (ex = 0) else false))
set_option maxHeartbeats 2000000 in
theorem dchk_no {f cl ex : Int} {ng : Bool} {A : Option Addr} {n c : Nat} (w : World) (h : isDec f = false) : Calls Tryd.prog 13 #[dV f cl ng A n c ex] w fun r w' => r = .returned (.int .i64 1) ∧ Below w.heap.size w w' := by
  have HFo := Lib.hid fun w' => formatOf_no w' h
  clear h
  go_enter Tryd.func13, Tryd.ntmps13
  go_wp2_with (first | fail | (go_at_call 19; (with_reducible refine (HFo.out _).mono ?_); rintro r w1 ⟨rfl, b1⟩; obtain ⟨hc1, hf1⟩ := bcell b1; have hz1 := below_size b1; (try simp at hz1); have zz1_0 : w.heap.size < w1.heap.size := (by omega)))
  all_goals
    go_ret
    exact ⟨by simp, bel⟩
theorem dcheck_any {f cl ex : Int} {ng : Bool} {A : Option Addr} {n c : Nat} {l : List Int} (w : World) (hT : Tab w) (hA : Kd.C (Kd.int .u32) w A n l) (la : Lim l) (hc : n ≤ c) :
    Calls Tryd.prog 13 #[dV f cl ng A n c ex] w fun r w' => r = .returned (.int .i64 (if decOk f cl l ex then 0 else 1)) ∧ Below w.heap.size w w' := by
  unfold decOk
  cases hf : isDec f with
  | false => rw [Bool.false_and, if_neg (by decide)]; exact dchk_no w hf
  | true =>
    obtain ⟨n1, n2, n3, n4, n5, n6, n7, n8, n9, n10, n11⟩ := dec_nums hf
    have hl : l.length = n := hA.1
    have hP : dP f = ((pN f + 1 : Nat) : Int) := by omega
    have HB : Hid (∀ w', Below w.heap.size w w' → Calls Tryd.prog 27 #[.slice A n c, .int .i64 (dP f)] w' fun r w'' => r = .returned (.bool (okN l && decide (val l < 10 ^ (pN f + 1)))) ∧ Below w'.heap.size w' w'') := Lib.hid fun w' hb => by
      rw [hP]; exact dbelow_any w' (Kd.C_below hA hb) la hc (by omega) (by omega)
    have HB2 : Hid (∀ w', Below w.heap.size w w' → Calls Tryd.prog 27 #[.slice A n c, .int .i64 (pN f : Nat)] w' fun r w'' => r = .returned (.bool (okN l && decide (val l < 10 ^ pN f))) ∧ Below w'.heap.size w' w'') := Lib.hid fun w' hb => dbelow_any w' (Kd.C_below hA hb) la hc (by omega) (by omega)
    have h := dchk_core (f := f) (cl := cl) (ex := ex) (ng := ng) (p1 := (pN f : Nat)) w hT (Lib.hid fun w' h => formatOf_ok w' hf h) (by rw [hP, IntKind.wrap_i64]; omega) (Lib.hid fun w' hb => valid_any A n c l w' (Kd.C_below hA hb) la) HB HB2
    rw [hl, Bool.true_and]
    cases hok : okN l with
    | false => rw [hok] at h; exact h
    | true =>
      rw [hok] at h
      simp only [Bool.true_and] at h ⊢
      exact h
end Go.Proofs.YtiplbpfdkcddlaaDoor
