/- binary: what a datum is in bits. binary: contentOf, pack, Encode. Cells that stay as they are. binary: pack. -/
import Derived.Test.YtacnkcojhlbkoaaGreatDoorJVal9
set_option linter.unusedSimpArgs false
set_option linter.unusedVariables false
set_option linter.unnecessarySimpa false
namespace Go.Proofs.YtacnkcojhlbkoaaGreatDoor.NL
open Go Go.RowKit Go.Proofs
theorem Wd.or' {M N : Nat} {hi lo hi' lo' : Int} (h : Wd M hi lo) (h' : Wd N hi' lo') (key : M ||| N = M + N) : Wd (M + N) (bits .or .u64 hi hi') (bits .or .u64 lo lo') := by
  obtain ⟨H, L, rfl, rfl, h1, h2, rfl⟩ := h.nats
  obtain ⟨H', L', rfl, rfl, h3, h4, rfl⟩ := h'.nats
  rw [u64_or_nat _ _ h1 h3, u64_or_nat _ _ h2 h4]
  have hl : L ||| L' < 18446744073709551616 := Nat.or_lt_two_pow (n := 64) h2 h4
  have hh : H ||| H' < 18446744073709551616 := Nat.or_lt_two_pow (n := 64) h1 h3
  refine Wd.mk hh hl ?_
  rw [← key]
  have e1 : H * 18446744073709551616 + L = (H <<< 64) ||| L := by rw [← Nat.shiftLeft_add_eq_or_of_lt (by exact h2), Nat.shiftLeft_eq]
  have e2 : H' * 18446744073709551616 + L' = (H' <<< 64) ||| L' := by rw [← Nat.shiftLeft_add_eq_or_of_lt (by exact h4), Nat.shiftLeft_eq]
  have e3 : (H ||| H') * 18446744073709551616 + (L ||| L') = ((H ||| H') <<< 64) ||| (L ||| L') := by rw [← Nat.shiftLeft_add_eq_or_of_lt (by exact hl), Nat.shiftLeft_eq]
  rw [e1, e2, e3, Nat.shiftLeft_or_distrib]
  rw [Nat.or_assoc, Nat.or_assoc, ← Nat.or_assoc (H' <<< 64) L, Nat.or_comm (H' <<< 64) L, Nat.or_assoc L]
/-- A bit that is not there yet. -/
theorem or_bit {M j : Nat} (h : M / 2 ^ j % 2 = 0) : M ||| 2 ^ j = M + 2 ^ j := by
  have h1 := Nat.div_add_mod M (2 ^ j)
  have h2 := Nat.mod_lt M (Nat.two_pow_pos j)
  obtain ⟨q, hq⟩ : ∃ q, M / 2 ^ j = 2 * q := ⟨M / 2 ^ j / 2, by omega⟩
  rw [hq] at h1
  generalize M % 2 ^ j = B at *
  have e1 : 2 ^ j * (2 * q) = q * 2 ^ (j + 1) := by rw [Nat.pow_succ, Nat.mul_comm q, Nat.mul_assoc]
  rw [e1] at h1
  have e2 : (q * 2 ^ (j + 1)) ||| B = M := by rw [nat_join (j + 1) _ _ (Nat.mul_mod_left _ _) (by rw [Nat.pow_succ]; omega)]; exact h1
  have e3 : (2 ^ j) ||| B = 2 ^ j + B := nat_join j _ _ (Nat.mod_self _) h2
  have e4 : (q * 2 ^ (j + 1)) ||| (2 ^ j + B) = q * 2 ^ (j + 1) + (2 ^ j + B) := nat_join (j + 1) _ _ (Nat.mul_mod_left _ _) (by rw [Nat.pow_succ]; omega)
  rw [← e2, Nat.or_assoc, Nat.or_comm B, e3, e4, e2]
  omega
end Go.Proofs.YtacnkcojhlbkoaaGreatDoor.NL
namespace Go.Proofs.YtacnkcojhlbkoaaGreatDoor
open Go.RowKit Go.Proofs.YtacnkcojhlbkoaaGreatDoorW.PrintWords Go.Proofs.YtacnkcojhlbkoaaGreatDoorW.PrintLast Go.Proofs.YtacnkcojhlbkoaaGreatDoorW.PrintMore Go.Proofs.YtacnkcojhlbkoaaGreatDoor.NL
set_option maxRecDepth 100000
set_option exponentiation.threshold 130

set_option maxHeartbeats 1000000 in
theorem wor_any' {M N : Nat} {hi lo hi' lo' : Int} (w : World) (h : Wd M hi lo) (h' : Wd N hi' lo') (key : M ||| N = M + N) :
    Calls Tryz.prog 102 #[wV hi lo, wV hi' lo'] w (GivesW (M + N) w) := by
  have HV := Lib.hid (h.or' h' key)
  obtain ⟨a0, a1, b0, b1, -⟩ := h
  obtain ⟨c0, c1, d0, d1, -⟩ := h'
  clear key
  go_enter Tryz.func102, Tryz.ntmps102
  go_wp2
  try go_region
  try go_wp2
  exact bodyPost_ret (v := wV (bits .or .u64 hi hi') (bits .or .u64 lo lo')) (by simp [results, Tryz.results102, go_sem]) rfl ⟨_, _, rfl, HV, bel⟩

theorem fmE_bd (f : Int) : 0 ≤ fmE f ∧ fmE f ≤ 20000 := by unfold fmE; repeat' split <;> omega
theorem fmW_bd (f : Int) : 16 ≤ fmW f ∧ fmW f ≤ 128 := by unfold fmW; repeat' split <;> omega
/-- The greatest exponent field. -/
def lastN (f : Int) : Nat := (2 * fmE f + 1).toNat
def frontN (f : Int) : Nat := if f = 4 then (fmD f).toNat else (fmD f).toNat - 1

set_option maxHeartbeats 1000000 in
theorem last_any (f : Int) (w : World) : Calls Tryz.prog 123 #[kV f] w fun e w' => e = .returned (wV 0 (lastN f)) ∧ Below w.heap.size w w' := by
  obtain ⟨h1, h2⟩ := fmE_bd f
  have hl : ((lastN f : Nat) : Int) = 2 * fmE f + 1 := by unfold lastN; omega
  rw [hl]
  show Calls Tryz.prog 123 #[.agg #[.int .i64 (fmD f), .int .i64 (fmE f), .int .i64 (fmL f), .int .i64 (fmH f), .int .i64 (fmW f), .int .i64 f]] w _
  clear hl
  generalize fmD f = D at *
  generalize fmE f = E at *
  generalize fmL f = L at *
  generalize fmH f = H at *
  generalize fmW f = W at *
  go_enter Tryz.func123, Tryz.ntmps123
  go_wp2
  exact bodyPost_ret (v := wV 0 (2 * E + 1)) (by simp [results, Tryz.results123, go_sem]) rfl ⟨rfl, bel⟩

set_option maxHeartbeats 1000000 in
theorem explicit_any (f : Int) (w : World) : Calls Tryz.prog 103 #[kV f] w fun e w' => e = .returned (.bool (f == 4)) ∧ Below w.heap.size w w' := by
  show Calls Tryz.prog 103 #[.agg #[.int .i64 (fmD f), .int .i64 (fmE f), .int .i64 (fmL f), .int .i64 (fmH f), .int .i64 (fmW f), .int .i64 f]] w _
  generalize fmD f = D at *
  generalize fmE f = E at *
  generalize fmL f = L at *
  generalize fmH f = H at *
  generalize fmW f = W at *
  go_enter Tryz.func103, Tryz.ntmps103
  go_wp2
  exact bodyPost_ret (v := .bool (f == 4)) (by simp [results, Tryz.results103, go_sem]) rfl ⟨rfl, bel⟩

set_option maxHeartbeats 1000000 in
theorem front_any (f : Int) (w : World) : Calls Tryz.prog 101 #[kV f] w fun e w' => e = .returned (.int .i64 (frontN f : Nat)) ∧ Below w.heap.size w w' := by
  have HE := Lib.hid fun w' => explicit_any f w'
  obtain ⟨h1, h2⟩ := fmD_bd f
  have hl : ((frontN f : Nat) : Int) = if (f == 4) = true then fmD f else fmD f - 1 := by unfold frontN; simp; split <;> omega
  rw [hl]
  clear hl
  show Calls Tryz.prog 101 #[.agg #[.int .i64 (fmD f), .int .i64 (fmE f), .int .i64 (fmL f), .int .i64 (fmH f), .int .i64 (fmW f), .int .i64 f]] w _
  unfold kV at HE
  generalize fmD f = D at *
  generalize fmE f = E at *
  generalize fmL f = L at *
  generalize fmH f = H at *
  generalize fmW f = W at *
  generalize (f == 4) = b at *
  cases b with
  | true =>
    go_enter Tryz.func101, Tryz.ntmps101
    go_wp2_with (go_at_call 103; (with_reducible refine (HE.out _).mono ?_); rintro e w1 ⟨rfl, b1⟩; obtain ⟨hc1, hf1⟩ := bcell b1; have hz1 := below_size b1; (try simp at hz1); have z0 : w.heap.size < w1.heap.size := (by omega))
    exact bodyPost_ret (v := .int .i64 D) (by simp [results, Tryz.results101, go_sem, hc1, z0]) rfl ⟨by simp, bel⟩
  | false =>
    go_enter Tryz.func101, Tryz.ntmps101
    go_wp2_with (go_at_call 103; (with_reducible refine (HE.out _).mono ?_); rintro e w1 ⟨rfl, b1⟩; obtain ⟨hc1, hf1⟩ := bcell b1; have hz1 := below_size b1; (try simp at hz1); have z0 : w.heap.size < w1.heap.size := (by omega))
    exact bodyPost_ret (v := .int .i64 (D - 1)) (by simp [results, Tryz.results101, go_sem, hc1, z0]) rfl ⟨by simp, bel⟩

/-- A field and a fraction. -/
def GivesFR (F R : Nat) (w : World) (e : Ending) (w' : World) : Prop := ∃ hi lo : Int, e = .returned (.tuple #[wV 0 F, wV hi lo]) ∧ Hid (Wd R hi lo) ∧ Below w.heap.size w w'
set_option maxHeartbeats 1000000 in
theorem bits_number {F R : Nat} {hi lo : Int} (f : Int) (w : World) (hw : Wd R hi lo) : Calls Tryz.prog 150 #[.agg #[.int .u64 0, .int .u64 F, .int .u64 hi, .int .u64 lo], kV f] w (GivesFR F R w) := by
  have HW := Lib.hid hw
  clear hw
  show Calls Tryz.prog 150 #[.agg #[.int .u64 0, .int .u64 F, .int .u64 hi, .int .u64 lo], .agg #[.int .i64 (fmD f), .int .i64 (fmE f), .int .i64 (fmL f), .int .i64 (fmH f), .int .i64 (fmW f), .int .i64 f]] w _
  go_enter Tryz.func150, Tryz.ntmps150
  go_wp2
  go_region
  go_wp2
  exact bodyPost_ret (v := .tuple #[wV 0 F, wV hi lo]) (by simp [results, Tryz.results150, go_sem]) rfl ⟨_, _, rfl, HW, bel⟩
set_option maxHeartbeats 1000000 in
theorem bits_endless (f : Int) (w : World) : Calls Tryz.prog 148 #[.agg #[], kV f] w (GivesFR (lastN f) 0 w) := by
  have HL := Lib.hid fun w' => last_any f w'
  show Calls Tryz.prog 148 #[.agg #[], .agg #[.int .i64 (fmD f), .int .i64 (fmE f), .int .i64 (fmL f), .int .i64 (fmH f), .int .i64 (fmW f), .int .i64 f]] w _
  generalize lastN f = T at *
  go_enter Tryz.func148, Tryz.ntmps148
  go_wp2_with (go_at_call 123; (with_reducible refine (HL.out _).mono ?_); rintro e w1 ⟨rfl, b1⟩; obtain ⟨hc1, hf1⟩ := bcell b1; have hz1 := below_size b1; (try simp at hz1); have z0 : w.heap.size < w1.heap.size := (by omega); have z1 : w.heap.size + 1 < w1.heap.size := (by omega); (try have z2 : w.heap.size + 2 < w1.heap.size := (by omega)))
  exact bodyPost_ret (v := .tuple #[wV 0 T, wV 0 0]) (by simp [results, Tryz.results148, go_sem, hc1, z0, z1]) rfl ⟨_, _, rfl, Lib.hid (Wd.mk (H := 0) (L := 0) (by omega) (by omega) rfl), bel⟩

theorem D_bd2 (f : Int) : 11 ≤ fmD f ∧ fmD f ≤ 113 := by unfold fmD; repeat' split <;> omega
theorem wd_one : Wd 1 0 1 := Wd.mk (H := 0) (L := 1) (by omega) (by omega) rfl
set_option maxHeartbeats 4000000 in
theorem bits_none {R : Nat} {hi lo : Int} (f : Int) (q : Bool) (w : World) (hw : Wd R hi lo) (hR : R < 2 ^ (fmD f - 2).toNat) : Calls Tryz.prog 149 #[.agg #[.int .u64 hi, .int .u64 lo, .bool q], kV f] w (GivesFR (lastN f) (R + if q then 2 ^ (fmD f - 2).toNat else 0) w) := by
  have HW := Lib.hid hw
  obtain ⟨h1, h2⟩ := D_bd2 f
  have HL := Lib.hid fun w' => last_any f w'
  obtain ⟨p, hp⟩ : ∃ p : Nat, fmD f - 2 = p := ⟨(fmD f - 2).toNat, by omega⟩
  have hp2 : (fmD f - 2).toNat = p := by omega
  have hp3 : p ≤ 111 := by omega
  have HS : Hid (∀ w', Calls Tryz.prog 100 #[wV 0 1, .int .i64 p] w' (GivesW (2 ^ p) w')) := Lib.hid fun w' => by
    have := wshl_any p w' wd_one (by omega)
    rwa [Nat.one_mul, Nat.mod_eq_of_lt (show 2 ^ p < W128 from Nat.lt_of_le_of_lt (Nat.pow_le_pow_right (by omega) hp3) (by decide))] at this
  have key : R ||| 2 ^ p = R + 2 ^ p := or_bit (by rw [Nat.div_eq_of_lt (by rwa [hp2] at hR)])
  have HO : Hid (∀ h l w', Hid (Wd (2 ^ p) h l) → Calls Tryz.prog 102 #[wV hi lo, wV h l] w' (GivesW (R + 2 ^ p) w')) := Lib.hid fun h l w' hh => wor_any' w' HW.out hh.out key
  rw [hp2]
  clear hw hp2 hR key
  show Calls Tryz.prog 149 #[.agg #[.int .u64 hi, .int .u64 lo, .bool q], .agg #[.int .i64 (fmD f), .int .i64 (fmE f), .int .i64 (fmL f), .int .i64 (fmH f), .int .i64 (fmW f), .int .i64 f]] w _
  unfold kV at HL
  generalize lastN f = T at *
  generalize fmD f = D at *
  generalize fmE f = E at *
  generalize fmL f = L at *
  generalize fmH f = H at *
  generalize fmW f = W at *
  cases q with
  | true =>
    rw [if_pos rfl]
    generalize 2 ^ p = P at *
    have hwp : IntKind.i64.wrap (p : Int) = p := by rw [IntKind.wrap_i64]; omega
    go_enter Tryz.func149, Tryz.ntmps149
    go_wp2
    go_region_with (first | (go_at_call 100; (try rw [hwp]); (with_reducible refine (HS.out _).mono ?_); rintro e w1 ⟨hi1, lo1, rfl, hw1, b1⟩; obtain ⟨hc1, hf1⟩ := bcell b1; have hz1 := below_size b1; (try simp at hz1); have z01 : w.heap.size < w1.heap.size := (by omega); have z11 : w.heap.size + 1 < w1.heap.size := (by omega); have z21 : w.heap.size + 1 + 1 < w1.heap.size := (by omega); have z31 : w.heap.size + 1 + 1 + 1 < w1.heap.size := (by omega); have z41 : w.heap.size + 1 + 1 + 1 + 1 < w1.heap.size := (by omega)) | (go_at_call 102; (with_reducible refine (HO.out _ _ _ hw1).mono ?_); rintro e w2 ⟨hi2, lo2, rfl, hw2, b2⟩; obtain ⟨hc2, hf2⟩ := bcell b2; have hz2 := below_size b2; (try simp at hz2); have z02 : w.heap.size < w2.heap.size := (by omega); have z12 : w.heap.size + 1 < w2.heap.size := (by omega); have z22 : w.heap.size + 1 + 1 < w2.heap.size := (by omega); have z32 : w.heap.size + 1 + 1 + 1 < w2.heap.size := (by omega); have z42 : w.heap.size + 1 + 1 + 1 + 1 < w2.heap.size := (by omega)))
    all_goals
      go_wp2
      go_region_with (go_at_call 123; (with_reducible refine (HL.out _).mono ?_); rintro e w3 ⟨rfl, b3⟩; obtain ⟨hc3, hf3⟩ := bcell b3; have hz3 := below_size b3; (try simp at hz3); have z03 : w.heap.size < w3.heap.size := (by omega); have z13 : w.heap.size + 1 < w3.heap.size := (by omega); have z23 : w.heap.size + 1 + 1 < w3.heap.size := (by omega); have z33 : w.heap.size + 1 + 1 + 1 < w3.heap.size := (by omega); have z43 : w.heap.size + 4 < w3.heap.size := (by omega))
      all_goals
        go_wp2
        exact bodyPost_ret (v := .tuple #[wV 0 T, wV hi2 lo2]) (by simp [results, Tryz.results149, go_sem, hc3, hc2, hc1, z23, z33, z22, z32, z42, z21, z31, z41]) rfl ⟨_, _, rfl, hw2, bel⟩
  | false =>
    rw [if_neg (by simp), Nat.add_zero]
    go_enter Tryz.func149, Tryz.ntmps149
    go_wp2
    go_region_with (go_at_call 123; (with_reducible refine (HL.out _).mono ?_); rintro e w3 ⟨rfl, b3⟩; obtain ⟨hc3, hf3⟩ := bcell b3; have hz3 := below_size b3; (try simp at hz3); have z03 : w.heap.size < w3.heap.size := (by omega); have z13 : w.heap.size + 1 < w3.heap.size := (by omega); have z23 : w.heap.size + 1 + 1 < w3.heap.size := (by omega); have z33 : w.heap.size + 1 + 1 + 1 < w3.heap.size := (by omega); have z43 : w.heap.size + 4 < w3.heap.size := (by omega))
    all_goals
      go_wp2
      exact bodyPost_ret (v := .tuple #[wV 0 T, wV hi lo]) (by simp [results, Tryz.results149, go_sem, hc3, z23, z33]) rfl ⟨_, _, rfl, HW, bel⟩
end Go.Proofs.YtacnkcojhlbkoaaGreatDoor

set_option linter.unusedSimpArgs false
set_option linter.unusedVariables false
set_option linter.unnecessarySimpa false
namespace Go.Proofs.YtacnkcojhlbkoaaGreatDoor
open Go.RowKit Go.Proofs.YtacnkcojhlbkoaaGreatDoorW.PrintWords Go.Proofs.YtacnkcojhlbkoaaGreatDoorW.PrintLast Go.Proofs.YtacnkcojhlbkoaaGreatDoorW.PrintMore Go.Proofs.YtacnkcojhlbkoaaGreatDoor.NL
set_option maxRecDepth 100000
set_option exponentiation.threshold 130

theorem len4 {w : World} {A : Option Addr} {n c : Nat} {a : List Int} (hA : Kd.C (Kd.int .u32) w A n a) (la : Lim a) (hc : n ≤ c) (hok : okN a = true) (hb : val a < W128) : n ≤ 4 := by
  obtain ⟨h1, h2⟩ := ok_num hA la hc hok (Below.refl _ _)
  exact len_le h1 (by show _ < 4294967296 ^ 4; exact hb)
def CInf (w : World) (e : Ending) (w' : World) : Prop := e = .returned (.iface 144 (.agg #[])) ∧ Below w.heap.size w w'
def CNan (N : Nat) (q : Bool) (w : World) (e : Ending) (w' : World) : Prop := ∃ hi lo : Int, e = .returned (.iface 146 (.agg #[.int .u64 hi, .int .u64 lo, .bool q])) ∧ Hid (Wd N hi lo) ∧ Below w.heap.size w w'
def CNum (M N : Nat) (w : World) (e : Ending) (w' : World) : Prop := ∃ hi lo : Int, e = .returned (.iface 149 (.agg #[.int .u64 0, .int .u64 M, .int .u64 hi, .int .u64 lo])) ∧ Hid (Wd N hi lo) ∧ Below w.heap.size w w'
abbrev WordOf (A : Option Addr) (n c : Nat) (N : Nat) (w : World) : Prop := ∀ w', Below w.heap.size w w' → Calls Tryz.prog 122 #[.slice A n c] w' (GivesW N w')

set_option maxHeartbeats 2000000 in
theorem cont_inf {N : Nat} {A : Option Addr} {n c : Nat} (f g ex : Int) (ng : Bool) (w : World) (hA : WordOf A n c N w) :
    Calls Tryz.prog 99 #[kV f, dV g 2 ng A n c ex] w (CInf w) := by
  have HWO := Lib.hid hA
  clear hA
  show Calls Tryz.prog 99 #[.agg #[.int .i64 (fmD f), .int .i64 (fmE f), .int .i64 (fmL f), .int .i64 (fmH f), .int .i64 (fmW f), .int .i64 f], dV g 2 ng A n c ex] w _
  generalize fmD f = D at *
  generalize fmE f = E at *
  generalize fmL f = L at *
  generalize fmH f = H at *
  generalize fmW f = W at *
  go_enter Tryz.func99, Tryz.ntmps99
  go_wp2_with (go_at_call 122; (with_reducible refine (HWO.out _ bel).mono ?_); rintro e w1 ⟨hi, lo, rfl, hw1, b1⟩; obtain ⟨hc1, hf1⟩ := bcell b1; have hz1 := below_size b1; (try simp at hz1); have z01 : w.heap.size < w1.heap.size := (by omega); have z11 : w.heap.size + 1 < w1.heap.size := (by omega))
  exact bodyPost_ret (v := .iface 144 (.agg #[])) (by simp [results, Tryz.results99, go_sem]) rfl ⟨rfl, bel⟩
set_option maxHeartbeats 2000000 in
theorem cont_nan {N : Nat} {A : Option Addr} {n c : Nat} (f g cl ex : Int) (ng : Bool) (w : World) (h1 : cl ≠ 1) (h2 : cl ≠ 2) (hA : WordOf A n c N w) :
    Calls Tryz.prog 99 #[kV f, dV g cl ng A n c ex] w (CNan N (cl == 3) w) := by
  have HWO := Lib.hid hA
  have t1 : (cl == 1) = false := by simpa using h1
  have t2 : (cl == 2) = false := by simpa using h2
  clear hA h1 h2
  obtain ⟨q, hq⟩ : ∃ q, (cl == 3) = q := ⟨_, rfl⟩
  rw [hq]
  show Calls Tryz.prog 99 #[.agg #[.int .i64 (fmD f), .int .i64 (fmE f), .int .i64 (fmL f), .int .i64 (fmH f), .int .i64 (fmW f), .int .i64 f], dV g cl ng A n c ex] w _
  generalize fmD f = D at *
  generalize fmE f = E at *
  generalize fmL f = L at *
  generalize fmH f = H at *
  generalize fmW f = W at *
  go_enter Tryz.func99, Tryz.ntmps99
  go_wp2_with (go_at_call 122; (with_reducible refine (HWO.out _ bel).mono ?_); rintro e w1 ⟨hi, lo, rfl, hw1, b1⟩; obtain ⟨hc1, hf1⟩ := bcell b1; have hz1 := below_size b1; (try simp at hz1); have z01 : w.heap.size < w1.heap.size := (by omega); have z11 : w.heap.size + 1 < w1.heap.size := (by omega))
  exact bodyPost_ret (v := .iface 146 (.agg #[.int .u64 hi, .int .u64 lo, .bool q])) (by simp [results, Tryz.results99, go_sem]) rfl ⟨_, _, rfl, hw1, bel⟩

set_option maxHeartbeats 4000000 in
theorem cont_sub {N : Nat} {A : Option Addr} {n c : Nat} (f g ex : Int) (ng : Bool) (w : World) (hz : (blen N : Int) ≠ fmD f) (hA : WordOf A n c N w) :
    Calls Tryz.prog 99 #[kV f, dV g 1 ng A n c ex] w (CNum 0 N w) := by
  have HWO := Lib.hid hA
  have HSZ : Hid (∀ hi lo w', Hid (Wd N hi lo) → Calls Tryz.prog 73 #[wV hi lo] w' fun e w'' => e = .returned (.int .i64 (blen N)) ∧ Below w'.heap.size w' w'') := Lib.hid fun hi lo w' hw => wsize_any w' hw.out
  have t1 : ((blen N : Int) == fmD f) = false := by simpa using hz
  clear hA hz
  show Calls Tryz.prog 99 #[.agg #[.int .i64 (fmD f), .int .i64 (fmE f), .int .i64 (fmL f), .int .i64 (fmH f), .int .i64 (fmW f), .int .i64 f], dV g 1 ng A n c ex] w _
  generalize blen N = z at *
  generalize fmD f = D at *
  generalize fmE f = E at *
  generalize fmL f = L at *
  generalize fmH f = H at *
  generalize fmW f = W at *
  go_enter Tryz.func99, Tryz.ntmps99
  go_wp2_with (go_at_call 122; (with_reducible refine (HWO.out _ bel).mono ?_); rintro e w1 ⟨hi, lo, rfl, hw1, b1⟩; obtain ⟨hc1, hf1⟩ := bcell b1; have hz1 := below_size b1; (try simp at hz1); have z01 : w.heap.size < w1.heap.size := (by omega); have z11 : w.heap.size + 1 < w1.heap.size := (by omega))
  go_region_with (go_at_call 73; (with_reducible refine (HSZ.out _ _ _ hw1).mono ?_); rintro e w2 ⟨rfl, b2⟩; obtain ⟨hc2, hf2⟩ := bcell b2; have hz2 := below_size b2; (try simp at hz2); have z02 : w.heap.size < w2.heap.size := (by omega); have z12 : w.heap.size + 1 < w2.heap.size := (by omega); (try have y12 : w1.heap.size < w2.heap.size := (by omega)); have q12 : w1.heap.size ≤ w2.heap.size := (by omega))
  all_goals
    go_wp2
    exact bodyPost_ret (v := .iface 149 (.agg #[.int .u64 0, .int .u64 ((0 : Nat) : Int), .int .u64 hi, .int .u64 lo])) (by simp [results, Tryz.results99, go_sem]) rfl ⟨_, _, rfl, hw1, bel⟩
set_option maxHeartbeats 4000000 in
theorem cont_full {N : Nat} {A : Option Addr} {n c : Nat} (f g ex : Int) (ng : Bool) (w : World) (hz : (blen N : Int) = fmD f) (hl : fmL f ≤ ex) (hh : ex ≤ fmH f) (hA : WordOf A n c N w) :
    Calls Tryz.prog 99 #[kV f, dV g 1 ng A n c ex] w (CNum (ex - fmL f + 1).toNat (N % 2 ^ (fmD f - 1).toNat) w) := by
  have HWO := Lib.hid hA
  have HSZ : Hid (∀ hi lo w', Hid (Wd N hi lo) → Calls Tryz.prog 73 #[wV hi lo] w' fun e w'' => e = .returned (.int .i64 (blen N)) ∧ Below w'.heap.size w' w'') := Lib.hid fun hi lo w' hw => wsize_any w' hw.out
  obtain ⟨d1, d2⟩ := D_bd2 f
  obtain ⟨l1, l2⟩ := fmL_bd f
  obtain ⟨l3, l4⟩ := fmH_bd f
  obtain ⟨p, hp⟩ : ∃ p : Nat, fmD f - 1 = p := ⟨(fmD f - 1).toNat, by omega⟩
  have hp2 : (fmD f - 1).toNat = p := by omega
  have HLO : Hid (∀ hi lo w', Hid (Wd N hi lo) → Calls Tryz.prog 106 #[wV hi lo, .int .i64 p] w' (GivesW (N % 2 ^ p) w')) := Lib.hid fun hi lo w' hw => wlow_any p w' hw.out (by omega)
  have t1 : ((blen N : Int) == fmD f) = true := by simpa using hz
  have hwp : IntKind.i64.wrap (p : Int) = p := by rw [IntKind.wrap_i64]; omega
  obtain ⟨m, hm⟩ : ∃ m : Nat, ex - fmL f + 1 = m := ⟨(ex - fmL f + 1).toNat, by omega⟩
  have hm2 : (ex - fmL f + 1).toNat = m := by omega
  have hm3 : IntKind.u64.wrap (IntKind.i64.wrap (IntKind.i64.wrap (ex - fmL f) + 1)) = m := by simp only [IntKind.wrap_i64, IntKind.wrap_u64]; omega
  rw [hp2, hm2]
  clear hA hz hp2 hm2
  generalize N % 2 ^ p = R at *
  show Calls Tryz.prog 99 #[.agg #[.int .i64 (fmD f), .int .i64 (fmE f), .int .i64 (fmL f), .int .i64 (fmH f), .int .i64 (fmW f), .int .i64 f], dV g 1 ng A n c ex] w _
  generalize blen N = z at *
  generalize fmD f = D at *
  generalize fmE f = E at *
  generalize fmL f = L at *
  generalize fmH f = H at *
  generalize fmW f = W at *
  go_enter Tryz.func99, Tryz.ntmps99
  go_wp2_with (go_at_call 122; (with_reducible refine (HWO.out _ bel).mono ?_); rintro e w1 ⟨hi, lo, rfl, hw1, b1⟩; obtain ⟨hc1, hf1⟩ := bcell b1; have hz1 := below_size b1; (try simp at hz1); have z01 : w.heap.size < w1.heap.size := (by omega); have z11 : w.heap.size + 1 < w1.heap.size := (by omega))
  go_region_with (go_at_call 73; (with_reducible refine (HSZ.out _ _ _ hw1).mono ?_); rintro e w2 ⟨rfl, b2⟩; obtain ⟨hc2, hf2⟩ := bcell b2; have hz2 := below_size b2; (try simp at hz2); have z02 : w.heap.size < w2.heap.size := (by omega); have z12 : w.heap.size + 1 < w2.heap.size := (by omega); (try have y12 : w1.heap.size < w2.heap.size := (by omega)); have q12 : w1.heap.size ≤ w2.heap.size := (by omega))
  all_goals
    go_wp2
    have k0 : w2.cell? ⟨w.heap.size, 0, none⟩ = some (.int .i64 D) := by first | (go_keep; done) | (rw [hc2 _ _ (by first | omega | (simp; omega) | simp)]; simp [go_sem, hc1, z01, z11, Nat.le_of_lt z01, Nat.le_of_lt z11])
    have k1 : w2.cell? ⟨w.heap.size, 2, none⟩ = some (.int .i64 L) := by first | (go_keep; done) | (rw [hc2 _ _ (by first | omega | (simp; omega) | simp)]; simp [go_sem, hc1, z01, z11, Nat.le_of_lt z01, Nat.le_of_lt z11])
    have k2 : w2.cell? ⟨w.heap.size + 1, 4, none⟩ = some (.int .i64 ex) := by first | (go_keep; done) | (rw [hc2 _ _ (by first | omega | (simp; omega) | simp)]; simp [go_sem, hc1, z01, z11, Nat.le_of_lt z01, Nat.le_of_lt z11])
    have k3 : w2.cell? ⟨w1.heap.size, 0, none⟩ = some (.int .u64 hi) := by first | (go_keep; done) | (rw [hc2 _ _ (by first | omega | (simp; omega) | simp)]; simp [go_sem, hc1, z01, z11, Nat.le_of_lt z01, Nat.le_of_lt z11])
    have k4 : w2.cell? ⟨w1.heap.size, 1, none⟩ = some (.int .u64 lo) := by first | (go_keep; done) | (rw [hc2 _ _ (by first | omega | (simp; omega) | simp)]; simp [go_sem, hc1, z01, z11, Nat.le_of_lt z01, Nat.le_of_lt z11])
    go_region_held3 (fun w' => w'.cell? ⟨w.heap.size, 0, none⟩ = some (.int .i64 D) ∧ w'.cell? ⟨w.heap.size, 2, none⟩ = some (.int .i64 L) ∧ w'.cell? ⟨w.heap.size + 1, 4, none⟩ = some (.int .i64 ex) ∧ w'.cell? ⟨w1.heap.size, 0, none⟩ = some (.int .u64 hi) ∧ w'.cell? ⟨w1.heap.size, 1, none⟩ = some (.int .u64 lo)) (first | (go_keep; done) | ((try go_split_ands); refine ⟨?_, ?_, ?_, ?_, ?_⟩ <;> first | (go_keep; done) | ((rw [hc3 _ _ (by first | omega | (simp; omega) | simp)]; first | assumption | (simp [*]; done))) | omega)) ((go_at_call 106; (try rw [hwp]); (with_reducible refine (HLO.out _ _ _ hw1).mono ?_); rintro e w3 ⟨hi3, lo3, rfl, hw3, b3⟩; obtain ⟨hc3, hf3⟩ := bcell b3; have hz3 := below_size b3; (try simp at hz3); have z03 : w.heap.size < w3.heap.size := (by omega); have z13 : w.heap.size + 1 < w3.heap.size := (by omega); (try have y13 : w1.heap.size < w3.heap.size := (by omega)); have q13 : w1.heap.size ≤ w3.heap.size := (by omega); (try have y23 : w2.heap.size < w3.heap.size := (by omega)); have q23 : w2.heap.size ≤ w3.heap.size := (by omega)))
    rename_i hHeld
    clear hHeld
    all_goals
      go_wp2
      exact bodyPost_ret (v := .iface 149 (.agg #[.int .u64 0, .int .u64 m, .int .u64 hi3, .int .u64 lo3])) (by simp [results, Tryz.results99, go_sem, hm3]) rfl ⟨_, _, rfl, hw3, bel⟩
end Go.Proofs.YtacnkcojhlbkoaaGreatDoor

set_option linter.unusedSimpArgs false
set_option linter.unusedVariables false
set_option linter.unnecessarySimpa false
namespace Go.Proofs.YtacnkcojhlbkoaaGreatDoor
open Go Go.RowKit
theorem dr_size (w : World) : w.drew.heap.size = w.heap.size := rfl
theorem dr_cell (w : World) (a : Addr) : w.drew.cell? a = w.cell? a := rfl
theorem dr_frozen (w : World) (a : Addr) : w.drew.frozen? a = w.frozen? a := rfl
theorem below_S {n : Nat} {W0 w' : World} (h : Below n W0 w') (hn : n = W0.heap.size := by rfl) : Below n W0 w' ∧ ∀ b o, b < n → w'.cell? ⟨b, o, none⟩ = W0.cell? ⟨b, o, none⟩ := by
  subst hn
  exact ⟨h, (bcell h).1⟩
/-- As 'blk0', but a block that is known at this world is taken first. -/
theorem blk1 {w : World} {g : Nat} {t : TypeId} {f : Array Value → Prop} (h : BlkIs w g t f := by repeat (first | with_reducible assumption | ((with_reducible refine BlkIs.new ?hg ?hf); (case hg => (simp; done)); (case hf => first | rfl | (simp; done))) | with_reducible refine BlkIs.alloc ?_ | with_reducible refine BlkIs.drewN ?_ | with_reducible refine BlkIs.drew ?_ | with_reducible refine BlkIs.set ?_ | ((with_reducible refine BlkIs.far ?_ ?hne); (case hne => first | (simp; done) | omega | (simp; omega))) | ((with_reducible refine BlkIs.of (by with_reducible assumption) ?hf); (case hf => first | rfl | (simp; done))) | with_reducible refine BlkIs.below ?_ (by assumption) | ((with_reducible refine BlkIs.chg ?_ (by assumption) ?hnn); (case hnn => first | (simp; done) | omega | (simp; omega) | (intro hs; have := hs.1; omega))))) : BlkIs w g t f := h
end Go.Proofs.YtacnkcojhlbkoaaGreatDoor

set_option linter.unusedSimpArgs false
set_option linter.unusedVariables false
set_option linter.unnecessarySimpa false
namespace Go.Proofs.YtacnkcojhlbkoaaGreatDoor
open Go.RowKit Go.Proofs.YtacnkcojhlbkoaaGreatDoorW.PrintWords Go.Proofs.YtacnkcojhlbkoaaGreatDoorW.PrintLast Go.Proofs.YtacnkcojhlbkoaaGreatDoorW.PrintMore Go.Proofs.YtacnkcojhlbkoaaGreatDoor.NL
set_option maxRecDepth 100000
set_option exponentiation.threshold 130

/-- Where the sign's bit and the integer bit stand. -/
def topN (f : Int) : Nat := (fmW f - 1).toNat
def oneN (f : Int) : Nat := (fmD f - 1).toNat
/-- The bits of a field and a fraction. -/
def packFR (f : Int) (ng : Bool) (F R : Nat) : Nat := F * 2 ^ frontN f + R + (if f = 4 ∧ F ≠ 0 then 2 ^ oneN f else 0) + (if ng then 2 ^ topN f else 0)
theorem meth_1 (v : Value) (w : World) : (method 285 144 v "soroban/binary.bits").run Tryz.prog w = .ok (148, v) w := by kernel_rfl
theorem meth_2 (v : Value) (w : World) : (method 285 146 v "soroban/binary.bits").run Tryz.prog w = .ok (149, v) w := by kernel_rfl
theorem meth_3 (v : Value) (w : World) : (method 285 149 v "soroban/binary.bits").run Tryz.prog w = .ok (150, v) w := by kernel_rfl
theorem cf_1 (v k : Value) (w : World) : (callFunc 148 #[v, k]).run Tryz.prog w = .ok (.enter 148 #[v, k]) w := by kernel_rfl
theorem cf_2 (v k : Value) (w : World) : (callFunc 149 #[v, k]).run Tryz.prog w = .ok (.enter 149 #[v, k]) w := by kernel_rfl
theorem cf_3 (v k : Value) (w : World) : (callFunc 150 #[v, k]).run Tryz.prog w = .ok (.enter 150 #[v, k]) w := by kernel_rfl
/-- What contentOf answers: a content whose bits are F and R. -/
def ContP (T : TypeId) (fn : FuncId) (k : Value) (F R : Nat) (w : World) (e : Ending) (w' : World) : Prop := ∃ V, e = .returned (.iface T V) ∧ Hid (∀ w2, Calls Tryz.prog fn #[V, k] w2 (GivesFR F R w2)) ∧ Below w.heap.size w w'
theorem join_lit (k : Nat) {P F R : Nat} (hP : P = 2 ^ k) (hR : R < P) : (F * P) ||| R = F * P + R := by
  subst hP
  exact nat_join k _ _ (Nat.mul_mod_left F _) hR
theorem bit_lit (k : Nat) {P M : Nat} (hP : P = 2 ^ k) (h : M / P % 2 = 0) : M ||| P = M + P := by
  subst hP
  exact or_bit h
theorem pack_facts {f : Int} {F R : Nat} (hf : isFm f = true) (hF : F ≤ lastN f) (hR : R < 2 ^ oneN f) :
    F * 2 ^ frontN f % W128 = F * 2 ^ frontN f ∧ (F * 2 ^ frontN f) ||| R = F * 2 ^ frontN f + R ∧ (f = 4 → (F * 2 ^ frontN f + R) ||| 2 ^ oneN f = F * 2 ^ frontN f + R + 2 ^ oneN f) ∧
    (∀ S, S ≤ F * 2 ^ frontN f + R + (if f = 4 then 2 ^ oneN f else 0) → S ||| 2 ^ topN f = S + 2 ^ topN f ∧ S < 2 ^ topN f) ∧ frontN f ≤ 128 ∧ oneN f ≤ 127 ∧ topN f ≤ 127 ∧ fmD f - 1 = oneN f ∧ fmW f - 1 = topN f := by
  rcases fm_cases hf with rfl | rfl | rfl | rfl | rfl <;> simp only [frontN, oneN, topN, lastN, fmD, fmW, fmE] at *
  all_goals
    simp at hF hR ⊢
    refine ⟨by omega, ?_, ?_⟩
    · first
        | exact join_lit 10 (by decide) (by omega)
        | exact join_lit 23 (by decide) (by omega)
        | exact join_lit 52 (by decide) (by omega)
        | exact join_lit 64 (by decide) (by omega)
        | exact join_lit 112 (by decide) (by omega)
    · first
        | (intro S hS; refine ⟨?_, by omega⟩; first | exact bit_lit 15 (by decide) (by omega) | exact bit_lit 31 (by decide) (by omega) | exact bit_lit 63 (by decide) (by omega) | exact bit_lit 127 (by decide) (by omega))
        | (refine ⟨bit_lit 63 (by decide) (by omega), ?_⟩; intro S hS; refine ⟨?_, by omega⟩; exact bit_lit 79 (by decide) (by omega))

set_option maxHeartbeats 16000000 in
theorem pack_core {A : Option Addr} {n c F R : Nat}  (f g cl ex : Int) (ng : Bool) (w : World) (hf : isFm f = true) (hF : F ≤ lastN f) (hR : R < 2 ^ oneN f) (T : TypeId) (fn : FuncId) (hM : ∀ v w, (method 285 T v "soroban/binary.bits").run Tryz.prog w = .ok (fn, v) w) (hC : ∀ v k w, (callFunc fn #[v, k]).run Tryz.prog w = .ok (.enter fn #[v, k]) w)
    (hA : ∀ w', Below w.heap.size w w' → Calls Tryz.prog 99 #[kV f, dV g cl ng A n c ex] w' (ContP T fn (kV f) F R w')) :
    Calls Tryz.prog 72 #[kV f, dV g cl ng A n c ex] w (GivesW (packFR f ng F R) w) := by
  have HCO := Lib.hid hA
  obtain ⟨f1, f2, f3, f4, f5, f6, f7, f8, f9⟩ := pack_facts hf hF hR
  obtain ⟨dd1, dd2⟩ := D_bd2 f
  obtain ⟨ww1, ww2⟩ := fmW_bd f
  have HFR := Lib.hid fun w' => front_any f w'
  have HEX := Lib.hid fun w' => explicit_any f w'
  have HSH : Hid (∀ w', Calls Tryz.prog 100 #[wV 0 F, .int .i64 (frontN f : Nat)] w' (GivesW (F * 2 ^ frontN f) w')) := Lib.hid fun w' => by
    have h := wshl_any (frontN f) w' (Wd.mk (H := 0) (L := F) (by omega) (by have : lastN f < 18446744073709551616 := (by have := fmE_bd f; unfold lastN; omega); omega) rfl) f5
    have e : 0 * 18446744073709551616 + F = F := by omega
    rw [e, f1] at h
    exact h
  have P1 : ∀ k : Nat, k ≤ 127 → ∀ w', Calls Tryz.prog 100 #[wV 0 1, .int .i64 (k : Nat)] w' (GivesW (2 ^ k) w') := fun k hk w' => by
    have h := wshl_any k w' wd_one (by omega)
    rwa [Nat.one_mul, Nat.mod_eq_of_lt (show 2 ^ k < W128 from Nat.lt_of_le_of_lt (Nat.pow_le_pow_right (by omega) hk) (by decide))] at h
  have HS1 := Lib.hid (P1 _ f6)
  have HS2 := Lib.hid (P1 _ f7)
  have HOR : Hid (∀ h l h' l' w', Hid (Wd (F * 2 ^ frontN f) h l) → Hid (Wd R h' l') → Calls Tryz.prog 102 #[wV h l, wV h' l'] w' (GivesW (F * 2 ^ frontN f + R) w')) := Lib.hid fun h l h' l' w' a b => wor_any' w' a.out b.out f2
  have HO1 : Hid (∀ h l h' l' w', Hid (Wd (F * 2 ^ frontN f + R) h l) → Hid (Wd (2 ^ oneN f) h' l') → f = 4 → Calls Tryz.prog 102 #[wV h l, wV h' l'] w' (GivesW (F * 2 ^ frontN f + R + 2 ^ oneN f) w')) := Lib.hid fun h l h' l' w' a b he => wor_any' w' a.out b.out (f3 he)
  obtain ⟨S3, hS3⟩ : ∃ S3, F * 2 ^ frontN f + R + (if f = 4 ∧ F ≠ 0 then 2 ^ oneN f else 0) = S3 := ⟨_, rfl⟩
  have HO2 : Hid (∀ h l h' l' w', Hid (Wd S3 h l) → Hid (Wd (2 ^ topN f) h' l') → Calls Tryz.prog 102 #[wV h l, wV h' l'] w' (GivesW (S3 + 2 ^ topN f) w')) := Lib.hid fun h l h' l' w' a b => wor_any' w' a.out b.out (f4 S3 (by
    rw [← hS3]
    by_cases h4 : f = 4
    · rw [if_pos h4]; split <;> omega
    · rw [if_neg h4, if_neg (fun h => h4 h.1)]; omega)).1
  unfold packFR
  rw [hS3]
  obtain ⟨S4, hS4⟩ : ∃ S4, S3 + (if ng then 2 ^ topN f else 0) = S4 := ⟨_, rfl⟩
  rw [hS4]
  clear hA f1 f2 f3 f4 hF hR hf
  unfold kV at *
  show Calls Tryz.prog 72 #[.agg #[.int .i64 (fmD f), .int .i64 (fmE f), .int .i64 (fmL f), .int .i64 (fmH f), .int .i64 (fmW f), .int .i64 f], .agg #[.int .i64 g, .int .i64 cl, .bool ng, .slice A n c, .int .i64 ex]] w _
  generalize fmD f = D at *
  generalize fmE f = E at *
  generalize fmL f = L at *
  generalize fmH f = H at *
  generalize fmW f = W at *
  generalize frontN f = fr at *
  generalize oneN f = on at *
  generalize topN f = tp at *
  generalize hS2 : F * 2 ^ fr + R = S2 at *
  generalize F * 2 ^ fr = S1 at *
  have HS4 := Lib.hid hS4
  have HS3 := Lib.hid hS3
  clear hS4 hS3
  have hwo : IntKind.i64.wrap (on : Int) = on := by rw [IntKind.wrap_i64]; omega
  have hwt : IntKind.i64.wrap (tp : Int) = tp := by rw [IntKind.wrap_i64]; omega
  go_enter Tryz.func72, Tryz.ntmps72
  go_upto_region 1 with fail
  go_cut [5, 6] (fun v5 v6 wc => ∃ (p5 p6 : Nat) (hi2 lo2 : Int), v5 = .pointer (some ⟨p5, 0, none⟩) ∧ v6 = .pointer (some ⟨p6, 0, none⟩) ∧ w.heap.size + 1 + 1 < p5 ∧ w.heap.size + 1 + 1 < p6 ∧ p5 ≠ p6 ∧ BlkIs wc p5 106 (· = #[.int .u64 0, .int .u64 F]) ∧ BlkIs wc p6 106 (· = #[.int .u64 hi2, .int .u64 lo2]) ∧ Hid (Wd R hi2 lo2) ∧ BlkIs wc w.heap.size 82 (· = #[.int .i64 D, .int .i64 E, .int .i64 L, .int .i64 H, .int .i64 W, .int .i64 f]) ∧ BlkIs wc (w.heap.size + 1) 25 (· = #[.int .i64 g, .int .i64 cl, .bool ng, .slice A n c, .int .i64 ex]) ∧ BlkIs wc (w.heap.size + 1 + 1) 106 (· = #[.int .u64 0, .int .u64 0]) ∧ Below w.heap.size w wc)
  case first =>
    go_region_held3 (fun w' => Below (((w.alloc (.cells #[.int .i64 D, .int .i64 E, .int .i64 L, .int .i64 H, .int .i64 W, .int .i64 f] 82)).alloc (.cells #[.int .i64 g, .int .i64 cl, .bool ng, .slice A n c, .int .i64 ex] 25)).alloc (.cells #[.int .u64 0, .int .u64 0] 106)).heap.size (((w.alloc (.cells #[.int .i64 D, .int .i64 E, .int .i64 L, .int .i64 H, .int .i64 W, .int .i64 f] 82)).alloc (.cells #[.int .i64 g, .int .i64 cl, .bool ng, .slice A n c, .int .i64 ex] 25)).alloc (.cells #[.int .u64 0, .int .u64 0] 106)) w' ∧ ∀ b o, b < (((w.alloc (.cells #[.int .i64 D, .int .i64 E, .int .i64 L, .int .i64 H, .int .i64 W, .int .i64 f] 82)).alloc (.cells #[.int .i64 g, .int .i64 cl, .bool ng, .slice A n c, .int .i64 ex] 25)).alloc (.cells #[.int .u64 0, .int .u64 0] 106)).heap.size → w'.cell? ⟨b, o, none⟩ = (((w.alloc (.cells #[.int .i64 D, .int .i64 E, .int .i64 L, .int .i64 H, .int .i64 W, .int .i64 f] 82)).alloc (.cells #[.int .i64 g, .int .i64 cl, .bool ng, .slice A n c, .int .i64 ex] 25)).alloc (.cells #[.int .u64 0, .int .u64 0] 106)).cell? ⟨b, o, none⟩) (first | ((try go_split_ands); refine below_S ?_; ((repeat (first | with_reducible assumption | with_reducible exact Below.refl _ _ | with_reducible refine below_alloc ?_ _ | with_reducible refine pw_below_drewN ?_ _ | with_reducible refine below_drew1 ?_ | ((with_reducible refine below_set ?_ ?hle); (case hle => first | (simp; done) | omega | (simp; omega))) | with_reducible refine below_step ?_ (by with_reducible assumption))); done))) (first | (go_at_call 99; (with_reducible refine (HCO.out _ bel).mono ?_); rintro e w1 ⟨V, rfl, hV, b1⟩; obtain ⟨hc1, hf1⟩ := bcell b1; (try simp only [dr_size, dr_cell] at hc1); (try simp only [dr_size, dr_frozen] at hf1); have hz1 := below_size b1; (try simp at hz1); (try have z01 : w.heap.size < w1.heap.size := (by omega)); (try have z11 : w.heap.size + 1 < w1.heap.size := (by omega)); (try have z21 : w.heap.size + 1 + 1 < w1.heap.size := (by omega)); (try have z31 : w.heap.size + 1 + 1 + 1 < w1.heap.size := (by omega)); (try have z41 : w.heap.size + 1 + 1 + 1 + 1 < w1.heap.size := (by omega))) | ((with_reducible refine (hV.out _).mono ?_); rintro e w2 ⟨hi2, lo2, rfl, hw2, b2⟩; obtain ⟨hc2, hf2⟩ := bcell b2; (try simp only [dr_size, dr_cell] at hc2); (try simp only [dr_size, dr_frozen] at hf2); have hz2 := below_size b2; (try simp at hz2); (try have z02 : w.heap.size < w2.heap.size := (by omega)); (try have z12 : w.heap.size + 1 < w2.heap.size := (by omega)); (try have z22 : w.heap.size + 1 + 1 < w2.heap.size := (by omega)); (try have z32 : w.heap.size + 1 + 1 + 1 < w2.heap.size := (by omega)); (try have z42 : w.heap.size + 1 + 1 + 1 + 1 < w2.heap.size := (by omega)); (try have yw12 : w1.heap.size < w2.heap.size := (by omega)); (try have yyw12 : w1.heap.size + 1 < w2.heap.size := (by omega))))
    all_goals
      go_wp2_with fail
      go_meet
      exact ⟨_, _, hi2, lo2, rfl, rfl, by first | omega | (simp; omega), by first | omega | (simp; omega), by first | omega | (simp; omega), blk0, blk0, hw2, blk0, blk0, blk0, bel⟩
  case rest =>
    obtain ⟨p5, p6, hi2, lo2, rfl, rfl, hp5, hp6, hp56, HB5, HB6, hw2, HBK, HBD, HBR, hbw⟩ := hcut
    have HB5h := Lib.hid HB5
    have HBKh := Lib.hid HBK
    have HBDh := Lib.hid HBD
    have HBRh := Lib.hid HBR
    obtain ⟨cs5, hbk5, rfl⟩ := HB5
    obtain ⟨cs6, hbk6, rfl⟩ := HB6
    obtain ⟨csk, hbkk, rfl⟩ := HBK
    have e0 : wc.cell? ⟨p5, 0, none⟩ = some (.int .u64 0) := by simpa using blk_cell hbk5 0
    have e1 : wc.cell? ⟨p5, 1, none⟩ = some (.int .u64 F) := by simpa using blk_cell hbk5 1
    have ez : p5 < wc.heap.size := blk_lt hbk5
    have g0 : wc.cell? ⟨p6, 0, none⟩ = some (.int .u64 hi2) := by simpa using blk_cell hbk6 0
    have g1 : wc.cell? ⟨p6, 1, none⟩ = some (.int .u64 lo2) := by simpa using blk_cell hbk6 1
    have gz : p6 < wc.heap.size := blk_lt hbk6
    have k0 : wc.cell? ⟨w.heap.size, 0, none⟩ = some (.int .i64 D) := by simpa using blk_cell hbkk 0
    have k1 : wc.cell? ⟨w.heap.size, 1, none⟩ = some (.int .i64 E) := by simpa using blk_cell hbkk 1
    have k2 : wc.cell? ⟨w.heap.size, 2, none⟩ = some (.int .i64 L) := by simpa using blk_cell hbkk 2
    have k3 : wc.cell? ⟨w.heap.size, 3, none⟩ = some (.int .i64 H) := by simpa using blk_cell hbkk 3
    have k4 : wc.cell? ⟨w.heap.size, 4, none⟩ = some (.int .i64 W) := by simpa using blk_cell hbkk 4
    have k5 : wc.cell? ⟨w.heap.size, 5, none⟩ = some (.int .i64 f) := by simpa using blk_cell hbkk 5
    have kz : w.heap.size < wc.heap.size := blk_lt hbkk
    clear hbk5 hbk6 hbkk HBD HBR
    go_upto_region 2 with fail
    go_cut [7] (fun v7 wc => ∃ (p7 : Nat) (hi5 lo5 : Int), v7 = .pointer (some ⟨p7, 0, none⟩) ∧ w.heap.size + 1 + 1 < p7 ∧ BlkIs wc p5 106 (· = #[.int .u64 0, .int .u64 F]) ∧ BlkIs wc p7 106 (· = #[.int .u64 hi5, .int .u64 lo5]) ∧ Hid (Wd S2 hi5 lo5) ∧ BlkIs wc w.heap.size 82 (· = #[.int .i64 D, .int .i64 E, .int .i64 L, .int .i64 H, .int .i64 W, .int .i64 f]) ∧ BlkIs wc (w.heap.size + 1) 25 (· = #[.int .i64 g, .int .i64 cl, .bool ng, .slice A n c, .int .i64 ex]) ∧ BlkIs wc (w.heap.size + 1 + 1) 106 (· = #[.int .u64 0, .int .u64 0]) ∧ Below w.heap.size w wc)
    case first =>
      go_region_held3 (fun w' => Below (wc).heap.size (wc) w' ∧ ∀ b o, b < (wc).heap.size → w'.cell? ⟨b, o, none⟩ = (wc).cell? ⟨b, o, none⟩) (first | ((try go_split_ands); refine below_S ?_; ((repeat (first | with_reducible assumption | with_reducible exact Below.refl _ _ | with_reducible refine below_alloc ?_ _ | with_reducible refine pw_below_drewN ?_ _ | with_reducible refine below_drew1 ?_ | ((with_reducible refine below_set ?_ ?hle); (case hle => first | (simp; done) | omega | (simp; omega))) | with_reducible refine below_step ?_ (by with_reducible assumption))); done))) (first | (go_at_call 101; (with_reducible refine (HFR.out _).mono ?_); rintro e w3 ⟨rfl, b3⟩; obtain ⟨hc3, hf3⟩ := bcell b3; (try simp only [dr_size, dr_cell] at hc3); (try simp only [dr_size, dr_frozen] at hf3); have hz3 := below_size b3; (try simp at hz3); (try have z03 : w.heap.size < w3.heap.size := (by omega)); (try have z13 : w.heap.size + 1 < w3.heap.size := (by omega)); (try have z23 : w.heap.size + 1 + 1 < w3.heap.size := (by omega)); (try have ywc3 : wc.heap.size < w3.heap.size := (by omega)); (try have yywc3 : wc.heap.size + 1 < w3.heap.size := (by omega))) | (go_at_call 100; (with_reducible refine (HSH.out _).mono ?_); rintro e w4 ⟨hi4, lo4, rfl, hw4, b4⟩; obtain ⟨hc4, hf4⟩ := bcell b4; (try simp only [dr_size, dr_cell] at hc4); (try simp only [dr_size, dr_frozen] at hf4); have hz4 := below_size b4; (try simp at hz4); (try have z04 : w.heap.size < w4.heap.size := (by omega)); (try have z14 : w.heap.size + 1 < w4.heap.size := (by omega)); (try have z24 : w.heap.size + 1 + 1 < w4.heap.size := (by omega)); (try have ywc4 : wc.heap.size < w4.heap.size := (by omega)); (try have yywc4 : wc.heap.size + 1 < w4.heap.size := (by omega)); (try have yw34 : w3.heap.size < w4.heap.size := (by omega)); (try have yyw34 : w3.heap.size + 1 < w4.heap.size := (by omega))) | (go_at_call 102; (with_reducible refine (HOR.out _ _ _ _ _ hw4 hw2).mono ?_); rintro e w5 ⟨hi5, lo5, rfl, hw5, b5⟩; obtain ⟨hc5, hf5⟩ := bcell b5; (try simp only [dr_size, dr_cell] at hc5); (try simp only [dr_size, dr_frozen] at hf5); have hz5 := below_size b5; (try simp at hz5); (try have z05 : w.heap.size < w5.heap.size := (by omega)); (try have z15 : w.heap.size + 1 < w5.heap.size := (by omega)); (try have z25 : w.heap.size + 1 + 1 < w5.heap.size := (by omega)); (try have ywc5 : wc.heap.size < w5.heap.size := (by omega)); (try have yywc5 : wc.heap.size + 1 < w5.heap.size := (by omega)); (try have yw35 : w3.heap.size < w5.heap.size := (by omega)); (try have yyw35 : w3.heap.size + 1 < w5.heap.size := (by omega)); (try have yw45 : w4.heap.size < w5.heap.size := (by omega)); (try have yyw45 : w4.heap.size + 1 < w5.heap.size := (by omega))))
      all_goals
        go_wp2_with fail
        go_meet
        have HB5 := HB5h.out
        have HBK := HBKh.out
        have HBD := HBDh.out
        have HBR := HBRh.out
        exact ⟨_, hi5, lo5, rfl, by first | omega | (simp; omega), blk0, blk0, hw5, blk0, blk0, blk0, bel⟩
    case rest =>
      clear e0 e1 ez g0 g1 gz k0 k1 k2 k3 k4 k5 kz HBKh HBDh HBRh HB5h hw2 hbw HFR HSH HOR HCO
      obtain ⟨p7, hi5, lo5, rfl, hp7, HB5, HB7, hw5, HBK, HBD, HBR, hbw⟩ := hcut
      have HB7h := Lib.hid HB7
      have HBKh := Lib.hid HBK
      have HBDh := Lib.hid HBD
      have HBRh := Lib.hid HBR
      obtain ⟨cs5, hbk5, rfl⟩ := HB5
      obtain ⟨cs7, hbk7, rfl⟩ := HB7
      obtain ⟨csk, hbkk, rfl⟩ := HBK
      obtain ⟨csd, hbkd, rfl⟩ := HBD
      obtain ⟨csr, hbkr, rfl⟩ := HBR
      have e0 : wc.cell? ⟨p5, 0, none⟩ = some (.int .u64 0) := by simpa using blk_cell hbk5 0
      have e1 : wc.cell? ⟨p5, 1, none⟩ = some (.int .u64 F) := by simpa using blk_cell hbk5 1
      have ez : p5 < wc.heap.size := blk_lt hbk5
      have g0 : wc.cell? ⟨p7, 0, none⟩ = some (.int .u64 hi5) := by simpa using blk_cell hbk7 0
      have gf0 : wc.frozen? ⟨p7, 0, none⟩ = false := blk_frozen hbk7 0
      have g1 : wc.cell? ⟨p7, 1, none⟩ = some (.int .u64 lo5) := by simpa using blk_cell hbk7 1
      have gf1 : wc.frozen? ⟨p7, 1, none⟩ = false := blk_frozen hbk7 1
      have gz : p7 < wc.heap.size := blk_lt hbk7
      have k0 : wc.cell? ⟨w.heap.size, 0, none⟩ = some (.int .i64 D) := by simpa using blk_cell hbkk 0
      have k1 : wc.cell? ⟨w.heap.size, 1, none⟩ = some (.int .i64 E) := by simpa using blk_cell hbkk 1
      have k2 : wc.cell? ⟨w.heap.size, 2, none⟩ = some (.int .i64 L) := by simpa using blk_cell hbkk 2
      have k3 : wc.cell? ⟨w.heap.size, 3, none⟩ = some (.int .i64 H) := by simpa using blk_cell hbkk 3
      have k4 : wc.cell? ⟨w.heap.size, 4, none⟩ = some (.int .i64 W) := by simpa using blk_cell hbkk 4
      have k5 : wc.cell? ⟨w.heap.size, 5, none⟩ = some (.int .i64 f) := by simpa using blk_cell hbkk 5
      have kz : w.heap.size < wc.heap.size := blk_lt hbkk
      have d0 : wc.cell? ⟨w.heap.size + 1, 0, none⟩ = some (.int .i64 g) := by simpa using blk_cell hbkd 0
      have d1 : wc.cell? ⟨w.heap.size + 1, 1, none⟩ = some (.int .i64 cl) := by simpa using blk_cell hbkd 1
      have d2 : wc.cell? ⟨w.heap.size + 1, 2, none⟩ = some (.bool ng) := by simpa using blk_cell hbkd 2
      have d3 : wc.cell? ⟨w.heap.size + 1, 3, none⟩ = some (.slice A n c) := by simpa using blk_cell hbkd 3
      have d4 : wc.cell? ⟨w.heap.size + 1, 4, none⟩ = some (.int .i64 ex) := by simpa using blk_cell hbkd 4
      have dz : w.heap.size + 1 < wc.heap.size := blk_lt hbkd
      have r0 : wc.cell? ⟨w.heap.size + 1 + 1, 0, none⟩ = some (.int .u64 0) := by simpa using blk_cell hbkr 0
      have rf0 : wc.frozen? ⟨w.heap.size + 1 + 1, 0, none⟩ = false := blk_frozen hbkr 0
      have r1 : wc.cell? ⟨w.heap.size + 1 + 1, 1, none⟩ = some (.int .u64 0) := by simpa using blk_cell hbkr 1
      have rf1 : wc.frozen? ⟨w.heap.size + 1 + 1, 1, none⟩ = false := blk_frozen hbkr 1
      have rz : w.heap.size + 1 + 1 < wc.heap.size := blk_lt hbkr
      clear hbk5 hbk7 hbkk hbkd hbkr
      have hwX := hw5
      by_cases h4 : f = 4
      · have t4 : (f == 4) = true := by simpa using h4
        have HO1' := Lib.hid fun h l h' l' w' a b => HO1.out h l h' l' w' a b h4
        have H4 := Lib.hid h4
        clear h4
        by_cases hF0 : F = 0
        · have t0 : ((F : Int) == 0) = true := by simp; omega
          have e3 : S3 = S2 := by rw [← HS3.out, if_neg (fun h => h.2 hF0)]; omega
          clear HO1 HO1' HS3
          subst e3
          subst hF0
          have HWX := hw5
          cases ng with
          | true =>
            have e4 : S3 + 2 ^ tp = S4 := by rw [← HS4.out, if_pos rfl]
            rw [e4] at HO2
            clear HS4 e4
            go_wp2_with (first | (go_at_call 103; (with_reducible refine (HEX.out _).mono ?_); rintro e w6 ⟨rfl, b6⟩; obtain ⟨hc6, hf6⟩ := bcell b6; (try simp only [dr_size, dr_cell] at hc6); (try simp only [dr_size, dr_frozen] at hf6); have hz6 := below_size b6; (try simp at hz6); (try have z06 : w.heap.size < w6.heap.size := (by omega)); (try have z16 : w.heap.size + 1 < w6.heap.size := (by omega)); (try have z26 : w.heap.size + 1 + 1 < w6.heap.size := (by omega)); (try have yp56 : p5 < w6.heap.size := (by omega)); (try have yp66 : p6 < w6.heap.size := (by omega)); (try have yp76 : p7 < w6.heap.size := (by omega))))
            go_region_with (first | (go_at_call 100; (with_reducible refine (HS2.out _).mono ?_); rintro e w9 ⟨hi9, lo9, rfl, hw9, b9⟩; obtain ⟨hc9, hf9⟩ := bcell b9; (try simp only [dr_size, dr_cell] at hc9); (try simp only [dr_size, dr_frozen] at hf9); have hz9 := below_size b9; (try simp at hz9); (try have z09 : w.heap.size < w9.heap.size := (by omega)); (try have z19 : w.heap.size + 1 < w9.heap.size := (by omega)); (try have z29 : w.heap.size + 1 + 1 < w9.heap.size := (by omega)); (try have yp59 : p5 < w9.heap.size := (by omega)); (try have yp69 : p6 < w9.heap.size := (by omega)); (try have yp79 : p7 < w9.heap.size := (by omega))) | (go_at_call 102; (with_reducible refine (HO2.out _ _ _ _ _ HWX hw9).mono ?_); rintro e w10 ⟨hi10, lo10, rfl, hw10, b10⟩; obtain ⟨hc10, hf10⟩ := bcell b10; (try simp only [dr_size, dr_cell] at hc10); (try simp only [dr_size, dr_frozen] at hf10); have hz10 := below_size b10; (try simp at hz10); (try have z010 : w.heap.size < w10.heap.size := (by omega)); (try have z110 : w.heap.size + 1 < w10.heap.size := (by omega)); (try have z210 : w.heap.size + 1 + 1 < w10.heap.size := (by omega)); (try have yp510 : p5 < w10.heap.size := (by omega)); (try have yp610 : p6 < w10.heap.size := (by omega)); (try have yp710 : p7 < w10.heap.size := (by omega))))
            all_goals
              go_wp2
              exact bodyPost_ret (v := wV hi10 lo10) (by simp [results, Tryz.results72, go_sem, *]) rfl ⟨_, _, rfl, hw10, bel⟩
          | false =>
            have e4 : S4 = S3 := by rw [← HS4.out, if_neg (by simp)]; omega
            subst e4
            clear HS4
            go_wp2_with (first | (go_at_call 103; (with_reducible refine (HEX.out _).mono ?_); rintro e w6 ⟨rfl, b6⟩; obtain ⟨hc6, hf6⟩ := bcell b6; (try simp only [dr_size, dr_cell] at hc6); (try simp only [dr_size, dr_frozen] at hf6); have hz6 := below_size b6; (try simp at hz6); (try have z06 : w.heap.size < w6.heap.size := (by omega)); (try have z16 : w.heap.size + 1 < w6.heap.size := (by omega)); (try have z26 : w.heap.size + 1 + 1 < w6.heap.size := (by omega)); (try have yp56 : p5 < w6.heap.size := (by omega)); (try have yp66 : p6 < w6.heap.size := (by omega)); (try have yp76 : p7 < w6.heap.size := (by omega))))
            exact bodyPost_ret (v := wV hi5 lo5) (by simp [results, Tryz.results72, go_sem, *]) rfl ⟨_, _, rfl, HWX, bel⟩
        · have t0 : ((F : Int) == 0) = false := by simp; omega
          have e3 : S2 + 2 ^ on = S3 := by rw [← HS3.out, if_pos ⟨H4.out, hF0⟩]
          rw [e3] at HO1'
          clear HO1 HS3
          go_upto_region 4 with (first | (go_at_call 103; (with_reducible refine (HEX.out _).mono ?_); rintro e w6 ⟨rfl, b6⟩; obtain ⟨hc6, hf6⟩ := bcell b6; (try simp only [dr_size, dr_cell] at hc6); (try simp only [dr_size, dr_frozen] at hf6); have hz6 := below_size b6; (try simp at hz6); (try have z06 : w.heap.size < w6.heap.size := (by omega)); (try have z16 : w.heap.size + 1 < w6.heap.size := (by omega)); (try have z26 : w.heap.size + 1 + 1 < w6.heap.size := (by omega)); (try have yp56 : p5 < w6.heap.size := (by omega)); (try have yp66 : p6 < w6.heap.size := (by omega)); (try have yp76 : p7 < w6.heap.size := (by omega))))
          go_cut [29] (fun v29 wc => ∃ (hi8 lo8 : Int), BlkIs wc p7 106 (· = #[.int .u64 hi8, .int .u64 lo8]) ∧ Hid (Wd S3 hi8 lo8) ∧ BlkIs wc w.heap.size 82 (· = #[.int .i64 D, .int .i64 E, .int .i64 L, .int .i64 H, .int .i64 W, .int .i64 f]) ∧ BlkIs wc (w.heap.size + 1) 25 (· = #[.int .i64 g, .int .i64 cl, .bool ng, .slice A n c, .int .i64 ex]) ∧ BlkIs wc (w.heap.size + 1 + 1) 106 (· = #[.int .u64 0, .int .u64 0]) ∧ Below w.heap.size w wc)
          case first =>
            go_region_with (first | (go_at_call 100; (with_reducible refine (HS1.out _).mono ?_); rintro e w7 ⟨hi7, lo7, rfl, hw7, b7⟩; obtain ⟨hc7, hf7⟩ := bcell b7; (try simp only [dr_size, dr_cell] at hc7); (try simp only [dr_size, dr_frozen] at hf7); have hz7 := below_size b7; (try simp at hz7); (try have z07 : w.heap.size < w7.heap.size := (by omega)); (try have z17 : w.heap.size + 1 < w7.heap.size := (by omega)); (try have z27 : w.heap.size + 1 + 1 < w7.heap.size := (by omega)); (try have yp57 : p5 < w7.heap.size := (by omega)); (try have yp67 : p6 < w7.heap.size := (by omega)); (try have yp77 : p7 < w7.heap.size := (by omega))) | (go_at_call 102; (with_reducible refine (HO1'.out _ _ _ _ _ hw5 hw7).mono ?_); rintro e w8 ⟨hi8, lo8, rfl, hw8, b8⟩; obtain ⟨hc8, hf8⟩ := bcell b8; (try simp only [dr_size, dr_cell] at hc8); (try simp only [dr_size, dr_frozen] at hf8); have hz8 := below_size b8; (try simp at hz8); (try have z08 : w.heap.size < w8.heap.size := (by omega)); (try have z18 : w.heap.size + 1 < w8.heap.size := (by omega)); (try have z28 : w.heap.size + 1 + 1 < w8.heap.size := (by omega)); (try have yp58 : p5 < w8.heap.size := (by omega)); (try have yp68 : p6 < w8.heap.size := (by omega)); (try have yp78 : p7 < w8.heap.size := (by omega))))
            all_goals
              go_wp2_with fail
              go_meet
              have HB7 : BlkIs wc p7 106 (fun c => (c.setIfInBounds 0 (.int .u64 hi8)).setIfInBounds 1 (.int .u64 lo8) = #[.int .u64 hi8, .int .u64 lo8]) := by
                obtain ⟨cs, h1, rfl⟩ := HB7h.out
                exact ⟨_, h1, rfl⟩
              have HBK := HBKh.out
              have HBD := HBDh.out
              have HBR := HBRh.out
              exact ⟨hi8, lo8, blk0, hw8, blk0, blk0, blk0, bel⟩
          case rest =>
            clear g0 g1 gf0 gf1 gz k0 k1 k2 k3 k4 k5 kz d0 d1 d2 d3 d4 dz r0 r1 rf0 rf1 rz e0 e1 ez HB7h HBKh HBDh HBRh hbw hw5 hwX HO1' HS1 HEX
            obtain ⟨hi8, lo8, HB7, hw8, HBK, HBD, HBR, hbw⟩ := hcut
            obtain ⟨cs7, hbk7, rfl⟩ := HB7
            obtain ⟨csk, hbkk, rfl⟩ := HBK
            obtain ⟨csd, hbkd, rfl⟩ := HBD
            obtain ⟨csr, hbkr, rfl⟩ := HBR
            have g0 : wc.cell? ⟨p7, 0, none⟩ = some (.int .u64 hi8) := by simpa using blk_cell hbk7 0
            have gf0 : wc.frozen? ⟨p7, 0, none⟩ = false := blk_frozen hbk7 0
            have g1 : wc.cell? ⟨p7, 1, none⟩ = some (.int .u64 lo8) := by simpa using blk_cell hbk7 1
            have gf1 : wc.frozen? ⟨p7, 1, none⟩ = false := blk_frozen hbk7 1
            have gz : p7 < wc.heap.size := blk_lt hbk7
            have k0 : wc.cell? ⟨w.heap.size, 0, none⟩ = some (.int .i64 D) := by simpa using blk_cell hbkk 0
            have k1 : wc.cell? ⟨w.heap.size, 1, none⟩ = some (.int .i64 E) := by simpa using blk_cell hbkk 1
            have k2 : wc.cell? ⟨w.heap.size, 2, none⟩ = some (.int .i64 L) := by simpa using blk_cell hbkk 2
            have k3 : wc.cell? ⟨w.heap.size, 3, none⟩ = some (.int .i64 H) := by simpa using blk_cell hbkk 3
            have k4 : wc.cell? ⟨w.heap.size, 4, none⟩ = some (.int .i64 W) := by simpa using blk_cell hbkk 4
            have k5 : wc.cell? ⟨w.heap.size, 5, none⟩ = some (.int .i64 f) := by simpa using blk_cell hbkk 5
            have kz : w.heap.size < wc.heap.size := blk_lt hbkk
            have d0 : wc.cell? ⟨w.heap.size + 1, 0, none⟩ = some (.int .i64 g) := by simpa using blk_cell hbkd 0
            have d1 : wc.cell? ⟨w.heap.size + 1, 1, none⟩ = some (.int .i64 cl) := by simpa using blk_cell hbkd 1
            have d2 : wc.cell? ⟨w.heap.size + 1, 2, none⟩ = some (.bool ng) := by simpa using blk_cell hbkd 2
            have d3 : wc.cell? ⟨w.heap.size + 1, 3, none⟩ = some (.slice A n c) := by simpa using blk_cell hbkd 3
            have d4 : wc.cell? ⟨w.heap.size + 1, 4, none⟩ = some (.int .i64 ex) := by simpa using blk_cell hbkd 4
            have dz : w.heap.size + 1 < wc.heap.size := blk_lt hbkd
            have r0 : wc.cell? ⟨w.heap.size + 1 + 1, 0, none⟩ = some (.int .u64 0) := by simpa using blk_cell hbkr 0
            have rf0 : wc.frozen? ⟨w.heap.size + 1 + 1, 0, none⟩ = false := blk_frozen hbkr 0
            have r1 : wc.cell? ⟨w.heap.size + 1 + 1, 1, none⟩ = some (.int .u64 0) := by simpa using blk_cell hbkr 1
            have rf1 : wc.frozen? ⟨w.heap.size + 1 + 1, 1, none⟩ = false := blk_frozen hbkr 1
            have rz : w.heap.size + 1 + 1 < wc.heap.size := blk_lt hbkr
            clear hbk7 hbkk hbkd hbkr
            have HWX := hw8
            cases ng with
            | true =>
              have e4 : S3 + 2 ^ tp = S4 := by rw [← HS4.out, if_pos rfl]
              rw [e4] at HO2
              clear HS4 e4
              go_wp2_with fail
              go_region_with (first | (go_at_call 100; (with_reducible refine (HS2.out _).mono ?_); rintro e w9 ⟨hi9, lo9, rfl, hw9, b9⟩; obtain ⟨hc9, hf9⟩ := bcell b9; (try simp only [dr_size, dr_cell] at hc9); (try simp only [dr_size, dr_frozen] at hf9); have hz9 := below_size b9; (try simp at hz9); (try have z09 : w.heap.size < w9.heap.size := (by omega)); (try have z19 : w.heap.size + 1 < w9.heap.size := (by omega)); (try have z29 : w.heap.size + 1 + 1 < w9.heap.size := (by omega)); (try have yp59 : p5 < w9.heap.size := (by omega)); (try have yp69 : p6 < w9.heap.size := (by omega)); (try have yp79 : p7 < w9.heap.size := (by omega))) | (go_at_call 102; (with_reducible refine (HO2.out _ _ _ _ _ HWX hw9).mono ?_); rintro e w10 ⟨hi10, lo10, rfl, hw10, b10⟩; obtain ⟨hc10, hf10⟩ := bcell b10; (try simp only [dr_size, dr_cell] at hc10); (try simp only [dr_size, dr_frozen] at hf10); have hz10 := below_size b10; (try simp at hz10); (try have z010 : w.heap.size < w10.heap.size := (by omega)); (try have z110 : w.heap.size + 1 < w10.heap.size := (by omega)); (try have z210 : w.heap.size + 1 + 1 < w10.heap.size := (by omega)); (try have yp510 : p5 < w10.heap.size := (by omega)); (try have yp610 : p6 < w10.heap.size := (by omega)); (try have yp710 : p7 < w10.heap.size := (by omega))))
              all_goals
                go_wp2
                exact bodyPost_ret (v := wV hi10 lo10) (by simp [results, Tryz.results72, go_sem, *]) rfl ⟨_, _, rfl, hw10, bel⟩
            | false =>
              have e4 : S4 = S3 := by rw [← HS4.out, if_neg (by simp)]; omega
              subst e4
              clear HS4
              go_wp2_with fail
              exact bodyPost_ret (v := wV hi8 lo8) (by simp [results, Tryz.results72, go_sem, *]) rfl ⟨_, _, rfl, HWX, bel⟩
      · have t4 : (f == 4) = false := by simpa using h4
        have e3 : S3 = S2 := by rw [← HS3.out, if_neg (fun h => h4 h.1)]; omega
        clear HO1 HS3
        subst e3
        have HWX := hw5
        cases ng with
        | true =>
          have e4 : S3 + 2 ^ tp = S4 := by rw [← HS4.out, if_pos rfl]
          rw [e4] at HO2
          clear HS4 e4
          go_wp2_with (first | (go_at_call 103; (with_reducible refine (HEX.out _).mono ?_); rintro e w6 ⟨rfl, b6⟩; obtain ⟨hc6, hf6⟩ := bcell b6; (try simp only [dr_size, dr_cell] at hc6); (try simp only [dr_size, dr_frozen] at hf6); have hz6 := below_size b6; (try simp at hz6); (try have z06 : w.heap.size < w6.heap.size := (by omega)); (try have z16 : w.heap.size + 1 < w6.heap.size := (by omega)); (try have z26 : w.heap.size + 1 + 1 < w6.heap.size := (by omega)); (try have yp56 : p5 < w6.heap.size := (by omega)); (try have yp66 : p6 < w6.heap.size := (by omega)); (try have yp76 : p7 < w6.heap.size := (by omega))))
          go_region_with (first | (go_at_call 100; (with_reducible refine (HS2.out _).mono ?_); rintro e w9 ⟨hi9, lo9, rfl, hw9, b9⟩; obtain ⟨hc9, hf9⟩ := bcell b9; (try simp only [dr_size, dr_cell] at hc9); (try simp only [dr_size, dr_frozen] at hf9); have hz9 := below_size b9; (try simp at hz9); (try have z09 : w.heap.size < w9.heap.size := (by omega)); (try have z19 : w.heap.size + 1 < w9.heap.size := (by omega)); (try have z29 : w.heap.size + 1 + 1 < w9.heap.size := (by omega)); (try have yp59 : p5 < w9.heap.size := (by omega)); (try have yp69 : p6 < w9.heap.size := (by omega)); (try have yp79 : p7 < w9.heap.size := (by omega))) | (go_at_call 102; (with_reducible refine (HO2.out _ _ _ _ _ HWX hw9).mono ?_); rintro e w10 ⟨hi10, lo10, rfl, hw10, b10⟩; obtain ⟨hc10, hf10⟩ := bcell b10; (try simp only [dr_size, dr_cell] at hc10); (try simp only [dr_size, dr_frozen] at hf10); have hz10 := below_size b10; (try simp at hz10); (try have z010 : w.heap.size < w10.heap.size := (by omega)); (try have z110 : w.heap.size + 1 < w10.heap.size := (by omega)); (try have z210 : w.heap.size + 1 + 1 < w10.heap.size := (by omega)); (try have yp510 : p5 < w10.heap.size := (by omega)); (try have yp610 : p6 < w10.heap.size := (by omega)); (try have yp710 : p7 < w10.heap.size := (by omega))))
          all_goals
            go_wp2
            exact bodyPost_ret (v := wV hi10 lo10) (by simp [results, Tryz.results72, go_sem, *]) rfl ⟨_, _, rfl, hw10, bel⟩
        | false =>
          have e4 : S4 = S3 := by rw [← HS4.out, if_neg (by simp)]; omega
          subst e4
          clear HS4
          go_wp2_with (first | (go_at_call 103; (with_reducible refine (HEX.out _).mono ?_); rintro e w6 ⟨rfl, b6⟩; obtain ⟨hc6, hf6⟩ := bcell b6; (try simp only [dr_size, dr_cell] at hc6); (try simp only [dr_size, dr_frozen] at hf6); have hz6 := below_size b6; (try simp at hz6); (try have z06 : w.heap.size < w6.heap.size := (by omega)); (try have z16 : w.heap.size + 1 < w6.heap.size := (by omega)); (try have z26 : w.heap.size + 1 + 1 < w6.heap.size := (by omega)); (try have yp56 : p5 < w6.heap.size := (by omega)); (try have yp66 : p6 < w6.heap.size := (by omega)); (try have yp76 : p7 < w6.heap.size := (by omega))))
          exact bodyPost_ret (v := wV hi5 lo5) (by simp [results, Tryz.results72, go_sem, *]) rfl ⟨_, _, rfl, HWX, bel⟩
end Go.Proofs.YtacnkcojhlbkoaaGreatDoor
