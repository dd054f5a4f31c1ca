/- binary: contentOf, pack, Encode. Cells that stay as they are. The law's guard on sizes: whether no list is longer than 1100 elements. The law BinaryFormats: its walk: what its calls return makes it answer true. -/
import Derived.Test.YtacnkcojhlbkoaaGreatDoorJFor9
import Derived.Test.YtacnkcojhlbkoaaGreatDoorJFor7
import Derived.Test.YtacnkcojhlbkoaaGreatDoorJFor2
set_option linter.unusedSimpArgs false
set_option linter.unusedVariables false
set_option linter.unnecessarySimpa false
namespace Go.Proofs.YtacnkcojhlbkoaaGreatDoor
open Go.RowKit Go.Proofs.YtacnkcojhlbkoaaGreatDoorW.PrintWords Go.Proofs.YtacnkcojhlbkoaaGreatDoorW.PrintLast Go.Proofs.YtacnkcojhlbkoaaGreatDoorW.PrintMore Go.Proofs.YtacnkcojhlbkoaaGreatDoor.NL
set_option maxRecDepth 100000
set_option exponentiation.threshold 130

theorem len4 {w : World} {A : Option Addr} {n c : Nat} {a : List Int} (hA : Kd.C (Kd.int .u32) w A n a) (la : Lim a) (hc : n ≤ c) (hok : okN a = true) (hb : val a < W128) : n ≤ 4 := by
  obtain ⟨h1, h2⟩ := ok_num hA la hc hok (Below.refl _ _)
  exact len_le h1 (by show _ < 4294967296 ^ 4; exact hb)
def CInf (w : World) (e : Ending) (w' : World) : Prop := e = .returned (.iface 144 (.agg #[])) ∧ Below w.heap.size w w'
def CNan (N : Nat) (q : Bool) (w : World) (e : Ending) (w' : World) : Prop := ∃ hi lo : Int, e = .returned (.iface 146 (.agg #[.int .u64 hi, .int .u64 lo, .bool q])) ∧ Hid (Wd N hi lo) ∧ Below w.heap.size w w'
def CNum (M N : Nat) (w : World) (e : Ending) (w' : World) : Prop := ∃ hi lo : Int, e = .returned (.iface 149 (.agg #[.int .u64 0, .int .u64 M, .int .u64 hi, .int .u64 lo])) ∧ Hid (Wd N hi lo) ∧ Below w.heap.size w w'
abbrev WordOf (A : Option Addr) (n c : Nat) (N : Nat) (w : World) : Prop := ∀ w', Below w.heap.size w w' → Calls Tryz.prog 122 #[.slice A n c] w' (GivesW N w')

set_option maxHeartbeats 2000000 in
theorem cont_inf {N : Nat} {A : Option Addr} {n c : Nat} (f g ex : Int) (ng : Bool) (w : World) (hA : WordOf A n c N w) :
    Calls Tryz.prog 99 #[kV f, dV g 2 ng A n c ex] w (CInf w) := by
  have HWO := Lib.hid hA
  clear hA
  show Calls Tryz.prog 99 #[.agg #[.int .i64 (fmD f), .int .i64 (fmE f), .int .i64 (fmL f), .int .i64 (fmH f), .int .i64 (fmW f), .int .i64 f], dV g 2 ng A n c ex] w _
  generalize fmD f = D at *
  generalize fmE f = E at *
  generalize fmL f = L at *
  generalize fmH f = H at *
  generalize fmW f = W at *
  go_enter Tryz.func99, Tryz.ntmps99
  go_wp2_with (go_at_call 122; (with_reducible refine (HWO.out _ bel).mono ?_); rintro e w1 ⟨hi, lo, rfl, hw1, b1⟩; obtain ⟨hc1, hf1⟩ := bcell b1; have hz1 := below_size b1; (try simp at hz1); have z01 : w.heap.size < w1.heap.size := (by omega); have z11 : w.heap.size + 1 < w1.heap.size := (by omega))
  exact bodyPost_ret (v := .iface 144 (.agg #[])) (by simp [results, Tryz.results99, go_sem]) rfl ⟨rfl, bel⟩
set_option maxHeartbeats 2000000 in
theorem cont_nan {N : Nat} {A : Option Addr} {n c : Nat} (f g cl ex : Int) (ng : Bool) (w : World) (h1 : cl ≠ 1) (h2 : cl ≠ 2) (hA : WordOf A n c N w) :
    Calls Tryz.prog 99 #[kV f, dV g cl ng A n c ex] w (CNan N (cl == 3) w) := by
  have HWO := Lib.hid hA
  have t1 : (cl == 1) = false := by simpa using h1
  have t2 : (cl == 2) = false := by simpa using h2
  clear hA h1 h2
  obtain ⟨q, hq⟩ : ∃ q, (cl == 3) = q := ⟨_, rfl⟩
  rw [hq]
  show Calls Tryz.prog 99 #[.agg #[.int .i64 (fmD f), .int .i64 (fmE f), .int .i64 (fmL f), .int .i64 (fmH f), .int .i64 (fmW f), .int .i64 f], dV g cl ng A n c ex] w _
  generalize fmD f = D at *
  generalize fmE f = E at *
  generalize fmL f = L at *
  generalize fmH f = H at *
  generalize fmW f = W at *
  go_enter Tryz.func99, Tryz.ntmps99
  go_wp2_with (go_at_call 122; (with_reducible refine (HWO.out _ bel).mono ?_); rintro e w1 ⟨hi, lo, rfl, hw1, b1⟩; obtain ⟨hc1, hf1⟩ := bcell b1; have hz1 := below_size b1; (try simp at hz1); have z01 : w.heap.size < w1.heap.size := (by omega); have z11 : w.heap.size + 1 < w1.heap.size := (by omega))
  exact bodyPost_ret (v := .iface 146 (.agg #[.int .u64 hi, .int .u64 lo, .bool q])) (by simp [results, Tryz.results99, go_sem]) rfl ⟨_, _, rfl, hw1, bel⟩

set_option maxHeartbeats 4000000 in
theorem cont_sub {N : Nat} {A : Option Addr} {n c : Nat} (f g ex : Int) (ng : Bool) (w : World) (hz : (blen N : Int) ≠ fmD f) (hA : WordOf A n c N w) :
    Calls Tryz.prog 99 #[kV f, dV g 1 ng A n c ex] w (CNum 0 N w) := by
  have HWO := Lib.hid hA
  have HSZ : Hid (∀ hi lo w', Hid (Wd N hi lo) → Calls Tryz.prog 73 #[wV hi lo] w' fun e w'' => e = .returned (.int .i64 (blen N)) ∧ Below w'.heap.size w' w'') := Lib.hid fun hi lo w' hw => wsize_any w' hw.out
  have t1 : ((blen N : Int) == fmD f) = false := by simpa using hz
  clear hA hz
  show Calls Tryz.prog 99 #[.agg #[.int .i64 (fmD f), .int .i64 (fmE f), .int .i64 (fmL f), .int .i64 (fmH f), .int .i64 (fmW f), .int .i64 f], dV g 1 ng A n c ex] w _
  generalize blen N = z at *
  generalize fmD f = D at *
  generalize fmE f = E at *
  generalize fmL f = L at *
  generalize fmH f = H at *
  generalize fmW f = W at *
  go_enter Tryz.func99, Tryz.ntmps99
  go_wp2_with (go_at_call 122; (with_reducible refine (HWO.out _ bel).mono ?_); rintro e w1 ⟨hi, lo, rfl, hw1, b1⟩; obtain ⟨hc1, hf1⟩ := bcell b1; have hz1 := below_size b1; (try simp at hz1); have z01 : w.heap.size < w1.heap.size := (by omega); have z11 : w.heap.size + 1 < w1.heap.size := (by omega))
  go_region_with (go_at_call 73; (with_reducible refine (HSZ.out _ _ _ hw1).mono ?_); rintro e w2 ⟨rfl, b2⟩; obtain ⟨hc2, hf2⟩ := bcell b2; have hz2 := below_size b2; (try simp at hz2); have z02 : w.heap.size < w2.heap.size := (by omega); have z12 : w.heap.size + 1 < w2.heap.size := (by omega); (try have y12 : w1.heap.size < w2.heap.size := (by omega)); have q12 : w1.heap.size ≤ w2.heap.size := (by omega))
  all_goals
    go_wp2
    exact bodyPost_ret (v := .iface 149 (.agg #[.int .u64 0, .int .u64 ((0 : Nat) : Int), .int .u64 hi, .int .u64 lo])) (by simp [results, Tryz.results99, go_sem]) rfl ⟨_, _, rfl, hw1, bel⟩
set_option maxHeartbeats 4000000 in
theorem cont_full {N : Nat} {A : Option Addr} {n c : Nat} (f g ex : Int) (ng : Bool) (w : World) (hz : (blen N : Int) = fmD f) (hl : fmL f ≤ ex) (hh : ex ≤ fmH f) (hA : WordOf A n c N w) :
    Calls Tryz.prog 99 #[kV f, dV g 1 ng A n c ex] w (CNum (ex - fmL f + 1).toNat (N % 2 ^ (fmD f - 1).toNat) w) := by
  have HWO := Lib.hid hA
  have HSZ : Hid (∀ hi lo w', Hid (Wd N hi lo) → Calls Tryz.prog 73 #[wV hi lo] w' fun e w'' => e = .returned (.int .i64 (blen N)) ∧ Below w'.heap.size w' w'') := Lib.hid fun hi lo w' hw => wsize_any w' hw.out
  obtain ⟨d1, d2⟩ := D_bd2 f
  obtain ⟨l1, l2⟩ := fmL_bd f
  obtain ⟨l3, l4⟩ := fmH_bd f
  obtain ⟨p, hp⟩ : ∃ p : Nat, fmD f - 1 = p := ⟨(fmD f - 1).toNat, by omega⟩
  have hp2 : (fmD f - 1).toNat = p := by omega
  have HLO : Hid (∀ hi lo w', Hid (Wd N hi lo) → Calls Tryz.prog 106 #[wV hi lo, .int .i64 p] w' (GivesW (N % 2 ^ p) w')) := Lib.hid fun hi lo w' hw => wlow_any p w' hw.out (by omega)
  have t1 : ((blen N : Int) == fmD f) = true := by simpa using hz
  have hwp : IntKind.i64.wrap (p : Int) = p := by rw [IntKind.wrap_i64]; omega
  obtain ⟨m, hm⟩ : ∃ m : Nat, ex - fmL f + 1 = m := ⟨(ex - fmL f + 1).toNat, by omega⟩
  have hm2 : (ex - fmL f + 1).toNat = m := by omega
  have hm3 : IntKind.u64.wrap (IntKind.i64.wrap (IntKind.i64.wrap (ex - fmL f) + 1)) = m := by simp only [IntKind.wrap_i64, IntKind.wrap_u64]; omega
  rw [hp2, hm2]
  clear hA hz hp2 hm2
  generalize N % 2 ^ p = R at *
  show Calls Tryz.prog 99 #[.agg #[.int .i64 (fmD f), .int .i64 (fmE f), .int .i64 (fmL f), .int .i64 (fmH f), .int .i64 (fmW f), .int .i64 f], dV g 1 ng A n c ex] w _
  generalize blen N = z at *
  generalize fmD f = D at *
  generalize fmE f = E at *
  generalize fmL f = L at *
  generalize fmH f = H at *
  generalize fmW f = W at *
  go_enter Tryz.func99, Tryz.ntmps99
  go_wp2_with (go_at_call 122; (with_reducible refine (HWO.out _ bel).mono ?_); rintro e w1 ⟨hi, lo, rfl, hw1, b1⟩; obtain ⟨hc1, hf1⟩ := bcell b1; have hz1 := below_size b1; (try simp at hz1); have z01 : w.heap.size < w1.heap.size := (by omega); have z11 : w.heap.size + 1 < w1.heap.size := (by omega))
  go_region_with (go_at_call 73; (with_reducible refine (HSZ.out _ _ _ hw1).mono ?_); rintro e w2 ⟨rfl, b2⟩; obtain ⟨hc2, hf2⟩ := bcell b2; have hz2 := below_size b2; (try simp at hz2); have z02 : w.heap.size < w2.heap.size := (by omega); have z12 : w.heap.size + 1 < w2.heap.size := (by omega); (try have y12 : w1.heap.size < w2.heap.size := (by omega)); have q12 : w1.heap.size ≤ w2.heap.size := (by omega))
  all_goals
    go_wp2
    have k0 : w2.cell? ⟨w.heap.size, 0, none⟩ = some (.int .i64 D) := by first | (go_keep; done) | (rw [hc2 _ _ (by first | omega | (simp; omega) | simp)]; simp [go_sem, hc1, z01, z11, Nat.le_of_lt z01, Nat.le_of_lt z11])
    have k1 : w2.cell? ⟨w.heap.size, 2, none⟩ = some (.int .i64 L) := by first | (go_keep; done) | (rw [hc2 _ _ (by first | omega | (simp; omega) | simp)]; simp [go_sem, hc1, z01, z11, Nat.le_of_lt z01, Nat.le_of_lt z11])
    have k2 : w2.cell? ⟨w.heap.size + 1, 4, none⟩ = some (.int .i64 ex) := by first | (go_keep; done) | (rw [hc2 _ _ (by first | omega | (simp; omega) | simp)]; simp [go_sem, hc1, z01, z11, Nat.le_of_lt z01, Nat.le_of_lt z11])
    have k3 : w2.cell? ⟨w1.heap.size, 0, none⟩ = some (.int .u64 hi) := by first | (go_keep; done) | (rw [hc2 _ _ (by first | omega | (simp; omega) | simp)]; simp [go_sem, hc1, z01, z11, Nat.le_of_lt z01, Nat.le_of_lt z11])
    have k4 : w2.cell? ⟨w1.heap.size, 1, none⟩ = some (.int .u64 lo) := by first | (go_keep; done) | (rw [hc2 _ _ (by first | omega | (simp; omega) | simp)]; simp [go_sem, hc1, z01, z11, Nat.le_of_lt z01, Nat.le_of_lt z11])
    go_region_held3 (fun w' => w'.cell? ⟨w.heap.size, 0, none⟩ = some (.int .i64 D) ∧ w'.cell? ⟨w.heap.size, 2, none⟩ = some (.int .i64 L) ∧ w'.cell? ⟨w.heap.size + 1, 4, none⟩ = some (.int .i64 ex) ∧ w'.cell? ⟨w1.heap.size, 0, none⟩ = some (.int .u64 hi) ∧ w'.cell? ⟨w1.heap.size, 1, none⟩ = some (.int .u64 lo)) (first | (go_keep; done) | ((try go_split_ands); refine ⟨?_, ?_, ?_, ?_, ?_⟩ <;> first | (go_keep; done) | ((rw [hc3 _ _ (by first | omega | (simp; omega) | simp)]; first | assumption | (simp [*]; done))) | omega)) ((go_at_call 106; (try rw [hwp]); (with_reducible refine (HLO.out _ _ _ hw1).mono ?_); rintro e w3 ⟨hi3, lo3, rfl, hw3, b3⟩; obtain ⟨hc3, hf3⟩ := bcell b3; have hz3 := below_size b3; (try simp at hz3); have z03 : w.heap.size < w3.heap.size := (by omega); have z13 : w.heap.size + 1 < w3.heap.size := (by omega); (try have y13 : w1.heap.size < w3.heap.size := (by omega)); have q13 : w1.heap.size ≤ w3.heap.size := (by omega); (try have y23 : w2.heap.size < w3.heap.size := (by omega)); have q23 : w2.heap.size ≤ w3.heap.size := (by omega)))
    rename_i hHeld
    clear hHeld
    all_goals
      go_wp2
      exact bodyPost_ret (v := .iface 149 (.agg #[.int .u64 0, .int .u64 m, .int .u64 hi3, .int .u64 lo3])) (by simp [results, Tryz.results99, go_sem, hm3]) rfl ⟨_, _, rfl, hw3, bel⟩
end Go.Proofs.YtacnkcojhlbkoaaGreatDoor

set_option linter.unusedSimpArgs false
set_option linter.unusedVariables false
set_option linter.unnecessarySimpa false
namespace Go.Proofs.YtacnkcojhlbkoaaGreatDoor
open Go Go.RowKit
theorem dr_size (w : World) : w.drew.heap.size = w.heap.size := rfl
theorem dr_cell (w : World) (a : Addr) : w.drew.cell? a = w.cell? a := rfl
theorem dr_frozen (w : World) (a : Addr) : w.drew.frozen? a = w.frozen? a := rfl
theorem below_S {n : Nat} {W0 w' : World} (h : Below n W0 w') (hn : n = W0.heap.size := by rfl) : Below n W0 w' ∧ ∀ b o, b < n → w'.cell? ⟨b, o, none⟩ = W0.cell? ⟨b, o, none⟩ := by
  subst hn
  exact ⟨h, (bcell h).1⟩
/-- As 'blk0', but a block that is known at this world is taken first. -/
theorem blk1 {w : World} {g : Nat} {t : TypeId} {f : Array Value → Prop} (h : BlkIs w g t f := by repeat (first | with_reducible assumption | ((with_reducible refine BlkIs.new ?hg ?hf); (case hg => (simp; done)); (case hf => first | rfl | (simp; done))) | with_reducible refine BlkIs.alloc ?_ | with_reducible refine BlkIs.drewN ?_ | with_reducible refine BlkIs.drew ?_ | with_reducible refine BlkIs.set ?_ | ((with_reducible refine BlkIs.far ?_ ?hne); (case hne => first | (simp; done) | omega | (simp; omega))) | ((with_reducible refine BlkIs.of (by with_reducible assumption) ?hf); (case hf => first | rfl | (simp; done))) | with_reducible refine BlkIs.below ?_ (by assumption) | ((with_reducible refine BlkIs.chg ?_ (by assumption) ?hnn); (case hnn => first | (simp; done) | omega | (simp; omega) | (intro hs; have := hs.1; omega))))) : BlkIs w g t f := h
end Go.Proofs.YtacnkcojhlbkoaaGreatDoor

set_option linter.unusedSimpArgs false
set_option linter.unusedVariables false
set_option linter.unnecessarySimpa false
namespace Go.Proofs.YtacnkcojhlbkoaaGreatDoor
open Go.RowKit Go.Proofs.YtacnkcojhlbkoaaGreatDoorW.PrintWords Go.Proofs.YtacnkcojhlbkoaaGreatDoorW.PrintLast Go.Proofs.YtacnkcojhlbkoaaGreatDoorW.PrintMore Go.Proofs.YtacnkcojhlbkoaaGreatDoor.NL
set_option maxRecDepth 100000

set_option maxHeartbeats 2000000 in
theorem light_any (b m : Nat) (f : Nat → Option Addr × Nat × Nat) (w : World) (hc : ∀ i, i < m → w.cell? ⟨b, i, none⟩ = some (.slice (f i).1 (f i).2.1 (f i).2.2)) (hm : m ≤ 1000) (hn : ∀ i, i < m → (f i).2.1 ≤ 9223372036854775807) :
    Calls Tryz.prog 5 #[.slice (some ⟨b, 0, none⟩) m m] w fun e w' => e = .returned (.bool (decide (∀ i, i < m → (f i).2.1 ≤ 1100))) ∧ w = w' := by
  have HC := Lib.hid hc
  have HN := Lib.hid hn
  clear hc hn
  go_enter Tryz.func5, Tryz.ntmps5
  go_wp2
  go_loop [3] (fun vi => ∃ k : Nat, k ≤ m ∧ vi = .int .i64 k ∧ ∀ i, i < k → (f i).2.1 ≤ 1100) (fun vi => m - (intOf vi).toNat)
  case atStart => exact ⟨0, by omega, rfl, fun i h => absurd h (by omega)⟩
  case round =>
    obtain ⟨k, hk, rfl, hv⟩ := hrel
    have HV := Lib.hid hv
    clear hv
    by_cases hlt : k < m
    · have hcell := HC.out k hlt
      have hn := HN.out k hlt
      have HE : Hid ((f k).2.1 ≤ 1100 → ∀ i, i < k + 1 → (f i).2.1 ≤ 1100) := Lib.hid fun h i hi => by
        by_cases e : i = k
        · rw [e]; exact h
        · exact HV.out i (by omega)
      have HF : Hid (1100 < (f k).2.1 → decide (∀ i, i < m → (f i).2.1 ≤ 1100) = false) := Lib.hid fun h => decide_eq_false fun h2 => by have := h2 k hlt; omega
      generalize (f k).2.1 = n at *
      generalize (f k).1 = A at *
      generalize (f k).2.2 = c at *
      by_cases h : n ≤ 1100
      · have d0 : decide ((1100 : Int) < n) = false := decide_eq_false (by omega)
        have HE2 := Lib.hid (HE.out h)
        clear HE HF h
        go_wp2
        go_round
        case rel => exact ⟨k + 1, by omega, by simp, HE2.out⟩
        case measure => simp [intOf]; omega
      · have d0 : decide ((1100 : Int) < n) = true := decide_eq_true (by omega)
        have HF2 := Lib.hid (HF.out (by omega))
        clear HE HF h
        go_wp2
        go_ret
        exact ⟨by rw [HF2.out]; rfl, rfl⟩
    · obtain rfl : k = m := by omega
      have HT : Hid (decide (∀ i, i < k → (f i).2.1 ≤ 1100) = true) := Lib.hid (decide_eq_true HV.out)
      go_wp2
      go_ret
      exact ⟨by rw [HT.out]; rfl, rfl⟩
end Go.Proofs.YtacnkcojhlbkoaaGreatDoor
namespace Go.Proofs.YtacnkcojhlbkoaaGreatDoor
open Go.RowKit Go.Proofs.YtacnkcojhlbkoaaGreatDoorW.PrintWords Go.Proofs.YtacnkcojhlbkoaaGreatDoorW.PrintLast Go.Proofs.YtacnkcojhlbkoaaGreatDoorW.PrintMore Go.Proofs.YtacnkcojhlbkoaaGreatDoor.NL
def light2 (l0 l1 : List Int) : Option Bool := if l0.length ≤ 9223372036854775807 ∧ l1.length ≤ 9223372036854775807 then some (decide (l0.length ≤ 1100 ∧ l1.length ≤ 1100)) else none
theorem light_two {A0 A1 : Option Addr} {c0 c1 : Nat} {l0 l1 : List Int} {r : Bool} (W : World) (t : TypeId) (h : light2 l0 l1 = some r) :
    Calls Tryz.prog 5 #[.slice (some ⟨W.heap.size, 0, none⟩) 2 2] (W.alloc (.cells #[.slice A0 l0.length c0, .slice A1 l1.length c1] t)) fun e w' => e = .returned (.bool r) ∧ Below (W.alloc (.cells #[.slice A0 l0.length c0, .slice A1 l1.length c1] t)).heap.size (W.alloc (.cells #[.slice A0 l0.length c0, .slice A1 l1.length c1] t)) w' := by
  unfold light2 at h
  split at h
  · rename_i hb
    simp only [Option.some.injEq] at h
    subst h
    refine (light_any W.heap.size 2 (fun i => if i = 0 then (A0, l0.length, c0) else (A1, l1.length, c1)) _ (fun i hi => ?_) (by omega) (fun i hi => ?_)).mono ?_
    · have : i = 0 ∨ i = 1 := by omega
      rcases this with rfl | rfl <;> simp [go_sem]
    · have : i = 0 ∨ i = 1 := by omega
      rcases this with rfl | rfl
      · exact hb.1
      · exact hb.2
    · rintro e w' ⟨rfl, rfl⟩
      refine ⟨?_, Below.refl _ _⟩
      congr 2
      rw [decide_eq_decide]
      exact ⟨fun h => ⟨h 0 (by omega), h 1 (by omega)⟩, fun h i hi => by
        have : i = 0 ∨ i = 1 := by omega
        rcases this with rfl | rfl
        · exact h.1
        · exact h.2⟩
  · cases h
/-- A row of limbs that came in. -/
def IsRow (k : IntKind) (w : World) (a : Option Addr) (len cap : Nat) (zs : List Int) : Prop :=
  (a = none ∧ len = 0 ∧ cap = 0 ∧ zs = []) ∨
  ∃ x, a = some x ∧ len ≤ cap ∧ cap ≤ maxLen ∧ zs.length = cap ∧ (∀ i, i < zs.length → w.cell? (x.add i) = some (.int k (zs.getD i 0))) ∧ ∀ n ∈ zs, (Lit.int k n).wf = true
theorem nat_row {W : World} {a : Option Addr} {len cap : Nat} {z : List Int} (h : IsRow .u32 W a len cap z) : ∃ l : List Int, len = l.length ∧ Kd.C (Kd.int .u32) W a l.length l ∧ l.length ≤ cap ∧ Lim l ∧ l.length ≤ maxLen := by
  obtain ⟨l1, rfl, hr1, hm1, hw1, hc1⟩ := ReadsInt.ofRowC h
  refine ⟨l1, rfl, Kd.C_of_reads (d := (0 : Int)) (h1 := fun _ => rfl) hr1, hc1, ?_, hm1⟩
  intro n hn
  have := hw1 n hn
  simp [Lit.wf, IntKind.min, IntKind.max, IntKind.signed, IntKind.bits] at this
  omega
end Go.Proofs.YtacnkcojhlbkoaaGreatDoor

set_option linter.unusedSimpArgs false
set_option linter.unusedVariables false
set_option linter.unnecessarySimpa false
namespace Go.Proofs.YtacnkcojhlbkoaaGreatDoor
open Go.RowKit Go.Proofs.YtacnkcojhlbkoaaGreatDoorW.PrintWords Go.Proofs.YtacnkcojhlbkoaaGreatDoorW.PrintLast Go.Proofs.YtacnkcojhlbkoaaGreatDoorW.PrintMore Go.Proofs.YtacnkcojhlbkoaaGreatDoor.NL
set_option maxRecDepth 100000
set_option exponentiation.threshold 33000

theorem eqBF (d : Nat) (w : World) (x0 y0 x1 y1 x2 y2 x3 y3 x4 y4 : Int) :
    (Op.equalIn (d + 2) 33 (.agg #[.int .i64 x0, .int .i64 x1, .int .i64 x2, .int .i64 x3, .int .i64 x4]) (.agg #[.int .i64 y0, .int .i64 y1, .int .i64 y2, .int .i64 y3, .int .i64 y4])).run Tryz.prog w = .ok (x0 == y0 && (x1 == y1 && (x2 == y2 && (x3 == y3 && (x4 == y4))))) w := by
  refine eqA_of Tryz.underlying33 (by kernel_rfl) ?_
  refine eqf_cons (by rfl) (by go_simp; rfl) (by go_simp; rfl) (by go_simp) ?_
  refine eqf_cons (by rfl) (by go_simp; rfl) (by go_simp; rfl) (by go_simp) ?_
  refine eqf_cons (by rfl) (by go_simp; rfl) (by go_simp; rfl) (by go_simp) ?_
  refine eqf_cons (by rfl) (by go_simp; rfl) (by go_simp; rfl) (by go_simp) ?_
  exact eqf_last (by rfl) (by go_simp; rfl) (by go_simp; rfl) (by go_simp)
theorem light_two_at {A0 A1 : Option Addr} {c0 c1 : Nat} {l0 l1 : List Int} {r : Bool} (W : World) (t : TypeId) (g : Nat) (hg : g = W.heap.size) (h : light2 l0 l1 = some r) :
    Calls Tryz.prog 5 #[.slice (some ⟨g, 0, none⟩) 2 2] (W.alloc (.cells #[.slice A0 l0.length c0, .slice A1 l1.length c1] t)) fun e w' => e = .returned (.bool r) ∧ Below (W.alloc (.cells #[.slice A0 l0.length c0, .slice A1 l1.length c1] t)).heap.size (W.alloc (.cells #[.slice A0 l0.length c0, .slice A1 l1.length c1] t)) w' := by
  subst hg
  exact light_two W t h
set_option maxHeartbeats 4000000 in
theorem forms_long {n f cl ex g cm ey : Int} {ng mg : Bool} {A B : Option Addr} {c d : Nat} {l m : List Int} (w : World) (hli : light2 l m = some false) (hT : Tab w)
    (HSa : Hid (∀ w', Tab w' → Calls Tryz.prog 6 #[] w' fun e w'' => e = .returned (.bool true) ∧ Below w'.heap.size w' w'')) :
    Calls Tryz.prog 3 #[.int .i64 n, dV f cl ng A l.length c ex, dV g cm mg B m.length d ey] w fun e w' => e = .returned (.bool true) ∧ Below w.heap.size w w' := by
  have HLI := Lib.hid hli
  have HT := Lib.hid hT
  clear hli hT
  go_enter Tryz.func3, Tryz.ntmps3
  go_wp2_with (first | fail | (go_at_call 5; (with_reducible refine (light_two_at _ _ _ (by first | rfl | (simp; done)) HLI.out).mono ?_); rintro e w1 ⟨rfl, b1⟩; obtain ⟨hc1, hf1⟩ := bcell b1; have hz1 := below_size b1; (try simp at hz1)) | (go_at_call 6; (with_reducible refine (HSa.out _ (HT.out.below bel)).mono ?_); rintro e w2 ⟨rfl, b2⟩; obtain ⟨hc2, hf2⟩ := bcell b2; have hz2 := below_size b2; (try simp at hz2)))
  all_goals
    go_ret
    exact ⟨by simp, bel⟩
set_option maxHeartbeats 16000000 in
theorem forms_no {n f cl ex g cm ey er : Int} {ng mg v s : Bool} {A B : Option Addr} {c d : Nat} {l m ys : List Int} (w : World)
    (hA : Kd.C (Kd.int .u32) w A l.length l) (hAc : l.length ≤ c) (hB : Kd.C (Kd.int .u32) w B m.length m) (hBc : m.length ≤ d) (hli : light2 l m = some true) (hT : Tab w)
    (HSa : Hid (∀ w', Tab w' → Calls Tryz.prog 6 #[] w' fun e w'' => e = .returned (.bool true) ∧ Below w'.heap.size w' w''))
    (HVa : Hid (∀ w', Kd.C (Kd.int .u32) w' A l.length l → Calls Tryz.prog 7 #[dV f cl ng A l.length c ex] w' fun e w'' => e = .returned (.bool v) ∧ Below w'.heap.size w' w''))
    (HCh : Hid (∀ w', Kd.C (Kd.int .u32) w' A l.length l → Calls Tryz.prog 8 #[dV f cl ng A l.length c ex] w' fun e w'' => e = .returned (.int .i64 er) ∧ Below w'.heap.size w' w''))
    (hv : v = true ∧ er = 0 ∨ v = false ∧ er = 1)
    (HBs : Hid (∀ w', Kd.C (Kd.int .u32) w' A l.length l → Kd.C (Kd.int .u32) w' B m.length m → Calls Tryz.prog 9 #[dV f cl ng A l.length c ex, dV g cm mg B m.length d ey] w' fun e w'' => e = .returned (.bool s) ∧ Below w'.heap.size w' w''))
    (HRs : Hid (∀ w', Kd.C (Kd.int .u32) w' A l.length l → Kd.C (Kd.int .u32) w' B m.length m → Calls Tryz.prog 10 #[dV f cl ng A l.length c ex, dV g cm mg B m.length d ey] w' fun e w'' => e = .returned (.bool s) ∧ Below w'.heap.size w' w''))
    (HBt : Hid (∀ w', Kd.C (Kd.int .u32) w' A l.length l → Calls Tryz.prog 9 #[dV f cl ng A l.length c ex, dV f cl ng A l.length c ex] w' fun e w'' => e = .returned (.bool true) ∧ Below w'.heap.size w' w''))
    (HIF : Hid (∀ w', Calls Tryz.prog 16 #[.int .i64 n] w' fun e w'' => e = .returned (.bool false) ∧ Below w'.heap.size w' w''))
    (HF : Hid (∀ w', Calls Tryz.prog 11 #[.int .i64 n] w' fun e w'' => e = .returned (.tuple #[.agg #[.int .i64 0, .int .i64 0, .int .i64 0, .int .i64 0, .int .i64 0], .int .i64 1]) ∧ Below w'.heap.size w' w''))
    (HN1 : Hid (∀ w', Tab w' → Calls Tryz.prog 12 #[.int .i64 n] w' (DatumE 0 0 false ys 0 1 w')))
    (HN2 : Hid (∀ w', Tab w' → Calls Tryz.prog 13 #[.int .i64 n] w' (DatumE 0 0 false ys 0 1 w')))
    (HN3 : Hid (∀ w', Tab w' → Calls Tryz.prog 14 #[.int .i64 n] w' (DatumE 0 0 false ys 0 1 w')))
    (HN4 : Hid (∀ w', Tab w' → Calls Tryz.prog 15 #[.int .i64 n] w' (DatumE 0 0 false ys 0 1 w')))
    (HSm : Hid (∀ A c w', Kd.C (Kd.int .u32) w' A ys.length ys → ys.length ≤ c → Calls Tryz.prog 10 #[.agg #[.int .i64 0, .int .i64 0, .bool false, .slice A ys.length c, .int .i64 0], .agg #[.int .i64 0, .int .i64 0, .bool false, .slice none 0 0, .int .i64 0]] w' fun e w'' => e = .returned (.bool true) ∧ Below w'.heap.size w' w'')) :
    Calls Tryz.prog 3 #[.int .i64 n, dV f cl ng A l.length c ex, dV g cm mg B m.length d ey] w fun e w' => e = .returned (.bool true) ∧ Below w.heap.size w w' := by
  have HC0 := Lib.hid hA
  have HD0 := Lib.hid hB
  have HLI := Lib.hid hli
  have HT := Lib.hid hT
  clear hA hB hli hT
  go_enter Tryz.func3, Tryz.ntmps3
  rcases hv with ⟨rfl, rfl⟩ | ⟨rfl, rfl⟩
  all_goals
    go_wp2_with (first | fail | (go_at_call 5; (with_reducible refine (light_two_at _ _ _ (by first | rfl | (simp; done)) HLI.out).mono ?_); rintro e w1 ⟨rfl, b1⟩; obtain ⟨hc1, hf1⟩ := bcell b1; have hz1 := below_size b1; (try simp at hz1); have zz1_0 : w.heap.size < w1.heap.size := (by omega); have zz1_1 : w.heap.size + 1 < w1.heap.size := (by omega)) | (go_at_call 7; (with_reducible refine (HVa.out _ (Kd.C_below HC0.out bel)).mono ?_); rintro e w2 ⟨rfl, b2⟩; obtain ⟨hc2, hf2⟩ := bcell b2; have hz2 := below_size b2; (try simp at hz2); have zz2_0 : w.heap.size < w2.heap.size := (by omega); have zz2_1 : w.heap.size + 1 < w2.heap.size := (by omega)))
    go_region_held3 (fun w' => Below (w2).heap.size (w2) w' ∧ ∀ b o, b < (w2).heap.size → w'.cell? ⟨b, o, none⟩ = (w2).cell? ⟨b, o, none⟩) (first | ((try go_split_ands); refine below_S ?_; ((repeat (first | with_reducible assumption | with_reducible exact Below.refl _ _ | with_reducible refine below_alloc ?_ _ | with_reducible refine pw_below_drewN ?_ _ | with_reducible refine below_drew1 ?_ | ((with_reducible refine below_set ?_ ?hle); (case hle => first | (simp; done) | omega | (simp; omega))) | with_reducible refine below_step ?_ (by with_reducible assumption))); done))) (first | (go_at_call 8; (with_reducible refine (HCh.out _ (Kd.C_below HC0.out bel)).mono ?_); rintro e w3 ⟨rfl, b3⟩; obtain ⟨hc3, hf3⟩ := bcell b3; (try simp only [dr_size, dr_cell] at hc3); (try simp only [dr_size, dr_frozen] at hf3); have hz3 := below_size b3; (try simp at hz3); have zz3_0 : w.heap.size < w3.heap.size := (by omega); have zz3_1 : w.heap.size + 1 < w3.heap.size := (by omega)) | (go_at_call 9; (with_reducible refine (HBs.out _ (Kd.C_below HC0.out bel) (Kd.C_below HD0.out bel)).mono ?_); rintro e w4 ⟨rfl, b4⟩; obtain ⟨hc4, hf4⟩ := bcell b4; (try simp only [dr_size, dr_cell] at hc4); (try simp only [dr_size, dr_frozen] at hf4); have hz4 := below_size b4; (try simp at hz4); have zz4_0 : w.heap.size < w4.heap.size := (by omega); have zz4_1 : w.heap.size + 1 < w4.heap.size := (by omega)) | (go_at_call 10; (with_reducible refine (HRs.out _ (Kd.C_below HC0.out bel) (Kd.C_below HD0.out bel)).mono ?_); rintro e w5 ⟨rfl, b5⟩; obtain ⟨hc5, hf5⟩ := bcell b5; (try simp only [dr_size, dr_cell] at hc5); (try simp only [dr_size, dr_frozen] at hf5); have hz5 := below_size b5; (try simp at hz5); have zz5_0 : w.heap.size < w5.heap.size := (by omega); have zz5_1 : w.heap.size + 1 < w5.heap.size := (by omega)) | (go_at_call 9; (with_reducible refine (HBt.out _ (Kd.C_below HC0.out bel)).mono ?_); rintro e w6 ⟨rfl, b6⟩; obtain ⟨hc6, hf6⟩ := bcell b6; (try simp only [dr_size, dr_cell] at hc6); (try simp only [dr_size, dr_frozen] at hf6); have hz6 := below_size b6; (try simp at hz6); have zz6_0 : w.heap.size < w6.heap.size := (by omega); have zz6_1 : w.heap.size + 1 < w6.heap.size := (by omega)))
    all_goals
      go_upto_region 12 with (first | fail | (go_at_call 11; (with_reducible refine (HF.out _).mono ?_); rintro e w7 ⟨rfl, b7⟩; obtain ⟨hc7, hf7⟩ := bcell b7; have hz7 := below_size b7; (try simp at hz7)) | (go_at_call 12; (with_reducible refine (HN1.out _ (HT.out.below bel)).mono ?_); rintro e w8 ⟨v8, rfl, hv8, b8⟩; obtain ⟨A8, c8, rfl⟩ := Kd.R_slice hv8; have HC8 := Lib.hid (R_C hv8); clear hv8; obtain ⟨hc8, hf8⟩ := bcell b8; have hz8 := below_size b8; (try simp at hz8); have zz8_0 : w7.heap.size < w8.heap.size := (by omega)) | (go_at_call 13; (with_reducible refine (HN2.out _ (HT.out.below bel)).mono ?_); rintro e w9 ⟨v9, rfl, hv9, b9⟩; obtain ⟨A9, c9, rfl⟩ := Kd.R_slice hv9; have HC9 := Lib.hid (R_C hv9); clear hv9; obtain ⟨hc9, hf9⟩ := bcell b9; have hz9 := below_size b9; (try simp at hz9); have zz9_0 : w7.heap.size < w9.heap.size := (by omega); have zz9_1 : w8.heap.size < w9.heap.size := (by omega)) | (go_at_call 14; (with_reducible refine (HN3.out _ (HT.out.below bel)).mono ?_); rintro e w10 ⟨v10, rfl, hv10, b10⟩; obtain ⟨A10, c10, rfl⟩ := Kd.R_slice hv10; have HC10 := Lib.hid (R_C hv10); clear hv10; obtain ⟨hc10, hf10⟩ := bcell b10; have hz10 := below_size b10; (try simp at hz10); have zz10_0 : w7.heap.size < w10.heap.size := (by omega); have zz10_1 : w8.heap.size < w10.heap.size := (by omega); have zz10_2 : w9.heap.size < w10.heap.size := (by omega)) | (go_at_call 15; (with_reducible refine (HN4.out _ (HT.out.below bel)).mono ?_); rintro e w11 ⟨v11, rfl, hv11, b11⟩; obtain ⟨A11, c11, rfl⟩ := Kd.R_slice hv11; have HC11 := Lib.hid (R_C hv11); clear hv11; obtain ⟨hc11, hf11⟩ := bcell b11; have hz11 := below_size b11; (try simp at hz11); have zz11_0 : w7.heap.size < w11.heap.size := (by omega); have zz11_1 : w8.heap.size < w11.heap.size := (by omega); have zz11_2 : w9.heap.size < w11.heap.size := (by omega); have zz11_3 : w10.heap.size < w11.heap.size := (by omega)))
      go_cut [8, 9, 10, 11, 12, 13, 14, 15, 16, 17] (fun v8 v9 v10 v11 v12 v13 v14 v15 v16 v17 wx => ∃ (p p1 p2 p3 p4 : Nat) (A1 A2 A3 A4 : Option Addr) (c1 c2 c3 c4 : Nat), v8 = .pointer (some ⟨p, 0, none⟩) ∧ v9 = .int .i64 1 ∧ BlkIs wx p 33 (· = #[.int .i64 0, .int .i64 0, .int .i64 0, .int .i64 0, .int .i64 0]) ∧ v10 = .pointer (some ⟨p1, 0, none⟩) ∧ v11 = .int .i64 1 ∧ BlkIs wx p1 25 (· = #[.int .i64 0, .int .i64 0, .bool false, .slice A1 ys.length c1, .int .i64 0]) ∧ Hid (Kd.C (Kd.int .u32) wx A1 ys.length ys ∧ ys.length ≤ c1) ∧ v12 = .pointer (some ⟨p2, 0, none⟩) ∧ v13 = .int .i64 1 ∧ BlkIs wx p2 25 (· = #[.int .i64 0, .int .i64 0, .bool false, .slice A2 ys.length c2, .int .i64 0]) ∧ Hid (Kd.C (Kd.int .u32) wx A2 ys.length ys ∧ ys.length ≤ c2) ∧ v14 = .pointer (some ⟨p3, 0, none⟩) ∧ v15 = .int .i64 1 ∧ BlkIs wx p3 25 (· = #[.int .i64 0, .int .i64 0, .bool false, .slice A3 ys.length c3, .int .i64 0]) ∧ Hid (Kd.C (Kd.int .u32) wx A3 ys.length ys ∧ ys.length ≤ c3) ∧ v16 = .pointer (some ⟨p4, 0, none⟩) ∧ v17 = .int .i64 1 ∧ BlkIs wx p4 25 (· = #[.int .i64 0, .int .i64 0, .bool false, .slice A4 ys.length c4, .int .i64 0]) ∧ Hid (Kd.C (Kd.int .u32) wx A4 ys.length ys ∧ ys.length ≤ c4) ∧ Below w.heap.size w wx)
      case first =>
        go_wp2_with (first | fail | (go_at_call 11; (with_reducible refine (HF.out _).mono ?_); rintro e w7 ⟨rfl, b7⟩; obtain ⟨hc7, hf7⟩ := bcell b7; have hz7 := below_size b7; (try simp at hz7)) | (go_at_call 12; (with_reducible refine (HN1.out _ (HT.out.below bel)).mono ?_); rintro e w8 ⟨v8, rfl, hv8, b8⟩; obtain ⟨A8, c8, rfl⟩ := Kd.R_slice hv8; have HC8 := Lib.hid (R_C hv8); clear hv8; obtain ⟨hc8, hf8⟩ := bcell b8; have hz8 := below_size b8; (try simp at hz8); have zz8_0 : w7.heap.size < w8.heap.size := (by omega)) | (go_at_call 13; (with_reducible refine (HN2.out _ (HT.out.below bel)).mono ?_); rintro e w9 ⟨v9, rfl, hv9, b9⟩; obtain ⟨A9, c9, rfl⟩ := Kd.R_slice hv9; have HC9 := Lib.hid (R_C hv9); clear hv9; obtain ⟨hc9, hf9⟩ := bcell b9; have hz9 := below_size b9; (try simp at hz9); have zz9_0 : w7.heap.size < w9.heap.size := (by omega); have zz9_1 : w8.heap.size < w9.heap.size := (by omega)) | (go_at_call 14; (with_reducible refine (HN3.out _ (HT.out.below bel)).mono ?_); rintro e w10 ⟨v10, rfl, hv10, b10⟩; obtain ⟨A10, c10, rfl⟩ := Kd.R_slice hv10; have HC10 := Lib.hid (R_C hv10); clear hv10; obtain ⟨hc10, hf10⟩ := bcell b10; have hz10 := below_size b10; (try simp at hz10); have zz10_0 : w7.heap.size < w10.heap.size := (by omega); have zz10_1 : w8.heap.size < w10.heap.size := (by omega); have zz10_2 : w9.heap.size < w10.heap.size := (by omega)) | (go_at_call 15; (with_reducible refine (HN4.out _ (HT.out.below bel)).mono ?_); rintro e w11 ⟨v11, rfl, hv11, b11⟩; obtain ⟨A11, c11, rfl⟩ := Kd.R_slice hv11; have HC11 := Lib.hid (R_C hv11); clear hv11; obtain ⟨hc11, hf11⟩ := bcell b11; have hz11 := below_size b11; (try simp at hz11); have zz11_0 : w7.heap.size < w11.heap.size := (by omega); have zz11_1 : w8.heap.size < w11.heap.size := (by omega); have zz11_2 : w9.heap.size < w11.heap.size := (by omega); have zz11_3 : w10.heap.size < w11.heap.size := (by omega)))
        go_meet
        exact ⟨_, _, _, _, _, _, _, _, _, _, _, _, _, rfl, rfl, blk0, rfl, rfl, blk0, Lib.hid ⟨Kd.C_below HC8.out.1 bel, HC8.out.2⟩, rfl, rfl, blk0, Lib.hid ⟨Kd.C_below HC9.out.1 bel, HC9.out.2⟩, rfl, rfl, blk0, Lib.hid ⟨Kd.C_below HC10.out.1 bel, HC10.out.2⟩, rfl, rfl, blk0, Lib.hid ⟨Kd.C_below HC11.out.1 bel, HC11.out.2⟩, bel⟩
      case rest =>
        skip
        obtain ⟨p, p1, p2, p3, p4, A1, A2, A3, A4, c1, c2, c3, c4, rfl, rfl, HB8, rfl, rfl, HB1, HX1, rfl, rfl, HB2, HX2, rfl, rfl, HB3, HX3, rfl, rfl, HB4, HX4, hbw⟩ := hcut
        obtain ⟨cs8, hbk8, rfl⟩ := HB8
        obtain ⟨cs1, hbk1, rfl⟩ := HB1
        obtain ⟨cs2, hbk2, rfl⟩ := HB2
        obtain ⟨cs3, hbk3, rfl⟩ := HB3
        obtain ⟨cs4, hbk4, rfl⟩ := HB4
        have r0 : wc.cell? ⟨p, 0, none⟩ = some (.int .i64 0) := by simpa using blk_cell hbk8 0
        have r1 : wc.cell? ⟨p, 1, none⟩ = some (.int .i64 0) := by simpa using blk_cell hbk8 1
        have r2 : wc.cell? ⟨p, 2, none⟩ = some (.int .i64 0) := by simpa using blk_cell hbk8 2
        have r3 : wc.cell? ⟨p, 3, none⟩ = some (.int .i64 0) := by simpa using blk_cell hbk8 3
        have r4 : wc.cell? ⟨p, 4, none⟩ = some (.int .i64 0) := by simpa using blk_cell hbk8 4
        have rz : p < wc.heap.size := blk_lt hbk8
        have s1_0 : wc.cell? ⟨p1, 0, none⟩ = some (.int .i64 0) := by simpa using blk_cell hbk1 0
        have s1_1 : wc.cell? ⟨p1, 1, none⟩ = some (.int .i64 0) := by simpa using blk_cell hbk1 1
        have s1_2 : wc.cell? ⟨p1, 2, none⟩ = some (.bool false) := by simpa using blk_cell hbk1 2
        have s1_3 : wc.cell? ⟨p1, 3, none⟩ = some (.slice A1 ys.length c1) := by simpa using blk_cell hbk1 3
        have s1_4 : wc.cell? ⟨p1, 4, none⟩ = some (.int .i64 0) := by simpa using blk_cell hbk1 4
        have s1_z : p1 < wc.heap.size := blk_lt hbk1
        have s2_0 : wc.cell? ⟨p2, 0, none⟩ = some (.int .i64 0) := by simpa using blk_cell hbk2 0
        have s2_1 : wc.cell? ⟨p2, 1, none⟩ = some (.int .i64 0) := by simpa using blk_cell hbk2 1
        have s2_2 : wc.cell? ⟨p2, 2, none⟩ = some (.bool false) := by simpa using blk_cell hbk2 2
        have s2_3 : wc.cell? ⟨p2, 3, none⟩ = some (.slice A2 ys.length c2) := by simpa using blk_cell hbk2 3
        have s2_4 : wc.cell? ⟨p2, 4, none⟩ = some (.int .i64 0) := by simpa using blk_cell hbk2 4
        have s2_z : p2 < wc.heap.size := blk_lt hbk2
        have s3_0 : wc.cell? ⟨p3, 0, none⟩ = some (.int .i64 0) := by simpa using blk_cell hbk3 0
        have s3_1 : wc.cell? ⟨p3, 1, none⟩ = some (.int .i64 0) := by simpa using blk_cell hbk3 1
        have s3_2 : wc.cell? ⟨p3, 2, none⟩ = some (.bool false) := by simpa using blk_cell hbk3 2
        have s3_3 : wc.cell? ⟨p3, 3, none⟩ = some (.slice A3 ys.length c3) := by simpa using blk_cell hbk3 3
        have s3_4 : wc.cell? ⟨p3, 4, none⟩ = some (.int .i64 0) := by simpa using blk_cell hbk3 4
        have s3_z : p3 < wc.heap.size := blk_lt hbk3
        have s4_0 : wc.cell? ⟨p4, 0, none⟩ = some (.int .i64 0) := by simpa using blk_cell hbk4 0
        have s4_1 : wc.cell? ⟨p4, 1, none⟩ = some (.int .i64 0) := by simpa using blk_cell hbk4 1
        have s4_2 : wc.cell? ⟨p4, 2, none⟩ = some (.bool false) := by simpa using blk_cell hbk4 2
        have s4_3 : wc.cell? ⟨p4, 3, none⟩ = some (.slice A4 ys.length c4) := by simpa using blk_cell hbk4 3
        have s4_4 : wc.cell? ⟨p4, 4, none⟩ = some (.int .i64 0) := by simpa using blk_cell hbk4 4
        have s4_z : p4 < wc.heap.size := blk_lt hbk4
        go_upto_region 14 with (first | fail | (go_at_call 16; (with_reducible refine (HIF.out _).mono ?_); rintro e w21 ⟨rfl, b21⟩; obtain ⟨hc21, hf21⟩ := bcell b21; have hz21 := below_size b21; (try simp at hz21); have zz21_0 : p < w21.heap.size := (by omega); have zz21_1 : p1 < w21.heap.size := (by omega); have zz21_2 : p2 < w21.heap.size := (by omega); have zz21_3 : p3 < w21.heap.size := (by omega); have zz21_4 : p4 < w21.heap.size := (by omega)))
        go_cut [8, 9, 10, 11, 12, 13, 14, 15, 16, 17, 18] (fun v8 v9 v10 v11 v12 v13 v14 v15 v16 v17 v18 wx => ∃ (p p1 p2 p3 p4 p5 : Nat) (A1 A2 A3 A4 : Option Addr) (c1 c2 c3 c4 : Nat), v8 = .pointer (some ⟨p, 0, none⟩) ∧ v9 = .int .i64 1 ∧ BlkIs wx p 33 (· = #[.int .i64 0, .int .i64 0, .int .i64 0, .int .i64 0, .int .i64 0]) ∧ v10 = .pointer (some ⟨p1, 0, none⟩) ∧ v11 = .int .i64 1 ∧ BlkIs wx p1 25 (· = #[.int .i64 0, .int .i64 0, .bool false, .slice A1 ys.length c1, .int .i64 0]) ∧ Hid (Kd.C (Kd.int .u32) wx A1 ys.length ys ∧ ys.length ≤ c1) ∧ v12 = .pointer (some ⟨p2, 0, none⟩) ∧ v13 = .int .i64 1 ∧ BlkIs wx p2 25 (· = #[.int .i64 0, .int .i64 0, .bool false, .slice A2 ys.length c2, .int .i64 0]) ∧ Hid (Kd.C (Kd.int .u32) wx A2 ys.length ys ∧ ys.length ≤ c2) ∧ v14 = .pointer (some ⟨p3, 0, none⟩) ∧ v15 = .int .i64 1 ∧ BlkIs wx p3 25 (· = #[.int .i64 0, .int .i64 0, .bool false, .slice A3 ys.length c3, .int .i64 0]) ∧ Hid (Kd.C (Kd.int .u32) wx A3 ys.length ys ∧ ys.length ≤ c3) ∧ v16 = .pointer (some ⟨p4, 0, none⟩) ∧ v17 = .int .i64 1 ∧ BlkIs wx p4 25 (· = #[.int .i64 0, .int .i64 0, .bool false, .slice A4 ys.length c4, .int .i64 0]) ∧ Hid (Kd.C (Kd.int .u32) wx A4 ys.length ys ∧ ys.length ≤ c4) ∧ v18 = .pointer (some ⟨p5, 0, none⟩) ∧ BlkIs wx p5 25 (· = #[.int .i64 0, .int .i64 0, .bool false, .slice none 0 0, .int .i64 0]) ∧ Below w.heap.size w wx)
        case first =>
          go_wp2_with (first | fail | (go_at_call 16; (with_reducible refine (HIF.out _).mono ?_); rintro e w21 ⟨rfl, b21⟩; obtain ⟨hc21, hf21⟩ := bcell b21; have hz21 := below_size b21; (try simp at hz21); have zz21_0 : p < w21.heap.size := (by omega); have zz21_1 : p1 < w21.heap.size := (by omega); have zz21_2 : p2 < w21.heap.size := (by omega); have zz21_3 : p3 < w21.heap.size := (by omega); have zz21_4 : p4 < w21.heap.size := (by omega)))
          go_meet
          exact ⟨_, _, _, _, _, _, _, _, _, _, _, _, _, _, rfl, rfl, blk1, rfl, rfl, blk1, Lib.hid ⟨Kd.C_below HX1.out.1 bel, HX1.out.2⟩, rfl, rfl, blk1, Lib.hid ⟨Kd.C_below HX2.out.1 bel, HX2.out.2⟩, rfl, rfl, blk1, Lib.hid ⟨Kd.C_below HX3.out.1 bel, HX3.out.2⟩, rfl, rfl, blk1, Lib.hid ⟨Kd.C_below HX4.out.1 bel, HX4.out.2⟩, rfl, blk1, bel⟩
        case rest =>
          skip
          clear r0 r1 r2 r3 r4 rz s1_0 s1_1 s1_2 s1_3 s1_4 s1_z s2_0 s2_1 s2_2 s2_3 s2_4 s2_z s3_0 s3_1 s3_2 s3_3 s3_4 s3_z s4_0 s4_1 s4_2 s4_3 s4_4 s4_z hbk8 hbk1 hbk2 hbk3 hbk4
          obtain ⟨p, p1, p2, p3, p4, p5, A1, A2, A3, A4, c1, c2, c3, c4, rfl, rfl, HB8, rfl, rfl, HB1, HX1, rfl, rfl, HB2, HX2, rfl, rfl, HB3, HX3, rfl, rfl, HB4, HX4, rfl, HB5, hbw⟩ := hcut
          obtain ⟨cs8, hbk8, rfl⟩ := HB8
          obtain ⟨cs1, hbk1, rfl⟩ := HB1
          obtain ⟨cs2, hbk2, rfl⟩ := HB2
          obtain ⟨cs3, hbk3, rfl⟩ := HB3
          obtain ⟨cs4, hbk4, rfl⟩ := HB4
          obtain ⟨cs5, hbk5, rfl⟩ := HB5
          have r0 : wc.cell? ⟨p, 0, none⟩ = some (.int .i64 0) := by simpa using blk_cell hbk8 0
          have r1 : wc.cell? ⟨p, 1, none⟩ = some (.int .i64 0) := by simpa using blk_cell hbk8 1
          have r2 : wc.cell? ⟨p, 2, none⟩ = some (.int .i64 0) := by simpa using blk_cell hbk8 2
          have r3 : wc.cell? ⟨p, 3, none⟩ = some (.int .i64 0) := by simpa using blk_cell hbk8 3
          have r4 : wc.cell? ⟨p, 4, none⟩ = some (.int .i64 0) := by simpa using blk_cell hbk8 4
          have rz : p < wc.heap.size := blk_lt hbk8
          have s1_0 : wc.cell? ⟨p1, 0, none⟩ = some (.int .i64 0) := by simpa using blk_cell hbk1 0
          have s1_1 : wc.cell? ⟨p1, 1, none⟩ = some (.int .i64 0) := by simpa using blk_cell hbk1 1
          have s1_2 : wc.cell? ⟨p1, 2, none⟩ = some (.bool false) := by simpa using blk_cell hbk1 2
          have s1_3 : wc.cell? ⟨p1, 3, none⟩ = some (.slice A1 ys.length c1) := by simpa using blk_cell hbk1 3
          have s1_4 : wc.cell? ⟨p1, 4, none⟩ = some (.int .i64 0) := by simpa using blk_cell hbk1 4
          have s1_z : p1 < wc.heap.size := blk_lt hbk1
          have s2_0 : wc.cell? ⟨p2, 0, none⟩ = some (.int .i64 0) := by simpa using blk_cell hbk2 0
          have s2_1 : wc.cell? ⟨p2, 1, none⟩ = some (.int .i64 0) := by simpa using blk_cell hbk2 1
          have s2_2 : wc.cell? ⟨p2, 2, none⟩ = some (.bool false) := by simpa using blk_cell hbk2 2
          have s2_3 : wc.cell? ⟨p2, 3, none⟩ = some (.slice A2 ys.length c2) := by simpa using blk_cell hbk2 3
          have s2_4 : wc.cell? ⟨p2, 4, none⟩ = some (.int .i64 0) := by simpa using blk_cell hbk2 4
          have s2_z : p2 < wc.heap.size := blk_lt hbk2
          have s3_0 : wc.cell? ⟨p3, 0, none⟩ = some (.int .i64 0) := by simpa using blk_cell hbk3 0
          have s3_1 : wc.cell? ⟨p3, 1, none⟩ = some (.int .i64 0) := by simpa using blk_cell hbk3 1
          have s3_2 : wc.cell? ⟨p3, 2, none⟩ = some (.bool false) := by simpa using blk_cell hbk3 2
          have s3_3 : wc.cell? ⟨p3, 3, none⟩ = some (.slice A3 ys.length c3) := by simpa using blk_cell hbk3 3
          have s3_4 : wc.cell? ⟨p3, 4, none⟩ = some (.int .i64 0) := by simpa using blk_cell hbk3 4
          have s3_z : p3 < wc.heap.size := blk_lt hbk3
          have s4_0 : wc.cell? ⟨p4, 0, none⟩ = some (.int .i64 0) := by simpa using blk_cell hbk4 0
          have s4_1 : wc.cell? ⟨p4, 1, none⟩ = some (.int .i64 0) := by simpa using blk_cell hbk4 1
          have s4_2 : wc.cell? ⟨p4, 2, none⟩ = some (.bool false) := by simpa using blk_cell hbk4 2
          have s4_3 : wc.cell? ⟨p4, 3, none⟩ = some (.slice A4 ys.length c4) := by simpa using blk_cell hbk4 3
          have s4_4 : wc.cell? ⟨p4, 4, none⟩ = some (.int .i64 0) := by simpa using blk_cell hbk4 4
          have s4_z : p4 < wc.heap.size := blk_lt hbk4
          have t0 : wc.cell? ⟨p5, 0, none⟩ = some (.int .i64 0) := by simpa using blk_cell hbk5 0
          have t1 : wc.cell? ⟨p5, 1, none⟩ = some (.int .i64 0) := by simpa using blk_cell hbk5 1
          have t2 : wc.cell? ⟨p5, 2, none⟩ = some (.bool false) := by simpa using blk_cell hbk5 2
          have t3 : wc.cell? ⟨p5, 3, none⟩ = some (.slice none 0 0) := by simpa using blk_cell hbk5 3
          have t4 : wc.cell? ⟨p5, 4, none⟩ = some (.int .i64 0) := by simpa using blk_cell hbk5 4
          have tz : p5 < wc.heap.size := blk_lt hbk5
          clear hbk8 hbk1 hbk2 hbk3 hbk4 hbk5
          have hEq := fun d w => eqBF d w 0 0 0 0 0 0 0 0 0 0
          go_wp2_with (first | fail | (go_at_call 6; (with_reducible refine (HSa.out _ (HT.out.below bel)).mono ?_); rintro e w22 ⟨rfl, b22⟩; obtain ⟨hc22, hf22⟩ := bcell b22; have hz22 := below_size b22; (try simp at hz22); have zz22_0 : p < w22.heap.size := (by omega); have zz22_1 : p1 < w22.heap.size := (by omega); have zz22_2 : p2 < w22.heap.size := (by omega); have zz22_3 : p3 < w22.heap.size := (by omega); have zz22_4 : p4 < w22.heap.size := (by omega); have zz22_5 : p5 < w22.heap.size := (by omega)) | (go_at_call 10; (with_reducible refine (HSm.out _ _ _ (Kd.C_below HX1.out.1 bel) HX1.out.2).mono ?_); rintro e w23 ⟨rfl, b23⟩; obtain ⟨hc23, hf23⟩ := bcell b23; have hz23 := below_size b23; (try simp at hz23); have zz23_0 : p < w23.heap.size := (by omega); have zz23_1 : p1 < w23.heap.size := (by omega); have zz23_2 : p2 < w23.heap.size := (by omega); have zz23_3 : p3 < w23.heap.size := (by omega); have zz23_4 : p4 < w23.heap.size := (by omega); have zz23_5 : p5 < w23.heap.size := (by omega)) | (go_at_call 10; (with_reducible refine (HSm.out _ _ _ (Kd.C_below HX2.out.1 bel) HX2.out.2).mono ?_); rintro e w24 ⟨rfl, b24⟩; obtain ⟨hc24, hf24⟩ := bcell b24; have hz24 := below_size b24; (try simp at hz24); have zz24_0 : p < w24.heap.size := (by omega); have zz24_1 : p1 < w24.heap.size := (by omega); have zz24_2 : p2 < w24.heap.size := (by omega); have zz24_3 : p3 < w24.heap.size := (by omega); have zz24_4 : p4 < w24.heap.size := (by omega); have zz24_5 : p5 < w24.heap.size := (by omega)) | (go_at_call 10; (with_reducible refine (HSm.out _ _ _ (Kd.C_below HX3.out.1 bel) HX3.out.2).mono ?_); rintro e w25 ⟨rfl, b25⟩; obtain ⟨hc25, hf25⟩ := bcell b25; have hz25 := below_size b25; (try simp at hz25); have zz25_0 : p < w25.heap.size := (by omega); have zz25_1 : p1 < w25.heap.size := (by omega); have zz25_2 : p2 < w25.heap.size := (by omega); have zz25_3 : p3 < w25.heap.size := (by omega); have zz25_4 : p4 < w25.heap.size := (by omega); have zz25_5 : p5 < w25.heap.size := (by omega)) | (go_at_call 10; (with_reducible refine (HSm.out _ _ _ (Kd.C_below HX4.out.1 bel) HX4.out.2).mono ?_); rintro e w26 ⟨rfl, b26⟩; obtain ⟨hc26, hf26⟩ := bcell b26; have hz26 := below_size b26; (try simp at hz26); have zz26_0 : p < w26.heap.size := (by omega); have zz26_1 : p1 < w26.heap.size := (by omega); have zz26_2 : p2 < w26.heap.size := (by omega); have zz26_3 : p3 < w26.heap.size := (by omega); have zz26_4 : p4 < w26.heap.size := (by omega); have zz26_5 : p5 < w26.heap.size := (by omega)))
          all_goals
            go_ret
            exact ⟨by simp, bel⟩
end Go.Proofs.YtacnkcojhlbkoaaGreatDoor
