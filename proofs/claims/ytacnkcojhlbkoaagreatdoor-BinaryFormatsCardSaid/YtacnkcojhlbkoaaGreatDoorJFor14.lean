/- binary: what bits mean. binary: what the bits of a NaN mean. -/
import Derived.Test.YtacnkcojhlbkoaaGreatDoorJFor13
set_option linter.unusedSimpArgs false
set_option linter.unusedVariables false
set_option linter.unnecessarySimpa false
namespace Go.Proofs.YtacnkcojhlbkoaaGreatDoor
open Go.RowKit Go.Proofs.YtacnkcojhlbkoaaGreatDoorW.PrintWords Go.Proofs.YtacnkcojhlbkoaaGreatDoorW.PrintLast Go.Proofs.YtacnkcojhlbkoaaGreatDoorW.PrintMore Go.Proofs.YtacnkcojhlbkoaaGreatDoor.NL
set_option maxRecDepth 100000
set_option exponentiation.threshold 130

end Go.Proofs.YtacnkcojhlbkoaaGreatDoor
namespace Go.Proofs.YtacnkcojhlbkoaaGreatDoor.NL
open Go Go.RowKit Go.Proofs
theorem Wd.small {N : Nat} {hi lo : Int} (h : Wd N hi lo) (hN : N < 18446744073709551616) : hi = 0 ∧ lo = N := by
  obtain ⟨a0, a1, b0, b1, hN⟩ := h
  omega
theorem Wd.zero {N : Nat} {hi lo : Int} (h : Wd N hi lo) : (hi = 0 ∧ lo = 0) ↔ N = 0 := by
  obtain ⟨a0, a1, b0, b1, hN⟩ := h
  omega
theorem Wd.same {M N : Nat} {hi lo hi' lo' : Int} (h : Wd M hi lo) (h' : Wd N hi' lo') : (hi = hi' ∧ lo = lo') ↔ M = N := by
  obtain ⟨a0, a1, b0, b1, hM⟩ := h
  obtain ⟨c0, c1, d0, d1, hN⟩ := h'
  omega
end Go.Proofs.YtacnkcojhlbkoaaGreatDoor.NL
namespace Go.Proofs.YtacnkcojhlbkoaaGreatDoor
open Go.RowKit Go.Proofs.YtacnkcojhlbkoaaGreatDoorW.PrintWords Go.Proofs.YtacnkcojhlbkoaaGreatDoorW.PrintLast Go.Proofs.YtacnkcojhlbkoaaGreatDoorW.PrintMore Go.Proofs.YtacnkcojhlbkoaaGreatDoor.NL
set_option maxRecDepth 100000
/-- What a field, an integer bit and a fraction mean. -/
def MeanP (b4 one : Bool) (F T R d : Nat) (hi lo : Int) (w : World) (e : Ending) (w' : World) : Prop :=
  Below w.heap.size w w' ∧
  if b4 = true ∧ one = false ∧ F ≠ 0 then e = .returned (.iface 146 (.agg #[.int .u64 0, .int .u64 1, .bool false]))
  else if b4 = true ∧ one = true ∧ F = 0 then e = .returned (.iface 149 (.agg #[.int .u64 0, .int .u64 1, .int .u64 hi, .int .u64 lo]))
  else if F ≠ T then e = .returned (.iface 149 (.agg #[.int .u64 0, .int .u64 F, .int .u64 hi, .int .u64 lo]))
  else if R = 0 then e = .returned (.iface 144 (.agg #[]))
  else ∃ h l : Int, e = .returned (.iface 146 (.agg #[.int .u64 h, .int .u64 l, .bool (decide (R % 2 ^ d ≠ R))])) ∧ Hid (Wd (R % 2 ^ d) h l)

set_option maxHeartbeats 8000000 in
theorem mean_A {F R : Nat} {hi lo : Int} (f : Int) (one : Bool) (w : World) (hR : Wd R hi lo) (hb : (f == 4) = true) (ho : one = false) (hF : F ≠ 0) :
    Calls Tryz.prog 107 #[kV f, wV 0 F, wV hi lo, .bool one] w (MeanP (f == 4) one F (lastN f) R (fmD f - 2).toNat hi lo w) := by
  have HEX := Lib.hid fun w' => explicit_any f w'
  have HLA := Lib.hid fun w' => last_any f w'
  obtain ⟨d1, d2⟩ := D_bd2 f
  obtain ⟨p, hp⟩ : ∃ p : Nat, fmD f - 2 = p := ⟨(fmD f - 2).toNat, by omega⟩
  have hp2 : (fmD f - 2).toNat = p := by omega
  have hwp : IntKind.i64.wrap (p : Int) = p := by rw [IntKind.wrap_i64]; omega
  have HLO : Hid (∀ w', Calls Tryz.prog 106 #[wV hi lo, .int .i64 p] w' (GivesW (R % 2 ^ p) w')) := Lib.hid fun w' => wlow_any p w' hR (by omega)
  rw [hp2]
  obtain ⟨b4, hb4⟩ : ∃ b, (f == 4) = b := ⟨_, rfl⟩
  rw [hb4] at HEX ⊢
  have HR := Lib.hid hR
  unfold kV at *
  clear hp2 hR
  show Calls Tryz.prog 107 #[.agg #[.int .i64 (fmD f), .int .i64 (fmE f), .int .i64 (fmL f), .int .i64 (fmH f), .int .i64 (fmW f), .int .i64 f], wV 0 F, wV hi lo, .bool one] w _
  generalize lastN f = T at *
  generalize fmD f = D at *
  generalize fmE f = E at *
  generalize fmL f = L at *
  generalize fmH f = H at *
  generalize fmW f = W at *
  obtain rfl : b4 = true := hb4.symm.trans hb
  clear hb hb4
  subst ho
  have t0 : ((F : Int) == 0) = false := by simp; omega
  have HF := Lib.hid hF
  clear hF
  go_enter Tryz.func107, Tryz.ntmps107
  go_wp2_with (first | (go_at_call 103; (with_reducible refine (HEX.out _).mono ?_); rintro e w1 ⟨rfl, b1⟩; obtain ⟨hc1, hf1⟩ := bcell b1; (try simp only [dr_size, dr_cell] at hc1); (try simp only [dr_size, dr_frozen] at hf1); have hz1 := below_size b1; (try simp at hz1); (try have z01 : w.heap.size < w1.heap.size := (by omega)); (try have z11 : w.heap.size + 1 < w1.heap.size := (by omega)); (try have z21 : w.heap.size + 1 + 1 < w1.heap.size := (by omega)); (try have z31 : w.heap.size + 1 + 1 + 1 < w1.heap.size := (by omega))) | (go_at_call 103; (with_reducible refine (HEX.out _).mono ?_); rintro e w2 ⟨rfl, b2⟩; obtain ⟨hc2, hf2⟩ := bcell b2; (try simp only [dr_size, dr_cell] at hc2); (try simp only [dr_size, dr_frozen] at hf2); have hz2 := below_size b2; (try simp at hz2); (try have z02 : w.heap.size < w2.heap.size := (by omega)); (try have z12 : w.heap.size + 1 < w2.heap.size := (by omega)); (try have z22 : w.heap.size + 1 + 1 < w2.heap.size := (by omega)); (try have z32 : w.heap.size + 1 + 1 + 1 < w2.heap.size := (by omega)); (try have yw12 : w1.heap.size < w2.heap.size := (by omega))))
  exact bodyPost_ret (v := .iface 146 (.agg #[.int .u64 0, .int .u64 1, .bool false])) (by simp [results, Tryz.results107, go_sem]) rfl ⟨bel, by rw [if_pos ⟨rfl, rfl, HF.out⟩]⟩

set_option maxHeartbeats 8000000 in
theorem mean_B {F R : Nat} {hi lo : Int} (f : Int) (one : Bool) (w : World) (hR : Wd R hi lo) (hb : (f == 4) = true) (ho : one = true) (hF : F = 0) :
    Calls Tryz.prog 107 #[kV f, wV 0 F, wV hi lo, .bool one] w (MeanP (f == 4) one F (lastN f) R (fmD f - 2).toNat hi lo w) := by
  have HEX := Lib.hid fun w' => explicit_any f w'
  have HLA := Lib.hid fun w' => last_any f w'
  obtain ⟨d1, d2⟩ := D_bd2 f
  obtain ⟨p, hp⟩ : ∃ p : Nat, fmD f - 2 = p := ⟨(fmD f - 2).toNat, by omega⟩
  have hp2 : (fmD f - 2).toNat = p := by omega
  have hwp : IntKind.i64.wrap (p : Int) = p := by rw [IntKind.wrap_i64]; omega
  have HLO : Hid (∀ w', Calls Tryz.prog 106 #[wV hi lo, .int .i64 p] w' (GivesW (R % 2 ^ p) w')) := Lib.hid fun w' => wlow_any p w' hR (by omega)
  rw [hp2]
  obtain ⟨b4, hb4⟩ : ∃ b, (f == 4) = b := ⟨_, rfl⟩
  rw [hb4] at HEX ⊢
  have HR := Lib.hid hR
  unfold kV at *
  clear hp2 hR
  show Calls Tryz.prog 107 #[.agg #[.int .i64 (fmD f), .int .i64 (fmE f), .int .i64 (fmL f), .int .i64 (fmH f), .int .i64 (fmW f), .int .i64 f], wV 0 F, wV hi lo, .bool one] w _
  generalize lastN f = T at *
  generalize fmD f = D at *
  generalize fmE f = E at *
  generalize fmL f = L at *
  generalize fmH f = H at *
  generalize fmW f = W at *
  obtain rfl : b4 = true := hb4.symm.trans hb
  clear hb hb4
  subst ho
  subst hF
  go_enter Tryz.func107, Tryz.ntmps107
  go_wp2_with (first | (go_at_call 103; (with_reducible refine (HEX.out _).mono ?_); rintro e w1 ⟨rfl, b1⟩; obtain ⟨hc1, hf1⟩ := bcell b1; (try simp only [dr_size, dr_cell] at hc1); (try simp only [dr_size, dr_frozen] at hf1); have hz1 := below_size b1; (try simp at hz1); (try have z01 : w.heap.size < w1.heap.size := (by omega)); (try have z11 : w.heap.size + 1 < w1.heap.size := (by omega)); (try have z21 : w.heap.size + 1 + 1 < w1.heap.size := (by omega)); (try have z31 : w.heap.size + 1 + 1 + 1 < w1.heap.size := (by omega))) | (go_at_call 103; (with_reducible refine (HEX.out _).mono ?_); rintro e w2 ⟨rfl, b2⟩; obtain ⟨hc2, hf2⟩ := bcell b2; (try simp only [dr_size, dr_cell] at hc2); (try simp only [dr_size, dr_frozen] at hf2); have hz2 := below_size b2; (try simp at hz2); (try have z02 : w.heap.size < w2.heap.size := (by omega)); (try have z12 : w.heap.size + 1 < w2.heap.size := (by omega)); (try have z22 : w.heap.size + 1 + 1 < w2.heap.size := (by omega)); (try have z32 : w.heap.size + 1 + 1 + 1 < w2.heap.size := (by omega)); (try have yw12 : w1.heap.size < w2.heap.size := (by omega))))
  exact bodyPost_ret (v := .iface 149 (.agg #[.int .u64 0, .int .u64 1, .int .u64 hi, .int .u64 lo])) (by simp [results, Tryz.results107, go_sem]) rfl ⟨bel, by rw [if_neg (by simp), if_pos ⟨rfl, rfl, rfl⟩]⟩

set_option maxHeartbeats 8000000 in
theorem mean_C1 {F R : Nat} {hi lo : Int} (f : Int) (one : Bool) (w : World) (hR : Wd R hi lo) (hT : F ≠ lastN f) (hA2 : ¬ ((f == 4) = true ∧ one = false ∧ F ≠ 0)) (hB2 : ¬ ((f == 4) = true ∧ one = true ∧ F = 0)) (hb : (f == 4) = false) :
    Calls Tryz.prog 107 #[kV f, wV 0 F, wV hi lo, .bool one] w (MeanP (f == 4) one F (lastN f) R (fmD f - 2).toNat hi lo w) := by
  have HEX := Lib.hid fun w' => explicit_any f w'
  have HLA := Lib.hid fun w' => last_any f w'
  obtain ⟨d1, d2⟩ := D_bd2 f
  obtain ⟨p, hp⟩ : ∃ p : Nat, fmD f - 2 = p := ⟨(fmD f - 2).toNat, by omega⟩
  have hp2 : (fmD f - 2).toNat = p := by omega
  have hwp : IntKind.i64.wrap (p : Int) = p := by rw [IntKind.wrap_i64]; omega
  have HLO : Hid (∀ w', Calls Tryz.prog 106 #[wV hi lo, .int .i64 p] w' (GivesW (R % 2 ^ p) w')) := Lib.hid fun w' => wlow_any p w' hR (by omega)
  rw [hp2]
  obtain ⟨b4, hb4⟩ : ∃ b, (f == 4) = b := ⟨_, rfl⟩
  rw [hb4] at HEX ⊢
  have HR := Lib.hid hR
  unfold kV at *
  clear hp2 hR
  show Calls Tryz.prog 107 #[.agg #[.int .i64 (fmD f), .int .i64 (fmE f), .int .i64 (fmL f), .int .i64 (fmH f), .int .i64 (fmW f), .int .i64 f], wV 0 F, wV hi lo, .bool one] w _
  generalize lastN f = T at *
  generalize fmD f = D at *
  generalize fmE f = E at *
  generalize fmL f = L at *
  generalize fmH f = H at *
  generalize fmW f = W at *
  rw [hb4] at hA2 hB2
  have HT := Lib.hid hT
  have HA2 := Lib.hid hA2
  have HB2 := Lib.hid hB2
  have hpost : ∀ w' e, e = .returned (.iface 149 (.agg #[.int .u64 0, .int .u64 F, .int .u64 hi, .int .u64 lo])) → Below w.heap.size w w' → MeanP b4 one F T R p hi lo w e w' := fun w' e h1 h2 => ⟨h2, by rw [if_neg HA2.out, if_neg HB2.out, if_pos HT.out]; exact h1⟩
  have HPO := Lib.hid hpost
  have t9 : ((F : Int) == (T : Int)) = false := by simp; omega
  obtain rfl : b4 = false := hb4.symm.trans hb
  clear hb hb4
  clear hT hA2 hB2 hpost HT HA2 HB2
  go_enter Tryz.func107, Tryz.ntmps107
  go_wp2_with (first | (go_at_call 103; (with_reducible refine (HEX.out _).mono ?_); rintro e w1 ⟨rfl, b1⟩; obtain ⟨hc1, hf1⟩ := bcell b1; (try simp only [dr_size, dr_cell] at hc1); (try simp only [dr_size, dr_frozen] at hf1); have hz1 := below_size b1; (try simp at hz1); (try have z01 : w.heap.size < w1.heap.size := (by omega)); (try have z11 : w.heap.size + 1 < w1.heap.size := (by omega)); (try have z21 : w.heap.size + 1 + 1 < w1.heap.size := (by omega)); (try have z31 : w.heap.size + 1 + 1 + 1 < w1.heap.size := (by omega))) | (go_at_call 103; (with_reducible refine (HEX.out _).mono ?_); rintro e w2 ⟨rfl, b2⟩; obtain ⟨hc2, hf2⟩ := bcell b2; (try simp only [dr_size, dr_cell] at hc2); (try simp only [dr_size, dr_frozen] at hf2); have hz2 := below_size b2; (try simp at hz2); (try have z02 : w.heap.size < w2.heap.size := (by omega)); (try have z12 : w.heap.size + 1 < w2.heap.size := (by omega)); (try have z22 : w.heap.size + 1 + 1 < w2.heap.size := (by omega)); (try have z32 : w.heap.size + 1 + 1 + 1 < w2.heap.size := (by omega)); (try have yw12 : w1.heap.size < w2.heap.size := (by omega))))
  go_region_with (first | (go_at_call 123; (with_reducible refine (HLA.out _).mono ?_); rintro e w3 ⟨rfl, b3⟩; obtain ⟨hc3, hf3⟩ := bcell b3; (try simp only [dr_size, dr_cell] at hc3); (try simp only [dr_size, dr_frozen] at hf3); have hz3 := below_size b3; (try simp at hz3); (try have z03 : w.heap.size < w3.heap.size := (by omega)); (try have z13 : w.heap.size + 1 < w3.heap.size := (by omega)); (try have z23 : w.heap.size + 1 + 1 < w3.heap.size := (by omega)); (try have z33 : w.heap.size + 1 + 1 + 1 < w3.heap.size := (by omega)); (try have yw13 : w1.heap.size < w3.heap.size := (by omega)); (try have yw23 : w2.heap.size < w3.heap.size := (by omega))))
  all_goals
    go_wp2
    exact bodyPost_ret (v := .iface 149 (.agg #[.int .u64 0, .int .u64 F, .int .u64 hi, .int .u64 lo])) (by simp [results, Tryz.results107, go_sem]) rfl (HPO.out _ _ rfl bel)

set_option maxHeartbeats 8000000 in
theorem mean_C2 {F R : Nat} {hi lo : Int} (f : Int) (one : Bool) (w : World) (hR : Wd R hi lo) (hT : F ≠ lastN f) (hA2 : ¬ ((f == 4) = true ∧ one = false ∧ F ≠ 0)) (hB2 : ¬ ((f == 4) = true ∧ one = true ∧ F = 0)) (hb : (f == 4) = true) (ho : one = false) :
    Calls Tryz.prog 107 #[kV f, wV 0 F, wV hi lo, .bool one] w (MeanP (f == 4) one F (lastN f) R (fmD f - 2).toNat hi lo w) := by
  have HEX := Lib.hid fun w' => explicit_any f w'
  have HLA := Lib.hid fun w' => last_any f w'
  obtain ⟨d1, d2⟩ := D_bd2 f
  obtain ⟨p, hp⟩ : ∃ p : Nat, fmD f - 2 = p := ⟨(fmD f - 2).toNat, by omega⟩
  have hp2 : (fmD f - 2).toNat = p := by omega
  have hwp : IntKind.i64.wrap (p : Int) = p := by rw [IntKind.wrap_i64]; omega
  have HLO : Hid (∀ w', Calls Tryz.prog 106 #[wV hi lo, .int .i64 p] w' (GivesW (R % 2 ^ p) w')) := Lib.hid fun w' => wlow_any p w' hR (by omega)
  rw [hp2]
  obtain ⟨b4, hb4⟩ : ∃ b, (f == 4) = b := ⟨_, rfl⟩
  rw [hb4] at HEX ⊢
  have HR := Lib.hid hR
  unfold kV at *
  clear hp2 hR
  show Calls Tryz.prog 107 #[.agg #[.int .i64 (fmD f), .int .i64 (fmE f), .int .i64 (fmL f), .int .i64 (fmH f), .int .i64 (fmW f), .int .i64 f], wV 0 F, wV hi lo, .bool one] w _
  generalize lastN f = T at *
  generalize fmD f = D at *
  generalize fmE f = E at *
  generalize fmL f = L at *
  generalize fmH f = H at *
  generalize fmW f = W at *
  rw [hb4] at hA2 hB2
  have HT := Lib.hid hT
  have HA2 := Lib.hid hA2
  have HB2 := Lib.hid hB2
  have hpost : ∀ w' e, e = .returned (.iface 149 (.agg #[.int .u64 0, .int .u64 F, .int .u64 hi, .int .u64 lo])) → Below w.heap.size w w' → MeanP b4 one F T R p hi lo w e w' := fun w' e h1 h2 => ⟨h2, by rw [if_neg HA2.out, if_neg HB2.out, if_pos HT.out]; exact h1⟩
  have HPO := Lib.hid hpost
  have t9 : ((F : Int) == (T : Int)) = false := by simp; omega
  obtain rfl : b4 = true := hb4.symm.trans hb
  clear hb hb4
  subst ho
  obtain rfl : F = 0 := Classical.not_not.mp fun h => hA2 ⟨rfl, rfl, h⟩
  have t8 : ((0 : Int) == (T : Int)) = false := by simpa using t9
  clear hT hA2 hB2 hpost HT HA2 HB2
  go_enter Tryz.func107, Tryz.ntmps107
  go_wp2_with (first | (go_at_call 103; (with_reducible refine (HEX.out _).mono ?_); rintro e w1 ⟨rfl, b1⟩; obtain ⟨hc1, hf1⟩ := bcell b1; (try simp only [dr_size, dr_cell] at hc1); (try simp only [dr_size, dr_frozen] at hf1); have hz1 := below_size b1; (try simp at hz1); (try have z01 : w.heap.size < w1.heap.size := (by omega)); (try have z11 : w.heap.size + 1 < w1.heap.size := (by omega)); (try have z21 : w.heap.size + 1 + 1 < w1.heap.size := (by omega)); (try have z31 : w.heap.size + 1 + 1 + 1 < w1.heap.size := (by omega))) | (go_at_call 103; (with_reducible refine (HEX.out _).mono ?_); rintro e w2 ⟨rfl, b2⟩; obtain ⟨hc2, hf2⟩ := bcell b2; (try simp only [dr_size, dr_cell] at hc2); (try simp only [dr_size, dr_frozen] at hf2); have hz2 := below_size b2; (try simp at hz2); (try have z02 : w.heap.size < w2.heap.size := (by omega)); (try have z12 : w.heap.size + 1 < w2.heap.size := (by omega)); (try have z22 : w.heap.size + 1 + 1 < w2.heap.size := (by omega)); (try have z32 : w.heap.size + 1 + 1 + 1 < w2.heap.size := (by omega)); (try have yw12 : w1.heap.size < w2.heap.size := (by omega))))
  go_region_with (first | (go_at_call 123; (with_reducible refine (HLA.out _).mono ?_); rintro e w3 ⟨rfl, b3⟩; obtain ⟨hc3, hf3⟩ := bcell b3; (try simp only [dr_size, dr_cell] at hc3); (try simp only [dr_size, dr_frozen] at hf3); have hz3 := below_size b3; (try simp at hz3); (try have z03 : w.heap.size < w3.heap.size := (by omega)); (try have z13 : w.heap.size + 1 < w3.heap.size := (by omega)); (try have z23 : w.heap.size + 1 + 1 < w3.heap.size := (by omega)); (try have z33 : w.heap.size + 1 + 1 + 1 < w3.heap.size := (by omega)); (try have yw13 : w1.heap.size < w3.heap.size := (by omega)); (try have yw23 : w2.heap.size < w3.heap.size := (by omega))))
  all_goals
    go_wp2
    exact bodyPost_ret (v := .iface 149 (.agg #[.int .u64 0, .int .u64 ((0 : Nat) : Int), .int .u64 hi, .int .u64 lo])) (by simp [results, Tryz.results107, go_sem]) rfl (HPO.out _ _ rfl bel)

set_option maxHeartbeats 8000000 in
theorem mean_C3 {F R : Nat} {hi lo : Int} (f : Int) (one : Bool) (w : World) (hR : Wd R hi lo) (hT : F ≠ lastN f) (hA2 : ¬ ((f == 4) = true ∧ one = false ∧ F ≠ 0)) (hB2 : ¬ ((f == 4) = true ∧ one = true ∧ F = 0)) (hb : (f == 4) = true) (ho : one = true) :
    Calls Tryz.prog 107 #[kV f, wV 0 F, wV hi lo, .bool one] w (MeanP (f == 4) one F (lastN f) R (fmD f - 2).toNat hi lo w) := by
  have HEX := Lib.hid fun w' => explicit_any f w'
  have HLA := Lib.hid fun w' => last_any f w'
  obtain ⟨d1, d2⟩ := D_bd2 f
  obtain ⟨p, hp⟩ : ∃ p : Nat, fmD f - 2 = p := ⟨(fmD f - 2).toNat, by omega⟩
  have hp2 : (fmD f - 2).toNat = p := by omega
  have hwp : IntKind.i64.wrap (p : Int) = p := by rw [IntKind.wrap_i64]; omega
  have HLO : Hid (∀ w', Calls Tryz.prog 106 #[wV hi lo, .int .i64 p] w' (GivesW (R % 2 ^ p) w')) := Lib.hid fun w' => wlow_any p w' hR (by omega)
  rw [hp2]
  obtain ⟨b4, hb4⟩ : ∃ b, (f == 4) = b := ⟨_, rfl⟩
  rw [hb4] at HEX ⊢
  have HR := Lib.hid hR
  unfold kV at *
  clear hp2 hR
  show Calls Tryz.prog 107 #[.agg #[.int .i64 (fmD f), .int .i64 (fmE f), .int .i64 (fmL f), .int .i64 (fmH f), .int .i64 (fmW f), .int .i64 f], wV 0 F, wV hi lo, .bool one] w _
  generalize lastN f = T at *
  generalize fmD f = D at *
  generalize fmE f = E at *
  generalize fmL f = L at *
  generalize fmH f = H at *
  generalize fmW f = W at *
  rw [hb4] at hA2 hB2
  have HT := Lib.hid hT
  have HA2 := Lib.hid hA2
  have HB2 := Lib.hid hB2
  have hpost : ∀ w' e, e = .returned (.iface 149 (.agg #[.int .u64 0, .int .u64 F, .int .u64 hi, .int .u64 lo])) → Below w.heap.size w w' → MeanP b4 one F T R p hi lo w e w' := fun w' e h1 h2 => ⟨h2, by rw [if_neg HA2.out, if_neg HB2.out, if_pos HT.out]; exact h1⟩
  have HPO := Lib.hid hpost
  have t9 : ((F : Int) == (T : Int)) = false := by simp; omega
  obtain rfl : b4 = true := hb4.symm.trans hb
  clear hb hb4
  subst ho
  have t0 : ((F : Int) == 0) = false := by simp; intro h; exact hB2 ⟨rfl, rfl, by omega⟩
  clear hT hA2 hB2 hpost HT HA2 HB2
  go_enter Tryz.func107, Tryz.ntmps107
  go_wp2_with (first | (go_at_call 103; (with_reducible refine (HEX.out _).mono ?_); rintro e w1 ⟨rfl, b1⟩; obtain ⟨hc1, hf1⟩ := bcell b1; (try simp only [dr_size, dr_cell] at hc1); (try simp only [dr_size, dr_frozen] at hf1); have hz1 := below_size b1; (try simp at hz1); (try have z01 : w.heap.size < w1.heap.size := (by omega)); (try have z11 : w.heap.size + 1 < w1.heap.size := (by omega)); (try have z21 : w.heap.size + 1 + 1 < w1.heap.size := (by omega)); (try have z31 : w.heap.size + 1 + 1 + 1 < w1.heap.size := (by omega))) | (go_at_call 103; (with_reducible refine (HEX.out _).mono ?_); rintro e w2 ⟨rfl, b2⟩; obtain ⟨hc2, hf2⟩ := bcell b2; (try simp only [dr_size, dr_cell] at hc2); (try simp only [dr_size, dr_frozen] at hf2); have hz2 := below_size b2; (try simp at hz2); (try have z02 : w.heap.size < w2.heap.size := (by omega)); (try have z12 : w.heap.size + 1 < w2.heap.size := (by omega)); (try have z22 : w.heap.size + 1 + 1 < w2.heap.size := (by omega)); (try have z32 : w.heap.size + 1 + 1 + 1 < w2.heap.size := (by omega)); (try have yw12 : w1.heap.size < w2.heap.size := (by omega))))
  go_region_with (first | (go_at_call 123; (with_reducible refine (HLA.out _).mono ?_); rintro e w3 ⟨rfl, b3⟩; obtain ⟨hc3, hf3⟩ := bcell b3; (try simp only [dr_size, dr_cell] at hc3); (try simp only [dr_size, dr_frozen] at hf3); have hz3 := below_size b3; (try simp at hz3); (try have z03 : w.heap.size < w3.heap.size := (by omega)); (try have z13 : w.heap.size + 1 < w3.heap.size := (by omega)); (try have z23 : w.heap.size + 1 + 1 < w3.heap.size := (by omega)); (try have z33 : w.heap.size + 1 + 1 + 1 < w3.heap.size := (by omega)); (try have yw13 : w1.heap.size < w3.heap.size := (by omega)); (try have yw23 : w2.heap.size < w3.heap.size := (by omega))))
  all_goals
    go_wp2
    exact bodyPost_ret (v := .iface 149 (.agg #[.int .u64 0, .int .u64 F, .int .u64 hi, .int .u64 lo])) (by simp [results, Tryz.results107, go_sem]) rfl (HPO.out _ _ rfl bel)

set_option maxHeartbeats 8000000 in
theorem mean_D1 {F R : Nat} {hi lo : Int} (f : Int) (one : Bool) (w : World) (hR : Wd R hi lo) (hT : F = lastN f) (hF0 : F ≠ 0) (hb : (f == 4) = false) (hR0 : R = 0) :
    Calls Tryz.prog 107 #[kV f, wV 0 F, wV hi lo, .bool one] w (MeanP (f == 4) one F (lastN f) R (fmD f - 2).toNat hi lo w) := by
  have HEX := Lib.hid fun w' => explicit_any f w'
  have HLA := Lib.hid fun w' => last_any f w'
  obtain ⟨d1, d2⟩ := D_bd2 f
  obtain ⟨p, hp⟩ : ∃ p : Nat, fmD f - 2 = p := ⟨(fmD f - 2).toNat, by omega⟩
  have hp2 : (fmD f - 2).toNat = p := by omega
  have hwp : IntKind.i64.wrap (p : Int) = p := by rw [IntKind.wrap_i64]; omega
  have HLO : Hid (∀ w', Calls Tryz.prog 106 #[wV hi lo, .int .i64 p] w' (GivesW (R % 2 ^ p) w')) := Lib.hid fun w' => wlow_any p w' hR (by omega)
  rw [hp2]
  obtain ⟨b4, hb4⟩ : ∃ b, (f == 4) = b := ⟨_, rfl⟩
  rw [hb4] at HEX ⊢
  have HR := Lib.hid hR
  unfold kV at *
  clear hp2 hR
  show Calls Tryz.prog 107 #[.agg #[.int .i64 (fmD f), .int .i64 (fmE f), .int .i64 (fmL f), .int .i64 (fmH f), .int .i64 (fmW f), .int .i64 f], wV 0 F, wV hi lo, .bool one] w _
  generalize lastN f = T at *
  generalize fmD f = D at *
  generalize fmE f = E at *
  generalize fmL f = L at *
  generalize fmH f = H at *
  generalize fmW f = W at *
  obtain rfl : b4 = false := hb4.symm.trans hb
  clear hb hb4
  have hpost : ∀ w' e, e = .returned (.iface 144 (.agg #[])) → Below w.heap.size w w' → MeanP false one F T R p hi lo w e w' := fun w' e h1 h2 => ⟨h2, by rw [if_neg (by simp), if_neg (by simp [hF0]), if_neg (by simp [hT]), if_pos hR0]; exact h1⟩
  obtain ⟨rfl, rfl⟩ := HR.out.zero.mpr hR0
  have HPO := Lib.hid hpost
  clear hpost
  clear hF0
  subst hT
  go_enter Tryz.func107, Tryz.ntmps107
  go_wp2_with (first | (go_at_call 103; (with_reducible refine (HEX.out _).mono ?_); rintro e w1 ⟨rfl, b1⟩; obtain ⟨hc1, hf1⟩ := bcell b1; (try simp only [dr_size, dr_cell] at hc1); (try simp only [dr_size, dr_frozen] at hf1); have hz1 := below_size b1; (try simp at hz1); (try have z01 : w.heap.size < w1.heap.size := (by omega)); (try have z11 : w.heap.size + 1 < w1.heap.size := (by omega)); (try have z21 : w.heap.size + 1 + 1 < w1.heap.size := (by omega)); (try have z31 : w.heap.size + 1 + 1 + 1 < w1.heap.size := (by omega))) | (go_at_call 103; (with_reducible refine (HEX.out _).mono ?_); rintro e w2 ⟨rfl, b2⟩; obtain ⟨hc2, hf2⟩ := bcell b2; (try simp only [dr_size, dr_cell] at hc2); (try simp only [dr_size, dr_frozen] at hf2); have hz2 := below_size b2; (try simp at hz2); (try have z02 : w.heap.size < w2.heap.size := (by omega)); (try have z12 : w.heap.size + 1 < w2.heap.size := (by omega)); (try have z22 : w.heap.size + 1 + 1 < w2.heap.size := (by omega)); (try have z32 : w.heap.size + 1 + 1 + 1 < w2.heap.size := (by omega)); (try have yw12 : w1.heap.size < w2.heap.size := (by omega))))
  go_region_with (first | (go_at_call 123; (with_reducible refine (HLA.out _).mono ?_); rintro e w3 ⟨rfl, b3⟩; obtain ⟨hc3, hf3⟩ := bcell b3; (try simp only [dr_size, dr_cell] at hc3); (try simp only [dr_size, dr_frozen] at hf3); have hz3 := below_size b3; (try simp at hz3); (try have z03 : w.heap.size < w3.heap.size := (by omega)); (try have z13 : w.heap.size + 1 < w3.heap.size := (by omega)); (try have z23 : w.heap.size + 1 + 1 < w3.heap.size := (by omega)); (try have z33 : w.heap.size + 1 + 1 + 1 < w3.heap.size := (by omega)); (try have yw13 : w1.heap.size < w3.heap.size := (by omega)); (try have yw23 : w2.heap.size < w3.heap.size := (by omega))))
  all_goals
    go_wp2_with (first | (go_at_call 106; (with_reducible refine (HLO.out _).mono ?_); rintro e w4 ⟨h4, l4, rfl, hw4, b4⟩; obtain ⟨hc4, hf4⟩ := bcell b4; (try simp only [dr_size, dr_cell] at hc4); (try simp only [dr_size, dr_frozen] at hf4); have hz4 := below_size b4; (try simp at hz4); (try have z04 : w.heap.size < w4.heap.size := (by omega)); (try have z14 : w.heap.size + 1 < w4.heap.size := (by omega)); (try have z24 : w.heap.size + 1 + 1 < w4.heap.size := (by omega)); (try have z34 : w.heap.size + 1 + 1 + 1 < w4.heap.size := (by omega)); (try have yw14 : w1.heap.size < w4.heap.size := (by omega)); (try have yw24 : w2.heap.size < w4.heap.size := (by omega)); (try have yw34 : w3.heap.size < w4.heap.size := (by omega))))
    exact bodyPost_ret (v := .iface 144 (.agg #[])) (by simp [results, Tryz.results107, go_sem]) rfl (HPO.out _ _ rfl bel)

set_option maxHeartbeats 8000000 in
theorem mean_D2 {F R : Nat} {hi lo : Int} (f : Int) (one : Bool) (w : World) (hR : Wd R hi lo) (hT : F = lastN f) (hF0 : F ≠ 0) (hb : (f == 4) = true) (ho : one = true) (hR0 : R = 0) :
    Calls Tryz.prog 107 #[kV f, wV 0 F, wV hi lo, .bool one] w (MeanP (f == 4) one F (lastN f) R (fmD f - 2).toNat hi lo w) := by
  have HEX := Lib.hid fun w' => explicit_any f w'
  have HLA := Lib.hid fun w' => last_any f w'
  obtain ⟨d1, d2⟩ := D_bd2 f
  obtain ⟨p, hp⟩ : ∃ p : Nat, fmD f - 2 = p := ⟨(fmD f - 2).toNat, by omega⟩
  have hp2 : (fmD f - 2).toNat = p := by omega
  have hwp : IntKind.i64.wrap (p : Int) = p := by rw [IntKind.wrap_i64]; omega
  have HLO : Hid (∀ w', Calls Tryz.prog 106 #[wV hi lo, .int .i64 p] w' (GivesW (R % 2 ^ p) w')) := Lib.hid fun w' => wlow_any p w' hR (by omega)
  rw [hp2]
  obtain ⟨b4, hb4⟩ : ∃ b, (f == 4) = b := ⟨_, rfl⟩
  rw [hb4] at HEX ⊢
  have HR := Lib.hid hR
  unfold kV at *
  clear hp2 hR
  show Calls Tryz.prog 107 #[.agg #[.int .i64 (fmD f), .int .i64 (fmE f), .int .i64 (fmL f), .int .i64 (fmH f), .int .i64 (fmW f), .int .i64 f], wV 0 F, wV hi lo, .bool one] w _
  generalize lastN f = T at *
  generalize fmD f = D at *
  generalize fmE f = E at *
  generalize fmL f = L at *
  generalize fmH f = H at *
  generalize fmW f = W at *
  obtain rfl : b4 = true := hb4.symm.trans hb
  clear hb hb4
  subst ho
  have t0 : ((F : Int) == 0) = false := by simp; omega
  have hpost : ∀ w' e, e = .returned (.iface 144 (.agg #[])) → Below w.heap.size w w' → MeanP true true F T R p hi lo w e w' := fun w' e h1 h2 => ⟨h2, by rw [if_neg (by simp), if_neg (by simp [hF0]), if_neg (by simp [hT]), if_pos hR0]; exact h1⟩
  obtain ⟨rfl, rfl⟩ := HR.out.zero.mpr hR0
  have HPO := Lib.hid hpost
  clear hpost
  clear hF0
  subst hT
  go_enter Tryz.func107, Tryz.ntmps107
  go_wp2_with (first | (go_at_call 103; (with_reducible refine (HEX.out _).mono ?_); rintro e w1 ⟨rfl, b1⟩; obtain ⟨hc1, hf1⟩ := bcell b1; (try simp only [dr_size, dr_cell] at hc1); (try simp only [dr_size, dr_frozen] at hf1); have hz1 := below_size b1; (try simp at hz1); (try have z01 : w.heap.size < w1.heap.size := (by omega)); (try have z11 : w.heap.size + 1 < w1.heap.size := (by omega)); (try have z21 : w.heap.size + 1 + 1 < w1.heap.size := (by omega)); (try have z31 : w.heap.size + 1 + 1 + 1 < w1.heap.size := (by omega))) | (go_at_call 103; (with_reducible refine (HEX.out _).mono ?_); rintro e w2 ⟨rfl, b2⟩; obtain ⟨hc2, hf2⟩ := bcell b2; (try simp only [dr_size, dr_cell] at hc2); (try simp only [dr_size, dr_frozen] at hf2); have hz2 := below_size b2; (try simp at hz2); (try have z02 : w.heap.size < w2.heap.size := (by omega)); (try have z12 : w.heap.size + 1 < w2.heap.size := (by omega)); (try have z22 : w.heap.size + 1 + 1 < w2.heap.size := (by omega)); (try have z32 : w.heap.size + 1 + 1 + 1 < w2.heap.size := (by omega)); (try have yw12 : w1.heap.size < w2.heap.size := (by omega))))
  go_region_with (first | (go_at_call 123; (with_reducible refine (HLA.out _).mono ?_); rintro e w3 ⟨rfl, b3⟩; obtain ⟨hc3, hf3⟩ := bcell b3; (try simp only [dr_size, dr_cell] at hc3); (try simp only [dr_size, dr_frozen] at hf3); have hz3 := below_size b3; (try simp at hz3); (try have z03 : w.heap.size < w3.heap.size := (by omega)); (try have z13 : w.heap.size + 1 < w3.heap.size := (by omega)); (try have z23 : w.heap.size + 1 + 1 < w3.heap.size := (by omega)); (try have z33 : w.heap.size + 1 + 1 + 1 < w3.heap.size := (by omega)); (try have yw13 : w1.heap.size < w3.heap.size := (by omega)); (try have yw23 : w2.heap.size < w3.heap.size := (by omega))))
  all_goals
    go_wp2_with (first | (go_at_call 106; (with_reducible refine (HLO.out _).mono ?_); rintro e w4 ⟨h4, l4, rfl, hw4, b4⟩; obtain ⟨hc4, hf4⟩ := bcell b4; (try simp only [dr_size, dr_cell] at hc4); (try simp only [dr_size, dr_frozen] at hf4); have hz4 := below_size b4; (try simp at hz4); (try have z04 : w.heap.size < w4.heap.size := (by omega)); (try have z14 : w.heap.size + 1 < w4.heap.size := (by omega)); (try have z24 : w.heap.size + 1 + 1 < w4.heap.size := (by omega)); (try have z34 : w.heap.size + 1 + 1 + 1 < w4.heap.size := (by omega)); (try have yw14 : w1.heap.size < w4.heap.size := (by omega)); (try have yw24 : w2.heap.size < w4.heap.size := (by omega)); (try have yw34 : w3.heap.size < w4.heap.size := (by omega))))
    exact bodyPost_ret (v := .iface 144 (.agg #[])) (by simp [results, Tryz.results107, go_sem]) rfl (HPO.out _ _ rfl bel)
end Go.Proofs.YtacnkcojhlbkoaaGreatDoor

set_option linter.unusedSimpArgs false
set_option linter.unusedVariables false
set_option linter.unnecessarySimpa false
namespace Go.Proofs.YtacnkcojhlbkoaaGreatDoor
open Go.RowKit Go.Proofs.YtacnkcojhlbkoaaGreatDoorW.PrintWords Go.Proofs.YtacnkcojhlbkoaaGreatDoorW.PrintLast Go.Proofs.YtacnkcojhlbkoaaGreatDoorW.PrintMore Go.Proofs.YtacnkcojhlbkoaaGreatDoor.NL
set_option maxRecDepth 100000
set_option exponentiation.threshold 130

set_option maxHeartbeats 8000000 in
theorem mean_E1 {F R : Nat} {hi lo : Int} (f : Int) (one : Bool) (w : World) (hR : Wd R hi lo) (hT : F = lastN f) (hF0 : F ≠ 0) (hR0 : R ≠ 0) (hb : (f == 4) = false) (hh : (hi == 0) = false) :
    Calls Tryz.prog 107 #[kV f, wV 0 F, wV hi lo, .bool one] w (MeanP (f == 4) one F (lastN f) R (fmD f - 2).toNat hi lo w) := by
  have HEX := Lib.hid fun w' => explicit_any f w'
  have HLA := Lib.hid fun w' => last_any f w'
  obtain ⟨d1, d2⟩ := D_bd2 f
  obtain ⟨p, hp⟩ : ∃ p : Nat, fmD f - 2 = p := ⟨(fmD f - 2).toNat, by omega⟩
  have hp2 : (fmD f - 2).toNat = p := by omega
  have hwp : IntKind.i64.wrap (p : Int) = p := by rw [IntKind.wrap_i64]; omega
  have HLO : Hid (∀ w', Calls Tryz.prog 106 #[wV hi lo, .int .i64 p] w' (GivesW (R % 2 ^ p) w')) := Lib.hid fun w' => wlow_any p w' hR (by omega)
  rw [hp2]
  obtain ⟨b4, hb4⟩ : ∃ b, (f == 4) = b := ⟨_, rfl⟩
  rw [hb4] at HEX ⊢
  have HR := Lib.hid hR
  unfold kV at *
  clear hp2 hR
  show Calls Tryz.prog 107 #[.agg #[.int .i64 (fmD f), .int .i64 (fmE f), .int .i64 (fmL f), .int .i64 (fmH f), .int .i64 (fmW f), .int .i64 f], wV 0 F, wV hi lo, .bool one] w _
  generalize lastN f = T at *
  generalize fmD f = D at *
  generalize fmE f = E at *
  generalize fmL f = L at *
  generalize fmH f = H at *
  generalize fmW f = W at *
  obtain rfl : b4 = false := hb4.symm.trans hb
  clear hb hb4
  have hpost : ∀ h4 l4 w' e, Hid (Wd (R % 2 ^ p) h4 l4) → e = .returned (.iface 146 (.agg #[.int .u64 h4, .int .u64 l4, .bool (!(h4 == hi && l4 == lo))])) → Below w.heap.size w w' → MeanP false one F T R p hi lo w e w' := fun h4 l4 w' e hw h1 h2 => ⟨h2, by
    rw [if_neg (by simp), if_neg (by simp [hF0]), if_neg (by simp [hT]), if_neg hR0]
    refine ⟨h4, l4, ?_, hw⟩
    rw [h1]
    have e1 := hw.out.same HR.out
    have e2 : (!(h4 == hi && l4 == lo)) = decide (R % 2 ^ p ≠ R) := by
      rw [Bool.eq_iff_iff]
      simp only [Bool.not_eq_true', Bool.and_eq_false_imp, beq_iff_eq, beq_eq_false_iff_ne, ne_eq, decide_eq_true_eq]
      rw [← e1]
      simp
    rw [e2]⟩
  have t7 : (hi == 0 && lo == 0) = false := by
    have := mt HR.out.zero.mp hR0
    rw [Bool.eq_false_iff]
    simpa using this
  have HPO := Lib.hid hpost
  clear hpost
  clear hF0 hR0
  subst hT
  go_enter Tryz.func107, Tryz.ntmps107
  go_wp2_with (first | (go_at_call 103; (with_reducible refine (HEX.out _).mono ?_); rintro e w1 ⟨rfl, b1⟩; obtain ⟨hc1, hf1⟩ := bcell b1; (try simp only [dr_size, dr_cell] at hc1); (try simp only [dr_size, dr_frozen] at hf1); have hz1 := below_size b1; (try simp at hz1); (try have z01 : w.heap.size < w1.heap.size := (by omega)); (try have z11 : w.heap.size + 1 < w1.heap.size := (by omega)); (try have z21 : w.heap.size + 1 + 1 < w1.heap.size := (by omega)); (try have z31 : w.heap.size + 1 + 1 + 1 < w1.heap.size := (by omega))) | (go_at_call 103; (with_reducible refine (HEX.out _).mono ?_); rintro e w2 ⟨rfl, b2⟩; obtain ⟨hc2, hf2⟩ := bcell b2; (try simp only [dr_size, dr_cell] at hc2); (try simp only [dr_size, dr_frozen] at hf2); have hz2 := below_size b2; (try simp at hz2); (try have z02 : w.heap.size < w2.heap.size := (by omega)); (try have z12 : w.heap.size + 1 < w2.heap.size := (by omega)); (try have z22 : w.heap.size + 1 + 1 < w2.heap.size := (by omega)); (try have z32 : w.heap.size + 1 + 1 + 1 < w2.heap.size := (by omega)); (try have yw12 : w1.heap.size < w2.heap.size := (by omega))))
  go_region_with (first | (go_at_call 123; (with_reducible refine (HLA.out _).mono ?_); rintro e w3 ⟨rfl, b3⟩; obtain ⟨hc3, hf3⟩ := bcell b3; (try simp only [dr_size, dr_cell] at hc3); (try simp only [dr_size, dr_frozen] at hf3); have hz3 := below_size b3; (try simp at hz3); (try have z03 : w.heap.size < w3.heap.size := (by omega)); (try have z13 : w.heap.size + 1 < w3.heap.size := (by omega)); (try have z23 : w.heap.size + 1 + 1 < w3.heap.size := (by omega)); (try have z33 : w.heap.size + 1 + 1 + 1 < w3.heap.size := (by omega)); (try have yw13 : w1.heap.size < w3.heap.size := (by omega)); (try have yw23 : w2.heap.size < w3.heap.size := (by omega))))
  all_goals
    go_wp2_with (first | (go_at_call 106; (with_reducible refine (HLO.out _).mono ?_); rintro e w4 ⟨h4, l4, rfl, hw4, b4⟩; obtain ⟨hc4, hf4⟩ := bcell b4; (try simp only [dr_size, dr_cell] at hc4); (try simp only [dr_size, dr_frozen] at hf4); have hz4 := below_size b4; (try simp at hz4); (try have z04 : w.heap.size < w4.heap.size := (by omega)); (try have z14 : w.heap.size + 1 < w4.heap.size := (by omega)); (try have z24 : w.heap.size + 1 + 1 < w4.heap.size := (by omega)); (try have z34 : w.heap.size + 1 + 1 + 1 < w4.heap.size := (by omega)); (try have yw14 : w1.heap.size < w4.heap.size := (by omega)); (try have yw24 : w2.heap.size < w4.heap.size := (by omega)); (try have yw34 : w3.heap.size < w4.heap.size := (by omega))))
    by_cases e1 : h4 = hi
    · subst e1
      by_cases e2 : l4 = lo
      · subst e2
        go_region
        all_goals
          go_wp2
          exact bodyPost_ret (v := .iface 146 (.agg #[.int .u64 h4, .int .u64 l4, .bool false])) (by simp [results, Tryz.results107, go_sem]) rfl (HPO.out _ _ _ _ hw4 (by simp [*]) bel)
      · have t5 : (l4 == lo) = false := by simpa using e2
        go_region
        all_goals
          go_wp2
          exact bodyPost_ret (v := .iface 146 (.agg #[.int .u64 h4, .int .u64 l4, .bool true])) (by simp [results, Tryz.results107, go_sem]) rfl (HPO.out _ _ _ _ hw4 (by simp [*]) bel)
    · have t5 : (h4 == hi) = false := by simpa using e1
      go_region
      all_goals
        go_wp2
        exact bodyPost_ret (v := .iface 146 (.agg #[.int .u64 h4, .int .u64 l4, .bool true])) (by simp [results, Tryz.results107, go_sem]) rfl (HPO.out _ _ _ _ hw4 (by simp [*]) bel)

set_option maxHeartbeats 8000000 in
theorem mean_E2 {F R : Nat} {hi lo : Int} (f : Int) (one : Bool) (w : World) (hR : Wd R hi lo) (hT : F = lastN f) (hF0 : F ≠ 0) (hR0 : R ≠ 0) (hb : (f == 4) = false) (hh : (hi == 0) = true) (hl : (lo == 0) = false) :
    Calls Tryz.prog 107 #[kV f, wV 0 F, wV hi lo, .bool one] w (MeanP (f == 4) one F (lastN f) R (fmD f - 2).toNat hi lo w) := by
  have HEX := Lib.hid fun w' => explicit_any f w'
  have HLA := Lib.hid fun w' => last_any f w'
  obtain ⟨d1, d2⟩ := D_bd2 f
  obtain ⟨p, hp⟩ : ∃ p : Nat, fmD f - 2 = p := ⟨(fmD f - 2).toNat, by omega⟩
  have hp2 : (fmD f - 2).toNat = p := by omega
  have hwp : IntKind.i64.wrap (p : Int) = p := by rw [IntKind.wrap_i64]; omega
  have HLO : Hid (∀ w', Calls Tryz.prog 106 #[wV hi lo, .int .i64 p] w' (GivesW (R % 2 ^ p) w')) := Lib.hid fun w' => wlow_any p w' hR (by omega)
  rw [hp2]
  obtain ⟨b4, hb4⟩ : ∃ b, (f == 4) = b := ⟨_, rfl⟩
  rw [hb4] at HEX ⊢
  have HR := Lib.hid hR
  unfold kV at *
  clear hp2 hR
  show Calls Tryz.prog 107 #[.agg #[.int .i64 (fmD f), .int .i64 (fmE f), .int .i64 (fmL f), .int .i64 (fmH f), .int .i64 (fmW f), .int .i64 f], wV 0 F, wV hi lo, .bool one] w _
  generalize lastN f = T at *
  generalize fmD f = D at *
  generalize fmE f = E at *
  generalize fmL f = L at *
  generalize fmH f = H at *
  generalize fmW f = W at *
  obtain rfl : b4 = false := hb4.symm.trans hb
  clear hb hb4
  have hpost : ∀ h4 l4 w' e, Hid (Wd (R % 2 ^ p) h4 l4) → e = .returned (.iface 146 (.agg #[.int .u64 h4, .int .u64 l4, .bool (!(h4 == hi && l4 == lo))])) → Below w.heap.size w w' → MeanP false one F T R p hi lo w e w' := fun h4 l4 w' e hw h1 h2 => ⟨h2, by
    rw [if_neg (by simp), if_neg (by simp [hF0]), if_neg (by simp [hT]), if_neg hR0]
    refine ⟨h4, l4, ?_, hw⟩
    rw [h1]
    have e1 := hw.out.same HR.out
    have e2 : (!(h4 == hi && l4 == lo)) = decide (R % 2 ^ p ≠ R) := by
      rw [Bool.eq_iff_iff]
      simp only [Bool.not_eq_true', Bool.and_eq_false_imp, beq_iff_eq, beq_eq_false_iff_ne, ne_eq, decide_eq_true_eq]
      rw [← e1]
      simp
    rw [e2]⟩
  have t7 : (hi == 0 && lo == 0) = false := by
    have := mt HR.out.zero.mp hR0
    rw [Bool.eq_false_iff]
    simpa using this
  have HPO := Lib.hid hpost
  clear hpost
  obtain rfl : hi = 0 := by simpa using hh
  clear hh
  clear hF0 hR0
  subst hT
  go_enter Tryz.func107, Tryz.ntmps107
  go_wp2_with (first | (go_at_call 103; (with_reducible refine (HEX.out _).mono ?_); rintro e w1 ⟨rfl, b1⟩; obtain ⟨hc1, hf1⟩ := bcell b1; (try simp only [dr_size, dr_cell] at hc1); (try simp only [dr_size, dr_frozen] at hf1); have hz1 := below_size b1; (try simp at hz1); (try have z01 : w.heap.size < w1.heap.size := (by omega)); (try have z11 : w.heap.size + 1 < w1.heap.size := (by omega)); (try have z21 : w.heap.size + 1 + 1 < w1.heap.size := (by omega)); (try have z31 : w.heap.size + 1 + 1 + 1 < w1.heap.size := (by omega))) | (go_at_call 103; (with_reducible refine (HEX.out _).mono ?_); rintro e w2 ⟨rfl, b2⟩; obtain ⟨hc2, hf2⟩ := bcell b2; (try simp only [dr_size, dr_cell] at hc2); (try simp only [dr_size, dr_frozen] at hf2); have hz2 := below_size b2; (try simp at hz2); (try have z02 : w.heap.size < w2.heap.size := (by omega)); (try have z12 : w.heap.size + 1 < w2.heap.size := (by omega)); (try have z22 : w.heap.size + 1 + 1 < w2.heap.size := (by omega)); (try have z32 : w.heap.size + 1 + 1 + 1 < w2.heap.size := (by omega)); (try have yw12 : w1.heap.size < w2.heap.size := (by omega))))
  go_region_with (first | (go_at_call 123; (with_reducible refine (HLA.out _).mono ?_); rintro e w3 ⟨rfl, b3⟩; obtain ⟨hc3, hf3⟩ := bcell b3; (try simp only [dr_size, dr_cell] at hc3); (try simp only [dr_size, dr_frozen] at hf3); have hz3 := below_size b3; (try simp at hz3); (try have z03 : w.heap.size < w3.heap.size := (by omega)); (try have z13 : w.heap.size + 1 < w3.heap.size := (by omega)); (try have z23 : w.heap.size + 1 + 1 < w3.heap.size := (by omega)); (try have z33 : w.heap.size + 1 + 1 + 1 < w3.heap.size := (by omega)); (try have yw13 : w1.heap.size < w3.heap.size := (by omega)); (try have yw23 : w2.heap.size < w3.heap.size := (by omega))))
  all_goals
    go_wp2_with (first | (go_at_call 106; (with_reducible refine (HLO.out _).mono ?_); rintro e w4 ⟨h4, l4, rfl, hw4, b4⟩; obtain ⟨hc4, hf4⟩ := bcell b4; (try simp only [dr_size, dr_cell] at hc4); (try simp only [dr_size, dr_frozen] at hf4); have hz4 := below_size b4; (try simp at hz4); (try have z04 : w.heap.size < w4.heap.size := (by omega)); (try have z14 : w.heap.size + 1 < w4.heap.size := (by omega)); (try have z24 : w.heap.size + 1 + 1 < w4.heap.size := (by omega)); (try have z34 : w.heap.size + 1 + 1 + 1 < w4.heap.size := (by omega)); (try have yw14 : w1.heap.size < w4.heap.size := (by omega)); (try have yw24 : w2.heap.size < w4.heap.size := (by omega)); (try have yw34 : w3.heap.size < w4.heap.size := (by omega))))
    by_cases e1 : h4 = 0
    · subst e1
      by_cases e2 : l4 = lo
      · subst e2
        go_region
        all_goals
          go_wp2
          exact bodyPost_ret (v := .iface 146 (.agg #[.int .u64 0, .int .u64 l4, .bool false])) (by simp [results, Tryz.results107, go_sem]) rfl (HPO.out _ _ _ _ hw4 (by simp [*]) bel)
      · have t5 : (l4 == lo) = false := by simpa using e2
        go_region
        all_goals
          go_wp2
          exact bodyPost_ret (v := .iface 146 (.agg #[.int .u64 0, .int .u64 l4, .bool true])) (by simp [results, Tryz.results107, go_sem]) rfl (HPO.out _ _ _ _ hw4 (by simp [*]) bel)
    · have t5 : (h4 == 0) = false := by simpa using e1
      go_region
      all_goals
        go_wp2
        exact bodyPost_ret (v := .iface 146 (.agg #[.int .u64 h4, .int .u64 l4, .bool true])) (by simp [results, Tryz.results107, go_sem]) rfl (HPO.out _ _ _ _ hw4 (by simp [*]) bel)

set_option maxHeartbeats 8000000 in
theorem mean_E3 {F R : Nat} {hi lo : Int} (f : Int) (one : Bool) (w : World) (hR : Wd R hi lo) (hT : F = lastN f) (hF0 : F ≠ 0) (hR0 : R ≠ 0) (hb : (f == 4) = true) (ho : one = true) (hh : (hi == 0) = false) :
    Calls Tryz.prog 107 #[kV f, wV 0 F, wV hi lo, .bool one] w (MeanP (f == 4) one F (lastN f) R (fmD f - 2).toNat hi lo w) := by
  have HEX := Lib.hid fun w' => explicit_any f w'
  have HLA := Lib.hid fun w' => last_any f w'
  obtain ⟨d1, d2⟩ := D_bd2 f
  obtain ⟨p, hp⟩ : ∃ p : Nat, fmD f - 2 = p := ⟨(fmD f - 2).toNat, by omega⟩
  have hp2 : (fmD f - 2).toNat = p := by omega
  have hwp : IntKind.i64.wrap (p : Int) = p := by rw [IntKind.wrap_i64]; omega
  have HLO : Hid (∀ w', Calls Tryz.prog 106 #[wV hi lo, .int .i64 p] w' (GivesW (R % 2 ^ p) w')) := Lib.hid fun w' => wlow_any p w' hR (by omega)
  rw [hp2]
  obtain ⟨b4, hb4⟩ : ∃ b, (f == 4) = b := ⟨_, rfl⟩
  rw [hb4] at HEX ⊢
  have HR := Lib.hid hR
  unfold kV at *
  clear hp2 hR
  show Calls Tryz.prog 107 #[.agg #[.int .i64 (fmD f), .int .i64 (fmE f), .int .i64 (fmL f), .int .i64 (fmH f), .int .i64 (fmW f), .int .i64 f], wV 0 F, wV hi lo, .bool one] w _
  generalize lastN f = T at *
  generalize fmD f = D at *
  generalize fmE f = E at *
  generalize fmL f = L at *
  generalize fmH f = H at *
  generalize fmW f = W at *
  obtain rfl : b4 = true := hb4.symm.trans hb
  clear hb hb4
  subst ho
  have t0 : ((F : Int) == 0) = false := by simp; omega
  have hpost : ∀ h4 l4 w' e, Hid (Wd (R % 2 ^ p) h4 l4) → e = .returned (.iface 146 (.agg #[.int .u64 h4, .int .u64 l4, .bool (!(h4 == hi && l4 == lo))])) → Below w.heap.size w w' → MeanP true true F T R p hi lo w e w' := fun h4 l4 w' e hw h1 h2 => ⟨h2, by
    rw [if_neg (by simp), if_neg (by simp [hF0]), if_neg (by simp [hT]), if_neg hR0]
    refine ⟨h4, l4, ?_, hw⟩
    rw [h1]
    have e1 := hw.out.same HR.out
    have e2 : (!(h4 == hi && l4 == lo)) = decide (R % 2 ^ p ≠ R) := by
      rw [Bool.eq_iff_iff]
      simp only [Bool.not_eq_true', Bool.and_eq_false_imp, beq_iff_eq, beq_eq_false_iff_ne, ne_eq, decide_eq_true_eq]
      rw [← e1]
      simp
    rw [e2]⟩
  have t7 : (hi == 0 && lo == 0) = false := by
    have := mt HR.out.zero.mp hR0
    rw [Bool.eq_false_iff]
    simpa using this
  have HPO := Lib.hid hpost
  clear hpost
  clear hF0 hR0
  subst hT
  go_enter Tryz.func107, Tryz.ntmps107
  go_wp2_with (first | (go_at_call 103; (with_reducible refine (HEX.out _).mono ?_); rintro e w1 ⟨rfl, b1⟩; obtain ⟨hc1, hf1⟩ := bcell b1; (try simp only [dr_size, dr_cell] at hc1); (try simp only [dr_size, dr_frozen] at hf1); have hz1 := below_size b1; (try simp at hz1); (try have z01 : w.heap.size < w1.heap.size := (by omega)); (try have z11 : w.heap.size + 1 < w1.heap.size := (by omega)); (try have z21 : w.heap.size + 1 + 1 < w1.heap.size := (by omega)); (try have z31 : w.heap.size + 1 + 1 + 1 < w1.heap.size := (by omega))) | (go_at_call 103; (with_reducible refine (HEX.out _).mono ?_); rintro e w2 ⟨rfl, b2⟩; obtain ⟨hc2, hf2⟩ := bcell b2; (try simp only [dr_size, dr_cell] at hc2); (try simp only [dr_size, dr_frozen] at hf2); have hz2 := below_size b2; (try simp at hz2); (try have z02 : w.heap.size < w2.heap.size := (by omega)); (try have z12 : w.heap.size + 1 < w2.heap.size := (by omega)); (try have z22 : w.heap.size + 1 + 1 < w2.heap.size := (by omega)); (try have z32 : w.heap.size + 1 + 1 + 1 < w2.heap.size := (by omega)); (try have yw12 : w1.heap.size < w2.heap.size := (by omega))))
  go_region_with (first | (go_at_call 123; (with_reducible refine (HLA.out _).mono ?_); rintro e w3 ⟨rfl, b3⟩; obtain ⟨hc3, hf3⟩ := bcell b3; (try simp only [dr_size, dr_cell] at hc3); (try simp only [dr_size, dr_frozen] at hf3); have hz3 := below_size b3; (try simp at hz3); (try have z03 : w.heap.size < w3.heap.size := (by omega)); (try have z13 : w.heap.size + 1 < w3.heap.size := (by omega)); (try have z23 : w.heap.size + 1 + 1 < w3.heap.size := (by omega)); (try have z33 : w.heap.size + 1 + 1 + 1 < w3.heap.size := (by omega)); (try have yw13 : w1.heap.size < w3.heap.size := (by omega)); (try have yw23 : w2.heap.size < w3.heap.size := (by omega))))
  all_goals
    go_wp2_with (first | (go_at_call 106; (with_reducible refine (HLO.out _).mono ?_); rintro e w4 ⟨h4, l4, rfl, hw4, b4⟩; obtain ⟨hc4, hf4⟩ := bcell b4; (try simp only [dr_size, dr_cell] at hc4); (try simp only [dr_size, dr_frozen] at hf4); have hz4 := below_size b4; (try simp at hz4); (try have z04 : w.heap.size < w4.heap.size := (by omega)); (try have z14 : w.heap.size + 1 < w4.heap.size := (by omega)); (try have z24 : w.heap.size + 1 + 1 < w4.heap.size := (by omega)); (try have z34 : w.heap.size + 1 + 1 + 1 < w4.heap.size := (by omega)); (try have yw14 : w1.heap.size < w4.heap.size := (by omega)); (try have yw24 : w2.heap.size < w4.heap.size := (by omega)); (try have yw34 : w3.heap.size < w4.heap.size := (by omega))))
    by_cases e1 : h4 = hi
    · subst e1
      by_cases e2 : l4 = lo
      · subst e2
        go_region
        all_goals
          go_wp2
          exact bodyPost_ret (v := .iface 146 (.agg #[.int .u64 h4, .int .u64 l4, .bool false])) (by simp [results, Tryz.results107, go_sem]) rfl (HPO.out _ _ _ _ hw4 (by simp [*]) bel)
      · have t5 : (l4 == lo) = false := by simpa using e2
        go_region
        all_goals
          go_wp2
          exact bodyPost_ret (v := .iface 146 (.agg #[.int .u64 h4, .int .u64 l4, .bool true])) (by simp [results, Tryz.results107, go_sem]) rfl (HPO.out _ _ _ _ hw4 (by simp [*]) bel)
    · have t5 : (h4 == hi) = false := by simpa using e1
      go_region
      all_goals
        go_wp2
        exact bodyPost_ret (v := .iface 146 (.agg #[.int .u64 h4, .int .u64 l4, .bool true])) (by simp [results, Tryz.results107, go_sem]) rfl (HPO.out _ _ _ _ hw4 (by simp [*]) bel)

set_option maxHeartbeats 8000000 in
theorem mean_E4 {F R : Nat} {hi lo : Int} (f : Int) (one : Bool) (w : World) (hR : Wd R hi lo) (hT : F = lastN f) (hF0 : F ≠ 0) (hR0 : R ≠ 0) (hb : (f == 4) = true) (ho : one = true) (hh : (hi == 0) = true) (hl : (lo == 0) = false) :
    Calls Tryz.prog 107 #[kV f, wV 0 F, wV hi lo, .bool one] w (MeanP (f == 4) one F (lastN f) R (fmD f - 2).toNat hi lo w) := by
  have HEX := Lib.hid fun w' => explicit_any f w'
  have HLA := Lib.hid fun w' => last_any f w'
  obtain ⟨d1, d2⟩ := D_bd2 f
  obtain ⟨p, hp⟩ : ∃ p : Nat, fmD f - 2 = p := ⟨(fmD f - 2).toNat, by omega⟩
  have hp2 : (fmD f - 2).toNat = p := by omega
  have hwp : IntKind.i64.wrap (p : Int) = p := by rw [IntKind.wrap_i64]; omega
  have HLO : Hid (∀ w', Calls Tryz.prog 106 #[wV hi lo, .int .i64 p] w' (GivesW (R % 2 ^ p) w')) := Lib.hid fun w' => wlow_any p w' hR (by omega)
  rw [hp2]
  obtain ⟨b4, hb4⟩ : ∃ b, (f == 4) = b := ⟨_, rfl⟩
  rw [hb4] at HEX ⊢
  have HR := Lib.hid hR
  unfold kV at *
  clear hp2 hR
  show Calls Tryz.prog 107 #[.agg #[.int .i64 (fmD f), .int .i64 (fmE f), .int .i64 (fmL f), .int .i64 (fmH f), .int .i64 (fmW f), .int .i64 f], wV 0 F, wV hi lo, .bool one] w _
  generalize lastN f = T at *
  generalize fmD f = D at *
  generalize fmE f = E at *
  generalize fmL f = L at *
  generalize fmH f = H at *
  generalize fmW f = W at *
  obtain rfl : b4 = true := hb4.symm.trans hb
  clear hb hb4
  subst ho
  have t0 : ((F : Int) == 0) = false := by simp; omega
  have hpost : ∀ h4 l4 w' e, Hid (Wd (R % 2 ^ p) h4 l4) → e = .returned (.iface 146 (.agg #[.int .u64 h4, .int .u64 l4, .bool (!(h4 == hi && l4 == lo))])) → Below w.heap.size w w' → MeanP true true F T R p hi lo w e w' := fun h4 l4 w' e hw h1 h2 => ⟨h2, by
    rw [if_neg (by simp), if_neg (by simp [hF0]), if_neg (by simp [hT]), if_neg hR0]
    refine ⟨h4, l4, ?_, hw⟩
    rw [h1]
    have e1 := hw.out.same HR.out
    have e2 : (!(h4 == hi && l4 == lo)) = decide (R % 2 ^ p ≠ R) := by
      rw [Bool.eq_iff_iff]
      simp only [Bool.not_eq_true', Bool.and_eq_false_imp, beq_iff_eq, beq_eq_false_iff_ne, ne_eq, decide_eq_true_eq]
      rw [← e1]
      simp
    rw [e2]⟩
  have t7 : (hi == 0 && lo == 0) = false := by
    have := mt HR.out.zero.mp hR0
    rw [Bool.eq_false_iff]
    simpa using this
  have HPO := Lib.hid hpost
  clear hpost
  obtain rfl : hi = 0 := by simpa using hh
  clear hh
  clear hF0 hR0
  subst hT
  go_enter Tryz.func107, Tryz.ntmps107
  go_wp2_with (first | (go_at_call 103; (with_reducible refine (HEX.out _).mono ?_); rintro e w1 ⟨rfl, b1⟩; obtain ⟨hc1, hf1⟩ := bcell b1; (try simp only [dr_size, dr_cell] at hc1); (try simp only [dr_size, dr_frozen] at hf1); have hz1 := below_size b1; (try simp at hz1); (try have z01 : w.heap.size < w1.heap.size := (by omega)); (try have z11 : w.heap.size + 1 < w1.heap.size := (by omega)); (try have z21 : w.heap.size + 1 + 1 < w1.heap.size := (by omega)); (try have z31 : w.heap.size + 1 + 1 + 1 < w1.heap.size := (by omega))) | (go_at_call 103; (with_reducible refine (HEX.out _).mono ?_); rintro e w2 ⟨rfl, b2⟩; obtain ⟨hc2, hf2⟩ := bcell b2; (try simp only [dr_size, dr_cell] at hc2); (try simp only [dr_size, dr_frozen] at hf2); have hz2 := below_size b2; (try simp at hz2); (try have z02 : w.heap.size < w2.heap.size := (by omega)); (try have z12 : w.heap.size + 1 < w2.heap.size := (by omega)); (try have z22 : w.heap.size + 1 + 1 < w2.heap.size := (by omega)); (try have z32 : w.heap.size + 1 + 1 + 1 < w2.heap.size := (by omega)); (try have yw12 : w1.heap.size < w2.heap.size := (by omega))))
  go_region_with (first | (go_at_call 123; (with_reducible refine (HLA.out _).mono ?_); rintro e w3 ⟨rfl, b3⟩; obtain ⟨hc3, hf3⟩ := bcell b3; (try simp only [dr_size, dr_cell] at hc3); (try simp only [dr_size, dr_frozen] at hf3); have hz3 := below_size b3; (try simp at hz3); (try have z03 : w.heap.size < w3.heap.size := (by omega)); (try have z13 : w.heap.size + 1 < w3.heap.size := (by omega)); (try have z23 : w.heap.size + 1 + 1 < w3.heap.size := (by omega)); (try have z33 : w.heap.size + 1 + 1 + 1 < w3.heap.size := (by omega)); (try have yw13 : w1.heap.size < w3.heap.size := (by omega)); (try have yw23 : w2.heap.size < w3.heap.size := (by omega))))
  all_goals
    go_wp2_with (first | (go_at_call 106; (with_reducible refine (HLO.out _).mono ?_); rintro e w4 ⟨h4, l4, rfl, hw4, b4⟩; obtain ⟨hc4, hf4⟩ := bcell b4; (try simp only [dr_size, dr_cell] at hc4); (try simp only [dr_size, dr_frozen] at hf4); have hz4 := below_size b4; (try simp at hz4); (try have z04 : w.heap.size < w4.heap.size := (by omega)); (try have z14 : w.heap.size + 1 < w4.heap.size := (by omega)); (try have z24 : w.heap.size + 1 + 1 < w4.heap.size := (by omega)); (try have z34 : w.heap.size + 1 + 1 + 1 < w4.heap.size := (by omega)); (try have yw14 : w1.heap.size < w4.heap.size := (by omega)); (try have yw24 : w2.heap.size < w4.heap.size := (by omega)); (try have yw34 : w3.heap.size < w4.heap.size := (by omega))))
    by_cases e1 : h4 = 0
    · subst e1
      by_cases e2 : l4 = lo
      · subst e2
        go_region
        all_goals
          go_wp2
          exact bodyPost_ret (v := .iface 146 (.agg #[.int .u64 0, .int .u64 l4, .bool false])) (by simp [results, Tryz.results107, go_sem]) rfl (HPO.out _ _ _ _ hw4 (by simp [*]) bel)
      · have t5 : (l4 == lo) = false := by simpa using e2
        go_region
        all_goals
          go_wp2
          exact bodyPost_ret (v := .iface 146 (.agg #[.int .u64 0, .int .u64 l4, .bool true])) (by simp [results, Tryz.results107, go_sem]) rfl (HPO.out _ _ _ _ hw4 (by simp [*]) bel)
    · have t5 : (h4 == 0) = false := by simpa using e1
      go_region
      all_goals
        go_wp2
        exact bodyPost_ret (v := .iface 146 (.agg #[.int .u64 h4, .int .u64 l4, .bool true])) (by simp [results, Tryz.results107, go_sem]) rfl (HPO.out _ _ _ _ hw4 (by simp [*]) bel)

theorem meaning_any {F R : Nat} {hi lo : Int} (f : Int) (one : Bool) (w : World) (hR : Wd R hi lo) :
    Calls Tryz.prog 107 #[kV f, wV 0 F, wV hi lo, .bool one] w (MeanP (f == 4) one F (lastN f) R (fmD f - 2).toNat hi lo w) := by
  have hl0 : lastN f ≠ 0 := by
    obtain ⟨h1, h2⟩ := fmE_bd f
    unfold lastN
    omega
  by_cases hA : (f == 4) = true ∧ one = false ∧ F ≠ 0
  · exact mean_A f one w hR hA.1 hA.2.1 hA.2.2
  · by_cases hB : (f == 4) = true ∧ one = true ∧ F = 0
    · exact mean_B f one w hR hB.1 hB.2.1 hB.2.2
    · by_cases hT : F = lastN f
      · have hF : F ≠ 0 := by rw [hT]; exact hl0
        by_cases hR0 : R = 0
        · cases h4 : (f == 4) with
          | false => rw [← h4]; exact mean_D1 f one w hR hT hF h4 hR0
          | true =>
            rw [← h4]
            cases one with
            | false => exact absurd ⟨h4, rfl, hF⟩ hA
            | true => exact mean_D2 f true w hR hT hF h4 rfl hR0
        · have hz := mt hR.zero.mp hR0
          cases hh : (hi == 0) with
          | false =>
            cases h4 : (f == 4) with
            | false => rw [← h4]; exact mean_E1 f one w hR hT hF hR0 h4 hh
            | true =>
              rw [← h4]
              cases one with
              | false => exact absurd ⟨h4, rfl, hF⟩ hA
              | true => exact mean_E3 f true w hR hT hF hR0 h4 rfl hh
          | true =>
            have hl : (lo == 0) = false := by
              cases h : (lo == 0) with
              | false => rfl
              | true => exact absurd ⟨by simpa using hh, by simpa using h⟩ hz
            cases h4 : (f == 4) with
            | false => rw [← h4]; exact mean_E2 f one w hR hT hF hR0 h4 hh hl
            | true =>
              rw [← h4]
              cases one with
              | false => exact absurd ⟨h4, rfl, hF⟩ hA
              | true => exact mean_E4 f true w hR hT hF hR0 h4 rfl hh hl
      · cases h4 : (f == 4) with
        | false => rw [← h4]; exact mean_C1 f one w hR hT hA hB h4
        | true =>
          rw [← h4]
          cases one with
          | false => exact mean_C2 f false w hR hT hA hB h4 rfl
          | true => exact mean_C3 f true w hR hT hA hB h4 rfl
end Go.Proofs.YtacnkcojhlbkoaaGreatDoor
