/- binary: unpack. -/
import Derived.Test.YtacnkcojhlbkoaaGreatDoorJVal12
set_option linter.unusedSimpArgs false
set_option linter.unusedVariables false
set_option linter.unnecessarySimpa false
namespace Go.Proofs.YtacnkcojhlbkoaaGreatDoor
open Go.RowKit Go.Proofs.YtacnkcojhlbkoaaGreatDoorW.PrintWords Go.Proofs.YtacnkcojhlbkoaaGreatDoorW.PrintLast Go.Proofs.YtacnkcojhlbkoaaGreatDoorW.PrintMore Go.Proofs.YtacnkcojhlbkoaaGreatDoor.NL
set_option maxRecDepth 100000
set_option exponentiation.threshold 130

/-- What a content means. -/
def Cont (R on : Nat) (L : Int) (V : Value) (r : Int × Nat × Int) : Prop :=
  (V = .iface 144 (.agg #[]) ∧ r = (2, 0, 0)) ∨
  (∃ (h l : Int) (q : Bool) (X : Nat), V = .iface 146 (.agg #[.int .u64 h, .int .u64 l, .bool q]) ∧ Wd X h l ∧ r = (if q then 3 else 4, X, 0)) ∨
  (∃ (h l : Int) (G : Nat), V = .iface 149 (.agg #[.int .u64 0, .int .u64 G, .int .u64 h, .int .u64 l]) ∧ Wd R h l ∧ G < 65536 ∧ r = (1, if G = 0 then R else R + 2 ^ on, if G = 0 then L else L + G - 1))
theorem cont_of {b4 one : Bool} {F T R d on : Nat} {L hi lo : Int} {w w' : World} {e : Ending} (h : MeanP b4 one F T R d hi lo w e w') (hw : Wd R hi lo) (hF : F < 65536) :
    ∃ V, e = .returned V ∧ Hid (Cont R on L V (decT b4 one F T R d on L)) ∧ Below w.heap.size w w' := by
  obtain ⟨hb, h⟩ := h
  unfold decT
  split at h
  · rename_i c; rw [if_pos c]
    exact ⟨_, h, Lib.hid (.inr (.inl ⟨_, _, _, 1, rfl, wd_one, rfl⟩)), hb⟩
  · rename_i c; rw [if_neg c]
    split at h
    · rename_i c2; rw [if_pos c2]
      exact ⟨_, h, Lib.hid (.inr (.inr ⟨hi, lo, 1, by simp, hw, by omega, by simp⟩)), hb⟩
    · rename_i c2; rw [if_neg c2]
      split at h
      · rename_i c3; rw [if_pos c3]
        exact ⟨_, h, Lib.hid (.inr (.inr ⟨hi, lo, F, rfl, hw, hF, rfl⟩)), hb⟩
      · rename_i c3; rw [if_neg c3]
        split at h
        · rename_i c4; rw [if_pos c4]
          exact ⟨_, h, Lib.hid (.inl ⟨rfl, rfl⟩), hb⟩
        · rename_i c4; rw [if_neg c4]
          obtain ⟨x, y, h1, h2⟩ := h
          refine ⟨_, h1, Lib.hid (.inr (.inl ⟨x, y, _, _, rfl, h2.out, ?_⟩)), hb⟩
          by_cases hq : R % 2 ^ d = R <;> simp [hq]
theorem ta_11 (w : World) : (Instr.typeAssert (.iface 144 (.agg #[])) 136 144 true).run Tryz.prog w = .ok (.tuple #[.agg #[], .bool true]) w := by kernel_rfl
theorem ta_21 (a b : Value) (q : Bool) (w : World) : (Instr.typeAssert (.iface 146 (.agg #[a, b, .bool q])) 136 144 true).run Tryz.prog w = .ok (.tuple #[.agg #[], .bool false]) w := by kernel_rfl
theorem ta_22 (a b : Value) (q : Bool) (w : World) : (Instr.typeAssert (.iface 146 (.agg #[a, b, .bool q])) 136 146 true).run Tryz.prog w = .ok (.tuple #[.agg #[a, b, .bool q], .bool true]) w := by kernel_rfl
theorem ta_31 (a b c d : Value) (w : World) : (Instr.typeAssert (.iface 149 (.agg #[a, b, c, d])) 136 144 true).run Tryz.prog w = .ok (.tuple #[.agg #[], .bool false]) w := by kernel_rfl
theorem ta_32 (a b c d : Value) (w : World) : (Instr.typeAssert (.iface 149 (.agg #[a, b, c, d])) 136 146 true).run Tryz.prog w = .ok (.tuple #[.agg #[.int .u64 0, .int .u64 0, .bool false], .bool false]) w := by kernel_rfl
theorem ta_33 (a b c d : Value) (w : World) : (Instr.typeAssert (.iface 149 (.agg #[a, b, c, d])) 136 149 true).run Tryz.prog w = .ok (.tuple #[.agg #[a, b, c, d], .bool true]) w := by kernel_rfl

set_option maxHeartbeats 16000000 in
theorem unpack_core {N : Nat} {hi lo : Int} (f : Int) (w : World) (hw : Wd N hi lo) (hf : isFm f = true) (hN : N < 2 ^ (topN f + 1)) :
    Calls Tryz.prog 74 #[kV f, wV hi lo] w (DatumP f (decN f N).1 (decNeg f N) (ofN (decN f N).2.1) (decN f N).2.2 w) := by
  have HW := Lib.hid hw
  obtain ⟨d1, d2⟩ := D_bd2 f
  obtain ⟨ww1, ww2⟩ := fmW_bd f
  obtain ⟨f5, f6, f7, f8, f9, f10, f11⟩ : frontN f ≤ 128 ∧ oneN f ≤ 127 ∧ topN f ≤ 127 ∧ fmD f - 1 = oneN f ∧ fmW f - 1 = topN f ∧ frontN f ≤ topN f ∧ topN f - frontN f ≤ 15 := by
    rcases fm_cases hf with rfl | rfl | rfl | rfl | rfl <;> decide
  have hRlt : decR f N < 2 ^ oneN f := decR_lt f N
  have hF16 : decF f N < 65536 := by
    unfold decF
    exact Nat.lt_of_lt_of_le (Nat.mod_lt _ (Nat.two_pow_pos _)) (Nat.le_trans (pow_le2 f11) (by decide))
  have HM : Hid (∀ h l w', Hid (Wd (decR f N) h l) → Calls Tryz.prog 107 #[kV f, wV 0 (decF f N), wV h l, .bool (decOne f N)] w' fun e w'' => ∃ V, e = .returned V ∧ Hid (Cont (decR f N) (oneN f) (fmL f) V (decN f N)) ∧ Below w'.heap.size w' w'') := Lib.hid fun h l w' h1 => (meaning_any (F := decF f N) f (decOne f N) w' h1.out).mono fun e w'' h2 => cont_of h2 h1.out hF16
  have HSH : Hid (∀ w', Calls Tryz.prog 100 #[wV 0 1, .int .i64 (oneN f : Nat)] w' (GivesW (2 ^ oneN f) w')) := Lib.hid fun w' => by
    have h1 := wshl_any (oneN f) w' wd_one (by omega)
    rwa [Nat.one_mul, Nat.mod_eq_of_lt (Nat.lt_of_le_of_lt (pow_le2 f6) (by decide))] at h1
  have HOR : Hid (∀ h l h' l' w', Hid (Wd (decR f N) h l) → Hid (Wd (2 ^ oneN f) h' l') → Calls Tryz.prog 102 #[wV h l, wV h' l'] w' (GivesW (decR f N + 2 ^ oneN f) w')) := Lib.hid fun h l h' l' w' h1 h2 => wor_any' w' h1.out h2.out (or_bit (by rw [Nat.div_eq_of_lt hRlt]))
  have HNAT := Lib.hid fun N h l w' (h1 : Hid (Wd N h l)) => wnat_any (N := N) w' h1.out
  obtain ⟨l1, l2⟩ := fmL_bd f
  have HFR := Lib.hid fun w' => front_any f w'
  have HEX := Lib.hid fun w' => explicit_any f w'
  obtain ⟨q, hq⟩ : ∃ q : Nat, N / 2 ^ topN f = q := ⟨_, rfl⟩
  have hq1 : q < 18446744073709551616 := by
    rw [← hq]
    have : N / 2 ^ topN f < 2 := by rw [Nat.div_lt_iff_lt_mul (Nat.two_pow_pos _), Nat.mul_comm, ← Nat.pow_succ]; exact hN
    omega
  have HS1 : Hid (∀ w', Calls Tryz.prog 105 #[wV hi lo, .int .i64 (topN f : Nat)] w' fun e w'' => e = .returned (wV 0 q) ∧ Below w'.heap.size w' w'') := Lib.hid fun w' => (wshr_any (topN f) w' HW.out (by omega)).mono (by
    rintro e w'' ⟨h, l, rfl, h1, h2⟩
    rw [hq] at h1
    obtain ⟨rfl, rfl⟩ := h1.out.small hq1
    exact ⟨rfl, h2⟩)
  have tq : ((q : Int) == 1) = decNeg f N := by
    unfold decNeg
    rw [hq, Bool.eq_iff_iff]
    simp
    omega
  have HS2 : Hid (∀ w', Calls Tryz.prog 105 #[wV hi lo, .int .i64 (frontN f : Nat)] w' (GivesW (N / 2 ^ frontN f) w')) := Lib.hid fun w' => wshr_any (frontN f) w' HW.out f5
  have hF : decF f N < 18446744073709551616 := by
    unfold decF
    exact Nat.lt_of_lt_of_le (Nat.mod_lt _ (Nat.two_pow_pos _)) (Nat.le_trans (pow_le2 f11) (by decide))
  have HL2 : Hid (∀ h l w', Hid (Wd (N / 2 ^ frontN f) h l) → Calls Tryz.prog 106 #[wV h l, .int .i64 (topN f - frontN f : Nat)] w' fun e w'' => e = .returned (wV 0 (decF f N)) ∧ Below w'.heap.size w' w'') := Lib.hid fun h l w' h1 => (wlow_any (topN f - frontN f) w' h1.out (by omega)).mono (by
    rintro e w'' ⟨h, l, rfl, h1, h2⟩
    obtain ⟨rfl, rfl⟩ := h1.out.small hF
    exact ⟨rfl, h2⟩)
  obtain ⟨o, ho⟩ : ∃ o : Nat, N / 2 ^ oneN f % 2 = o := ⟨_, rfl⟩
  have ho1 : o < 2 := by rw [← ho]; exact Nat.mod_lt _ (by decide)
  have t1o : ((f == 4) && ((o : Int) == 1)) = decOne f N := by
    unfold decOne
    rw [ho]
    congr 1
    rw [Bool.eq_iff_iff]
    simp
    omega
  have HS3 : Hid (∀ w', Calls Tryz.prog 105 #[wV hi lo, .int .i64 (oneN f : Nat)] w' (GivesW (N / 2 ^ oneN f) w')) := Lib.hid fun w' => wshr_any (oneN f) w' HW.out (by omega)
  have HL3 : Hid (∀ h l w', Hid (Wd (N / 2 ^ oneN f) h l) → Calls Tryz.prog 106 #[wV h l, .int .i64 1] w' fun e w'' => e = .returned (wV 0 o) ∧ Below w'.heap.size w' w'') := Lib.hid fun h l w' h1 => (wlow_any 1 w' h1.out (by omega)).mono (by
    rintro e w'' ⟨h, l, rfl, h1, h2⟩
    rw [Nat.pow_one, ho] at h1
    obtain ⟨rfl, rfl⟩ := h1.out.small (by omega)
    exact ⟨rfl, h2⟩)
  have HL4 : Hid (∀ w', Calls Tryz.prog 106 #[wV hi lo, .int .i64 (oneN f : Nat)] w' (GivesW (decR f N) w')) := Lib.hid fun w' => wlow_any (oneN f) w' HW.out (by omega)
  have hm : ((topN f - frontN f : Nat) : Int) = (topN f : Int) - frontN f := by omega
  generalize decN f N = res at *
  generalize decNeg f N = ng at *
  generalize decOne f N = one at *
  generalize decF f N = F at *
  generalize decR f N = R at *
  unfold kV at *
  clear hw hN hf hq hF ho HW hRlt hF16
  show Calls Tryz.prog 74 #[.agg #[.int .i64 (fmD f), .int .i64 (fmE f), .int .i64 (fmL f), .int .i64 (fmH f), .int .i64 (fmW f), .int .i64 f], wV hi lo] w _
  generalize fmD f = D at *
  generalize fmE f = E at *
  generalize fmL f = L at *
  generalize fmH f = H at *
  generalize fmW f = W at *
  generalize frontN f = fr at *
  generalize oneN f = on at *
  generalize topN f = tp at *
  generalize (f == 4) = b4 at *
  generalize N / 2 ^ fr = M2 at *
  generalize N / 2 ^ on = M3 at *
  have hwo : IntKind.i64.wrap (on : Int) = on := by rw [IntKind.wrap_i64]; omega
  have hwt : IntKind.i64.wrap (tp : Int) = tp := by rw [IntKind.wrap_i64]; omega
  obtain ⟨m, hm2⟩ : ∃ m, tp - fr = m := ⟨_, rfl⟩
  rw [hm2] at hm HL2
  have hm3 : (tp : Int) - fr = m := hm.symm
  clear hm hm2
  have hwm : IntKind.i64.wrap (m : Int) = m := by rw [IntKind.wrap_i64]; omega
  go_enter Tryz.func74, Tryz.ntmps74
  go_upto_region 1 with fail
  go_cut [5] (fun v5 wc => ∃ p5 : Nat, v5 = .pointer (some ⟨p5, 0, none⟩) ∧ w.heap.size + 1 + 1 < p5 ∧ BlkIs wc p5 25 (· = #[.int .i64 f, .int .i64 0, .bool ng, .slice none 0 0, .int .i64 0]) ∧ BlkIs wc w.heap.size 82 (· = #[.int .i64 D, .int .i64 E, .int .i64 L, .int .i64 H, .int .i64 W, .int .i64 f]) ∧ BlkIs wc (w.heap.size + 1) 106 (· = #[.int .u64 hi, .int .u64 lo]) ∧ BlkIs wc (w.heap.size + 1 + 1) 25 (· = #[.int .i64 0, .int .i64 0, .bool false, .slice none 0 0, .int .i64 0]) ∧ Below w.heap.size w wc)
  case first =>
    cases ng
    all_goals
      go_region_held3 (fun w' => Below (((w.alloc (.cells #[.int .i64 D, .int .i64 E, .int .i64 L, .int .i64 H, .int .i64 W, .int .i64 f] 82)).alloc (.cells #[.int .u64 hi, .int .u64 lo] 106)).alloc (.cells #[.int .i64 0, .int .i64 0, .bool false, .slice none 0 0, .int .i64 0] 25)).heap.size (((w.alloc (.cells #[.int .i64 D, .int .i64 E, .int .i64 L, .int .i64 H, .int .i64 W, .int .i64 f] 82)).alloc (.cells #[.int .u64 hi, .int .u64 lo] 106)).alloc (.cells #[.int .i64 0, .int .i64 0, .bool false, .slice none 0 0, .int .i64 0] 25)) w' ∧ ∀ b o, b < (((w.alloc (.cells #[.int .i64 D, .int .i64 E, .int .i64 L, .int .i64 H, .int .i64 W, .int .i64 f] 82)).alloc (.cells #[.int .u64 hi, .int .u64 lo] 106)).alloc (.cells #[.int .i64 0, .int .i64 0, .bool false, .slice none 0 0, .int .i64 0] 25)).heap.size → w'.cell? ⟨b, o, none⟩ = (((w.alloc (.cells #[.int .i64 D, .int .i64 E, .int .i64 L, .int .i64 H, .int .i64 W, .int .i64 f] 82)).alloc (.cells #[.int .u64 hi, .int .u64 lo] 106)).alloc (.cells #[.int .i64 0, .int .i64 0, .bool false, .slice none 0 0, .int .i64 0] 25)).cell? ⟨b, o, none⟩) (first | ((try go_split_ands); refine below_S ?_; ((repeat (first | with_reducible assumption | with_reducible exact Below.refl _ _ | with_reducible refine below_alloc ?_ _ | with_reducible refine pw_below_drewN ?_ _ | with_reducible refine below_drew1 ?_ | ((with_reducible refine below_set ?_ ?hle); (case hle => first | (simp; done) | omega | (simp; omega))) | with_reducible refine below_step ?_ (by with_reducible assumption))); done))) (first | (go_at_call 105; (with_reducible refine (HS1.out _).mono ?_); rintro e w1 ⟨rfl, b1⟩; obtain ⟨hc1, hf1⟩ := bcell b1; (try simp only [dr_size, dr_cell] at hc1); (try simp only [dr_size, dr_frozen] at hf1); have hz1 := below_size b1; (try simp at hz1); (try have z01 : w.heap.size < w1.heap.size := (by omega)); (try have z11 : w.heap.size + 1 < w1.heap.size := (by omega)); (try have z21 : w.heap.size + 1 + 1 < w1.heap.size := (by omega)); (try have z31 : w.heap.size + 1 + 1 + 1 < w1.heap.size := (by omega))))
    all_goals
      go_wp2_with fail
      go_meet
      exact ⟨_, rfl, by first | omega | (simp; omega), blk0, blk0, blk0, blk0, bel⟩
  case rest =>
    obtain ⟨p5, rfl, hp5, HB5, HBK, HBW, HBR, hbw⟩ := hcut
    have HB5h := Lib.hid HB5
    have HBKh := Lib.hid HBK
    have HBWh := Lib.hid HBW
    have HBRh := Lib.hid HBR
    obtain ⟨csk, hbkk, rfl⟩ := HBK
    obtain ⟨csw, hbkw, rfl⟩ := HBW
    have k0 : wc.cell? ⟨w.heap.size, 0, none⟩ = some (.int .i64 D) := by simpa using blk_cell hbkk 0
    have k1 : wc.cell? ⟨w.heap.size, 1, none⟩ = some (.int .i64 E) := by simpa using blk_cell hbkk 1
    have k2 : wc.cell? ⟨w.heap.size, 2, none⟩ = some (.int .i64 L) := by simpa using blk_cell hbkk 2
    have k3 : wc.cell? ⟨w.heap.size, 3, none⟩ = some (.int .i64 H) := by simpa using blk_cell hbkk 3
    have k4 : wc.cell? ⟨w.heap.size, 4, none⟩ = some (.int .i64 W) := by simpa using blk_cell hbkk 4
    have k5 : wc.cell? ⟨w.heap.size, 5, none⟩ = some (.int .i64 f) := by simpa using blk_cell hbkk 5
    have kz : w.heap.size < wc.heap.size := blk_lt hbkk
    have u0 : wc.cell? ⟨w.heap.size + 1, 0, none⟩ = some (.int .u64 hi) := by simpa using blk_cell hbkw 0
    have u1 : wc.cell? ⟨w.heap.size + 1, 1, none⟩ = some (.int .u64 lo) := by simpa using blk_cell hbkw 1
    have uz : w.heap.size + 1 < wc.heap.size := blk_lt hbkw
    clear hbkk hbkw
    have e5z : p5 < wc.heap.size := by obtain ⟨cs, h, -⟩ := HB5h.out; exact blk_lt h
    clear HB5 HBR
    go_upto_region 2 with fail
    go_cut [6] (fun v6 wc => ∃ p6 : Nat, v6 = .pointer (some ⟨p6, 0, none⟩) ∧ w.heap.size + 1 + 1 < p6 ∧ p6 ≠ p5 ∧ BlkIs wc p6 106 (· = #[.int .u64 0, .int .u64 F]) ∧ BlkIs wc p5 25 (· = #[.int .i64 f, .int .i64 0, .bool ng, .slice none 0 0, .int .i64 0]) ∧ BlkIs wc w.heap.size 82 (· = #[.int .i64 D, .int .i64 E, .int .i64 L, .int .i64 H, .int .i64 W, .int .i64 f]) ∧ BlkIs wc (w.heap.size + 1) 106 (· = #[.int .u64 hi, .int .u64 lo]) ∧ BlkIs wc (w.heap.size + 1 + 1) 25 (· = #[.int .i64 0, .int .i64 0, .bool false, .slice none 0 0, .int .i64 0]) ∧ Below w.heap.size w wc)
    case first =>
      go_region_held3 (fun w' => Below (wc).heap.size (wc) w' ∧ ∀ b o, b < (wc).heap.size → w'.cell? ⟨b, o, none⟩ = (wc).cell? ⟨b, o, none⟩) (first | ((try go_split_ands); refine below_S ?_; ((repeat (first | with_reducible assumption | with_reducible exact Below.refl _ _ | with_reducible refine below_alloc ?_ _ | with_reducible refine pw_below_drewN ?_ _ | with_reducible refine below_drew1 ?_ | ((with_reducible refine below_set ?_ ?hle); (case hle => first | (simp; done) | omega | (simp; omega))) | with_reducible refine below_step ?_ (by with_reducible assumption))); done))) (first | ((have _hb := b2); go_at_call 101; (with_reducible refine (HFR.out _).mono ?_); rintro e w6 ⟨rfl, b6⟩; obtain ⟨hc6, hf6⟩ := bcell b6; (try simp only [dr_size, dr_cell] at hc6); (try simp only [dr_size, dr_frozen] at hf6); have hz6 := below_size b6; (try simp at hz6); (try have z06 : w.heap.size < w6.heap.size := (by omega)); (try have z16 : w.heap.size + 1 < w6.heap.size := (by omega)); (try have z26 : w.heap.size + 1 + 1 < w6.heap.size := (by omega)); (try have ywc6 : wc.heap.size < w6.heap.size := (by omega)); (try have yw26 : w2.heap.size < w6.heap.size := (by omega)); (try have yw36 : w3.heap.size < w6.heap.size := (by omega))) | (go_at_call 101; (with_reducible refine (HFR.out _).mono ?_); rintro e w2 ⟨rfl, b2⟩; obtain ⟨hc2, hf2⟩ := bcell b2; (try simp only [dr_size, dr_cell] at hc2); (try simp only [dr_size, dr_frozen] at hf2); have hz2 := below_size b2; (try simp at hz2); (try have z02 : w.heap.size < w2.heap.size := (by omega)); (try have z12 : w.heap.size + 1 < w2.heap.size := (by omega)); (try have z22 : w.heap.size + 1 + 1 < w2.heap.size := (by omega)); (try have ywc2 : wc.heap.size < w2.heap.size := (by omega))) | (go_at_call 105; (with_reducible refine (HS2.out _).mono ?_); rintro e w3 ⟨h3, l3, rfl, hw3, b3⟩; obtain ⟨hc3, hf3⟩ := bcell b3; (try simp only [dr_size, dr_cell] at hc3); (try simp only [dr_size, dr_frozen] at hf3); have hz3 := below_size b3; (try simp at hz3); (try have z03 : w.heap.size < w3.heap.size := (by omega)); (try have z13 : w.heap.size + 1 < w3.heap.size := (by omega)); (try have z23 : w.heap.size + 1 + 1 < w3.heap.size := (by omega)); (try have ywc3 : wc.heap.size < w3.heap.size := (by omega)); (try have yw23 : w2.heap.size < w3.heap.size := (by omega)); (try have yw63 : w6.heap.size < w3.heap.size := (by omega))) | (go_at_call 106; (with_reducible refine (HL2.out _ _ _ hw3).mono ?_); rintro e w4 ⟨rfl, b4⟩; obtain ⟨hc4, hf4⟩ := bcell b4; (try simp only [dr_size, dr_cell] at hc4); (try simp only [dr_size, dr_frozen] at hf4); have hz4 := below_size b4; (try simp at hz4); (try have z04 : w.heap.size < w4.heap.size := (by omega)); (try have z14 : w.heap.size + 1 < w4.heap.size := (by omega)); (try have z24 : w.heap.size + 1 + 1 < w4.heap.size := (by omega)); (try have ywc4 : wc.heap.size < w4.heap.size := (by omega)); (try have yw24 : w2.heap.size < w4.heap.size := (by omega)); (try have yw34 : w3.heap.size < w4.heap.size := (by omega)); (try have yw64 : w6.heap.size < w4.heap.size := (by omega))))
      all_goals
        go_wp2_with fail
        go_meet
        have HB5 := HB5h.out
        have HBK := HBKh.out
        have HBW := HBWh.out
        have HBR := HBRh.out
        exact ⟨_, rfl, by first | omega | (simp; omega), by first | omega | (simp; omega), blk0, blk0, blk0, blk0, blk0, bel⟩
    case rest =>
      obtain ⟨p6, rfl, hp6, hp65, HB6, HB5, HBK, HBW, HBR, hbw⟩ := hcut
      have HB6h := Lib.hid HB6
      have HB5h := Lib.hid HB5
      have HBKh := Lib.hid HBK
      have HBWh := Lib.hid HBW
      have HBRh := Lib.hid HBR
      obtain ⟨csk, hbkk, rfl⟩ := HBK
      obtain ⟨csw, hbkw, rfl⟩ := HBW
      have k0 : wc.cell? ⟨w.heap.size, 0, none⟩ = some (.int .i64 D) := by simpa using blk_cell hbkk 0
      have k1 : wc.cell? ⟨w.heap.size, 1, none⟩ = some (.int .i64 E) := by simpa using blk_cell hbkk 1
      have k2 : wc.cell? ⟨w.heap.size, 2, none⟩ = some (.int .i64 L) := by simpa using blk_cell hbkk 2
      have k3 : wc.cell? ⟨w.heap.size, 3, none⟩ = some (.int .i64 H) := by simpa using blk_cell hbkk 3
      have k4 : wc.cell? ⟨w.heap.size, 4, none⟩ = some (.int .i64 W) := by simpa using blk_cell hbkk 4
      have k5 : wc.cell? ⟨w.heap.size, 5, none⟩ = some (.int .i64 f) := by simpa using blk_cell hbkk 5
      have kz : w.heap.size < wc.heap.size := blk_lt hbkk
      have u0 : wc.cell? ⟨w.heap.size + 1, 0, none⟩ = some (.int .u64 hi) := by simpa using blk_cell hbkw 0
      have u1 : wc.cell? ⟨w.heap.size + 1, 1, none⟩ = some (.int .u64 lo) := by simpa using blk_cell hbkw 1
      have uz : w.heap.size + 1 < wc.heap.size := blk_lt hbkw
      clear hbkk hbkw
      obtain ⟨cs6, hbk6, rfl⟩ := HB6
      have e0 : wc.cell? ⟨p6, 0, none⟩ = some (.int .u64 0) := by simpa using blk_cell hbk6 0
      have e1 : wc.cell? ⟨p6, 1, none⟩ = some (.int .u64 F) := by simpa using blk_cell hbk6 1
      have ez : p6 < wc.heap.size := blk_lt hbk6
      clear hbk6
      have e5z : p5 < wc.heap.size := by obtain ⟨cs, h, -⟩ := HB5h.out; exact blk_lt h
      clear HB5 HBR
      go_upto_region 3 with fail
      go_cut [7] (fun v7 wc => v7 = .bool one ∧ BlkIs wc p6 106 (· = #[.int .u64 0, .int .u64 F]) ∧ BlkIs wc p5 25 (· = #[.int .i64 f, .int .i64 0, .bool ng, .slice none 0 0, .int .i64 0]) ∧ BlkIs wc w.heap.size 82 (· = #[.int .i64 D, .int .i64 E, .int .i64 L, .int .i64 H, .int .i64 W, .int .i64 f]) ∧ BlkIs wc (w.heap.size + 1) 106 (· = #[.int .u64 hi, .int .u64 lo]) ∧ BlkIs wc (w.heap.size + 1 + 1) 25 (· = #[.int .i64 0, .int .i64 0, .bool false, .slice none 0 0, .int .i64 0]) ∧ Below w.heap.size w wc)
      case first =>
        obtain rfl | rfl : o = 0 ∨ o = 1 := by omega
        all_goals
          cases b4
          all_goals
            simp at t1o
            subst t1o
            go_wp2_with (first | (go_at_call 103; (with_reducible refine (HEX.out _).mono ?_); rintro e w2 ⟨rfl, b2⟩; obtain ⟨hc2, hf2⟩ := bcell b2; (try simp only [dr_size, dr_cell] at hc2); (try simp only [dr_size, dr_frozen] at hf2); have hz2 := below_size b2; (try simp at hz2); (try have z02 : w.heap.size < w2.heap.size := (by omega)); (try have z12 : w.heap.size + 1 < w2.heap.size := (by omega)); (try have z22 : w.heap.size + 1 + 1 < w2.heap.size := (by omega)); (try have ywc2 : wc.heap.size < w2.heap.size := (by omega))) | (go_at_call 105; (with_reducible refine (HS3.out _).mono ?_); rintro e w3 ⟨h3, l3, rfl, hw3, b3⟩; obtain ⟨hc3, hf3⟩ := bcell b3; (try simp only [dr_size, dr_cell] at hc3); (try simp only [dr_size, dr_frozen] at hf3); have hz3 := below_size b3; (try simp at hz3); (try have z03 : w.heap.size < w3.heap.size := (by omega)); (try have z13 : w.heap.size + 1 < w3.heap.size := (by omega)); (try have z23 : w.heap.size + 1 + 1 < w3.heap.size := (by omega)); (try have ywc3 : wc.heap.size < w3.heap.size := (by omega)); (try have yw23 : w2.heap.size < w3.heap.size := (by omega))) | (go_at_call 106; (with_reducible refine (HL3.out _ _ _ hw3).mono ?_); rintro e w4 ⟨rfl, b4_⟩; have b4 := b4_; obtain ⟨hc4, hf4⟩ := bcell b4; (try simp only [dr_size, dr_cell] at hc4); (try simp only [dr_size, dr_frozen] at hf4); have hz4 := below_size b4; (try simp at hz4); (try have z04 : w.heap.size < w4.heap.size := (by omega)); (try have z14 : w.heap.size + 1 < w4.heap.size := (by omega)); (try have z24 : w.heap.size + 1 + 1 < w4.heap.size := (by omega)); (try have ywc4 : wc.heap.size < w4.heap.size := (by omega)); (try have yw24 : w2.heap.size < w4.heap.size := (by omega)); (try have yw34 : w3.heap.size < w4.heap.size := (by omega))))
            go_meet
            have HB6 := HB6h.out
            have HB5 := HB5h.out
            have HBK := HBKh.out
            have HBW := HBWh.out
            have HBR := HBRh.out
            exact ⟨by simp, blk0, blk0, blk0, blk0, blk0, bel⟩
      case rest =>
        obtain ⟨rfl, HB6, HB5, HBK, HBW, HBR, hbw⟩ := hcut
        have HB5h := Lib.hid HB5
        have HBKh := Lib.hid HBK
        have HBWh := Lib.hid HBW
        have HBRh := Lib.hid HBR
        obtain ⟨csk, hbkk, rfl⟩ := HBK
        obtain ⟨csw, hbkw, rfl⟩ := HBW
        have k0 : wc.cell? ⟨w.heap.size, 0, none⟩ = some (.int .i64 D) := by simpa using blk_cell hbkk 0
        have k1 : wc.cell? ⟨w.heap.size, 1, none⟩ = some (.int .i64 E) := by simpa using blk_cell hbkk 1
        have k2 : wc.cell? ⟨w.heap.size, 2, none⟩ = some (.int .i64 L) := by simpa using blk_cell hbkk 2
        have k3 : wc.cell? ⟨w.heap.size, 3, none⟩ = some (.int .i64 H) := by simpa using blk_cell hbkk 3
        have k4 : wc.cell? ⟨w.heap.size, 4, none⟩ = some (.int .i64 W) := by simpa using blk_cell hbkk 4
        have k5 : wc.cell? ⟨w.heap.size, 5, none⟩ = some (.int .i64 f) := by simpa using blk_cell hbkk 5
        have kz : w.heap.size < wc.heap.size := blk_lt hbkk
        have u0 : wc.cell? ⟨w.heap.size + 1, 0, none⟩ = some (.int .u64 hi) := by simpa using blk_cell hbkw 0
        have u1 : wc.cell? ⟨w.heap.size + 1, 1, none⟩ = some (.int .u64 lo) := by simpa using blk_cell hbkw 1
        have uz : w.heap.size + 1 < wc.heap.size := blk_lt hbkw
        clear hbkk hbkw
        obtain ⟨cs6, hbk6, rfl⟩ := HB6
        have e0 : wc.cell? ⟨p6, 0, none⟩ = some (.int .u64 0) := by simpa using blk_cell hbk6 0
        have e1 : wc.cell? ⟨p6, 1, none⟩ = some (.int .u64 F) := by simpa using blk_cell hbk6 1
        have ez : p6 < wc.heap.size := blk_lt hbk6
        clear hbk6
        have e5z : p5 < wc.heap.size := by obtain ⟨cs, h, -⟩ := HB5h.out; exact blk_lt h
        clear HB5 HBR
        go_upto_region 4 with fail
        go_cut [56] (fun v56 wc => Hid (Cont R on L v56 res) ∧ BlkIs wc p5 25 (· = #[.int .i64 f, .int .i64 0, .bool ng, .slice none 0 0, .int .i64 0]) ∧ BlkIs wc w.heap.size 82 (· = #[.int .i64 D, .int .i64 E, .int .i64 L, .int .i64 H, .int .i64 W, .int .i64 f]) ∧ BlkIs wc (w.heap.size + 1) 106 (· = #[.int .u64 hi, .int .u64 lo]) ∧ BlkIs wc (w.heap.size + 1 + 1) 25 (· = #[.int .i64 0, .int .i64 0, .bool false, .slice none 0 0, .int .i64 0]) ∧ Below w.heap.size w wc)
        case first =>
          go_region_held3 (fun w' => Below (wc).heap.size (wc) w' ∧ ∀ b o, b < (wc).heap.size → w'.cell? ⟨b, o, none⟩ = (wc).cell? ⟨b, o, none⟩) (first | ((try go_split_ands); refine below_S ?_; ((repeat (first | with_reducible assumption | with_reducible exact Below.refl _ _ | with_reducible refine below_alloc ?_ _ | with_reducible refine pw_below_drewN ?_ _ | with_reducible refine below_drew1 ?_ | ((with_reducible refine below_set ?_ ?hle); (case hle => first | (simp; done) | omega | (simp; omega))) | with_reducible refine below_step ?_ (by with_reducible assumption))); done))) (first | (go_at_call 106; (with_reducible refine (HL4.out _).mono ?_); rintro e w3 ⟨h3, l3, rfl, hw3, b3⟩; obtain ⟨hc3, hf3⟩ := bcell b3; (try simp only [dr_size, dr_cell] at hc3); (try simp only [dr_size, dr_frozen] at hf3); have hz3 := below_size b3; (try simp at hz3); (try have z03 : w.heap.size < w3.heap.size := (by omega)); (try have z13 : w.heap.size + 1 < w3.heap.size := (by omega)); (try have z23 : w.heap.size + 1 + 1 < w3.heap.size := (by omega)); (try have ywc3 : wc.heap.size < w3.heap.size := (by omega))) | (go_at_call 107; (with_reducible refine (HM.out _ _ _ hw3).mono ?_); rintro e w4 ⟨V, rfl, hV, b4⟩; obtain ⟨hc4, hf4⟩ := bcell b4; (try simp only [dr_size, dr_cell] at hc4); (try simp only [dr_size, dr_frozen] at hf4); have hz4 := below_size b4; (try simp at hz4); (try have z04 : w.heap.size < w4.heap.size := (by omega)); (try have z14 : w.heap.size + 1 < w4.heap.size := (by omega)); (try have z24 : w.heap.size + 1 + 1 < w4.heap.size := (by omega)); (try have ywc4 : wc.heap.size < w4.heap.size := (by omega)); (try have yw34 : w3.heap.size < w4.heap.size := (by omega))))
          all_goals
            go_wp2_with fail
            go_meet
            have HB5 := HB5h.out
            have HBK := HBKh.out
            have HBW := HBWh.out
            have HBR := HBRh.out
            exact ⟨hV, blk0, blk0, blk0, blk0, bel⟩
        case rest =>
          obtain ⟨hV, HB5, HBK, HBW, HBR, hbw⟩ := hcut
          have hK := hV.out
          clear hV
          have HKr := Lib.hid HBK
          have HRr := Lib.hid HBR
          obtain ⟨csk, hbkk, rfl⟩ := HBK
          obtain ⟨csw, hbkw, rfl⟩ := HBW
          have k0 : wc.cell? ⟨w.heap.size, 0, none⟩ = some (.int .i64 D) := by simpa using blk_cell hbkk 0
          have k1 : wc.cell? ⟨w.heap.size, 1, none⟩ = some (.int .i64 E) := by simpa using blk_cell hbkk 1
          have k2 : wc.cell? ⟨w.heap.size, 2, none⟩ = some (.int .i64 L) := by simpa using blk_cell hbkk 2
          have k3 : wc.cell? ⟨w.heap.size, 3, none⟩ = some (.int .i64 H) := by simpa using blk_cell hbkk 3
          have k4 : wc.cell? ⟨w.heap.size, 4, none⟩ = some (.int .i64 W) := by simpa using blk_cell hbkk 4
          have k5 : wc.cell? ⟨w.heap.size, 5, none⟩ = some (.int .i64 f) := by simpa using blk_cell hbkk 5
          have kz : w.heap.size < wc.heap.size := blk_lt hbkk
          have u0 : wc.cell? ⟨w.heap.size + 1, 0, none⟩ = some (.int .u64 hi) := by simpa using blk_cell hbkw 0
          have u1 : wc.cell? ⟨w.heap.size + 1, 1, none⟩ = some (.int .u64 lo) := by simpa using blk_cell hbkw 1
          have uz : w.heap.size + 1 < wc.heap.size := blk_lt hbkw
          clear hbkk hbkw
          obtain ⟨cs5, hbk5, rfl⟩ := HB5
          have d0 : wc.cell? ⟨p5, 0, none⟩ = some (.int .i64 f) := by simpa using blk_cell hbk5 0
          have df0 : wc.frozen? ⟨p5, 0, none⟩ = false := blk_frozen hbk5 0
          have d1 : wc.cell? ⟨p5, 1, none⟩ = some (.int .i64 0) := by simpa using blk_cell hbk5 1
          have df1 : wc.frozen? ⟨p5, 1, none⟩ = false := blk_frozen hbk5 1
          have d2 : wc.cell? ⟨p5, 2, none⟩ = some (.bool ng) := by simpa using blk_cell hbk5 2
          have df2 : wc.frozen? ⟨p5, 2, none⟩ = false := blk_frozen hbk5 2
          have d3 : wc.cell? ⟨p5, 3, none⟩ = some (.slice none 0 0) := by simpa using blk_cell hbk5 3
          have df3 : wc.frozen? ⟨p5, 3, none⟩ = false := blk_frozen hbk5 3
          have d4 : wc.cell? ⟨p5, 4, none⟩ = some (.int .i64 0) := by simpa using blk_cell hbk5 4
          have df4 : wc.frozen? ⟨p5, 4, none⟩ = false := blk_frozen hbk5 4
          have dz : p5 < wc.heap.size := blk_lt hbk5
          have H5r := Lib.hid hbk5
          clear hbk5
          obtain ⟨csr, hbkr, rfl⟩ := HBR
          have r0 : wc.cell? ⟨w.heap.size + 1 + 1, 0, none⟩ = some (.int .i64 0) := by simpa using blk_cell hbkr 0
          have rf0 : wc.frozen? ⟨w.heap.size + 1 + 1, 0, none⟩ = false := blk_frozen hbkr 0
          have r1 : wc.cell? ⟨w.heap.size + 1 + 1, 1, none⟩ = some (.int .i64 0) := by simpa using blk_cell hbkr 1
          have rf1 : wc.frozen? ⟨w.heap.size + 1 + 1, 1, none⟩ = false := blk_frozen hbkr 1
          have r2 : wc.cell? ⟨w.heap.size + 1 + 1, 2, none⟩ = some (.bool false) := by simpa using blk_cell hbkr 2
          have rf2 : wc.frozen? ⟨w.heap.size + 1 + 1, 2, none⟩ = false := blk_frozen hbkr 2
          have r3 : wc.cell? ⟨w.heap.size + 1 + 1, 3, none⟩ = some (.slice none 0 0) := by simpa using blk_cell hbkr 3
          have rf3 : wc.frozen? ⟨w.heap.size + 1 + 1, 3, none⟩ = false := blk_frozen hbkr 3
          have r4 : wc.cell? ⟨w.heap.size + 1 + 1, 4, none⟩ = some (.int .i64 0) := by simpa using blk_cell hbkr 4
          have rf4 : wc.frozen? ⟨w.heap.size + 1 + 1, 4, none⟩ = false := blk_frozen hbkr 4
          have rz : w.heap.size + 1 + 1 < wc.heap.size := blk_lt hbkr
          clear hbkr
          have dz1 : p5 < wc.heap.size + 1 := by omega
          have rz1 : w.heap.size + 1 + 1 < wc.heap.size + 1 := by omega
          have kz1 : w.heap.size < wc.heap.size + 1 := by omega
          have uz1 : w.heap.size + 1 < wc.heap.size + 1 := by omega
          rcases hK with hc1 | hc1 | hc1
          · obtain ⟨rfl, rfl⟩ := hc1
            have ta1 := ta_11
            go_wp2_with fail
            exact bodyPost_ret (v := .agg #[.int .i64 f, .int .i64 2, .bool ng, .slice none 0 0, .int .i64 0]) (by simp [results, Tryz.results74, go_sem, *]) rfl ⟨_, rfl, by simp only [ofN_zero]; exact Kd.R_nil _ _ _ _ _, bel⟩
          · have ta1 := ta_21
            have ta2 := ta_22
            obtain ⟨h, l, q, X, rfl, hwX, rfl⟩ := hc1
            have HWX := Lib.hid hwX
            clear hwX
            cases q
            · go_wp2_with (first | (go_at_call 108; (with_reducible refine (HNAT.out _ _ _ _ HWX).mono ?_); rintro e w7 ⟨v7, rfl, hv7, b7⟩; obtain ⟨A7, c7, rfl⟩ := Kd.R_slice hv7; have HV7 := Lib.hid hv7; clear hv7; obtain ⟨hc7, hf7⟩ := bcell b7; (try simp only [dr_size, dr_cell] at hc7); (try simp only [dr_size, dr_frozen] at hf7); have hz7 := below_size b7; (try simp at hz7); (try have z07 : w.heap.size < w7.heap.size := (by omega)); (try have z17 : w.heap.size + 1 < w7.heap.size := (by omega)); (try have z27 : w.heap.size + 1 + 1 < w7.heap.size := (by omega)); (try have ywc7 : wc.heap.size < w7.heap.size := (by omega)); (try have yp57 : p5 < w7.heap.size := (by omega)); (try have yw67 : w6.heap.size < w7.heap.size := (by omega))))
              exact bodyPost_ret (v := .agg #[.int .i64 f, .int .i64 4, .bool ng, .slice A7 (ofN X).length c7, .int .i64 0]) (by simp [results, Tryz.results74, go_sem, *]) rfl ⟨_, rfl, Kd.R_lower (R_chg (S := fun k => k = p5 ∨ k = w.heap.size + 1 + 1) HV7.out chg2 (by intro k hk; (try simp at hk ⊢); omega)) (by first | omega | (simp; omega)), bel⟩
            · go_upto_region 12 with (first | (go_at_call 108; (with_reducible refine (HNAT.out _ _ _ _ HWX).mono ?_); rintro e w7 ⟨v7, rfl, hv7, b7⟩; obtain ⟨A7, c7, rfl⟩ := Kd.R_slice hv7; have HV7 := Lib.hid hv7; clear hv7; obtain ⟨hc7, hf7⟩ := bcell b7; (try simp only [dr_size, dr_cell] at hc7); (try simp only [dr_size, dr_frozen] at hf7); have hz7 := below_size b7; (try simp at hz7); (try have z07 : w.heap.size < w7.heap.size := (by omega)); (try have z17 : w.heap.size + 1 < w7.heap.size := (by omega)); (try have z27 : w.heap.size + 1 + 1 < w7.heap.size := (by omega)); (try have ywc7 : wc.heap.size < w7.heap.size := (by omega)); (try have yp57 : p5 < w7.heap.size := (by omega)); (try have yw67 : w6.heap.size < w7.heap.size := (by omega))))
              have q1 : ((w7.setCell ⟨p5, 1, none⟩ (.int .i64 4)).setCell ⟨p5, 3, none⟩ (.slice A7 (ofN X).length c7)).cell? ⟨p5, 1, none⟩ = some (.int .i64 4) := by simp [go_sem, *]
              go_wp2_with fail
              exact bodyPost_ret (v := .agg #[.int .i64 f, .int .i64 3, .bool ng, .slice A7 (ofN X).length c7, .int .i64 0]) (by simp [results, Tryz.results74, go_sem, *]) rfl ⟨_, rfl, Kd.R_lower (R_chg (S := fun k => k = p5 ∨ k = w.heap.size + 1 + 1) HV7.out chg2 (by intro k hk; (try simp at hk ⊢); omega)) (by first | omega | (simp; omega)), bel⟩
          · have ta1 := ta_31
            have ta2 := ta_32
            have ta3 := ta_33
            obtain ⟨xh, xl, G, rfl, hwX, hG, rfl⟩ := hc1
            have HWX := Lib.hid hwX
            clear hwX
            by_cases hg : G = 0
            · subst hg
              go_wp2_with fail
              go_region
              go_wp2_with (first | (go_at_call 108; (with_reducible refine (HNAT.out _ _ _ _ HWX).mono ?_); rintro e w7 ⟨v7, rfl, hv7, b7⟩; obtain ⟨A7, c7, rfl⟩ := Kd.R_slice hv7; have HV7 := Lib.hid hv7; clear hv7; obtain ⟨hc7, hf7⟩ := bcell b7; (try simp only [dr_size, dr_cell] at hc7); (try simp only [dr_size, dr_frozen] at hf7); have hz7 := below_size b7; (try simp at hz7); (try have z07 : w.heap.size < w7.heap.size := (by omega)); (try have z17 : w.heap.size + 1 < w7.heap.size := (by omega)); (try have z27 : w.heap.size + 1 + 1 < w7.heap.size := (by omega)); (try have ywc7 : wc.heap.size < w7.heap.size := (by omega)); (try have yp57 : p5 < w7.heap.size := (by omega)); (try have yw67 : w6.heap.size < w7.heap.size := (by omega))))
              exact bodyPost_ret (v := .agg #[.int .i64 f, .int .i64 1, .bool ng, .slice A7 (ofN R).length c7, .int .i64 L]) (by simp [results, Tryz.results74, go_sem, *]) rfl ⟨_, rfl, Kd.R_lower (R_chg (S := fun k => k = p5 ∨ k = w.heap.size + 1 + 1) HV7.out chg2 (by intro k hk; (try simp at hk ⊢); omega)) (by first | omega | (simp; omega)), bel⟩
            · have t0 : (((G : Int)) == 0) = false := by simp; omega
              have t1 : (((G : Int)) != 0) = true := by simp; omega
              have hwG : IntKind.i64.wrap (G : Int) = G := by rw [IntKind.wrap_i64]; omega
              have hwG1 : IntKind.i64.wrap ((G : Int) - 1) = (G : Int) - 1 := by rw [IntKind.wrap_i64]; omega
              have hwG2 : IntKind.i64.wrap (L + ((G : Int) - 1)) = L + G - 1 := by rw [IntKind.wrap_i64]; omega
              have HG := Lib.hid hg
              clear hg
              go_wp2_with fail
              go_region
              go_upto_region 17 with fail
              go_cut [10] (fun v10 wx => ∃ p10 : Nat, v10 = .pointer (some ⟨p10, 0, none⟩) ∧ w.heap.size + 1 + 1 < p10 ∧ p5 ≠ p10 ∧ BlkIs wx p10 149 (· = #[.int .u64 0, .int .u64 G, .int .u64 xh, .int .u64 xl]) ∧ BlkIs wx p5 25 (· = #[.int .i64 f, .int .i64 1, .bool ng, .slice none 0 0, .int .i64 (L + G - 1)]) ∧ BlkIs wx w.heap.size 82 (· = #[.int .i64 D, .int .i64 E, .int .i64 L, .int .i64 H, .int .i64 W, .int .i64 f]) ∧ BlkIs wx (w.heap.size + 1 + 1) 25 (· = #[.int .i64 0, .int .i64 0, .bool false, .slice none 0 0, .int .i64 0]) ∧ Below w.heap.size w wx)
              case first =>
                go_wp2_with fail
                go_meet
                have hbk5 := H5r.out
                have HBR := HRr.out
                have HBK := HKr.out
                exact ⟨_, rfl, by first | omega | (simp; omega), by first | omega | (simp; omega), blk0, (by repeat (first | with_reducible refine BlkIs.set ?_ | with_reducible refine BlkIs.alloc ?_ | with_reducible refine BlkIs.drew ?_ | exact BlkIs.of hbk5 (by first | rfl | (simp; done) | (simp; omega)))), blk0, blk0, bel⟩
              case rest =>
                obtain ⟨p10, rfl, hp10, hp105, HBX, HB5, HBK, HBR, hbw⟩ := hcut
                clear d0 d1 d2 d3 d4 df0 df1 df2 df3 df4 dz r0 r1 r2 r3 r4 rf0 rf1 rf2 rf3 rf4 rz k0 k1 k2 k3 k4 k5 kz u0 u1 uz dz1 rz1 kz1 uz1
                obtain ⟨csk, hbkk, rfl⟩ := HBK
                have k0 : wc.cell? ⟨w.heap.size, 0, none⟩ = some (.int .i64 D) := by simpa using blk_cell hbkk 0
                have k1 : wc.cell? ⟨w.heap.size, 1, none⟩ = some (.int .i64 E) := by simpa using blk_cell hbkk 1
                have k2 : wc.cell? ⟨w.heap.size, 2, none⟩ = some (.int .i64 L) := by simpa using blk_cell hbkk 2
                have k3 : wc.cell? ⟨w.heap.size, 3, none⟩ = some (.int .i64 H) := by simpa using blk_cell hbkk 3
                have k4 : wc.cell? ⟨w.heap.size, 4, none⟩ = some (.int .i64 W) := by simpa using blk_cell hbkk 4
                have k5 : wc.cell? ⟨w.heap.size, 5, none⟩ = some (.int .i64 f) := by simpa using blk_cell hbkk 5
                have kz : w.heap.size < wc.heap.size := blk_lt hbkk
                clear hbkk
                obtain ⟨csx, hbkx, rfl⟩ := HBX
                have x0 : wc.cell? ⟨p10, 0, none⟩ = some (.int .u64 0) := by simpa using blk_cell hbkx 0
                have xf0 : wc.frozen? ⟨p10, 0, none⟩ = false := blk_frozen hbkx 0
                have x1 : wc.cell? ⟨p10, 1, none⟩ = some (.int .u64 G) := by simpa using blk_cell hbkx 1
                have xf1 : wc.frozen? ⟨p10, 1, none⟩ = false := blk_frozen hbkx 1
                have x2 : wc.cell? ⟨p10, 2, none⟩ = some (.int .u64 xh) := by simpa using blk_cell hbkx 2
                have xf2 : wc.frozen? ⟨p10, 2, none⟩ = false := blk_frozen hbkx 2
                have x3 : wc.cell? ⟨p10, 3, none⟩ = some (.int .u64 xl) := by simpa using blk_cell hbkx 3
                have xf3 : wc.frozen? ⟨p10, 3, none⟩ = false := blk_frozen hbkx 3
                have xz : p10 < wc.heap.size := blk_lt hbkx
                clear hbkx
                obtain ⟨cs5, hbk5, rfl⟩ := HB5
                have d0 : wc.cell? ⟨p5, 0, none⟩ = some (.int .i64 f) := by simpa using blk_cell hbk5 0
                have df0 : wc.frozen? ⟨p5, 0, none⟩ = false := blk_frozen hbk5 0
                have d1 : wc.cell? ⟨p5, 1, none⟩ = some (.int .i64 1) := by simpa using blk_cell hbk5 1
                have df1 : wc.frozen? ⟨p5, 1, none⟩ = false := blk_frozen hbk5 1
                have d2 : wc.cell? ⟨p5, 2, none⟩ = some (.bool ng) := by simpa using blk_cell hbk5 2
                have df2 : wc.frozen? ⟨p5, 2, none⟩ = false := blk_frozen hbk5 2
                have d3 : wc.cell? ⟨p5, 3, none⟩ = some (.slice none 0 0) := by simpa using blk_cell hbk5 3
                have df3 : wc.frozen? ⟨p5, 3, none⟩ = false := blk_frozen hbk5 3
                have d4 : wc.cell? ⟨p5, 4, none⟩ = some (.int .i64 (L + G - 1)) := by simpa using blk_cell hbk5 4
                have df4 : wc.frozen? ⟨p5, 4, none⟩ = false := blk_frozen hbk5 4
                have dz : p5 < wc.heap.size := blk_lt hbk5
                clear hbk5
                obtain ⟨csr, hbkr, rfl⟩ := HBR
                have r0 : wc.cell? ⟨w.heap.size + 1 + 1, 0, none⟩ = some (.int .i64 0) := by simpa using blk_cell hbkr 0
                have rf0 : wc.frozen? ⟨w.heap.size + 1 + 1, 0, none⟩ = false := blk_frozen hbkr 0
                have r1 : wc.cell? ⟨w.heap.size + 1 + 1, 1, none⟩ = some (.int .i64 0) := by simpa using blk_cell hbkr 1
                have rf1 : wc.frozen? ⟨w.heap.size + 1 + 1, 1, none⟩ = false := blk_frozen hbkr 1
                have r2 : wc.cell? ⟨w.heap.size + 1 + 1, 2, none⟩ = some (.bool false) := by simpa using blk_cell hbkr 2
                have rf2 : wc.frozen? ⟨w.heap.size + 1 + 1, 2, none⟩ = false := blk_frozen hbkr 2
                have r3 : wc.cell? ⟨w.heap.size + 1 + 1, 3, none⟩ = some (.slice none 0 0) := by simpa using blk_cell hbkr 3
                have rf3 : wc.frozen? ⟨w.heap.size + 1 + 1, 3, none⟩ = false := blk_frozen hbkr 3
                have r4 : wc.cell? ⟨w.heap.size + 1 + 1, 4, none⟩ = some (.int .i64 0) := by simpa using blk_cell hbkr 4
                have rf4 : wc.frozen? ⟨w.heap.size + 1 + 1, 4, none⟩ = false := blk_frozen hbkr 4
                have rz : w.heap.size + 1 + 1 < wc.heap.size := blk_lt hbkr
                clear hbkr
                have dz1 : p5 < wc.heap.size + 1 := by omega
                have rz1 : w.heap.size + 1 + 1 < wc.heap.size + 1 := by omega
                have kz1 : w.heap.size < wc.heap.size + 1 := by omega
                have uz1 : w.heap.size + 1 < wc.heap.size + 1 := by omega
                clear dz1 rz1 kz1 uz1
                go_upto_region 18 with fail
                go_region_with (first | (go_at_call 100; (with_reducible refine (HSH.out _).mono ?_); rintro e w5 ⟨h5, l5, rfl, hw5, b5⟩; obtain ⟨hc5, hf5⟩ := bcell b5; (try simp only [dr_size, dr_cell] at hc5); (try simp only [dr_size, dr_frozen] at hf5); have hz5 := below_size b5; (try simp at hz5); (try have z05 : w.heap.size < w5.heap.size := (by omega)); (try have z15 : w.heap.size + 1 < w5.heap.size := (by omega)); (try have z25 : w.heap.size + 1 + 1 < w5.heap.size := (by omega)); (try have ywc5 : wc.heap.size < w5.heap.size := (by omega)); (try have yp55 : p5 < w5.heap.size := (by omega)); (try have yp105 : p10 < w5.heap.size := (by omega))) | (go_at_call 102; (with_reducible refine (HOR.out _ _ _ _ _ HWX hw5).mono ?_); rintro e w6 ⟨h6, l6, rfl, hw6, b6⟩; obtain ⟨hc6, hf6⟩ := bcell b6; (try simp only [dr_size, dr_cell] at hc6); (try simp only [dr_size, dr_frozen] at hf6); have hz6 := below_size b6; (try simp at hz6); (try have z06 : w.heap.size < w6.heap.size := (by omega)); (try have z16 : w.heap.size + 1 < w6.heap.size := (by omega)); (try have z26 : w.heap.size + 1 + 1 < w6.heap.size := (by omega)); (try have ywc6 : wc.heap.size < w6.heap.size := (by omega)); (try have yp56 : p5 < w6.heap.size := (by omega)); (try have yp106 : p10 < w6.heap.size := (by omega)); (try have yw56 : w5.heap.size < w6.heap.size := (by omega))))
                all_goals
                  go_wp2_with (first | (go_at_call 108; (with_reducible refine (HNAT.out _ _ _ _ hw6).mono ?_); rintro e w7 ⟨v7, rfl, hv7, b7⟩; obtain ⟨A7, c7, rfl⟩ := Kd.R_slice hv7; have HV7 := Lib.hid hv7; clear hv7; obtain ⟨hc7, hf7⟩ := bcell b7; (try simp only [dr_size, dr_cell] at hc7); (try simp only [dr_size, dr_frozen] at hf7); have hz7 := below_size b7; (try simp at hz7); (try have z07 : w.heap.size < w7.heap.size := (by omega)); (try have z17 : w.heap.size + 1 < w7.heap.size := (by omega)); (try have z27 : w.heap.size + 1 + 1 < w7.heap.size := (by omega)); (try have ywc7 : wc.heap.size < w7.heap.size := (by omega)); (try have yp107 : p10 < w7.heap.size := (by omega)); (try have yp57 : p5 < w7.heap.size := (by omega)); (try have yw67 : w6.heap.size < w7.heap.size := (by omega))))
                  exact bodyPost_ret (v := .agg #[.int .i64 f, .int .i64 1, .bool ng, .slice A7 (ofN (R + 2 ^ on)).length c7, .int .i64 (L + G - 1)]) (by simp [results, Tryz.results74, go_sem, *]) rfl ⟨_, rfl, Kd.R_lower (R_chg (S := fun k => k = p5 ∨ k = w.heap.size + 1 + 1) HV7.out chg2 (by intro k hk; (try simp at hk ⊢); omega)) (by first | omega | (simp; omega)), bel⟩
end Go.Proofs.YtacnkcojhlbkoaaGreatDoor
