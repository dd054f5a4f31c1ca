/- The law BinaryValues: its walk: what its calls return makes it answer true. Written by this session's own program (wip/tools/xprint.sh) for the law Half: what the law's functions compute, and that the machine does so, given the contracts of the program's functions. Written by this session's own program (wip/tools/xprint.sh) for the law Half: what the law's functions compute, and that the machine does so, given the contracts of the program's functions. -/
import Derived.Test.YtacnkcojhlbkoaaGreatDoorJVal25
import Derived.Test.YtacnkcojhlbkoaaGreatDoorJVal10
import Derived.Test.YtacnkcojhlbkoaaGreatDoorJVal29
import Derived.Test.YtacnkcojhlbkoaaGreatDoorProg
import Derived.Below
import Derived.Deep.Draws
import Derived.Deep.AppendLies
import Derived.Maps.AppendAt
import Derived.OwnWalk
import Derived.Laws.BytesArg
import Derived.Laws.MakeOwn
import Derived.Laws.OwnMore
import Derived.Deep.OwnRows
import Derived.Tactics
import Derived.Lib.ConvBytes
import Derived.Laws.Slices
import Derived.WalkKit
import Derived.KernelRfl
import Derived.RowKit3
import Derived.Deep.LoopGhost
import Derived.Deep.QuietTactic
import Derived.BigQuiet
import Derived.WideLaws
import Derived.Deep.DeepCutAuto
import Derived.Deep.CutBlock
import Derived.Deep.RegionHeld3
import Derived.Laws.Rows
import Derived.Lib.AppendStr
import Derived.ArgAppend
import Derived.Laws.IdiomCopy
import Derived.OrdersHeld
import Derived.Laws.BitsLemmas
import Derived.RowKit
import Derived.Test.YtacnkcojhlbkoaaGreatDoorJVal16
import Derived.Test.YtacnkcojhlbkoaaGreatDoorJVal0
import Derived.Test.YtacnkcojhlbkoaaGreatDoorJVal1
import Derived.Test.YtacnkcojhlbkoaaGreatDoorJVal2
import Derived.Test.YtacnkcojhlbkoaaGreatDoorJVal17
set_option linter.unusedSimpArgs false
set_option linter.unusedVariables false
set_option linter.unnecessarySimpa false
namespace Go.Proofs.YtacnkcojhlbkoaaGreatDoor
open Go.RowKit Go.Proofs.YtacnkcojhlbkoaaGreatDoorW.PrintWords Go.Proofs.YtacnkcojhlbkoaaGreatDoorW.PrintLast Go.Proofs.YtacnkcojhlbkoaaGreatDoorW.PrintMore Go.Proofs.YtacnkcojhlbkoaaGreatDoor.NL
set_option maxRecDepth 100000
set_option exponentiation.threshold 33000

theorem light_two_at {A0 A1 : Option Addr} {c0 c1 : Nat} {l0 l1 : List Int} {r : Bool} (W : World) (t : TypeId) (g : Nat) (hg : g = W.heap.size) (h : light2 l0 l1 = some r) :
    Calls Tryz.prog 5 #[.slice (some ⟨g, 0, none⟩) 2 2] (W.alloc (.cells #[.slice A0 l0.length c0, .slice A1 l1.length c1] t)) fun e w' => e = .returned (.bool r) ∧ Below (W.alloc (.cells #[.slice A0 l0.length c0, .slice A1 l1.length c1] t)).heap.size (W.alloc (.cells #[.slice A0 l0.length c0, .slice A1 l1.length c1] t)) w' := by
  subst hg
  exact light_two W t h
theorem cut_k {P : Program} {K : Act → World → Prop} {s : Code} {Q : Exit → Act → World → Prop} {a : Act} {w : World} (h : ∀ a w, Code.wp P s Q a w → K a w) (g : Code.wp P s Q a w) : K a w := h a w g
set_option maxHeartbeats 4000000 in
theorem vals_long {f cl ex n : Int} {ng ni : Bool} {A B : Option Addr} {c d : Nat} {l m : List Int} (w : World) (hli : light2 l m = some false) (hT : Tab w)
    (HSa : Hid (∀ w', Tab w' → Calls Tryz.prog 6 #[] w' fun e w'' => e = .returned (.bool true) ∧ Below w'.heap.size w' w'')) :
    Calls Tryz.prog 4 #[dV f cl ng A l.length c ex, .int .i64 n, .agg #[.bool ni, .slice B m.length d]] w fun e w' => e = .returned (.bool true) ∧ Below w.heap.size w w' := by
  have HLI := Lib.hid hli
  have HT := Lib.hid hT
  clear hli hT
  go_enter Tryz.func4, Tryz.ntmps4
  go_wp2_with (first | fail | (go_at_call 5; (with_reducible refine (light_two_at _ _ _ (by first | rfl | (simp; done)) HLI.out).mono ?_); rintro e w1 ⟨rfl, b1⟩; obtain ⟨hc1, hf1⟩ := bcell b1; have hz1 := below_size b1; (try simp at hz1); have zz1_0 : w.heap.size < w1.heap.size := (by omega); have zz1_1 : w.heap.size + 1 < w1.heap.size := (by omega)) | (go_at_call 6; (with_reducible refine (HSa.out _ (HT.out.below bel)).mono ?_); rintro e w2 ⟨rfl, b2⟩; obtain ⟨hc2, hf2⟩ := bcell b2; have hz2 := below_size b2; (try simp at hz2)))
  all_goals
    go_ret
    exact ⟨by simp, bel⟩
set_option maxHeartbeats 16000000 in
theorem vals_walk {f cl ex n v3 ve ie a1 a2 a5 ae t1 t2 t5 : Int} {ng ni v1 i1 a3 bf bv t3 t6 d1 d2 vb : Bool} {A B : Option Addr} {c d : Nat} {l m v2 i2 a4 t4 : List Int} (w : World)
    (hA : Kd.C (Kd.int .u32) w A l.length l) (hAc : l.length ≤ c) (hB : Kd.C (Kd.int .u32) w B m.length m) (hBc : m.length ≤ d) (hli : light2 l m = some true) (hT : Tab w)
    (HSa : Hid (∀ w', Tab w' → Calls Tryz.prog 6 #[] w' fun e w'' => e = .returned (.bool true) ∧ Below w'.heap.size w' w''))
    (HVl : Hid (∀ w', Tab w' → Kd.C (Kd.int .u32) w' A l.length l → Calls Tryz.prog 21 #[dV f cl ng A l.length c ex] w' fun e w'' => ∃ v, e = .returned (.tuple #[.agg #[.bool v1, v, .int .i64 v3], .int .i64 ve]) ∧ Kd.R (Kd.int .u32) 40 w'' w'.heap.size (fun _ => True) v v2 ∧ Below w'.heap.size w' w''))
    (HIx : Hid (∀ w', Kd.C (Kd.int .u32) w' A l.length l → Calls Tryz.prog 22 #[dV f cl ng A l.length c ex] w' fun e w'' => ∃ v, e = .returned (.tuple #[.agg #[.bool i1, v], .int .i64 ie]) ∧ Kd.R (Kd.int .u32) 40 w'' w'.heap.size (fun _ => True) v i2 ∧ Below w'.heap.size w' w''))
    (HAt : Hid (∀ w', Kd.C (Kd.int .u32) w' B m.length m → Calls Tryz.prog 23 #[.int .i64 n, .agg #[.bool ni, .slice B m.length d]] w' (DatumE a1 a2 a3 a4 a5 ae w')))
    (HIF : Hid (∀ w', Calls Tryz.prog 16 #[.int .i64 n] w' fun e w'' => e = .returned (.bool bf) ∧ Below w'.heap.size w' w''))
    (HVI : Hid (∀ w', Kd.C (Kd.int .u32) w' B m.length m → Calls Tryz.prog 24 #[.agg #[.bool ni, .slice B m.length d]] w' fun e w'' => e = .returned (.bool bv) ∧ Below w'.heap.size w' w''))
    (HX : ((bf = false ∨ bf = true ∧ bv = false) ∧ ae = 1 ∧ Hid (∀ A c w', Kd.C (Kd.int .u32) w' A a4.length a4 → a4.length ≤ c → Calls Tryz.prog 10 #[.agg #[.int .i64 a1, .int .i64 a2, .bool a3, .slice A a4.length c, .int .i64 a5], .agg #[.int .i64 0, .int .i64 0, .bool false, .slice none 0 0, .int .i64 0]] w' fun e w'' => e = .returned (.bool true) ∧ Below w'.heap.size w' w'')) ∨ (bf = true ∧ bv = true ∧ Hid (∀ w', Kd.C (Kd.int .u32) w' B m.length m → Calls Tryz.prog 25 #[.int .i64 n, .agg #[.bool ni, .slice B m.length d]] w' fun e w'' => ∃ v, e = .returned (.agg #[.int .i64 t1, .int .i64 t2, .bool t3, v, .int .i64 t5, .bool t6]) ∧ Kd.R (Kd.int .u32) 40 w'' w'.heap.size (fun _ => True) v t4 ∧ Below w'.heap.size w' w'') ∧ Hid (∀ A c A' c' w', Kd.C (Kd.int .u32) w' A a4.length a4 → a4.length ≤ c → Kd.C (Kd.int .u32) w' A' t4.length t4 → t4.length ≤ c' → Calls Tryz.prog 18 #[.agg #[.int .i64 a1, .int .i64 a2, .bool a3, .slice A a4.length c, .int .i64 a5], .int .i64 ae, .agg #[.int .i64 t1, .int .i64 t2, .bool t3, .slice A' t4.length c', .int .i64 t5, .bool t6], .int .i64 3] w' fun e w'' => e = .returned (.bool true) ∧ Below w'.heap.size w' w'')))
    (HSd : Hid (∀ A c w', Kd.C (Kd.int .u32) w' A v2.length v2 → v2.length ≤ c → Calls Tryz.prog 26 #[.agg #[.bool v1, .slice A v2.length c, .int .i64 v3], .agg #[.bool false, .slice none 0 0, .int .i64 0]] w' fun e w'' => e = .returned (.bool d1) ∧ Below w'.heap.size w' w''))
    (HSi : Hid (∀ A c w', Kd.C (Kd.int .u32) w' A i2.length i2 → i2.length ≤ c → Calls Tryz.prog 27 #[.agg #[.bool i1, .slice A i2.length c], .agg #[.bool false, .slice none 0 0]] w' fun e w'' => e = .returned (.bool d2) ∧ Below w'.heap.size w' w''))
    (HVa : Hid (∀ w', Kd.C (Kd.int .u32) w' A l.length l → Calls Tryz.prog 7 #[dV f cl ng A l.length c ex] w' fun e w'' => e = .returned (.bool vb) ∧ Below w'.heap.size w' w''))
    (HD : (vb = false ∧ ve = 1 ∧ ie = 1 ∧ d1 = true ∧ d2 = true) ∨ (vb = true ∧ (cl = 3 ∨ cl = 4) ∧ ve = 5 ∧ ie = 5 ∧ d1 = true ∧ d2 = true) ∨ (vb = true ∧ cl = 2 ∧ ve = 5 ∧ ie = 0 ∧ d1 = true ∧ Hid (∀ w', Kd.C (Kd.int .u32) w' A l.length l → Calls Tryz.prog 28 #[dV f cl ng A l.length c ex] w' fun e w'' => ∃ v, e = .returned (.agg #[.bool i1, v]) ∧ Kd.R (Kd.int .u32) 40 w'' w'.heap.size (fun _ => True) v i2 ∧ Below w'.heap.size w' w'') ∧ Hid (∀ A c A' c' w', Kd.C (Kd.int .u32) w' A i2.length i2 → i2.length ≤ c → Kd.C (Kd.int .u32) w' A' i2.length i2 → i2.length ≤ c' → Calls Tryz.prog 27 #[.agg #[.bool i1, .slice A i2.length c], .agg #[.bool i1, .slice A' i2.length c']] w' fun e w'' => e = .returned (.bool true) ∧ Below w'.heap.size w' w'')) ∨ (vb = true ∧ cl = 1 ∧ ve = 0 ∧ ie = 0 ∧ Hid (∀ w', Kd.C (Kd.int .u32) w' A l.length l → Calls Tryz.prog 28 #[dV f cl ng A l.length c ex] w' fun e w'' => ∃ v, e = .returned (.agg #[.bool i1, v]) ∧ Kd.R (Kd.int .u32) 40 w'' w'.heap.size (fun _ => True) v i2 ∧ Below w'.heap.size w' w'') ∧ Hid (∀ A c A' c' w', Kd.C (Kd.int .u32) w' A i2.length i2 → i2.length ≤ c → Kd.C (Kd.int .u32) w' A' i2.length i2 → i2.length ≤ c' → Calls Tryz.prog 27 #[.agg #[.bool i1, .slice A i2.length c], .agg #[.bool i1, .slice A' i2.length c']] w' fun e w'' => e = .returned (.bool true) ∧ Below w'.heap.size w' w'') ∧ Hid (∀ w', Kd.C (Kd.int .u32) w' A l.length l → Calls Tryz.prog 29 #[dV f cl ng A l.length c ex] w' fun e w'' => ∃ v, e = .returned (.agg #[.bool v1, v, .int .i64 v3]) ∧ Kd.R (Kd.int .u32) 40 w'' w'.heap.size (fun _ => True) v v2 ∧ Below w'.heap.size w' w'') ∧ Hid (∀ A c A' c' w', Kd.C (Kd.int .u32) w' A v2.length v2 → v2.length ≤ c → Kd.C (Kd.int .u32) w' A' v2.length v2 → v2.length ≤ c' → Calls Tryz.prog 26 #[.agg #[.bool v1, .slice A v2.length c, .int .i64 v3], .agg #[.bool v1, .slice A' v2.length c', .int .i64 v3]] w' fun e w'' => e = .returned (.bool true) ∧ Below w'.heap.size w' w''))) :
    Calls Tryz.prog 4 #[dV f cl ng A l.length c ex, .int .i64 n, .agg #[.bool ni, .slice B m.length d]] w fun e w' => e = .returned (.bool true) ∧ Below w.heap.size w w' := by
  have HC0 := Lib.hid hA
  have HD0 := Lib.hid hB
  have HLI := Lib.hid hli
  have HT := Lib.hid hT
  clear hA hB hli hT
  go_enter Tryz.func4, Tryz.ntmps4
  go_upto_region 5 with (first | fail | (go_at_call 5; (with_reducible refine (light_two_at _ _ _ (by first | rfl | (simp; done)) HLI.out).mono ?_); rintro e w1 ⟨rfl, b1⟩; obtain ⟨hc1, hf1⟩ := bcell b1; have hz1 := below_size b1; (try simp at hz1); have zz1_0 : w.heap.size < w1.heap.size := (by omega); have zz1_1 : w.heap.size + 1 < w1.heap.size := (by omega)) | (go_at_call 21; (with_reducible refine (HVl.out _ (HT.out.below bel) (Kd.C_below HC0.out bel)).mono ?_); rintro e w2 ⟨v2, rfl, hv2, b2⟩; obtain ⟨A2, c2, rfl⟩ := Kd.R_slice hv2; have HC2 := Lib.hid (R_C hv2); clear hv2; obtain ⟨hc2, hf2⟩ := bcell b2; have hz2 := below_size b2; (try simp at hz2); have zz2_0 : w.heap.size < w2.heap.size := (by omega); have zz2_1 : w.heap.size + 1 < w2.heap.size := (by omega)) | (go_at_call 22; (with_reducible refine (HIx.out _ (Kd.C_below HC0.out bel)).mono ?_); rintro e w3 ⟨v3, rfl, hv3, b3⟩; obtain ⟨A3, c3, rfl⟩ := Kd.R_slice hv3; have HC3 := Lib.hid (R_C hv3); clear hv3; obtain ⟨hc3, hf3⟩ := bcell b3; have hz3 := below_size b3; (try simp at hz3); have zz3_0 : w.heap.size < w3.heap.size := (by omega); have zz3_1 : w.heap.size + 1 < w3.heap.size := (by omega); have zz3_2 : w2.heap.size < w3.heap.size := (by omega)) | (go_at_call 23; (with_reducible refine (HAt.out _ (Kd.C_below HD0.out bel)).mono ?_); rintro e w4 ⟨v4, rfl, hv4, b4⟩; obtain ⟨A4, c4, rfl⟩ := Kd.R_slice hv4; have HC4 := Lib.hid (R_C hv4); clear hv4; obtain ⟨hc4, hf4⟩ := bcell b4; have hz4 := below_size b4; (try simp at hz4); have zz4_0 : w.heap.size < w4.heap.size := (by omega); have zz4_1 : w.heap.size + 1 < w4.heap.size := (by omega); have zz4_2 : w2.heap.size < w4.heap.size := (by omega); have zz4_3 : w3.heap.size < w4.heap.size := (by omega)))
  go_cut [3, 5, 7, 8, 9, 10, 11, 12] (fun v_3 v_5 v_7 v_8 v_9 v_10 v_11 v_12 wx => ∃ (p7 p9 p11 : Nat) (A1 A2 A3 : Option Addr) (c1 c2 c3 : Nat), v_3 = .pointer (some ⟨w.heap.size, 0, none⟩) ∧ BlkIs wx w.heap.size 25 (· = #[.int .i64 f, .int .i64 cl, .bool ng, .slice A l.length c, .int .i64 ex]) ∧ v_5 = .pointer (some ⟨(w.heap.size + 1), 0, none⟩) ∧ BlkIs wx (w.heap.size + 1) 48 (· = #[.bool ni, .slice B m.length d]) ∧ v_7 = .pointer (some ⟨p7, 0, none⟩) ∧ BlkIs wx p7 50 (· = #[.bool v1, .slice A1 v2.length c1, .int .i64 v3]) ∧ Hid (Kd.C (Kd.int .u32) wx A1 v2.length v2 ∧ v2.length ≤ c1) ∧ v_8 = .int .i64 ve ∧ v_9 = .pointer (some ⟨p9, 0, none⟩) ∧ BlkIs wx p9 48 (· = #[.bool i1, .slice A2 i2.length c2]) ∧ Hid (Kd.C (Kd.int .u32) wx A2 i2.length i2 ∧ i2.length ≤ c2) ∧ v_10 = .int .i64 ie ∧ v_11 = .pointer (some ⟨p11, 0, none⟩) ∧ BlkIs wx p11 25 (· = #[.int .i64 a1, .int .i64 a2, .bool a3, .slice A3 a4.length c3, .int .i64 a5]) ∧ Hid (Kd.C (Kd.int .u32) wx A3 a4.length a4 ∧ a4.length ≤ c3) ∧ v_12 = .int .i64 ae ∧ Below w.heap.size w wx)
  case first =>
    go_wp2_with (first | fail | (go_at_call 5; (with_reducible refine (light_two_at _ _ _ (by first | rfl | (simp; done)) HLI.out).mono ?_); rintro e w1 ⟨rfl, b1⟩; obtain ⟨hc1, hf1⟩ := bcell b1; have hz1 := below_size b1; (try simp at hz1); have zz1_0 : w.heap.size < w1.heap.size := (by omega); have zz1_1 : w.heap.size + 1 < w1.heap.size := (by omega)) | (go_at_call 21; (with_reducible refine (HVl.out _ (HT.out.below bel) (Kd.C_below HC0.out bel)).mono ?_); rintro e w2 ⟨v2, rfl, hv2, b2⟩; obtain ⟨A2, c2, rfl⟩ := Kd.R_slice hv2; have HC2 := Lib.hid (R_C hv2); clear hv2; obtain ⟨hc2, hf2⟩ := bcell b2; have hz2 := below_size b2; (try simp at hz2); have zz2_0 : w.heap.size < w2.heap.size := (by omega); have zz2_1 : w.heap.size + 1 < w2.heap.size := (by omega)) | (go_at_call 22; (with_reducible refine (HIx.out _ (Kd.C_below HC0.out bel)).mono ?_); rintro e w3 ⟨v3, rfl, hv3, b3⟩; obtain ⟨A3, c3, rfl⟩ := Kd.R_slice hv3; have HC3 := Lib.hid (R_C hv3); clear hv3; obtain ⟨hc3, hf3⟩ := bcell b3; have hz3 := below_size b3; (try simp at hz3); have zz3_0 : w.heap.size < w3.heap.size := (by omega); have zz3_1 : w.heap.size + 1 < w3.heap.size := (by omega); have zz3_2 : w2.heap.size < w3.heap.size := (by omega)) | (go_at_call 23; (with_reducible refine (HAt.out _ (Kd.C_below HD0.out bel)).mono ?_); rintro e w4 ⟨v4, rfl, hv4, b4⟩; obtain ⟨A4, c4, rfl⟩ := Kd.R_slice hv4; have HC4 := Lib.hid (R_C hv4); clear hv4; obtain ⟨hc4, hf4⟩ := bcell b4; have hz4 := below_size b4; (try simp at hz4); have zz4_0 : w.heap.size < w4.heap.size := (by omega); have zz4_1 : w.heap.size + 1 < w4.heap.size := (by omega); have zz4_2 : w2.heap.size < w4.heap.size := (by omega); have zz4_3 : w3.heap.size < w4.heap.size := (by omega)))
    go_meet
    exact ⟨_, _, _, _, _, _, _, _, _, rfl, blk0, rfl, blk0, rfl, blk0, Lib.hid ⟨Kd.C_below HC2.out.1 bel, HC2.out.2⟩, rfl, rfl, blk0, Lib.hid ⟨Kd.C_below HC3.out.1 bel, HC3.out.2⟩, rfl, rfl, blk0, Lib.hid ⟨Kd.C_below HC4.out.1 bel, HC4.out.2⟩, rfl, bel⟩
  case rest =>
    skip
    obtain ⟨p7, p9, p11, A1, A2, A3, c1, c2, c3, rfl, HBD, rfl, HBX, rfl, HBV, HXV, rfl, rfl, HBI, HXI, rfl, rfl, HBT, HXT, rfl, hbw⟩ := hcut
    obtain ⟨csD, hbkD, rfl⟩ := HBD
    obtain ⟨csX, hbkX, rfl⟩ := HBX
    obtain ⟨csV, hbkV, rfl⟩ := HBV
    obtain ⟨csI, hbkI, rfl⟩ := HBI
    obtain ⟨csT, hbkT, rfl⟩ := HBT
    have d_0 : wc.cell? ⟨w.heap.size, 0, none⟩ = some (.int .i64 f) := by simpa using blk_cell hbkD 0
    have d_1 : wc.cell? ⟨w.heap.size, 1, none⟩ = some (.int .i64 cl) := by simpa using blk_cell hbkD 1
    have d_2 : wc.cell? ⟨w.heap.size, 2, none⟩ = some (.bool ng) := by simpa using blk_cell hbkD 2
    have d_3 : wc.cell? ⟨w.heap.size, 3, none⟩ = some (.slice A l.length c) := by simpa using blk_cell hbkD 3
    have d_4 : wc.cell? ⟨w.heap.size, 4, none⟩ = some (.int .i64 ex) := by simpa using blk_cell hbkD 4
    have d_z : w.heap.size < wc.heap.size := blk_lt hbkD
    have x_0 : wc.cell? ⟨(w.heap.size + 1), 0, none⟩ = some (.bool ni) := by simpa using blk_cell hbkX 0
    have x_1 : wc.cell? ⟨(w.heap.size + 1), 1, none⟩ = some (.slice B m.length d) := by simpa using blk_cell hbkX 1
    have x_z : (w.heap.size + 1) < wc.heap.size := blk_lt hbkX
    have v_0 : wc.cell? ⟨p7, 0, none⟩ = some (.bool v1) := by simpa using blk_cell hbkV 0
    have v_1 : wc.cell? ⟨p7, 1, none⟩ = some (.slice A1 v2.length c1) := by simpa using blk_cell hbkV 1
    have v_2 : wc.cell? ⟨p7, 2, none⟩ = some (.int .i64 v3) := by simpa using blk_cell hbkV 2
    have v_z : p7 < wc.heap.size := blk_lt hbkV
    have i_0 : wc.cell? ⟨p9, 0, none⟩ = some (.bool i1) := by simpa using blk_cell hbkI 0
    have i_1 : wc.cell? ⟨p9, 1, none⟩ = some (.slice A2 i2.length c2) := by simpa using blk_cell hbkI 1
    have i_z : p9 < wc.heap.size := blk_lt hbkI
    have t_0 : wc.cell? ⟨p11, 0, none⟩ = some (.int .i64 a1) := by simpa using blk_cell hbkT 0
    have t_1 : wc.cell? ⟨p11, 1, none⟩ = some (.int .i64 a2) := by simpa using blk_cell hbkT 1
    have t_2 : wc.cell? ⟨p11, 2, none⟩ = some (.bool a3) := by simpa using blk_cell hbkT 2
    have t_3 : wc.cell? ⟨p11, 3, none⟩ = some (.slice A3 a4.length c3) := by simpa using blk_cell hbkT 3
    have t_4 : wc.cell? ⟨p11, 4, none⟩ = some (.int .i64 a5) := by simpa using blk_cell hbkT 4
    have t_z : p11 < wc.heap.size := blk_lt hbkT
    refine cut_k (P := Tryz.prog) (by assumption) ?_
    refine wp_seq_k (fun K_ hK_ => ?_)
    go_cut [3, 7, 8, 9, 10] (fun v_3 v_7 v_8 v_9 v_10 wx => ∃ (p7 p9 : Nat) (A1 A2 : Option Addr) (c1 c2 : Nat), v_3 = .pointer (some ⟨w.heap.size, 0, none⟩) ∧ BlkIs wx w.heap.size 25 (· = #[.int .i64 f, .int .i64 cl, .bool ng, .slice A l.length c, .int .i64 ex]) ∧ v_7 = .pointer (some ⟨p7, 0, none⟩) ∧ BlkIs wx p7 50 (· = #[.bool v1, .slice A1 v2.length c1, .int .i64 v3]) ∧ Hid (Kd.C (Kd.int .u32) wx A1 v2.length v2 ∧ v2.length ≤ c1) ∧ v_8 = .int .i64 ve ∧ v_9 = .pointer (some ⟨p9, 0, none⟩) ∧ BlkIs wx p9 48 (· = #[.bool i1, .slice A2 i2.length c2]) ∧ Hid (Kd.C (Kd.int .u32) wx A2 i2.length i2 ∧ i2.length ≤ c2) ∧ v_10 = .int .i64 ie ∧ Below w.heap.size w wx)
    case first =>
      rcases HX with ⟨h, rfl, HSt⟩ | ⟨rfl, rfl, HRt, HIs⟩
      · rcases h with rfl | ⟨rfl, rfl⟩
        all_goals
          go_wp2_with (first | fail | (go_at_call 16; (with_reducible refine (HIF.out _).mono ?_); rintro e w21 ⟨rfl, b21⟩; obtain ⟨hc21, hf21⟩ := bcell b21; have hz21 := below_size b21; (try simp at hz21); have zz21_0 : w.heap.size < w21.heap.size := (by omega); have zz21_1 : w.heap.size + 1 < w21.heap.size := (by omega); have zz21_2 : p7 < w21.heap.size := (by omega); have zz21_3 : p9 < w21.heap.size := (by omega); have zz21_4 : p11 < w21.heap.size := (by omega)) | (go_at_call 24; (with_reducible refine (HVI.out _ (Kd.C_below HD0.out bel)).mono ?_); rintro e w22 ⟨rfl, b22⟩; obtain ⟨hc22, hf22⟩ := bcell b22; have hz22 := below_size b22; (try simp at hz22); have zz22_0 : w.heap.size < w22.heap.size := (by omega); have zz22_1 : w.heap.size + 1 < w22.heap.size := (by omega); have zz22_2 : p7 < w22.heap.size := (by omega); have zz22_3 : p9 < w22.heap.size := (by omega); have zz22_4 : p11 < w22.heap.size := (by omega)) | (go_at_call 10; (with_reducible refine (HSt.out _ _ _ (Kd.C_below HXT.out.1 bel) HXT.out.2).mono ?_); rintro e w23 ⟨rfl, b23⟩; obtain ⟨hc23, hf23⟩ := bcell b23; have hz23 := below_size b23; (try simp at hz23); have zz23_0 : w.heap.size < w23.heap.size := (by omega); have zz23_1 : w.heap.size + 1 < w23.heap.size := (by omega); have zz23_2 : p7 < w23.heap.size := (by omega); have zz23_3 : p9 < w23.heap.size := (by omega); have zz23_4 : p11 < w23.heap.size := (by omega)))
          go_meet
          exact ⟨_, _, _, _, _, _, rfl, blk1, rfl, blk1, Lib.hid ⟨Kd.C_below HXV.out.1 bel, HXV.out.2⟩, rfl, rfl, blk1, Lib.hid ⟨Kd.C_below HXI.out.1 bel, HXI.out.2⟩, rfl, bel⟩
      · go_wp2_with (first | fail | (go_at_call 16; (with_reducible refine (HIF.out _).mono ?_); rintro e w21 ⟨rfl, b21⟩; obtain ⟨hc21, hf21⟩ := bcell b21; have hz21 := below_size b21; (try simp at hz21); have zz21_0 : w.heap.size < w21.heap.size := (by omega); have zz21_1 : w.heap.size + 1 < w21.heap.size := (by omega); have zz21_2 : p7 < w21.heap.size := (by omega); have zz21_3 : p9 < w21.heap.size := (by omega); have zz21_4 : p11 < w21.heap.size := (by omega)) | (go_at_call 24; (with_reducible refine (HVI.out _ (Kd.C_below HD0.out bel)).mono ?_); rintro e w22 ⟨rfl, b22⟩; obtain ⟨hc22, hf22⟩ := bcell b22; have hz22 := below_size b22; (try simp at hz22); have zz22_0 : w.heap.size < w22.heap.size := (by omega); have zz22_1 : w.heap.size + 1 < w22.heap.size := (by omega); have zz22_2 : p7 < w22.heap.size := (by omega); have zz22_3 : p9 < w22.heap.size := (by omega); have zz22_4 : p11 < w22.heap.size := (by omega)))
        go_region_held3 (fun w' => Below (w22).heap.size (w22) w' ∧ ∀ b o, b < (w22).heap.size → w'.cell? ⟨b, o, none⟩ = (w22).cell? ⟨b, o, none⟩) (first | ((try go_split_ands); refine below_S ?_; ((repeat (first | with_reducible assumption | with_reducible exact Below.refl _ _ | with_reducible refine below_alloc ?_ _ | with_reducible refine pw_below_drewN ?_ _ | with_reducible refine below_drew1 ?_ | ((with_reducible refine below_set ?_ ?hle); (case hle => first | (simp; done) | omega | (simp; omega))) | with_reducible refine below_step ?_ (by with_reducible assumption))); done))) (first | (go_at_call 25; (with_reducible refine (HRt.out _ (Kd.C_below HD0.out bel)).mono ?_); rintro e w24 ⟨v24, rfl, hv24, b24⟩; obtain ⟨A24, c24, rfl⟩ := Kd.R_slice hv24; have HC24 := Lib.hid (R_C hv24); clear hv24; obtain ⟨hc24, hf24⟩ := bcell b24; (try simp only [dr_size, dr_cell] at hc24); (try simp only [dr_size, dr_frozen] at hf24); have hz24 := below_size b24; (try simp at hz24); have zz24_0 : w.heap.size < w24.heap.size := (by omega); have zz24_1 : w.heap.size + 1 < w24.heap.size := (by omega); have zz24_2 : p7 < w24.heap.size := (by omega); have zz24_3 : p9 < w24.heap.size := (by omega); have zz24_4 : p11 < w24.heap.size := (by omega)) | (go_at_call 18; (with_reducible refine (HIs.out _ _ _ _ _ (Kd.C_below HXT.out.1 bel) HXT.out.2 (Kd.C_below HC24.out.1 bel) HC24.out.2).mono ?_); rintro e w25 ⟨rfl, b25⟩; obtain ⟨hc25, hf25⟩ := bcell b25; (try simp only [dr_size, dr_cell] at hc25); (try simp only [dr_size, dr_frozen] at hf25); have hz25 := below_size b25; (try simp at hz25); have zz25_0 : w.heap.size < w25.heap.size := (by omega); have zz25_1 : w.heap.size + 1 < w25.heap.size := (by omega); have zz25_2 : p7 < w25.heap.size := (by omega); have zz25_3 : p9 < w25.heap.size := (by omega); have zz25_4 : p11 < w25.heap.size := (by omega)))
        all_goals
          go_wp2_with fail
          go_meet
          exact ⟨_, _, _, _, _, _, rfl, blk1, rfl, blk1, Lib.hid ⟨Kd.C_below HXV.out.1 bel, HXV.out.2⟩, rfl, rfl, blk1, Lib.hid ⟨Kd.C_below HXI.out.1 bel, HXI.out.2⟩, rfl, bel⟩
    case rest =>
      skip
      clear d_0 d_1 d_2 d_3 d_4 d_z x_0 x_1 x_z v_0 v_1 v_2 v_z i_0 i_1 i_z t_0 t_1 t_2 t_3 t_4 t_z hbkD hbkX hbkV hbkI hbkT
      obtain ⟨p7, p9, A1, A2, c1, c2, rfl, HBD, rfl, HBV, HXV, rfl, rfl, HBI, HXI, rfl, hbw⟩ := hcut
      obtain ⟨csD, hbkD, rfl⟩ := HBD
      obtain ⟨csV, hbkV, rfl⟩ := HBV
      obtain ⟨csI, hbkI, rfl⟩ := HBI
      have d_0 : wc.cell? ⟨w.heap.size, 0, none⟩ = some (.int .i64 f) := by simpa using blk_cell hbkD 0
      have d_1 : wc.cell? ⟨w.heap.size, 1, none⟩ = some (.int .i64 cl) := by simpa using blk_cell hbkD 1
      have d_2 : wc.cell? ⟨w.heap.size, 2, none⟩ = some (.bool ng) := by simpa using blk_cell hbkD 2
      have d_3 : wc.cell? ⟨w.heap.size, 3, none⟩ = some (.slice A l.length c) := by simpa using blk_cell hbkD 3
      have d_4 : wc.cell? ⟨w.heap.size, 4, none⟩ = some (.int .i64 ex) := by simpa using blk_cell hbkD 4
      have d_z : w.heap.size < wc.heap.size := blk_lt hbkD
      have v_0 : wc.cell? ⟨p7, 0, none⟩ = some (.bool v1) := by simpa using blk_cell hbkV 0
      have v_1 : wc.cell? ⟨p7, 1, none⟩ = some (.slice A1 v2.length c1) := by simpa using blk_cell hbkV 1
      have v_2 : wc.cell? ⟨p7, 2, none⟩ = some (.int .i64 v3) := by simpa using blk_cell hbkV 2
      have v_z : p7 < wc.heap.size := blk_lt hbkV
      have i_0 : wc.cell? ⟨p9, 0, none⟩ = some (.bool i1) := by simpa using blk_cell hbkI 0
      have i_1 : wc.cell? ⟨p9, 1, none⟩ = some (.slice A2 i2.length c2) := by simpa using blk_cell hbkI 1
      have i_z : p9 < wc.heap.size := blk_lt hbkI
      refine cut_k (P := Tryz.prog) (by assumption) ?_
      refine wp_seq_k (fun K_ hK_ => ?_)
      go_cut [3, 7, 8, 9, 10, 13] (fun v_3 v_7 v_8 v_9 v_10 v_13 wx => ∃ (p7 p9 : Nat) (A1 A2 : Option Addr) (c1 c2 : Nat), ∃ x13 : Bool, v_3 = .pointer (some ⟨w.heap.size, 0, none⟩) ∧ BlkIs wx w.heap.size 25 (· = #[.int .i64 f, .int .i64 cl, .bool ng, .slice A l.length c, .int .i64 ex]) ∧ v_7 = .pointer (some ⟨p7, 0, none⟩) ∧ BlkIs wx p7 50 (· = #[.bool v1, .slice A1 v2.length c1, .int .i64 v3]) ∧ Hid (Kd.C (Kd.int .u32) wx A1 v2.length v2 ∧ v2.length ≤ c1) ∧ v_8 = .int .i64 ve ∧ v_9 = .pointer (some ⟨p9, 0, none⟩) ∧ BlkIs wx p9 48 (· = #[.bool i1, .slice A2 i2.length c2]) ∧ Hid (Kd.C (Kd.int .u32) wx A2 i2.length i2 ∧ i2.length ≤ c2) ∧ v_10 = .int .i64 ie ∧ v_13 = .bool x13 ∧ (d1 = true → d2 = true → x13 = true) ∧ Below w.heap.size w wx)
      case first =>
        cases d1
        all_goals
          go_wp2_with (first | fail | (go_at_call 26; (with_reducible refine (HSd.out _ _ _ (Kd.C_below HXV.out.1 bel) HXV.out.2).mono ?_); rintro e w31 ⟨rfl, b31⟩; obtain ⟨hc31, hf31⟩ := bcell b31; have hz31 := below_size b31; (try simp at hz31); have zz31_0 : w.heap.size < w31.heap.size := (by omega); have zz31_1 : p7 < w31.heap.size := (by omega); have zz31_2 : p9 < w31.heap.size := (by omega)) | (go_at_call 27; (with_reducible refine (HSi.out _ _ _ (Kd.C_below HXI.out.1 bel) HXI.out.2).mono ?_); rintro e w32 ⟨rfl, b32⟩; obtain ⟨hc32, hf32⟩ := bcell b32; have hz32 := below_size b32; (try simp at hz32); have zz32_0 : w.heap.size < w32.heap.size := (by omega); have zz32_1 : p7 < w32.heap.size := (by omega); have zz32_2 : p9 < w32.heap.size := (by omega)))
          go_meet
          exact ⟨_, _, _, _, _, _, _, rfl, blk1, rfl, blk1, Lib.hid ⟨Kd.C_below HXV.out.1 bel, HXV.out.2⟩, rfl, rfl, blk1, Lib.hid ⟨Kd.C_below HXI.out.1 bel, HXI.out.2⟩, rfl, rfl, (by simp), bel⟩
      case rest =>
        skip
        clear d_0 d_1 d_2 d_3 d_4 d_z v_0 v_1 v_2 v_z i_0 i_1 i_z hbkD hbkV hbkI
        obtain ⟨p7, p9, A1, A2, c1, c2, x13, rfl, HBD, rfl, HBV, HXV, rfl, rfl, HBI, HXI, rfl, rfl, hx13, hbw⟩ := hcut
        obtain ⟨csD, hbkD, rfl⟩ := HBD
        obtain ⟨csV, hbkV, rfl⟩ := HBV
        obtain ⟨csI, hbkI, rfl⟩ := HBI
        have d_0 : wc.cell? ⟨w.heap.size, 0, none⟩ = some (.int .i64 f) := by simpa using blk_cell hbkD 0
        have d_1 : wc.cell? ⟨w.heap.size, 1, none⟩ = some (.int .i64 cl) := by simpa using blk_cell hbkD 1
        have d_2 : wc.cell? ⟨w.heap.size, 2, none⟩ = some (.bool ng) := by simpa using blk_cell hbkD 2
        have d_3 : wc.cell? ⟨w.heap.size, 3, none⟩ = some (.slice A l.length c) := by simpa using blk_cell hbkD 3
        have d_4 : wc.cell? ⟨w.heap.size, 4, none⟩ = some (.int .i64 ex) := by simpa using blk_cell hbkD 4
        have d_z : w.heap.size < wc.heap.size := blk_lt hbkD
        have v_0 : wc.cell? ⟨p7, 0, none⟩ = some (.bool v1) := by simpa using blk_cell hbkV 0
        have v_1 : wc.cell? ⟨p7, 1, none⟩ = some (.slice A1 v2.length c1) := by simpa using blk_cell hbkV 1
        have v_2 : wc.cell? ⟨p7, 2, none⟩ = some (.int .i64 v3) := by simpa using blk_cell hbkV 2
        have v_z : p7 < wc.heap.size := blk_lt hbkV
        have i_0 : wc.cell? ⟨p9, 0, none⟩ = some (.bool i1) := by simpa using blk_cell hbkI 0
        have i_1 : wc.cell? ⟨p9, 1, none⟩ = some (.slice A2 i2.length c2) := by simpa using blk_cell hbkI 1
        have i_z : p9 < wc.heap.size := blk_lt hbkI
        rcases HD with ⟨rfl, rfl, rfl, h1, h2⟩ | ⟨rfl, hcl, rfl, rfl, h1, h2⟩ | ⟨rfl, rfl, rfl, rfl, rfl, HRI, HSI⟩ | ⟨rfl, rfl, rfl, rfl, HRI, HSI, HRV, HSV⟩
        · obtain rfl := hx13 h1 h2
          go_wp2_with (first | fail | (go_at_call 7; (with_reducible refine (HVa.out _ (Kd.C_below HC0.out bel)).mono ?_); rintro e w41 ⟨rfl, b41⟩; obtain ⟨hc41, hf41⟩ := bcell b41; have hz41 := below_size b41; (try simp at hz41); have zz41_0 : w.heap.size < w41.heap.size := (by omega); have zz41_1 : p7 < w41.heap.size := (by omega); have zz41_2 : p9 < w41.heap.size := (by omega)) | (go_at_call 6; (with_reducible refine (HSa.out _ (HT.out.below bel)).mono ?_); rintro e w42 ⟨rfl, b42⟩; obtain ⟨hc42, hf42⟩ := bcell b42; have hz42 := below_size b42; (try simp at hz42); have zz42_0 : w.heap.size < w42.heap.size := (by omega); have zz42_1 : p7 < w42.heap.size := (by omega); have zz42_2 : p9 < w42.heap.size := (by omega)))
          go_ret
          exact ⟨by simp, bel⟩
        · obtain rfl := hx13 h1 h2
          rcases hcl with rfl | rfl
          all_goals
            go_wp2_with (first | fail | (go_at_call 7; (with_reducible refine (HVa.out _ (Kd.C_below HC0.out bel)).mono ?_); rintro e w41 ⟨rfl, b41⟩; obtain ⟨hc41, hf41⟩ := bcell b41; have hz41 := below_size b41; (try simp at hz41); have zz41_0 : w.heap.size < w41.heap.size := (by omega); have zz41_1 : p7 < w41.heap.size := (by omega); have zz41_2 : p9 < w41.heap.size := (by omega)) | (go_at_call 6; (with_reducible refine (HSa.out _ (HT.out.below bel)).mono ?_); rintro e w42 ⟨rfl, b42⟩; obtain ⟨hc42, hf42⟩ := bcell b42; have hz42 := below_size b42; (try simp at hz42); have zz42_0 : w.heap.size < w42.heap.size := (by omega); have zz42_1 : p7 < w42.heap.size := (by omega); have zz42_2 : p9 < w42.heap.size := (by omega)))
            go_ret
            exact ⟨by simp, bel⟩
        · clear hx13
          go_wp2_with (first | fail | (go_at_call 7; (with_reducible refine (HVa.out _ (Kd.C_below HC0.out bel)).mono ?_); rintro e w41 ⟨rfl, b41⟩; obtain ⟨hc41, hf41⟩ := bcell b41; have hz41 := below_size b41; (try simp at hz41); have zz41_0 : w.heap.size < w41.heap.size := (by omega); have zz41_1 : p7 < w41.heap.size := (by omega); have zz41_2 : p9 < w41.heap.size := (by omega)))
          go_region_held3 (fun w' => Below (w41).heap.size (w41) w' ∧ ∀ b o, b < (w41).heap.size → w'.cell? ⟨b, o, none⟩ = (w41).cell? ⟨b, o, none⟩) (first | ((try go_split_ands); refine below_S ?_; ((repeat (first | with_reducible assumption | with_reducible exact Below.refl _ _ | with_reducible refine below_alloc ?_ _ | with_reducible refine pw_below_drewN ?_ _ | with_reducible refine below_drew1 ?_ | ((with_reducible refine below_set ?_ ?hle); (case hle => first | (simp; done) | omega | (simp; omega))) | with_reducible refine below_step ?_ (by with_reducible assumption))); done))) (first | (go_at_call 28; (with_reducible refine (HRI.out _ (Kd.C_below HC0.out bel)).mono ?_); rintro e w43 ⟨v43, rfl, hv43, b43⟩; obtain ⟨A43, c43, rfl⟩ := Kd.R_slice hv43; have HC43 := Lib.hid (R_C hv43); clear hv43; obtain ⟨hc43, hf43⟩ := bcell b43; (try simp only [dr_size, dr_cell] at hc43); (try simp only [dr_size, dr_frozen] at hf43); have hz43 := below_size b43; (try simp at hz43); have zz43_0 : w.heap.size < w43.heap.size := (by omega); have zz43_1 : p7 < w43.heap.size := (by omega); have zz43_2 : p9 < w43.heap.size := (by omega)) | (go_at_call 27; (with_reducible refine (HSI.out _ _ _ _ _ (Kd.C_below HXI.out.1 bel) HXI.out.2 (Kd.C_below HC43.out.1 bel) HC43.out.2).mono ?_); rintro e w44 ⟨rfl, b44⟩; obtain ⟨hc44, hf44⟩ := bcell b44; (try simp only [dr_size, dr_cell] at hc44); (try simp only [dr_size, dr_frozen] at hf44); have hz44 := below_size b44; (try simp at hz44); have zz44_0 : w.heap.size < w44.heap.size := (by omega); have zz44_1 : p7 < w44.heap.size := (by omega); have zz44_2 : p9 < w44.heap.size := (by omega)))
          all_goals
            go_upto_region 18 with fail
            go_cut [3, 7, 8, 115] (fun v_3 v_7 v_8 v_115 wx => ∃ (p7 : Nat) (A1 : Option Addr) (c1 : Nat), v_3 = .pointer (some ⟨w.heap.size, 0, none⟩) ∧ BlkIs wx w.heap.size 25 (· = #[.int .i64 f, .int .i64 2, .bool ng, .slice A l.length c, .int .i64 ex]) ∧ v_7 = .pointer (some ⟨p7, 0, none⟩) ∧ BlkIs wx p7 50 (· = #[.bool v1, .slice A1 v2.length c1, .int .i64 v3]) ∧ Hid (Kd.C (Kd.int .u32) wx A1 v2.length v2 ∧ v2.length ≤ c1) ∧ v_8 = .int .i64 5 ∧ v_115 = .bool true ∧ Below w.heap.size w wx)
            case first =>
              go_wp2_with fail
              go_meet
              exact ⟨_, _, _, rfl, blk1, rfl, blk1, Lib.hid ⟨Kd.C_below HXV.out.1 bel, HXV.out.2⟩, rfl, (by first | rfl | (simp; done)), bel⟩
            case rest =>
              skip
              clear d_0 d_1 d_2 d_3 d_4 d_z v_0 v_1 v_2 v_z i_0 i_1 i_z hbkD hbkV hbkI
              obtain ⟨p7, A1, c1, rfl, HBD, rfl, HBV, HXV, rfl, rfl, hbw⟩ := hcut
              obtain ⟨csD, hbkD, rfl⟩ := HBD
              obtain ⟨csV, hbkV, rfl⟩ := HBV
              have d_0 : wc.cell? ⟨w.heap.size, 0, none⟩ = some (.int .i64 f) := by simpa using blk_cell hbkD 0
              have d_1 : wc.cell? ⟨w.heap.size, 1, none⟩ = some (.int .i64 2) := by simpa using blk_cell hbkD 1
              have d_2 : wc.cell? ⟨w.heap.size, 2, none⟩ = some (.bool ng) := by simpa using blk_cell hbkD 2
              have d_3 : wc.cell? ⟨w.heap.size, 3, none⟩ = some (.slice A l.length c) := by simpa using blk_cell hbkD 3
              have d_4 : wc.cell? ⟨w.heap.size, 4, none⟩ = some (.int .i64 ex) := by simpa using blk_cell hbkD 4
              have d_z : w.heap.size < wc.heap.size := blk_lt hbkD
              have v_0 : wc.cell? ⟨p7, 0, none⟩ = some (.bool v1) := by simpa using blk_cell hbkV 0
              have v_1 : wc.cell? ⟨p7, 1, none⟩ = some (.slice A1 v2.length c1) := by simpa using blk_cell hbkV 1
              have v_2 : wc.cell? ⟨p7, 2, none⟩ = some (.int .i64 v3) := by simpa using blk_cell hbkV 2
              have v_z : p7 < wc.heap.size := blk_lt hbkV
              clear hbkD hbkV
              go_wp2_with (first | fail | (go_at_call 6; (with_reducible refine (HSa.out _ (HT.out.below bel)).mono ?_); rintro e w51 ⟨rfl, b51⟩; obtain ⟨hc51, hf51⟩ := bcell b51; have hz51 := below_size b51; (try simp at hz51); have zz51_0 : w.heap.size < w51.heap.size := (by omega); have zz51_1 : p7 < w51.heap.size := (by omega)) | (go_at_call 26; (with_reducible refine (HSd.out _ _ _ (Kd.C_below HXV.out.1 bel) HXV.out.2).mono ?_); rintro e w52 ⟨rfl, b52⟩; obtain ⟨hc52, hf52⟩ := bcell b52; have hz52 := below_size b52; (try simp at hz52); have zz52_0 : w.heap.size < w52.heap.size := (by omega); have zz52_1 : p7 < w52.heap.size := (by omega)))
              go_ret
              exact ⟨by simp, bel⟩
        · clear hx13
          go_wp2_with (first | fail | (go_at_call 7; (with_reducible refine (HVa.out _ (Kd.C_below HC0.out bel)).mono ?_); rintro e w41 ⟨rfl, b41⟩; obtain ⟨hc41, hf41⟩ := bcell b41; have hz41 := below_size b41; (try simp at hz41); have zz41_0 : w.heap.size < w41.heap.size := (by omega); have zz41_1 : p7 < w41.heap.size := (by omega); have zz41_2 : p9 < w41.heap.size := (by omega)))
          go_region_held3 (fun w' => Below (w41).heap.size (w41) w' ∧ ∀ b o, b < (w41).heap.size → w'.cell? ⟨b, o, none⟩ = (w41).cell? ⟨b, o, none⟩) (first | ((try go_split_ands); refine below_S ?_; ((repeat (first | with_reducible assumption | with_reducible exact Below.refl _ _ | with_reducible refine below_alloc ?_ _ | with_reducible refine pw_below_drewN ?_ _ | with_reducible refine below_drew1 ?_ | ((with_reducible refine below_set ?_ ?hle); (case hle => first | (simp; done) | omega | (simp; omega))) | with_reducible refine below_step ?_ (by with_reducible assumption))); done))) (first | (go_at_call 28; (with_reducible refine (HRI.out _ (Kd.C_below HC0.out bel)).mono ?_); rintro e w43 ⟨v43, rfl, hv43, b43⟩; obtain ⟨A43, c43, rfl⟩ := Kd.R_slice hv43; have HC43 := Lib.hid (R_C hv43); clear hv43; obtain ⟨hc43, hf43⟩ := bcell b43; (try simp only [dr_size, dr_cell] at hc43); (try simp only [dr_size, dr_frozen] at hf43); have hz43 := below_size b43; (try simp at hz43); have zz43_0 : w.heap.size < w43.heap.size := (by omega); have zz43_1 : p7 < w43.heap.size := (by omega); have zz43_2 : p9 < w43.heap.size := (by omega)) | (go_at_call 27; (with_reducible refine (HSI.out _ _ _ _ _ (Kd.C_below HXI.out.1 bel) HXI.out.2 (Kd.C_below HC43.out.1 bel) HC43.out.2).mono ?_); rintro e w44 ⟨rfl, b44⟩; obtain ⟨hc44, hf44⟩ := bcell b44; (try simp only [dr_size, dr_cell] at hc44); (try simp only [dr_size, dr_frozen] at hf44); have hz44 := below_size b44; (try simp at hz44); have zz44_0 : w.heap.size < w44.heap.size := (by omega); have zz44_1 : p7 < w44.heap.size := (by omega); have zz44_2 : p9 < w44.heap.size := (by omega)))
          all_goals
            go_upto_region 18 with fail
            go_cut [3, 7, 8, 115] (fun v_3 v_7 v_8 v_115 wx => ∃ (p7 : Nat) (A1 : Option Addr) (c1 : Nat), v_3 = .pointer (some ⟨w.heap.size, 0, none⟩) ∧ BlkIs wx w.heap.size 25 (· = #[.int .i64 f, .int .i64 1, .bool ng, .slice A l.length c, .int .i64 ex]) ∧ v_7 = .pointer (some ⟨p7, 0, none⟩) ∧ BlkIs wx p7 50 (· = #[.bool v1, .slice A1 v2.length c1, .int .i64 v3]) ∧ Hid (Kd.C (Kd.int .u32) wx A1 v2.length v2 ∧ v2.length ≤ c1) ∧ v_8 = .int .i64 0 ∧ v_115 = .bool false ∧ Below w.heap.size w wx)
            case first =>
              go_wp2_with fail
              go_meet
              exact ⟨_, _, _, rfl, blk1, rfl, blk1, Lib.hid ⟨Kd.C_below HXV.out.1 bel, HXV.out.2⟩, rfl, (by first | rfl | (simp; done)), bel⟩
            case rest =>
              skip
              clear d_0 d_1 d_2 d_3 d_4 d_z v_0 v_1 v_2 v_z i_0 i_1 i_z hbkD hbkV hbkI
              obtain ⟨p7, A1, c1, rfl, HBD, rfl, HBV, HXV, rfl, rfl, hbw⟩ := hcut
              obtain ⟨csD, hbkD, rfl⟩ := HBD
              obtain ⟨csV, hbkV, rfl⟩ := HBV
              have d_0 : wc.cell? ⟨w.heap.size, 0, none⟩ = some (.int .i64 f) := by simpa using blk_cell hbkD 0
              have d_1 : wc.cell? ⟨w.heap.size, 1, none⟩ = some (.int .i64 1) := by simpa using blk_cell hbkD 1
              have d_2 : wc.cell? ⟨w.heap.size, 2, none⟩ = some (.bool ng) := by simpa using blk_cell hbkD 2
              have d_3 : wc.cell? ⟨w.heap.size, 3, none⟩ = some (.slice A l.length c) := by simpa using blk_cell hbkD 3
              have d_4 : wc.cell? ⟨w.heap.size, 4, none⟩ = some (.int .i64 ex) := by simpa using blk_cell hbkD 4
              have d_z : w.heap.size < wc.heap.size := blk_lt hbkD
              have v_0 : wc.cell? ⟨p7, 0, none⟩ = some (.bool v1) := by simpa using blk_cell hbkV 0
              have v_1 : wc.cell? ⟨p7, 1, none⟩ = some (.slice A1 v2.length c1) := by simpa using blk_cell hbkV 1
              have v_2 : wc.cell? ⟨p7, 2, none⟩ = some (.int .i64 v3) := by simpa using blk_cell hbkV 2
              have v_z : p7 < wc.heap.size := blk_lt hbkV
              clear hbkD hbkV
              go_wp2_with fail
              go_region_held3 (fun w' => Below (wc).heap.size (wc) w' ∧ ∀ b o, b < (wc).heap.size → w'.cell? ⟨b, o, none⟩ = (wc).cell? ⟨b, o, none⟩) (first | ((try go_split_ands); refine below_S ?_; ((repeat (first | with_reducible assumption | with_reducible exact Below.refl _ _ | with_reducible refine below_alloc ?_ _ | with_reducible refine pw_below_drewN ?_ _ | with_reducible refine below_drew1 ?_ | ((with_reducible refine below_set ?_ ?hle); (case hle => first | (simp; done) | omega | (simp; omega))) | with_reducible refine below_step ?_ (by with_reducible assumption))); done))) (first | (go_at_call 6; (with_reducible refine (HSa.out _ (HT.out.below bel)).mono ?_); rintro e w61 ⟨rfl, b61⟩; obtain ⟨hc61, hf61⟩ := bcell b61; (try simp only [dr_size, dr_cell] at hc61); (try simp only [dr_size, dr_frozen] at hf61); have hz61 := below_size b61; (try simp at hz61); have zz61_0 : w.heap.size < w61.heap.size := (by omega); have zz61_1 : p7 < w61.heap.size := (by omega)) | (go_at_call 29; (with_reducible refine (HRV.out _ (Kd.C_below HC0.out bel)).mono ?_); rintro e w62 ⟨v62, rfl, hv62, b62⟩; obtain ⟨A62, c62, rfl⟩ := Kd.R_slice hv62; have HC62 := Lib.hid (R_C hv62); clear hv62; obtain ⟨hc62, hf62⟩ := bcell b62; (try simp only [dr_size, dr_cell] at hc62); (try simp only [dr_size, dr_frozen] at hf62); have hz62 := below_size b62; (try simp at hz62); have zz62_0 : w.heap.size < w62.heap.size := (by omega); have zz62_1 : p7 < w62.heap.size := (by omega)) | (go_at_call 26; (with_reducible refine (HSV.out _ _ _ _ _ (Kd.C_below HXV.out.1 bel) HXV.out.2 (Kd.C_below HC62.out.1 bel) HC62.out.2).mono ?_); rintro e w63 ⟨rfl, b63⟩; obtain ⟨hc63, hf63⟩ := bcell b63; (try simp only [dr_size, dr_cell] at hc63); (try simp only [dr_size, dr_frozen] at hf63); have hz63 := below_size b63; (try simp at hz63); have zz63_0 : w.heap.size < w63.heap.size := (by omega); have zz63_1 : p7 < w63.heap.size := (by omega)))
              all_goals
                go_wp2_with fail
                go_ret
                exact ⟨by simp, bel⟩
end Go.Proofs.YtacnkcojhlbkoaaGreatDoor

namespace Go.Proofs.YtacnkcojhlbkoaaGreatDoor.XHalf
open Go.RowKit Go.Proofs.YtacnkcojhlbkoaaGreatDoorW.PrintWords Go.Proofs.YtacnkcojhlbkoaaGreatDoorW.PrintLast Go.Proofs.YtacnkcojhlbkoaaGreatDoorW.PrintMore
attribute [local go_sem] max2_int min2_int max_two min_two max_three min_three max_four min_four   -- for this text's walks alone
set_option linter.unusedVariables false
set_option linter.unusedSimpArgs false

def errW : Option Int → Value
  | none => .nilIface
  | some c => .iface 0 (.int .i64 c)
theorem errW_none : errW none = .nilIface := rfl
theorem errW_some (c : Int) : errW (some c) = .iface 0 (.int .i64 c) := rfl

-- the values' own types

end Go.Proofs.YtacnkcojhlbkoaaGreatDoor.XHalf

namespace Go.Proofs.YtacnkcojhlbkoaaGreatDoor.XHalf
open Go.RowKit Go.Proofs.YtacnkcojhlbkoaaGreatDoorW.PrintWords Go.Proofs.YtacnkcojhlbkoaaGreatDoorW.PrintLast Go.Proofs.YtacnkcojhlbkoaaGreatDoorW.PrintMore Go.Proofs.YtacnkcojhlbkoaaGreatDoor.Zip
attribute [local go_sem] max2_int min2_int max_two min_two max_three min_three max_four min_four   -- for this text's walks alone
set_option linter.unusedVariables false
set_option linter.unusedSimpArgs false

/-! ### sorobanlaw05_half: function 34 -/
def sorobanlaw05_half.f (a0 : Int) : Option (Int × Int × Bool × List Int × Int) := (binary_Decode.f 1 0 a0).bind fun bt102 => (if bt102.2.2.2.2.2 = 0 then (some (bt102.1, bt102.2.1, bt102.2.2.1, bt102.2.2.2.1, bt102.2.2.2.2.1)) else (some (0, 0, false, ([] : List Int), 0)))
set_option maxHeartbeats 8000000 in
set_option maxRecDepth 100000 in
theorem sorobanlaw05_half.calls (a0 : Int) (r1 : Int) (r2 : Int) (r3 : Bool) (r4 : List Int) (r5 : Int) (w : World) (h : sorobanlaw05_half.f a0 = some (r1, r2, r3, r4, r5)) :
    Calls Tryz.prog 34 #[.int .u64 a0] w fun e w' => ∃ v3_ : Value, e = .returned (.agg #[.int .i64 r1, .int .i64 r2, .bool r3, v3_, .int .i64 r5]) ∧ Kd.R (Kd.int .u32) 40 w' w.heap.size (fun _ => True) v3_ r4 ∧ Below w.heap.size w w' := by
  have hu25 := Tryz.underlying25
  have hu66 := Tryz.underlying66
  have HB := Aside0.mk (Below.refl w.heap.size w)
  have H : ((binary_Decode.f 1 0 a0).bind fun bt102 => (if bt102.2.2.2.2.2 = 0 then (some (bt102.1, bt102.2.1, bt102.2.2.1, bt102.2.2.2.1, bt102.2.2.2.2.1)) else (some (0, 0, false, ([] : List Int), 0)))) = some (r1, r2, r3, r4, r5) := h
  clear h
  replace H := Option.bind_eq_some_iff.mp H
  obtain ⟨⟨t102, t103, t104, t105, t108, t109⟩, A20, H⟩ := H
  replace H : (if t109 = 0 then (some (t102, t103, t104, t105, t108)) else (some (0, 0, false, ([] : List Int), 0))) = some (r1, r2, r3, r4, r5) := H
  have A2 := Aside0.mk A20
  clear A20
  by_cases c3 : t109 = 0
  · rw [if_pos c3] at H
    have c3b0 : (t109 == 0) = true := beq_iff_eq.mpr c3
    have c3b1 : (t109 != 0) = false := bne_eq_false_iff_eq.mpr c3
    clear c3
    simp only [Option.some.injEq, Prod.mk.injEq] at H
    obtain ⟨rfl, rfl, rfl, rfl, rfl⟩ := H
    go_enter Tryz.func34, Tryz.ntmps34
    go_wp2_with (first | ((with_reducible refine gate_dst (N := 2) rfl ?_); refine box_event ?hg (N := 2) ?hd (cs := #[.int .i64 0, .int .i64 0, .bool false, .slice none 0 0, .int .i64 0]) (t := 25) ?hr ?_; (case hd => rfl); (case hg => rfl); (case hr => first | (go_simp; done) | (go_simp; rfl)); intro gb101 hg w4 hbox hb; have n0_ := Aside0.mk (below_step (zb HB.out) hb); have n1_ := Aside0.mk (hbox); have n2_ := Aside0.mk ((by rw [hg]; exact (below_size (zb HB.out)) : w.heap.size ≤ gb101)); have n3_ := Aside0.mk ((by rw [hg]; exact (below_size (zb HB.out)) : w.heap.size ≤ gb101)); clear HB; have HB := n0_; have BK101 := n1_; have GW101 := n2_; have GE101 := n3_; clear n0_ n1_ n2_ n3_; clear hb hbox hg) | ((with_reducible refine gate_callee (f := 31) rfl ?_); refine goesL_ (some 8) rfl rfl Tryz.func31 (by kernel_rfl) rfl #[.int .i64 1, .agg #[.int .u64 0, .int .u64 a0]] rfl zm ?_; (with_reducible refine (binary_Decode.calls 1 0 a0 t102 t103 t104 t105 t108 t109 _ A2.out).mono ?_); rintro e w5 ⟨v106, rfl, ho0, hb⟩; refine ⟨_, rfl, ?_⟩; have n0_ := Aside0.mk (Kd.R_lower ho0 (below_size (zb HB.out))); have n1_ := Aside0.mk (blk_below (g := gb101) (o := .cells #[.int .i64 0, .int .i64 0, .bool false, .slice none 0 0, .int .i64 0] 25 (0, 0)) (zk BK101.out) hb); have n2_ := Aside0.mk (below_step (zb HB.out) hb); clear BK101; clear HB; have HO107 := n0_; have BK101 := n1_; have HB := n2_; clear n0_ n1_ n2_; (try clear hb); (try clear hb2); (try clear hk); (try clear hi); (try clear ho0)) | ((with_reducible refine gate_dst (N := 3) rfl ?_); refine box_event ?hg (N := 3) ?hd (cs := #[.int .i64 0, .int .i64 0, .bool false, .slice none 0 0, .int .i64 0]) (t := 25) ?hr ?_; (case hd => rfl); (case hg => rfl); (case hr => first | (go_simp; done) | (go_simp; rfl)); intro gb110 hg w6 hbox hb; have n0_ := Aside0.mk (Kd.R_below (zr HO107.out) hb); have n1_ := Aside0.mk (blk_below (g := gb101) (o := .cells #[.int .i64 0, .int .i64 0, .bool false, .slice none 0 0, .int .i64 0] 25 (0, 0)) (zk BK101.out) hb); have n2_ := Aside0.mk (below_step (zb HB.out) hb); have n3_ := Aside0.mk (hbox); have n4_ := Aside0.mk ((by rw [hg]; exact (below_size (zb HB.out)) : w.heap.size ≤ gb110)); have n5_ := Aside0.mk ((by rw [hg]; exact (below_size (zb HB.out)) : w.heap.size ≤ gb110)); have n6_ := Aside0.mk ((by rw [hg]; exact Nat.ne_of_lt (blk_lt (g := gb101) (o := .cells #[.int .i64 0, .int .i64 0, .bool false, .slice none 0 0, .int .i64 0] 25 (0, 0)) (zk BK101.out)) : gb101 ≠ gb110)); have n7_ := Aside0.mk ((by rw [hg]; exact Nat.ne_of_gt (blk_lt (g := gb101) (o := .cells #[.int .i64 0, .int .i64 0, .bool false, .slice none 0 0, .int .i64 0] 25 (0, 0)) (zk BK101.out)) : gb110 ≠ gb101)); clear HO107; clear BK101; clear HB; have HO107 := n0_; have BK101 := n1_; have HB := n2_; have BK110 := n3_; have GW110 := n4_; have GE110 := n5_; have NB101_110 := n6_; have NB110_101 := n7_; clear n0_ n1_ n2_ n3_ n4_ n5_ n6_ n7_; clear hb hbox hg; have hnb7 := NB110_101.out; have hnc7 := NB101_110.out; have hcz8_0 : w6.cell? ⟨gb110, 0, none⟩ = some (.int .i64 0) := (blk_cell BK110.out 0).trans rfl; have hcz8_1 : w6.cell? ⟨gb110, 1, none⟩ = some (.int .i64 0) := (blk_cell BK110.out 1).trans rfl; have hcz8_2 : w6.cell? ⟨gb110, 2, none⟩ = some (.bool false) := (blk_cell BK110.out 2).trans rfl; have hcz8_3 : w6.cell? ⟨gb110, 3, none⟩ = some (.slice none 0 0) := (blk_cell BK110.out 3).trans rfl; have hcz8_4 : w6.cell? ⟨gb110, 4, none⟩ = some (.int .i64 0) := (blk_cell BK110.out 4).trans rfl; have hfz8_0 := blk_frozen BK110.out 0; have hfz8_1 := blk_frozen BK110.out 1; have hfz8_2 := blk_frozen BK110.out 2; have hfz8_3 := blk_frozen BK110.out 3; have hfz8_4 := blk_frozen BK110.out 4; obtain ⟨Ao9, co9, eo9⟩ := Kd.R_slice HO107.out; subst eo9; have hcz10_0 : w6.cell? ⟨gb101, 0, none⟩ = some (.int .i64 0) := (blk_cell BK101.out 0).trans rfl; have hcz10_1 : w6.cell? ⟨gb101, 1, none⟩ = some (.int .i64 0) := (blk_cell BK101.out 1).trans rfl; have hcz10_2 : w6.cell? ⟨gb101, 2, none⟩ = some (.bool false) := (blk_cell BK101.out 2).trans rfl; have hcz10_3 : w6.cell? ⟨gb101, 3, none⟩ = some (.slice none 0 0) := (blk_cell BK101.out 3).trans rfl; have hcz10_4 : w6.cell? ⟨gb101, 4, none⟩ = some (.int .i64 0) := (blk_cell BK101.out 4).trans rfl; have hfz10_0 := blk_frozen BK101.out 0; have hfz10_1 := blk_frozen BK101.out 1; have hfz10_2 := blk_frozen BK101.out 2; have hfz10_3 := blk_frozen BK101.out 3; have hfz10_4 := blk_frozen BK101.out 4))
    refine bodyPost_ret (results_cell_row rfl _ _ gb101 25 #[.int .i64 t102, .int .i64 t103, .bool t104, .slice Ao9 t105.length co9, .int .i64 t108] (0, 0) _ rfl (by (with_reducible repeat (first | refine blk_drewN ?_ _ | refine blk_drew ?_ | refine blk_alloc ?_ _)); refine blk_put (cs := #[.int .i64 t102, .int .i64 t103, .bool t104, .slice Ao9 t105.length co9, .int .i64 0]) ?_ 4 _ rfl; (with_reducible repeat (first | refine blk_drewN ?_ _ | refine blk_drew ?_ | refine blk_alloc ?_ _)); refine blk_put (cs := #[.int .i64 t102, .int .i64 t103, .bool t104, .slice none 0 0, .int .i64 0]) ?_ 3 _ rfl; (with_reducible repeat (first | refine blk_drewN ?_ _ | refine blk_drew ?_ | refine blk_alloc ?_ _)); refine blk_put (cs := #[.int .i64 t102, .int .i64 t103, .bool false, .slice none 0 0, .int .i64 0]) ?_ 2 _ rfl; (with_reducible repeat (first | refine blk_drewN ?_ _ | refine blk_drew ?_ | refine blk_alloc ?_ _)); refine blk_put (cs := #[.int .i64 t102, .int .i64 0, .bool false, .slice none 0 0, .int .i64 0]) ?_ 1 _ rfl; (with_reducible repeat (first | refine blk_drewN ?_ _ | refine blk_drew ?_ | refine blk_alloc ?_ _)); refine blk_put (cs := #[.int .i64 0, .int .i64 0, .bool false, .slice none 0 0, .int .i64 0]) ?_ 0 _ rfl; (with_reducible repeat (first | refine blk_drewN ?_ _ | refine blk_drew ?_ | refine blk_alloc ?_ _)); refine blk_far ?_ NB101_110.out _; (with_reducible repeat (first | refine blk_drewN ?_ _ | refine blk_drew ?_ | refine blk_alloc ?_ _)); refine blk_far ?_ NB101_110.out _; (with_reducible repeat (first | refine blk_drewN ?_ _ | refine blk_drew ?_ | refine blk_alloc ?_ _)); refine blk_far ?_ NB101_110.out _; (with_reducible repeat (first | refine blk_drewN ?_ _ | refine blk_drew ?_ | refine blk_alloc ?_ _)); refine blk_far ?_ NB101_110.out _; (with_reducible repeat (first | refine blk_drewN ?_ _ | refine blk_drew ?_ | refine blk_alloc ?_ _)); refine blk_far ?_ NB101_110.out _; (with_reducible repeat (first | refine blk_drewN ?_ _ | refine blk_drew ?_ | refine blk_alloc ?_ _)); exact BK101.out) Tryz.underlying25 rfl (by kernel_rfl)) rfl ?_
    exact ⟨_, by first | rfl | (simp [errW_none, errW_some] <;> rfl) | (simp [*, errW_none, errW_some] <;> rfl), by (with_reducible repeat (first | apply Kd.R_alloc | apply Kd.R_drewN | apply Kd.R_drew)); exact Kd.R_mono (Kd.R_far (p := ⟨gb101, 4, none⟩) (Kd.R_far (p := ⟨gb101, 3, none⟩) (Kd.R_far (p := ⟨gb101, 2, none⟩) (Kd.R_far (p := ⟨gb101, 1, none⟩) (Kd.R_far (p := ⟨gb101, 0, none⟩) (Kd.R_far (p := ⟨gb110, 4, none⟩) (Kd.R_far (p := ⟨gb110, 3, none⟩) (Kd.R_far (p := ⟨gb110, 2, none⟩) (Kd.R_far (p := ⟨gb110, 1, none⟩) (Kd.R_far (p := ⟨gb110, 0, none⟩) (Kd.R_types (Kd.R_types HO107.out BK110.out (by decide)) BK101.out (by decide)) (fun _ hk => hk.1.2) (.int .i64 t102)) (fun _ hk => hk.1.2) (.int .i64 t103)) (fun _ hk => hk.1.2) (.bool t104)) (fun _ hk => hk.1.2) (.slice Ao9 t105.length co9)) (fun _ hk => hk.1.2) (.int .i64 t108)) (fun _ hk => hk.2) (.int .i64 t102)) (fun _ hk => hk.2) (.int .i64 t103)) (fun _ hk => hk.2) (.bool t104)) (fun _ hk => hk.2) (.slice Ao9 t105.length co9)) (fun _ hk => hk.2) (.int .i64 t108)) (fun _ hk => trivial), zb HB.out⟩
  · rw [if_neg c3] at H
    have c3b0 : (t109 == 0) = false := beq_eq_false_iff_ne.mpr c3
    have c3b1 : (t109 != 0) = true := bne_iff_ne.mpr c3
    simp only [Option.some.injEq, Prod.mk.injEq] at H
    obtain ⟨rfl, rfl, rfl, rfl, rfl⟩ := H
    go_enter Tryz.func34, Tryz.ntmps34
    go_wp2_with (first | ((with_reducible refine gate_dst (N := 2) rfl ?_); refine box_event ?hg (N := 2) ?hd (cs := #[.int .i64 0, .int .i64 0, .bool false, .slice none 0 0, .int .i64 0]) (t := 25) ?hr ?_; (case hd => rfl); (case hg => rfl); (case hr => first | (go_simp; done) | (go_simp; rfl)); intro gb101 hg w11 hbox hb; have n0_ := Aside0.mk (below_step (zb HB.out) hb); have n1_ := Aside0.mk (hbox); have n2_ := Aside0.mk ((by rw [hg]; exact (below_size (zb HB.out)) : w.heap.size ≤ gb101)); have n3_ := Aside0.mk ((by rw [hg]; exact (below_size (zb HB.out)) : w.heap.size ≤ gb101)); clear HB; have HB := n0_; have BK101 := n1_; have GW101 := n2_; have GE101 := n3_; clear n0_ n1_ n2_ n3_; clear hb hbox hg) | ((with_reducible refine gate_callee (f := 31) rfl ?_); refine goesL_ (some 8) rfl rfl Tryz.func31 (by kernel_rfl) rfl #[.int .i64 1, .agg #[.int .u64 0, .int .u64 a0]] rfl zm ?_; (with_reducible refine (binary_Decode.calls 1 0 a0 t102 t103 t104 t105 t108 t109 _ A2.out).mono ?_); rintro e w12 ⟨v106, rfl, ho0, hb⟩; refine ⟨_, rfl, ?_⟩; have n0_ := Aside0.mk (Kd.R_lower ho0 (below_size (zb HB.out))); have n1_ := Aside0.mk (blk_below (g := gb101) (o := .cells #[.int .i64 0, .int .i64 0, .bool false, .slice none 0 0, .int .i64 0] 25 (0, 0)) (zk BK101.out) hb); have n2_ := Aside0.mk (below_step (zb HB.out) hb); clear BK101; clear HB; have HO107 := n0_; have BK101 := n1_; have HB := n2_; clear n0_ n1_ n2_; (try clear hb); (try clear hb2); (try clear hk); (try clear hi); (try clear ho0)) | ((with_reducible refine gate_dst (N := 3) rfl ?_); refine box_event ?hg (N := 3) ?hd (cs := #[.int .i64 0, .int .i64 0, .bool false, .slice none 0 0, .int .i64 0]) (t := 25) ?hr ?_; (case hd => rfl); (case hg => rfl); (case hr => first | (go_simp; done) | (go_simp; rfl)); intro gb110 hg w13 hbox hb; have n0_ := Aside0.mk (Kd.R_below (zr HO107.out) hb); have n1_ := Aside0.mk (blk_below (g := gb101) (o := .cells #[.int .i64 0, .int .i64 0, .bool false, .slice none 0 0, .int .i64 0] 25 (0, 0)) (zk BK101.out) hb); have n2_ := Aside0.mk (below_step (zb HB.out) hb); have n3_ := Aside0.mk (hbox); have n4_ := Aside0.mk ((by rw [hg]; exact (below_size (zb HB.out)) : w.heap.size ≤ gb110)); have n5_ := Aside0.mk ((by rw [hg]; exact (below_size (zb HB.out)) : w.heap.size ≤ gb110)); have n6_ := Aside0.mk ((by rw [hg]; exact Nat.ne_of_lt (blk_lt (g := gb101) (o := .cells #[.int .i64 0, .int .i64 0, .bool false, .slice none 0 0, .int .i64 0] 25 (0, 0)) (zk BK101.out)) : gb101 ≠ gb110)); have n7_ := Aside0.mk ((by rw [hg]; exact Nat.ne_of_gt (blk_lt (g := gb101) (o := .cells #[.int .i64 0, .int .i64 0, .bool false, .slice none 0 0, .int .i64 0] 25 (0, 0)) (zk BK101.out)) : gb110 ≠ gb101)); clear HO107; clear BK101; clear HB; have HO107 := n0_; have BK101 := n1_; have HB := n2_; have BK110 := n3_; have GW110 := n4_; have GE110 := n5_; have NB101_110 := n6_; have NB110_101 := n7_; clear n0_ n1_ n2_ n3_ n4_ n5_ n6_ n7_; clear hb hbox hg; have hnb14 := NB110_101.out; have hnc14 := NB101_110.out; have hcz15_0 : w13.cell? ⟨gb110, 0, none⟩ = some (.int .i64 0) := (blk_cell BK110.out 0).trans rfl; have hcz15_1 : w13.cell? ⟨gb110, 1, none⟩ = some (.int .i64 0) := (blk_cell BK110.out 1).trans rfl; have hcz15_2 : w13.cell? ⟨gb110, 2, none⟩ = some (.bool false) := (blk_cell BK110.out 2).trans rfl; have hcz15_3 : w13.cell? ⟨gb110, 3, none⟩ = some (.slice none 0 0) := (blk_cell BK110.out 3).trans rfl; have hcz15_4 : w13.cell? ⟨gb110, 4, none⟩ = some (.int .i64 0) := (blk_cell BK110.out 4).trans rfl; have hfz15_0 := blk_frozen BK110.out 0; have hfz15_1 := blk_frozen BK110.out 1; have hfz15_2 := blk_frozen BK110.out 2; have hfz15_3 := blk_frozen BK110.out 3; have hfz15_4 := blk_frozen BK110.out 4; obtain ⟨Ao16, co16, eo16⟩ := Kd.R_slice HO107.out; subst eo16; have hcz17_0 : w13.cell? ⟨gb101, 0, none⟩ = some (.int .i64 0) := (blk_cell BK101.out 0).trans rfl; have hcz17_1 : w13.cell? ⟨gb101, 1, none⟩ = some (.int .i64 0) := (blk_cell BK101.out 1).trans rfl; have hcz17_2 : w13.cell? ⟨gb101, 2, none⟩ = some (.bool false) := (blk_cell BK101.out 2).trans rfl; have hcz17_3 : w13.cell? ⟨gb101, 3, none⟩ = some (.slice none 0 0) := (blk_cell BK101.out 3).trans rfl; have hcz17_4 : w13.cell? ⟨gb101, 4, none⟩ = some (.int .i64 0) := (blk_cell BK101.out 4).trans rfl; have hfz17_0 := blk_frozen BK101.out 0; have hfz17_1 := blk_frozen BK101.out 1; have hfz17_2 := blk_frozen BK101.out 2; have hfz17_3 := blk_frozen BK101.out 3; have hfz17_4 := blk_frozen BK101.out 4))
    refine bodyPost_ret (results_cell_row rfl _ _ gb101 25 #[.int .i64 0, .int .i64 0, .bool false, .slice none 0 0, .int .i64 0] (0, 0) _ rfl (by (with_reducible repeat (first | refine blk_drewN ?_ _ | refine blk_drew ?_ | refine blk_alloc ?_ _)); refine blk_put (cs := #[.int .i64 0, .int .i64 0, .bool false, .slice none 0 0, .int .i64 0]) ?_ 4 _ rfl; (with_reducible repeat (first | refine blk_drewN ?_ _ | refine blk_drew ?_ | refine blk_alloc ?_ _)); refine blk_put (cs := #[.int .i64 0, .int .i64 0, .bool false, .slice none 0 0, .int .i64 0]) ?_ 3 _ rfl; (with_reducible repeat (first | refine blk_drewN ?_ _ | refine blk_drew ?_ | refine blk_alloc ?_ _)); refine blk_put (cs := #[.int .i64 0, .int .i64 0, .bool false, .slice none 0 0, .int .i64 0]) ?_ 2 _ rfl; (with_reducible repeat (first | refine blk_drewN ?_ _ | refine blk_drew ?_ | refine blk_alloc ?_ _)); refine blk_put (cs := #[.int .i64 0, .int .i64 0, .bool false, .slice none 0 0, .int .i64 0]) ?_ 1 _ rfl; (with_reducible repeat (first | refine blk_drewN ?_ _ | refine blk_drew ?_ | refine blk_alloc ?_ _)); refine blk_put (cs := #[.int .i64 0, .int .i64 0, .bool false, .slice none 0 0, .int .i64 0]) ?_ 0 _ rfl; (with_reducible repeat (first | refine blk_drewN ?_ _ | refine blk_drew ?_ | refine blk_alloc ?_ _)); refine blk_far ?_ NB101_110.out _; (with_reducible repeat (first | refine blk_drewN ?_ _ | refine blk_drew ?_ | refine blk_alloc ?_ _)); refine blk_far ?_ NB101_110.out _; (with_reducible repeat (first | refine blk_drewN ?_ _ | refine blk_drew ?_ | refine blk_alloc ?_ _)); refine blk_far ?_ NB101_110.out _; (with_reducible repeat (first | refine blk_drewN ?_ _ | refine blk_drew ?_ | refine blk_alloc ?_ _)); refine blk_far ?_ NB101_110.out _; (with_reducible repeat (first | refine blk_drewN ?_ _ | refine blk_drew ?_ | refine blk_alloc ?_ _)); refine blk_far ?_ NB101_110.out _; (with_reducible repeat (first | refine blk_drewN ?_ _ | refine blk_drew ?_ | refine blk_alloc ?_ _)); exact BK101.out) Tryz.underlying25 rfl (by kernel_rfl)) rfl ?_
    exact ⟨_, by first | rfl | (simp [errW_none, errW_some] <;> rfl) | (simp [*, errW_none, errW_some] <;> rfl), by first | exact Kd.R_nil _ _ _ _ _ | exact Kd.N_nil _ _ _ _ _ | exact Kd.V_nil _ _ _ _ _ | exact Kd.Q_nil _ _ _ _ _ | exact Kd.S_nil _ _ _ _ _, zb HB.out⟩

end Go.Proofs.YtacnkcojhlbkoaaGreatDoor.XHalf
