/- Written by this session's own program (wip/tools/xprint.sh) for the law Half: what the law's functions compute, and that the machine does so, given the contracts of the program's functions. Written by this session's own program (wip/tools/xprint.sh) for the law Half: what the law's functions compute, and that the machine does so, given the contracts of the program's functions. What the functions return at the literals of the law's examples. The law's sanity: it answers true. The law BinaryFormats: what its calls return, and so that it answers true. -/
import Derived.Test.YtacnkcojhlbkoaaGreatDoorProg
import Derived.Below
import Derived.Deep.Draws
import Derived.Deep.AppendLies
import Derived.Maps.AppendAt
import Derived.OwnWalk
import Derived.Laws.BytesArg
import Derived.Laws.MakeOwn
import Derived.Laws.OwnMore
import Derived.Deep.OwnRows
import Derived.Tactics
import Derived.Lib.ConvBytes
import Derived.Laws.Slices
import Derived.WalkKit
import Derived.KernelRfl
import Derived.RowKit3
import Derived.Deep.LoopGhost
import Derived.Deep.QuietTactic
import Derived.BigQuiet
import Derived.WideLaws
import Derived.Deep.DeepCutAuto
import Derived.Deep.CutBlock
import Derived.Deep.RegionHeld3
import Derived.Laws.Rows
import Derived.Lib.AppendStr
import Derived.ArgAppend
import Derived.Laws.IdiomCopy
import Derived.OrdersHeld
import Derived.Laws.BitsLemmas
import Derived.RowKit
import Derived.Test.YtacnkcojhlbkoaaGreatDoorJFor18
import Derived.Test.YtacnkcojhlbkoaaGreatDoorJFor0
import Derived.Test.YtacnkcojhlbkoaaGreatDoorJFor1
import Derived.Test.YtacnkcojhlbkoaaGreatDoorJFor2
import Derived.Test.YtacnkcojhlbkoaaGreatDoorJFor19
import Derived.Test.YtacnkcojhlbkoaaGreatDoorJFor27
import Derived.Test.YtacnkcojhlbkoaaGreatDoorJFor10
import Derived.Test.YtacnkcojhlbkoaaGreatDoorJFor11
import Derived.Test.YtacnkcojhlbkoaaGreatDoorJFor21
import Derived.Test.YtacnkcojhlbkoaaGreatDoorJFor24
import Derived.Test.YtacnkcojhlbkoaaGreatDoorJFor30
namespace Go.Proofs.YtacnkcojhlbkoaaGreatDoor.XHalf
open Go.RowKit Go.Proofs.YtacnkcojhlbkoaaGreatDoorW.PrintWords Go.Proofs.YtacnkcojhlbkoaaGreatDoorW.PrintLast Go.Proofs.YtacnkcojhlbkoaaGreatDoorW.PrintMore
attribute [local go_sem] max2_int min2_int max_two min_two max_three min_three max_four min_four   -- for this text's walks alone
set_option linter.unusedVariables false
set_option linter.unusedSimpArgs false

def errW : Option Int → Value
  | none => .nilIface
  | some c => .iface 0 (.int .i64 c)
theorem errW_none : errW none = .nilIface := rfl
theorem errW_some (c : Int) : errW (some c) = .iface 0 (.int .i64 c) := rfl

-- the values' own types

end Go.Proofs.YtacnkcojhlbkoaaGreatDoor.XHalf

namespace Go.Proofs.YtacnkcojhlbkoaaGreatDoor.XHalf
open Go.RowKit Go.Proofs.YtacnkcojhlbkoaaGreatDoorW.PrintWords Go.Proofs.YtacnkcojhlbkoaaGreatDoorW.PrintLast Go.Proofs.YtacnkcojhlbkoaaGreatDoorW.PrintMore
attribute [local go_sem] max2_int min2_int max_two min_two max_three min_three max_four min_four   -- for this text's walks alone
set_option linter.unusedVariables false
set_option linter.unusedSimpArgs false

/-! ### sorobanlaw05_half: function 34 -/
def sorobanlaw05_half.f (a0 : Int) : Option (Int × Int × Bool × List Int × Int) := (binary_Decode.f 1 0 a0).bind fun bt102 => (if bt102.2.2.2.2.2 = 0 then (some (bt102.1, bt102.2.1, bt102.2.2.1, bt102.2.2.2.1, bt102.2.2.2.2.1)) else (some (0, 0, false, ([] : List Int), 0)))
set_option maxHeartbeats 8000000 in
set_option maxRecDepth 100000 in
theorem sorobanlaw05_half.calls (a0 : Int) (r1 : Int) (r2 : Int) (r3 : Bool) (r4 : List Int) (r5 : Int) (w : World) (h : sorobanlaw05_half.f a0 = some (r1, r2, r3, r4, r5)) :
    Calls Tryz.prog 34 #[.int .u64 a0] w fun e w' => ∃ v3_ : Value, e = .returned (.agg #[.int .i64 r1, .int .i64 r2, .bool r3, v3_, .int .i64 r5]) ∧ Kd.R (Kd.int .u32) 40 w' w.heap.size (fun _ => True) v3_ r4 ∧ Below w.heap.size w w' := by
  have hu25 := Tryz.underlying25
  have hu66 := Tryz.underlying66
  have HB := Aside0.mk (Below.refl w.heap.size w)
  have H : ((binary_Decode.f 1 0 a0).bind fun bt102 => (if bt102.2.2.2.2.2 = 0 then (some (bt102.1, bt102.2.1, bt102.2.2.1, bt102.2.2.2.1, bt102.2.2.2.2.1)) else (some (0, 0, false, ([] : List Int), 0)))) = some (r1, r2, r3, r4, r5) := h
  clear h
  replace H := Option.bind_eq_some_iff.mp H
  obtain ⟨⟨t102, t103, t104, t105, t108, t109⟩, A20, H⟩ := H
  replace H : (if t109 = 0 then (some (t102, t103, t104, t105, t108)) else (some (0, 0, false, ([] : List Int), 0))) = some (r1, r2, r3, r4, r5) := H
  have A2 := Aside0.mk A20
  clear A20
  by_cases c3 : t109 = 0
  · rw [if_pos c3] at H
    have c3b0 : (t109 == 0) = true := beq_iff_eq.mpr c3
    have c3b1 : (t109 != 0) = false := bne_eq_false_iff_eq.mpr c3
    clear c3
    simp only [Option.some.injEq, Prod.mk.injEq] at H
    obtain ⟨rfl, rfl, rfl, rfl, rfl⟩ := H
    go_enter Tryz.func34, Tryz.ntmps34
    go_wp2_with (first | ((with_reducible refine gate_dst (N := 2) rfl ?_); refine box_event ?hg (N := 2) ?hd (cs := #[.int .i64 0, .int .i64 0, .bool false, .slice none 0 0, .int .i64 0]) (t := 25) ?hr ?_; (case hd => rfl); (case hg => rfl); (case hr => first | (go_simp; done) | (go_simp; rfl)); intro gb101 hg w4 hbox hb; have n0_ := Aside0.mk (below_step (by repeat (first | (with_reducible first | exact HB.out | apply below_alloc | apply pw_below_drewN | apply below_drew1) | exact HB.out)) hb); have n1_ := Aside0.mk (hbox); have n2_ := Aside0.mk ((by rw [hg]; exact (below_size (by repeat (first | (with_reducible first | exact HB.out | apply below_alloc | apply pw_below_drewN | apply below_drew1) | exact HB.out))) : w.heap.size ≤ gb101)); have n3_ := Aside0.mk ((by rw [hg]; exact (below_size (by repeat (first | (with_reducible first | exact HB.out | apply below_alloc | apply pw_below_drewN | apply below_drew1) | exact HB.out))) : w.heap.size ≤ gb101)); clear HB; have HB := n0_; have BK101 := n1_; have GW101 := n2_; have GE101 := n3_; clear n0_ n1_ n2_ n3_; clear hb hbox hg) | ((with_reducible refine gate_callee (f := 31) rfl ?_); refine goesL_ (some 8) rfl rfl Tryz.func31 (by kernel_rfl) rfl #[.int .i64 1, .agg #[.int .u64 0, .int .u64 a0]] rfl (by (try simp only [List.map_toArray, List.map_cons, List.map_nil]); first | done | rfl | (simp only [List.length_drop, List.length_take]; rfl)) ?_; (with_reducible refine (binary_Decode.calls 1 0 a0 t102 t103 t104 t105 t108 t109 _ A2.out).mono ?_); rintro e w5 ⟨v106, rfl, ho0, hb⟩; refine ⟨_, rfl, ?_⟩; have n0_ := Aside0.mk (Kd.R_lower ho0 (below_size (by repeat (first | (with_reducible first | exact HB.out | apply below_alloc | apply pw_below_drewN | apply below_drew1 | refine below_set ?_ GE101.out) | exact HB.out)))); have n1_ := Aside0.mk (blk_below (g := gb101) (o := .cells #[.int .i64 0, .int .i64 0, .bool false, .slice none 0 0, .int .i64 0] 25 (0, 0)) (by (with_reducible repeat (first | refine blk_drewN ?_ _ | refine blk_drew ?_ | refine blk_alloc ?_ _)); exact BK101.out) hb); have n2_ := Aside0.mk (below_step (by repeat (first | (with_reducible first | exact HB.out | apply below_alloc | apply pw_below_drewN | apply below_drew1 | refine below_set ?_ GE101.out) | exact HB.out)) hb); clear BK101; clear HB; have HO107 := n0_; have BK101 := n1_; have HB := n2_; clear n0_ n1_ n2_; (try clear hb); (try clear hb2); (try clear hk); (try clear hi); (try clear ho0)) | ((with_reducible refine gate_dst (N := 3) rfl ?_); refine box_event ?hg (N := 3) ?hd (cs := #[.int .i64 0, .int .i64 0, .bool false, .slice none 0 0, .int .i64 0]) (t := 25) ?hr ?_; (case hd => rfl); (case hg => rfl); (case hr => first | (go_simp; done) | (go_simp; rfl)); intro gb110 hg w6 hbox hb; have n0_ := Aside0.mk (Kd.R_below (by (with_reducible repeat (first | apply Kd.R_alloc | apply Kd.R_drewN | apply Kd.R_drew)); exact HO107.out) hb); have n1_ := Aside0.mk (blk_below (g := gb101) (o := .cells #[.int .i64 0, .int .i64 0, .bool false, .slice none 0 0, .int .i64 0] 25 (0, 0)) (by (with_reducible repeat (first | refine blk_drewN ?_ _ | refine blk_drew ?_ | refine blk_alloc ?_ _)); exact BK101.out) hb); have n2_ := Aside0.mk (below_step (by repeat (first | (with_reducible first | exact HB.out | apply below_alloc | apply pw_below_drewN | apply below_drew1 | refine below_set ?_ GE101.out) | exact HB.out)) hb); have n3_ := Aside0.mk (hbox); have n4_ := Aside0.mk ((by rw [hg]; exact (below_size (by repeat (first | (with_reducible first | exact HB.out | apply below_alloc | apply pw_below_drewN | apply below_drew1 | refine below_set ?_ GE101.out) | exact HB.out))) : w.heap.size ≤ gb110)); have n5_ := Aside0.mk ((by rw [hg]; exact (below_size (by repeat (first | (with_reducible first | exact HB.out | apply below_alloc | apply pw_below_drewN | apply below_drew1 | refine below_set ?_ GE101.out) | exact HB.out))) : w.heap.size ≤ gb110)); have n6_ := Aside0.mk ((by rw [hg]; exact Nat.ne_of_lt (blk_lt (g := gb101) (o := .cells #[.int .i64 0, .int .i64 0, .bool false, .slice none 0 0, .int .i64 0] 25 (0, 0)) (by (with_reducible repeat (first | refine blk_drewN ?_ _ | refine blk_drew ?_ | refine blk_alloc ?_ _)); exact BK101.out)) : gb101 ≠ gb110)); have n7_ := Aside0.mk ((by rw [hg]; exact Nat.ne_of_gt (blk_lt (g := gb101) (o := .cells #[.int .i64 0, .int .i64 0, .bool false, .slice none 0 0, .int .i64 0] 25 (0, 0)) (by (with_reducible repeat (first | refine blk_drewN ?_ _ | refine blk_drew ?_ | refine blk_alloc ?_ _)); exact BK101.out)) : gb110 ≠ gb101)); clear HO107; clear BK101; clear HB; have HO107 := n0_; have BK101 := n1_; have HB := n2_; have BK110 := n3_; have GW110 := n4_; have GE110 := n5_; have NB101_110 := n6_; have NB110_101 := n7_; clear n0_ n1_ n2_ n3_ n4_ n5_ n6_ n7_; clear hb hbox hg; have hnb7 := NB110_101.out; have hnc7 := NB101_110.out; have hcz8_0 : w6.cell? ⟨gb110, 0, none⟩ = some (.int .i64 0) := (blk_cell BK110.out 0).trans rfl; have hcz8_1 : w6.cell? ⟨gb110, 1, none⟩ = some (.int .i64 0) := (blk_cell BK110.out 1).trans rfl; have hcz8_2 : w6.cell? ⟨gb110, 2, none⟩ = some (.bool false) := (blk_cell BK110.out 2).trans rfl; have hcz8_3 : w6.cell? ⟨gb110, 3, none⟩ = some (.slice none 0 0) := (blk_cell BK110.out 3).trans rfl; have hcz8_4 : w6.cell? ⟨gb110, 4, none⟩ = some (.int .i64 0) := (blk_cell BK110.out 4).trans rfl; have hfz8_0 := blk_frozen BK110.out 0; have hfz8_1 := blk_frozen BK110.out 1; have hfz8_2 := blk_frozen BK110.out 2; have hfz8_3 := blk_frozen BK110.out 3; have hfz8_4 := blk_frozen BK110.out 4; obtain ⟨Ao9, co9, eo9⟩ := Kd.R_slice HO107.out; subst eo9; have hcz10_0 : w6.cell? ⟨gb101, 0, none⟩ = some (.int .i64 0) := (blk_cell BK101.out 0).trans rfl; have hcz10_1 : w6.cell? ⟨gb101, 1, none⟩ = some (.int .i64 0) := (blk_cell BK101.out 1).trans rfl; have hcz10_2 : w6.cell? ⟨gb101, 2, none⟩ = some (.bool false) := (blk_cell BK101.out 2).trans rfl; have hcz10_3 : w6.cell? ⟨gb101, 3, none⟩ = some (.slice none 0 0) := (blk_cell BK101.out 3).trans rfl; have hcz10_4 : w6.cell? ⟨gb101, 4, none⟩ = some (.int .i64 0) := (blk_cell BK101.out 4).trans rfl; have hfz10_0 := blk_frozen BK101.out 0; have hfz10_1 := blk_frozen BK101.out 1; have hfz10_2 := blk_frozen BK101.out 2; have hfz10_3 := blk_frozen BK101.out 3; have hfz10_4 := blk_frozen BK101.out 4))
    refine bodyPost_ret (results_cell_row rfl _ _ gb101 25 #[.int .i64 t102, .int .i64 t103, .bool t104, .slice Ao9 t105.length co9, .int .i64 t108] (0, 0) _ rfl (by (with_reducible repeat (first | refine blk_drewN ?_ _ | refine blk_drew ?_ | refine blk_alloc ?_ _)); refine blk_put (cs := #[.int .i64 t102, .int .i64 t103, .bool t104, .slice Ao9 t105.length co9, .int .i64 0]) ?_ 4 _ rfl; (with_reducible repeat (first | refine blk_drewN ?_ _ | refine blk_drew ?_ | refine blk_alloc ?_ _)); refine blk_put (cs := #[.int .i64 t102, .int .i64 t103, .bool t104, .slice none 0 0, .int .i64 0]) ?_ 3 _ rfl; (with_reducible repeat (first | refine blk_drewN ?_ _ | refine blk_drew ?_ | refine blk_alloc ?_ _)); refine blk_put (cs := #[.int .i64 t102, .int .i64 t103, .bool false, .slice none 0 0, .int .i64 0]) ?_ 2 _ rfl; (with_reducible repeat (first | refine blk_drewN ?_ _ | refine blk_drew ?_ | refine blk_alloc ?_ _)); refine blk_put (cs := #[.int .i64 t102, .int .i64 0, .bool false, .slice none 0 0, .int .i64 0]) ?_ 1 _ rfl; (with_reducible repeat (first | refine blk_drewN ?_ _ | refine blk_drew ?_ | refine blk_alloc ?_ _)); refine blk_put (cs := #[.int .i64 0, .int .i64 0, .bool false, .slice none 0 0, .int .i64 0]) ?_ 0 _ rfl; (with_reducible repeat (first | refine blk_drewN ?_ _ | refine blk_drew ?_ | refine blk_alloc ?_ _)); refine blk_far ?_ NB101_110.out _; (with_reducible repeat (first | refine blk_drewN ?_ _ | refine blk_drew ?_ | refine blk_alloc ?_ _)); refine blk_far ?_ NB101_110.out _; (with_reducible repeat (first | refine blk_drewN ?_ _ | refine blk_drew ?_ | refine blk_alloc ?_ _)); refine blk_far ?_ NB101_110.out _; (with_reducible repeat (first | refine blk_drewN ?_ _ | refine blk_drew ?_ | refine blk_alloc ?_ _)); refine blk_far ?_ NB101_110.out _; (with_reducible repeat (first | refine blk_drewN ?_ _ | refine blk_drew ?_ | refine blk_alloc ?_ _)); refine blk_far ?_ NB101_110.out _; (with_reducible repeat (first | refine blk_drewN ?_ _ | refine blk_drew ?_ | refine blk_alloc ?_ _)); exact BK101.out) Tryz.underlying25 rfl (by kernel_rfl)) rfl ?_
    exact ⟨_, by first | rfl | (simp [errW_none, errW_some] <;> rfl) | (simp [*, errW_none, errW_some] <;> rfl), by (with_reducible repeat (first | apply Kd.R_alloc | apply Kd.R_drewN | apply Kd.R_drew)); exact Kd.R_mono (Kd.R_far (p := ⟨gb101, 4, none⟩) (Kd.R_far (p := ⟨gb101, 3, none⟩) (Kd.R_far (p := ⟨gb101, 2, none⟩) (Kd.R_far (p := ⟨gb101, 1, none⟩) (Kd.R_far (p := ⟨gb101, 0, none⟩) (Kd.R_far (p := ⟨gb110, 4, none⟩) (Kd.R_far (p := ⟨gb110, 3, none⟩) (Kd.R_far (p := ⟨gb110, 2, none⟩) (Kd.R_far (p := ⟨gb110, 1, none⟩) (Kd.R_far (p := ⟨gb110, 0, none⟩) (Kd.R_types (Kd.R_types HO107.out BK110.out (by decide)) BK101.out (by decide)) (fun _ hk => hk.1.2) (.int .i64 t102)) (fun _ hk => hk.1.2) (.int .i64 t103)) (fun _ hk => hk.1.2) (.bool t104)) (fun _ hk => hk.1.2) (.slice Ao9 t105.length co9)) (fun _ hk => hk.1.2) (.int .i64 t108)) (fun _ hk => hk.2) (.int .i64 t102)) (fun _ hk => hk.2) (.int .i64 t103)) (fun _ hk => hk.2) (.bool t104)) (fun _ hk => hk.2) (.slice Ao9 t105.length co9)) (fun _ hk => hk.2) (.int .i64 t108)) (fun _ hk => trivial), by repeat (first | (with_reducible first | exact HB.out | apply below_alloc | apply pw_below_drewN | apply below_drew1 | refine below_set ?_ GE101.out | refine below_set ?_ GE110.out) | exact HB.out)⟩
  · rw [if_neg c3] at H
    have c3b0 : (t109 == 0) = false := beq_eq_false_iff_ne.mpr c3
    have c3b1 : (t109 != 0) = true := bne_iff_ne.mpr c3
    simp only [Option.some.injEq, Prod.mk.injEq] at H
    obtain ⟨rfl, rfl, rfl, rfl, rfl⟩ := H
    go_enter Tryz.func34, Tryz.ntmps34
    go_wp2_with (first | ((with_reducible refine gate_dst (N := 2) rfl ?_); refine box_event ?hg (N := 2) ?hd (cs := #[.int .i64 0, .int .i64 0, .bool false, .slice none 0 0, .int .i64 0]) (t := 25) ?hr ?_; (case hd => rfl); (case hg => rfl); (case hr => first | (go_simp; done) | (go_simp; rfl)); intro gb101 hg w11 hbox hb; have n0_ := Aside0.mk (below_step (by repeat (first | (with_reducible first | exact HB.out | apply below_alloc | apply pw_below_drewN | apply below_drew1) | exact HB.out)) hb); have n1_ := Aside0.mk (hbox); have n2_ := Aside0.mk ((by rw [hg]; exact (below_size (by repeat (first | (with_reducible first | exact HB.out | apply below_alloc | apply pw_below_drewN | apply below_drew1) | exact HB.out))) : w.heap.size ≤ gb101)); have n3_ := Aside0.mk ((by rw [hg]; exact (below_size (by repeat (first | (with_reducible first | exact HB.out | apply below_alloc | apply pw_below_drewN | apply below_drew1) | exact HB.out))) : w.heap.size ≤ gb101)); clear HB; have HB := n0_; have BK101 := n1_; have GW101 := n2_; have GE101 := n3_; clear n0_ n1_ n2_ n3_; clear hb hbox hg) | ((with_reducible refine gate_callee (f := 31) rfl ?_); refine goesL_ (some 8) rfl rfl Tryz.func31 (by kernel_rfl) rfl #[.int .i64 1, .agg #[.int .u64 0, .int .u64 a0]] rfl (by (try simp only [List.map_toArray, List.map_cons, List.map_nil]); first | done | rfl | (simp only [List.length_drop, List.length_take]; rfl)) ?_; (with_reducible refine (binary_Decode.calls 1 0 a0 t102 t103 t104 t105 t108 t109 _ A2.out).mono ?_); rintro e w12 ⟨v106, rfl, ho0, hb⟩; refine ⟨_, rfl, ?_⟩; have n0_ := Aside0.mk (Kd.R_lower ho0 (below_size (by repeat (first | (with_reducible first | exact HB.out | apply below_alloc | apply pw_below_drewN | apply below_drew1 | refine below_set ?_ GE101.out) | exact HB.out)))); have n1_ := Aside0.mk (blk_below (g := gb101) (o := .cells #[.int .i64 0, .int .i64 0, .bool false, .slice none 0 0, .int .i64 0] 25 (0, 0)) (by (with_reducible repeat (first | refine blk_drewN ?_ _ | refine blk_drew ?_ | refine blk_alloc ?_ _)); exact BK101.out) hb); have n2_ := Aside0.mk (below_step (by repeat (first | (with_reducible first | exact HB.out | apply below_alloc | apply pw_below_drewN | apply below_drew1 | refine below_set ?_ GE101.out) | exact HB.out)) hb); clear BK101; clear HB; have HO107 := n0_; have BK101 := n1_; have HB := n2_; clear n0_ n1_ n2_; (try clear hb); (try clear hb2); (try clear hk); (try clear hi); (try clear ho0)) | ((with_reducible refine gate_dst (N := 3) rfl ?_); refine box_event ?hg (N := 3) ?hd (cs := #[.int .i64 0, .int .i64 0, .bool false, .slice none 0 0, .int .i64 0]) (t := 25) ?hr ?_; (case hd => rfl); (case hg => rfl); (case hr => first | (go_simp; done) | (go_simp; rfl)); intro gb110 hg w13 hbox hb; have n0_ := Aside0.mk (Kd.R_below (by (with_reducible repeat (first | apply Kd.R_alloc | apply Kd.R_drewN | apply Kd.R_drew)); exact HO107.out) hb); have n1_ := Aside0.mk (blk_below (g := gb101) (o := .cells #[.int .i64 0, .int .i64 0, .bool false, .slice none 0 0, .int .i64 0] 25 (0, 0)) (by (with_reducible repeat (first | refine blk_drewN ?_ _ | refine blk_drew ?_ | refine blk_alloc ?_ _)); exact BK101.out) hb); have n2_ := Aside0.mk (below_step (by repeat (first | (with_reducible first | exact HB.out | apply below_alloc | apply pw_below_drewN | apply below_drew1 | refine below_set ?_ GE101.out) | exact HB.out)) hb); have n3_ := Aside0.mk (hbox); have n4_ := Aside0.mk ((by rw [hg]; exact (below_size (by repeat (first | (with_reducible first | exact HB.out | apply below_alloc | apply pw_below_drewN | apply below_drew1 | refine below_set ?_ GE101.out) | exact HB.out))) : w.heap.size ≤ gb110)); have n5_ := Aside0.mk ((by rw [hg]; exact (below_size (by repeat (first | (with_reducible first | exact HB.out | apply below_alloc | apply pw_below_drewN | apply below_drew1 | refine below_set ?_ GE101.out) | exact HB.out))) : w.heap.size ≤ gb110)); have n6_ := Aside0.mk ((by rw [hg]; exact Nat.ne_of_lt (blk_lt (g := gb101) (o := .cells #[.int .i64 0, .int .i64 0, .bool false, .slice none 0 0, .int .i64 0] 25 (0, 0)) (by (with_reducible repeat (first | refine blk_drewN ?_ _ | refine blk_drew ?_ | refine blk_alloc ?_ _)); exact BK101.out)) : gb101 ≠ gb110)); have n7_ := Aside0.mk ((by rw [hg]; exact Nat.ne_of_gt (blk_lt (g := gb101) (o := .cells #[.int .i64 0, .int .i64 0, .bool false, .slice none 0 0, .int .i64 0] 25 (0, 0)) (by (with_reducible repeat (first | refine blk_drewN ?_ _ | refine blk_drew ?_ | refine blk_alloc ?_ _)); exact BK101.out)) : gb110 ≠ gb101)); clear HO107; clear BK101; clear HB; have HO107 := n0_; have BK101 := n1_; have HB := n2_; have BK110 := n3_; have GW110 := n4_; have GE110 := n5_; have NB101_110 := n6_; have NB110_101 := n7_; clear n0_ n1_ n2_ n3_ n4_ n5_ n6_ n7_; clear hb hbox hg; have hnb14 := NB110_101.out; have hnc14 := NB101_110.out; have hcz15_0 : w13.cell? ⟨gb110, 0, none⟩ = some (.int .i64 0) := (blk_cell BK110.out 0).trans rfl; have hcz15_1 : w13.cell? ⟨gb110, 1, none⟩ = some (.int .i64 0) := (blk_cell BK110.out 1).trans rfl; have hcz15_2 : w13.cell? ⟨gb110, 2, none⟩ = some (.bool false) := (blk_cell BK110.out 2).trans rfl; have hcz15_3 : w13.cell? ⟨gb110, 3, none⟩ = some (.slice none 0 0) := (blk_cell BK110.out 3).trans rfl; have hcz15_4 : w13.cell? ⟨gb110, 4, none⟩ = some (.int .i64 0) := (blk_cell BK110.out 4).trans rfl; have hfz15_0 := blk_frozen BK110.out 0; have hfz15_1 := blk_frozen BK110.out 1; have hfz15_2 := blk_frozen BK110.out 2; have hfz15_3 := blk_frozen BK110.out 3; have hfz15_4 := blk_frozen BK110.out 4; obtain ⟨Ao16, co16, eo16⟩ := Kd.R_slice HO107.out; subst eo16; have hcz17_0 : w13.cell? ⟨gb101, 0, none⟩ = some (.int .i64 0) := (blk_cell BK101.out 0).trans rfl; have hcz17_1 : w13.cell? ⟨gb101, 1, none⟩ = some (.int .i64 0) := (blk_cell BK101.out 1).trans rfl; have hcz17_2 : w13.cell? ⟨gb101, 2, none⟩ = some (.bool false) := (blk_cell BK101.out 2).trans rfl; have hcz17_3 : w13.cell? ⟨gb101, 3, none⟩ = some (.slice none 0 0) := (blk_cell BK101.out 3).trans rfl; have hcz17_4 : w13.cell? ⟨gb101, 4, none⟩ = some (.int .i64 0) := (blk_cell BK101.out 4).trans rfl; have hfz17_0 := blk_frozen BK101.out 0; have hfz17_1 := blk_frozen BK101.out 1; have hfz17_2 := blk_frozen BK101.out 2; have hfz17_3 := blk_frozen BK101.out 3; have hfz17_4 := blk_frozen BK101.out 4))
    refine bodyPost_ret (results_cell_row rfl _ _ gb101 25 #[.int .i64 0, .int .i64 0, .bool false, .slice none 0 0, .int .i64 0] (0, 0) _ rfl (by (with_reducible repeat (first | refine blk_drewN ?_ _ | refine blk_drew ?_ | refine blk_alloc ?_ _)); refine blk_put (cs := #[.int .i64 0, .int .i64 0, .bool false, .slice none 0 0, .int .i64 0]) ?_ 4 _ rfl; (with_reducible repeat (first | refine blk_drewN ?_ _ | refine blk_drew ?_ | refine blk_alloc ?_ _)); refine blk_put (cs := #[.int .i64 0, .int .i64 0, .bool false, .slice none 0 0, .int .i64 0]) ?_ 3 _ rfl; (with_reducible repeat (first | refine blk_drewN ?_ _ | refine blk_drew ?_ | refine blk_alloc ?_ _)); refine blk_put (cs := #[.int .i64 0, .int .i64 0, .bool false, .slice none 0 0, .int .i64 0]) ?_ 2 _ rfl; (with_reducible repeat (first | refine blk_drewN ?_ _ | refine blk_drew ?_ | refine blk_alloc ?_ _)); refine blk_put (cs := #[.int .i64 0, .int .i64 0, .bool false, .slice none 0 0, .int .i64 0]) ?_ 1 _ rfl; (with_reducible repeat (first | refine blk_drewN ?_ _ | refine blk_drew ?_ | refine blk_alloc ?_ _)); refine blk_put (cs := #[.int .i64 0, .int .i64 0, .bool false, .slice none 0 0, .int .i64 0]) ?_ 0 _ rfl; (with_reducible repeat (first | refine blk_drewN ?_ _ | refine blk_drew ?_ | refine blk_alloc ?_ _)); refine blk_far ?_ NB101_110.out _; (with_reducible repeat (first | refine blk_drewN ?_ _ | refine blk_drew ?_ | refine blk_alloc ?_ _)); refine blk_far ?_ NB101_110.out _; (with_reducible repeat (first | refine blk_drewN ?_ _ | refine blk_drew ?_ | refine blk_alloc ?_ _)); refine blk_far ?_ NB101_110.out _; (with_reducible repeat (first | refine blk_drewN ?_ _ | refine blk_drew ?_ | refine blk_alloc ?_ _)); refine blk_far ?_ NB101_110.out _; (with_reducible repeat (first | refine blk_drewN ?_ _ | refine blk_drew ?_ | refine blk_alloc ?_ _)); refine blk_far ?_ NB101_110.out _; (with_reducible repeat (first | refine blk_drewN ?_ _ | refine blk_drew ?_ | refine blk_alloc ?_ _)); exact BK101.out) Tryz.underlying25 rfl (by kernel_rfl)) rfl ?_
    exact ⟨_, by first | rfl | (simp [errW_none, errW_some] <;> rfl) | (simp [*, errW_none, errW_some] <;> rfl), by first | exact Kd.R_nil _ _ _ _ _ | exact Kd.N_nil _ _ _ _ _ | exact Kd.V_nil _ _ _ _ _ | exact Kd.Q_nil _ _ _ _ _ | exact Kd.S_nil _ _ _ _ _, by repeat (first | (with_reducible first | exact HB.out | apply below_alloc | apply pw_below_drewN | apply below_drew1 | refine below_set ?_ GE101.out | refine below_set ?_ GE110.out) | exact HB.out)⟩

end Go.Proofs.YtacnkcojhlbkoaaGreatDoor.XHalf

set_option linter.unusedSimpArgs false
set_option linter.unusedVariables false
set_option linter.unnecessarySimpa false
namespace Go.Proofs.YtacnkcojhlbkoaaGreatDoor
open Go.RowKit Go.Proofs.YtacnkcojhlbkoaaGreatDoorW.PrintWords Go.Proofs.YtacnkcojhlbkoaaGreatDoorW.PrintLast Go.Proofs.YtacnkcojhlbkoaaGreatDoorW.PrintMore Go.Proofs.YtacnkcojhlbkoaaGreatDoor.NL
set_option maxRecDepth 100000
set_option exponentiation.threshold 130

theorem li1 : binary_Encode.f 2 1 false [8388608] (-23) = some (0, 1065353216, 0) := by decide +kernel
theorem li2 : binary_Decode.f 4 0 9223372036854775808 = some (4, 1, false, [0, 2147483648], -16445, 0) := by decide +kernel
theorem li3 : binary_Decode.f 4 16384 0 = some (4, 4, false, [1], 0, 0) := by decide +kernel
theorem li4 : XCanon.binary_Canonical.f 4 0 9223372036854775808 = some (false, 0) := by decide +kernel
theorem li5 : sorobanref01_Bits.f [0, 2147483648] = some 64 := by decide +kernel
theorem li6 : XHalf.sorobanlaw05_half.f 31744 = some (1, 2, false, [], 0) := by decide +kernel
theorem li7 : XHalf.sorobanlaw05_half.f 32257 = some (1, 3, false, [1], 0) := by decide +kernel
theorem li8 : XHalf.sorobanlaw05_half.f 31749 = some (1, 4, false, [5], 0) := by decide +kernel
theorem li9 : XHalf.sorobanlaw05_half.f 32768 = some (1, 1, true, [], -24) := by decide +kernel
theorem li10 : XHalf.sorobanlaw05_half.f 15360 = some (1, 1, false, [1024], -10) := by decide +kernel
theorem li11 : binary_Make.f 1 false [4097] 0 = some (0, 0, false, [], 0, 3) := by decide +kernel
theorem li12 : binary_Make.f 1 false [4096] 0 = some (1, 1, false, [1024], 2, 0) := by decide +kernel
theorem li13 : binary_Index.f 1 1 false [1024] (-10) = some (false, [15360], 0) := by decide +kernel
end Go.Proofs.YtacnkcojhlbkoaaGreatDoor

set_option linter.unusedSimpArgs false
set_option linter.unusedVariables false
set_option linter.unnecessarySimpa false
namespace Go.Proofs.YtacnkcojhlbkoaaGreatDoor
open Go.RowKit Go.Proofs.YtacnkcojhlbkoaaGreatDoorW.PrintWords Go.Proofs.YtacnkcojhlbkoaaGreatDoorW.PrintLast Go.Proofs.YtacnkcojhlbkoaaGreatDoorW.PrintMore Go.Proofs.YtacnkcojhlbkoaaGreatDoor.NL
set_option maxRecDepth 100000
set_option exponentiation.threshold 130

theorem lit_D {fn : FuncId} {args : Array Value} {w' : World} {f cl ex er : Int} {ng : Bool} {l : List Int} {n : Nat} (hn : l.length = n) (h : Calls Tryz.prog fn args w' fun e w'' => ∃ v3_ : Value, e = .returned (.tuple #[.agg #[.int .i64 f, .int .i64 cl, .bool ng, v3_, .int .i64 ex], .int .i64 er]) ∧ Kd.R (Kd.int .u32) 40 w'' w'.heap.size (fun _ => True) v3_ l ∧ Below w'.heap.size w' w'') :
    Calls Tryz.prog fn args w' fun e w'' => ∃ (A : Option Addr) (c : Nat), e = .returned (.tuple #[.agg #[.int .i64 f, .int .i64 cl, .bool ng, .slice A n c, .int .i64 ex], .int .i64 er]) ∧ Hid (Kd.C (Kd.int .u32) w'' A n l ∧ n ≤ c) ∧ Below w'.heap.size w' w'' := by
  subst hn
  refine h.mono ?_
  rintro e w'' ⟨v, rfl, hv, hb⟩
  obtain ⟨A, c, rfl⟩ := Kd.R_slice hv
  exact ⟨A, c, rfl, Lib.hid (R_C hv), hb⟩
theorem lit_H {fn : FuncId} {args : Array Value} {w' : World} {f cl ex : Int} {ng : Bool} {l : List Int} {n : Nat} (hn : l.length = n) (h : Calls Tryz.prog fn args w' fun e w'' => ∃ v3_ : Value, e = .returned (.agg #[.int .i64 f, .int .i64 cl, .bool ng, v3_, .int .i64 ex]) ∧ Kd.R (Kd.int .u32) 40 w'' w'.heap.size (fun _ => True) v3_ l ∧ Below w'.heap.size w' w'') :
    Calls Tryz.prog fn args w' fun e w'' => ∃ (A : Option Addr) (c : Nat), e = .returned (.agg #[.int .i64 f, .int .i64 cl, .bool ng, .slice A n c, .int .i64 ex]) ∧ Hid (Kd.C (Kd.int .u32) w'' A n l ∧ n ≤ c) ∧ Below w'.heap.size w' w'' := by
  subst hn
  refine h.mono ?_
  rintro e w'' ⟨v, rfl, hv, hb⟩
  obtain ⟨A, c, rfl⟩ := Kd.R_slice hv
  exact ⟨A, c, rfl, Lib.hid (R_C hv), hb⟩
theorem lit_I {fn : FuncId} {args : Array Value} {w' : World} {er : Int} {ng : Bool} {l : List Int} {n : Nat} (hn : l.length = n) (h : Calls Tryz.prog fn args w' fun e w'' => ∃ v1_ : Value, e = .returned (.tuple #[.agg #[.bool ng, v1_], .int .i64 er]) ∧ Kd.R (Kd.int .u32) 40 w'' w'.heap.size (fun _ => True) v1_ l ∧ Below w'.heap.size w' w'') :
    Calls Tryz.prog fn args w' fun e w'' => ∃ (A : Option Addr) (c : Nat), e = .returned (.tuple #[.agg #[.bool ng, .slice A n c], .int .i64 er]) ∧ Hid (Kd.C (Kd.int .u32) w'' A n l ∧ n ≤ c) ∧ Below w'.heap.size w' w'' := by
  subst hn
  refine h.mono ?_
  rintro e w'' ⟨v, rfl, hv, hb⟩
  obtain ⟨A, c, rfl⟩ := Kd.R_slice hv
  exact ⟨A, c, rfl, Lib.hid (R_C hv), hb⟩

set_option maxHeartbeats 16000000 in
theorem sanity_ok (w : World) (hT : Tab w) : Calls Tryz.prog 6 #[] w fun e w' => e = .returned (.bool true) ∧ Below w.heap.size w w' := by
  have HO : Hid (∀ (W : World) (x : Int), Kd.C (Kd.int .u32) (W.alloc (.cells #[.int .u32 x] 40)) (some ⟨W.heap.size, 0, none⟩) 1 [x]) := Lib.hid fun W x => (R_C (R_fresh W W.heap.size rfl [x] #[.int .u32 x] rfl 1 rfl (Nat.le_refl _) (by simp))).1
  have HE : Hid (∀ w' A, Kd.C (Kd.int .u32) w' A 1 [8388608] → Calls Tryz.prog 30 #[.agg #[.int .i64 2, .int .i64 1, .bool false, .slice A 1 1, .int .i64 (-23)]] w' fun e w'' => e = .returned (.tuple #[.agg #[.int .u64 0, .int .u64 1065353216], .int .i64 0]) ∧ Below w'.heap.size w' w'') := Lib.hid fun w' A h => binary_Encode.calls 2 1 false A 1 [8388608] (-23) 0 1065353216 0 w' h (Nat.le_refl _) li1
  have HD1 : Hid (∀ w', Calls Tryz.prog 31 #[.int .i64 4, .agg #[.int .u64 0, .int .u64 9223372036854775808]] w' fun e w'' => ∃ (A : Option Addr) (c : Nat), e = .returned (.tuple #[.agg #[.int .i64 4, .int .i64 1, .bool false, .slice A 2 c, .int .i64 (-16445)], .int .i64 0]) ∧ Hid (Kd.C (Kd.int .u32) w'' A 2 [0, 2147483648] ∧ 2 ≤ c) ∧ Below w'.heap.size w' w'') := Lib.hid fun w' => lit_D rfl (binary_Decode.calls 4 0 9223372036854775808 4 1 false [0, 2147483648] (-16445) 0 w' li2)
  have HD2 : Hid (∀ w', Calls Tryz.prog 31 #[.int .i64 4, .agg #[.int .u64 16384, .int .u64 0]] w' fun e w'' => ∃ (A : Option Addr) (c : Nat), e = .returned (.tuple #[.agg #[.int .i64 4, .int .i64 4, .bool false, .slice A 1 c, .int .i64 (0)], .int .i64 0]) ∧ Hid (Kd.C (Kd.int .u32) w'' A 1 [1] ∧ 1 ≤ c) ∧ Below w'.heap.size w' w'') := Lib.hid fun w' => lit_D rfl (binary_Decode.calls 4 16384 0 4 4 false [1] 0 0 w' li3)
  have HCN : Hid (∀ w', Calls Tryz.prog 32 #[.int .i64 4, .agg #[.int .u64 0, .int .u64 9223372036854775808]] w' fun e w'' => e = .returned (.tuple #[.bool false, .int .i64 0]) ∧ Below w'.heap.size w' w'') := Lib.hid fun w' => XCanon.binary_Canonical.calls 4 0 9223372036854775808 false 0 w' li4
  have HB : Hid (∀ w' A c, Kd.C (Kd.int .u32) w' A 2 [0, 2147483648] → 2 ≤ c → Calls Tryz.prog 33 #[.slice A 2 c] w' fun e w'' => e = .returned (.int .i64 64) ∧ Below w'.heap.size w' w'') := Lib.hid fun w' A c h1 h2 => sorobanref01_Bits.calls A c [0, 2147483648] 64 w' h1 h2 li5
  have HH0 : Hid (∀ w', Calls Tryz.prog 34 #[.int .u64 31744] w' fun e w'' => ∃ (A : Option Addr) (c : Nat), e = .returned (.agg #[.int .i64 1, .int .i64 2, .bool false, .slice A 0 c, .int .i64 (0)]) ∧ Hid (Kd.C (Kd.int .u32) w'' A 0 [] ∧ 0 ≤ c) ∧ Below w'.heap.size w' w'') := Lib.hid fun w' => lit_H rfl (XHalf.sorobanlaw05_half.calls 31744 1 2 false [] (0) w' li6)
  have HH1 : Hid (∀ w', Calls Tryz.prog 34 #[.int .u64 32257] w' fun e w'' => ∃ (A : Option Addr) (c : Nat), e = .returned (.agg #[.int .i64 1, .int .i64 3, .bool false, .slice A 1 c, .int .i64 (0)]) ∧ Hid (Kd.C (Kd.int .u32) w'' A 1 [1] ∧ 1 ≤ c) ∧ Below w'.heap.size w' w'') := Lib.hid fun w' => lit_H rfl (XHalf.sorobanlaw05_half.calls 32257 1 3 false [1] (0) w' li7)
  have HH2 : Hid (∀ w', Calls Tryz.prog 34 #[.int .u64 31749] w' fun e w'' => ∃ (A : Option Addr) (c : Nat), e = .returned (.agg #[.int .i64 1, .int .i64 4, .bool false, .slice A 1 c, .int .i64 (0)]) ∧ Hid (Kd.C (Kd.int .u32) w'' A 1 [5] ∧ 1 ≤ c) ∧ Below w'.heap.size w' w'') := Lib.hid fun w' => lit_H rfl (XHalf.sorobanlaw05_half.calls 31749 1 4 false [5] (0) w' li8)
  have HH3 : Hid (∀ w', Calls Tryz.prog 34 #[.int .u64 32768] w' fun e w'' => ∃ (A : Option Addr) (c : Nat), e = .returned (.agg #[.int .i64 1, .int .i64 1, .bool true, .slice A 0 c, .int .i64 (-24)]) ∧ Hid (Kd.C (Kd.int .u32) w'' A 0 [] ∧ 0 ≤ c) ∧ Below w'.heap.size w' w'') := Lib.hid fun w' => lit_H rfl (XHalf.sorobanlaw05_half.calls 32768 1 1 true [] (-24) w' li9)
  have HH4 : Hid (∀ w', Calls Tryz.prog 34 #[.int .u64 15360] w' fun e w'' => ∃ (A : Option Addr) (c : Nat), e = .returned (.agg #[.int .i64 1, .int .i64 1, .bool false, .slice A 1 c, .int .i64 (-10)]) ∧ Hid (Kd.C (Kd.int .u32) w'' A 1 [1024] ∧ 1 ≤ c) ∧ Below w'.heap.size w' w'') := Lib.hid fun w' => lit_H rfl (XHalf.sorobanlaw05_half.calls 15360 1 1 false [1024] (-10) w' li10)
  have HS0 : Hid (∀ w' A c, Kd.C (Kd.int .u32) w' A 0 [] → 0 ≤ c → Calls Tryz.prog 10 #[.agg #[.int .i64 1, .int .i64 2, .bool false, .slice A 0 c, .int .i64 (0)], .agg #[.int .i64 1, .int .i64 2, .bool false, .slice none 0 0, .int .i64 (0)]] w' fun e w'' => e = .returned (.bool true) ∧ Below w'.heap.size w' w'') := Lib.hid fun w' A c h1 h2 => sorobanref05_Same.calls 1 2 false A c [] (0) 1 2 false none 0 [] (0) true w' h1 h2 (R_nilC w') (Nat.le_refl _) (by decide)
  have HS1 : Hid (∀ w' A c B, Kd.C (Kd.int .u32) w' A 1 [1] → 1 ≤ c → Kd.C (Kd.int .u32) w' B 1 [1] → Calls Tryz.prog 10 #[.agg #[.int .i64 1, .int .i64 3, .bool false, .slice A 1 c, .int .i64 (0)], .agg #[.int .i64 1, .int .i64 3, .bool false, .slice B 1 1, .int .i64 (0)]] w' fun e w'' => e = .returned (.bool true) ∧ Below w'.heap.size w' w'') := Lib.hid fun w' A c B h1 h2 h3 => sorobanref05_Same.calls 1 3 false A c [1] (0) 1 3 false B 1 [1] (0) true w' h1 h2 h3 (Nat.le_refl _) (by decide)
  have HS2 : Hid (∀ w' A c B, Kd.C (Kd.int .u32) w' A 1 [5] → 1 ≤ c → Kd.C (Kd.int .u32) w' B 1 [5] → Calls Tryz.prog 10 #[.agg #[.int .i64 1, .int .i64 4, .bool false, .slice A 1 c, .int .i64 (0)], .agg #[.int .i64 1, .int .i64 4, .bool false, .slice B 1 1, .int .i64 (0)]] w' fun e w'' => e = .returned (.bool true) ∧ Below w'.heap.size w' w'') := Lib.hid fun w' A c B h1 h2 h3 => sorobanref05_Same.calls 1 4 false A c [5] (0) 1 4 false B 1 [5] (0) true w' h1 h2 h3 (Nat.le_refl _) (by decide)
  have HS3 : Hid (∀ w' A c, Kd.C (Kd.int .u32) w' A 0 [] → 0 ≤ c → Calls Tryz.prog 10 #[.agg #[.int .i64 1, .int .i64 1, .bool true, .slice A 0 c, .int .i64 (-24)], .agg #[.int .i64 1, .int .i64 1, .bool true, .slice none 0 0, .int .i64 (-24)]] w' fun e w'' => e = .returned (.bool true) ∧ Below w'.heap.size w' w'') := Lib.hid fun w' A c h1 h2 => sorobanref05_Same.calls 1 1 true A c [] (-24) 1 1 true none 0 [] (-24) true w' h1 h2 (R_nilC w') (Nat.le_refl _) (by decide)
  have HS4 : Hid (∀ w' A c B, Kd.C (Kd.int .u32) w' A 1 [1024] → 1 ≤ c → Kd.C (Kd.int .u32) w' B 1 [1024] → Calls Tryz.prog 10 #[.agg #[.int .i64 1, .int .i64 1, .bool false, .slice A 1 c, .int .i64 (2)], .agg #[.int .i64 1, .int .i64 1, .bool false, .slice B 1 1, .int .i64 (2)]] w' fun e w'' => e = .returned (.bool true) ∧ Below w'.heap.size w' w'') := Lib.hid fun w' A c B h1 h2 h3 => sorobanref05_Same.calls 1 1 false A c [1024] 2 1 1 false B 1 [1024] 2 true w' h1 h2 h3 (Nat.le_refl _) (by decide)
  have HS5 : Hid (∀ w' A c B, Kd.C (Kd.int .u32) w' A 1 [15360] → 1 ≤ c → Kd.C (Kd.int .u32) w' B 1 [15360] → Calls Tryz.prog 36 #[.slice A 1 c, .slice B 1 1] w' fun e w'' => e = .returned (.bool true) ∧ Below w'.heap.size w' w'') := Lib.hid fun w' A c B h1 h2 h3 => sorobanref01_Same.calls A c [15360] B 1 [15360] true w' h1 h2 h3 (Nat.le_refl _) (by decide)
  have HM1 : Hid (∀ w' B (_ : Below w.heap.size w w') (_ : Kd.C (Kd.int .u32) w' B 1 [4097]), Calls Tryz.prog 35 #[.int .i64 1, .bool false, .slice B 1 1, .int .i64 0] w' fun e w'' => ∃ (A : Option Addr) (c : Nat), e = .returned (.tuple #[.agg #[.int .i64 0, .int .i64 0, .bool false, .slice A 0 c, .int .i64 (0)], .int .i64 3]) ∧ Hid (Kd.C (Kd.int .u32) w'' A 0 [] ∧ 0 ≤ c) ∧ Below w'.heap.size w' w'') := Lib.hid fun w' B h1 h2 => lit_D rfl (binary_Make.calls 1 false B 1 [4097] 0 0 0 false [] 0 3 w' h2 (Nat.le_refl _) li11 (hT.below h1))
  have HM2 : Hid (∀ w' B (_ : Below w.heap.size w w') (_ : Kd.C (Kd.int .u32) w' B 1 [4096]), Calls Tryz.prog 35 #[.int .i64 1, .bool false, .slice B 1 1, .int .i64 0] w' fun e w'' => ∃ (A : Option Addr) (c : Nat), e = .returned (.tuple #[.agg #[.int .i64 1, .int .i64 1, .bool false, .slice A 1 c, .int .i64 (2)], .int .i64 0]) ∧ Hid (Kd.C (Kd.int .u32) w'' A 1 [1024] ∧ 1 ≤ c) ∧ Below w'.heap.size w' w'') := Lib.hid fun w' B h1 h2 => lit_D rfl (binary_Make.calls 1 false B 1 [4096] 0 1 1 false [1024] 2 0 w' h2 (Nat.le_refl _) li12 (hT.below h1))
  have HI : Hid (∀ w' A c, Kd.C (Kd.int .u32) w' A 1 [1024] → 1 ≤ c → Calls Tryz.prog 22 #[.agg #[.int .i64 1, .int .i64 1, .bool false, .slice A 1 c, .int .i64 (-10)]] w' fun e w'' => ∃ (A : Option Addr) (c : Nat), e = .returned (.tuple #[.agg #[.bool false, .slice A 1 c], .int .i64 0]) ∧ Hid (Kd.C (Kd.int .u32) w'' A 1 [15360] ∧ 1 ≤ c) ∧ Below w'.heap.size w' w'') := Lib.hid fun w' A c h1 h2 => lit_I rfl (binary_Index.calls 1 1 false A c [1024] (-10) false [15360] 0 w' h1 h2 li13)
  clear hT
  go_enter Tryz.func6, Tryz.ntmps6
  go_upto_region 4 with (first | (go_at_call 30; (with_reducible refine (HE.out _ _ (HO.out _ 8388608)).mono ?_); rintro e w1 ⟨rfl, b1⟩; obtain ⟨hc1, hf1⟩ := bcell b1; have hz1 := below_size b1; (try simp at hz1)) | (go_at_call 31; (with_reducible refine (HD1.out _).mono ?_); rintro e w2 ⟨A2, c2, rfl, HV2, b2⟩; obtain ⟨hc2, hf2⟩ := bcell b2; have hz2 := below_size b2; (try simp at hz2); (try have yw12 : w1.heap.size < w2.heap.size := (by omega))) | (go_at_call 31; (with_reducible refine (HD2.out _).mono ?_); rintro e w3 ⟨A3, c3, rfl, HV3, b3⟩; obtain ⟨hc3, hf3⟩ := bcell b3; have hz3 := below_size b3; (try simp at hz3); (try have yw13 : w1.heap.size < w3.heap.size := (by omega)); (try have yw23 : w2.heap.size < w3.heap.size := (by omega))))
  go_cut [1, 3, 5, 7, 8] (fun v1 v3 v5 v7 v8 wx => ∃ (p1 p3 p5 : Nat) (A : Option Addr) (c : Nat) (A' : Option Addr) (c' : Nat), v1 = .pointer (some ⟨p1, 0, none⟩) ∧ v3 = .pointer (some ⟨p3, 0, none⟩) ∧ v5 = .pointer (some ⟨p5, 0, none⟩) ∧ v7 = .bool false ∧ v8 = .int .i64 0 ∧ BlkIs wx p1 66 (· = #[.int .u64 0, .int .u64 1065353216]) ∧ BlkIs wx p3 25 (· = #[.int .i64 4, .int .i64 1, .bool false, .slice A 2 c, .int .i64 (-16445)]) ∧ BlkIs wx p5 25 (· = #[.int .i64 4, .int .i64 4, .bool false, .slice A' 1 c', .int .i64 (0)]) ∧ Hid (Kd.C (Kd.int .u32) wx A 2 [0, 2147483648] ∧ 2 ≤ c) ∧ Below w.heap.size w wx)
  case first =>
    go_wp2_with (first | (go_at_call 32; (with_reducible refine (HCN.out _).mono ?_); rintro e w4 ⟨rfl, b4⟩; obtain ⟨hc4, hf4⟩ := bcell b4; have hz4 := below_size b4; (try simp at hz4); (try have yw14 : w1.heap.size < w4.heap.size := (by omega)); (try have yw24 : w2.heap.size < w4.heap.size := (by omega)); (try have yw34 : w3.heap.size < w4.heap.size := (by omega))))
    go_meet
    exact ⟨_, _, _, _, _, _, _, rfl, rfl, rfl, rfl, rfl, blk0, blk0, blk0, Lib.hid ⟨Kd.C_below HV2.out.1 bel, HV2.out.2⟩, bel⟩
  case rest =>
    obtain ⟨p1, p3, p5, A, c, A', c', rfl, rfl, rfl, rfl, rfl, HB1, HB3, HB5, HX, hbw⟩ := hcut
    obtain ⟨cs1, hbk1, rfl⟩ := HB1
    obtain ⟨cs3, hbk3, rfl⟩ := HB3
    obtain ⟨cs5, hbk5, rfl⟩ := HB5
    have q0 : wc.cell? ⟨p1, 0, none⟩ = some (.int .u64 0) := by simpa using blk_cell hbk1 0
    have q1 : wc.cell? ⟨p1, 1, none⟩ = some (.int .u64 1065353216) := by simpa using blk_cell hbk1 1
    have qz : p1 < wc.heap.size := blk_lt hbk1
    have r0 : wc.cell? ⟨p3, 0, none⟩ = some (.int .i64 4) := by simpa using blk_cell hbk3 0
    have r1 : wc.cell? ⟨p3, 1, none⟩ = some (.int .i64 1) := by simpa using blk_cell hbk3 1
    have r2 : wc.cell? ⟨p3, 2, none⟩ = some (.bool false) := by simpa using blk_cell hbk3 2
    have r3 : wc.cell? ⟨p3, 3, none⟩ = some (.slice A 2 c) := by simpa using blk_cell hbk3 3
    have r4 : wc.cell? ⟨p3, 4, none⟩ = some (.int .i64 (-16445)) := by simpa using blk_cell hbk3 4
    have rz : p3 < wc.heap.size := blk_lt hbk3
    have s0 : wc.cell? ⟨p5, 0, none⟩ = some (.int .i64 4) := by simpa using blk_cell hbk5 0
    have s1 : wc.cell? ⟨p5, 1, none⟩ = some (.int .i64 4) := by simpa using blk_cell hbk5 1
    have s2 : wc.cell? ⟨p5, 2, none⟩ = some (.bool false) := by simpa using blk_cell hbk5 2
    have s3 : wc.cell? ⟨p5, 3, none⟩ = some (.slice A' 1 c') := by simpa using blk_cell hbk5 3
    have s4 : wc.cell? ⟨p5, 4, none⟩ = some (.int .i64 0) := by simpa using blk_cell hbk5 4
    have sz : p5 < wc.heap.size := blk_lt hbk5
    clear hbk1 hbk3 hbk5
    go_upto_region 10 with (first | (go_at_call 33; (with_reducible refine (HB.out _ _ _ (Kd.C_below HX.out.1 bel) HX.out.2).mono ?_); rintro e w5 ⟨rfl, b5⟩; obtain ⟨hc5, hf5⟩ := bcell b5; have hz5 := below_size b5; (try simp at hz5); (try have yp15 : p1 < w5.heap.size := (by omega)); (try have yp35 : p3 < w5.heap.size := (by omega)); (try have yp55 : p5 < w5.heap.size := (by omega))) | (go_at_call 34; (with_reducible refine (HH0.out _).mono ?_); rintro e w10 ⟨A10, c10, rfl, HV10, b10⟩; obtain ⟨hc10, hf10⟩ := bcell b10; have hz10 := below_size b10; (try simp at hz10)) | (go_at_call 10; (with_reducible refine (HS0.out _ _ _ (Kd.C_below HV10.out.1 bel) HV10.out.2).mono ?_); rintro e w11 ⟨rfl, b11⟩; obtain ⟨hc11, hf11⟩ := bcell b11; have hz11 := below_size b11; (try simp at hz11)) | (go_at_call 34; (with_reducible refine (HH1.out _).mono ?_); rintro e w12 ⟨A12, c12, rfl, HV12, b12⟩; obtain ⟨hc12, hf12⟩ := bcell b12; have hz12 := below_size b12; (try simp at hz12)) | (go_at_call 10; (with_reducible refine (HS1.out _ _ _ _ (Kd.C_below HV12.out.1 bel) HV12.out.2 (HO.out _ 1)).mono ?_); rintro e w13 ⟨rfl, b13⟩; obtain ⟨hc13, hf13⟩ := bcell b13; have hz13 := below_size b13; (try simp at hz13)) | (go_at_call 34; (with_reducible refine (HH2.out _).mono ?_); rintro e w14 ⟨A14, c14, rfl, HV14, b14⟩; obtain ⟨hc14, hf14⟩ := bcell b14; have hz14 := below_size b14; (try simp at hz14)) | (go_at_call 10; (with_reducible refine (HS2.out _ _ _ _ (Kd.C_below HV14.out.1 bel) HV14.out.2 (HO.out _ 5)).mono ?_); rintro e w15 ⟨rfl, b15⟩; obtain ⟨hc15, hf15⟩ := bcell b15; have hz15 := below_size b15; (try simp at hz15)) | (go_at_call 34; (with_reducible refine (HH3.out _).mono ?_); rintro e w16 ⟨A16, c16, rfl, HV16, b16⟩; obtain ⟨hc16, hf16⟩ := bcell b16; have hz16 := below_size b16; (try simp at hz16)) | (go_at_call 10; (with_reducible refine (HS3.out _ _ _ (Kd.C_below HV16.out.1 bel) HV16.out.2).mono ?_); rintro e w17 ⟨rfl, b17⟩; obtain ⟨hc17, hf17⟩ := bcell b17; have hz17 := below_size b17; (try simp at hz17)) | (go_at_call 35; (with_reducible refine (HM1.out _ _ bel (HO.out _ 4097)).mono ?_); rintro e w20 ⟨A20, c20, rfl, HV20, b20⟩; obtain ⟨hc20, hf20⟩ := bcell b20; have hz20 := below_size b20; (try simp at hz20)))
    go_cut [2, 4, 9] (fun v2 v4 v9 wx => ∃ (p9 : Nat) (A : Option Addr) (c : Nat), v2 = .int .i64 3 ∧ v4 = .int .i64 0 ∧ v9 = .pointer (some ⟨p9, 0, none⟩) ∧ BlkIs wx p9 25 (· = #[.int .i64 1, .int .i64 1, .bool false, .slice A 1 c, .int .i64 (2)]) ∧ Hid (Kd.C (Kd.int .u32) wx A 1 [1024] ∧ 1 ≤ c) ∧ Below w.heap.size w wx)
    case first =>
      go_wp2_with (first | (go_at_call 35; (with_reducible refine (HM2.out _ _ bel (HO.out _ 4096)).mono ?_); rintro e w21 ⟨A21, c21, rfl, HV21, b21⟩; obtain ⟨hc21, hf21⟩ := bcell b21; have hz21 := below_size b21; (try simp at hz21)))
      go_meet
      exact ⟨_, _, _, rfl, rfl, rfl, blk0, Lib.hid ⟨Kd.C_below HV21.out.1 bel, HV21.out.2⟩, bel⟩
    case rest =>
      clear q0 q1 qz r0 r1 r2 r3 r4 rz s0 s1 s2 s3 s4 sz hbw
      obtain ⟨p9, A, c, rfl, rfl, rfl, HB9, HX, hbw⟩ := hcut
      have HB9h := Lib.hid HB9
      have hz9 : p9 < wc.heap.size := by obtain ⟨cs, h, -⟩ := HB9; exact blk_lt h
      clear HB9
      go_upto_region 11 with fail
      go_cut [6, 10] (fun v6 v10 wx => ∃ (p10 : Nat) (A' : Option Addr) (c' : Nat), v6 = .int .i64 0 ∧ v10 = .pointer (some ⟨p10, 0, none⟩) ∧ BlkIs wx p10 48 (· = #[.bool false, .slice A' 1 c']) ∧ Hid (Kd.C (Kd.int .u32) wx A' 1 [15360] ∧ 1 ≤ c') ∧ BlkIs wx p9 25 (· = #[.int .i64 1, .int .i64 1, .bool false, .slice A 1 c, .int .i64 (2)]) ∧ Hid (Kd.C (Kd.int .u32) wx A 1 [1024] ∧ 1 ≤ c) ∧ Below w.heap.size w wx)
      case first =>
        go_wp2_with (first | (go_at_call 34; (with_reducible refine (HH4.out _).mono ?_); rintro e w22 ⟨A22, c22, rfl, HV22, b22⟩; obtain ⟨hc22, hf22⟩ := bcell b22; have hz22 := below_size b22; (try simp at hz22); (try have yp922 : p9 < w22.heap.size := (by omega))) | (go_at_call 22; (with_reducible refine (HI.out _ _ _ (Kd.C_below HV22.out.1 bel) HV22.out.2).mono ?_); rintro e w23 ⟨A23, c23, rfl, HV23, b23⟩; obtain ⟨hc23, hf23⟩ := bcell b23; have hz23 := below_size b23; (try simp at hz23); (try have yp923 : p9 < w23.heap.size := (by omega)); (try have yw2223 : w22.heap.size < w23.heap.size := (by omega))))
        go_meet
        have HB9 := HB9h.out
        exact ⟨_, _, _, rfl, rfl, blk0, Lib.hid ⟨Kd.C_below HV23.out.1 bel, HV23.out.2⟩, blk0, Lib.hid ⟨Kd.C_below HX.out.1 bel, HX.out.2⟩, bel⟩
      case rest =>
        obtain ⟨p10, A', c', rfl, rfl, HB10, HX2, HB9, HX, hbw⟩ := hcut
        obtain ⟨cs9, hbk9, rfl⟩ := HB9
        obtain ⟨cs10, hbk10, rfl⟩ := HB10
        have r0 : wc.cell? ⟨p9, 0, none⟩ = some (.int .i64 1) := by simpa using blk_cell hbk9 0
        have r1 : wc.cell? ⟨p9, 1, none⟩ = some (.int .i64 1) := by simpa using blk_cell hbk9 1
        have r2 : wc.cell? ⟨p9, 2, none⟩ = some (.bool false) := by simpa using blk_cell hbk9 2
        have r3 : wc.cell? ⟨p9, 3, none⟩ = some (.slice A 1 c) := by simpa using blk_cell hbk9 3
        have r4 : wc.cell? ⟨p9, 4, none⟩ = some (.int .i64 2) := by simpa using blk_cell hbk9 4
        have rz : p9 < wc.heap.size := blk_lt hbk9
        have s0 : wc.cell? ⟨p10, 0, none⟩ = some (.bool false) := by simpa using blk_cell hbk10 0
        have s1 : wc.cell? ⟨p10, 1, none⟩ = some (.slice A' 1 c') := by simpa using blk_cell hbk10 1
        have sz : p10 < wc.heap.size := blk_lt hbk10
        clear hbk9 hbk10
        go_wp2_with (first | (go_at_call 10; (with_reducible refine (HS4.out _ _ _ _ (Kd.C_below HX.out.1 bel) HX.out.2 (HO.out _ 1024)).mono ?_); rintro e w24 ⟨rfl, b24⟩; obtain ⟨hc24, hf24⟩ := bcell b24; have hz24 := below_size b24; (try simp at hz24); (try have yp924 : p9 < w24.heap.size := (by omega)); (try have yw2224 : w22.heap.size < w24.heap.size := (by omega)); (try have yw2324 : w23.heap.size < w24.heap.size := (by omega)); (try have yp1024 : p10 < w24.heap.size := (by omega))) | (go_at_call 36; (with_reducible refine (HS5.out _ _ _ _ (Kd.C_below HX2.out.1 bel) HX2.out.2 (HO.out _ 15360)).mono ?_); rintro e w25 ⟨rfl, b25⟩; obtain ⟨hc25, hf25⟩ := bcell b25; have hz25 := below_size b25; (try simp at hz25)))
        go_ret
        exact ⟨by simp, bel⟩
end Go.Proofs.YtacnkcojhlbkoaaGreatDoor

set_option linter.unusedSimpArgs false
set_option linter.unusedVariables false
set_option linter.unnecessarySimpa false
namespace Go.Proofs.YtacnkcojhlbkoaaGreatDoor
open Go.RowKit Go.Proofs.YtacnkcojhlbkoaaGreatDoorW.PrintWords Go.Proofs.YtacnkcojhlbkoaaGreatDoorW.PrintLast Go.Proofs.YtacnkcojhlbkoaaGreatDoorW.PrintMore Go.Proofs.YtacnkcojhlbkoaaGreatDoor.NL
set_option maxRecDepth 100000
set_option exponentiation.threshold 130

theorem nilC (w : World) : Kd.C (Kd.int .u32) w none 0 [] := (R_C (Kd.R_nil (Kd.int .u32) 40 w 0 (fun _ => True))).1
theorem sameNil {A : Option Addr} {c : Nat} (w : World) (h : Kd.C (Kd.int .u32) w A ([] : List Int).length []) (hc : ([] : List Int).length ≤ c) :
    Calls Tryz.prog 10 #[.agg #[.int .i64 0, .int .i64 0, .bool false, .slice A ([] : List Int).length c, .int .i64 0], .agg #[.int .i64 0, .int .i64 0, .bool false, .slice none 0 0, .int .i64 0]] w fun e w'' => e = .returned (.bool true) ∧ Below w.heap.size w w'' :=
  sorobanref05_Same.calls 0 0 false A c [] 0 0 0 false none 0 [] 0 true w h hc (nilC w) (Nat.le_refl 0) (by unfold sorobanref05_Same.f; rw [if_pos (by simp), decide_eq_true ⟨rfl, rfl, rfl, rfl, rfl⟩])
theorem forms_nums {n : Int} (hf : isFm n = true) : wrap64 (wrap64 (fmL n + fmD n) - 1) = fmL n + fmD n - 1 ∧ wrap64 (1 - fmD n) = 1 - fmD n ∧ IntKind.i64.wrap (wrap64 (fmL n + fmD n) - 1) = fmL n + fmD n - 1 ∧ IntKind.i64.wrap (IntKind.i64.wrap (fmL n + fmD n) - 1) = fmL n + fmD n - 1 ∧ IntKind.i64.wrap (1 - fmD n) = 1 - fmD n ∧
    (fmL n ≤ fmL n ∧ fmL n ≤ fmH n ∧ max (fmL n) (fmL n + 1 - fmD n) = fmL n ∧ ofN (2 ^ (fmL n - max (fmL n) (fmL n + 1 - fmD n)).toNat) = [1]) ∧
    (fmL n ≤ fmL n + fmD n - 1 ∧ fmL n + fmD n - 1 ≤ fmH n ∧ max (fmL n) (fmL n + fmD n - 1 + 1 - fmD n) = fmL n ∧ ofN (2 ^ (fmL n + fmD n - 1 - max (fmL n) (fmL n + fmD n - 1 + 1 - fmD n)).toNat) = ofN (2 ^ oneN n)) ∧
    (fmL n ≤ 1 - fmD n ∧ 1 - fmD n ≤ fmH n ∧ max (fmL n) (1 - fmD n + 1 - fmD n) = 2 - 2 * fmD n ∧ ofN (2 ^ (1 - fmD n - max (fmL n) (1 - fmD n + 1 - fmD n)).toNat) = ofN (2 ^ oneN n)) ∧
    (ofN (2 ^ oneN n)).length ≤ 4 ∧ (ofN (2 ^ (oneN n + 1) - 1)).length ≤ 4 := by
  rcases fm_cases hf with rfl | rfl | rfl | rfl | rfl <;> decide +kernel
theorem rmake_at {f ex q : Int} {xs : List Int} {A : Option Addr} (w : World) (hf : isFm f = true) (hA : Kd.C (Kd.int .u32) w A 1 [1]) (h : fmL f ≤ ex ∧ ex ≤ fmH f ∧ max (fmL f) (ex + 1 - fmD f) = q ∧ ofN (2 ^ (ex - max (fmL f) (ex + 1 - fmD f)).toNat) = xs) :
    Calls Tryz.prog 19 #[.int .i64 f, .bool false, .slice A 1 1, .int .i64 ex] w fun e w' => ∃ v, e = .returned (.agg #[.int .i64 f, .int .i64 1, .bool false, v, .int .i64 q, .bool true]) ∧ Kd.R (Kd.int .u32) 40 w' w.heap.size (fun _ => True) v xs ∧ Below w.heap.size w w' := by
  have := rmake_one (ng := false) w hf hA (Nat.le_refl 1) h.1 h.2.1
  rw [h.2.2.2, h.2.2.1] at this
  exact this
set_option maxHeartbeats 4000000 in
theorem binaryFormats_walk (n f cl : Int) (ng : Bool) (A : Option Addr) (c : Nat) (l : List Int) (ex g cm : Int) (mg : Bool) (B : Option Addr) (d : Nat) (m : List Int) (ey : Int) (W : World) (_ : (Lit.int .i64 n).wf = true)
    (hR : Kd.C (Kd.int .u32) W A l.length l) (hC : l.length ≤ c) (hL : Lim l) (hM : l.length ≤ maxLen) (hR2 : Kd.C (Kd.int .u32) W B m.length m) (hC2 : m.length ≤ d) (_ : Lim m) (hM2 : m.length ≤ maxLen) (hT : Tab W) :
    Calls Tryz.prog 3 #[.int .i64 n, dV f cl ng A l.length c ex, dV g cm mg B m.length d ey] W fun e W' => e = .returned (.bool true) ∧ Below W.heap.size W W' := by
  have hm : l.length ≤ 9223372036854775807 := by have : maxLen = 9223372036854775807 := rfl; omega
  have hm2 : m.length ≤ 9223372036854775807 := by have : maxLen = 9223372036854775807 := rfl; omega
  have HSa := Lib.hid fun w' (h : Tab w') => sanity_ok w' h
  by_cases hlen : l.length ≤ 1100 ∧ m.length ≤ 1100
  · have hli : light2 l m = some true := by unfold light2; rw [if_pos ⟨hm, hm2⟩, decide_eq_true hlen]
    have hu := u32L_mk hL
    have HVa := Lib.hid fun w' (h : Kd.C (Kd.int .u32) w' A l.length l) => sorobanref05_Valid.calls f cl ng A c l ex (datOk f cl l ex) w' h hC (by unfold sorobanref05_Valid.f; rw [if_pos hu])
    have HCh := Lib.hid fun w' (h : Kd.C (Kd.int .u32) w' A l.length l) => binary_Check.calls f cl ng A c l ex (encE f cl l ex) w' h hC (by unfold binary_Check.f; rw [if_pos hu])
    have hv : datOk f cl l ex = true ∧ encE f cl l ex = 0 ∨ datOk f cl l ex = false ∧ encE f cl l ex = 1 := by
      unfold encE
      cases datOk f cl l ex with
      | true => exact .inl ⟨rfl, rfl⟩
      | false => exact .inr ⟨rfl, rfl⟩
    have HBs := Lib.hid fun w' (h : Kd.C (Kd.int .u32) w' A l.length l) (h2 : Kd.C (Kd.int .u32) w' B m.length m) => bsame_any (f1 := f) (c1 := cl) (e1 := ex) (f2 := g) (c2 := cm) (e2 := ey) (n1 := ng) (n2 := mg) w' (by omega) h hC h2 hC2
    have HRs := Lib.hid fun w' (h : Kd.C (Kd.int .u32) w' A l.length l) (h2 : Kd.C (Kd.int .u32) w' B m.length m) => sorobanref05_Same.calls f cl ng A c l ex g cm mg B d m ey (decide (f = g ∧ cl = cm ∧ ng = mg ∧ l = m ∧ ex = ey)) w' h hC h2 hC2 (by unfold sorobanref05_Same.f; rw [if_pos (by omega)])
    have HBt := Lib.hid fun w' (h : Kd.C (Kd.int .u32) w' A l.length l) => bsame_any (f1 := f) (c1 := cl) (e1 := ex) (f2 := f) (c2 := cl) (e2 := ex) (n1 := ng) (n2 := ng) w' (by omega) h hC h hC
    rw [decide_eq_true (⟨rfl, rfl, rfl, rfl, rfl⟩ : f = f ∧ cl = cl ∧ ng = ng ∧ l = l ∧ ex = ex)] at HBt
    have hIF := Lib.hid fun w' => risf_any n w'
    cases hf : isFm n with
    | false =>
      rw [hf] at hIF
      exact forms_no W hR hC hR2 hC2 hli hT HSa HVa HCh hv HBs HRs HBt hIF
        (Lib.hid fun w' => binary_Format.calls n 0 0 0 0 0 1 w' (by unfold binary_Format.f formatR; rw [hf]; rfl))
        (Lib.hid fun w' h => binary_Least.calls n 0 0 false [] 0 1 w' (by unfold binary_Least.f namedR; rw [hf]; rfl) h)
        (Lib.hid fun w' h => binary_LeastNormal.calls n 0 0 false [] 0 1 w' (by unfold binary_LeastNormal.f namedR; rw [hf]; rfl) h)
        (Lib.hid fun w' h => binary_Greatest.calls n 0 0 false [] 0 1 w' (by unfold binary_Greatest.f namedR; rw [hf]; rfl) h)
        (Lib.hid fun w' h => binary_Epsilon.calls n 0 0 false [] 0 1 w' (by unfold binary_Epsilon.f namedR; rw [hf]; rfl) h)
        (Lib.hid fun A c w' h hc => sameNil w' h hc)
    | true =>
      rw [hf] at hIF
      obtain ⟨e2, e4, e2b, e2c, e4b, k1, k2, k4, n2, n3⟩ := forms_nums hf
      exact forms_fm W hR hC hR2 hC2 hli hT HSa HVa HCh hv HBs HRs HBt hIF
        (Lib.hid fun w' => binary_Format.calls n (fmD n) (fmE n) (fmL n) (fmH n) (fmW n) 0 w' (by unfold binary_Format.f formatR; rw [hf]; rfl))
        (Lib.hid fun w' h => binary_Least.calls n n 1 false [1] (fmL n) 0 w' (by unfold binary_Least.f namedR; rw [hf]; rfl) h)
        (Lib.hid fun w' h => binary_LeastNormal.calls n n 1 false (ofN (2 ^ oneN n)) (fmL n) 0 w' (by unfold binary_LeastNormal.f namedR; rw [hf]; rfl) h)
        (Lib.hid fun w' h => binary_Greatest.calls n n 1 false (ofN (2 ^ (oneN n + 1) - 1)) (fmH n) 0 w' (by unfold binary_Greatest.f namedR; rw [hf]; rfl) h)
        (Lib.hid fun w' h => binary_Epsilon.calls n n 1 false (ofN (2 ^ oneN n)) (2 - 2 * fmD n) 0 w' (by unfold binary_Epsilon.f namedR; rw [hf]; rfl) h)
        (Lib.hid fun w' => rformat hf w') e2 e4 e2b e2c e4b
        (Lib.hid fun A w' h => rmake_at w' hf h k1) (Lib.hid fun A w' h => rmake_at w' hf h k2) (Lib.hid fun A w' h => rmake_at w' hf h k4)
        (Lib.hid fun w' => rgreat_any w' hf)
        (Lib.hid fun A c A' c' w' g1 g2 g3 g4 => is_ok w' (by simp) g1 g2 g3 g4) (Lib.hid fun A c A' c' w' g1 g2 g3 g4 => is_ok w' (by omega) g1 g2 g3 g4)
        (Lib.hid fun A c A' c' w' g1 g2 g3 g4 => is_ok w' (by omega) g1 g2 g3 g4) (Lib.hid fun A c A' c' w' g1 g2 g3 g4 => is_ok w' (by omega) g1 g2 g3 g4)
  · have hli : light2 l m = some false := by unfold light2; rw [if_pos ⟨hm, hm2⟩, decide_eq_false hlen]
    exact forms_long W hli hT HSa
end Go.Proofs.YtacnkcojhlbkoaaGreatDoor
