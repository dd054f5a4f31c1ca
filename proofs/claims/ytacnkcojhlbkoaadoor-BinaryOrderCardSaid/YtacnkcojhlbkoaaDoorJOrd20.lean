/- Written by this session's own program (wip/tools/xprint.sh) for the law Cut: what the law's functions compute, and that the machine does so, given the contracts of the program's functions. The laws' choice of a format, and the bits that a format has. What the laws on bits need of numbers: words, what Decode and Encode return one behind the other. What the laws on bits need of the chosen format and its bits. nat: division, in plain numbers: what a product takes off a row; the estimate of one element of a quotient. nat: a product with one element is taken off a part of a row. -/
import Derived.Test.YtacnkcojhlbkoaaDoorJOrd19
import Derived.Test.YtacnkcojhlbkoaaDoorJOrd17
import Derived.Test.YtacnkcojhlbkoaaDoorJOrd5
import Derived.Test.YtacnkcojhlbkoaaDoorJOrd8
namespace Go.Proofs.YtacnkcojhlbkoaaDoor.XCut
open Go.RowKit Go.Proofs.YtacnkcojhlbkoaaDoorW.PrintWords Go.Proofs.YtacnkcojhlbkoaaDoorW.PrintLast Go.Proofs.YtacnkcojhlbkoaaDoorW.PrintMore
attribute [local go_sem] max2_int min2_int max_two min_two max_three min_three max_four min_four   -- for this text's walks alone
set_option linter.unusedVariables false
set_option linter.unusedSimpArgs false

/-! ### sorobanlaw05_cut: function 22 -/
def sorobanlaw05_cut.f (a0 : Int) (a1_0 : Int) (a1_1 : Int) : Option (Int × Int) := if a0 = 1 then (some (0, Int.tmod a1_1 65536)) else (if a0 = 2 then (some (0, Int.tmod a1_1 4294967296)) else (if a0 = 3 then (some (0, a1_1)) else (if a0 = 4 then (some (Int.tmod a1_0 65536, a1_1)) else (some (a1_0, a1_1)))))
set_option maxHeartbeats 8000000 in
set_option maxRecDepth 100000 in
theorem sorobanlaw05_cut.calls (a0 : Int) (a1_0 : Int) (a1_1 : Int) (r1 : Int) (r2 : Int) (w : World) (h : sorobanlaw05_cut.f a0 a1_0 a1_1 = some (r1, r2)) :
    Calls Tryd.prog 22 #[.int .i64 a0, .agg #[.int .u64 a1_0, .int .u64 a1_1]] w fun e w' => e = .returned (.agg #[.int .u64 r1, .int .u64 r2]) ∧ Below w.heap.size w w' := by
  have hu28 := Tryd.underlying28
  have HB := Aside0.mk (Below.refl w.heap.size w)
  have H : (if a0 = 1 then (some (0, Int.tmod a1_1 65536)) else (if a0 = 2 then (some (0, Int.tmod a1_1 4294967296)) else (if a0 = 3 then (some (0, a1_1)) else (if a0 = 4 then (some (Int.tmod a1_0 65536, a1_1)) else (some (a1_0, a1_1)))))) = some (r1, r2) := h
  clear h
  by_cases c3 : a0 = 1
  · rw [if_pos c3] at H
    have c3b0 : (a0 == 1) = true := beq_iff_eq.mpr c3
    have c3b1 : (a0 != 1) = false := bne_eq_false_iff_eq.mpr c3
    clear c3
    simp only [Option.some.injEq, Prod.mk.injEq] at H
    obtain ⟨rfl, rfl⟩ := H
    go_enter Tryd.func22, Tryd.ntmps22
    go_wp2_with (first | ((with_reducible refine gate_dst (N := 3) rfl ?_); refine box_event ?hg (N := 3) ?hd (cs := #[.int .u64 a1_0, .int .u64 a1_1]) (t := 28) ?hr ?_; (case hd => rfl); (case hg => rfl); (case hr => first | (go_simp; done) | (go_simp; rfl)); intro gb101 hg w4 hbox hb; have n0_ := Aside0.mk (below_step (by repeat (first | (with_reducible first | exact HB.out | apply below_alloc | apply pw_below_drewN | apply below_drew1) | exact HB.out)) hb); have n1_ := Aside0.mk (hbox); have n2_ := Aside0.mk ((by rw [hg]; exact (below_size (by repeat (first | (with_reducible first | exact HB.out | apply below_alloc | apply pw_below_drewN | apply below_drew1) | exact HB.out))) : w.heap.size ≤ gb101)); have n3_ := Aside0.mk ((by rw [hg]; exact (below_size (by repeat (first | (with_reducible first | exact HB.out | apply below_alloc | apply pw_below_drewN | apply below_drew1) | exact HB.out))) : w.heap.size ≤ gb101)); clear HB; have HB := n0_; have BK101 := n1_; have GW101 := n2_; have GE101 := n3_; clear n0_ n1_ n2_ n3_; clear hb hbox hg) | ((with_reducible refine gate_dst (N := 4) rfl ?_); refine box_event ?hg (N := 4) ?hd (cs := #[.int .u64 0, .int .u64 0]) (t := 28) ?hr ?_; (case hd => rfl); (case hg => rfl); (case hr => first | (go_simp; done) | (go_simp; rfl)); intro gb102 hg w5 hbox hb; have n0_ := Aside0.mk (blk_below (g := gb101) (o := .cells #[.int .u64 a1_0, .int .u64 a1_1] 28 (0, 0)) (by (with_reducible repeat (first | refine blk_drewN ?_ _ | refine blk_drew ?_ | refine blk_alloc ?_ _)); exact BK101.out) hb); have n1_ := Aside0.mk (below_step (by repeat (first | (with_reducible first | exact HB.out | apply below_alloc | apply pw_below_drewN | apply below_drew1 | refine below_set ?_ GE101.out) | exact HB.out)) hb); have n2_ := Aside0.mk (hbox); have n3_ := Aside0.mk ((by rw [hg]; exact (below_size (by repeat (first | (with_reducible first | exact HB.out | apply below_alloc | apply pw_below_drewN | apply below_drew1 | refine below_set ?_ GE101.out) | exact HB.out))) : w.heap.size ≤ gb102)); have n4_ := Aside0.mk ((by rw [hg]; exact (below_size (by repeat (first | (with_reducible first | exact HB.out | apply below_alloc | apply pw_below_drewN | apply below_drew1 | refine below_set ?_ GE101.out) | exact HB.out))) : w.heap.size ≤ gb102)); have n5_ := Aside0.mk ((by rw [hg]; exact Nat.ne_of_lt (blk_lt (g := gb101) (o := .cells #[.int .u64 a1_0, .int .u64 a1_1] 28 (0, 0)) (by (with_reducible repeat (first | refine blk_drewN ?_ _ | refine blk_drew ?_ | refine blk_alloc ?_ _)); exact BK101.out)) : gb101 ≠ gb102)); have n6_ := Aside0.mk ((by rw [hg]; exact Nat.ne_of_gt (blk_lt (g := gb101) (o := .cells #[.int .u64 a1_0, .int .u64 a1_1] 28 (0, 0)) (by (with_reducible repeat (first | refine blk_drewN ?_ _ | refine blk_drew ?_ | refine blk_alloc ?_ _)); exact BK101.out)) : gb102 ≠ gb101)); clear BK101; clear HB; have BK101 := n0_; have HB := n1_; have BK102 := n2_; have GW102 := n3_; have GE102 := n4_; have NB101_102 := n5_; have NB102_101 := n6_; clear n0_ n1_ n2_ n3_ n4_ n5_ n6_; clear hb hbox hg; have hnb6 := NB101_102.out; have hnc6 := NB102_101.out; have hcz7_0 : w5.cell? ⟨gb101, 0, none⟩ = some (.int .u64 a1_0) := (blk_cell BK101.out 0).trans rfl; have hcz7_1 : w5.cell? ⟨gb101, 1, none⟩ = some (.int .u64 a1_1) := (blk_cell BK101.out 1).trans rfl; have hfz7_0 := blk_frozen BK101.out 0; have hfz7_1 := blk_frozen BK101.out 1; have hcz8_0 : w5.cell? ⟨gb102, 0, none⟩ = some (.int .u64 0) := (blk_cell BK102.out 0).trans rfl; have hcz8_1 : w5.cell? ⟨gb102, 1, none⟩ = some (.int .u64 0) := (blk_cell BK102.out 1).trans rfl; have hfz8_0 := blk_frozen BK102.out 0; have hfz8_1 := blk_frozen BK102.out 1))
    refine bodyPost_ret (results_cell_row rfl _ _ gb102 28 #[.int .u64 0, .int .u64 (Int.tmod a1_1 65536)] (0, 0) _ rfl (by (with_reducible repeat (first | refine blk_drewN ?_ _ | refine blk_drew ?_ | refine blk_alloc ?_ _)); refine blk_put (cs := #[.int .u64 0, .int .u64 0]) ?_ 1 _ rfl; (with_reducible repeat (first | refine blk_drewN ?_ _ | refine blk_drew ?_ | refine blk_alloc ?_ _)); refine blk_put (cs := #[.int .u64 0, .int .u64 0]) ?_ 0 _ rfl; (with_reducible repeat (first | refine blk_drewN ?_ _ | refine blk_drew ?_ | refine blk_alloc ?_ _)); exact BK102.out) Tryd.underlying28 rfl (by kernel_rfl)) rfl ?_
    exact ⟨by first | rfl | (simp [errW_none, errW_some] <;> rfl) | (simp [*, errW_none, errW_some] <;> rfl), by repeat (first | (with_reducible first | exact HB.out | apply below_alloc | apply pw_below_drewN | apply below_drew1 | refine below_set ?_ GE101.out | refine below_set ?_ GE102.out) | exact HB.out)⟩
  · rw [if_neg c3] at H
    have c3b0 : (a0 == 1) = false := beq_eq_false_iff_ne.mpr c3
    have c3b1 : (a0 != 1) = true := bne_iff_ne.mpr c3
    by_cases c9 : a0 = 2
    · rw [if_pos c9] at H
      have c9b0 : (a0 == 2) = true := beq_iff_eq.mpr c9
      have c9b1 : (a0 != 2) = false := bne_eq_false_iff_eq.mpr c9
      clear c9
      simp only [Option.some.injEq, Prod.mk.injEq] at H
      obtain ⟨rfl, rfl⟩ := H
      go_enter Tryd.func22, Tryd.ntmps22
      go_wp2_with (first | ((with_reducible refine gate_dst (N := 3) rfl ?_); refine box_event ?hg (N := 3) ?hd (cs := #[.int .u64 a1_0, .int .u64 a1_1]) (t := 28) ?hr ?_; (case hd => rfl); (case hg => rfl); (case hr => first | (go_simp; done) | (go_simp; rfl)); intro gb101 hg w10 hbox hb; have n0_ := Aside0.mk (below_step (by repeat (first | (with_reducible first | exact HB.out | apply below_alloc | apply pw_below_drewN | apply below_drew1) | exact HB.out)) hb); have n1_ := Aside0.mk (hbox); have n2_ := Aside0.mk ((by rw [hg]; exact (below_size (by repeat (first | (with_reducible first | exact HB.out | apply below_alloc | apply pw_below_drewN | apply below_drew1) | exact HB.out))) : w.heap.size ≤ gb101)); have n3_ := Aside0.mk ((by rw [hg]; exact (below_size (by repeat (first | (with_reducible first | exact HB.out | apply below_alloc | apply pw_below_drewN | apply below_drew1) | exact HB.out))) : w.heap.size ≤ gb101)); clear HB; have HB := n0_; have BK101 := n1_; have GW101 := n2_; have GE101 := n3_; clear n0_ n1_ n2_ n3_; clear hb hbox hg) | ((with_reducible refine gate_dst (N := 4) rfl ?_); refine box_event ?hg (N := 4) ?hd (cs := #[.int .u64 0, .int .u64 0]) (t := 28) ?hr ?_; (case hd => rfl); (case hg => rfl); (case hr => first | (go_simp; done) | (go_simp; rfl)); intro gb102 hg w11 hbox hb; have n0_ := Aside0.mk (blk_below (g := gb101) (o := .cells #[.int .u64 a1_0, .int .u64 a1_1] 28 (0, 0)) (by (with_reducible repeat (first | refine blk_drewN ?_ _ | refine blk_drew ?_ | refine blk_alloc ?_ _)); exact BK101.out) hb); have n1_ := Aside0.mk (below_step (by repeat (first | (with_reducible first | exact HB.out | apply below_alloc | apply pw_below_drewN | apply below_drew1 | refine below_set ?_ GE101.out) | exact HB.out)) hb); have n2_ := Aside0.mk (hbox); have n3_ := Aside0.mk ((by rw [hg]; exact (below_size (by repeat (first | (with_reducible first | exact HB.out | apply below_alloc | apply pw_below_drewN | apply below_drew1 | refine below_set ?_ GE101.out) | exact HB.out))) : w.heap.size ≤ gb102)); have n4_ := Aside0.mk ((by rw [hg]; exact (below_size (by repeat (first | (with_reducible first | exact HB.out | apply below_alloc | apply pw_below_drewN | apply below_drew1 | refine below_set ?_ GE101.out) | exact HB.out))) : w.heap.size ≤ gb102)); have n5_ := Aside0.mk ((by rw [hg]; exact Nat.ne_of_lt (blk_lt (g := gb101) (o := .cells #[.int .u64 a1_0, .int .u64 a1_1] 28 (0, 0)) (by (with_reducible repeat (first | refine blk_drewN ?_ _ | refine blk_drew ?_ | refine blk_alloc ?_ _)); exact BK101.out)) : gb101 ≠ gb102)); have n6_ := Aside0.mk ((by rw [hg]; exact Nat.ne_of_gt (blk_lt (g := gb101) (o := .cells #[.int .u64 a1_0, .int .u64 a1_1] 28 (0, 0)) (by (with_reducible repeat (first | refine blk_drewN ?_ _ | refine blk_drew ?_ | refine blk_alloc ?_ _)); exact BK101.out)) : gb102 ≠ gb101)); clear BK101; clear HB; have BK101 := n0_; have HB := n1_; have BK102 := n2_; have GW102 := n3_; have GE102 := n4_; have NB101_102 := n5_; have NB102_101 := n6_; clear n0_ n1_ n2_ n3_ n4_ n5_ n6_; clear hb hbox hg; have hnb12 := NB101_102.out; have hnc12 := NB102_101.out; have hcz13_0 : w11.cell? ⟨gb101, 0, none⟩ = some (.int .u64 a1_0) := (blk_cell BK101.out 0).trans rfl; have hcz13_1 : w11.cell? ⟨gb101, 1, none⟩ = some (.int .u64 a1_1) := (blk_cell BK101.out 1).trans rfl; have hfz13_0 := blk_frozen BK101.out 0; have hfz13_1 := blk_frozen BK101.out 1; have hcz14_0 : w11.cell? ⟨gb102, 0, none⟩ = some (.int .u64 0) := (blk_cell BK102.out 0).trans rfl; have hcz14_1 : w11.cell? ⟨gb102, 1, none⟩ = some (.int .u64 0) := (blk_cell BK102.out 1).trans rfl; have hfz14_0 := blk_frozen BK102.out 0; have hfz14_1 := blk_frozen BK102.out 1))
      refine bodyPost_ret (results_cell_row rfl _ _ gb102 28 #[.int .u64 0, .int .u64 (Int.tmod a1_1 4294967296)] (0, 0) _ rfl (by (with_reducible repeat (first | refine blk_drewN ?_ _ | refine blk_drew ?_ | refine blk_alloc ?_ _)); refine blk_put (cs := #[.int .u64 0, .int .u64 0]) ?_ 1 _ rfl; (with_reducible repeat (first | refine blk_drewN ?_ _ | refine blk_drew ?_ | refine blk_alloc ?_ _)); refine blk_put (cs := #[.int .u64 0, .int .u64 0]) ?_ 0 _ rfl; (with_reducible repeat (first | refine blk_drewN ?_ _ | refine blk_drew ?_ | refine blk_alloc ?_ _)); exact BK102.out) Tryd.underlying28 rfl (by kernel_rfl)) rfl ?_
      exact ⟨by first | rfl | (simp [errW_none, errW_some] <;> rfl) | (simp [*, errW_none, errW_some] <;> rfl), by repeat (first | (with_reducible first | exact HB.out | apply below_alloc | apply pw_below_drewN | apply below_drew1 | refine below_set ?_ GE101.out | refine below_set ?_ GE102.out) | exact HB.out)⟩
    · rw [if_neg c9] at H
      have c9b0 : (a0 == 2) = false := beq_eq_false_iff_ne.mpr c9
      have c9b1 : (a0 != 2) = true := bne_iff_ne.mpr c9
      by_cases c15 : a0 = 3
      · rw [if_pos c15] at H
        have c15b0 : (a0 == 3) = true := beq_iff_eq.mpr c15
        have c15b1 : (a0 != 3) = false := bne_eq_false_iff_eq.mpr c15
        clear c15
        simp only [Option.some.injEq, Prod.mk.injEq] at H
        obtain ⟨rfl, rfl⟩ := H
        go_enter Tryd.func22, Tryd.ntmps22
        go_wp2_with (first | ((with_reducible refine gate_dst (N := 3) rfl ?_); refine box_event ?hg (N := 3) ?hd (cs := #[.int .u64 a1_0, .int .u64 a1_1]) (t := 28) ?hr ?_; (case hd => rfl); (case hg => rfl); (case hr => first | (go_simp; done) | (go_simp; rfl)); intro gb101 hg w16 hbox hb; have n0_ := Aside0.mk (below_step (by repeat (first | (with_reducible first | exact HB.out | apply below_alloc | apply pw_below_drewN | apply below_drew1) | exact HB.out)) hb); have n1_ := Aside0.mk (hbox); have n2_ := Aside0.mk ((by rw [hg]; exact (below_size (by repeat (first | (with_reducible first | exact HB.out | apply below_alloc | apply pw_below_drewN | apply below_drew1) | exact HB.out))) : w.heap.size ≤ gb101)); have n3_ := Aside0.mk ((by rw [hg]; exact (below_size (by repeat (first | (with_reducible first | exact HB.out | apply below_alloc | apply pw_below_drewN | apply below_drew1) | exact HB.out))) : w.heap.size ≤ gb101)); clear HB; have HB := n0_; have BK101 := n1_; have GW101 := n2_; have GE101 := n3_; clear n0_ n1_ n2_ n3_; clear hb hbox hg) | ((with_reducible refine gate_dst (N := 4) rfl ?_); refine box_event ?hg (N := 4) ?hd (cs := #[.int .u64 0, .int .u64 0]) (t := 28) ?hr ?_; (case hd => rfl); (case hg => rfl); (case hr => first | (go_simp; done) | (go_simp; rfl)); intro gb102 hg w17 hbox hb; have n0_ := Aside0.mk (blk_below (g := gb101) (o := .cells #[.int .u64 a1_0, .int .u64 a1_1] 28 (0, 0)) (by (with_reducible repeat (first | refine blk_drewN ?_ _ | refine blk_drew ?_ | refine blk_alloc ?_ _)); exact BK101.out) hb); have n1_ := Aside0.mk (below_step (by repeat (first | (with_reducible first | exact HB.out | apply below_alloc | apply pw_below_drewN | apply below_drew1 | refine below_set ?_ GE101.out) | exact HB.out)) hb); have n2_ := Aside0.mk (hbox); have n3_ := Aside0.mk ((by rw [hg]; exact (below_size (by repeat (first | (with_reducible first | exact HB.out | apply below_alloc | apply pw_below_drewN | apply below_drew1 | refine below_set ?_ GE101.out) | exact HB.out))) : w.heap.size ≤ gb102)); have n4_ := Aside0.mk ((by rw [hg]; exact (below_size (by repeat (first | (with_reducible first | exact HB.out | apply below_alloc | apply pw_below_drewN | apply below_drew1 | refine below_set ?_ GE101.out) | exact HB.out))) : w.heap.size ≤ gb102)); have n5_ := Aside0.mk ((by rw [hg]; exact Nat.ne_of_lt (blk_lt (g := gb101) (o := .cells #[.int .u64 a1_0, .int .u64 a1_1] 28 (0, 0)) (by (with_reducible repeat (first | refine blk_drewN ?_ _ | refine blk_drew ?_ | refine blk_alloc ?_ _)); exact BK101.out)) : gb101 ≠ gb102)); have n6_ := Aside0.mk ((by rw [hg]; exact Nat.ne_of_gt (blk_lt (g := gb101) (o := .cells #[.int .u64 a1_0, .int .u64 a1_1] 28 (0, 0)) (by (with_reducible repeat (first | refine blk_drewN ?_ _ | refine blk_drew ?_ | refine blk_alloc ?_ _)); exact BK101.out)) : gb102 ≠ gb101)); clear BK101; clear HB; have BK101 := n0_; have HB := n1_; have BK102 := n2_; have GW102 := n3_; have GE102 := n4_; have NB101_102 := n5_; have NB102_101 := n6_; clear n0_ n1_ n2_ n3_ n4_ n5_ n6_; clear hb hbox hg; have hnb18 := NB101_102.out; have hnc18 := NB102_101.out; have hcz19_0 : w17.cell? ⟨gb101, 0, none⟩ = some (.int .u64 a1_0) := (blk_cell BK101.out 0).trans rfl; have hcz19_1 : w17.cell? ⟨gb101, 1, none⟩ = some (.int .u64 a1_1) := (blk_cell BK101.out 1).trans rfl; have hfz19_0 := blk_frozen BK101.out 0; have hfz19_1 := blk_frozen BK101.out 1; have hcz20_0 : w17.cell? ⟨gb102, 0, none⟩ = some (.int .u64 0) := (blk_cell BK102.out 0).trans rfl; have hcz20_1 : w17.cell? ⟨gb102, 1, none⟩ = some (.int .u64 0) := (blk_cell BK102.out 1).trans rfl; have hfz20_0 := blk_frozen BK102.out 0; have hfz20_1 := blk_frozen BK102.out 1))
        refine bodyPost_ret (results_cell_row rfl _ _ gb102 28 #[.int .u64 0, .int .u64 a1_1] (0, 0) _ rfl (by (with_reducible repeat (first | refine blk_drewN ?_ _ | refine blk_drew ?_ | refine blk_alloc ?_ _)); refine blk_put (cs := #[.int .u64 0, .int .u64 0]) ?_ 1 _ rfl; (with_reducible repeat (first | refine blk_drewN ?_ _ | refine blk_drew ?_ | refine blk_alloc ?_ _)); refine blk_put (cs := #[.int .u64 0, .int .u64 0]) ?_ 0 _ rfl; (with_reducible repeat (first | refine blk_drewN ?_ _ | refine blk_drew ?_ | refine blk_alloc ?_ _)); exact BK102.out) Tryd.underlying28 rfl (by kernel_rfl)) rfl ?_
        exact ⟨by first | rfl | (simp [errW_none, errW_some] <;> rfl) | (simp [*, errW_none, errW_some] <;> rfl), by repeat (first | (with_reducible first | exact HB.out | apply below_alloc | apply pw_below_drewN | apply below_drew1 | refine below_set ?_ GE101.out | refine below_set ?_ GE102.out) | exact HB.out)⟩
      · rw [if_neg c15] at H
        have c15b0 : (a0 == 3) = false := beq_eq_false_iff_ne.mpr c15
        have c15b1 : (a0 != 3) = true := bne_iff_ne.mpr c15
        by_cases c21 : a0 = 4
        · rw [if_pos c21] at H
          have c21b0 : (a0 == 4) = true := beq_iff_eq.mpr c21
          have c21b1 : (a0 != 4) = false := bne_eq_false_iff_eq.mpr c21
          clear c21
          simp only [Option.some.injEq, Prod.mk.injEq] at H
          obtain ⟨rfl, rfl⟩ := H
          go_enter Tryd.func22, Tryd.ntmps22
          go_wp2_with (first | ((with_reducible refine gate_dst (N := 3) rfl ?_); refine box_event ?hg (N := 3) ?hd (cs := #[.int .u64 a1_0, .int .u64 a1_1]) (t := 28) ?hr ?_; (case hd => rfl); (case hg => rfl); (case hr => first | (go_simp; done) | (go_simp; rfl)); intro gb101 hg w22 hbox hb; have n0_ := Aside0.mk (below_step (by repeat (first | (with_reducible first | exact HB.out | apply below_alloc | apply pw_below_drewN | apply below_drew1) | exact HB.out)) hb); have n1_ := Aside0.mk (hbox); have n2_ := Aside0.mk ((by rw [hg]; exact (below_size (by repeat (first | (with_reducible first | exact HB.out | apply below_alloc | apply pw_below_drewN | apply below_drew1) | exact HB.out))) : w.heap.size ≤ gb101)); have n3_ := Aside0.mk ((by rw [hg]; exact (below_size (by repeat (first | (with_reducible first | exact HB.out | apply below_alloc | apply pw_below_drewN | apply below_drew1) | exact HB.out))) : w.heap.size ≤ gb101)); clear HB; have HB := n0_; have BK101 := n1_; have GW101 := n2_; have GE101 := n3_; clear n0_ n1_ n2_ n3_; clear hb hbox hg) | ((with_reducible refine gate_dst (N := 4) rfl ?_); refine box_event ?hg (N := 4) ?hd (cs := #[.int .u64 0, .int .u64 0]) (t := 28) ?hr ?_; (case hd => rfl); (case hg => rfl); (case hr => first | (go_simp; done) | (go_simp; rfl)); intro gb102 hg w23 hbox hb; have n0_ := Aside0.mk (blk_below (g := gb101) (o := .cells #[.int .u64 a1_0, .int .u64 a1_1] 28 (0, 0)) (by (with_reducible repeat (first | refine blk_drewN ?_ _ | refine blk_drew ?_ | refine blk_alloc ?_ _)); exact BK101.out) hb); have n1_ := Aside0.mk (below_step (by repeat (first | (with_reducible first | exact HB.out | apply below_alloc | apply pw_below_drewN | apply below_drew1 | refine below_set ?_ GE101.out) | exact HB.out)) hb); have n2_ := Aside0.mk (hbox); have n3_ := Aside0.mk ((by rw [hg]; exact (below_size (by repeat (first | (with_reducible first | exact HB.out | apply below_alloc | apply pw_below_drewN | apply below_drew1 | refine below_set ?_ GE101.out) | exact HB.out))) : w.heap.size ≤ gb102)); have n4_ := Aside0.mk ((by rw [hg]; exact (below_size (by repeat (first | (with_reducible first | exact HB.out | apply below_alloc | apply pw_below_drewN | apply below_drew1 | refine below_set ?_ GE101.out) | exact HB.out))) : w.heap.size ≤ gb102)); have n5_ := Aside0.mk ((by rw [hg]; exact Nat.ne_of_lt (blk_lt (g := gb101) (o := .cells #[.int .u64 a1_0, .int .u64 a1_1] 28 (0, 0)) (by (with_reducible repeat (first | refine blk_drewN ?_ _ | refine blk_drew ?_ | refine blk_alloc ?_ _)); exact BK101.out)) : gb101 ≠ gb102)); have n6_ := Aside0.mk ((by rw [hg]; exact Nat.ne_of_gt (blk_lt (g := gb101) (o := .cells #[.int .u64 a1_0, .int .u64 a1_1] 28 (0, 0)) (by (with_reducible repeat (first | refine blk_drewN ?_ _ | refine blk_drew ?_ | refine blk_alloc ?_ _)); exact BK101.out)) : gb102 ≠ gb101)); clear BK101; clear HB; have BK101 := n0_; have HB := n1_; have BK102 := n2_; have GW102 := n3_; have GE102 := n4_; have NB101_102 := n5_; have NB102_101 := n6_; clear n0_ n1_ n2_ n3_ n4_ n5_ n6_; clear hb hbox hg; have hnb24 := NB101_102.out; have hnc24 := NB102_101.out; have hcz25_0 : w23.cell? ⟨gb101, 0, none⟩ = some (.int .u64 a1_0) := (blk_cell BK101.out 0).trans rfl; have hcz25_1 : w23.cell? ⟨gb101, 1, none⟩ = some (.int .u64 a1_1) := (blk_cell BK101.out 1).trans rfl; have hfz25_0 := blk_frozen BK101.out 0; have hfz25_1 := blk_frozen BK101.out 1; have hcz26_0 : w23.cell? ⟨gb102, 0, none⟩ = some (.int .u64 0) := (blk_cell BK102.out 0).trans rfl; have hcz26_1 : w23.cell? ⟨gb102, 1, none⟩ = some (.int .u64 0) := (blk_cell BK102.out 1).trans rfl; have hfz26_0 := blk_frozen BK102.out 0; have hfz26_1 := blk_frozen BK102.out 1))
          refine bodyPost_ret (results_cell_row rfl _ _ gb102 28 #[.int .u64 (Int.tmod a1_0 65536), .int .u64 a1_1] (0, 0) _ rfl (by (with_reducible repeat (first | refine blk_drewN ?_ _ | refine blk_drew ?_ | refine blk_alloc ?_ _)); refine blk_put (cs := #[.int .u64 (Int.tmod a1_0 65536), .int .u64 0]) ?_ 1 _ rfl; (with_reducible repeat (first | refine blk_drewN ?_ _ | refine blk_drew ?_ | refine blk_alloc ?_ _)); refine blk_put (cs := #[.int .u64 0, .int .u64 0]) ?_ 0 _ rfl; (with_reducible repeat (first | refine blk_drewN ?_ _ | refine blk_drew ?_ | refine blk_alloc ?_ _)); exact BK102.out) Tryd.underlying28 rfl (by kernel_rfl)) rfl ?_
          exact ⟨by first | rfl | (simp [errW_none, errW_some] <;> rfl) | (simp [*, errW_none, errW_some] <;> rfl), by repeat (first | (with_reducible first | exact HB.out | apply below_alloc | apply pw_below_drewN | apply below_drew1 | refine below_set ?_ GE101.out | refine below_set ?_ GE102.out) | exact HB.out)⟩
        · rw [if_neg c21] at H
          have c21b0 : (a0 == 4) = false := beq_eq_false_iff_ne.mpr c21
          have c21b1 : (a0 != 4) = true := bne_iff_ne.mpr c21
          simp only [Option.some.injEq, Prod.mk.injEq] at H
          obtain ⟨rfl, rfl⟩ := H
          go_enter Tryd.func22, Tryd.ntmps22
          go_wp2_with (first | ((with_reducible refine gate_dst (N := 3) rfl ?_); refine box_event ?hg (N := 3) ?hd (cs := #[.int .u64 a1_0, .int .u64 a1_1]) (t := 28) ?hr ?_; (case hd => rfl); (case hg => rfl); (case hr => first | (go_simp; done) | (go_simp; rfl)); intro gb101 hg w27 hbox hb; have n0_ := Aside0.mk (below_step (by repeat (first | (with_reducible first | exact HB.out | apply below_alloc | apply pw_below_drewN | apply below_drew1) | exact HB.out)) hb); have n1_ := Aside0.mk (hbox); have n2_ := Aside0.mk ((by rw [hg]; exact (below_size (by repeat (first | (with_reducible first | exact HB.out | apply below_alloc | apply pw_below_drewN | apply below_drew1) | exact HB.out))) : w.heap.size ≤ gb101)); have n3_ := Aside0.mk ((by rw [hg]; exact (below_size (by repeat (first | (with_reducible first | exact HB.out | apply below_alloc | apply pw_below_drewN | apply below_drew1) | exact HB.out))) : w.heap.size ≤ gb101)); clear HB; have HB := n0_; have BK101 := n1_; have GW101 := n2_; have GE101 := n3_; clear n0_ n1_ n2_ n3_; clear hb hbox hg) | ((with_reducible refine gate_dst (N := 4) rfl ?_); refine box_event ?hg (N := 4) ?hd (cs := #[.int .u64 0, .int .u64 0]) (t := 28) ?hr ?_; (case hd => rfl); (case hg => rfl); (case hr => first | (go_simp; done) | (go_simp; rfl)); intro gb102 hg w28 hbox hb; have n0_ := Aside0.mk (blk_below (g := gb101) (o := .cells #[.int .u64 a1_0, .int .u64 a1_1] 28 (0, 0)) (by (with_reducible repeat (first | refine blk_drewN ?_ _ | refine blk_drew ?_ | refine blk_alloc ?_ _)); exact BK101.out) hb); have n1_ := Aside0.mk (below_step (by repeat (first | (with_reducible first | exact HB.out | apply below_alloc | apply pw_below_drewN | apply below_drew1 | refine below_set ?_ GE101.out) | exact HB.out)) hb); have n2_ := Aside0.mk (hbox); have n3_ := Aside0.mk ((by rw [hg]; exact (below_size (by repeat (first | (with_reducible first | exact HB.out | apply below_alloc | apply pw_below_drewN | apply below_drew1 | refine below_set ?_ GE101.out) | exact HB.out))) : w.heap.size ≤ gb102)); have n4_ := Aside0.mk ((by rw [hg]; exact (below_size (by repeat (first | (with_reducible first | exact HB.out | apply below_alloc | apply pw_below_drewN | apply below_drew1 | refine below_set ?_ GE101.out) | exact HB.out))) : w.heap.size ≤ gb102)); have n5_ := Aside0.mk ((by rw [hg]; exact Nat.ne_of_lt (blk_lt (g := gb101) (o := .cells #[.int .u64 a1_0, .int .u64 a1_1] 28 (0, 0)) (by (with_reducible repeat (first | refine blk_drewN ?_ _ | refine blk_drew ?_ | refine blk_alloc ?_ _)); exact BK101.out)) : gb101 ≠ gb102)); have n6_ := Aside0.mk ((by rw [hg]; exact Nat.ne_of_gt (blk_lt (g := gb101) (o := .cells #[.int .u64 a1_0, .int .u64 a1_1] 28 (0, 0)) (by (with_reducible repeat (first | refine blk_drewN ?_ _ | refine blk_drew ?_ | refine blk_alloc ?_ _)); exact BK101.out)) : gb102 ≠ gb101)); clear BK101; clear HB; have BK101 := n0_; have HB := n1_; have BK102 := n2_; have GW102 := n3_; have GE102 := n4_; have NB101_102 := n5_; have NB102_101 := n6_; clear n0_ n1_ n2_ n3_ n4_ n5_ n6_; clear hb hbox hg; have hnb29 := NB101_102.out; have hnc29 := NB102_101.out; have hcz30_0 : w28.cell? ⟨gb101, 0, none⟩ = some (.int .u64 a1_0) := (blk_cell BK101.out 0).trans rfl; have hcz30_1 : w28.cell? ⟨gb101, 1, none⟩ = some (.int .u64 a1_1) := (blk_cell BK101.out 1).trans rfl; have hfz30_0 := blk_frozen BK101.out 0; have hfz30_1 := blk_frozen BK101.out 1; have hcz31_0 : w28.cell? ⟨gb102, 0, none⟩ = some (.int .u64 0) := (blk_cell BK102.out 0).trans rfl; have hcz31_1 : w28.cell? ⟨gb102, 1, none⟩ = some (.int .u64 0) := (blk_cell BK102.out 1).trans rfl; have hfz31_0 := blk_frozen BK102.out 0; have hfz31_1 := blk_frozen BK102.out 1))
          refine bodyPost_ret (results_cell_row rfl _ _ gb102 28 #[.int .u64 a1_0, .int .u64 a1_1] (0, 0) _ rfl (by (with_reducible repeat (first | refine blk_drewN ?_ _ | refine blk_drew ?_ | refine blk_alloc ?_ _)); refine blk_put (cs := #[.int .u64 a1_0, .int .u64 0]) ?_ 1 _ rfl; (with_reducible repeat (first | refine blk_drewN ?_ _ | refine blk_drew ?_ | refine blk_alloc ?_ _)); refine blk_put (cs := #[.int .u64 0, .int .u64 0]) ?_ 0 _ rfl; (with_reducible repeat (first | refine blk_drewN ?_ _ | refine blk_drew ?_ | refine blk_alloc ?_ _)); exact BK102.out) Tryd.underlying28 rfl (by kernel_rfl)) rfl ?_
          exact ⟨by first | rfl | (simp [errW_none, errW_some] <;> rfl) | (simp [*, errW_none, errW_some] <;> rfl), by repeat (first | (with_reducible first | exact HB.out | apply below_alloc | apply pw_below_drewN | apply below_drew1 | refine below_set ?_ GE101.out | refine below_set ?_ GE102.out) | exact HB.out)⟩

end Go.Proofs.YtacnkcojhlbkoaaDoor.XCut

set_option linter.unusedSimpArgs false
set_option linter.unusedVariables false
set_option linter.unnecessarySimpa false
namespace Go.Proofs.YtacnkcojhlbkoaaDoor
open Go.RowKit Go.Proofs.YtacnkcojhlbkoaaDoorW.PrintWords Go.Proofs.YtacnkcojhlbkoaaDoorW.PrintLast Go.Proofs.YtacnkcojhlbkoaaDoorW.PrintMore Go.Proofs.YtacnkcojhlbkoaaDoor.NL
set_option maxRecDepth 100000
set_option exponentiation.threshold 130

def sorobanlaw05_which.f (a0 : Int) : Option Int := if 0 ≤ a0 ∧ a0 ≤ 255 then some (1 + a0 % 5) else none
theorem sorobanlaw05_which.calls (a0 : Int) (r : Int) (w : World) (h : sorobanlaw05_which.f a0 = some r) :
    Calls Tryd.prog 21 #[.int .u8 a0] w fun e w' => e = .returned (.int .i64 r) ∧ Below w.heap.size w w' := by
  refine (XWhich.sorobanlaw05_which.calls a0 r w ?_).mono fun e w' h => ⟨h.1, by first | exact h.2 | exact h.2.below⟩
  rw [← h]
  unfold sorobanlaw05_which.f at h ⊢
  split at h
  · rename_i hb
    rw [if_pos hb]
    unfold XWhich.sorobanlaw05_which.f
    congr 1
    have e : wrap64 a0 = a0 := by unfold wrap64; omega
    rw [e, Int.tmod_eq_emod_of_nonneg hb.1]
    unfold wrap64; omega
  · cases h
/-- The bits that a format has. -/
def cutN (f : Int) (N : Nat) : Nat := N % 2 ^ (topN f + 1)
def sorobanlaw05_cut.f (a0 a1_0 a1_1 : Int) : Option (Int × Int) := if isFm a0 && (u64B a1_0 && u64B a1_1) then some (((cutN a0 (rawN a1_0 a1_1) / 18446744073709551616 : Nat) : Int), ((cutN a0 (rawN a1_0 a1_1) % 18446744073709551616 : Nat) : Int)) else none
theorem sorobanlaw05_cut.calls (a0 a1_0 a1_1 r1 r2 : Int) (w : World) (h : sorobanlaw05_cut.f a0 a1_0 a1_1 = some (r1, r2)) :
    Calls Tryd.prog 22 #[.int .i64 a0, .agg #[.int .u64 a1_0, .int .u64 a1_1]] w fun e w' => e = .returned (.agg #[.int .u64 r1, .int .u64 r2]) ∧ Below w.heap.size w w' := by
  refine (XCut.sorobanlaw05_cut.calls a0 a1_0 a1_1 r1 r2 w ?_).mono fun e w' h => ⟨h.1, by first | exact h.2 | exact h.2.below⟩
  rw [← h]
  unfold sorobanlaw05_cut.f at h ⊢
  split at h
  · rename_i hb
    rw [if_pos hb]
    simp only [Bool.and_eq_true, u64B, decide_eq_true_eq] at hb
    obtain ⟨hf, ⟨h1, h2⟩, h3, h4⟩ := hb
    unfold XCut.sorobanlaw05_cut.f cutN rawN
    rcases fm_cases hf with rfl | rfl | rfl | rfl | rfl
    all_goals
      simp only [topN, fmW]
      simp
      try rw [Int.tmod_eq_emod_of_nonneg (by omega)]
      first
        | (refine ⟨?_, ?_⟩ <;> omega)
        | omega
  · cases h
end Go.Proofs.YtacnkcojhlbkoaaDoor

set_option linter.unusedSimpArgs false
set_option linter.unusedVariables false
set_option linter.unnecessarySimpa false
namespace Go.Proofs.YtacnkcojhlbkoaaDoor
open Go.RowKit Go.Proofs.YtacnkcojhlbkoaaDoorW.PrintWords Go.Proofs.YtacnkcojhlbkoaaDoorW.PrintLast Go.Proofs.YtacnkcojhlbkoaaDoorW.PrintMore Go.Proofs.YtacnkcojhlbkoaaDoor.NL
set_option maxRecDepth 100000
set_option exponentiation.threshold 130

abbrev wHi (N : Nat) : Int := ((N / 18446744073709551616 : Nat) : Int)
abbrev wLo (N : Nat) : Int := ((N % 18446744073709551616 : Nat) : Int)
theorem top_127 {f : Int} (hf : isFm f = true) : topN f + 1 ≤ 128 := by
  rcases fm_cases hf with rfl | rfl | rfl | rfl | rfl <;> decide
theorem lt_128 {f : Int} (hf : isFm f = true) {N : Nat} (hN : N < 2 ^ (topN f + 1)) : N < W128 :=
  Nat.lt_of_lt_of_le hN (Nat.le_trans (Nat.pow_le_pow_right (by omega) (top_127 hf)) (by decide))
theorem u64_hi {N : Nat} (h : N < W128) : u64B (wHi N) = true := by
  have : N < 340282366920938463463374607431768211456 := h
  simp only [wHi, u64B, decide_eq_true_eq]; omega
theorem u64_lo (N : Nat) : u64B (wLo N) = true := by simp only [wLo, u64B, decide_eq_true_eq]; omega
theorem raw_words (N : Nat) : rawN (wHi N) (wLo N) = N := by unfold rawN wHi wLo; omega
theorem decode_f {f : Int} (hf : isFm f = true) {N : Nat} (hN : N < 2 ^ (topN f + 1)) : binary_Decode.f f (wHi N) (wLo N) = some (f, (decN f N).1, decNeg f N, ofN (decN f N).2.1, (decN f N).2.2, 0) := by
  unfold binary_Decode.f decodeR
  rw [u64_hi (lt_128 hf hN), u64_lo, raw_words]
  simp only [Bool.and_self, if_true]
  rw [if_pos ⟨hf, hN⟩]
theorem datOk_f {f cl ex : Int} {x : Nat} (hf : isFm f = true) (hx : x < W128) (hh : fits (fmD f) (fmL f) (fmH f) cl (blen x) ex = true) : datOk f cl (ofN x) ex = true := by
  unfold datOk; rw [hf, hasB_ofN hx, hh]; rfl
theorem ofN_len {x : Nat} (hx : x < W128) : (ofN x).length ≤ 4 :=
  len_ofN_le (k := 4) (by have : W128 = 4294967296 ^ 4 := by decide
                          omega)
end Go.Proofs.YtacnkcojhlbkoaaDoor

set_option linter.unusedSimpArgs false
set_option linter.unusedVariables false
set_option linter.unnecessarySimpa false
namespace Go.Proofs.YtacnkcojhlbkoaaDoor
open Go.RowKit Go.Proofs.YtacnkcojhlbkoaaDoorW.PrintWords Go.Proofs.YtacnkcojhlbkoaaDoorW.PrintLast Go.Proofs.YtacnkcojhlbkoaaDoorW.PrintMore Go.Proofs.YtacnkcojhlbkoaaDoor.NL
set_option maxRecDepth 100000
set_option exponentiation.threshold 130

theorem cut_lt (f : Int) (N : Nat) : cutN f N < 2 ^ (topN f + 1) := Nat.mod_lt _ (Nat.two_pow_pos _)
theorem which_f {a0 : Int} (h : 0 ≤ a0 ∧ a0 ≤ 255) : ∃ f, sorobanlaw05_which.f a0 = some f ∧ isFm f = true := by
  refine ⟨1 + a0 % 5, by unfold sorobanlaw05_which.f; rw [if_pos h], ?_⟩
  simp [isFm]; omega
theorem cut_f {f hi lo : Int} (hf : isFm f = true) (h1 : u64B hi = true) (h2 : u64B lo = true) : ∃ N, N < 2 ^ (topN f + 1) ∧ sorobanlaw05_cut.f f hi lo = some (wHi N, wLo N) :=
  ⟨cutN f (rawN hi lo), cut_lt _ _, by unfold sorobanlaw05_cut.f; rw [hf, h1, h2]; rfl⟩
end Go.Proofs.YtacnkcojhlbkoaaDoor

set_option linter.unusedSimpArgs false
set_option linter.unusedVariables false
set_option linter.unnecessarySimpa false
namespace Go.Proofs.YtacnkcojhlbkoaaDoor.NL
set_option maxRecDepth 100000

/-- A product with one element is being taken off a row, from element o on. -/
def TakeAt (zs d : List Int) (q : Int) (o t k : Nat) (cy bo : Int) (ys : List Int) : Prop :=
  0 ≤ cy ∧ cy < 4294967296 ∧ 0 ≤ bo ∧ bo < 2 ∧ Lim ys ∧ ys.drop t = zs.drop t ∧ cy.toNat * W k ≤ q.toNat * val (d.take k) ∧ val ys + W o * (q.toNat * val (d.take k)) = val zs + W (o + k) * (cy.toNat + bo.toNat)
theorem TakeAt.start {zs d : List Int} {q : Int} {o t : Nat} (lz : Lim zs) : TakeAt zs d q o t 0 0 0 zs := ⟨by omega, by omega, by omega, by omega, lz, rfl, by simp, by simp [val]⟩
theorem drop_set {ys : List Int} {j t : Nat} {x : Int} (h : j < t) : (ys.set j x).drop t = ys.drop t := by
  apply List.ext_getElem?
  intro i
  rw [List.getElem?_drop, List.getElem?_drop, List.getElem?_set_ne (by omega)]
/-- What is left of an element. -/
def takX (r cy q e bo : Int) : Int := subX r ((cy + q * e) % 4294967296) bo
theorem TakeAt.step {zs d ys : List Int} {q cy bo : Int} {o t k : Nat} (ld : Lim d) (q0 : 0 ≤ q) (q1 : q < 4294967296) (h : TakeAt zs d q o t k cy bo ys) (hk : o + k < t) (hy : o + k < ys.length) :
    TakeAt zs d q o t (k + 1) ((cy + q * d.getD k 0) / 4294967296) (takX (ys.getD (o + k) 0) cy q (d.getD k 0) bo / 9223372036854775808) (ys.set (o + k) (takX (ys.getD (o + k) 0) cy q (d.getD k 0) bo % 4294967296)) := by
  obtain ⟨h0, h1, b0, b1, h2, h3, h4, h5⟩ := h
  obtain ⟨y0, y1⟩ := lim_getD ld k
  obtain ⟨u0, u1⟩ := lim_getD h2 (o + k)
  have hb := mul_bound q0 q1 y0 y1 (u := 0) (by omega) (by omega) h0 h1
  have e0 := val_set (x := takX (ys.getD (o + k) 0) cy q (d.getD k 0) bo % 4294967296) hy
  have exy : (q * d.getD k 0).toNat = q.toNat * (d.getD k 0).toNat := Int.toNat_mul q0 y0
  have c0 : 0 ≤ (cy + q * d.getD k 0) / 4294967296 ∧ (cy + q * d.getD k 0) / 4294967296 < 4294967296 ∧ 4294967296 * ((cy + q * d.getD k 0) / 4294967296).toNat + ((cy + q * d.getD k 0) % 4294967296).toNat = cy.toNat + q.toNat * (d.getD k 0).toNat ∧ 0 ≤ (cy + q * d.getD k 0) % 4294967296 ∧ (cy + q * d.getD k 0) % 4294967296 < 4294967296 := by
    rw [← exy]; omega
  unfold takX at *
  generalize (cy + q * d.getD k 0) / 4294967296 = cy' at *
  generalize (cy + q * d.getD k 0) % 4294967296 = lo at *
  have x0 : 0 ≤ subX (ys.getD (o + k) 0) lo bo ∧ subX (ys.getD (o + k) 0) lo bo < 18446744073709551616 := by unfold subX; split <;> omega
  have ex : (subX (ys.getD (o + k) 0) lo bo % 4294967296).toNat + lo.toNat + bo.toNat = (ys.getD (o + k) 0).toNat + 4294967296 * (subX (ys.getD (o + k) 0) lo bo / 9223372036854775808).toNat ∧ 0 ≤ subX (ys.getD (o + k) 0) lo bo / 9223372036854775808 ∧ subX (ys.getD (o + k) 0) lo bo / 9223372036854775808 < 2 ∧ 0 ≤ subX (ys.getD (o + k) 0) lo bo % 4294967296 ∧ subX (ys.getD (o + k) 0) lo bo % 4294967296 < 4294967296 := by unfold subX; split <;> omega
  generalize subX (ys.getD (o + k) 0) lo bo % 4294967296 = nw at *
  generalize subX (ys.getD (o + k) 0) lo bo / 9223372036854775808 = bo' at *
  obtain ⟨ex, n0, n1, n2, n3⟩ := ex
  obtain ⟨c0, c1, c2, -, -⟩ := c0
  refine ⟨c0, c1, n0, n1, lim_set h2 ⟨n2, n3⟩, by rw [drop_set hk]; exact h3, ?_, ?_⟩
  · rw [val_take_succ, W_succ]
    clear ex e0 h5 exy hb x0
    generalize (d.getD k 0).toNat = e at *
    generalize q.toNat = Q at *
    have h6 : cy'.toNat * (4294967296 * W k) ≤ (cy.toNat + Q * e) * W k := by
      rw [← Nat.mul_assoc]
      exact Nat.mul_le_mul_right _ (by omega)
    rw [Nat.add_mul] at h6
    rw [Nat.mul_add, ← Nat.mul_assoc Q (W k) e, Nat.mul_right_comm]
    omega
  · rw [val_take_succ, ← Nat.add_assoc o k 1, W_succ]
    clear h4 hb x0 exy
    generalize (d.getD k 0).toNat = e at *
    generalize (ys.getD (o + k) 0).toNat = r at *
    generalize q.toNat = Q at *
    have hG : W (o + k) * (cy.toNat + bo.toNat + nw.toNat + Q * e) = W (o + k) * (r + 4294967296 * (cy'.toNat + bo'.toNat)) := by
      congr 1; omega
    have h6 : W o * (Q * (W k * e)) = W (o + k) * (Q * e) := by
      rw [W_add]; simp only [Nat.mul_assoc, Nat.mul_left_comm, Nat.mul_comm]
    have h7 : 4294967296 * W (o + k) * (cy'.toNat + bo'.toNat) = W (o + k) * (4294967296 * (cy'.toNat + bo'.toNat)) := by rw [Nat.mul_comm 4294967296, Nat.mul_assoc]
    rw [h7, Nat.mul_add Q, Nat.mul_add (W o), h6]
    rw [Nat.mul_add, Nat.mul_add, Nat.mul_add, Nat.mul_add] at hG
    rw [Nat.mul_add] at h5
    omega
theorem take_len {d : List Int} {m : Nat} (h : d.length ≤ m) : d.take m = d := List.take_of_length_le h
theorem TakeAt.done {zs d ys : List Int} {q cy bo : Int} {o m : Nat} (h : TakeAt zs d q o (o + m) m cy bo ys) (hd : d.length ≤ m) (hq : q.toNat * val d < W m) :
    bo.toNat < 2 ∧ Lim ys ∧ ys.drop (o + m) = zs.drop (o + m) ∧ val ys + W o * (q.toNat * val d) = val zs + W (o + m) * bo.toNat := by
  obtain ⟨h0, h1, b0, b1, h2, h3, h4, h5⟩ := h
  rw [take_len hd] at h4 h5
  have : cy.toNat = 0 := by
    rcases Nat.eq_zero_or_pos cy.toNat with h | h
    · exact h
    · have : 1 * W m ≤ cy.toNat * W m := Nat.mul_le_mul_right _ h
      omega
  rw [this, Nat.zero_add] at h5
  exact ⟨by omega, h2, h3, h5⟩

/-- A number is being added back. -/
def BackAt (zs d : List Int) (o t k : Nat) (cy : Int) (ys : List Int) : Prop :=
  0 ≤ cy ∧ cy < 2 ∧ Lim ys ∧ ys.drop t = zs.drop t ∧ val ys + W (o + k) * cy.toNat = val zs + W o * val (d.take k)
theorem BackAt.start {zs d : List Int} {o t : Nat} (lz : Lim zs) : BackAt zs d o t 0 0 zs := ⟨by omega, by omega, lz, rfl, by simp [val]⟩
theorem BackAt.step {zs d ys : List Int} {cy : Int} {o t k : Nat} (ld : Lim d) (h : BackAt zs d o t k cy ys) (hk : o + k < t) (hy : o + k < ys.length) :
    BackAt zs d o t (k + 1) ((cy + (ys.getD (o + k) 0 + d.getD k 0)) / 4294967296) (ys.set (o + k) ((cy + (ys.getD (o + k) 0 + d.getD k 0)) % 4294967296)) := by
  obtain ⟨h0, h1, h2, h3, h5⟩ := h
  obtain ⟨y0, y1⟩ := lim_getD ld k
  obtain ⟨u0, u1⟩ := lim_getD h2 (o + k)
  have e0 := val_set (x := (cy + (ys.getD (o + k) 0 + d.getD k 0)) % 4294967296) hy
  refine ⟨by omega, by omega, lim_set h2 (by omega), by rw [drop_set hk]; exact h3, ?_⟩
  have ex : ((cy + (ys.getD (o + k) 0 + d.getD k 0)) % 4294967296).toNat + 4294967296 * ((cy + (ys.getD (o + k) 0 + d.getD k 0)) / 4294967296).toNat = cy.toNat + (ys.getD (o + k) 0).toNat + (d.getD k 0).toNat := by omega
  rw [val_take_succ, ← Nat.add_assoc o k 1, W_succ]
  generalize ((cy + (ys.getD (o + k) 0 + d.getD k 0)) % 4294967296) = nw at *
  generalize ((cy + (ys.getD (o + k) 0 + d.getD k 0)) / 4294967296) = cy' at *
  generalize (d.getD k 0).toNat = e at *
  generalize (ys.getD (o + k) 0).toNat = r at *
  have hG : W (o + k) * (nw.toNat + 4294967296 * cy'.toNat) = W (o + k) * (cy.toNat + r + e) := by rw [ex]
  have h6 : W o * (W k * e) = W (o + k) * e := by rw [W_add, Nat.mul_assoc]
  have h7 : 4294967296 * W (o + k) * cy'.toNat = W (o + k) * (4294967296 * cy'.toNat) := by rw [Nat.mul_comm 4294967296, Nat.mul_assoc]
  rw [h7, Nat.mul_add (W o), h6]
  rw [Nat.mul_add, Nat.mul_add, Nat.mul_add] at hG
  omega

/-- A row whose number is small has nothing behind. -/
theorem val_split (zs : List Int) (t : Nat) (h : t ≤ zs.length) : val zs = val (zs.take t) + W t * val (zs.drop t) := by
  have := val_append (zs.take t) (zs.drop t)
  rwa [List.take_append_drop, List.length_take, Nat.min_eq_left h] at this
theorem small_drop {zs : List Int} {t : Nat} (ht : t ≤ zs.length) (h : val zs < W t) : val (zs.drop t) = 0 := by
  have := val_split zs t ht
  rcases Nat.eq_zero_or_pos (val (zs.drop t)) with h0 | h0
  · exact h0
  · have : W t * 1 ≤ W t * val (zs.drop t) := Nat.mul_le_mul_left _ h0
    omega
theorem drop_small {zs ys : List Int} {t : Nat} (ly : Lim ys) (hl : t ≤ ys.length) (h0 : val (zs.drop t) = 0) (h : ys.drop t = zs.drop t) : val ys < W t := by
  have := val_split ys t hl
  rw [h, h0, Nat.mul_zero, Nat.add_zero] at this
  rw [this]
  have h2 := val_lt (l := ys.take t) (fun x hx => ly x (List.mem_of_mem_take hx))
  rwa [List.length_take, Nat.min_eq_left hl] at h2

/-- One element of a quotient is being estimated: q is not below it, r is what it leaves of the two first elements. -/
def EstAt (qt d1 top q r : Nat) : Prop := qt ≤ q ∧ q < 4294967296 ∧ q * d1 + r = top
/-- The numbers at hand: U is the row's, D the divisor's; one element of the quotient. -/
structure EstIn (U D o p qt d1 d2 u3 top : Nat) : Prop where
  hqt : qt = U / (W o * D)
  hU : U < D * W (o + 1)
  hD : W (p + 1) ≤ D
  hD2 : D < W (p + 2)
  h1 : d1 = D / W (p + 1)
  h2 : d2 = D / W p % 4294967296
  ht : top = U / W (o + p + 1)
  h3 : u3 = U / W (o + p) % 4294967296
theorem EstIn.qt_lt {U D o p qt d1 d2 u3 top : Nat} (h : EstIn U D o p qt d1 d2 u3 top) : qt < 4294967296 := by
  rw [h.hqt]
  refine Nat.div_lt_of_lt_mul ?_
  have := h.hU
  rw [W_succ] at this
  rwa [Nat.mul_assoc, Nat.mul_left_comm, Nat.mul_comm (W o) 4294967296]
theorem EstIn.d1_pos {U D o p qt d1 d2 u3 top : Nat} (h : EstIn U D o p qt d1 d2 u3 top) : 1 ≤ d1 ∧ d1 < 4294967296 := by
  rw [h.h1]
  refine ⟨(Nat.le_div_iff_mul_le (W_pos _)).2 (by rw [Nat.one_mul]; exact h.hD), Nat.div_lt_of_lt_mul ?_⟩
  have := h.hD2
  rwa [show p + 2 = (p + 1) + 1 by omega, W_succ, Nat.mul_comm] at this
theorem EstIn.qt_mul {U D o p qt d1 d2 u3 top : Nat} (h : EstIn U D o p qt d1 d2 u3 top) : qt * (W o * D) ≤ U := by
  rw [h.hqt]; exact Nat.div_mul_le_self _ _
theorem EstIn.d1_mul {U D o p qt d1 d2 u3 top : Nat} (h : EstIn U D o p qt d1 d2 u3 top) : d1 * W (p + 1) ≤ D := by
  rw [h.h1]; exact Nat.div_mul_le_self _ _
theorem EstIn.top_mul {U D o p qt d1 d2 u3 top : Nat} (h : EstIn U D o p qt d1 d2 u3 top) : top * W (o + p + 1) ≤ U := by
  rw [h.ht]; exact Nat.div_mul_le_self _ _
theorem EstIn.top_lt {U D o p qt d1 d2 u3 top : Nat} (h : EstIn U D o p qt d1 d2 u3 top) : top < 18446744073709551616 := by
  rw [h.ht]
  refine Nat.div_lt_of_lt_mul (Nat.lt_of_lt_of_le h.hU ?_)
  rw [show (18446744073709551616 : Nat) = W 2 from rfl, ← W_add]
  have : D * W (o + 1) ≤ W (p + 2) * W (o + 1) := Nat.mul_le_mul_right _ (Nat.le_of_lt h.hD2)
  rw [← W_add] at this
  exact Nat.le_trans this (W_le (by omega))
theorem EstIn.start {U D o p qt d1 d2 u3 top : Nat} (h : EstIn U D o p qt d1 d2 u3 top) : EstAt qt d1 top (min (top / d1) 4294967295) (top - min (top / d1) 4294967295 * d1) := by
  have hq : qt ≤ top / d1 := by
    rw [Nat.le_div_iff_mul_le h.d1_pos.1]
    rw [h.ht, Nat.le_div_iff_mul_le (W_pos _)]
    refine Nat.le_trans ?_ h.qt_mul
    rw [Nat.mul_assoc]
    refine Nat.mul_le_mul_left _ ?_
    rw [Nat.add_assoc, W_add, Nat.mul_left_comm]
    exact Nat.mul_le_mul_left _ h.d1_mul
  have h2 := h.qt_lt
  have h3 : min (top / d1) 4294967295 * d1 ≤ top := Nat.le_trans (Nat.mul_le_mul_right _ (Nat.min_le_left _ _)) (Nat.div_mul_le_self _ _)
  refine ⟨by omega, by omega, by omega⟩
/-- The three first elements. -/
theorem EstIn.three {U D o p qt d1 d2 u3 top : Nat} (h : EstIn U D o p qt d1 d2 u3 top) : U / W (o + p) = top * 4294967296 + u3 := by
  rw [h.ht, h.h3, W_succ, Nat.mul_comm 4294967296, ← Nat.div_div_eq_div_mul, Nat.mul_comm (U / W (o + p) / 4294967296)]
  exact (Nat.div_add_mod _ _).symm
theorem EstIn.two {U D o p qt d1 d2 u3 top : Nat} (h : EstIn U D o p qt d1 d2 u3 top) : D / W p = d1 * 4294967296 + d2 := by
  rw [h.h1, h.h2, W_succ, Nat.mul_comm 4294967296, ← Nat.div_div_eq_div_mul, Nat.mul_comm (D / W p / 4294967296)]
  exact (Nat.div_add_mod _ _).symm
theorem EstAt.step {U D o p qt d1 d2 u3 top q r : Nat} (h : EstIn U D o p qt d1 d2 u3 top) (e : EstAt qt d1 top q r) (hc : r * 4294967296 + u3 < q * d2) : 1 ≤ q ∧ EstAt qt d1 top (q - 1) (r + d1) := by
  obtain ⟨e1, e2, e3⟩ := e
  have hq : 1 ≤ q := by
    rcases Nat.eq_zero_or_pos q with h0 | h0
    · rw [h0, Nat.zero_mul] at hc; omega
    · exact h0
  have hlt : qt < q := by
    refine Nat.lt_of_not_le fun hle => ?_
    have h4 : q * (d1 * 4294967296 + d2) ≤ top * 4294967296 + u3 := by
      rw [← h.three, ← h.two, Nat.le_div_iff_mul_le (W_pos _), Nat.mul_assoc]
      refine Nat.le_trans (Nat.mul_le_mul hle ?_) h.qt_mul
      rw [W_add, Nat.mul_left_comm]
      exact Nat.mul_le_mul_left _ (Nat.div_mul_le_self _ _)
    rw [Nat.mul_add, ← e3, Nat.add_mul, ← Nat.mul_assoc] at h4
    omega
  refine ⟨hq, by omega, by omega, ?_⟩
  obtain ⟨j, rfl⟩ : ∃ j, q = j + 1 := ⟨q - 1, by omega⟩
  rw [Nat.succ_mul] at e3
  rw [Nat.add_sub_cancel]; omega
theorem EstAt.stop {U D o p qt d1 d2 u3 top q r : Nat} (h : EstIn U D o p qt d1 d2 u3 top) (e : EstAt qt d1 top q r) (hc : 4294967296 ≤ r ∨ q * d2 ≤ r * 4294967296 + u3) : q = qt ∨ q = qt + 1 := by
  obtain ⟨e1, e2, e3⟩ := e
  have hD1 : D < (d1 + 1) * W (p + 1) := by
    rw [h.h1]; exact Nat.lt_mul_of_div_lt (Nat.lt_succ_self _) (W_pos _)
  have hD2 : D < (d1 * 4294967296 + d2 + 1) * W p := by
    rw [← h.two]; exact Nat.lt_mul_of_div_lt (Nat.lt_succ_self _) (W_pos _)
  have hX : q * (W o * D) ≤ U + W o * D := by
    rcases hc with hc | hc
    · refine Nat.le_trans ?_ (Nat.le_add_right _ _)
      refine Nat.le_trans ?_ h.top_mul
      have h5 : q * (W o * D) ≤ q * (W o * ((d1 + 1) * W (p + 1))) := Nat.mul_le_mul_left _ (Nat.mul_le_mul_left _ (Nat.le_of_lt hD1))
      refine Nat.le_trans h5 ?_
      rw [Nat.mul_left_comm (W o), ← W_add, ← Nat.mul_assoc, ← Nat.add_assoc]
      refine Nat.mul_le_mul_right _ ?_
      rw [Nat.mul_add, Nat.mul_one]; omega
    · have h5 : q * (W o * D) ≤ q * (W o * ((d1 * 4294967296 + d2 + 1) * W p)) := Nat.mul_le_mul_left _ (Nat.mul_le_mul_left _ (Nat.le_of_lt hD2))
      refine Nat.le_trans h5 ?_
      have h6 : q * (d1 * 4294967296 + d2) * W (o + p) ≤ U := by
        rw [← Nat.le_div_iff_mul_le (W_pos _), h.three, Nat.mul_add, ← e3, Nat.add_mul, ← Nat.mul_assoc]; omega
      have h7 : q * W (o + p) ≤ W o * D := by
        refine Nat.le_trans (Nat.mul_le_mul_right _ (Nat.le_of_lt e2)) ?_
        rw [← W_succ, Nat.add_assoc, W_add]
        exact Nat.mul_le_mul_left _ h.hD
      have h8 : q * (W o * ((d1 * 4294967296 + d2 + 1) * W p)) = q * (d1 * 4294967296 + d2) * W (o + p) + q * W (o + p) := by
        rw [Nat.mul_left_comm (W o), ← W_add, ← Nat.mul_assoc, Nat.mul_add q (d1 * 4294967296 + d2), Nat.mul_one, Nat.add_mul]
      omega
  have hq : q ≤ qt + 1 := by
    rcases Nat.eq_zero_or_pos q with h0 | h0
    · omega
    · obtain ⟨j, rfl⟩ : ∃ j, q = j + 1 := ⟨q - 1, by omega⟩
      have : j ≤ qt := by
        rw [h.hqt, Nat.le_div_iff_mul_le (Nat.mul_pos (W_pos _) (Nat.lt_of_lt_of_le (W_pos _) h.hD))]
        rw [Nat.succ_mul] at hX; omega
      omega
  omega
theorem EstIn.U_lt {U D o p qt d1 d2 u3 top : Nat} (h : EstIn U D o p qt d1 d2 u3 top) : U < W (o + (p + 3)) := by
  refine Nat.lt_of_lt_of_le h.hU ?_
  have : D * W (o + 1) ≤ W (p + 2) * W (o + 1) := Nat.mul_le_mul_right _ (Nat.le_of_lt h.hD2)
  rw [← W_add] at this
  exact Nat.le_trans this (W_le (by omega))
theorem EstIn.X_pos {U D o p qt d1 d2 u3 top : Nat} (h : EstIn U D o p qt d1 d2 u3 top) : 0 < W o * D := Nat.mul_pos (W_pos _) (Nat.lt_of_lt_of_le (W_pos _) h.hD)
theorem EstIn.fin0 {U D o p qt d1 d2 u3 top q V : Nat} (h : EstIn U D o p qt d1 d2 u3 top) (hq : q = qt ∨ q = qt + 1) (hv : V + W o * (q * D) = U) : q = qt ∧ V = U % (W o * D) := by
  have e : W o * (q * D) = q * (W o * D) := Nat.mul_left_comm ..
  rw [e] at hv
  have h1 : q ≤ qt := by
    rw [h.hqt, Nat.le_div_iff_mul_le h.X_pos]; omega
  have h2 : q = qt := by omega
  refine ⟨h2, ?_⟩
  have h3 := Nat.div_add_mod U (W o * D)
  rw [← h.hqt, Nat.mul_comm, ← h2] at h3
  omega
theorem EstIn.fin1 {U D o p qt d1 d2 u3 top q V Y c : Nat} (h : EstIn U D o p qt d1 d2 u3 top) (hq : q = qt ∨ q = qt + 1) (hv : V + W o * (q * D) = U + W (o + (p + 3))) (hV : V < W (o + (p + 3))) (hc : c < 2) (hY : Y < W (o + (p + 3))) (hb : Y + W (o + (p + 3)) * c = V + W o * D) :
    q = qt + 1 ∧ Y = U % (W o * D) := by
  have e : W o * (q * D) = q * (W o * D) := Nat.mul_left_comm ..
  rw [e] at hv
  have h2 : q = qt + 1 := by
    rcases hq with h1 | h1
    · have := h.qt_mul
      rw [← h1] at this
      omega
    · exact h1
  refine ⟨h2, ?_⟩
  have h3 := Nat.div_add_mod U (W o * D)
  rw [← h.hqt, Nat.mul_comm] at h3
  rw [h2, Nat.succ_mul] at hv
  generalize qt * (W o * D) = Z at *
  generalize W (o + (p + 3)) = t at *
  have h4 : c = 0 ∨ c = 1 := by omega
  rcases h4 with rfl | rfl
  · omega
  · omega
/-- The numbers at hand, out of the rows. -/
theorem EstIn.of {zs d : List Int} {o p : Nat} (lz : Lim zs) (ld : Lim d) (hl : d.length = p + 2) (hD : W (p + 1) ≤ val d) (hU : val zs < val d * W (o + 1)) :
    EstIn (val zs) (val d) o p (val zs / (W o * val d)) (d.getD (p + 1) 0).toNat (d.getD p 0).toNat (zs.getD (o + p) 0).toNat ((zs.getD (o + p + 2) 0).toNat * 4294967296 + (zs.getD (o + p + 1) 0).toNat) := by
  have hD2 : val d < W (p + 2) := by have := val_lt ld; rwa [hl] at this
  have hU2 : val zs < W (o + p + 3) := by
    refine Nat.lt_of_lt_of_le hU ?_
    have : val d * W (o + 1) ≤ W (p + 2) * W (o + 1) := Nat.mul_le_mul_right _ (Nat.le_of_lt hD2)
    rw [← W_add] at this
    exact Nat.le_trans this (W_le (by omega))
  refine ⟨rfl, hU, hD, hD2, ?_, digit ld _, ?_, digit lz _⟩
  · rw [digit ld, Nat.mod_eq_of_lt]
    refine Nat.div_lt_of_lt_mul ?_
    rw [show p + 2 = (p + 1) + 1 by omega, W_succ] at hD2
    rwa [Nat.mul_comm]
  · rw [digit lz, digit lz]
    have h1 : val zs / W (o + p + 2) = val zs / W (o + p + 1) / 4294967296 := by
      rw [Nat.div_div_eq_div_mul, show o + p + 2 = (o + p + 1) + 1 by omega, W_succ, Nat.mul_comm 4294967296]
    have h2 : val zs / W (o + p + 2) < 4294967296 := by
      refine Nat.div_lt_of_lt_mul ?_
      rw [show o + p + 3 = (o + p + 2) + 1 by omega, W_succ] at hU2
      rwa [Nat.mul_comm]
    rw [Nat.mod_eq_of_lt h2, h1, Nat.mul_comm]
    exact Nat.div_add_mod _ _
end Go.Proofs.YtacnkcojhlbkoaaDoor.NL

set_option linter.unusedSimpArgs false
set_option linter.unusedVariables false
set_option linter.unnecessarySimpa false
namespace Go.Proofs.YtacnkcojhlbkoaaDoor
open Go.RowKit Go.Proofs.YtacnkcojhlbkoaaDoorW.PrintWords Go.Proofs.YtacnkcojhlbkoaaDoorW.PrintLast Go.Proofs.YtacnkcojhlbkoaaDoorW.PrintMore Go.Proofs.YtacnkcojhlbkoaaDoor.NL
set_option maxRecDepth 100000

theorem Chg.id (w : World) (S : Nat → Prop) : Chg w w S := Chg.of_below (Below.refl _ _)
theorem Chg.tr {w w' w'' : World} {S : Nat → Prop} (h : Chg w w' S) (k : Chg w' w'' S) : Chg w w'' S :=
  ⟨k.os.trans h.os, k.tape.trans h.tape, k.output.trans h.output, Nat.le_trans h.size k.size, fun i hi hS => (k.block i (Nat.lt_of_lt_of_le hi h.size) hS).trans (h.block i hi hS)⟩
def TakRel (zs d : List Int) (q : Int) (o m L c g : Nat) (w0 w : World) (vc vb vi : Value) (wr : World) : Prop :=
  ∃ (k : Nat) (cy bo : Int) (ys : List Int), k ≤ m ∧ vi = .int .i64 k ∧ vc = .int .u64 cy ∧ vb = .int .u64 bo ∧ ys.length = L ∧ OwnI .u32 77 w0.heap.size wr (.slice (some ⟨g, 0, none⟩) L c) ys ∧ Below w0.heap.size w0 wr ∧ Chg w wr (fun k => k = g) ∧ TakeAt zs d q o (o + m) k cy bo ys
def TakP (zs d : List Int) (q : Int) (o m L c g : Nat) (w0 w : World) (e : Ending) (w' : World) : Prop :=
  ∃ (bo : Int) (ys : List Int), e = .returned (.bool (decide (bo > 0))) ∧ 0 ≤ bo ∧ bo.toNat < 2 ∧ OwnI .u32 77 w0.heap.size w' (.slice (some ⟨g, 0, none⟩) L c) ys ∧ ys.length = L ∧ Lim ys ∧ ys.drop (o + m) = zs.drop (o + m) ∧ val ys + W o * (q.toNat * val d) = val zs + W (o + m) * bo.toNat ∧ Below w0.heap.size w0 w' ∧ Chg w w' (fun k => k = g)
set_option maxHeartbeats 4000000 in
theorem takes_any {w0 : World} (g o m c' L c : Nat) (zs : List Int) (D : Option Addr) (nd cd : Nat) (d : List Int) (q : Int) (w : World)
    (hO : OwnI .u32 77 w0.heap.size w (.slice (some ⟨g, 0, none⟩) L c) zs) (hz : zs.length = L) (lz : Lim zs) (hm : o + m ≤ L) (hL : L ≤ 1000000000) (hD : Kd.C (Kd.int .u32) w0 D nd d) (ld : Lim d) (hb0 : Below w0.heap.size w0 w) (hnd : nd ≤ m) (q0 : 0 ≤ q) (q1 : q < 4294967296) (hq : q.toNat * val d < W m) :
    Calls Tryd.prog 133 #[.slice (some ⟨g, o, none⟩) m c', .slice D nd cd, .int .u64 q] w (TakP zs d q o m L c g w0 w) := by
  have hd : d.length = nd := hD.1
  have HD := Lib.hid hD
  have HDL := Lib.hid hd
  have HO := Lib.hid hO
  have HQ := Lib.hid hq
  have HZ := Lib.hid hz
  clear hD hd hO hq hz
  go_enter Tryd.func133, Tryd.ntmps133
  go_wp2
  go_loopw [7, 8, 13] (fun vc vb vi wr => TakRel zs d q o m L c g w0 w vc vb vi wr) (fun _ _ vi _ => m - (intOf vi).toNat)
  case atStart => exact ⟨0, 0, 0, zs, by omega, rfl, rfl, rfl, HZ.out, HO.out, hb0, Chg.id _ _, TakeAt.start lz⟩
  case round =>
    obtain ⟨k, cy, bo, ys, hk, rfl, rfl, rfl, hy, hown, hbw, hch, htk⟩ := hrel
    have HY := Lib.hid hy
    have HW := Lib.hid hown
    have HT := Lib.hid htk
    obtain ⟨c0, c1, b0, b1, ly, -, -, -⟩ := htk
    clear hy hown
    by_cases hlt : k < m
    · obtain ⟨g', hg', hg0, hg1, hgc, hgf⟩ := own_open HW.out (by omega)
      obtain rfl : g = g' := by injection hg' with h1; injection h1
      clear hg'
      have hcell := hgc (o + k) (by omega)
      have hfr := hgf (o + k)
      obtain ⟨r0, r1⟩ := lim_getD ly (o + k)
      obtain ⟨y0, y1⟩ := lim_getD ld k
      have hst := TakeAt.step ld q0 q1 HT.out (by omega) (by rw [HY.out]; omega)
      unfold takX at hst
      have HST := Lib.hid hst
      have ata : ∀ w', Below wr.heap.size wr w' → Calls Tryd.prog 115 #[.slice D nd cd, .int .i64 k] w' fun e w'' => e = .returned (.int .u64 (d.getD k 0)) ∧ w' = w'' := fun w' hb' =>
        at_any D nd cd d k w' (Kd.C_below HD.out (below_step hbw hb')) ld (by omega) (by omega)
      have HAT := Lib.hid ata
      clear hgc hgf hst ata ly
      generalize d.getD k 0 = y at *
      generalize ys.getD (o + k) 0 = r at *
      obtain ⟨m0, m1, m2, m3⟩ := mul_bound q0 q1 y0 y1 (u := 0) (by omega) (by omega) c0 c1
      rw [Int.add_zero] at m2 m3
      have l0 : 0 ≤ (cy + q * y) % 4294967296 := by omega
      have l1 : (cy + q * y) % 4294967296 < 4294967296 := by omega
      go_wp2_with (first | (go_at_call 115; (with_reducible refine (HAT.out _ bel).mono ?_); rintro e w3 ⟨rfl, rfl⟩))
      rw [wrap_sub r0 r1 l0 l1 b0 b1]
      go_roundw
      case rel => exact ⟨k + 1, _, _, _, by omega, by simp, rfl, rfl, by simp [HY.out], Kd.R_putn HW.out ((o + k : Nat) : Int) _, bel, Chg.setCell hch rfl _, HST.out⟩
      case measure => simp [intOf]; omega
    · obtain rfl : k = m := by omega
      obtain ⟨p1, p2, p3, p4⟩ := TakeAt.done HT.out (by rw [HDL.out]; exact hnd) HQ.out
      have H2 := Lib.hid p2
      have H3 := Lib.hid p3
      have H4 := Lib.hid p4
      clear p2 p3 p4 ly
      go_wp2
      go_ret
      exact ⟨bo, ys, rfl, b0, p1, HW.out, HY.out, H2.out, H3.out, H4.out, hbw, hch⟩
end Go.Proofs.YtacnkcojhlbkoaaDoor
