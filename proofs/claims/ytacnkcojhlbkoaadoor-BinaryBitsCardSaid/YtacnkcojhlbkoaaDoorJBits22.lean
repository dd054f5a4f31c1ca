/- Written by this session's own program (wip/tools/xprint.sh) for the law Bitz: what the law's functions compute, and that the machine does so, given the contracts of the program's functions. The specification's bits of a datum: what they are, as a number. -/
import Derived.Test.YtacnkcojhlbkoaaDoorJBits21
namespace Go.Proofs.YtacnkcojhlbkoaaDoor.XBitz
open Go.RowKit Go.Proofs.YtacnkcojhlbkoaaDoorW.PrintWords Go.Proofs.YtacnkcojhlbkoaaDoorW.PrintLast Go.Proofs.YtacnkcojhlbkoaaDoorW.PrintMore
attribute [local go_sem] max2_int min2_int max_two min_two max_three min_three max_four min_four   -- for this text's walks alone
set_option linter.unusedVariables false
set_option linter.unusedSimpArgs false

/-! ### sorobanref05_Format: function 47 -/
def sorobanref05_Format.f (a0 : Int) : Option (Int × Int × Int × Int × Int) := if a0 = 1 then (some (11, 15, (-24), 5, 16)) else (if a0 = 2 then (some (24, 127, (-149), 104, 32)) else (if a0 = 3 then (some (53, 1023, (-1074), 971, 64)) else (if a0 = 4 then (some (64, 16383, (-16445), 16320, 80)) else (some (113, 16383, (-16494), 16271, 128)))))
set_option maxHeartbeats 8000000 in
set_option maxRecDepth 100000 in
theorem sorobanref05_Format.calls (a0 : Int) (r1 : Int) (r2 : Int) (r3 : Int) (r4 : Int) (r5 : Int) (w : World) (h : sorobanref05_Format.f a0 = some (r1, r2, r3, r4, r5)) :
    Calls Tryd.prog 47 #[.int .i64 a0] w fun e w' => e = .returned (.agg #[.int .i64 r1, .int .i64 r2, .int .i64 r3, .int .i64 r4, .int .i64 r5]) ∧ Below w.heap.size w w' := by
  have hu57 := Tryd.underlying57
  have HB := Aside0.mk (Below.refl w.heap.size w)
  have H : (if a0 = 1 then (some (11, 15, (-24), 5, 16)) else (if a0 = 2 then (some (24, 127, (-149), 104, 32)) else (if a0 = 3 then (some (53, 1023, (-1074), 971, 64)) else (if a0 = 4 then (some (64, 16383, (-16445), 16320, 80)) else (some (113, 16383, (-16494), 16271, 128)))))) = some (r1, r2, r3, r4, r5) := h
  clear h
  by_cases c2 : a0 = 1
  · rw [if_pos c2] at H
    have c2b0 : (a0 == 1) = true := beq_iff_eq.mpr c2
    have c2b1 : (a0 != 1) = false := bne_eq_false_iff_eq.mpr c2
    clear c2
    simp only [Option.some.injEq, Prod.mk.injEq] at H
    obtain ⟨rfl, rfl, rfl, rfl, rfl⟩ := H
    go_enter Tryd.func47, Tryd.ntmps47
    go_wp2_with (first | ((with_reducible refine gate_dst (N := 2) rfl ?_); refine box_event ?hg (N := 2) ?hd (cs := #[.int .i64 0, .int .i64 0, .int .i64 0, .int .i64 0, .int .i64 0]) (t := 57) ?hr ?_; (case hd => rfl); (case hg => rfl); (case hr => first | (go_simp; done) | (go_simp; rfl)); intro gb101 hg w3 hbox hb; have n0_ := Aside0.mk (below_step (by repeat (first | (with_reducible first | exact HB.out | apply below_alloc | apply pw_below_drewN | apply below_drew1) | exact HB.out)) hb); have n1_ := Aside0.mk (hbox); have n2_ := Aside0.mk ((by rw [hg]; exact (below_size (by repeat (first | (with_reducible first | exact HB.out | apply below_alloc | apply pw_below_drewN | apply below_drew1) | exact HB.out))) : w.heap.size ≤ gb101)); have n3_ := Aside0.mk ((by rw [hg]; exact (below_size (by repeat (first | (with_reducible first | exact HB.out | apply below_alloc | apply pw_below_drewN | apply below_drew1) | exact HB.out))) : w.heap.size ≤ gb101)); clear HB; have HB := n0_; have BK101 := n1_; have GW101 := n2_; have GE101 := n3_; clear n0_ n1_ n2_ n3_; clear hb hbox hg; have hcz4_0 : w3.cell? ⟨gb101, 0, none⟩ = some (.int .i64 0) := (blk_cell BK101.out 0).trans rfl; have hcz4_1 : w3.cell? ⟨gb101, 1, none⟩ = some (.int .i64 0) := (blk_cell BK101.out 1).trans rfl; have hcz4_2 : w3.cell? ⟨gb101, 2, none⟩ = some (.int .i64 0) := (blk_cell BK101.out 2).trans rfl; have hcz4_3 : w3.cell? ⟨gb101, 3, none⟩ = some (.int .i64 0) := (blk_cell BK101.out 3).trans rfl; have hcz4_4 : w3.cell? ⟨gb101, 4, none⟩ = some (.int .i64 0) := (blk_cell BK101.out 4).trans rfl; have hfz4_0 := blk_frozen BK101.out 0; have hfz4_1 := blk_frozen BK101.out 1; have hfz4_2 := blk_frozen BK101.out 2; have hfz4_3 := blk_frozen BK101.out 3; have hfz4_4 := blk_frozen BK101.out 4))
    refine bodyPost_ret (results_cell_row rfl _ _ gb101 57 #[.int .i64 11, .int .i64 15, .int .i64 (-24), .int .i64 5, .int .i64 16] (0, 0) _ rfl (by (with_reducible repeat (first | refine blk_drewN ?_ _ | refine blk_drew ?_ | refine blk_alloc ?_ _)); refine blk_put (cs := #[.int .i64 11, .int .i64 15, .int .i64 (-24), .int .i64 5, .int .i64 0]) ?_ 4 _ rfl; (with_reducible repeat (first | refine blk_drewN ?_ _ | refine blk_drew ?_ | refine blk_alloc ?_ _)); refine blk_put (cs := #[.int .i64 11, .int .i64 15, .int .i64 (-24), .int .i64 0, .int .i64 0]) ?_ 3 _ rfl; (with_reducible repeat (first | refine blk_drewN ?_ _ | refine blk_drew ?_ | refine blk_alloc ?_ _)); refine blk_put (cs := #[.int .i64 11, .int .i64 15, .int .i64 0, .int .i64 0, .int .i64 0]) ?_ 2 _ rfl; (with_reducible repeat (first | refine blk_drewN ?_ _ | refine blk_drew ?_ | refine blk_alloc ?_ _)); refine blk_put (cs := #[.int .i64 11, .int .i64 0, .int .i64 0, .int .i64 0, .int .i64 0]) ?_ 1 _ rfl; (with_reducible repeat (first | refine blk_drewN ?_ _ | refine blk_drew ?_ | refine blk_alloc ?_ _)); refine blk_put (cs := #[.int .i64 0, .int .i64 0, .int .i64 0, .int .i64 0, .int .i64 0]) ?_ 0 _ rfl; (with_reducible repeat (first | refine blk_drewN ?_ _ | refine blk_drew ?_ | refine blk_alloc ?_ _)); exact BK101.out) Tryd.underlying57 rfl (by kernel_rfl)) rfl ?_
    exact ⟨by first | rfl | (simp [errW_none, errW_some] <;> rfl) | (simp [*, errW_none, errW_some] <;> rfl), by repeat (first | (with_reducible first | exact HB.out | apply below_alloc | apply pw_below_drewN | apply below_drew1 | refine below_set ?_ GE101.out) | exact HB.out)⟩
  · rw [if_neg c2] at H
    have c2b0 : (a0 == 1) = false := beq_eq_false_iff_ne.mpr c2
    have c2b1 : (a0 != 1) = true := bne_iff_ne.mpr c2
    by_cases c5 : a0 = 2
    · rw [if_pos c5] at H
      have c5b0 : (a0 == 2) = true := beq_iff_eq.mpr c5
      have c5b1 : (a0 != 2) = false := bne_eq_false_iff_eq.mpr c5
      clear c5
      simp only [Option.some.injEq, Prod.mk.injEq] at H
      obtain ⟨rfl, rfl, rfl, rfl, rfl⟩ := H
      go_enter Tryd.func47, Tryd.ntmps47
      go_wp2_with (first | ((with_reducible refine gate_dst (N := 2) rfl ?_); refine box_event ?hg (N := 2) ?hd (cs := #[.int .i64 0, .int .i64 0, .int .i64 0, .int .i64 0, .int .i64 0]) (t := 57) ?hr ?_; (case hd => rfl); (case hg => rfl); (case hr => first | (go_simp; done) | (go_simp; rfl)); intro gb101 hg w6 hbox hb; have n0_ := Aside0.mk (below_step (by repeat (first | (with_reducible first | exact HB.out | apply below_alloc | apply pw_below_drewN | apply below_drew1) | exact HB.out)) hb); have n1_ := Aside0.mk (hbox); have n2_ := Aside0.mk ((by rw [hg]; exact (below_size (by repeat (first | (with_reducible first | exact HB.out | apply below_alloc | apply pw_below_drewN | apply below_drew1) | exact HB.out))) : w.heap.size ≤ gb101)); have n3_ := Aside0.mk ((by rw [hg]; exact (below_size (by repeat (first | (with_reducible first | exact HB.out | apply below_alloc | apply pw_below_drewN | apply below_drew1) | exact HB.out))) : w.heap.size ≤ gb101)); clear HB; have HB := n0_; have BK101 := n1_; have GW101 := n2_; have GE101 := n3_; clear n0_ n1_ n2_ n3_; clear hb hbox hg; have hcz7_0 : w6.cell? ⟨gb101, 0, none⟩ = some (.int .i64 0) := (blk_cell BK101.out 0).trans rfl; have hcz7_1 : w6.cell? ⟨gb101, 1, none⟩ = some (.int .i64 0) := (blk_cell BK101.out 1).trans rfl; have hcz7_2 : w6.cell? ⟨gb101, 2, none⟩ = some (.int .i64 0) := (blk_cell BK101.out 2).trans rfl; have hcz7_3 : w6.cell? ⟨gb101, 3, none⟩ = some (.int .i64 0) := (blk_cell BK101.out 3).trans rfl; have hcz7_4 : w6.cell? ⟨gb101, 4, none⟩ = some (.int .i64 0) := (blk_cell BK101.out 4).trans rfl; have hfz7_0 := blk_frozen BK101.out 0; have hfz7_1 := blk_frozen BK101.out 1; have hfz7_2 := blk_frozen BK101.out 2; have hfz7_3 := blk_frozen BK101.out 3; have hfz7_4 := blk_frozen BK101.out 4))
      refine bodyPost_ret (results_cell_row rfl _ _ gb101 57 #[.int .i64 24, .int .i64 127, .int .i64 (-149), .int .i64 104, .int .i64 32] (0, 0) _ rfl (by (with_reducible repeat (first | refine blk_drewN ?_ _ | refine blk_drew ?_ | refine blk_alloc ?_ _)); refine blk_put (cs := #[.int .i64 24, .int .i64 127, .int .i64 (-149), .int .i64 104, .int .i64 0]) ?_ 4 _ rfl; (with_reducible repeat (first | refine blk_drewN ?_ _ | refine blk_drew ?_ | refine blk_alloc ?_ _)); refine blk_put (cs := #[.int .i64 24, .int .i64 127, .int .i64 (-149), .int .i64 0, .int .i64 0]) ?_ 3 _ rfl; (with_reducible repeat (first | refine blk_drewN ?_ _ | refine blk_drew ?_ | refine blk_alloc ?_ _)); refine blk_put (cs := #[.int .i64 24, .int .i64 127, .int .i64 0, .int .i64 0, .int .i64 0]) ?_ 2 _ rfl; (with_reducible repeat (first | refine blk_drewN ?_ _ | refine blk_drew ?_ | refine blk_alloc ?_ _)); refine blk_put (cs := #[.int .i64 24, .int .i64 0, .int .i64 0, .int .i64 0, .int .i64 0]) ?_ 1 _ rfl; (with_reducible repeat (first | refine blk_drewN ?_ _ | refine blk_drew ?_ | refine blk_alloc ?_ _)); refine blk_put (cs := #[.int .i64 0, .int .i64 0, .int .i64 0, .int .i64 0, .int .i64 0]) ?_ 0 _ rfl; (with_reducible repeat (first | refine blk_drewN ?_ _ | refine blk_drew ?_ | refine blk_alloc ?_ _)); exact BK101.out) Tryd.underlying57 rfl (by kernel_rfl)) rfl ?_
      exact ⟨by first | rfl | (simp [errW_none, errW_some] <;> rfl) | (simp [*, errW_none, errW_some] <;> rfl), by repeat (first | (with_reducible first | exact HB.out | apply below_alloc | apply pw_below_drewN | apply below_drew1 | refine below_set ?_ GE101.out) | exact HB.out)⟩
    · rw [if_neg c5] at H
      have c5b0 : (a0 == 2) = false := beq_eq_false_iff_ne.mpr c5
      have c5b1 : (a0 != 2) = true := bne_iff_ne.mpr c5
      by_cases c8 : a0 = 3
      · rw [if_pos c8] at H
        have c8b0 : (a0 == 3) = true := beq_iff_eq.mpr c8
        have c8b1 : (a0 != 3) = false := bne_eq_false_iff_eq.mpr c8
        clear c8
        simp only [Option.some.injEq, Prod.mk.injEq] at H
        obtain ⟨rfl, rfl, rfl, rfl, rfl⟩ := H
        go_enter Tryd.func47, Tryd.ntmps47
        go_wp2_with (first | ((with_reducible refine gate_dst (N := 2) rfl ?_); refine box_event ?hg (N := 2) ?hd (cs := #[.int .i64 0, .int .i64 0, .int .i64 0, .int .i64 0, .int .i64 0]) (t := 57) ?hr ?_; (case hd => rfl); (case hg => rfl); (case hr => first | (go_simp; done) | (go_simp; rfl)); intro gb101 hg w9 hbox hb; have n0_ := Aside0.mk (below_step (by repeat (first | (with_reducible first | exact HB.out | apply below_alloc | apply pw_below_drewN | apply below_drew1) | exact HB.out)) hb); have n1_ := Aside0.mk (hbox); have n2_ := Aside0.mk ((by rw [hg]; exact (below_size (by repeat (first | (with_reducible first | exact HB.out | apply below_alloc | apply pw_below_drewN | apply below_drew1) | exact HB.out))) : w.heap.size ≤ gb101)); have n3_ := Aside0.mk ((by rw [hg]; exact (below_size (by repeat (first | (with_reducible first | exact HB.out | apply below_alloc | apply pw_below_drewN | apply below_drew1) | exact HB.out))) : w.heap.size ≤ gb101)); clear HB; have HB := n0_; have BK101 := n1_; have GW101 := n2_; have GE101 := n3_; clear n0_ n1_ n2_ n3_; clear hb hbox hg; have hcz10_0 : w9.cell? ⟨gb101, 0, none⟩ = some (.int .i64 0) := (blk_cell BK101.out 0).trans rfl; have hcz10_1 : w9.cell? ⟨gb101, 1, none⟩ = some (.int .i64 0) := (blk_cell BK101.out 1).trans rfl; have hcz10_2 : w9.cell? ⟨gb101, 2, none⟩ = some (.int .i64 0) := (blk_cell BK101.out 2).trans rfl; have hcz10_3 : w9.cell? ⟨gb101, 3, none⟩ = some (.int .i64 0) := (blk_cell BK101.out 3).trans rfl; have hcz10_4 : w9.cell? ⟨gb101, 4, none⟩ = some (.int .i64 0) := (blk_cell BK101.out 4).trans rfl; have hfz10_0 := blk_frozen BK101.out 0; have hfz10_1 := blk_frozen BK101.out 1; have hfz10_2 := blk_frozen BK101.out 2; have hfz10_3 := blk_frozen BK101.out 3; have hfz10_4 := blk_frozen BK101.out 4))
        refine bodyPost_ret (results_cell_row rfl _ _ gb101 57 #[.int .i64 53, .int .i64 1023, .int .i64 (-1074), .int .i64 971, .int .i64 64] (0, 0) _ rfl (by (with_reducible repeat (first | refine blk_drewN ?_ _ | refine blk_drew ?_ | refine blk_alloc ?_ _)); refine blk_put (cs := #[.int .i64 53, .int .i64 1023, .int .i64 (-1074), .int .i64 971, .int .i64 0]) ?_ 4 _ rfl; (with_reducible repeat (first | refine blk_drewN ?_ _ | refine blk_drew ?_ | refine blk_alloc ?_ _)); refine blk_put (cs := #[.int .i64 53, .int .i64 1023, .int .i64 (-1074), .int .i64 0, .int .i64 0]) ?_ 3 _ rfl; (with_reducible repeat (first | refine blk_drewN ?_ _ | refine blk_drew ?_ | refine blk_alloc ?_ _)); refine blk_put (cs := #[.int .i64 53, .int .i64 1023, .int .i64 0, .int .i64 0, .int .i64 0]) ?_ 2 _ rfl; (with_reducible repeat (first | refine blk_drewN ?_ _ | refine blk_drew ?_ | refine blk_alloc ?_ _)); refine blk_put (cs := #[.int .i64 53, .int .i64 0, .int .i64 0, .int .i64 0, .int .i64 0]) ?_ 1 _ rfl; (with_reducible repeat (first | refine blk_drewN ?_ _ | refine blk_drew ?_ | refine blk_alloc ?_ _)); refine blk_put (cs := #[.int .i64 0, .int .i64 0, .int .i64 0, .int .i64 0, .int .i64 0]) ?_ 0 _ rfl; (with_reducible repeat (first | refine blk_drewN ?_ _ | refine blk_drew ?_ | refine blk_alloc ?_ _)); exact BK101.out) Tryd.underlying57 rfl (by kernel_rfl)) rfl ?_
        exact ⟨by first | rfl | (simp [errW_none, errW_some] <;> rfl) | (simp [*, errW_none, errW_some] <;> rfl), by repeat (first | (with_reducible first | exact HB.out | apply below_alloc | apply pw_below_drewN | apply below_drew1 | refine below_set ?_ GE101.out) | exact HB.out)⟩
      · rw [if_neg c8] at H
        have c8b0 : (a0 == 3) = false := beq_eq_false_iff_ne.mpr c8
        have c8b1 : (a0 != 3) = true := bne_iff_ne.mpr c8
        by_cases c11 : a0 = 4
        · rw [if_pos c11] at H
          have c11b0 : (a0 == 4) = true := beq_iff_eq.mpr c11
          have c11b1 : (a0 != 4) = false := bne_eq_false_iff_eq.mpr c11
          clear c11
          simp only [Option.some.injEq, Prod.mk.injEq] at H
          obtain ⟨rfl, rfl, rfl, rfl, rfl⟩ := H
          go_enter Tryd.func47, Tryd.ntmps47
          go_wp2_with (first | ((with_reducible refine gate_dst (N := 2) rfl ?_); refine box_event ?hg (N := 2) ?hd (cs := #[.int .i64 0, .int .i64 0, .int .i64 0, .int .i64 0, .int .i64 0]) (t := 57) ?hr ?_; (case hd => rfl); (case hg => rfl); (case hr => first | (go_simp; done) | (go_simp; rfl)); intro gb101 hg w12 hbox hb; have n0_ := Aside0.mk (below_step (by repeat (first | (with_reducible first | exact HB.out | apply below_alloc | apply pw_below_drewN | apply below_drew1) | exact HB.out)) hb); have n1_ := Aside0.mk (hbox); have n2_ := Aside0.mk ((by rw [hg]; exact (below_size (by repeat (first | (with_reducible first | exact HB.out | apply below_alloc | apply pw_below_drewN | apply below_drew1) | exact HB.out))) : w.heap.size ≤ gb101)); have n3_ := Aside0.mk ((by rw [hg]; exact (below_size (by repeat (first | (with_reducible first | exact HB.out | apply below_alloc | apply pw_below_drewN | apply below_drew1) | exact HB.out))) : w.heap.size ≤ gb101)); clear HB; have HB := n0_; have BK101 := n1_; have GW101 := n2_; have GE101 := n3_; clear n0_ n1_ n2_ n3_; clear hb hbox hg; have hcz13_0 : w12.cell? ⟨gb101, 0, none⟩ = some (.int .i64 0) := (blk_cell BK101.out 0).trans rfl; have hcz13_1 : w12.cell? ⟨gb101, 1, none⟩ = some (.int .i64 0) := (blk_cell BK101.out 1).trans rfl; have hcz13_2 : w12.cell? ⟨gb101, 2, none⟩ = some (.int .i64 0) := (blk_cell BK101.out 2).trans rfl; have hcz13_3 : w12.cell? ⟨gb101, 3, none⟩ = some (.int .i64 0) := (blk_cell BK101.out 3).trans rfl; have hcz13_4 : w12.cell? ⟨gb101, 4, none⟩ = some (.int .i64 0) := (blk_cell BK101.out 4).trans rfl; have hfz13_0 := blk_frozen BK101.out 0; have hfz13_1 := blk_frozen BK101.out 1; have hfz13_2 := blk_frozen BK101.out 2; have hfz13_3 := blk_frozen BK101.out 3; have hfz13_4 := blk_frozen BK101.out 4))
          refine bodyPost_ret (results_cell_row rfl _ _ gb101 57 #[.int .i64 64, .int .i64 16383, .int .i64 (-16445), .int .i64 16320, .int .i64 80] (0, 0) _ rfl (by (with_reducible repeat (first | refine blk_drewN ?_ _ | refine blk_drew ?_ | refine blk_alloc ?_ _)); refine blk_put (cs := #[.int .i64 64, .int .i64 16383, .int .i64 (-16445), .int .i64 16320, .int .i64 0]) ?_ 4 _ rfl; (with_reducible repeat (first | refine blk_drewN ?_ _ | refine blk_drew ?_ | refine blk_alloc ?_ _)); refine blk_put (cs := #[.int .i64 64, .int .i64 16383, .int .i64 (-16445), .int .i64 0, .int .i64 0]) ?_ 3 _ rfl; (with_reducible repeat (first | refine blk_drewN ?_ _ | refine blk_drew ?_ | refine blk_alloc ?_ _)); refine blk_put (cs := #[.int .i64 64, .int .i64 16383, .int .i64 0, .int .i64 0, .int .i64 0]) ?_ 2 _ rfl; (with_reducible repeat (first | refine blk_drewN ?_ _ | refine blk_drew ?_ | refine blk_alloc ?_ _)); refine blk_put (cs := #[.int .i64 64, .int .i64 0, .int .i64 0, .int .i64 0, .int .i64 0]) ?_ 1 _ rfl; (with_reducible repeat (first | refine blk_drewN ?_ _ | refine blk_drew ?_ | refine blk_alloc ?_ _)); refine blk_put (cs := #[.int .i64 0, .int .i64 0, .int .i64 0, .int .i64 0, .int .i64 0]) ?_ 0 _ rfl; (with_reducible repeat (first | refine blk_drewN ?_ _ | refine blk_drew ?_ | refine blk_alloc ?_ _)); exact BK101.out) Tryd.underlying57 rfl (by kernel_rfl)) rfl ?_
          exact ⟨by first | rfl | (simp [errW_none, errW_some] <;> rfl) | (simp [*, errW_none, errW_some] <;> rfl), by repeat (first | (with_reducible first | exact HB.out | apply below_alloc | apply pw_below_drewN | apply below_drew1 | refine below_set ?_ GE101.out) | exact HB.out)⟩
        · rw [if_neg c11] at H
          have c11b0 : (a0 == 4) = false := beq_eq_false_iff_ne.mpr c11
          have c11b1 : (a0 != 4) = true := bne_iff_ne.mpr c11
          simp only [Option.some.injEq, Prod.mk.injEq] at H
          obtain ⟨rfl, rfl, rfl, rfl, rfl⟩ := H
          go_enter Tryd.func47, Tryd.ntmps47
          go_wp2_with (first | ((with_reducible refine gate_dst (N := 2) rfl ?_); refine box_event ?hg (N := 2) ?hd (cs := #[.int .i64 0, .int .i64 0, .int .i64 0, .int .i64 0, .int .i64 0]) (t := 57) ?hr ?_; (case hd => rfl); (case hg => rfl); (case hr => first | (go_simp; done) | (go_simp; rfl)); intro gb101 hg w14 hbox hb; have n0_ := Aside0.mk (below_step (by repeat (first | (with_reducible first | exact HB.out | apply below_alloc | apply pw_below_drewN | apply below_drew1) | exact HB.out)) hb); have n1_ := Aside0.mk (hbox); have n2_ := Aside0.mk ((by rw [hg]; exact (below_size (by repeat (first | (with_reducible first | exact HB.out | apply below_alloc | apply pw_below_drewN | apply below_drew1) | exact HB.out))) : w.heap.size ≤ gb101)); have n3_ := Aside0.mk ((by rw [hg]; exact (below_size (by repeat (first | (with_reducible first | exact HB.out | apply below_alloc | apply pw_below_drewN | apply below_drew1) | exact HB.out))) : w.heap.size ≤ gb101)); clear HB; have HB := n0_; have BK101 := n1_; have GW101 := n2_; have GE101 := n3_; clear n0_ n1_ n2_ n3_; clear hb hbox hg; have hcz15_0 : w14.cell? ⟨gb101, 0, none⟩ = some (.int .i64 0) := (blk_cell BK101.out 0).trans rfl; have hcz15_1 : w14.cell? ⟨gb101, 1, none⟩ = some (.int .i64 0) := (blk_cell BK101.out 1).trans rfl; have hcz15_2 : w14.cell? ⟨gb101, 2, none⟩ = some (.int .i64 0) := (blk_cell BK101.out 2).trans rfl; have hcz15_3 : w14.cell? ⟨gb101, 3, none⟩ = some (.int .i64 0) := (blk_cell BK101.out 3).trans rfl; have hcz15_4 : w14.cell? ⟨gb101, 4, none⟩ = some (.int .i64 0) := (blk_cell BK101.out 4).trans rfl; have hfz15_0 := blk_frozen BK101.out 0; have hfz15_1 := blk_frozen BK101.out 1; have hfz15_2 := blk_frozen BK101.out 2; have hfz15_3 := blk_frozen BK101.out 3; have hfz15_4 := blk_frozen BK101.out 4))
          refine bodyPost_ret (results_cell_row rfl _ _ gb101 57 #[.int .i64 113, .int .i64 16383, .int .i64 (-16494), .int .i64 16271, .int .i64 128] (0, 0) _ rfl (by (with_reducible repeat (first | refine blk_drewN ?_ _ | refine blk_drew ?_ | refine blk_alloc ?_ _)); refine blk_put (cs := #[.int .i64 113, .int .i64 16383, .int .i64 (-16494), .int .i64 16271, .int .i64 0]) ?_ 4 _ rfl; (with_reducible repeat (first | refine blk_drewN ?_ _ | refine blk_drew ?_ | refine blk_alloc ?_ _)); refine blk_put (cs := #[.int .i64 113, .int .i64 16383, .int .i64 (-16494), .int .i64 0, .int .i64 0]) ?_ 3 _ rfl; (with_reducible repeat (first | refine blk_drewN ?_ _ | refine blk_drew ?_ | refine blk_alloc ?_ _)); refine blk_put (cs := #[.int .i64 113, .int .i64 16383, .int .i64 0, .int .i64 0, .int .i64 0]) ?_ 2 _ rfl; (with_reducible repeat (first | refine blk_drewN ?_ _ | refine blk_drew ?_ | refine blk_alloc ?_ _)); refine blk_put (cs := #[.int .i64 113, .int .i64 0, .int .i64 0, .int .i64 0, .int .i64 0]) ?_ 1 _ rfl; (with_reducible repeat (first | refine blk_drewN ?_ _ | refine blk_drew ?_ | refine blk_alloc ?_ _)); refine blk_put (cs := #[.int .i64 0, .int .i64 0, .int .i64 0, .int .i64 0, .int .i64 0]) ?_ 0 _ rfl; (with_reducible repeat (first | refine blk_drewN ?_ _ | refine blk_drew ?_ | refine blk_alloc ?_ _)); exact BK101.out) Tryd.underlying57 rfl (by kernel_rfl)) rfl ?_
          exact ⟨by first | rfl | (simp [errW_none, errW_some] <;> rfl) | (simp [*, errW_none, errW_some] <;> rfl), by repeat (first | (with_reducible first | exact HB.out | apply below_alloc | apply pw_below_drewN | apply below_drew1 | refine below_set ?_ GE101.out) | exact HB.out)⟩

/-! ### sorobanref05_Power: function 51 -/
def sorobanref05_Power.f (a0 : Int) : Option (List Int) := (sorobanref01_Shl.f (([1] : List Int)) a0).bind fun t105 => (some t105)
set_option maxHeartbeats 8000000 in
set_option maxRecDepth 100000 in
theorem sorobanref05_Power.calls (a0 : Int) (r : List Int) (w : World) (h : sorobanref05_Power.f a0 = some r) :
    Calls Tryd.prog 51 #[.int .i64 a0] w fun e w' => ∃ v0_ : Value, e = .returned (v0_) ∧ Kd.R (Kd.int .u32) 77 w' w.heap.size (fun _ => True) v0_ r ∧ Below w.heap.size w w' := by
  have HB := Aside0.mk (Below.refl w.heap.size w)
  have H : ((sorobanref01_Shl.f (([1] : List Int)) a0).bind fun t105 => (some t105)) = some r := h
  clear h
  obtain ⟨y102, hy102⟩ : ∃ y_ : List Int, y_ = (([1] : List Int)) := ⟨_, rfl⟩
  replace H : ((sorobanref01_Shl.f y102 a0).bind fun t105 => (some t105)) = some r := by first | (rw [hy102]; with_reducible exact H) | (have H2_ := (Option.bind_some _ _).symm.trans H; rw [hy102]; with_reducible exact H2_) | (have H2_ := (Option.bind_some _ _).symm.trans H; with_reducible exact H2_) | with_reducible exact H | (rw [hy102]; exact H) | exact H
  have Ny102 := Aside0.mk hy102
  clear hy102
  replace H := Option.bind_eq_some_iff.mp H
  obtain ⟨t105, A20, H⟩ := H
  replace H : (some t105) = some r := H
  have A2 := Aside0.mk A20
  clear A20
  obtain rfl := Option.some.inj H
  go_enter Tryd.func51, Tryd.ntmps51
  go_wp2_with (first | ((with_reducible refine gate_dst (N := 3) rfl ?_); refine Kd.R_lit (Kd.int .u32) _ 77 ?hg (N := 3) ?hd (xs := ([1] : List Int)) (inner := [.int .u32 1]) (ok := fun _ => True) (okp := fun _ => True) ?hr ?hp (fun _ hk => hk) trivial (Below.refl _ _) (Nat.le_refl _) (by simp) ?_; (case hd => rfl); (case hg => rfl); (case hr => first | (go_simp; done) | (go_simp; rfl)); (case hp => exact (Reps.one (show Kd.M (Kd.int .u32) _ _ _ 1 [.int .u32 1] from rfl) (Reps.none _ _))); intro v103 w3 ho4 hb hg_ hnew_; clear hg_ hnew_; (first | rw [← Ny102.out] at ho4 | (simp only [Int.reduceToNat] at ho4; rw [← Ny102.out] at ho4)); have n0_ := Aside0.mk (Kd.R_lower ho4 (below_size (by repeat (first | (with_reducible first | exact HB.out | apply below_alloc | apply pw_below_drewN | apply below_drew1) | exact HB.out)))); have n1_ := Aside0.mk (below_step (by repeat (first | (with_reducible first | exact HB.out | apply below_alloc | apply pw_below_drewN | apply below_drew1) | exact HB.out)) hb); clear HB; have HO104 := n0_; have HB := n1_; clear n0_ n1_; clear hb ho4; obtain ⟨Ao5, co5, eo5⟩ := Kd.R_slice HO104.out; subst eo5) | ((with_reducible refine gate_callee (f := 63) rfl ?_); refine goesL_ (some 5) rfl rfl Tryd.func63 (by kernel_rfl) rfl #[.slice Ao5 y102.length co5, .int .i64 a0] rfl (by (try simp only [List.map_toArray, List.map_cons, List.map_nil]); first | done | rfl | (simp only [List.length_drop, List.length_take]; rfl)) ?_; (with_reducible refine (sorobanref01_Shl.calls _ _ y102 a0 t105 _ ?side1 ?side2 A2.out).mono ?_); (case side1 => repeat (first | exact (Kd.R_reads' HO104.out).2.2 | (with_reducible refine Kd.C_alloc ?_ _) | (with_reducible refine Kd.C_drewN ?_ _) | (with_reducible refine Kd.C_drew ?_))); (case side2 => exact (Kd.R_reads' HO104.out).2.1); rintro e w6 ⟨v106, rfl, ho0, hb⟩; refine ⟨_, rfl, ?_⟩; have n0_ := Aside0.mk (Kd.R_elder' (by (with_reducible repeat (first | apply Kd.R_alloc | apply Kd.R_drewN | apply Kd.R_drew)); exact HO104.out) (Kd.R_base ho0) hb); have n1_ := Aside0.mk (Kd.R_lower (Kd.R_new' ho0 (Kd.R_lt (by (with_reducible repeat (first | apply Kd.R_alloc | apply Kd.R_drewN | apply Kd.R_drew)); exact HO104.out))) (below_size (by repeat (first | (with_reducible first | exact HB.out | apply below_alloc | apply pw_below_drewN | apply below_drew1) | exact HB.out)))); have n2_ := Aside0.mk (below_step (by repeat (first | (with_reducible first | exact HB.out | apply below_alloc | apply pw_below_drewN | apply below_drew1) | exact HB.out)) hb); clear HO104; clear HB; have HO104 := n0_; have HO107 := n1_; have HB := n2_; clear n0_ n1_ n2_; (try clear hb); (try clear hb2); (try clear hk); (try clear hi); (try clear ho0)))
  go_ret
  exact ⟨_, by first | rfl | (simp [errW_none, errW_some] <;> rfl) | (simp [*, errW_none, errW_some] <;> rfl), by (with_reducible repeat (first | apply Kd.R_alloc | apply Kd.R_drewN | apply Kd.R_drew)); exact Kd.R_mono HO107.out (fun _ hk => trivial), by repeat (first | (with_reducible first | exact HB.out | apply below_alloc | apply pw_below_drewN | apply below_drew1) | exact HB.out)⟩

/-! ### sorobanref05_Field: function 59 -/
def sorobanref05_Field.f (a0 : Int) : Option (Int) := if a0 = 1 then (some 5) else (if a0 = 2 then (some 8) else (if a0 = 3 then (some 11) else (some 15)))
set_option maxHeartbeats 8000000 in
set_option maxRecDepth 100000 in
theorem sorobanref05_Field.calls (a0 : Int) (r : Int) (w : World) (h : sorobanref05_Field.f a0 = some r) :
    Calls Tryd.prog 59 #[.int .i64 a0] w fun e w' => e = .returned (.int .i64 r) ∧ Drawn0 w w' := by
  have H : (if a0 = 1 then (some 5) else (if a0 = 2 then (some 8) else (if a0 = 3 then (some 11) else (some 15)))) = some r := h
  clear h
  by_cases c2 : a0 = 1
  · rw [if_pos c2] at H
    have c2b0 : (a0 == 1) = true := beq_iff_eq.mpr c2
    have c2b1 : (a0 != 1) = false := bne_eq_false_iff_eq.mpr c2
    clear c2
    obtain rfl := Option.some.inj H
    go_enter Tryd.func59, Tryd.ntmps59
    go_wp2
    go_ret
    exact ⟨by first | rfl | (simp; done) | (simp [*]; done), by repeat (first | exact Drawn0.refl _ | apply Drawn0.step)⟩
  · rw [if_neg c2] at H
    have c2b0 : (a0 == 1) = false := beq_eq_false_iff_ne.mpr c2
    have c2b1 : (a0 != 1) = true := bne_iff_ne.mpr c2
    by_cases c3 : a0 = 2
    · rw [if_pos c3] at H
      have c3b0 : (a0 == 2) = true := beq_iff_eq.mpr c3
      have c3b1 : (a0 != 2) = false := bne_eq_false_iff_eq.mpr c3
      clear c3
      obtain rfl := Option.some.inj H
      go_enter Tryd.func59, Tryd.ntmps59
      go_wp2
      go_ret
      exact ⟨by first | rfl | (simp; done) | (simp [*]; done), by repeat (first | exact Drawn0.refl _ | apply Drawn0.step)⟩
    · rw [if_neg c3] at H
      have c3b0 : (a0 == 2) = false := beq_eq_false_iff_ne.mpr c3
      have c3b1 : (a0 != 2) = true := bne_iff_ne.mpr c3
      by_cases c4 : a0 = 3
      · rw [if_pos c4] at H
        have c4b0 : (a0 == 3) = true := beq_iff_eq.mpr c4
        have c4b1 : (a0 != 3) = false := bne_eq_false_iff_eq.mpr c4
        clear c4
        obtain rfl := Option.some.inj H
        go_enter Tryd.func59, Tryd.ntmps59
        go_wp2
        go_ret
        exact ⟨by first | rfl | (simp; done) | (simp [*]; done), by repeat (first | exact Drawn0.refl _ | apply Drawn0.step)⟩
      · rw [if_neg c4] at H
        have c4b0 : (a0 == 3) = false := beq_eq_false_iff_ne.mpr c4
        have c4b1 : (a0 != 3) = true := bne_iff_ne.mpr c4
        obtain rfl := Option.some.inj H
        go_enter Tryd.func59, Tryd.ntmps59
        go_wp2
        go_ret
        exact ⟨by first | rfl | (simp; done) | (simp [*]; done), by repeat (first | exact Drawn0.refl _ | apply Drawn0.step)⟩

-- NOT PRINTED: function 49 (sorobanref05_bits)

end Go.Proofs.YtacnkcojhlbkoaaDoor.XBitz

set_option linter.unusedSimpArgs false
set_option linter.unusedVariables false
set_option linter.unnecessarySimpa false
namespace Go.Proofs.YtacnkcojhlbkoaaDoor
open Go.RowKit Go.Proofs.YtacnkcojhlbkoaaDoorW.PrintWords Go.Proofs.YtacnkcojhlbkoaaDoorW.PrintLast Go.Proofs.YtacnkcojhlbkoaaDoorW.PrintMore Go.Proofs.YtacnkcojhlbkoaaDoor.NL
set_option maxRecDepth 100000
set_option exponentiation.threshold 33000

theorem big_1000 {x : Nat} (h : x < 2 ^ 200) : x < 2 ^ 1000 := Nat.lt_of_lt_of_le h (pow_le3 (by omega))
theorem new_gives {N : Nat} {w : World} {e : Ending} {w' : World} (h : NewRow w (ofN N) e w') : Gives N w e w' := by
  obtain ⟨v, rfl, hv, hb⟩ := h
  obtain ⟨A, c, rfl⟩ := Kd.R_slice hv
  exact ⟨A, _, c, rfl, Lib.hid ⟨(R_C hv).2, (R_C hv).1⟩, hb⟩
theorem rformat {f : Int} (hf : isFm f = true) (w : World) : Calls Tryd.prog 47 #[.int .i64 f] w fun e w'' => e = .returned (.agg #[.int .i64 (fmD f), .int .i64 (fmE f), .int .i64 (fmL f), .int .i64 (fmH f), .int .i64 (fmW f)]) ∧ Below w.heap.size w w'' := by
  refine XAr.sorobanref05_Format.calls f (fmD f) (fmE f) (fmL f) (fmH f) (fmW f) w ?_
  rcases fm_cases hf with rfl | rfl | rfl | rfl | rfl <;> rfl
theorem rpower {s : Nat} (w : World) (hs : s ≤ 1000) : Calls Tryd.prog 51 #[.int .i64 (s : Nat)] w (Gives (2 ^ s) w) := by
  refine (XBitz.sorobanref05_Power.calls (s : Nat) (ofN (2 ^ s)) w ?_).mono fun e w' h => new_gives h
  have h1 : val [1] = 1 := by decide
  have h2 : u32L [1] = true := by decide
  unfold XBitz.sorobanref05_Power.f sorobanref01_Shl.f
  rw [h1, h2, decide_eq_true ⟨by simp, by simp, by omega, by omega⟩, Int.toNat_natCast, Nat.one_mul]; rfl
theorem rcmp {A A' : Option Addr} {n c n' c' x y : Nat} (w : World) (h : Kd.C (Kd.int .u32) w A n (ofN x)) (hc : n ≤ c) (h' : Kd.C (Kd.int .u32) w A' n' (ofN y)) (hc' : n' ≤ c') (hx : x < 2 ^ 1000) (hy : y < 2 ^ 1000) : Calls Tryd.prog 82 #[.slice A n c, .slice A' n' c'] w fun e w'' => e = .returned (.int .i64 (rcmpN x y)) ∧ Below w.heap.size w w'' := by
  obtain rfl := len_ofN h
  obtain rfl := len_ofN h'
  have l1 : (ofN x).length ≤ 1024 := small_len hx (by omega)
  have l2 : (ofN y).length ≤ 1024 := small_len hy (by omega)
  refine sorobanref01_Cmp.calls A c (ofN x) A' c' (ofN y) (rcmpN x y) w h hc h' hc' ?_
  unfold sorobanref01_Cmp.f
  rw [u32L_ofN, u32L_ofN, decide_eq_true ⟨by omega, by omega⟩, val_ofN, val_ofN]; rfl
theorem rsub_gives {A A' : Option Addr} {n c n' c' x y : Nat} (w : World) (h : Kd.C (Kd.int .u32) w A n (ofN x)) (hc : n ≤ c) (h' : Kd.C (Kd.int .u32) w A' n' (ofN y)) (hc' : n' ≤ c') (hx : x < 2 ^ 1000) (hy : y ≤ x) : Calls Tryd.prog 94 #[.slice A n c, .slice A' n' c'] w (Gives (x - y) w) := by
  obtain rfl := len_ofN h
  obtain rfl := len_ofN h'
  have l1 : (ofN x).length ≤ 1024 := small_len hx (by omega)
  refine (sorobanref01_Sub.calls A c (ofN x) A' c' (ofN y) (ofN (x - y)) w h hc h' hc' ?_).mono fun e w' h => new_gives h
  unfold sorobanref01_Sub.f
  rw [u32L_ofN, u32L_ofN, val_ofN, val_ofN, decide_eq_true ⟨by omega, hy⟩]; rfl
theorem radd_gives {A A' : Option Addr} {n c n' c' x y : Nat} (w : World) (h : Kd.C (Kd.int .u32) w A n (ofN x)) (hc : n ≤ c) (h' : Kd.C (Kd.int .u32) w A' n' (ofN y)) (hc' : n' ≤ c') (hx : x < 2 ^ 1000) (hy : y < 2 ^ 1000) : Calls Tryd.prog 50 #[.slice A n c, .slice A' n' c'] w (Gives (x + y) w) :=
  (radd_new w h hc h' hc' hx hy).mono fun _ _ h => new_gives h
theorem rofn {q : Nat} (w : World) (h : q < 18446744073709551616) : Calls Tryd.prog 64 #[.int .u64 (q : Nat)] w (Gives q w) := by
  have := rof_gives (q : Nat) w (by simp only [u64B, decide_eq_true_eq]; omega)
  rwa [Int.toNat_natCast] at this
/-- How many bits a field has. -/
def fieldW (f : Int) : Int := if f = 1 then 5 else if f = 2 then 8 else if f = 3 then 11 else 15
theorem rfield (f : Int) (w : World) : Calls Tryd.prog 59 #[.int .i64 f] w fun e w'' => e = .returned (.int .i64 (fieldW f)) ∧ Below w.heap.size w w'' := by
  refine (XBitz.sorobanref05_Field.calls f (fieldW f) w ?_).mono ?_
  · unfold XBitz.sorobanref05_Field.f fieldW
    repeat' split
    all_goals rfl
  · rintro e w' ⟨rfl, hd⟩
    exact ⟨rfl, Drawn0.below hd⟩
theorem field_nums {f : Int} (hf : isFm f = true) : 0 ≤ fieldW f ∧ IntKind.u64.wrap (wrap64 (wrap64 (2 ^ min (fieldW f).toNat 64) - 1)) = ((lastN f : Nat) : Int) ∧ lastN f ≤ 32767 ∧ frontN f = (if f = 4 then oneN f + 1 else oneN f) := by
  rcases fm_cases hf with rfl | rfl | rfl | rfl | rfl <;> decide +kernel
theorem rb_200 {e k d : Nat} (he : e ≤ 32767) (hk : k ≤ 113) (hd : d < 2 ^ 128) : e * 2 ^ k < 2 ^ 1000 ∧ d < 2 ^ 1000 ∧ e * 2 ^ k + d < 2 ^ 1000 := by
  have h1 : e * 2 ^ k ≤ 32767 * 2 ^ 113 := Nat.mul_le_mul he (pow_le3 hk)
  have h2 : 32767 * 2 ^ 113 + 2 ^ 128 < 2 ^ 1000 := by decide +kernel
  omega
theorem exp_wraps {f ex : Int} (hf : isFm f = true) (h2 : fmL f ≤ ex) (h3 : ex ≤ fmH f) : IntKind.i64.wrap (ex - fmL f) = ex - fmL f ∧ IntKind.i64.wrap (ex - fmL f + 1) = (((ex - fmL f + 1).toNat : Nat) : Int) ∧ (ex - fmL f + 1).toNat ≠ 0 := by
  obtain ⟨n1, n2, n3, n4, n5, n6, n7⟩ := fm_nums hf
  obtain ⟨m1, m2, m3, m4⟩ := field_nums hf
  clear n3 m2 m4
  rw [IntKind.wrap_i64, IntKind.wrap_i64]
  omega
theorem d2_wraps {f : Int} (hf : isFm f = true) : IntKind.i64.wrap (fmD f - 2) = (((fmD f - 2).toNat : Nat) : Int) ∧ (fmD f - 2).toNat ≤ 999 ∧ lastN f ≠ 0 := by
  rcases fm_cases hf with rfl | rfl | rfl | rfl | rfl <;> decide +kernel
set_option maxHeartbeats 4000000 in
theorem rbits_any {f cl ex : Int} {ng : Bool} {A : Option Addr} {n c x : Nat} (w : World) (hf : isFm f = true) (hA : Kd.C (Kd.int .u32) w A n (ofN x)) (hc : n ≤ c) (hh : fits (fmD f) (fmL f) (fmH f) cl (blen x) ex = true) :
    Calls Tryd.prog 49 #[dV f cl ng A n c ex] w (NewRow w (ofN (packN f cl false x ex))) := by
  obtain ⟨n1, n2, n3, n4, n5, n6, n7⟩ := fm_nums hf
  obtain ⟨m1, m2, m3, m4⟩ := field_nums hf
  obtain ⟨b1, b2, b3⟩ := frac_bd hf hh
  have hpx := lt_blen x
  have hpg : x ≠ 0 → 2 ^ (blen x - 1) ≤ x := blen_ge
  have hD1 : IntKind.i64.wrap (fmD f - 1) = (oneN f : Int) := by rw [IntKind.wrap_i64]; omega
  have HF := Lib.hid fun w' => rformat hf w'
  have HP := Lib.hid fun w' => rpower (s := oneN f) w' (by omega)
  have hx : x < 2 ^ 128 := Nat.lt_of_lt_of_le b3 (by decide +kernel)
  have hxk : x < 2 ^ 1000 := (rb_200 (e := 0) (k := 0) (by omega) (by omega) hx).2.1
  have hP1 : 2 ^ oneN f ≤ 2 ^ 112 := pow_le3 (by omega)
  have hP1k : 2 ^ oneN f < 2 ^ 1000 := Nat.lt_of_le_of_lt hP1 (by decide +kernel)
  have hpk : packN f cl false x ex = fieldN f cl x ex * 2 ^ frontN f + fracN f cl x + (if f = 4 ∧ fieldN f cl x ex ≠ 0 then 2 ^ oneN f else 0) := by
    unfold packN packFR; simp
  have hfr : fracN f cl x < 2 ^ 128 := Nat.lt_trans b2 (Nat.lt_of_le_of_lt hP1 (by decide +kernel))
  have hfr2 : fracN f cl x + 2 ^ oneN f < 2 ^ 128 := by
    have : (2 : Nat) ^ 112 + 2 ^ 112 < 2 ^ 128 := by decide +kernel
    omega
  obtain ⟨p1, p2, p3⟩ := rb_200 (k := oneN f) (Nat.le_trans b1 m3) (by omega) hfr
  obtain ⟨q1, q2, q3⟩ := rb_200 (k := oneN f + 1) (Nat.le_trans b1 m3) (by omega) hfr2
  have hsm : fieldN f cl x ex < 18446744073709551616 := Nat.lt_of_le_of_lt (Nat.le_trans b1 m3) (by decide)
  have o1 : oneN f ≤ 1000000 := by clear p1 p2 p3 q1 q2 q3 hpk hP1k hxk; omega
  have o2 : oneN f + 1 ≤ 1000000 := by clear p1 p2 p3 q1 q2 q3 hpk hP1k hxk; omega
  have o3 : fmD f = ((oneN f + 1 : Nat) : Int) := by clear p1 p2 p3 q1 q2 q3 hpk hP1k hxk; omega
  have hsk : fieldN f cl x ex < 2 ^ 1000 := Nat.lt_of_le_of_lt (Nat.le_trans b1 m3) (by decide +kernel)
  have p1 := Lib.hid p1
  have p2 := Lib.hid p2
  have q1 := Lib.hid q1
  have hpk := Lib.hid hpk
  have hP1k := Lib.hid hP1k
  have hxk := Lib.hid hxk
  have hsk := Lib.hid hsk
  have hfr2 := Lib.hid hfr2
  have hfr := Lib.hid hfr
  clear p3 q2 q3
  have HO := Lib.hid fun w' => rofn (q := fieldN f cl x ex) w' hsm
  have HS1 : Hid (∀ A n c w', Kd.C (Kd.int .u32) w' A n (ofN (fieldN f cl x ex)) → n ≤ c → Calls Tryd.prog 63 #[.slice A n c, .int .i64 (oneN f : Nat)] w' (Gives (fieldN f cl x ex * 2 ^ oneN f) w')) := Lib.hid fun A n c w' h hc => rshl_gives w' h hc hsk.out o1
  have HS4 : f = 4 → Hid (∀ A n c w', Kd.C (Kd.int .u32) w' A n (ofN (fieldN f cl x ex)) → n ≤ c → Calls Tryd.prog 63 #[.slice A n c, .int .i64 (fmD f)] w' (Gives (fieldN f cl x ex * 2 ^ (oneN f + 1)) w')) := fun h4 => Lib.hid fun A n c w' h hc => by
    rw [o3]
    exact rshl_gives w' h hc hsk.out o2
  have HA1 : Hid (∀ A n c A' n' c' w', Kd.C (Kd.int .u32) w' A n (ofN (fieldN f cl x ex * 2 ^ oneN f)) → n ≤ c → Kd.C (Kd.int .u32) w' A' n' (ofN (fracN f cl x)) → n' ≤ c' → Calls Tryd.prog 50 #[.slice A n c, .slice A' n' c'] w' (NewRow w' (ofN (fieldN f cl x ex * 2 ^ oneN f + fracN f cl x)))) := Lib.hid fun A n c A' n' c' w' h hc h' hc' => radd_new w' h hc h' hc' p1.out p2.out
  have HA4 : ∀ d, d < 2 ^ 128 → Hid (∀ A n c A' n' c' w', Kd.C (Kd.int .u32) w' A n (ofN (fieldN f cl x ex * 2 ^ (oneN f + 1))) → n ≤ c → Kd.C (Kd.int .u32) w' A' n' (ofN d) → n' ≤ c' → Calls Tryd.prog 50 #[.slice A n c, .slice A' n' c'] w' (NewRow w' (ofN (fieldN f cl x ex * 2 ^ (oneN f + 1) + d)))) := fun d hd => Lib.hid fun A n c A' n' c' w' h hc h' hc' => radd_new w' h hc h' hc' q1.out (rb_200 (e := 0) (k := 0) (Nat.zero_le _) (Nat.zero_le _) hd).2.1
  have HAo : ∀ y, y < 2 ^ 1000 → Hid (∀ A n c A' n' c' w', Kd.C (Kd.int .u32) w' A n (ofN y) → n ≤ c → Kd.C (Kd.int .u32) w' A' n' (ofN (2 ^ oneN f)) → n' ≤ c' → Calls Tryd.prog 50 #[.slice A n c, .slice A' n' c'] w' (Gives (y + 2 ^ oneN f) w')) := fun y hy => Lib.hid fun A n c A' n' c' w' h hc h' hc' => radd_gives w' h hc h' hc' hy hP1k.out
  by_cases c1 : cl = 1
  · subst c1
    unfold fits at hh
    rw [if_pos rfl] at hh
    simp only [Bool.and_eq_true, Bool.or_eq_true, decide_eq_true_eq] at hh
    obtain ⟨⟨⟨h1, h2⟩, h3⟩, h4⟩ := hh
    have HC : Hid (∀ A' n' c' w', Kd.C (Kd.int .u32) w' A n (ofN x) → Kd.C (Kd.int .u32) w' A' n' (ofN (2 ^ oneN f)) → n' ≤ c' → Calls Tryd.prog 82 #[.slice A n c, .slice A' n' c'] w' fun e w'' => e = .returned (.int .i64 (rcmpN x (2 ^ oneN f))) ∧ Below w'.heap.size w' w'') := Lib.hid fun A' n' c' w' h h' hc' => rcmp w' h hc h' hc' hxk.out hP1k.out
    by_cases hz : (blen x : Int) = fmD f
    · have hx0 : x ≠ 0 := by intro h; subst h; rw [blen_zero] at hz; omega
      have hge : 2 ^ oneN f ≤ x := by have := hpg hx0; rwa [show blen x - 1 = oneN f by omega] at this
      have hlt : x < 2 ^ oneN f + 2 ^ oneN f := by rw [show blen x = oneN f + 1 by omega, Nat.pow_succ] at hpx; omega
      have hcv : decide (rcmpN x (2 ^ oneN f) ≥ 0) = true := by unfold rcmpN; rw [if_neg (by omega)]; split <;> decide
      have ef : fieldN f 1 x ex = (ex - fmL f + 1).toNat := by unfold fieldN; rw [if_pos rfl, if_pos hz]
      have er : fracN f 1 x = x - 2 ^ oneN f := by
        unfold fracN; rw [if_pos rfl, if_pos hz]
        show x % 2 ^ oneN f = _
        rw [Nat.mod_eq_sub_mod hge, Nat.mod_eq_of_lt (by omega)]
      have HU : Hid (∀ A' n' c' w', Kd.C (Kd.int .u32) w' A n (ofN x) → Kd.C (Kd.int .u32) w' A' n' (ofN (2 ^ oneN f)) → n' ≤ c' → Calls Tryd.prog 94 #[.slice A n c, .slice A' n' c'] w' (Gives (fracN f 1 x) w')) := Lib.hid fun A' n' c' w' h h' hc' => by rw [er]; exact rsub_gives w' h hc h' hc' hxk.out hge
      obtain ⟨hw1, hw2, hw3⟩ := exp_wraps hf h2 h3
      rw [← ef] at hw2 hw3
      have hwu : IntKind.u64.wrap ((fieldN f 1 x ex : Nat) : Int) = (fieldN f 1 x ex : Nat) := wu64 hsm
      by_cases c4 : f = 4
      · have e : fieldN f 1 x ex * 2 ^ (oneN f + 1) + (fracN f 1 x + 2 ^ oneN f) = packN f 1 false x ex := by
          rw [hpk.out, m4, if_pos c4, if_pos ⟨c4, hw3⟩]; exact (Nat.add_assoc _ _ _).symm
        rw [← e]
        subst c4
        exact rb_1f (f := 4) w hA hc hD1 HF HP HC hcv HU hw1 hw2 (HAo _ p2.out) hwu HO (HS4 rfl) (HA4 _ hfr2.out)
      · have e : fieldN f 1 x ex * 2 ^ oneN f + fracN f 1 x = packN f 1 false x ex := by
          rw [hpk.out, m4, if_neg c4, if_neg (fun h => c4 h.1)]; rfl
        rw [← e]
        exact rb_1n (z := 0) w hA hc hD1 HF HP HC hcv HU hw1 hw2 hwu HO HS1 HA1 (by simpa using c4)
    · have hlt : x < 2 ^ oneN f := blen_le.1 (by omega)
      have hcv : decide (rcmpN x (2 ^ oneN f) ≥ 0) = false := by unfold rcmpN; rw [if_pos hlt]; decide
      have ef : fieldN f 1 x ex = 0 := by unfold fieldN; rw [if_pos rfl, if_neg hz]
      have er : fracN f 1 x = x := by unfold fracN; rw [if_pos rfl, if_neg hz]
      have hpk := hpk.out
      rw [ef, er] at hpk
      rw [ef] at HO HS1 HS4 HA1 HA4
      rw [er] at HA1
      by_cases c4 : f = 4
      · have e : 0 * 2 ^ (oneN f + 1) + x = packN f 1 false x ex := by
          rw [hpk, if_neg (fun h => h.2 rfl), Nat.zero_mul, Nat.zero_mul]; rfl
        rw [← e]
        subst c4
        exact rb_2f (f := 4) (z := 0) w hA hc hD1 HF HP HC hcv (by decide) HO (HS4 rfl) (HA4 _ hx)
      · have e : 0 * 2 ^ oneN f + x = packN f 1 false x ex := by
          rw [hpk, if_neg (fun h => h.2 rfl), Nat.zero_mul, Nat.zero_mul]; rfl
        rw [← e]
        exact rb_2n (z := 0) w hA hc hD1 HF HP HC hcv (by decide) HO HS1 HA1 (by simpa using c4)
  · have ef : fieldN f cl x ex = lastN f := by unfold fieldN; rw [if_neg c1]
    obtain ⟨hD2, hD3, hl0⟩ := d2_wraps hf
    have HFi := Lib.hid fun w' => rfield f w'
    have hpk := hpk.out
    have hfr2 := hfr2.out
    rw [ef] at HO HS1 HS4 HA1 HA4 hpk
    have hpk := Lib.hid hpk
    have hfr2 := Lib.hid hfr2
    by_cases c3 : cl = 3
    · subst c3
      have HP2 := Lib.hid fun w' => rpower (s := (fmD f - 2).toNat) w' (Nat.le_trans hD3 (by decide))
      have er : fracN f 3 x = x + 2 ^ (fmD f - 2).toNat := by unfold fracN; rw [if_neg (by decide), if_neg (by decide), if_pos (by decide)]
      have hP2 : 2 ^ (fmD f - 2).toNat < 2 ^ 1000 := Nat.pow_lt_pow_right (by decide) (Nat.lt_of_le_of_lt hD3 (by decide))
      have HAq : Hid (∀ A' n' c' w', Kd.C (Kd.int .u32) w' A n (ofN x) → Kd.C (Kd.int .u32) w' A' n' (ofN (2 ^ (fmD f - 2).toNat)) → n' ≤ c' → Calls Tryd.prog 50 #[.slice A n c, .slice A' n' c'] w' (Gives (fracN f 3 x) w')) := Lib.hid fun A' n' c' w' h h' hc' => by rw [er]; exact radd_gives w' h hc h' hc' hxk.out hP2
      by_cases c4 : f = 4
      · have e : lastN f * 2 ^ (oneN f + 1) + (fracN f 3 x + 2 ^ oneN f) = packN f 3 false x ex := by
          rw [hpk.out, m4, if_pos c4, if_pos ⟨c4, hl0⟩]; exact (Nat.add_assoc _ _ _).symm
        rw [← e]
        subst c4
        exact rb_3f (f := 4) w hA hc hD1 HF HP hD2 HP2 HAq HFi m1 (HAo _ p2.out) m2 HO (HS4 rfl) (HA4 _ hfr2.out)
      · have e : lastN f * 2 ^ oneN f + fracN f 3 x = packN f 3 false x ex := by
          rw [hpk.out, m4, if_neg c4, if_neg (fun h => c4 h.1)]; rfl
        rw [← e]
        exact rb_3n (z := 0) w hA hc hD1 HF HP hD2 HP2 HAq HFi m1 m2 HO HS1 HA1 (by simpa using c4)
    · have er : fracN f cl x = x := by
        unfold fracN; rw [if_neg c1]
        by_cases c2 : cl = 2
        · subst c2
          rw [if_pos rfl]
          unfold fits at hh
          rw [if_neg (by decide), if_pos rfl] at hh
          simp only [Bool.and_eq_true, decide_eq_true_eq] at hh
          exact (blen_eq_zero.1 (Int.ofNat.inj hh.1)).symm
        · rw [if_neg c2, if_neg (by simpa using c3)]; rfl
      have hpk := hpk.out
      have hfr2 := hfr2.out
      rw [er] at HA1 hpk hfr2
      have hpk := Lib.hid hpk
      have hfr2 := Lib.hid hfr2
      have t1 : (cl == 1) = false := by simpa using c1
      have t2 : (cl != 1) = true := by simpa using c1
      have t3 : (cl == 3) = false := by simpa using c3
      by_cases c4 : f = 4
      · have e : lastN f * 2 ^ (oneN f + 1) + (x + 2 ^ oneN f) = packN f cl false x ex := by
          rw [hpk.out, m4, if_pos c4, if_pos ⟨c4, hl0⟩]; exact (Nat.add_assoc _ _ _).symm
        rw [← e]
        subst c4
        have HAx : Hid (∀ A' n' c' w', Kd.C (Kd.int .u32) w' A n (ofN x) → Kd.C (Kd.int .u32) w' A' n' (ofN (2 ^ oneN 4)) → n' ≤ c' → Calls Tryd.prog 50 #[.slice A n c, .slice A' n' c'] w' (Gives (x + 2 ^ oneN 4) w')) := Lib.hid fun A' n' c' w' h h' hc' => radd_gives w' h hc h' hc' hxk.out hP1k.out
        exact rb_5f (f := 4) w hA hc hD1 HF HP HFi m1 HAx m2 HO (HS4 rfl) (HA4 _ hfr2.out) t1 t2 t3
      · have e : lastN f * 2 ^ oneN f + x = packN f cl false x ex := by
          rw [hpk.out, m4, if_neg c4, if_neg (fun h => c4 h.1)]; rfl
        rw [← e]
        exact rb_5n (z := 0) w hA hc hD1 HF HP HFi m1 m2 HO HS1 HA1 t1 t2 t3 (by simpa using c4)
def sorobanref05_bits.f (a0_0 a0_1 : Int) (a0_2 : Bool) (l0_3 : List Int) (a0_4 : Int) : Option (List Int) := if isFm a0_0 && (u32L l0_3 && hasB a0_0 a0_1 l0_3 a0_4) then some (ofN (packN a0_0 a0_1 false (val l0_3) a0_4)) else none
theorem sorobanref05_bits.calls (a0_0 a0_1 : Int) (a0_2 : Bool) (A0_3 : Option Addr) (c0_3 : Nat) (l0_3 : List Int) (a0_4 : Int) (r : List Int) (w : World) (hr0_3 : Kd.C (Kd.int .u32) w A0_3 l0_3.length l0_3) (hc0_3 : l0_3.length ≤ c0_3) (h : sorobanref05_bits.f a0_0 a0_1 a0_2 l0_3 a0_4 = some r) :
    Calls Tryd.prog 49 #[.agg #[.int .i64 a0_0, .int .i64 a0_1, .bool a0_2, .slice A0_3 l0_3.length c0_3, .int .i64 a0_4]] w fun e w' => ∃ v0_ : Value, e = .returned (v0_) ∧ Kd.R (Kd.int .u32) 77 w' w.heap.size (fun _ => True) v0_ r ∧ Below w.heap.size w w' := by
  unfold sorobanref05_bits.f at h
  split at h
  · rename_i hb
    simp only [Bool.and_eq_true] at hb
    obtain ⟨h1, h2, h3⟩ := hb
    simp only [Option.some.injEq] at h
    subst h
    unfold hasB at h3
    simp only [Bool.and_eq_true] at h3
    have e : ofN (val l0_3) = l0_3 := ofN_val (u32L_of h2) (okN_iff.1 h3.1).2
    exact rbits_any (x := val l0_3) w h1 (by rw [e]; exact hr0_3) hc0_3 h3.2
  · cases h
end Go.Proofs.YtacnkcojhlbkoaaDoor
