/- Written by this session's own program (wip/tools/xprint.sh) for the law Sdy: what the law's functions compute, and that the machine does so, given the contracts of the program's functions. The law BinaryNeighbours: what its calls return, and so that it answers true. -/
import Derived.Test.YtacnkcojhlbkoaaDoorJNxt29
import Derived.Test.YtacnkcojhlbkoaaDoorJNxt25
import Derived.Test.YtacnkcojhlbkoaaDoorJNxt20
namespace Go.Proofs.YtacnkcojhlbkoaaDoor.XSdy
open Go.RowKit Go.Proofs.YtacnkcojhlbkoaaDoorW.PrintWords Go.Proofs.YtacnkcojhlbkoaaDoorW.PrintLast Go.Proofs.YtacnkcojhlbkoaaDoorW.PrintMore Go.Proofs.YtacnkcojhlbkoaaDoor.Zip
attribute [local go_sem] max2_int min2_int max_two min_two max_three min_three max_four min_four   -- for this text's walks alone
set_option linter.unusedVariables false
set_option linter.unusedSimpArgs false

/-! ### sorobanref05_SameInt: function 88 -/
def sorobanref05_SameInt.f (a0_0 : Bool) (l0_1 : List Int) (a1_0 : Bool) (l1_1 : List Int) : Option (Bool) := if (a0_0 == a1_0) = true then ((sorobanref01_Same.f l0_1 l1_1).bind fun t103 => (some t103)) else (some false)
set_option maxHeartbeats 8000000 in
set_option maxRecDepth 100000 in
theorem sorobanref05_SameInt.calls (a0_0 : Bool) (A0_1 : Option Addr) (c0_1 : Nat) (l0_1 : List Int) (a1_0 : Bool) (A1_1 : Option Addr) (c1_1 : Nat) (l1_1 : List Int) (r : Bool) (w : World) (hr0_1 : Kd.C (Kd.int .u32) w A0_1 l0_1.length l0_1) (hc0_1 : l0_1.length ≤ c0_1) (hr1_1 : Kd.C (Kd.int .u32) w A1_1 l1_1.length l1_1) (hc1_1 : l1_1.length ≤ c1_1) (h : sorobanref05_SameInt.f a0_0 l0_1 a1_0 l1_1 = some r) :
    Calls Tryd.prog 88 #[.agg #[.bool a0_0, .slice A0_1 l0_1.length c0_1], .agg #[.bool a1_0, .slice A1_1 l1_1.length c1_1]] w fun e w' => e = .returned (.bool r) ∧ Below w.heap.size w w' := by
  have hu48 := Tryd.underlying48
  have HR0_1 := Aside0.mk hr0_1
  have HC0_1 := Aside0.mk hc0_1
  clear hr0_1 hc0_1
  have HR1_1 := Aside0.mk hr1_1
  have HC1_1 := Aside0.mk hc1_1
  clear hr1_1 hc1_1
  have HB := Aside0.mk (Below.refl w.heap.size w)
  have H : (if (a0_0 == a1_0) = true then ((sorobanref01_Same.f l0_1 l1_1).bind fun t103 => (some t103)) else (some false)) = some r := h
  clear h
  by_cases c3 : (a0_0 == a1_0) = true
  · rw [if_pos c3] at H
    have c3b0 : (a0_0 == a1_0) = true := c3
    (try (have c3b1 : decide (a0_0 = a1_0) = true := by simpa using c3))
    (try (have c3b2 : (a0_0 == a1_0) = true := by simpa using c3))
    clear c3
    replace H := Option.bind_eq_some_iff.mp H
    obtain ⟨t103, A40, H⟩ := H
    replace H : (some t103) = some r := H
    have A4 := Aside0.mk A40
    clear A40
    obtain rfl := Option.some.inj H
    go_enter Tryd.func88, Tryd.ntmps88
    go_wp2_with (first | ((with_reducible refine gate_dst (N := 2) rfl ?_); refine box_event ?hg (N := 2) ?hd (cs := #[.bool a0_0, .slice A0_1 l0_1.length c0_1]) (t := 48) ?hr ?_; (case hd => rfl); (case hg => rfl); (case hr => first | (go_simp; done) | (go_simp; rfl)); intro gb101 hg w5 hbox hb; have n0_ := Aside0.mk (below_step (zb HB.out) hb); have n1_ := Aside0.mk (hbox); have n2_ := Aside0.mk ((by rw [hg]; exact (below_size (zb HB.out)) : w.heap.size ≤ gb101)); have n3_ := Aside0.mk ((by rw [hg]; exact (below_size (zb HB.out)) : w.heap.size ≤ gb101)); clear HB; have HB := n0_; have BK101 := n1_; have GW101 := n2_; have GE101 := n3_; clear n0_ n1_ n2_ n3_; clear hb hbox hg) | ((with_reducible refine gate_dst (N := 3) rfl ?_); refine box_event ?hg (N := 3) ?hd (cs := #[.bool a1_0, .slice A1_1 l1_1.length c1_1]) (t := 48) ?hr ?_; (case hd => rfl); (case hg => rfl); (case hr => first | (go_simp; done) | (go_simp; rfl)); intro gb102 hg w6 hbox hb; have n0_ := Aside0.mk (blk_below (g := gb101) (o := .cells #[.bool a0_0, .slice A0_1 l0_1.length c0_1] 48 (0, 0)) (zk BK101.out) hb); have n1_ := Aside0.mk (below_step (zb HB.out) hb); have n2_ := Aside0.mk (hbox); have n3_ := Aside0.mk ((by rw [hg]; exact (below_size (zb HB.out)) : w.heap.size ≤ gb102)); have n4_ := Aside0.mk ((by rw [hg]; exact (below_size (zb HB.out)) : w.heap.size ≤ gb102)); have n5_ := Aside0.mk ((by rw [hg]; exact Nat.ne_of_lt (blk_lt (g := gb101) (o := .cells #[.bool a0_0, .slice A0_1 l0_1.length c0_1] 48 (0, 0)) (zk BK101.out)) : gb101 ≠ gb102)); have n6_ := Aside0.mk ((by rw [hg]; exact Nat.ne_of_gt (blk_lt (g := gb101) (o := .cells #[.bool a0_0, .slice A0_1 l0_1.length c0_1] 48 (0, 0)) (zk BK101.out)) : gb102 ≠ gb101)); clear BK101; clear HB; have BK101 := n0_; have HB := n1_; have BK102 := n2_; have GW102 := n3_; have GE102 := n4_; have NB101_102 := n5_; have NB102_101 := n6_; clear n0_ n1_ n2_ n3_ n4_ n5_ n6_; clear hb hbox hg; have hnb7 := NB101_102.out; have hnc7 := NB102_101.out; have hcz8_0 : w6.cell? ⟨gb101, 0, none⟩ = some (.bool a0_0) := (blk_cell BK101.out 0).trans rfl; have hcz8_1 : w6.cell? ⟨gb101, 1, none⟩ = some (.slice A0_1 l0_1.length c0_1) := (blk_cell BK101.out 1).trans rfl; have hfz8_0 := blk_frozen BK101.out 0; have hfz8_1 := blk_frozen BK101.out 1; have hcz9_0 : w6.cell? ⟨gb102, 0, none⟩ = some (.bool a1_0) := (blk_cell BK102.out 0).trans rfl; have hcz9_1 : w6.cell? ⟨gb102, 1, none⟩ = some (.slice A1_1 l1_1.length c1_1) := (blk_cell BK102.out 1).trans rfl; have hfz9_0 := blk_frozen BK102.out 0; have hfz9_1 := blk_frozen BK102.out 1) | (go_at_call 24; (with_reducible refine (sorobanref01_Same.calls _ _ l0_1 _ _ l1_1 t103 _ ?side1 ?side2 ?side3 ?side4 A4.out).mono ?_); (case side1 => repeat (first | exact (Kd.C_below HR0_1.out HB.out) | (with_reducible refine Kd.C_alloc ?_ _) | (with_reducible refine Kd.C_drewN ?_ _) | (with_reducible refine Kd.C_drew ?_))); (case side2 => exact HC0_1.out); (case side3 => repeat (first | exact (Kd.C_below HR1_1.out HB.out) | (with_reducible refine Kd.C_alloc ?_ _) | (with_reducible refine Kd.C_drewN ?_ _) | (with_reducible refine Kd.C_drew ?_))); (case side4 => exact HC1_1.out); rintro e w10 ⟨rfl, hb⟩; have n0_ := Aside0.mk (blk_below (g := gb101) (o := .cells #[.bool a0_0, .slice A0_1 l0_1.length c0_1] 48 (0, 0)) (zk BK101.out) hb); have n1_ := Aside0.mk (blk_below (g := gb102) (o := .cells #[.bool a1_0, .slice A1_1 l1_1.length c1_1] 48 (0, 0)) (zk BK102.out) hb); have n2_ := Aside0.mk (below_step (zb HB.out) hb); clear BK101; clear BK102; clear HB; have BK101 := n0_; have BK102 := n1_; have HB := n2_; clear n0_ n1_ n2_; (try clear hb); (try clear hb2); (try clear hk); (try clear hi)))
    go_ret
    exact ⟨by first | rfl | (simp [errW_none, errW_some] <;> rfl) | (simp [*, errW_none, errW_some] <;> rfl), by repeat (first | (with_reducible first | exact HB.out | apply below_alloc | apply pw_below_drewN | apply below_drew1 | refine below_set ?_ GE101.out | refine below_set ?_ GE102.out) | exact HB.out)⟩
  · rw [if_neg c3] at H
    have c3b0 : (a0_0 == a1_0) = false := by simpa using c3
    (try (have c3b1 : decide (a0_0 = a1_0) = false := by simpa using c3))
    (try (have c3b2 : (a0_0 == a1_0) = false := by simpa using c3))
    (try (have c3b3 : ¬ (a0_0 = a1_0) := by simpa using c3))
    clear c3
    obtain rfl := Option.some.inj H
    go_enter Tryd.func88, Tryd.ntmps88
    go_wp2_with (first | ((with_reducible refine gate_dst (N := 2) rfl ?_); refine box_event ?hg (N := 2) ?hd (cs := #[.bool a0_0, .slice A0_1 l0_1.length c0_1]) (t := 48) ?hr ?_; (case hd => rfl); (case hg => rfl); (case hr => first | (go_simp; done) | (go_simp; rfl)); intro gb101 hg w11 hbox hb; have n0_ := Aside0.mk (below_step (zb HB.out) hb); have n1_ := Aside0.mk (hbox); have n2_ := Aside0.mk ((by rw [hg]; exact (below_size (zb HB.out)) : w.heap.size ≤ gb101)); have n3_ := Aside0.mk ((by rw [hg]; exact (below_size (zb HB.out)) : w.heap.size ≤ gb101)); clear HB; have HB := n0_; have BK101 := n1_; have GW101 := n2_; have GE101 := n3_; clear n0_ n1_ n2_ n3_; clear hb hbox hg) | ((with_reducible refine gate_dst (N := 3) rfl ?_); refine box_event ?hg (N := 3) ?hd (cs := #[.bool a1_0, .slice A1_1 l1_1.length c1_1]) (t := 48) ?hr ?_; (case hd => rfl); (case hg => rfl); (case hr => first | (go_simp; done) | (go_simp; rfl)); intro gb102 hg w12 hbox hb; have n0_ := Aside0.mk (blk_below (g := gb101) (o := .cells #[.bool a0_0, .slice A0_1 l0_1.length c0_1] 48 (0, 0)) (zk BK101.out) hb); have n1_ := Aside0.mk (below_step (zb HB.out) hb); have n2_ := Aside0.mk (hbox); have n3_ := Aside0.mk ((by rw [hg]; exact (below_size (zb HB.out)) : w.heap.size ≤ gb102)); have n4_ := Aside0.mk ((by rw [hg]; exact (below_size (zb HB.out)) : w.heap.size ≤ gb102)); have n5_ := Aside0.mk ((by rw [hg]; exact Nat.ne_of_lt (blk_lt (g := gb101) (o := .cells #[.bool a0_0, .slice A0_1 l0_1.length c0_1] 48 (0, 0)) (zk BK101.out)) : gb101 ≠ gb102)); have n6_ := Aside0.mk ((by rw [hg]; exact Nat.ne_of_gt (blk_lt (g := gb101) (o := .cells #[.bool a0_0, .slice A0_1 l0_1.length c0_1] 48 (0, 0)) (zk BK101.out)) : gb102 ≠ gb101)); clear BK101; clear HB; have BK101 := n0_; have HB := n1_; have BK102 := n2_; have GW102 := n3_; have GE102 := n4_; have NB101_102 := n5_; have NB102_101 := n6_; clear n0_ n1_ n2_ n3_ n4_ n5_ n6_; clear hb hbox hg; have hnb13 := NB101_102.out; have hnc13 := NB102_101.out; have hcz14_0 : w12.cell? ⟨gb101, 0, none⟩ = some (.bool a0_0) := (blk_cell BK101.out 0).trans rfl; have hcz14_1 : w12.cell? ⟨gb101, 1, none⟩ = some (.slice A0_1 l0_1.length c0_1) := (blk_cell BK101.out 1).trans rfl; have hfz14_0 := blk_frozen BK101.out 0; have hfz14_1 := blk_frozen BK101.out 1; have hcz15_0 : w12.cell? ⟨gb102, 0, none⟩ = some (.bool a1_0) := (blk_cell BK102.out 0).trans rfl; have hcz15_1 : w12.cell? ⟨gb102, 1, none⟩ = some (.slice A1_1 l1_1.length c1_1) := (blk_cell BK102.out 1).trans rfl; have hfz15_0 := blk_frozen BK102.out 0; have hfz15_1 := blk_frozen BK102.out 1))
    go_ret
    exact ⟨by first | rfl | (simp [errW_none, errW_some] <;> rfl) | (simp [*, errW_none, errW_some] <;> rfl), by repeat (first | (with_reducible first | exact HB.out | apply below_alloc | apply pw_below_drewN | apply below_drew1 | refine below_set ?_ GE101.out | refine below_set ?_ GE102.out) | exact HB.out)⟩

/-! ### sorobanref05_SameDyad: function 38 -/
def sorobanref05_SameDyad.f (a0_0 : Bool) (l0_1 : List Int) (a0_2 : Int) (a1_0 : Bool) (l1_1 : List Int) (a1_2 : Int) : Option (Bool) := if a0_2 = a1_2 then ((sorobanref05_SameInt.f a0_0 l0_1 a1_0 l1_1).bind fun t106 => (some t106)) else (some false)
set_option maxHeartbeats 8000000 in
set_option maxRecDepth 100000 in
theorem sorobanref05_SameDyad.calls (a0_0 : Bool) (A0_1 : Option Addr) (c0_1 : Nat) (l0_1 : List Int) (a0_2 : Int) (a1_0 : Bool) (A1_1 : Option Addr) (c1_1 : Nat) (l1_1 : List Int) (a1_2 : Int) (r : Bool) (w : World) (hr0_1 : Kd.C (Kd.int .u32) w A0_1 l0_1.length l0_1) (hc0_1 : l0_1.length ≤ c0_1) (hr1_1 : Kd.C (Kd.int .u32) w A1_1 l1_1.length l1_1) (hc1_1 : l1_1.length ≤ c1_1) (h : sorobanref05_SameDyad.f a0_0 l0_1 a0_2 a1_0 l1_1 a1_2 = some r) :
    Calls Tryd.prog 38 #[.agg #[.bool a0_0, .slice A0_1 l0_1.length c0_1, .int .i64 a0_2], .agg #[.bool a1_0, .slice A1_1 l1_1.length c1_1, .int .i64 a1_2]] w fun e w' => e = .returned (.bool r) ∧ Below w.heap.size w w' := by
  have hu65 := Tryd.underlying65
  have hu48 := Tryd.underlying48
  have HR0_1 := Aside0.mk hr0_1
  have HC0_1 := Aside0.mk hc0_1
  clear hr0_1 hc0_1
  have HR1_1 := Aside0.mk hr1_1
  have HC1_1 := Aside0.mk hc1_1
  clear hr1_1 hc1_1
  have HB := Aside0.mk (Below.refl w.heap.size w)
  have H : (if a0_2 = a1_2 then ((sorobanref05_SameInt.f a0_0 l0_1 a1_0 l1_1).bind fun t106 => (some t106)) else (some false)) = some r := h
  clear h
  by_cases c3 : a0_2 = a1_2
  · rw [if_pos c3] at H
    have c3b0 : (a0_2 == a1_2) = true := beq_iff_eq.mpr c3
    have c3b1 : (a0_2 != a1_2) = false := bne_eq_false_iff_eq.mpr c3
    clear c3
    replace H := Option.bind_eq_some_iff.mp H
    obtain ⟨t106, A40, H⟩ := H
    replace H : (some t106) = some r := H
    have A4 := Aside0.mk A40
    clear A40
    obtain rfl := Option.some.inj H
    go_enter Tryd.func38, Tryd.ntmps38
    go_wp2_with (first | ((with_reducible refine gate_dst (N := 2) rfl ?_); refine box_event ?hg (N := 2) ?hd (cs := #[.bool a0_0, .slice A0_1 l0_1.length c0_1, .int .i64 a0_2]) (t := 65) ?hr ?_; (case hd => rfl); (case hg => rfl); (case hr => first | (go_simp; done) | (go_simp; rfl)); intro gb104 hg w5 hbox hb; have n0_ := Aside0.mk (below_step (zb HB.out) hb); have n1_ := Aside0.mk (hbox); have n2_ := Aside0.mk ((by rw [hg]; exact (below_size (zb HB.out)) : w.heap.size ≤ gb104)); have n3_ := Aside0.mk ((by rw [hg]; exact (below_size (zb HB.out)) : w.heap.size ≤ gb104)); clear HB; have HB := n0_; have BK104 := n1_; have GW104 := n2_; have GE104 := n3_; clear n0_ n1_ n2_ n3_; clear hb hbox hg) | ((with_reducible refine gate_dst (N := 3) rfl ?_); refine box_event ?hg (N := 3) ?hd (cs := #[.bool a1_0, .slice A1_1 l1_1.length c1_1, .int .i64 a1_2]) (t := 65) ?hr ?_; (case hd => rfl); (case hg => rfl); (case hr => first | (go_simp; done) | (go_simp; rfl)); intro gb105 hg w6 hbox hb; have n0_ := Aside0.mk (blk_below (g := gb104) (o := .cells #[.bool a0_0, .slice A0_1 l0_1.length c0_1, .int .i64 a0_2] 65 (0, 0)) (zk BK104.out) hb); have n1_ := Aside0.mk (below_step (zb HB.out) hb); have n2_ := Aside0.mk (hbox); have n3_ := Aside0.mk ((by rw [hg]; exact (below_size (zb HB.out)) : w.heap.size ≤ gb105)); have n4_ := Aside0.mk ((by rw [hg]; exact (below_size (zb HB.out)) : w.heap.size ≤ gb105)); have n5_ := Aside0.mk ((by rw [hg]; exact Nat.ne_of_lt (blk_lt (g := gb104) (o := .cells #[.bool a0_0, .slice A0_1 l0_1.length c0_1, .int .i64 a0_2] 65 (0, 0)) (zk BK104.out)) : gb104 ≠ gb105)); have n6_ := Aside0.mk ((by rw [hg]; exact Nat.ne_of_gt (blk_lt (g := gb104) (o := .cells #[.bool a0_0, .slice A0_1 l0_1.length c0_1, .int .i64 a0_2] 65 (0, 0)) (zk BK104.out)) : gb105 ≠ gb104)); clear BK104; clear HB; have BK104 := n0_; have HB := n1_; have BK105 := n2_; have GW105 := n3_; have GE105 := n4_; have NB104_105 := n5_; have NB105_104 := n6_; clear n0_ n1_ n2_ n3_ n4_ n5_ n6_; clear hb hbox hg; have hnb7 := NB104_105.out; have hnc7 := NB105_104.out; have hcz8_0 : w6.cell? ⟨gb104, 0, none⟩ = some (.bool a0_0) := (blk_cell BK104.out 0).trans rfl; have hcz8_1 : w6.cell? ⟨gb104, 1, none⟩ = some (.slice A0_1 l0_1.length c0_1) := (blk_cell BK104.out 1).trans rfl; have hcz8_2 : w6.cell? ⟨gb104, 2, none⟩ = some (.int .i64 a0_2) := (blk_cell BK104.out 2).trans rfl; have hfz8_0 := blk_frozen BK104.out 0; have hfz8_1 := blk_frozen BK104.out 1; have hfz8_2 := blk_frozen BK104.out 2; have hcz9_0 : w6.cell? ⟨gb105, 0, none⟩ = some (.bool a1_0) := (blk_cell BK105.out 0).trans rfl; have hcz9_1 : w6.cell? ⟨gb105, 1, none⟩ = some (.slice A1_1 l1_1.length c1_1) := (blk_cell BK105.out 1).trans rfl; have hcz9_2 : w6.cell? ⟨gb105, 2, none⟩ = some (.int .i64 a1_2) := (blk_cell BK105.out 2).trans rfl; have hfz9_0 := blk_frozen BK105.out 0; have hfz9_1 := blk_frozen BK105.out 1; have hfz9_2 := blk_frozen BK105.out 2) | (go_at_call 88; (with_reducible refine (sorobanref05_SameInt.calls a0_0 _ _ l0_1 a1_0 _ _ l1_1 t106 _ ?side1 ?side2 ?side3 ?side4 A4.out).mono ?_); (case side1 => repeat (first | exact (Kd.C_below HR0_1.out HB.out) | (with_reducible refine Kd.C_alloc ?_ _) | (with_reducible refine Kd.C_drewN ?_ _) | (with_reducible refine Kd.C_drew ?_))); (case side2 => exact HC0_1.out); (case side3 => repeat (first | exact (Kd.C_below HR1_1.out HB.out) | (with_reducible refine Kd.C_alloc ?_ _) | (with_reducible refine Kd.C_drewN ?_ _) | (with_reducible refine Kd.C_drew ?_))); (case side4 => exact HC1_1.out); rintro e w10 ⟨rfl, hb⟩; have n0_ := Aside0.mk (blk_below (g := gb104) (o := .cells #[.bool a0_0, .slice A0_1 l0_1.length c0_1, .int .i64 a0_2] 65 (0, 0)) (zk BK104.out) hb); have n1_ := Aside0.mk (blk_below (g := gb105) (o := .cells #[.bool a1_0, .slice A1_1 l1_1.length c1_1, .int .i64 a1_2] 65 (0, 0)) (zk BK105.out) hb); have n2_ := Aside0.mk (below_step (zb HB.out) hb); clear BK104; clear BK105; clear HB; have BK104 := n0_; have BK105 := n1_; have HB := n2_; clear n0_ n1_ n2_; (try clear hb); (try clear hb2); (try clear hk); (try clear hi)))
    go_ret
    exact ⟨by first | rfl | (simp [errW_none, errW_some] <;> rfl) | (simp [*, errW_none, errW_some] <;> rfl), by repeat (first | (with_reducible first | exact HB.out | apply below_alloc | apply pw_below_drewN | apply below_drew1 | refine below_set ?_ GE104.out | refine below_set ?_ GE105.out) | exact HB.out)⟩
  · rw [if_neg c3] at H
    have c3b0 : (a0_2 == a1_2) = false := beq_eq_false_iff_ne.mpr c3
    have c3b1 : (a0_2 != a1_2) = true := bne_iff_ne.mpr c3
    obtain rfl := Option.some.inj H
    go_enter Tryd.func38, Tryd.ntmps38
    go_wp2_with (first | ((with_reducible refine gate_dst (N := 2) rfl ?_); refine box_event ?hg (N := 2) ?hd (cs := #[.bool a0_0, .slice A0_1 l0_1.length c0_1, .int .i64 a0_2]) (t := 65) ?hr ?_; (case hd => rfl); (case hg => rfl); (case hr => first | (go_simp; done) | (go_simp; rfl)); intro gb104 hg w11 hbox hb; have n0_ := Aside0.mk (below_step (zb HB.out) hb); have n1_ := Aside0.mk (hbox); have n2_ := Aside0.mk ((by rw [hg]; exact (below_size (zb HB.out)) : w.heap.size ≤ gb104)); have n3_ := Aside0.mk ((by rw [hg]; exact (below_size (zb HB.out)) : w.heap.size ≤ gb104)); clear HB; have HB := n0_; have BK104 := n1_; have GW104 := n2_; have GE104 := n3_; clear n0_ n1_ n2_ n3_; clear hb hbox hg) | ((with_reducible refine gate_dst (N := 3) rfl ?_); refine box_event ?hg (N := 3) ?hd (cs := #[.bool a1_0, .slice A1_1 l1_1.length c1_1, .int .i64 a1_2]) (t := 65) ?hr ?_; (case hd => rfl); (case hg => rfl); (case hr => first | (go_simp; done) | (go_simp; rfl)); intro gb105 hg w12 hbox hb; have n0_ := Aside0.mk (blk_below (g := gb104) (o := .cells #[.bool a0_0, .slice A0_1 l0_1.length c0_1, .int .i64 a0_2] 65 (0, 0)) (zk BK104.out) hb); have n1_ := Aside0.mk (below_step (zb HB.out) hb); have n2_ := Aside0.mk (hbox); have n3_ := Aside0.mk ((by rw [hg]; exact (below_size (zb HB.out)) : w.heap.size ≤ gb105)); have n4_ := Aside0.mk ((by rw [hg]; exact (below_size (zb HB.out)) : w.heap.size ≤ gb105)); have n5_ := Aside0.mk ((by rw [hg]; exact Nat.ne_of_lt (blk_lt (g := gb104) (o := .cells #[.bool a0_0, .slice A0_1 l0_1.length c0_1, .int .i64 a0_2] 65 (0, 0)) (zk BK104.out)) : gb104 ≠ gb105)); have n6_ := Aside0.mk ((by rw [hg]; exact Nat.ne_of_gt (blk_lt (g := gb104) (o := .cells #[.bool a0_0, .slice A0_1 l0_1.length c0_1, .int .i64 a0_2] 65 (0, 0)) (zk BK104.out)) : gb105 ≠ gb104)); clear BK104; clear HB; have BK104 := n0_; have HB := n1_; have BK105 := n2_; have GW105 := n3_; have GE105 := n4_; have NB104_105 := n5_; have NB105_104 := n6_; clear n0_ n1_ n2_ n3_ n4_ n5_ n6_; clear hb hbox hg; have hnb13 := NB104_105.out; have hnc13 := NB105_104.out; have hcz14_0 : w12.cell? ⟨gb104, 0, none⟩ = some (.bool a0_0) := (blk_cell BK104.out 0).trans rfl; have hcz14_1 : w12.cell? ⟨gb104, 1, none⟩ = some (.slice A0_1 l0_1.length c0_1) := (blk_cell BK104.out 1).trans rfl; have hcz14_2 : w12.cell? ⟨gb104, 2, none⟩ = some (.int .i64 a0_2) := (blk_cell BK104.out 2).trans rfl; have hfz14_0 := blk_frozen BK104.out 0; have hfz14_1 := blk_frozen BK104.out 1; have hfz14_2 := blk_frozen BK104.out 2; have hcz15_0 : w12.cell? ⟨gb105, 0, none⟩ = some (.bool a1_0) := (blk_cell BK105.out 0).trans rfl; have hcz15_1 : w12.cell? ⟨gb105, 1, none⟩ = some (.slice A1_1 l1_1.length c1_1) := (blk_cell BK105.out 1).trans rfl; have hcz15_2 : w12.cell? ⟨gb105, 2, none⟩ = some (.int .i64 a1_2) := (blk_cell BK105.out 2).trans rfl; have hfz15_0 := blk_frozen BK105.out 0; have hfz15_1 := blk_frozen BK105.out 1; have hfz15_2 := blk_frozen BK105.out 2))
    go_ret
    exact ⟨by first | rfl | (simp [errW_none, errW_some] <;> rfl) | (simp [*, errW_none, errW_some] <;> rfl), by repeat (first | (with_reducible first | exact HB.out | apply below_alloc | apply pw_below_drewN | apply below_drew1 | refine below_set ?_ GE104.out | refine below_set ?_ GE105.out) | exact HB.out)⟩

end Go.Proofs.YtacnkcojhlbkoaaDoor.XSdy

set_option linter.unusedSimpArgs false
set_option linter.unusedVariables false
set_option linter.unnecessarySimpa false
namespace Go.Proofs.YtacnkcojhlbkoaaDoor
open Go.RowKit Go.Proofs.YtacnkcojhlbkoaaDoorW.PrintWords Go.Proofs.YtacnkcojhlbkoaaDoorW.PrintLast Go.Proofs.YtacnkcojhlbkoaaDoorW.PrintMore Go.Proofs.YtacnkcojhlbkoaaDoor.NL
set_option maxRecDepth 100000
set_option exponentiation.threshold 33000

/-- A finite datum's digits fit. -/
theorem fin_fits {f ex : Int} {x : Nat} (hf : isFm f = true) (h : FinOk f x ex) : fits (fmD f) (fmL f) (fmH f) 1 (blen x) ex = true := by
  obtain ⟨n1, -⟩ := fm_nums hf
  have h1 : blen x ≤ oneN f + 1 := blen_le.2 h.hx
  unfold fits
  rw [if_pos rfl]
  have h4 : ex = fmL f ∨ (blen x : Int) = fmD f := h.h3.imp id fun h2 => by
    have : ¬ blen x ≤ oneN f := fun h3 => by have := blen_le.1 h3; omega
    omega
  have g1 := h.h1
  have g2 := h.h2
  simp only [Bool.and_eq_true, Bool.or_eq_true, decide_eq_true_eq]
  exact ⟨⟨⟨by omega, g1⟩, g2⟩, h4⟩
/-- Make of a number at a datum's exponent, or one lower with a zero more. -/
theorem make_same {f ex : Int} {x : Nat} (hf : isFm f = true) (h : FinOk f x ex) (hx : x ≠ 0) : binary_Make.f f false (ofN x) ex = some (f, 1, false, ofN x, ex, 0) := by
  obtain ⟨m, hm, hz⟩ := tz_spec hx
  have hh := fin_fits hf h
  have hz2 : tz x ≤ 2000 := by
    have := tz_le hx h.hx
    obtain ⟨o1, -⟩ := fm_small hf
    omega
  have h2 := make_remake (z := tz x) (k := tz x) (ng := false) hf hm (by rw [← hz]; exact hh) hz2
  rw [← hz] at h2
  rwa [show ex + (tz x : Nat) - (tz x : Nat) = ex by omega] at h2
theorem make_up {f ex : Int} {on : Nat} (hf : isFm f = true) (h : FinOk f (2 ^ on) (ex + 1)) (ho : on ≤ 200) : binary_Make.f f false (ofN (2 ^ (on + 1))) ex = some (f, 1, false, ofN (2 ^ on), ex + 1, 0) := by
  have hh := fin_fits hf h
  have h2 := make_remake (o := 1) (z := on) (k := on + 1) (ex := ex + 1) (ng := false) hf (by decide) (by rw [Nat.one_mul]; exact hh) (by omega)
  rw [Nat.one_mul, Nat.one_mul] at h2
  rwa [show ex + 1 + (on : Nat) - ((on + 1 : Nat) : Int) = ex by omega] at h2
theorem add_one {y : Nat} (w : World) {A A' : Option Addr} {c : Nat} (hy : y < 2 ^ 200) (h1 : Kd.C (Kd.int .u32) w A (ofN y).length (ofN y)) (h2 : (ofN y).length ≤ c) (h3 : Kd.C (Kd.int .u32) w A' 1 [1]) : Calls Tryd.prog 36 #[.slice A (ofN y).length c, .slice A' 1 1] w (NumErr (ofN (y + 1)) 0 w) := by
  have := nAdd_any w h1 h3 (lim_ofN _) (by intro x hx; simp at hx; omega) h2 (Nat.le_refl 1)
  have e1 : okN [1] = true := by decide
  have e2 : val [1] = 1 := by decide
  have h4 : (ofN (y + 1)).length ≤ 1024 := small_len (k := 201) (by
    have : (2 : Nat) ^ 201 = 2 ^ 200 + 2 ^ 200 := by rw [Nat.pow_succ, Nat.mul_two]
    have h5 : 1 ≤ 2 ^ 200 := Nat.two_pow_pos 200
    rw [this]; exact Nat.add_lt_add_of_lt_of_le hy h5) (by omega)
  unfold natAdd numRes numOut at this
  rw [okN_small hy (by omega), e1, val_ofN, e2] at this
  simp only [Bool.and_self, if_true] at this
  rw [if_pos h4] at this
  exact this
theorem sdy_f {n : Bool} {l : List Int} {e : Int} (h : l.length ≤ 1000000000) : XSdy.sorobanref05_SameDyad.f n l e n l e = some true := by
  unfold XSdy.sorobanref05_SameDyad.f XSdy.sorobanref05_SameInt.f sorobanref01_Same.f
  rw [if_pos rfl, if_pos (by simp), if_pos h, decide_eq_true rfl]; rfl
/-- The datum with the next place. -/
theorem next_place {f ex : Int} {x : Nat} (hf : isFm f = true) (h : FinOk f x ex) : (x = 2 ^ (oneN f + 1) - 1 ∧ ex = fmH f ∧ placeN f 1 x ex + 1 = endN f) ∨
    ∃ y ey, FinOk f y ey ∧ y ≠ 0 ∧ placeN f 1 x ex + 1 = placeN f 1 y ey ∧ binary_Make.f f false (ofN (x + 1)) ex = some (f, 1, false, ofN y, ey, 0) ∧ ¬ (x = 2 ^ (oneN f + 1) - 1 ∧ ex = fmH f) := by
  have hx := h.hx
  have h1 := h.h1
  have h2 := h.h2
  obtain ⟨o1, -⟩ := fm_small hf
  have hp := Nat.two_pow_pos (oneN f)
  have hpp : 2 ^ (oneN f + 1) = 2 * 2 ^ oneN f := by rw [Nat.pow_succ, Nat.mul_comm]
  have pl : ∀ y ey, placeN f 1 y ey = 2 ^ oneN f * (ey - fmL f).toNat + y := fun y ey => by unfold placeN; rw [if_neg (by decide)]
  by_cases hs : x + 1 < 2 ^ (oneN f + 1)
  · right
    have F : FinOk f (x + 1) ex := ⟨hs, h1, h2, h.h3.imp id (fun h => by omega)⟩
    refine ⟨x + 1, ex, F, by omega, by rw [pl, pl]; omega, make_same hf F (by omega), ?_⟩
    rintro ⟨h3, -⟩; omega
  · have hx1 : x + 1 = 2 ^ (oneN f + 1) := by omega
    by_cases he : ex = fmH f
    · left
      refine ⟨by omega, he, ?_⟩
      rw [pl, he]
      unfold endN
      omega
    · right
      have F : FinOk f (2 ^ oneN f) (ex + 1) := ⟨by omega, by omega, by omega, .inr (Nat.le_refl _)⟩
      refine ⟨2 ^ oneN f, ex + 1, F, by omega, ?_, ?_, fun h3 => he h3.2⟩
      · rw [pl, pl]
        obtain ⟨i, hi⟩ : ∃ i : Nat, ex = fmL f + i := ⟨(ex - fmL f).toNat, by omega⟩
        rw [show (ex - fmL f).toNat = i by omega, show (ex + 1 - fmL f).toNat = i + 1 by omega, Nat.mul_add, Nat.mul_one]
        omega
      · rw [hx1]; exact make_up hf F (by omega)
set_option maxHeartbeats 4000000 in
theorem binaryNeighbours_walk (a0 a1_0 a1_1 : Int) (W : World) (w0 : (Lit.int .u8 a0).wf = true) (w1 : (Lit.int .u64 a1_0).wf = true) (w2 : (Lit.int .u64 a1_1).wf = true) (hT : Tab W) :
    Calls Tryd.prog 9 #[.int .u8 a0, .agg #[.int .u64 a1_0, .int .u64 a1_1]] W fun e W' => e = .returned (.bool true) ∧ Below W.heap.size W W' := by
  simp [Lit.wf, IntKind.min, IntKind.max, IntKind.signed, IntKind.bits] at w0 w1 w2
  obtain ⟨f, ef, hf⟩ := which_f (a0 := a0) (by omega)
  obtain ⟨N1, hN1, ec1⟩ := cut_f (f := f) (hi := a1_0) (lo := a1_1) hf (by simp only [u64B, decide_eq_true_eq]; omega) (by simp only [u64B, decide_eq_true_eq]; omega)
  have HSa := Lib.hid fun w' (h : Tab w') => sanity_ok w' h
  have HWh := Lib.hid fun w' => sorobanlaw05_which.calls a0 f w' ef
  have HC1 := Lib.hid fun w' => sorobanlaw05_cut.calls f a1_0 a1_1 (wHi N1) (wLo N1) w' ec1
  have HD1 := Lib.hid fun w' => binary_Decode.calls f (wHi N1) (wLo N1) _ _ _ _ _ _ w' (decode_f hf hN1)
  have hx1 := dec_128 hf N1
  have hh1 := (dec_ok hf N1).1
  generalize wHi N1 = H1 at *
  generalize wLo N1 = L1 at *
  generalize (decN f N1).1 = cl1 at *
  generalize (decN f N1).2.1 = x at *
  generalize (decN f N1).2.2 = ex at *
  generalize decNeg f N1 = ng1 at *
  by_cases c1 : cl1 = 1
  · subst c1
    cases ng1 with
    | true => exact nxt_ng W hT HWh HC1 HD1 HSa
    | false =>
      have F := finOk hf hh1
      have hel := end_lt hf
      have hPl := place_end F
      have hPs : placeN f 1 x ex < 2 ^ 200 := Nat.lt_trans (Nat.lt_trans hPl hel) (Nat.pow_lt_pow_right (by decide) (by decide))
      have hl1 : (ofN x).length ≤ 1000000000 := by have := ofN_len hx1; omega
      have HI := hidI (ng := false) (index_f hf hx1 hh1 (.inl rfl))
      rw [Bool.false_and] at HI
      have HAI : Hid (∀ A c A' w', Kd.C (Kd.int .u32) w' A (ofN (placeN f 1 x ex)).length (ofN (placeN f 1 x ex)) → (ofN (placeN f 1 x ex)).length ≤ c → Kd.C (Kd.int .u32) w' A' 1 [1] → Calls Tryd.prog 36 #[.slice A (ofN (placeN f 1 x ex)).length c, .slice A' 1 1] w' (NumErr (ofN (placeN f 1 x ex + 1)) 0 w')) := Lib.hid fun A c A' w' g1 g2 g3 => add_one w' hPs g1 g2 g3
      have HGr := Lib.hid fun w' (h : Tab w') => greatest_any w' hf h
      rcases next_place hf F with ⟨e1, e2, e3⟩ | ⟨y, ey, G, hy0, e3, e4, e5⟩
      · have HAt := hidAt (at_end (ni := false) hf) (u32L_ofN _)
        rw [← e3] at HAt
        have HSt := hidS (f1 := f) (c1 := 1) (e1 := ex) (f2 := f) (c2 := 1) (e2 := fmH f) (n1 := false) (n2 := false) (b := true) (l := ofN x) (m := ofN (2 ^ (oneN f + 1) - 1)) hl1 (decide_eq_true ⟨rfl, rfl, rfl, by rw [e1], e2⟩).symm
        have HSi : Hid (∀ A c w', Kd.C (Kd.int .u32) w' A 0 [] → 0 ≤ c → Calls Tryd.prog 19 #[.agg #[.int .i64 f, .int .i64 2, .bool false, .slice A 0 c, .int .i64 0], .agg #[.int .i64 f, .int .i64 2, .bool false, .slice none 0 0, .int .i64 0]] w' fun e w'' => e = .returned (.bool true) ∧ Below w'.heap.size w' w'') := Lib.hid fun A c w' g1 g2 =>
          sorobanref05_Same.calls f 2 false A c [] 0 f 2 false none 0 [] 0 true w' g1 g2 (R_nilC w') (Nat.le_refl 0) (by rw [same_f (by simp), decide_eq_true ⟨rfl, rfl, rfl, rfl, rfl⟩])
        exact nxt_top W hT HWh HC1 HD1 HI HAI HAt HGr HSt HSi HSa
      · have HAt := hidAt (at_place (ni := false) hf G (fun h => by cases h)) (u32L_ofN _)
        rw [← e3] at HAt
        have HSt := hidS (f1 := f) (c1 := 1) (e1 := ex) (f2 := f) (c2 := 1) (e2 := fmH f) (n1 := false) (n2 := false) (b := false) (l := ofN x) (m := ofN (2 ^ (oneN f + 1) - 1)) hl1 (decide_eq_false (fun h => e5 ⟨ofN_inj h.2.2.2.1, h.2.2.2.2⟩)).symm
        have hyw : y < W128 := by
          obtain ⟨o1, -⟩ := fm_small hf
          exact Nat.lt_of_lt_of_le G.hx (Nat.le_trans (pow_le3 (by omega : oneN f + 1 ≤ 128)) (by decide))
        have hyl : (ofN y).length ≤ 1000000000 := by have := ofN_len hyw; omega
        have HV := hidV (ng := false) (value_f2 hf hyw (fin_fits hf G))
        rw [if_neg hy0, if_neg hy0] at HV
        have hxs : x < 2 ^ 200 := Nat.lt_trans (small_130 hf F.hx).1 (Nat.pow_lt_pow_right (by decide) (by decide))
        have HAC : Hid (∀ A c A' w', Kd.C (Kd.int .u32) w' A (ofN x).length (ofN x) → (ofN x).length ≤ c → Kd.C (Kd.int .u32) w' A' 1 [1] → Calls Tryd.prog 36 #[.slice A (ofN x).length c, .slice A' 1 1] w' (NumErr (ofN (x + 1)) 0 w')) := Lib.hid fun A c A' w' g1 g2 g3 => add_one w' hxs g1 g2 g3
        have HM : Hid (∀ A c w', Tab w' → Kd.C (Kd.int .u32) w' A (ofN (x + 1)).length (ofN (x + 1)) → (ofN (x + 1)).length ≤ c → Calls Tryd.prog 32 #[.int .i64 f, .bool false, .slice A (ofN (x + 1)).length c, .int .i64 ex] w' (DatumE f 1 false (ofN y) ey 0 w')) := Lib.hid fun A c w' g0 g1 g2 => binary_Make.calls f false A c (ofN (x + 1)) ex f 1 false (ofN y) ey 0 w' g1 g2 e4 g0
        have hyl2 : (ofN (y / 2 ^ tz y)).length ≤ 1000000000 := by
          have := ofN_len (Nat.lt_of_le_of_lt (Nat.div_le_self y (2 ^ tz y)) hyw); omega
        exact nxt_mid W hT HWh HC1 HD1 HI HAI HAt HGr HSt HV HAC HM
          (Lib.hid fun A c A' c' w' g1 g2 g3 g4 => XSdy.sorobanref05_SameDyad.calls false A c _ _ false A' c' _ _ true w' g1 g2 g3 g4 (sdy_f hyl2))
          (hidS (f1 := f) (c1 := 1) (e1 := ey) (f2 := f) (c2 := 1) (e2 := ey) (n1 := false) (n2 := false) (b := true) (l := ofN y) (m := ofN y) hyl (decide_eq_true ⟨rfl, rfl, rfl, rfl, rfl⟩).symm) HSa
  · exact nxt_cl W hT HWh HC1 HD1 HSa (by simpa using c1)
end Go.Proofs.YtacnkcojhlbkoaaDoor
