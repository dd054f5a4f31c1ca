/- Written by this session's own program (wip/tools/xprint.sh) for the law BinaryPlaces: what the law's functions compute, and that the machine does so, given the contracts of the program's functions. -/
import Derived.Test.YtacnkcojhlbkoaaDoorJDzc
import Derived.Test.YtacnkcojhlbkoaaDoorJD19
namespace Go.Proofs.YtacnkcojhlbkoaaDoor.XBinaryPlaces
open Go.RowKit Go.Proofs.YtacnkcojhlbkoaaDoorW.PrintWords Go.Proofs.YtacnkcojhlbkoaaDoorW.PrintLast Go.Proofs.YtacnkcojhlbkoaaDoorW.PrintMore Go.Proofs.YtacnkcojhlbkoaaDoor.Zip
attribute [local go_sem] max2_int min2_int max_two min_two max_three min_three max_four min_four   -- for this text's walks alone
set_option linter.unusedVariables false
set_option linter.unusedSimpArgs false

/-! ### sorobanlaw05_BinaryPlaces: function 4 -/
def sorobanlaw05_BinaryPlaces.j0 : Nat → Bool → Int → Int → Bool → List Int → Int → Bool → List Int → Option (Bool)
  | 0, _, _, _, _, _, _, _, _ => none
  | k + 1, x36, x114000, x114001, x114002, x114003, x114004, x120000, x120001 => if x36 = true then ((sorobanlaw05_sanity.f).bind fun t120 => (some t120)) else ((binary_Encode.f x114000 x114001 x114002 x114003 x114004).bind fun bt121 => ((sorobanlaw05_sanity.f).bind fun t125 => (if t125 = true then (if bt121.2.2 = 0 then ((sorobanref05_Nat.f bt121.1 bt121.2.1).bind fun t126 => ((sorobanref01_Same.f x120001 t126).bind fun t129 => (if t129 = true then (some (!x120000)) else (some false)))) else (some false)) else (some false))))
def sorobanlaw05_BinaryPlaces.f (k : Nat) (a0 : Int) (a1_0 : Int) (a1_1 : Int) : Option (Bool) := (sorobanlaw05_which.f a0).bind fun t102 => ((sorobanlaw05_cut.f t102 a1_0 a1_1).bind fun bt103 => ((binary_Decode.f t102 bt103.1 bt103.2).bind fun bt105 => ((binary_Index.f bt105.1 bt105.2.1 bt105.2.2.1 bt105.2.2.2.1 bt105.2.2.2.2.1).bind fun bt114 => (if bt114.2.2 = 0 then (if bt105.2.2.1 = true then (sorobanlaw05_BinaryPlaces.j0 k true bt105.1 bt105.2.1 bt105.2.2.1 bt105.2.2.2.1 bt105.2.2.2.2.1 bt114.1 bt114.2.1) else (sorobanlaw05_BinaryPlaces.j0 k (t102 == 4) bt105.1 bt105.2.1 bt105.2.2.1 bt105.2.2.2.1 bt105.2.2.2.2.1 bt114.1 bt114.2.1)) else (sorobanlaw05_BinaryPlaces.j0 k true bt105.1 bt105.2.1 bt105.2.2.1 bt105.2.2.2.1 bt105.2.2.2.2.1 bt114.1 bt114.2.1)))))
theorem sorobanlaw05_BinaryPlaces.mono_l : ∀ k, (∀ y0 y1 y2 y3 y4 y5 y6 y7, LeO (sorobanlaw05_BinaryPlaces.j0 k y0 y1 y2 y3 y4 y5 y6 y7) (sorobanlaw05_BinaryPlaces.j0 (k + 1) y0 y1 y2 y3 y4 y5 y6 y7))
  | 0 => fun _ _ _ _ _ _ _ _ r h => by simp [sorobanlaw05_BinaryPlaces.j0] at h
  | k + 1 => by
    have ih0 := sorobanlaw05_BinaryPlaces.mono_l k
    · intro y0 y1 y2 y3 y4 y5 y6 y7
      unfold sorobanlaw05_BinaryPlaces.j0
      repeat' first
      | (with_reducible exact ih0 _ _ _ _ _ _ _ _)
      | (with_reducible exact LeO.refl _)
      | (with_reducible exact LeO.none _)
      | (with_reducible refine LeO.ite ?_ ?_)
      | (with_reducible refine LeO.bind ?_ (fun _ => ?_))
      | exact ih0 _ _ _ _ _ _ _ _
      | exact LeO.none _
      | refine LeO.ite ?_ ?_
      | refine LeO.bind ?_ (fun _ => ?_)
theorem sorobanlaw05_BinaryPlaces.mono : ∀ a0 a1 a2 k, LeO (sorobanlaw05_BinaryPlaces.f k a0 a1 a2) (sorobanlaw05_BinaryPlaces.f (k + 1) a0 a1 a2) := by
  intro a0 a1 a2 k
  have ih0 := sorobanlaw05_BinaryPlaces.mono_l k
  unfold sorobanlaw05_BinaryPlaces.f
  repeat' first
      | (with_reducible exact ih0 _ _ _ _ _ _ _ _)
      | (with_reducible exact LeO.refl _)
      | (with_reducible exact LeO.none _)
      | (with_reducible refine LeO.ite ?_ ?_)
      | (with_reducible refine LeO.bind ?_ (fun _ => ?_))
      | exact ih0 _ _ _ _ _ _ _ _
      | exact LeO.none _
      | refine LeO.ite ?_ ?_
      | refine LeO.bind ?_ (fun _ => ?_)
def sorobanlaw05_BinaryPlaces.T7 : Bool × List (List Nat × List Nat) := (true, [([], []), ([0, 0], [0]), ([1], [1]), ([2, 1], [1, 2]), ([1, 3], [1, 3]), ([4, 1], [4]), ([5], [5]), ([6, 5], [5, 6]), ([5], [5]), ([8, 5, 5], [5, 8]), ([7, 9, 9, 5], [5, 7, 9]), ([5, 10], [5, 10]), ([11, 10], [11]), ([12], [12]), ([13, 12], [12, 13]), ([14, 12], [12, 14]), ([12, 15], [12, 15]), ([16, 12, 0, 1, 2, 3, 4, 5, 6, 7, 8, 9, 10, 11, 12, 13, 14, 15, 16], [16])])
def sorobanlaw05_BinaryPlaces.B7 : List Nat := [0, 1, 3, 7, 15, 31, 63, 127, 63, 319, 1023, 2047, 4095, 8191, 16383, 32767, 65535, 131071]
theorem sorobanlaw05_BinaryPlaces.tab7 : rtab .any (opsOf Tryd.f4 7) = sorobanlaw05_BinaryPlaces.T7 := by kernel_rfl
theorem sorobanlaw05_BinaryPlaces.bits7 : waitsOk sorobanlaw05_BinaryPlaces.T7.2 sorobanlaw05_BinaryPlaces.B7 = true := by kernel_rfl
set_option maxHeartbeats 8000000 in
set_option maxRecDepth 100000 in
theorem sorobanlaw05_BinaryPlaces.calls (k : Nat) (a0 : Int) (a1_0 : Int) (a1_1 : Int) (r : Bool) (w : World) (h : sorobanlaw05_BinaryPlaces.f k a0 a1_0 a1_1 = some r) (hT : Tab w) :
    Calls Tryd.prog 4 #[.int .u8 a0, .agg #[.int .u64 a1_0, .int .u64 a1_1]] w fun e w' => e = .returned (.bool r) ∧ Below w.heap.size w w' := by
  have hu28 := Tryd.underlying28
  have hu25 := Tryd.underlying25
  have hu48 := Tryd.underlying48
  have HTAB := Aside0.mk hT
  clear hT
  have HB := Aside0.mk (Below.refl w.heap.size w)
  have H : ((sorobanlaw05_which.f a0).bind fun t102 => ((sorobanlaw05_cut.f t102 a1_0 a1_1).bind fun bt103 => ((binary_Decode.f t102 bt103.1 bt103.2).bind fun bt105 => ((binary_Index.f bt105.1 bt105.2.1 bt105.2.2.1 bt105.2.2.2.1 bt105.2.2.2.2.1).bind fun bt114 => (if bt114.2.2 = 0 then (if bt105.2.2.1 = true then (sorobanlaw05_BinaryPlaces.j0 k true bt105.1 bt105.2.1 bt105.2.2.1 bt105.2.2.2.1 bt105.2.2.2.2.1 bt114.1 bt114.2.1) else (sorobanlaw05_BinaryPlaces.j0 k (t102 == 4) bt105.1 bt105.2.1 bt105.2.2.1 bt105.2.2.2.1 bt105.2.2.2.2.1 bt114.1 bt114.2.1)) else (sorobanlaw05_BinaryPlaces.j0 k true bt105.1 bt105.2.1 bt105.2.2.1 bt105.2.2.2.1 bt105.2.2.2.2.1 bt114.1 bt114.2.1)))))) = some r := h
  clear h
  replace H := Option.bind_eq_some_iff.mp H
  obtain ⟨t102, A30, H⟩ := H
  replace H : ((sorobanlaw05_cut.f t102 a1_0 a1_1).bind fun bt103 => ((binary_Decode.f t102 bt103.1 bt103.2).bind fun bt105 => ((binary_Index.f bt105.1 bt105.2.1 bt105.2.2.1 bt105.2.2.2.1 bt105.2.2.2.2.1).bind fun bt114 => (if bt114.2.2 = 0 then (if bt105.2.2.1 = true then (sorobanlaw05_BinaryPlaces.j0 k true bt105.1 bt105.2.1 bt105.2.2.1 bt105.2.2.2.1 bt105.2.2.2.2.1 bt114.1 bt114.2.1) else (sorobanlaw05_BinaryPlaces.j0 k (t102 == 4) bt105.1 bt105.2.1 bt105.2.2.1 bt105.2.2.2.1 bt105.2.2.2.2.1 bt114.1 bt114.2.1)) else (sorobanlaw05_BinaryPlaces.j0 k true bt105.1 bt105.2.1 bt105.2.2.1 bt105.2.2.2.1 bt105.2.2.2.2.1 bt114.1 bt114.2.1))))) = some r := H
  have A3 := Aside0.mk A30
  clear A30
  replace H := Option.bind_eq_some_iff.mp H
  obtain ⟨⟨t103, t104⟩, A40, H⟩ := H
  replace H : ((binary_Decode.f t102 t103 t104).bind fun bt105 => ((binary_Index.f bt105.1 bt105.2.1 bt105.2.2.1 bt105.2.2.2.1 bt105.2.2.2.2.1).bind fun bt114 => (if bt114.2.2 = 0 then (if bt105.2.2.1 = true then (sorobanlaw05_BinaryPlaces.j0 k true bt105.1 bt105.2.1 bt105.2.2.1 bt105.2.2.2.1 bt105.2.2.2.2.1 bt114.1 bt114.2.1) else (sorobanlaw05_BinaryPlaces.j0 k (t102 == 4) bt105.1 bt105.2.1 bt105.2.2.1 bt105.2.2.2.1 bt105.2.2.2.2.1 bt114.1 bt114.2.1)) else (sorobanlaw05_BinaryPlaces.j0 k true bt105.1 bt105.2.1 bt105.2.2.1 bt105.2.2.2.1 bt105.2.2.2.2.1 bt114.1 bt114.2.1)))) = some r := H
  have A4 := Aside0.mk A40
  clear A40
  replace H := Option.bind_eq_some_iff.mp H
  obtain ⟨⟨t105, t106, t107, t108, t111, t112⟩, A50, H⟩ := H
  replace H : ((binary_Index.f t105 t106 t107 t108 t111).bind fun bt114 => (if bt114.2.2 = 0 then (if t107 = true then (sorobanlaw05_BinaryPlaces.j0 k true t105 t106 t107 t108 t111 bt114.1 bt114.2.1) else (sorobanlaw05_BinaryPlaces.j0 k (t102 == 4) t105 t106 t107 t108 t111 bt114.1 bt114.2.1)) else (sorobanlaw05_BinaryPlaces.j0 k true t105 t106 t107 t108 t111 bt114.1 bt114.2.1))) = some r := H
  have A5 := Aside0.mk A50
  clear A50
  replace H := Option.bind_eq_some_iff.mp H
  obtain ⟨⟨t114, t115, t118⟩, A60, H⟩ := H
  replace H : (if t118 = 0 then (if t107 = true then (sorobanlaw05_BinaryPlaces.j0 k true t105 t106 t107 t108 t111 t114 t115) else (sorobanlaw05_BinaryPlaces.j0 k (t102 == 4) t105 t106 t107 t108 t111 t114 t115)) else (sorobanlaw05_BinaryPlaces.j0 k true t105 t106 t107 t108 t111 t114 t115)) = some r := H
  have A6 := Aside0.mk A60
  clear A60
  have HC7 := Aside0.mk H
  clear H
  go_enter Tryd.func4, Tryd.ntmps4
  go_upto_region 4 with (first | ((with_reducible refine gate_dst (N := 3) rfl ?_); refine box_event ?hg (N := 3) ?hd (cs := #[.int .u64 a1_0, .int .u64 a1_1]) (t := 28) ?hr ?_; (case hd => rfl); (case hg => rfl); (case hr => first | (go_simp; done) | (go_simp; rfl)); intro gb101 hg w8 hbox hb; have n0_ := Aside0.mk (below_step (zb HB.out) hb); have n1_ := Aside0.mk (hbox); have n2_ := Aside0.mk ((by rw [hg]; exact (below_size (zb HB.out)) : w.heap.size ≤ gb101)); have n3_ := Aside0.mk ((by rw [hg]; exact (below_size (zb HB.out)) : w.heap.size ≤ gb101)); clear HB; have HB := n0_; have BK101 := n1_; have GW101 := n2_; have GE101 := n3_; clear n0_ n1_ n2_ n3_; clear hb hbox hg) | ((with_reducible refine gate_callee (f := 21) rfl ?_); refine goesL_ (some 13) rfl rfl Tryd.func21 (by kernel_rfl) rfl #[.int .u8 a0] rfl zm ?_; (with_reducible refine (sorobanlaw05_which.calls a0 t102 _ A3.out).mono ?_); rintro e w9 ⟨rfl, hb⟩; refine ⟨_, rfl, ?_⟩; have n0_ := Aside0.mk (blk_below (g := gb101) (o := .cells #[.int .u64 a1_0, .int .u64 a1_1] 28 (0, 0)) (zk BK101.out) hb); have n1_ := Aside0.mk (below_step (zb HB.out) hb); clear BK101; clear HB; have BK101 := n0_; have HB := n1_; clear n0_ n1_; (try clear hb); (try clear hb2); (try clear hk); (try clear hi); have hcz10_0 : w9.cell? ⟨gb101, 0, none⟩ = some (.int .u64 a1_0) := (blk_cell BK101.out 0).trans rfl; have hcz10_1 : w9.cell? ⟨gb101, 1, none⟩ = some (.int .u64 a1_1) := (blk_cell BK101.out 1).trans rfl; have hfz10_0 := blk_frozen BK101.out 0; have hfz10_1 := blk_frozen BK101.out 1) | ((with_reducible refine gate_callee (f := 22) rfl ?_); refine goesL_ (some 18) rfl rfl Tryd.func22 (by kernel_rfl) rfl #[.int .i64 t102, .agg #[.int .u64 a1_0, .int .u64 a1_1]] rfl zm ?_; (with_reducible refine (sorobanlaw05_cut.calls t102 a1_0 a1_1 t103 t104 _ A4.out).mono ?_); rintro e w11 ⟨rfl, hb⟩; refine ⟨_, rfl, ?_⟩; have n0_ := Aside0.mk (blk_below (g := gb101) (o := .cells #[.int .u64 a1_0, .int .u64 a1_1] 28 (0, 0)) (zk BK101.out) hb); have n1_ := Aside0.mk (below_step (zb HB.out) hb); clear BK101; clear HB; have BK101 := n0_; have HB := n1_; clear n0_ n1_; (try clear hb); (try clear hb2); (try clear hk); (try clear hi)) | ((with_reducible refine gate_callee (f := 15) rfl ?_); refine goesL_ (some 19) rfl rfl Tryd.func15 (by kernel_rfl) rfl #[.int .i64 t102, .agg #[.int .u64 t103, .int .u64 t104]] rfl zm ?_; (with_reducible refine (binary_Decode.calls t102 t103 t104 t105 t106 t107 t108 t111 t112 _ A5.out).mono ?_); rintro e w12 ⟨v109, rfl, ho0, hb⟩; refine ⟨_, rfl, ?_⟩; have n0_ := Aside0.mk (Kd.R_lower ho0 (below_size (zb HB.out))); have n1_ := Aside0.mk (blk_below (g := gb101) (o := .cells #[.int .u64 a1_0, .int .u64 a1_1] 28 (0, 0)) (zk BK101.out) hb); have n2_ := Aside0.mk (below_step (zb HB.out) hb); clear BK101; clear HB; have HO110 := n0_; have BK101 := n1_; have HB := n2_; clear n0_ n1_ n2_; (try clear hb); (try clear hb2); (try clear hk); (try clear hi); (try clear ho0)) | ((with_reducible refine gate_dst (N := 6) rfl ?_); refine box_event ?hg (N := 6) ?hd (cs := #[.int .i64 0, .int .i64 0, .bool false, .slice none 0 0, .int .i64 0]) (t := 25) ?hr ?_; (case hd => rfl); (case hg => rfl); (case hr => first | (go_simp; done) | (go_simp; rfl)); intro gb113 hg w13 hbox hb; have n0_ := Aside0.mk (Kd.R_below (zr HO110.out) hb); have n1_ := Aside0.mk (blk_below (g := gb101) (o := .cells #[.int .u64 a1_0, .int .u64 a1_1] 28 (0, 0)) (zk BK101.out) hb); have n2_ := Aside0.mk (below_step (zb HB.out) hb); have n3_ := Aside0.mk (hbox); have n4_ := Aside0.mk ((by rw [hg]; exact (below_size (zb HB.out)) : w.heap.size ≤ gb113)); have n5_ := Aside0.mk ((by rw [hg]; exact (below_size (zb HB.out)) : w.heap.size ≤ gb113)); have n6_ := Aside0.mk ((by rw [hg]; exact Nat.ne_of_lt (blk_lt (g := gb101) (o := .cells #[.int .u64 a1_0, .int .u64 a1_1] 28 (0, 0)) (zk BK101.out)) : gb101 ≠ gb113)); have n7_ := Aside0.mk ((by rw [hg]; exact Nat.ne_of_gt (blk_lt (g := gb101) (o := .cells #[.int .u64 a1_0, .int .u64 a1_1] 28 (0, 0)) (zk BK101.out)) : gb113 ≠ gb101)); clear HO110; clear BK101; clear HB; have HO110 := n0_; have BK101 := n1_; have HB := n2_; have BK113 := n3_; have GW113 := n4_; have GE113 := n5_; have NB101_113 := n6_; have NB113_101 := n7_; clear n0_ n1_ n2_ n3_ n4_ n5_ n6_ n7_; clear hb hbox hg; have hnb14 := NB113_101.out; have hnc14 := NB101_113.out; have hcz15_0 : w13.cell? ⟨gb113, 0, none⟩ = some (.int .i64 0) := (blk_cell BK113.out 0).trans rfl; have hcz15_1 : w13.cell? ⟨gb113, 1, none⟩ = some (.int .i64 0) := (blk_cell BK113.out 1).trans rfl; have hcz15_2 : w13.cell? ⟨gb113, 2, none⟩ = some (.bool false) := (blk_cell BK113.out 2).trans rfl; have hcz15_3 : w13.cell? ⟨gb113, 3, none⟩ = some (.slice none 0 0) := (blk_cell BK113.out 3).trans rfl; have hcz15_4 : w13.cell? ⟨gb113, 4, none⟩ = some (.int .i64 0) := (blk_cell BK113.out 4).trans rfl; have hfz15_0 := blk_frozen BK113.out 0; have hfz15_1 := blk_frozen BK113.out 1; have hfz15_2 := blk_frozen BK113.out 2; have hfz15_3 := blk_frozen BK113.out 3; have hfz15_4 := blk_frozen BK113.out 4; obtain ⟨Ao16, co16, eo16⟩ := Kd.R_slice HO110.out; subst eo16) | ((with_reducible refine gate_callee (f := 23) rfl ?_); refine goesL_ (some 24) rfl rfl Tryd.func23 (by kernel_rfl) rfl #[.agg #[.int .i64 t105, .int .i64 t106, .bool t107, .slice Ao16 t108.length co16, .int .i64 t111]] rfl zm ?_; (with_reducible refine (binary_Index.calls t105 t106 t107 _ _ t108 t111 t114 t115 t118 _ ?side1 ?side2 A6.out).mono ?_); (case side1 => refine (Kd.R_reads' (e := 77) (base := w.heap.size) (ok := fun k_ => True) (n := t108.length) (c := co16) ?_).2.2; exact (by (with_reducible repeat (first | apply Kd.R_alloc | apply Kd.R_drewN | apply Kd.R_drew)); exact (Kd.R_mono (Kd.R_far (p := ⟨gb113, 4, none⟩) (Kd.R_far (p := ⟨gb113, 3, none⟩) (Kd.R_far (p := ⟨gb113, 2, none⟩) (Kd.R_far (p := ⟨gb113, 1, none⟩) (Kd.R_far (p := ⟨gb113, 0, none⟩) (Kd.R_types HO110.out BK113.out (by decide)) (fun _ hk => hk.2) (.int .i64 t105)) (fun _ hk => hk.2) (.int .i64 t106)) (fun _ hk => hk.2) (.bool t107)) (fun _ hk => hk.2) (.slice Ao16 t108.length co16)) (fun _ hk => hk.2) (.int .i64 t111)) (fun _ h_ => h_.1)))); (case side2 => exact (Kd.R_reads' HO110.out).2.1); rintro e w17 ⟨v116, rfl, ho0, hb⟩; refine ⟨_, rfl, ?_⟩; have n0_ := Aside0.mk (Kd.R_elder' (by (with_reducible repeat (first | apply Kd.R_alloc | apply Kd.R_drewN | apply Kd.R_drew)); exact (Kd.R_mono (Kd.R_far (p := ⟨gb113, 4, none⟩) (Kd.R_far (p := ⟨gb113, 3, none⟩) (Kd.R_far (p := ⟨gb113, 2, none⟩) (Kd.R_far (p := ⟨gb113, 1, none⟩) (Kd.R_far (p := ⟨gb113, 0, none⟩) (Kd.R_types HO110.out BK113.out (by decide)) (fun _ hk => hk.2) (.int .i64 t105)) (fun _ hk => hk.2) (.int .i64 t106)) (fun _ hk => hk.2) (.bool t107)) (fun _ hk => hk.2) (.slice Ao16 t108.length co16)) (fun _ hk => hk.2) (.int .i64 t111)) (fun _ h_ => h_.1))) (Kd.R_base ho0) hb); have n1_ := Aside0.mk (Kd.R_lower (Kd.R_new' ho0 (Kd.R_lt (by (with_reducible repeat (first | apply Kd.R_alloc | apply Kd.R_drewN | apply Kd.R_drew)); exact (Kd.R_mono (Kd.R_far (p := ⟨gb113, 4, none⟩) (Kd.R_far (p := ⟨gb113, 3, none⟩) (Kd.R_far (p := ⟨gb113, 2, none⟩) (Kd.R_far (p := ⟨gb113, 1, none⟩) (Kd.R_far (p := ⟨gb113, 0, none⟩) (Kd.R_types HO110.out BK113.out (by decide)) (fun _ hk => hk.2) (.int .i64 t105)) (fun _ hk => hk.2) (.int .i64 t106)) (fun _ hk => hk.2) (.bool t107)) (fun _ hk => hk.2) (.slice Ao16 t108.length co16)) (fun _ hk => hk.2) (.int .i64 t111)) (fun _ h_ => h_.1))))) (below_size (zb HB.out))); have n2_ := Aside0.mk (blk_below (g := gb101) (o := .cells #[.int .u64 a1_0, .int .u64 a1_1] 28 (0, 0)) (by (with_reducible repeat (first | refine blk_drewN ?_ _ | refine blk_drew ?_ | refine blk_alloc ?_ _)); refine blk_far ?_ NB101_113.out _; (with_reducible repeat (first | refine blk_drewN ?_ _ | refine blk_drew ?_ | refine blk_alloc ?_ _)); refine blk_far ?_ NB101_113.out _; (with_reducible repeat (first | refine blk_drewN ?_ _ | refine blk_drew ?_ | refine blk_alloc ?_ _)); refine blk_far ?_ NB101_113.out _; (with_reducible repeat (first | refine blk_drewN ?_ _ | refine blk_drew ?_ | refine blk_alloc ?_ _)); refine blk_far ?_ NB101_113.out _; (with_reducible repeat (first | refine blk_drewN ?_ _ | refine blk_drew ?_ | refine blk_alloc ?_ _)); refine blk_far ?_ NB101_113.out _; (with_reducible repeat (first | refine blk_drewN ?_ _ | refine blk_drew ?_ | refine blk_alloc ?_ _)); exact BK101.out) hb); have n3_ := Aside0.mk (blk_below (g := gb113) (o := .cells #[.int .i64 t105, .int .i64 t106, .bool t107, .slice Ao16 t108.length co16, .int .i64 t111] 25 (0, 0)) (by (with_reducible repeat (first | refine blk_drewN ?_ _ | refine blk_drew ?_ | refine blk_alloc ?_ _)); refine blk_put (cs := #[.int .i64 t105, .int .i64 t106, .bool t107, .slice Ao16 t108.length co16, .int .i64 0]) ?_ 4 _ rfl; (with_reducible repeat (first | refine blk_drewN ?_ _ | refine blk_drew ?_ | refine blk_alloc ?_ _)); refine blk_put (cs := #[.int .i64 t105, .int .i64 t106, .bool t107, .slice none 0 0, .int .i64 0]) ?_ 3 _ rfl; (with_reducible repeat (first | refine blk_drewN ?_ _ | refine blk_drew ?_ | refine blk_alloc ?_ _)); refine blk_put (cs := #[.int .i64 t105, .int .i64 t106, .bool false, .slice none 0 0, .int .i64 0]) ?_ 2 _ rfl; (with_reducible repeat (first | refine blk_drewN ?_ _ | refine blk_drew ?_ | refine blk_alloc ?_ _)); refine blk_put (cs := #[.int .i64 t105, .int .i64 0, .bool false, .slice none 0 0, .int .i64 0]) ?_ 1 _ rfl; (with_reducible repeat (first | refine blk_drewN ?_ _ | refine blk_drew ?_ | refine blk_alloc ?_ _)); refine blk_put (cs := #[.int .i64 0, .int .i64 0, .bool false, .slice none 0 0, .int .i64 0]) ?_ 0 _ rfl; (with_reducible repeat (first | refine blk_drewN ?_ _ | refine blk_drew ?_ | refine blk_alloc ?_ _)); exact BK113.out) hb); have n4_ := Aside0.mk (below_step (zb HB.out) hb); clear HO110; clear BK101; clear BK113; clear HB; have HO110 := n0_; have HO117 := n1_; have BK101 := n2_; have BK113 := n3_; have HB := n4_; clear n0_ n1_ n2_ n3_ n4_; (try clear hb); (try clear hb2); (try clear hk); (try clear hi); (try clear ho0)) | ((with_reducible refine gate_dst (N := 8) rfl ?_); refine box_event ?hg (N := 8) ?hd (cs := #[.bool false, .slice none 0 0]) (t := 48) ?hr ?_; (case hd => rfl); (case hg => rfl); (case hr => first | (go_simp; done) | (go_simp; rfl)); intro gb119 hg w18 hbox hb; have n0_ := Aside0.mk (Kd.R_below (zr HO110.out) hb); have n1_ := Aside0.mk (Kd.R_below (zr HO117.out) hb); have n2_ := Aside0.mk (blk_below (g := gb101) (o := .cells #[.int .u64 a1_0, .int .u64 a1_1] 28 (0, 0)) (zk BK101.out) hb); have n3_ := Aside0.mk (blk_below (g := gb113) (o := .cells #[.int .i64 t105, .int .i64 t106, .bool t107, .slice Ao16 t108.length co16, .int .i64 t111] 25 (0, 0)) (zk BK113.out) hb); have n4_ := Aside0.mk (below_step (zb HB.out) hb); have n5_ := Aside0.mk (hbox); have n6_ := Aside0.mk ((by rw [hg]; exact (below_size (zb HB.out)) : w.heap.size ≤ gb119)); have n7_ := Aside0.mk ((by rw [hg]; exact (below_size (zb HB.out)) : w.heap.size ≤ gb119)); have n8_ := Aside0.mk ((by rw [hg]; exact Nat.ne_of_lt (blk_lt (g := gb101) (o := .cells #[.int .u64 a1_0, .int .u64 a1_1] 28 (0, 0)) (zk BK101.out)) : gb101 ≠ gb119)); have n9_ := Aside0.mk ((by rw [hg]; exact Nat.ne_of_gt (blk_lt (g := gb101) (o := .cells #[.int .u64 a1_0, .int .u64 a1_1] 28 (0, 0)) (zk BK101.out)) : gb119 ≠ gb101)); have n10_ := Aside0.mk ((by rw [hg]; exact Nat.ne_of_lt (blk_lt (g := gb113) (o := .cells #[.int .i64 t105, .int .i64 t106, .bool t107, .slice Ao16 t108.length co16, .int .i64 t111] 25 (0, 0)) (zk BK113.out)) : gb113 ≠ gb119)); have n11_ := Aside0.mk ((by rw [hg]; exact Nat.ne_of_gt (blk_lt (g := gb113) (o := .cells #[.int .i64 t105, .int .i64 t106, .bool t107, .slice Ao16 t108.length co16, .int .i64 t111] 25 (0, 0)) (zk BK113.out)) : gb119 ≠ gb113)); clear HO110; clear HO117; clear BK101; clear BK113; clear HB; have HO110 := n0_; have HO117 := n1_; have BK101 := n2_; have BK113 := n3_; have HB := n4_; have BK119 := n5_; have GW119 := n6_; have GE119 := n7_; have NB101_119 := n8_; have NB119_101 := n9_; have NB113_119 := n10_; have NB119_113 := n11_; clear n0_ n1_ n2_ n3_ n4_ n5_ n6_ n7_ n8_ n9_ n10_ n11_; clear hb hbox hg; have hnb19 := NB119_101.out; have hnc19 := NB101_119.out; have hnb20 := NB119_113.out; have hnc20 := NB113_119.out; have hcz21_0 : w18.cell? ⟨gb119, 0, none⟩ = some (.bool false) := (blk_cell BK119.out 0).trans rfl; have hcz21_1 : w18.cell? ⟨gb119, 1, none⟩ = some (.slice none 0 0) := (blk_cell BK119.out 1).trans rfl; have hfz21_0 := blk_frozen BK119.out 0; have hfz21_1 := blk_frozen BK119.out 1; obtain ⟨Ao22, co22, eo22⟩ := Kd.R_slice HO117.out; subst eo22))
  (try simp only [Act.put, List.setIfInBounds_toArray, List.set_cons_zero, List.set_cons_succ])
  go_cut [36] (fun v36 wc => ∃ (kq : Nat) (x36_6 : Bool), v36 = .bool x36_6 ∧ Aside0 (sorobanlaw05_BinaryPlaces.j0 kq x36_6 t105 t106 t107 t108 t111 t114 t115 = some r) ∧ Aside0 (kq ≤ k) ∧ Aside0 (Kd.R (Kd.int .u32) 77 wc w.heap.size (fun k_ => some k_ ≠ ((.slice Ao22 t115.length co22) : Value).ownBlock) (.slice Ao16 t108.length co16) t108) ∧ Aside0 (Kd.R (Kd.int .u32) 77 wc w.heap.size (fun k_ => some k_ ≠ ((.slice Ao16 t108.length co16) : Value).ownBlock) (.slice Ao22 t115.length co22) t115) ∧ Aside0 (wc.heap[gb101]? = some (.cells #[.int .u64 a1_0, .int .u64 a1_1] 28 (0, 0))) ∧ Aside0 (wc.heap[gb113]? = some (.cells #[.int .i64 t105, .int .i64 t106, .bool t107, (.slice Ao16 t108.length co16), .int .i64 t111] 25 (0, 0))) ∧ Aside0 (wc.heap[gb119]? = some (.cells #[.bool t114, (.slice Ao22 t115.length co22)] 48 (0, 0))) ∧ Aside0 (Below w.heap.size w wc))
  case first =>
    have H := HC7.out
    clear HC7
    by_cases c23 : t118 = 0
    · rw [if_pos c23] at H
      have c23b0 : (t118 == 0) = true := beq_iff_eq.mpr c23
      have c23b1 : (t118 != 0) = false := bne_eq_false_iff_eq.mpr c23
      clear c23
      (first | rw [c23b0] | (simp only [i64_w, i32_w]; rw [c23b0]) | skip)
      by_cases c24 : t107 = true
      · subst c24
        have H1 : (sorobanlaw05_BinaryPlaces.j0 k true t105 t106 true t108 t111 t114 t115) = some r := by rw [if_pos rfl] at H; exact H
        clear H
        have H := H1
        clear H1
        have H' := Aside0.mk H
        clear H
        have hnb25 := NB113_101.out
        have hnc25 := NB101_113.out
        have hnb26 := NB113_119.out
        have hnc26 := NB119_113.out
        have hcz27_0 : w18.cell? ⟨gb113, 0, none⟩ = some (.int .i64 t105) := (blk_cell BK113.out 0).trans rfl
        have hcz27_1 : w18.cell? ⟨gb113, 1, none⟩ = some (.int .i64 t106) := (blk_cell BK113.out 1).trans rfl
        have hcz27_2 : w18.cell? ⟨gb113, 2, none⟩ = some (.bool true) := (blk_cell BK113.out 2).trans rfl
        have hcz27_3 : w18.cell? ⟨gb113, 3, none⟩ = some (.slice Ao16 t108.length co16) := (blk_cell BK113.out 3).trans rfl
        have hcz27_4 : w18.cell? ⟨gb113, 4, none⟩ = some (.int .i64 t111) := (blk_cell BK113.out 4).trans rfl
        have hfz27_0 := blk_frozen BK113.out 0
        have hfz27_1 := blk_frozen BK113.out 1
        have hfz27_2 := blk_frozen BK113.out 2
        have hfz27_3 := blk_frozen BK113.out 3
        have hfz27_4 := blk_frozen BK113.out 4
        go_wp2
        go_meet
        case rel => exact ⟨_, (true), (by first | rfl | (simp; done) | (simp [*]; done) | (simp; omega)), H', ⟨by first | omega | exact Nat.le_refl _⟩, ⟨by (with_reducible repeat (first | apply Kd.R_alloc | apply Kd.R_drewN | apply Kd.R_drew)); exact Kd.R_mono (Kd.R_far (p := ⟨gb119, 1, none⟩) (Kd.R_far (p := ⟨gb119, 0, none⟩) (Kd.R_types HO110.out BK119.out (by decide)) (fun _ hk => hk.2) (.bool t114)) (fun _ hk => hk.2) (.slice Ao22 t115.length co22)) (fun _ hk => hk.1.2)⟩, ⟨by (with_reducible repeat (first | apply Kd.R_alloc | apply Kd.R_drewN | apply Kd.R_drew)); exact Kd.R_mono (Kd.R_far (p := ⟨gb119, 1, none⟩) (Kd.R_far (p := ⟨gb119, 0, none⟩) (Kd.R_types HO117.out BK119.out (by decide)) (fun _ hk => hk.2) (.bool t114)) (fun _ hk => hk.2) (.slice Ao22 t115.length co22)) (fun _ hk => hk.1.2)⟩, ⟨by (with_reducible repeat (first | refine blk_drewN ?_ _ | refine blk_drew ?_ | refine blk_alloc ?_ _)); refine blk_far ?_ NB101_119.out _; (with_reducible repeat (first | refine blk_drewN ?_ _ | refine blk_drew ?_ | refine blk_alloc ?_ _)); refine blk_far ?_ NB101_119.out _; (with_reducible repeat (first | refine blk_drewN ?_ _ | refine blk_drew ?_ | refine blk_alloc ?_ _)); exact BK101.out⟩, ⟨by (with_reducible repeat (first | refine blk_drewN ?_ _ | refine blk_drew ?_ | refine blk_alloc ?_ _)); refine blk_far ?_ NB113_119.out _; (with_reducible repeat (first | refine blk_drewN ?_ _ | refine blk_drew ?_ | refine blk_alloc ?_ _)); refine blk_far ?_ NB113_119.out _; (with_reducible repeat (first | refine blk_drewN ?_ _ | refine blk_drew ?_ | refine blk_alloc ?_ _)); exact BK113.out⟩, ⟨by (with_reducible repeat (first | refine blk_drewN ?_ _ | refine blk_drew ?_ | refine blk_alloc ?_ _)); refine blk_put (cs := #[.bool t114, .slice none 0 0]) ?_ 1 _ rfl; (with_reducible repeat (first | refine blk_drewN ?_ _ | refine blk_drew ?_ | refine blk_alloc ?_ _)); refine blk_put (cs := #[.bool false, .slice none 0 0]) ?_ 0 _ rfl; (with_reducible repeat (first | refine blk_drewN ?_ _ | refine blk_drew ?_ | refine blk_alloc ?_ _)); exact BK119.out⟩, ⟨zb HB.out⟩⟩
      · replace c24 := Bool.eq_false_iff.mpr c24
        subst c24
        have H1 : (sorobanlaw05_BinaryPlaces.j0 k (t102 == 4) t105 t106 false t108 t111 t114 t115) = some r := by rw [if_neg (show ¬ (false = true) by decide)] at H; exact H
        clear H
        have H := H1
        clear H1
        have H' := Aside0.mk H
        clear H
        have hnb28 := NB113_101.out
        have hnc28 := NB101_113.out
        have hnb29 := NB113_119.out
        have hnc29 := NB119_113.out
        have hcz30_0 : w18.cell? ⟨gb113, 0, none⟩ = some (.int .i64 t105) := (blk_cell BK113.out 0).trans rfl
        have hcz30_1 : w18.cell? ⟨gb113, 1, none⟩ = some (.int .i64 t106) := (blk_cell BK113.out 1).trans rfl
        have hcz30_2 : w18.cell? ⟨gb113, 2, none⟩ = some (.bool false) := (blk_cell BK113.out 2).trans rfl
        have hcz30_3 : w18.cell? ⟨gb113, 3, none⟩ = some (.slice Ao16 t108.length co16) := (blk_cell BK113.out 3).trans rfl
        have hcz30_4 : w18.cell? ⟨gb113, 4, none⟩ = some (.int .i64 t111) := (blk_cell BK113.out 4).trans rfl
        have hfz30_0 := blk_frozen BK113.out 0
        have hfz30_1 := blk_frozen BK113.out 1
        have hfz30_2 := blk_frozen BK113.out 2
        have hfz30_3 := blk_frozen BK113.out 3
        have hfz30_4 := blk_frozen BK113.out 4
        go_wp2
        go_meet
        case rel => exact ⟨_, ((t102 == 4)), (by first | rfl | (simp; done) | (simp [*]; done) | (simp; omega)), H', ⟨by first | omega | exact Nat.le_refl _⟩, ⟨by (with_reducible repeat (first | apply Kd.R_alloc | apply Kd.R_drewN | apply Kd.R_drew)); exact Kd.R_mono (Kd.R_far (p := ⟨gb119, 1, none⟩) (Kd.R_far (p := ⟨gb119, 0, none⟩) (Kd.R_types HO110.out BK119.out (by decide)) (fun _ hk => hk.2) (.bool t114)) (fun _ hk => hk.2) (.slice Ao22 t115.length co22)) (fun _ hk => hk.1.2)⟩, ⟨by (with_reducible repeat (first | apply Kd.R_alloc | apply Kd.R_drewN | apply Kd.R_drew)); exact Kd.R_mono (Kd.R_far (p := ⟨gb119, 1, none⟩) (Kd.R_far (p := ⟨gb119, 0, none⟩) (Kd.R_types HO117.out BK119.out (by decide)) (fun _ hk => hk.2) (.bool t114)) (fun _ hk => hk.2) (.slice Ao22 t115.length co22)) (fun _ hk => hk.1.2)⟩, ⟨by (with_reducible repeat (first | refine blk_drewN ?_ _ | refine blk_drew ?_ | refine blk_alloc ?_ _)); refine blk_far ?_ NB101_119.out _; (with_reducible repeat (first | refine blk_drewN ?_ _ | refine blk_drew ?_ | refine blk_alloc ?_ _)); refine blk_far ?_ NB101_119.out _; (with_reducible repeat (first | refine blk_drewN ?_ _ | refine blk_drew ?_ | refine blk_alloc ?_ _)); exact BK101.out⟩, ⟨by (with_reducible repeat (first | refine blk_drewN ?_ _ | refine blk_drew ?_ | refine blk_alloc ?_ _)); refine blk_far ?_ NB113_119.out _; (with_reducible repeat (first | refine blk_drewN ?_ _ | refine blk_drew ?_ | refine blk_alloc ?_ _)); refine blk_far ?_ NB113_119.out _; (with_reducible repeat (first | refine blk_drewN ?_ _ | refine blk_drew ?_ | refine blk_alloc ?_ _)); exact BK113.out⟩, ⟨by (with_reducible repeat (first | refine blk_drewN ?_ _ | refine blk_drew ?_ | refine blk_alloc ?_ _)); refine blk_put (cs := #[.bool t114, .slice none 0 0]) ?_ 1 _ rfl; (with_reducible repeat (first | refine blk_drewN ?_ _ | refine blk_drew ?_ | refine blk_alloc ?_ _)); refine blk_put (cs := #[.bool false, .slice none 0 0]) ?_ 0 _ rfl; (with_reducible repeat (first | refine blk_drewN ?_ _ | refine blk_drew ?_ | refine blk_alloc ?_ _)); exact BK119.out⟩, ⟨zb HB.out⟩⟩
    · rw [if_neg c23] at H
      have c23b0 : (t118 == 0) = false := beq_eq_false_iff_ne.mpr c23
      have c23b1 : (t118 != 0) = true := bne_iff_ne.mpr c23
      (first | rw [c23b0] | (simp only [i64_w, i32_w]; rw [c23b0]) | skip)
      have H' := Aside0.mk H
      clear H
      go_wp2
      go_meet
      case rel => exact ⟨_, (true), (by first | rfl | (simp; done) | (simp [*]; done) | (simp; omega)), H', ⟨by first | omega | exact Nat.le_refl _⟩, ⟨by (with_reducible repeat (first | apply Kd.R_alloc | apply Kd.R_drewN | apply Kd.R_drew)); exact Kd.R_mono (Kd.R_far (p := ⟨gb119, 1, none⟩) (Kd.R_far (p := ⟨gb119, 0, none⟩) (Kd.R_types HO110.out BK119.out (by decide)) (fun _ hk => hk.2) (.bool t114)) (fun _ hk => hk.2) (.slice Ao22 t115.length co22)) (fun _ hk => hk.1.2)⟩, ⟨by (with_reducible repeat (first | apply Kd.R_alloc | apply Kd.R_drewN | apply Kd.R_drew)); exact Kd.R_mono (Kd.R_far (p := ⟨gb119, 1, none⟩) (Kd.R_far (p := ⟨gb119, 0, none⟩) (Kd.R_types HO117.out BK119.out (by decide)) (fun _ hk => hk.2) (.bool t114)) (fun _ hk => hk.2) (.slice Ao22 t115.length co22)) (fun _ hk => hk.1.2)⟩, ⟨by (with_reducible repeat (first | refine blk_drewN ?_ _ | refine blk_drew ?_ | refine blk_alloc ?_ _)); refine blk_far ?_ NB101_119.out _; (with_reducible repeat (first | refine blk_drewN ?_ _ | refine blk_drew ?_ | refine blk_alloc ?_ _)); refine blk_far ?_ NB101_119.out _; (with_reducible repeat (first | refine blk_drewN ?_ _ | refine blk_drew ?_ | refine blk_alloc ?_ _)); exact BK101.out⟩, ⟨by (with_reducible repeat (first | refine blk_drewN ?_ _ | refine blk_drew ?_ | refine blk_alloc ?_ _)); refine blk_far ?_ NB113_119.out _; (with_reducible repeat (first | refine blk_drewN ?_ _ | refine blk_drew ?_ | refine blk_alloc ?_ _)); refine blk_far ?_ NB113_119.out _; (with_reducible repeat (first | refine blk_drewN ?_ _ | refine blk_drew ?_ | refine blk_alloc ?_ _)); exact BK113.out⟩, ⟨by (with_reducible repeat (first | refine blk_drewN ?_ _ | refine blk_drew ?_ | refine blk_alloc ?_ _)); refine blk_put (cs := #[.bool t114, .slice none 0 0]) ?_ 1 _ rfl; (with_reducible repeat (first | refine blk_drewN ?_ _ | refine blk_drew ?_ | refine blk_alloc ?_ _)); refine blk_put (cs := #[.bool false, .slice none 0 0]) ?_ 0 _ rfl; (with_reducible repeat (first | refine blk_drewN ?_ _ | refine blk_drew ?_ | refine blk_alloc ?_ _)); exact BK119.out⟩, ⟨zb HB.out⟩⟩
  case rest =>
    clear HC7
    try clear c1
    try clear c2
    try clear p2
    try clear c4
    try clear c14
    try clear c15
    try clear c19
    try clear c20
    try clear c21
    try clear c22
    try clear c23
    try clear c23b0
    try clear c23b1
    try clear c24
    try clear c25
    try clear c26
    try clear c28
    try clear c29
    try clear hcz10_0
    try clear hcz10_1
    try clear hcz15_0
    try clear hcz15_1
    try clear hcz15_2
    try clear hcz15_3
    try clear hcz15_4
    try clear hcz21_0
    try clear hcz21_1
    try clear hcz27_0
    try clear hcz27_1
    try clear hcz27_2
    try clear hcz27_3
    try clear hcz27_4
    try clear hcz30_0
    try clear hcz30_1
    try clear hcz30_2
    try clear hcz30_3
    try clear hcz30_4
    try clear hfz10_0
    try clear hfz10_1
    try clear hfz15_0
    try clear hfz15_1
    try clear hfz15_2
    try clear hfz15_3
    try clear hfz15_4
    try clear hfz21_0
    try clear hfz21_1
    try clear hfz27_0
    try clear hfz27_1
    try clear hfz27_2
    try clear hfz27_3
    try clear hfz27_4
    try clear hfz30_0
    try clear hfz30_1
    try clear hfz30_2
    try clear hfz30_3
    try clear hfz30_4
    obtain ⟨kq, x36_6, rfl, HA, HJ6, HO_114003, HO_120001, BK101, BK113, BK119, HB⟩ := hcut
    cases kq with
    | zero => exact absurd HA.out (by simp [sorobanlaw05_BinaryPlaces.j0])
    | succ kj6 =>
      have H := HA.out
      clear HA
      simp only [sorobanlaw05_BinaryPlaces.j0] at H
      by_cases c31 : x36_6 = true
      · subst c31
        have H1 : ((sorobanlaw05_sanity.f).bind fun t120 => (some t120)) = some r := by rw [if_pos rfl] at H; exact H
        clear H
        have H := H1
        clear H1
        replace H := Option.bind_eq_some_iff.mp H
        obtain ⟨t120, A320, H⟩ := H
        replace H : (some t120) = some r := H
        have A32 := Aside0.mk A320
        clear A320
        obtain rfl := Option.some.inj H
        go_wp2_with (first | ((with_reducible refine gate_callee (f := 11) rfl ?_); refine goesL_ (some 37) rfl rfl Tryd.func11 (by kernel_rfl) rfl #[] rfl zm ?_; (with_reducible refine (sorobanlaw05_sanity.calls  t120 _ A32.out (HTAB.out.below (zb HB.out))).mono ?_); rintro e w33 ⟨rfl, hb⟩; refine ⟨_, rfl, ?_⟩; have n0_ := Aside0.mk (Kd.R_below (zr HO_114003.out) hb); have n1_ := Aside0.mk (Kd.R_below (zr HO_120001.out) hb); have n2_ := Aside0.mk (blk_below (g := gb101) (o := .cells #[.int .u64 a1_0, .int .u64 a1_1] 28 (0, 0)) (zk BK101.out) hb); have n3_ := Aside0.mk (blk_below (g := gb113) (o := .cells #[.int .i64 t105, .int .i64 t106, .bool t107, .slice Ao16 t108.length co16, .int .i64 t111] 25 (0, 0)) (zk BK113.out) hb); have n4_ := Aside0.mk (blk_below (g := gb119) (o := .cells #[.bool t114, .slice Ao22 t115.length co22] 48 (0, 0)) (zk BK119.out) hb); have n5_ := Aside0.mk (below_step (zb HB.out) hb); clear HO_114003; clear HO_120001; clear BK101; clear BK113; clear BK119; clear HB; have HO_114003 := n0_; have HO_120001 := n1_; have BK101 := n2_; have BK113 := n3_; have BK119 := n4_; have HB := n5_; clear n0_ n1_ n2_ n3_ n4_ n5_; (try clear hb); (try clear hb2); (try clear hk); (try clear hi)))
        go_ret
        exact ⟨by first | rfl | (simp [errW_none, errW_some] <;> rfl) | (simp [*, errW_none, errW_some] <;> rfl), by repeat (first | (with_reducible first | exact HB.out | apply below_alloc | apply pw_below_drewN | apply below_drew1 | refine below_set ?_ GE101.out | refine below_set ?_ GE113.out | refine below_set ?_ GE119.out) | exact HB.out)⟩
      · replace c31 := Bool.eq_false_iff.mpr c31
        subst c31
        have H1 : ((binary_Encode.f t105 t106 t107 t108 t111).bind fun bt121 => ((sorobanlaw05_sanity.f).bind fun t125 => (if t125 = true then (if bt121.2.2 = 0 then ((sorobanref05_Nat.f bt121.1 bt121.2.1).bind fun t126 => ((sorobanref01_Same.f t115 t126).bind fun t129 => (if t129 = true then (some (!t114)) else (some false)))) else (some false)) else (some false)))) = some r := by rw [if_neg (show ¬ (false = true) by decide)] at H; exact H
        clear H
        have H := H1
        clear H1
        replace H := Option.bind_eq_some_iff.mp H
        obtain ⟨⟨t121, t122, t123⟩, A340, H⟩ := H
        replace H : ((sorobanlaw05_sanity.f).bind fun t125 => (if t125 = true then (if t123 = 0 then ((sorobanref05_Nat.f t121 t122).bind fun t126 => ((sorobanref01_Same.f t115 t126).bind fun t129 => (if t129 = true then (some (!t114)) else (some false)))) else (some false)) else (some false))) = some r := H
        have A34 := Aside0.mk A340
        clear A340
        replace H := Option.bind_eq_some_iff.mp H
        obtain ⟨t125, A350, H⟩ := H
        replace H : (if t125 = true then (if t123 = 0 then ((sorobanref05_Nat.f t121 t122).bind fun t126 => ((sorobanref01_Same.f t115 t126).bind fun t129 => (if t129 = true then (some (!t114)) else (some false)))) else (some false)) else (some false)) = some r := H
        have A35 := Aside0.mk A350
        clear A350
        by_cases c36 : t125 = true
        · subst c36
          have H1 : (if t123 = 0 then ((sorobanref05_Nat.f t121 t122).bind fun t126 => ((sorobanref01_Same.f t115 t126).bind fun t129 => (if t129 = true then (some (!t114)) else (some false)))) else (some false)) = some r := by rw [if_pos rfl] at H; exact H
          clear H
          have H := H1
          clear H1
          by_cases c37 : t123 = 0
          · rw [if_pos c37] at H
            have c37b0 : (t123 == 0) = true := beq_iff_eq.mpr c37
            have c37b1 : (t123 != 0) = false := bne_eq_false_iff_eq.mpr c37
            clear c37
            replace H := Option.bind_eq_some_iff.mp H
            obtain ⟨t126, A380, H⟩ := H
            replace H : ((sorobanref01_Same.f t115 t126).bind fun t129 => (if t129 = true then (some (!t114)) else (some false))) = some r := H
            have A38 := Aside0.mk A380
            clear A380
            replace H := Option.bind_eq_some_iff.mp H
            obtain ⟨t129, A390, H⟩ := H
            replace H : (if t129 = true then (some (!t114)) else (some false)) = some r := H
            have A39 := Aside0.mk A390
            clear A390
            by_cases c40 : t129 = true
            · subst c40
              have H1 : (some (!t114)) = some r := by rw [if_pos rfl] at H; exact H
              clear H
              have H := H1
              clear H1
              obtain rfl := Option.some.inj H
              have hnb41 := NB113_101.out
              have hnc41 := NB101_113.out
              have hnb42 := NB113_119.out
              have hnc42 := NB119_113.out
              have hcz43_0 : wc.cell? ⟨gb113, 0, none⟩ = some (.int .i64 t105) := (blk_cell BK113.out 0).trans rfl
              have hcz43_1 : wc.cell? ⟨gb113, 1, none⟩ = some (.int .i64 t106) := (blk_cell BK113.out 1).trans rfl
              have hcz43_2 : wc.cell? ⟨gb113, 2, none⟩ = some (.bool t107) := (blk_cell BK113.out 2).trans rfl
              have hcz43_3 : wc.cell? ⟨gb113, 3, none⟩ = some (.slice Ao16 t108.length co16) := (blk_cell BK113.out 3).trans rfl
              have hcz43_4 : wc.cell? ⟨gb113, 4, none⟩ = some (.int .i64 t111) := (blk_cell BK113.out 4).trans rfl
              have hfz43_0 := blk_frozen BK113.out 0
              have hfz43_1 := blk_frozen BK113.out 1
              have hfz43_2 := blk_frozen BK113.out 2
              have hfz43_3 := blk_frozen BK113.out 3
              have hfz43_4 := blk_frozen BK113.out 4
              try go_wp2_with (first | ((with_reducible refine gate_callee (f := 12) rfl ?_); refine goesL_ (some 40) rfl rfl Tryd.func12 (by kernel_rfl) rfl #[.agg #[.int .i64 t105, .int .i64 t106, .bool t107, .slice Ao16 t108.length co16, .int .i64 t111]] rfl zm ?_; (with_reducible refine (binary_Encode.calls t105 t106 t107 _ _ t108 t111 t121 t122 t123 _ ?side1 ?side2 A34.out).mono ?_); (case side1 => repeat (first | exact (Kd.R_reads' HO_114003.out).2.2 | (with_reducible refine Kd.C_alloc ?_ _) | (with_reducible refine Kd.C_drewN ?_ _) | (with_reducible refine Kd.C_drew ?_))); (case side2 => exact (Kd.R_reads' HO_114003.out).2.1); rintro e w44 ⟨rfl, hb⟩; refine ⟨_, rfl, ?_⟩; have n0_ := Aside0.mk (Kd.R_below (zr HO_114003.out) hb); have n1_ := Aside0.mk (Kd.R_below (zr HO_120001.out) hb); have n2_ := Aside0.mk (blk_below (g := gb101) (o := .cells #[.int .u64 a1_0, .int .u64 a1_1] 28 (0, 0)) (zk BK101.out) hb); have n3_ := Aside0.mk (blk_below (g := gb113) (o := .cells #[.int .i64 t105, .int .i64 t106, .bool t107, .slice Ao16 t108.length co16, .int .i64 t111] 25 (0, 0)) (zk BK113.out) hb); have n4_ := Aside0.mk (blk_below (g := gb119) (o := .cells #[.bool t114, .slice Ao22 t115.length co22] 48 (0, 0)) (zk BK119.out) hb); have n5_ := Aside0.mk (below_step (zb HB.out) hb); clear HO_114003; clear HO_120001; clear BK101; clear BK113; clear BK119; clear HB; have HO_114003 := n0_; have HO_120001 := n1_; have BK101 := n2_; have BK113 := n3_; have BK119 := n4_; have HB := n5_; clear n0_ n1_ n2_ n3_ n4_ n5_; (try clear hb); (try clear hb2); (try clear hk); (try clear hi)) | ((with_reducible refine gate_dst (N := 10) rfl ?_); refine box_event ?hg (N := 10) ?hd (cs := #[.int .u64 0, .int .u64 0]) (t := 28) ?hr ?_; (case hd => rfl); (case hg => rfl); (case hr => first | (go_simp; done) | (go_simp; rfl)); intro gb124 hg w45 hbox hb; have n0_ := Aside0.mk (Kd.R_below (zr HO_114003.out) hb); have n1_ := Aside0.mk (Kd.R_below (zr HO_120001.out) hb); have n2_ := Aside0.mk (blk_below (g := gb101) (o := .cells #[.int .u64 a1_0, .int .u64 a1_1] 28 (0, 0)) (zk BK101.out) hb); have n3_ := Aside0.mk (blk_below (g := gb113) (o := .cells #[.int .i64 t105, .int .i64 t106, .bool t107, .slice Ao16 t108.length co16, .int .i64 t111] 25 (0, 0)) (zk BK113.out) hb); have n4_ := Aside0.mk (blk_below (g := gb119) (o := .cells #[.bool t114, .slice Ao22 t115.length co22] 48 (0, 0)) (zk BK119.out) hb); have n5_ := Aside0.mk (below_step (zb HB.out) hb); have n6_ := Aside0.mk (hbox); have n7_ := Aside0.mk ((by rw [hg]; exact (below_size (zb HB.out)) : w.heap.size ≤ gb124)); have n8_ := Aside0.mk ((by rw [hg]; exact (below_size (zb HB.out)) : w.heap.size ≤ gb124)); have n9_ := Aside0.mk ((by rw [hg]; exact Nat.ne_of_lt (blk_lt (g := gb101) (o := .cells #[.int .u64 a1_0, .int .u64 a1_1] 28 (0, 0)) (zk BK101.out)) : gb101 ≠ gb124)); have n10_ := Aside0.mk ((by rw [hg]; exact Nat.ne_of_gt (blk_lt (g := gb101) (o := .cells #[.int .u64 a1_0, .int .u64 a1_1] 28 (0, 0)) (zk BK101.out)) : gb124 ≠ gb101)); have n11_ := Aside0.mk ((by rw [hg]; exact Nat.ne_of_lt (blk_lt (g := gb113) (o := .cells #[.int .i64 t105, .int .i64 t106, .bool t107, .slice Ao16 t108.length co16, .int .i64 t111] 25 (0, 0)) (zk BK113.out)) : gb113 ≠ gb124)); have n12_ := Aside0.mk ((by rw [hg]; exact Nat.ne_of_gt (blk_lt (g := gb113) (o := .cells #[.int .i64 t105, .int .i64 t106, .bool t107, .slice Ao16 t108.length co16, .int .i64 t111] 25 (0, 0)) (zk BK113.out)) : gb124 ≠ gb113)); have n13_ := Aside0.mk ((by rw [hg]; exact Nat.ne_of_lt (blk_lt (g := gb119) (o := .cells #[.bool t114, .slice Ao22 t115.length co22] 48 (0, 0)) (zk BK119.out)) : gb119 ≠ gb124)); have n14_ := Aside0.mk ((by rw [hg]; exact Nat.ne_of_gt (blk_lt (g := gb119) (o := .cells #[.bool t114, .slice Ao22 t115.length co22] 48 (0, 0)) (zk BK119.out)) : gb124 ≠ gb119)); clear HO_114003; clear HO_120001; clear BK101; clear BK113; clear BK119; clear HB; have HO_114003 := n0_; have HO_120001 := n1_; have BK101 := n2_; have BK113 := n3_; have BK119 := n4_; have HB := n5_; have BK124 := n6_; have GW124 := n7_; have GE124 := n8_; have NB101_124 := n9_; have NB124_101 := n10_; have NB113_124 := n11_; have NB124_113 := n12_; have NB119_124 := n13_; have NB124_119 := n14_; clear n0_ n1_ n2_ n3_ n4_ n5_ n6_ n7_ n8_ n9_ n10_ n11_ n12_ n13_ n14_; clear hb hbox hg; have hnb46 := NB124_101.out; have hnc46 := NB101_124.out; have hnb47 := NB124_113.out; have hnc47 := NB113_124.out; have hnb48 := NB124_119.out; have hnc48 := NB119_124.out; have hcz49_0 : w45.cell? ⟨gb124, 0, none⟩ = some (.int .u64 0) := (blk_cell BK124.out 0).trans rfl; have hcz49_1 : w45.cell? ⟨gb124, 1, none⟩ = some (.int .u64 0) := (blk_cell BK124.out 1).trans rfl; have hfz49_0 := blk_frozen BK124.out 0; have hfz49_1 := blk_frozen BK124.out 1))
              have n0_ : Aside0 (Kd.R (Kd.int .u32) 77 ((w45.setCell ⟨gb124, 0, none⟩ (.int .u64 t121)).setCell ⟨gb124, 1, none⟩ (.int .u64 t122)) w.heap.size (fun k_ => some k_ ≠ (.slice Ao22 t115.length co22 : Value).ownBlock) (.slice Ao16 t108.length co16) t108) := ⟨by (with_reducible repeat (first | apply Kd.R_alloc | apply Kd.R_drewN | apply Kd.R_drew)); exact Kd.R_mono (Kd.R_far (p := ⟨gb124, 1, none⟩) (Kd.R_far (p := ⟨gb124, 0, none⟩) (Kd.R_types HO_114003.out BK124.out (by decide)) (fun _ hk => hk.2) (.int .u64 t121)) (fun _ hk => hk.2) (.int .u64 t122)) (fun _ hk => hk.1)⟩
              have n1_ : Aside0 (Kd.R (Kd.int .u32) 77 ((w45.setCell ⟨gb124, 0, none⟩ (.int .u64 t121)).setCell ⟨gb124, 1, none⟩ (.int .u64 t122)) w.heap.size (fun k_ => some k_ ≠ (.slice Ao16 t108.length co16 : Value).ownBlock) (.slice Ao22 t115.length co22) t115) := ⟨by (with_reducible repeat (first | apply Kd.R_alloc | apply Kd.R_drewN | apply Kd.R_drew)); exact Kd.R_mono (Kd.R_far (p := ⟨gb124, 1, none⟩) (Kd.R_far (p := ⟨gb124, 0, none⟩) (Kd.R_types HO_120001.out BK124.out (by decide)) (fun _ hk => hk.2) (.int .u64 t121)) (fun _ hk => hk.2) (.int .u64 t122)) (fun _ hk => hk.1)⟩
              have n2_ : Aside0 (((w45.setCell ⟨gb124, 0, none⟩ (.int .u64 t121)).setCell ⟨gb124, 1, none⟩ (.int .u64 t122)).heap[gb101]? = some (.cells #[.int .u64 a1_0, .int .u64 a1_1] 28 (0, 0))) := ⟨by (with_reducible repeat (first | refine blk_drewN ?_ _ | refine blk_drew ?_ | refine blk_alloc ?_ _)); refine blk_far ?_ NB101_124.out _; (with_reducible repeat (first | refine blk_drewN ?_ _ | refine blk_drew ?_ | refine blk_alloc ?_ _)); refine blk_far ?_ NB101_124.out _; (with_reducible repeat (first | refine blk_drewN ?_ _ | refine blk_drew ?_ | refine blk_alloc ?_ _)); exact BK101.out⟩
              have n3_ : Aside0 (((w45.setCell ⟨gb124, 0, none⟩ (.int .u64 t121)).setCell ⟨gb124, 1, none⟩ (.int .u64 t122)).heap[gb113]? = some (.cells #[.int .i64 t105, .int .i64 t106, .bool t107, .slice Ao16 t108.length co16, .int .i64 t111] 25 (0, 0))) := ⟨by (with_reducible repeat (first | refine blk_drewN ?_ _ | refine blk_drew ?_ | refine blk_alloc ?_ _)); refine blk_far ?_ NB113_124.out _; (with_reducible repeat (first | refine blk_drewN ?_ _ | refine blk_drew ?_ | refine blk_alloc ?_ _)); refine blk_far ?_ NB113_124.out _; (with_reducible repeat (first | refine blk_drewN ?_ _ | refine blk_drew ?_ | refine blk_alloc ?_ _)); exact BK113.out⟩
              have n4_ : Aside0 (((w45.setCell ⟨gb124, 0, none⟩ (.int .u64 t121)).setCell ⟨gb124, 1, none⟩ (.int .u64 t122)).heap[gb119]? = some (.cells #[.bool t114, .slice Ao22 t115.length co22] 48 (0, 0))) := ⟨by (with_reducible repeat (first | refine blk_drewN ?_ _ | refine blk_drew ?_ | refine blk_alloc ?_ _)); refine blk_far ?_ NB119_124.out _; (with_reducible repeat (first | refine blk_drewN ?_ _ | refine blk_drew ?_ | refine blk_alloc ?_ _)); refine blk_far ?_ NB119_124.out _; (with_reducible repeat (first | refine blk_drewN ?_ _ | refine blk_drew ?_ | refine blk_alloc ?_ _)); exact BK119.out⟩
              have n5_ : Aside0 (((w45.setCell ⟨gb124, 0, none⟩ (.int .u64 t121)).setCell ⟨gb124, 1, none⟩ (.int .u64 t122)).heap[gb124]? = some (.cells #[.int .u64 t121, .int .u64 t122] 28 (0, 0))) := ⟨by (with_reducible repeat (first | refine blk_drewN ?_ _ | refine blk_drew ?_ | refine blk_alloc ?_ _)); refine blk_put (cs := #[.int .u64 t121, .int .u64 0]) ?_ 1 _ rfl; (with_reducible repeat (first | refine blk_drewN ?_ _ | refine blk_drew ?_ | refine blk_alloc ?_ _)); refine blk_put (cs := #[.int .u64 0, .int .u64 0]) ?_ 0 _ rfl; (with_reducible repeat (first | refine blk_drewN ?_ _ | refine blk_drew ?_ | refine blk_alloc ?_ _)); exact BK124.out⟩
              have n6_ : Aside0 (Below w.heap.size w ((w45.setCell ⟨gb124, 0, none⟩ (.int .u64 t121)).setCell ⟨gb124, 1, none⟩ (.int .u64 t122))) := ⟨zb HB.out⟩
              (try clear HO_114003)
              (try clear HO_120001)
              (try clear BK101)
              (try clear BK113)
              (try clear BK119)
              (try clear BK124)
              (try clear HB)
              generalize ((w45.setCell ⟨gb124, 0, none⟩ (.int .u64 t121)).setCell ⟨gb124, 1, none⟩ (.int .u64 t122)) = w50 at n0_ n1_ n2_ n3_ n4_ n5_ n6_ ⊢
              have HO_114003 := n0_
              have HO_120001 := n1_
              have BK101 := n2_
              have BK113 := n3_
              have BK119 := n4_
              have BK124 := n5_
              have HB := n6_
              clear n0_ n1_ n2_ n3_ n4_ n5_ n6_
              have n0_ := Aside0.mk (Kd.R_drew HO_114003.out)
              have n1_ := Aside0.mk (Kd.R_drew HO_120001.out)
              have n2_ := Aside0.mk (blk_drew BK101.out)
              have n3_ := Aside0.mk (blk_drew BK113.out)
              have n4_ := Aside0.mk (blk_drew BK119.out)
              have n5_ := Aside0.mk (blk_drew BK124.out)
              have n6_ := Aside0.mk (below_drew1 HB.out)
              clear HO_114003
              clear HO_120001
              clear BK101
              clear BK113
              clear BK119
              clear BK124
              clear HB
              have HO_114003 := n0_
              have HO_120001 := n1_
              have BK101 := n2_
              have BK113 := n3_
              have BK119 := n4_
              have BK124 := n5_
              have HB := n6_
              clear n0_ n1_ n2_ n3_ n4_ n5_ n6_
              refine start_ (n := 18) (S := fun w' => w'.cell? ⟨gb119, 0, none⟩ = some (.bool t114) ∧ w'.cell? ⟨gb119, 1, none⟩ = some (.slice Ao22 t115.length co22) ∧ w'.cell? ⟨gb124, 0, none⟩ = some (.int .u64 t121) ∧ w'.cell? ⟨gb124, 1, none⟩ = some (.int .u64 t122)) (ds := []) #[false, false, false, false, false, false, false, false, false, false, false, false, false, false, false, false, false, false] (by kernel_rfl) rfl rfl ⟨(blk_cell BK119.out 0).trans rfl, (blk_cell BK119.out 1).trans rfl, (blk_cell BK124.out 0).trans rfl, (blk_cell BK124.out 1).trans rfl⟩ (fun hHeld => ?_); refine with_tabW sorobanlaw05_BinaryPlaces.tab7 sorobanlaw05_BinaryPlaces.bits7 (fun HT_ HW_ => ?_)
              generalize w50.drew = w51 at HO_114003 HO_120001 BK101 BK113 BK119 BK124 HB hHeld ⊢
              refine one_ (i := 0) (N := some 43) #[true, false, false, false, false, false, false, false, false, false, false, false, false, false, false, false, false, false] rfl rfl (one_of HT_.out (by kernel_rfl)) (by decide) (fun K hK => ?_)
              refine goes_ Tryd.func11 (by kernel_rfl) rfl #[] (by rfl) rfl rfl zm ?_
              with_reducible refine (sorobanlaw05_sanity.calls  true _ A35.out (HTAB.out.below (zb HB.out))).mono ?_
              rintro e w52 ⟨rfl, hb⟩
              refine ⟨_, rfl, ?_⟩
              have n0_ := Aside0.mk (Kd.R_below (zr HO_114003.out) hb)
              have n1_ := Aside0.mk (Kd.R_below (zr HO_120001.out) hb)
              have n2_ := Aside0.mk (blk_below (g := gb101) (o := .cells #[.int .u64 a1_0, .int .u64 a1_1] 28 (0, 0)) (zk BK101.out) hb)
              have n3_ := Aside0.mk (blk_below (g := gb113) (o := .cells #[.int .i64 t105, .int .i64 t106, .bool t107, .slice Ao16 t108.length co16, .int .i64 t111] 25 (0, 0)) (zk BK113.out) hb)
              have n4_ := Aside0.mk (blk_below (g := gb119) (o := .cells #[.bool t114, .slice Ao22 t115.length co22] 48 (0, 0)) (zk BK119.out) hb)
              have n5_ := Aside0.mk (blk_below (g := gb124) (o := .cells #[.int .u64 t121, .int .u64 t122] 28 (0, 0)) (zk BK124.out) hb)
              have n6_ := Aside0.mk (below_step (zb HB.out) hb)
              clear HO_114003
              clear HO_120001
              clear BK101
              clear BK113
              clear BK119
              clear BK124
              clear HB
              have HO_114003 := n0_
              have HO_120001 := n1_
              have BK101 := n2_
              have BK113 := n3_
              have BK119 := n4_
              have BK124 := n5_
              have HB := n6_
              clear n0_ n1_ n2_ n3_ n4_ n5_ n6_
              (try clear hb)
              (try clear hb2)
              (try clear hk)
              (try clear hi)
              refine hK.out _ _ ⟨(blk_cell BK119.out 0).trans rfl, (blk_cell BK119.out 1).trans rfl, (blk_cell BK124.out 0).trans rfl, (blk_cell BK124.out 1).trans rfl⟩ (fun hHeld => ?_)
              clear hK K
              refine norm_ (a' := ?_) ?_ ?_
              rotate_left
              · show Act.put _ (some 43) _ = _
                simp only [Act.put, List.setIfInBounds_toArray, List.set_cons_zero, List.set_cons_succ, i64_w, i32_w]
                rfl
              refine pure_ (i := 1) (N := some 44) (v := ?_) (a' := ?_) #[true, true, false, false, false, false, false, false, false, false, false, false, false, false, false, false, false, false] rfl rfl (any_of HT_.out (by kernel_rfl)) (fun _ _ _ h => h) (Or.inl ⟨by rfl, ?_⟩) ?_ ?_
              rotate_left
              · intro w'
                go_simp
                with_reducible rfl
              rotate_left
              · simp only [Act.put, List.setIfInBounds_toArray, List.set_cons_zero, List.set_cons_succ, i64_w, i32_w]
                rfl
              refine pure_ (i := 2) (N := some 45) (v := ?_) (a' := ?_) #[true, true, true, false, false, false, false, false, false, false, false, false, false, false, false, false, false, false] rfl rfl (any_of HT_.out (by kernel_rfl)) (fun _ _ _ h => h) (Or.inl ⟨by rfl, ?_⟩) ?_ ?_
              rotate_left
              · intro w'
                go_simp
                with_reducible rfl
              rotate_left
              · simp only [Act.put, List.setIfInBounds_toArray, List.set_cons_zero, List.set_cons_succ, i64_w, i32_w]
                rfl
              refine pure_ (i := 3) (N := some 46) (v := ?_) (a' := ?_) #[true, true, true, true, false, false, false, false, false, false, false, false, false, false, false, false, false, false] rfl rfl (any_of HT_.out (by kernel_rfl)) (fun _ _ _ h => h) (Or.inl ⟨by rfl, ?_⟩) ?_ ?_
              rotate_left
              · intro w'
                go_simp
                with_reducible rfl
              rotate_left
              · simp only [Act.put, List.setIfInBounds_toArray, List.set_cons_zero, List.set_cons_succ, i64_w, i32_w]
                rfl
              refine pure_ (i := 4) (N := some 47) (v := ?_) (a' := ?_) #[true, true, true, true, true, false, false, false, false, false, false, false, false, false, false, false, false, false] rfl rfl (any_of HT_.out (by kernel_rfl)) (fun _ _ _ h => h) (Or.inl ⟨by rfl, ?_⟩) ?_ ?_
              rotate_left
              · intro w'
                go_simp
                with_reducible rfl
              rotate_left
              · simp only [Act.put, List.setIfInBounds_toArray, List.set_cons_zero, List.set_cons_succ, i64_w, i32_w]
                rfl
              refine pure_ (i := 5) (N := some 48) (v := ?_) (a' := ?_) #[true, true, true, true, true, true, false, false, false, false, false, false, false, false, false, false, false, false] rfl rfl (any_of HT_.out (by kernel_rfl)) (fun _ _ _ h => h) (Or.inl ⟨by rfl, ?_⟩) ?_ ?_
              rotate_left
              · intro w'
                go_simp
                with_reducible rfl
              rotate_left
              · simp only [Act.put, List.setIfInBounds_toArray, List.set_cons_zero, List.set_cons_succ, i64_w, i32_w]
                rfl
              refine pure_ (i := 6) (N := some 49) (v := ?_) (a' := ?_) #[true, true, true, true, true, true, true, false, false, false, false, false, false, false, false, false, false, false] rfl rfl (any_of HT_.out (by kernel_rfl)) (fun _ _ _ h => h) (Or.inl ⟨by rfl, ?_⟩) ?_ ?_
              rotate_left
              · intro w'
                go_simp
                with_reducible rfl
              rotate_left
              · simp only [Act.put, List.setIfInBounds_toArray, List.set_cons_zero, List.set_cons_succ, i64_w, i32_w]
                rfl
              refine take_ (i := 7) (N := some 50) (v := ?_) (a' := ?_) #[true, true, true, true, true, true, true, true, false, false, false, false, false, false, false, false, false, false] rfl rfl (take_ofW HT_.out HW_.out (by kernel_rfl)) (fun _ _ _ h => h) (Or.inl ⟨by rfl, ?_⟩) hHeld ?_ ?_
              rotate_left
              · rintro w' ⟨s0, s1, s2, s3⟩
                go_simp
                with_reducible rfl
              rotate_left
              · simp only [Act.put, List.setIfInBounds_toArray, List.set_cons_zero, List.set_cons_succ, i64_w, i32_w]
                rfl
              refine take_ (i := 8) (N := some 51) (v := ?_) (a' := ?_) #[true, true, true, true, true, true, true, true, true, false, false, false, false, false, false, false, false, false] rfl rfl (take_ofW HT_.out HW_.out (by kernel_rfl)) (fun _ _ _ h => h) (Or.inl ⟨by rfl, ?_⟩) hHeld ?_ ?_
              rotate_left
              · rintro w' ⟨s0, s1, s2, s3⟩
                go_simp
                with_reducible rfl
              rotate_left
              · simp only [Act.put, List.setIfInBounds_toArray, List.set_cons_zero, List.set_cons_succ, i64_w, i32_w]
                rfl
              refine one_ (i := 9) (N := some 52) #[true, true, true, true, true, true, true, true, true, true, false, false, false, false, false, false, false, false] rfl rfl (one_of HT_.out (by kernel_rfl)) (by decide) (fun K hK => ?_)
              refine goes_ Tryd.func25 (by kernel_rfl) rfl #[.agg #[.int .u64 t121, .int .u64 t122]] (by rfl) rfl rfl zm ?_
              with_reducible refine (sorobanref05_Nat.calls t121 t122 t126 _ A38.out).mono ?_
              rintro e w53 ⟨v127, rfl, ho0, hb⟩
              refine ⟨_, rfl, ?_⟩
              have n0_ := Aside0.mk (Kd.R_elder' (zr HO_114003.out) (Kd.R_base ho0) hb)
              have n1_ := Aside0.mk (Kd.R_elder' (zr HO_120001.out) (Kd.R_base ho0) hb)
              have n2_ := Aside0.mk (Kd.R_lower (Kd.R_new' (Kd.R_new' ho0 (Kd.R_lt (zr HO_114003.out))) (Kd.R_lt (zr HO_120001.out))) (below_size (zb HB.out)))
              have n3_ := Aside0.mk (blk_below (g := gb101) (o := .cells #[.int .u64 a1_0, .int .u64 a1_1] 28 (0, 0)) (zk BK101.out) hb)
              have n4_ := Aside0.mk (blk_below (g := gb113) (o := .cells #[.int .i64 t105, .int .i64 t106, .bool t107, .slice Ao16 t108.length co16, .int .i64 t111] 25 (0, 0)) (zk BK113.out) hb)
              have n5_ := Aside0.mk (blk_below (g := gb119) (o := .cells #[.bool t114, .slice Ao22 t115.length co22] 48 (0, 0)) (zk BK119.out) hb)
              have n6_ := Aside0.mk (blk_below (g := gb124) (o := .cells #[.int .u64 t121, .int .u64 t122] 28 (0, 0)) (zk BK124.out) hb)
              have n7_ := Aside0.mk (below_step (zb HB.out) hb)
              clear HO_114003
              clear HO_120001
              clear BK101
              clear BK113
              clear BK119
              clear BK124
              clear HB
              have HO_114003 := n0_
              have HO_120001 := n1_
              have HO128 := n2_
              have BK101 := n3_
              have BK113 := n4_
              have BK119 := n5_
              have BK124 := n6_
              have HB := n7_
              clear n0_ n1_ n2_ n3_ n4_ n5_ n6_ n7_
              (try clear hb)
              (try clear hb2)
              (try clear hk)
              (try clear hi)
              (try clear ho0)
              obtain ⟨Ao54, co54, eo54⟩ := Kd.R_slice HO128.out
              (first | subst eo54 | (injection eo54 with f1_ f2_ f3_; have f4_ := f1_.symm; have f5_ := f3_.symm; clear f1_ f2_ f3_; subst f4_; subst f5_))
              refine hK.out _ _ ⟨(blk_cell BK119.out 0).trans rfl, (blk_cell BK119.out 1).trans rfl, (blk_cell BK124.out 0).trans rfl, (blk_cell BK124.out 1).trans rfl⟩ (fun hHeld => ?_)
              clear hK K
              refine norm_ (a' := ?_) ?_ ?_
              rotate_left
              · show Act.put _ (some 52) _ = _
                simp only [Act.put, List.setIfInBounds_toArray, List.set_cons_zero, List.set_cons_succ, i64_w, i32_w]
                rfl
              refine one_ (i := 10) (N := some 53) #[true, true, true, true, true, true, true, true, true, true, true, false, false, false, false, false, false, false] rfl rfl (one_of HT_.out (by kernel_rfl)) (by decide) (fun K hK => ?_)
              refine goes_ Tryd.func24 (by kernel_rfl) rfl #[.slice Ao22 t115.length co22, .slice Ao54 t126.length co54] (by rfl) rfl rfl zm ?_
              with_reducible refine (sorobanref01_Same.calls _ _ t115 _ _ t126 true _ ?side1 ?side2 ?side3 ?side4 A39.out).mono ?_
              (case side1 => repeat (first | exact (Kd.R_reads' HO_120001.out).2.2 | (with_reducible refine Kd.C_alloc ?_ _) | (with_reducible refine Kd.C_drewN ?_ _) | (with_reducible refine Kd.C_drew ?_)))
              (case side2 => exact (Kd.R_reads' HO_120001.out).2.1)
              (case side3 => repeat (first | exact (Kd.R_reads' HO128.out).2.2 | (with_reducible refine Kd.C_alloc ?_ _) | (with_reducible refine Kd.C_drewN ?_ _) | (with_reducible refine Kd.C_drew ?_)))
              (case side4 => exact (Kd.R_reads' HO128.out).2.1)
              rintro e w55 ⟨rfl, hb⟩
              refine ⟨_, rfl, ?_⟩
              have n0_ := Aside0.mk (Kd.R_below (zr HO_114003.out) hb)
              have n1_ := Aside0.mk (Kd.R_below (zr HO_120001.out) hb)
              have n2_ := Aside0.mk (Kd.R_below (zr HO128.out) hb)
              have n3_ := Aside0.mk (blk_below (g := gb101) (o := .cells #[.int .u64 a1_0, .int .u64 a1_1] 28 (0, 0)) (zk BK101.out) hb)
              have n4_ := Aside0.mk (blk_below (g := gb113) (o := .cells #[.int .i64 t105, .int .i64 t106, .bool t107, .slice Ao16 t108.length co16, .int .i64 t111] 25 (0, 0)) (zk BK113.out) hb)
              have n5_ := Aside0.mk (blk_below (g := gb119) (o := .cells #[.bool t114, .slice Ao22 t115.length co22] 48 (0, 0)) (zk BK119.out) hb)
              have n6_ := Aside0.mk (blk_below (g := gb124) (o := .cells #[.int .u64 t121, .int .u64 t122] 28 (0, 0)) (zk BK124.out) hb)
              have n7_ := Aside0.mk (below_step (zb HB.out) hb)
              clear HO_114003
              clear HO_120001
              clear HO128
              clear BK101
              clear BK113
              clear BK119
              clear BK124
              clear HB
              have HO_114003 := n0_
              have HO_120001 := n1_
              have HO128 := n2_
              have BK101 := n3_
              have BK113 := n4_
              have BK119 := n5_
              have BK124 := n6_
              have HB := n7_
              clear n0_ n1_ n2_ n3_ n4_ n5_ n6_ n7_
              (try clear hb)
              (try clear hb2)
              (try clear hk)
              (try clear hi)
              refine hK.out _ _ ⟨(blk_cell BK119.out 0).trans rfl, (blk_cell BK119.out 1).trans rfl, (blk_cell BK124.out 0).trans rfl, (blk_cell BK124.out 1).trans rfl⟩ (fun hHeld => ?_)
              clear hK K
              refine norm_ (a' := ?_) ?_ ?_
              rotate_left
              · show Act.put _ (some 53) _ = _
                simp only [Act.put, List.setIfInBounds_toArray, List.set_cons_zero, List.set_cons_succ, i64_w, i32_w]
                rfl
              refine pure_ (i := 11) (N := some 54) (v := ?_) (a' := ?_) #[true, true, true, true, true, true, true, true, true, true, true, true, false, false, false, false, false, false] rfl rfl (any_of HT_.out (by kernel_rfl)) (fun _ _ _ h => h) (Or.inl ⟨by rfl, ?_⟩) ?_ ?_
              rotate_left
              · intro w'
                go_simp
                with_reducible rfl
              rotate_left
              · simp only [Act.put, List.setIfInBounds_toArray, List.set_cons_zero, List.set_cons_succ, i64_w, i32_w]
                rfl
              refine pure_ (i := 12) (N := some 55) (v := ?_) (a' := ?_) #[true, true, true, true, true, true, true, true, true, true, true, true, true, false, false, false, false, false] rfl rfl (any_of HT_.out (by kernel_rfl)) (fun _ _ _ h => h) (Or.inl ⟨by rfl, ?_⟩) ?_ ?_
              rotate_left
              · intro w'
                go_simp
                with_reducible rfl
              rotate_left
              · simp only [Act.put, List.setIfInBounds_toArray, List.set_cons_zero, List.set_cons_succ, i64_w, i32_w]
                rfl
              refine pure_ (i := 13) (N := some 56) (v := ?_) (a' := ?_) #[true, true, true, true, true, true, true, true, true, true, true, true, true, true, false, false, false, false] rfl rfl (any_of HT_.out (by kernel_rfl)) (fun _ _ _ h => h) (Or.inl ⟨by rfl, ?_⟩) ?_ ?_
              rotate_left
              · intro w'
                go_simp
                with_reducible rfl
              rotate_left
              · simp only [Act.put, List.setIfInBounds_toArray, List.set_cons_zero, List.set_cons_succ, i64_w, i32_w]
                rfl
              refine take_ (i := 14) (N := some 57) (v := ?_) (a' := ?_) #[true, true, true, true, true, true, true, true, true, true, true, true, true, true, true, false, false, false] rfl rfl (take_ofW HT_.out HW_.out (by kernel_rfl)) (fun _ _ _ h => h) (Or.inl ⟨by rfl, ?_⟩) hHeld ?_ ?_
              rotate_left
              · rintro w' ⟨s0, s1, s2, s3⟩
                go_simp
                with_reducible rfl
              rotate_left
              · simp only [Act.put, List.setIfInBounds_toArray, List.set_cons_zero, List.set_cons_succ, i64_w, i32_w]
                rfl
              refine pure_ (i := 15) (N := some 58) (v := ?_) (a' := ?_) #[true, true, true, true, true, true, true, true, true, true, true, true, true, true, true, true, false, false] rfl rfl (any_of HT_.out (by kernel_rfl)) (fun _ _ _ h => h) (Or.inl ⟨by rfl, ?_⟩) ?_ ?_
              rotate_left
              · intro w'
                go_simp
                with_reducible rfl
              rotate_left
              · simp only [Act.put, List.setIfInBounds_toArray, List.set_cons_zero, List.set_cons_succ, i64_w, i32_w]
                rfl
              refine pure_ (i := 16) (N := some 59) (v := ?_) (a' := ?_) #[true, true, true, true, true, true, true, true, true, true, true, true, true, true, true, true, true, false] rfl rfl (any_of HT_.out (by kernel_rfl)) (fun _ _ _ h => h) (Or.inl ⟨by rfl, ?_⟩) ?_ ?_
              rotate_left
              · intro w'
                go_simp
                with_reducible rfl
              rotate_left
              · simp only [Act.put, List.setIfInBounds_toArray, List.set_cons_zero, List.set_cons_succ, i64_w, i32_w]
                rfl
              refine pure_ (i := 17) (N := some 4) (v := ?_) (a' := ?_) #[true, true, true, true, true, true, true, true, true, true, true, true, true, true, true, true, true, true] rfl rfl (any_of HT_.out (by kernel_rfl)) (fun _ _ _ h => h) (Or.inl ⟨by rfl, ?_⟩) ?_ ?_
              rotate_left
              · intro w'
                go_simp
                with_reducible rfl
              rotate_left
              · simp only [Act.put, List.setIfInBounds_toArray, List.set_cons_zero, List.set_cons_succ, i64_w, i32_w]
                rfl
              refine done_ (done_of HT_.out (by kernel_rfl)) ?_
              try go_wp2
              go_ret
              exact ⟨by first | rfl | (simp [errW_none, errW_some] <;> rfl) | (simp [*, errW_none, errW_some] <;> rfl), by repeat (first | (with_reducible first | exact HB.out | apply below_alloc | apply pw_below_drewN | apply below_drew1 | refine below_set ?_ GE101.out | refine below_set ?_ GE113.out | refine below_set ?_ GE119.out | refine below_set ?_ GE124.out) | exact HB.out)⟩
            · replace c40 := Bool.eq_false_iff.mpr c40
              subst c40
              have H1 : (some false) = some r := by rw [if_neg (show ¬ (false = true) by decide)] at H; exact H
              clear H
              have H := H1
              clear H1
              obtain rfl := Option.some.inj H
              have hnb56 := NB113_101.out
              have hnc56 := NB101_113.out
              have hnb57 := NB113_119.out
              have hnc57 := NB119_113.out
              have hcz58_0 : wc.cell? ⟨gb113, 0, none⟩ = some (.int .i64 t105) := (blk_cell BK113.out 0).trans rfl
              have hcz58_1 : wc.cell? ⟨gb113, 1, none⟩ = some (.int .i64 t106) := (blk_cell BK113.out 1).trans rfl
              have hcz58_2 : wc.cell? ⟨gb113, 2, none⟩ = some (.bool t107) := (blk_cell BK113.out 2).trans rfl
              have hcz58_3 : wc.cell? ⟨gb113, 3, none⟩ = some (.slice Ao16 t108.length co16) := (blk_cell BK113.out 3).trans rfl
              have hcz58_4 : wc.cell? ⟨gb113, 4, none⟩ = some (.int .i64 t111) := (blk_cell BK113.out 4).trans rfl
              have hfz58_0 := blk_frozen BK113.out 0
              have hfz58_1 := blk_frozen BK113.out 1
              have hfz58_2 := blk_frozen BK113.out 2
              have hfz58_3 := blk_frozen BK113.out 3
              have hfz58_4 := blk_frozen BK113.out 4
              try go_wp2_with (first | ((with_reducible refine gate_callee (f := 12) rfl ?_); refine goesL_ (some 40) rfl rfl Tryd.func12 (by kernel_rfl) rfl #[.agg #[.int .i64 t105, .int .i64 t106, .bool t107, .slice Ao16 t108.length co16, .int .i64 t111]] rfl zm ?_; (with_reducible refine (binary_Encode.calls t105 t106 t107 _ _ t108 t111 t121 t122 t123 _ ?side1 ?side2 A34.out).mono ?_); (case side1 => repeat (first | exact (Kd.R_reads' HO_114003.out).2.2 | (with_reducible refine Kd.C_alloc ?_ _) | (with_reducible refine Kd.C_drewN ?_ _) | (with_reducible refine Kd.C_drew ?_))); (case side2 => exact (Kd.R_reads' HO_114003.out).2.1); rintro e w59 ⟨rfl, hb⟩; refine ⟨_, rfl, ?_⟩; have n0_ := Aside0.mk (Kd.R_below (zr HO_114003.out) hb); have n1_ := Aside0.mk (Kd.R_below (zr HO_120001.out) hb); have n2_ := Aside0.mk (blk_below (g := gb101) (o := .cells #[.int .u64 a1_0, .int .u64 a1_1] 28 (0, 0)) (zk BK101.out) hb); have n3_ := Aside0.mk (blk_below (g := gb113) (o := .cells #[.int .i64 t105, .int .i64 t106, .bool t107, .slice Ao16 t108.length co16, .int .i64 t111] 25 (0, 0)) (zk BK113.out) hb); have n4_ := Aside0.mk (blk_below (g := gb119) (o := .cells #[.bool t114, .slice Ao22 t115.length co22] 48 (0, 0)) (zk BK119.out) hb); have n5_ := Aside0.mk (below_step (zb HB.out) hb); clear HO_114003; clear HO_120001; clear BK101; clear BK113; clear BK119; clear HB; have HO_114003 := n0_; have HO_120001 := n1_; have BK101 := n2_; have BK113 := n3_; have BK119 := n4_; have HB := n5_; clear n0_ n1_ n2_ n3_ n4_ n5_; (try clear hb); (try clear hb2); (try clear hk); (try clear hi)) | ((with_reducible refine gate_dst (N := 10) rfl ?_); refine box_event ?hg (N := 10) ?hd (cs := #[.int .u64 0, .int .u64 0]) (t := 28) ?hr ?_; (case hd => rfl); (case hg => rfl); (case hr => first | (go_simp; done) | (go_simp; rfl)); intro gb124 hg w60 hbox hb; have n0_ := Aside0.mk (Kd.R_below (zr HO_114003.out) hb); have n1_ := Aside0.mk (Kd.R_below (zr HO_120001.out) hb); have n2_ := Aside0.mk (blk_below (g := gb101) (o := .cells #[.int .u64 a1_0, .int .u64 a1_1] 28 (0, 0)) (zk BK101.out) hb); have n3_ := Aside0.mk (blk_below (g := gb113) (o := .cells #[.int .i64 t105, .int .i64 t106, .bool t107, .slice Ao16 t108.length co16, .int .i64 t111] 25 (0, 0)) (zk BK113.out) hb); have n4_ := Aside0.mk (blk_below (g := gb119) (o := .cells #[.bool t114, .slice Ao22 t115.length co22] 48 (0, 0)) (zk BK119.out) hb); have n5_ := Aside0.mk (below_step (zb HB.out) hb); have n6_ := Aside0.mk (hbox); have n7_ := Aside0.mk ((by rw [hg]; exact (below_size (zb HB.out)) : w.heap.size ≤ gb124)); have n8_ := Aside0.mk ((by rw [hg]; exact (below_size (zb HB.out)) : w.heap.size ≤ gb124)); have n9_ := Aside0.mk ((by rw [hg]; exact Nat.ne_of_lt (blk_lt (g := gb101) (o := .cells #[.int .u64 a1_0, .int .u64 a1_1] 28 (0, 0)) (zk BK101.out)) : gb101 ≠ gb124)); have n10_ := Aside0.mk ((by rw [hg]; exact Nat.ne_of_gt (blk_lt (g := gb101) (o := .cells #[.int .u64 a1_0, .int .u64 a1_1] 28 (0, 0)) (zk BK101.out)) : gb124 ≠ gb101)); have n11_ := Aside0.mk ((by rw [hg]; exact Nat.ne_of_lt (blk_lt (g := gb113) (o := .cells #[.int .i64 t105, .int .i64 t106, .bool t107, .slice Ao16 t108.length co16, .int .i64 t111] 25 (0, 0)) (zk BK113.out)) : gb113 ≠ gb124)); have n12_ := Aside0.mk ((by rw [hg]; exact Nat.ne_of_gt (blk_lt (g := gb113) (o := .cells #[.int .i64 t105, .int .i64 t106, .bool t107, .slice Ao16 t108.length co16, .int .i64 t111] 25 (0, 0)) (zk BK113.out)) : gb124 ≠ gb113)); have n13_ := Aside0.mk ((by rw [hg]; exact Nat.ne_of_lt (blk_lt (g := gb119) (o := .cells #[.bool t114, .slice Ao22 t115.length co22] 48 (0, 0)) (zk BK119.out)) : gb119 ≠ gb124)); have n14_ := Aside0.mk ((by rw [hg]; exact Nat.ne_of_gt (blk_lt (g := gb119) (o := .cells #[.bool t114, .slice Ao22 t115.length co22] 48 (0, 0)) (zk BK119.out)) : gb124 ≠ gb119)); clear HO_114003; clear HO_120001; clear BK101; clear BK113; clear BK119; clear HB; have HO_114003 := n0_; have HO_120001 := n1_; have BK101 := n2_; have BK113 := n3_; have BK119 := n4_; have HB := n5_; have BK124 := n6_; have GW124 := n7_; have GE124 := n8_; have NB101_124 := n9_; have NB124_101 := n10_; have NB113_124 := n11_; have NB124_113 := n12_; have NB119_124 := n13_; have NB124_119 := n14_; clear n0_ n1_ n2_ n3_ n4_ n5_ n6_ n7_ n8_ n9_ n10_ n11_ n12_ n13_ n14_; clear hb hbox hg; have hnb61 := NB124_101.out; have hnc61 := NB101_124.out; have hnb62 := NB124_113.out; have hnc62 := NB113_124.out; have hnb63 := NB124_119.out; have hnc63 := NB119_124.out; have hcz64_0 : w60.cell? ⟨gb124, 0, none⟩ = some (.int .u64 0) := (blk_cell BK124.out 0).trans rfl; have hcz64_1 : w60.cell? ⟨gb124, 1, none⟩ = some (.int .u64 0) := (blk_cell BK124.out 1).trans rfl; have hfz64_0 := blk_frozen BK124.out 0; have hfz64_1 := blk_frozen BK124.out 1))
              have n0_ : Aside0 (Kd.R (Kd.int .u32) 77 ((w60.setCell ⟨gb124, 0, none⟩ (.int .u64 t121)).setCell ⟨gb124, 1, none⟩ (.int .u64 t122)) w.heap.size (fun k_ => some k_ ≠ (.slice Ao22 t115.length co22 : Value).ownBlock) (.slice Ao16 t108.length co16) t108) := ⟨by (with_reducible repeat (first | apply Kd.R_alloc | apply Kd.R_drewN | apply Kd.R_drew)); exact Kd.R_mono (Kd.R_far (p := ⟨gb124, 1, none⟩) (Kd.R_far (p := ⟨gb124, 0, none⟩) (Kd.R_types HO_114003.out BK124.out (by decide)) (fun _ hk => hk.2) (.int .u64 t121)) (fun _ hk => hk.2) (.int .u64 t122)) (fun _ hk => hk.1)⟩
              have n1_ : Aside0 (Kd.R (Kd.int .u32) 77 ((w60.setCell ⟨gb124, 0, none⟩ (.int .u64 t121)).setCell ⟨gb124, 1, none⟩ (.int .u64 t122)) w.heap.size (fun k_ => some k_ ≠ (.slice Ao16 t108.length co16 : Value).ownBlock) (.slice Ao22 t115.length co22) t115) := ⟨by (with_reducible repeat (first | apply Kd.R_alloc | apply Kd.R_drewN | apply Kd.R_drew)); exact Kd.R_mono (Kd.R_far (p := ⟨gb124, 1, none⟩) (Kd.R_far (p := ⟨gb124, 0, none⟩) (Kd.R_types HO_120001.out BK124.out (by decide)) (fun _ hk => hk.2) (.int .u64 t121)) (fun _ hk => hk.2) (.int .u64 t122)) (fun _ hk => hk.1)⟩
              have n2_ : Aside0 (((w60.setCell ⟨gb124, 0, none⟩ (.int .u64 t121)).setCell ⟨gb124, 1, none⟩ (.int .u64 t122)).heap[gb101]? = some (.cells #[.int .u64 a1_0, .int .u64 a1_1] 28 (0, 0))) := ⟨by (with_reducible repeat (first | refine blk_drewN ?_ _ | refine blk_drew ?_ | refine blk_alloc ?_ _)); refine blk_far ?_ NB101_124.out _; (with_reducible repeat (first | refine blk_drewN ?_ _ | refine blk_drew ?_ | refine blk_alloc ?_ _)); refine blk_far ?_ NB101_124.out _; (with_reducible repeat (first | refine blk_drewN ?_ _ | refine blk_drew ?_ | refine blk_alloc ?_ _)); exact BK101.out⟩
              have n3_ : Aside0 (((w60.setCell ⟨gb124, 0, none⟩ (.int .u64 t121)).setCell ⟨gb124, 1, none⟩ (.int .u64 t122)).heap[gb113]? = some (.cells #[.int .i64 t105, .int .i64 t106, .bool t107, .slice Ao16 t108.length co16, .int .i64 t111] 25 (0, 0))) := ⟨by (with_reducible repeat (first | refine blk_drewN ?_ _ | refine blk_drew ?_ | refine blk_alloc ?_ _)); refine blk_far ?_ NB113_124.out _; (with_reducible repeat (first | refine blk_drewN ?_ _ | refine blk_drew ?_ | refine blk_alloc ?_ _)); refine blk_far ?_ NB113_124.out _; (with_reducible repeat (first | refine blk_drewN ?_ _ | refine blk_drew ?_ | refine blk_alloc ?_ _)); exact BK113.out⟩
              have n4_ : Aside0 (((w60.setCell ⟨gb124, 0, none⟩ (.int .u64 t121)).setCell ⟨gb124, 1, none⟩ (.int .u64 t122)).heap[gb119]? = some (.cells #[.bool t114, .slice Ao22 t115.length co22] 48 (0, 0))) := ⟨by (with_reducible repeat (first | refine blk_drewN ?_ _ | refine blk_drew ?_ | refine blk_alloc ?_ _)); refine blk_far ?_ NB119_124.out _; (with_reducible repeat (first | refine blk_drewN ?_ _ | refine blk_drew ?_ | refine blk_alloc ?_ _)); refine blk_far ?_ NB119_124.out _; (with_reducible repeat (first | refine blk_drewN ?_ _ | refine blk_drew ?_ | refine blk_alloc ?_ _)); exact BK119.out⟩
              have n5_ : Aside0 (((w60.setCell ⟨gb124, 0, none⟩ (.int .u64 t121)).setCell ⟨gb124, 1, none⟩ (.int .u64 t122)).heap[gb124]? = some (.cells #[.int .u64 t121, .int .u64 t122] 28 (0, 0))) := ⟨by (with_reducible repeat (first | refine blk_drewN ?_ _ | refine blk_drew ?_ | refine blk_alloc ?_ _)); refine blk_put (cs := #[.int .u64 t121, .int .u64 0]) ?_ 1 _ rfl; (with_reducible repeat (first | refine blk_drewN ?_ _ | refine blk_drew ?_ | refine blk_alloc ?_ _)); refine blk_put (cs := #[.int .u64 0, .int .u64 0]) ?_ 0 _ rfl; (with_reducible repeat (first | refine blk_drewN ?_ _ | refine blk_drew ?_ | refine blk_alloc ?_ _)); exact BK124.out⟩
              have n6_ : Aside0 (Below w.heap.size w ((w60.setCell ⟨gb124, 0, none⟩ (.int .u64 t121)).setCell ⟨gb124, 1, none⟩ (.int .u64 t122))) := ⟨zb HB.out⟩
              (try clear HO_114003)
              (try clear HO_120001)
              (try clear BK101)
              (try clear BK113)
              (try clear BK119)
              (try clear BK124)
              (try clear HB)
              generalize ((w60.setCell ⟨gb124, 0, none⟩ (.int .u64 t121)).setCell ⟨gb124, 1, none⟩ (.int .u64 t122)) = w65 at n0_ n1_ n2_ n3_ n4_ n5_ n6_ ⊢
              have HO_114003 := n0_
              have HO_120001 := n1_
              have BK101 := n2_
              have BK113 := n3_
              have BK119 := n4_
              have BK124 := n5_
              have HB := n6_
              clear n0_ n1_ n2_ n3_ n4_ n5_ n6_
              have n0_ := Aside0.mk (Kd.R_drew HO_114003.out)
              have n1_ := Aside0.mk (Kd.R_drew HO_120001.out)
              have n2_ := Aside0.mk (blk_drew BK101.out)
              have n3_ := Aside0.mk (blk_drew BK113.out)
              have n4_ := Aside0.mk (blk_drew BK119.out)
              have n5_ := Aside0.mk (blk_drew BK124.out)
              have n6_ := Aside0.mk (below_drew1 HB.out)
              clear HO_114003
              clear HO_120001
              clear BK101
              clear BK113
              clear BK119
              clear BK124
              clear HB
              have HO_114003 := n0_
              have HO_120001 := n1_
              have BK101 := n2_
              have BK113 := n3_
              have BK119 := n4_
              have BK124 := n5_
              have HB := n6_
              clear n0_ n1_ n2_ n3_ n4_ n5_ n6_
              refine start_ (n := 18) (S := fun w' => w'.cell? ⟨gb119, 0, none⟩ = some (.bool t114) ∧ w'.cell? ⟨gb119, 1, none⟩ = some (.slice Ao22 t115.length co22) ∧ w'.cell? ⟨gb124, 0, none⟩ = some (.int .u64 t121) ∧ w'.cell? ⟨gb124, 1, none⟩ = some (.int .u64 t122)) (ds := []) #[false, false, false, false, false, false, false, false, false, false, false, false, false, false, false, false, false, false] (by kernel_rfl) rfl rfl ⟨(blk_cell BK119.out 0).trans rfl, (blk_cell BK119.out 1).trans rfl, (blk_cell BK124.out 0).trans rfl, (blk_cell BK124.out 1).trans rfl⟩ (fun hHeld => ?_); refine with_tabW sorobanlaw05_BinaryPlaces.tab7 sorobanlaw05_BinaryPlaces.bits7 (fun HT_ HW_ => ?_)
              generalize w65.drew = w66 at HO_114003 HO_120001 BK101 BK113 BK119 BK124 HB hHeld ⊢
              refine one_ (i := 0) (N := some 43) #[true, false, false, false, false, false, false, false, false, false, false, false, false, false, false, false, false, false] rfl rfl (one_of HT_.out (by kernel_rfl)) (by decide) (fun K hK => ?_)
              refine goes_ Tryd.func11 (by kernel_rfl) rfl #[] (by rfl) rfl rfl zm ?_
              with_reducible refine (sorobanlaw05_sanity.calls  true _ A35.out (HTAB.out.below (zb HB.out))).mono ?_
              rintro e w67 ⟨rfl, hb⟩
              refine ⟨_, rfl, ?_⟩
              have n0_ := Aside0.mk (Kd.R_below (zr HO_114003.out) hb)
              have n1_ := Aside0.mk (Kd.R_below (zr HO_120001.out) hb)
              have n2_ := Aside0.mk (blk_below (g := gb101) (o := .cells #[.int .u64 a1_0, .int .u64 a1_1] 28 (0, 0)) (zk BK101.out) hb)
              have n3_ := Aside0.mk (blk_below (g := gb113) (o := .cells #[.int .i64 t105, .int .i64 t106, .bool t107, .slice Ao16 t108.length co16, .int .i64 t111] 25 (0, 0)) (zk BK113.out) hb)
              have n4_ := Aside0.mk (blk_below (g := gb119) (o := .cells #[.bool t114, .slice Ao22 t115.length co22] 48 (0, 0)) (zk BK119.out) hb)
              have n5_ := Aside0.mk (blk_below (g := gb124) (o := .cells #[.int .u64 t121, .int .u64 t122] 28 (0, 0)) (zk BK124.out) hb)
              have n6_ := Aside0.mk (below_step (zb HB.out) hb)
              clear HO_114003
              clear HO_120001
              clear BK101
              clear BK113
              clear BK119
              clear BK124
              clear HB
              have HO_114003 := n0_
              have HO_120001 := n1_
              have BK101 := n2_
              have BK113 := n3_
              have BK119 := n4_
              have BK124 := n5_
              have HB := n6_
              clear n0_ n1_ n2_ n3_ n4_ n5_ n6_
              (try clear hb)
              (try clear hb2)
              (try clear hk)
              (try clear hi)
              refine hK.out _ _ ⟨(blk_cell BK119.out 0).trans rfl, (blk_cell BK119.out 1).trans rfl, (blk_cell BK124.out 0).trans rfl, (blk_cell BK124.out 1).trans rfl⟩ (fun hHeld => ?_)
              clear hK K
              refine norm_ (a' := ?_) ?_ ?_
              rotate_left
              · show Act.put _ (some 43) _ = _
                simp only [Act.put, List.setIfInBounds_toArray, List.set_cons_zero, List.set_cons_succ, i64_w, i32_w]
                rfl
              refine pure_ (i := 1) (N := some 44) (v := ?_) (a' := ?_) #[true, true, false, false, false, false, false, false, false, false, false, false, false, false, false, false, false, false] rfl rfl (any_of HT_.out (by kernel_rfl)) (fun _ _ _ h => h) (Or.inl ⟨by rfl, ?_⟩) ?_ ?_
              rotate_left
              · intro w'
                go_simp
                with_reducible rfl
              rotate_left
              · simp only [Act.put, List.setIfInBounds_toArray, List.set_cons_zero, List.set_cons_succ, i64_w, i32_w]
                rfl
              refine pure_ (i := 2) (N := some 45) (v := ?_) (a' := ?_) #[true, true, true, false, false, false, false, false, false, false, false, false, false, false, false, false, false, false] rfl rfl (any_of HT_.out (by kernel_rfl)) (fun _ _ _ h => h) (Or.inl ⟨by rfl, ?_⟩) ?_ ?_
              rotate_left
              · intro w'
                go_simp
                with_reducible rfl
              rotate_left
              · simp only [Act.put, List.setIfInBounds_toArray, List.set_cons_zero, List.set_cons_succ, i64_w, i32_w]
                rfl
              refine pure_ (i := 3) (N := some 46) (v := ?_) (a' := ?_) #[true, true, true, true, false, false, false, false, false, false, false, false, false, false, false, false, false, false] rfl rfl (any_of HT_.out (by kernel_rfl)) (fun _ _ _ h => h) (Or.inl ⟨by rfl, ?_⟩) ?_ ?_
              rotate_left
              · intro w'
                go_simp
                with_reducible rfl
              rotate_left
              · simp only [Act.put, List.setIfInBounds_toArray, List.set_cons_zero, List.set_cons_succ, i64_w, i32_w]
                rfl
              refine pure_ (i := 4) (N := some 47) (v := ?_) (a' := ?_) #[true, true, true, true, true, false, false, false, false, false, false, false, false, false, false, false, false, false] rfl rfl (any_of HT_.out (by kernel_rfl)) (fun _ _ _ h => h) (Or.inl ⟨by rfl, ?_⟩) ?_ ?_
              rotate_left
              · intro w'
                go_simp
                with_reducible rfl
              rotate_left
              · simp only [Act.put, List.setIfInBounds_toArray, List.set_cons_zero, List.set_cons_succ, i64_w, i32_w]
                rfl
              refine pure_ (i := 5) (N := some 48) (v := ?_) (a' := ?_) #[true, true, true, true, true, true, false, false, false, false, false, false, false, false, false, false, false, false] rfl rfl (any_of HT_.out (by kernel_rfl)) (fun _ _ _ h => h) (Or.inl ⟨by rfl, ?_⟩) ?_ ?_
              rotate_left
              · intro w'
                go_simp
                with_reducible rfl
              rotate_left
              · simp only [Act.put, List.setIfInBounds_toArray, List.set_cons_zero, List.set_cons_succ, i64_w, i32_w]
                rfl
              refine pure_ (i := 6) (N := some 49) (v := ?_) (a' := ?_) #[true, true, true, true, true, true, true, false, false, false, false, false, false, false, false, false, false, false] rfl rfl (any_of HT_.out (by kernel_rfl)) (fun _ _ _ h => h) (Or.inl ⟨by rfl, ?_⟩) ?_ ?_
              rotate_left
              · intro w'
                go_simp
                with_reducible rfl
              rotate_left
              · simp only [Act.put, List.setIfInBounds_toArray, List.set_cons_zero, List.set_cons_succ, i64_w, i32_w]
                rfl
              refine take_ (i := 7) (N := some 50) (v := ?_) (a' := ?_) #[true, true, true, true, true, true, true, true, false, false, false, false, false, false, false, false, false, false] rfl rfl (take_ofW HT_.out HW_.out (by kernel_rfl)) (fun _ _ _ h => h) (Or.inl ⟨by rfl, ?_⟩) hHeld ?_ ?_
              rotate_left
              · rintro w' ⟨s0, s1, s2, s3⟩
                go_simp
                with_reducible rfl
              rotate_left
              · simp only [Act.put, List.setIfInBounds_toArray, List.set_cons_zero, List.set_cons_succ, i64_w, i32_w]
                rfl
              refine take_ (i := 8) (N := some 51) (v := ?_) (a' := ?_) #[true, true, true, true, true, true, true, true, true, false, false, false, false, false, false, false, false, false] rfl rfl (take_ofW HT_.out HW_.out (by kernel_rfl)) (fun _ _ _ h => h) (Or.inl ⟨by rfl, ?_⟩) hHeld ?_ ?_
              rotate_left
              · rintro w' ⟨s0, s1, s2, s3⟩
                go_simp
                with_reducible rfl
              rotate_left
              · simp only [Act.put, List.setIfInBounds_toArray, List.set_cons_zero, List.set_cons_succ, i64_w, i32_w]
                rfl
              refine one_ (i := 9) (N := some 52) #[true, true, true, true, true, true, true, true, true, true, false, false, false, false, false, false, false, false] rfl rfl (one_of HT_.out (by kernel_rfl)) (by decide) (fun K hK => ?_)
              refine goes_ Tryd.func25 (by kernel_rfl) rfl #[.agg #[.int .u64 t121, .int .u64 t122]] (by rfl) rfl rfl zm ?_
              with_reducible refine (sorobanref05_Nat.calls t121 t122 t126 _ A38.out).mono ?_
              rintro e w68 ⟨v127, rfl, ho0, hb⟩
              refine ⟨_, rfl, ?_⟩
              have n0_ := Aside0.mk (Kd.R_elder' (zr HO_114003.out) (Kd.R_base ho0) hb)
              have n1_ := Aside0.mk (Kd.R_elder' (zr HO_120001.out) (Kd.R_base ho0) hb)
              have n2_ := Aside0.mk (Kd.R_lower (Kd.R_new' (Kd.R_new' ho0 (Kd.R_lt (zr HO_114003.out))) (Kd.R_lt (zr HO_120001.out))) (below_size (zb HB.out)))
              have n3_ := Aside0.mk (blk_below (g := gb101) (o := .cells #[.int .u64 a1_0, .int .u64 a1_1] 28 (0, 0)) (zk BK101.out) hb)
              have n4_ := Aside0.mk (blk_below (g := gb113) (o := .cells #[.int .i64 t105, .int .i64 t106, .bool t107, .slice Ao16 t108.length co16, .int .i64 t111] 25 (0, 0)) (zk BK113.out) hb)
              have n5_ := Aside0.mk (blk_below (g := gb119) (o := .cells #[.bool t114, .slice Ao22 t115.length co22] 48 (0, 0)) (zk BK119.out) hb)
              have n6_ := Aside0.mk (blk_below (g := gb124) (o := .cells #[.int .u64 t121, .int .u64 t122] 28 (0, 0)) (zk BK124.out) hb)
              have n7_ := Aside0.mk (below_step (zb HB.out) hb)
              clear HO_114003
              clear HO_120001
              clear BK101
              clear BK113
              clear BK119
              clear BK124
              clear HB
              have HO_114003 := n0_
              have HO_120001 := n1_
              have HO128 := n2_
              have BK101 := n3_
              have BK113 := n4_
              have BK119 := n5_
              have BK124 := n6_
              have HB := n7_
              clear n0_ n1_ n2_ n3_ n4_ n5_ n6_ n7_
              (try clear hb)
              (try clear hb2)
              (try clear hk)
              (try clear hi)
              (try clear ho0)
              obtain ⟨Ao69, co69, eo69⟩ := Kd.R_slice HO128.out
              (first | subst eo69 | (injection eo69 with f1_ f2_ f3_; have f4_ := f1_.symm; have f5_ := f3_.symm; clear f1_ f2_ f3_; subst f4_; subst f5_))
              refine hK.out _ _ ⟨(blk_cell BK119.out 0).trans rfl, (blk_cell BK119.out 1).trans rfl, (blk_cell BK124.out 0).trans rfl, (blk_cell BK124.out 1).trans rfl⟩ (fun hHeld => ?_)
              clear hK K
              refine norm_ (a' := ?_) ?_ ?_
              rotate_left
              · show Act.put _ (some 52) _ = _
                simp only [Act.put, List.setIfInBounds_toArray, List.set_cons_zero, List.set_cons_succ, i64_w, i32_w]
                rfl
              refine one_ (i := 10) (N := some 53) #[true, true, true, true, true, true, true, true, true, true, true, false, false, false, false, false, false, false] rfl rfl (one_of HT_.out (by kernel_rfl)) (by decide) (fun K hK => ?_)
              refine goes_ Tryd.func24 (by kernel_rfl) rfl #[.slice Ao22 t115.length co22, .slice Ao69 t126.length co69] (by rfl) rfl rfl zm ?_
              with_reducible refine (sorobanref01_Same.calls _ _ t115 _ _ t126 false _ ?side1 ?side2 ?side3 ?side4 A39.out).mono ?_
              (case side1 => repeat (first | exact (Kd.R_reads' HO_120001.out).2.2 | (with_reducible refine Kd.C_alloc ?_ _) | (with_reducible refine Kd.C_drewN ?_ _) | (with_reducible refine Kd.C_drew ?_)))
              (case side2 => exact (Kd.R_reads' HO_120001.out).2.1)
              (case side3 => repeat (first | exact (Kd.R_reads' HO128.out).2.2 | (with_reducible refine Kd.C_alloc ?_ _) | (with_reducible refine Kd.C_drewN ?_ _) | (with_reducible refine Kd.C_drew ?_)))
              (case side4 => exact (Kd.R_reads' HO128.out).2.1)
              rintro e w70 ⟨rfl, hb⟩
              refine ⟨_, rfl, ?_⟩
              have n0_ := Aside0.mk (Kd.R_below (zr HO_114003.out) hb)
              have n1_ := Aside0.mk (Kd.R_below (zr HO_120001.out) hb)
              have n2_ := Aside0.mk (Kd.R_below (zr HO128.out) hb)
              have n3_ := Aside0.mk (blk_below (g := gb101) (o := .cells #[.int .u64 a1_0, .int .u64 a1_1] 28 (0, 0)) (zk BK101.out) hb)
              have n4_ := Aside0.mk (blk_below (g := gb113) (o := .cells #[.int .i64 t105, .int .i64 t106, .bool t107, .slice Ao16 t108.length co16, .int .i64 t111] 25 (0, 0)) (zk BK113.out) hb)
              have n5_ := Aside0.mk (blk_below (g := gb119) (o := .cells #[.bool t114, .slice Ao22 t115.length co22] 48 (0, 0)) (zk BK119.out) hb)
              have n6_ := Aside0.mk (blk_below (g := gb124) (o := .cells #[.int .u64 t121, .int .u64 t122] 28 (0, 0)) (zk BK124.out) hb)
              have n7_ := Aside0.mk (below_step (zb HB.out) hb)
              clear HO_114003
              clear HO_120001
              clear HO128
              clear BK101
              clear BK113
              clear BK119
              clear BK124
              clear HB
              have HO_114003 := n0_
              have HO_120001 := n1_
              have HO128 := n2_
              have BK101 := n3_
              have BK113 := n4_
              have BK119 := n5_
              have BK124 := n6_
              have HB := n7_
              clear n0_ n1_ n2_ n3_ n4_ n5_ n6_ n7_
              (try clear hb)
              (try clear hb2)
              (try clear hk)
              (try clear hi)
              refine hK.out _ _ ⟨(blk_cell BK119.out 0).trans rfl, (blk_cell BK119.out 1).trans rfl, (blk_cell BK124.out 0).trans rfl, (blk_cell BK124.out 1).trans rfl⟩ (fun hHeld => ?_)
              clear hK K
              refine norm_ (a' := ?_) ?_ ?_
              rotate_left
              · show Act.put _ (some 53) _ = _
                simp only [Act.put, List.setIfInBounds_toArray, List.set_cons_zero, List.set_cons_succ, i64_w, i32_w]
                rfl
              refine pure_ (i := 11) (N := some 54) (v := ?_) (a' := ?_) #[true, true, true, true, true, true, true, true, true, true, true, true, false, false, false, false, false, false] rfl rfl (any_of HT_.out (by kernel_rfl)) (fun _ _ _ h => h) (Or.inl ⟨by rfl, ?_⟩) ?_ ?_
              rotate_left
              · intro w'
                go_simp
                with_reducible rfl
              rotate_left
              · simp only [Act.put, List.setIfInBounds_toArray, List.set_cons_zero, List.set_cons_succ, i64_w, i32_w]
                rfl
              refine pure_ (i := 12) (N := some 55) (v := ?_) (a' := ?_) #[true, true, true, true, true, true, true, true, true, true, true, true, true, false, false, false, false, false] rfl rfl (any_of HT_.out (by kernel_rfl)) (fun _ _ _ h => h) (Or.inl ⟨by rfl, ?_⟩) ?_ ?_
              rotate_left
              · intro w'
                go_simp
                with_reducible rfl
              rotate_left
              · simp only [Act.put, List.setIfInBounds_toArray, List.set_cons_zero, List.set_cons_succ, i64_w, i32_w]
                rfl
              refine pure_ (i := 13) (N := some 56) (v := undef) (a' := ?_) #[true, true, true, true, true, true, true, true, true, true, true, true, true, true, false, false, false, false] rfl rfl (any_of HT_.out (by kernel_rfl)) (fun _ _ _ h => h) (Or.inr ⟨by rfl, rfl⟩) ?_ ?_
              rotate_left
              · simp only [Act.put, List.setIfInBounds_toArray, List.set_cons_zero, List.set_cons_succ, i64_w, i32_w]
                rfl
              refine pure_ (i := 14) (N := some 57) (v := undef) (a' := ?_) #[true, true, true, true, true, true, true, true, true, true, true, true, true, true, true, false, false, false] rfl rfl (any_of HT_.out (by kernel_rfl)) (fun _ _ _ h => h) (Or.inr ⟨by rfl, rfl⟩) ?_ ?_
              rotate_left
              · simp only [Act.put, List.setIfInBounds_toArray, List.set_cons_zero, List.set_cons_succ, i64_w, i32_w]
                rfl
              refine pure_ (i := 15) (N := some 58) (v := undef) (a' := ?_) #[true, true, true, true, true, true, true, true, true, true, true, true, true, true, true, true, false, false] rfl rfl (any_of HT_.out (by kernel_rfl)) (fun _ _ _ h => h) (Or.inr ⟨by rfl, rfl⟩) ?_ ?_
              rotate_left
              · simp only [Act.put, List.setIfInBounds_toArray, List.set_cons_zero, List.set_cons_succ, i64_w, i32_w]
                rfl
              refine pure_ (i := 16) (N := some 59) (v := ?_) (a' := ?_) #[true, true, true, true, true, true, true, true, true, true, true, true, true, true, true, true, true, false] rfl rfl (any_of HT_.out (by kernel_rfl)) (fun _ _ _ h => h) (Or.inl ⟨by rfl, ?_⟩) ?_ ?_
              rotate_left
              · intro w'
                go_simp
                with_reducible rfl
              rotate_left
              · simp only [Act.put, List.setIfInBounds_toArray, List.set_cons_zero, List.set_cons_succ, i64_w, i32_w]
                rfl
              refine pure_ (i := 17) (N := some 4) (v := ?_) (a' := ?_) #[true, true, true, true, true, true, true, true, true, true, true, true, true, true, true, true, true, true] rfl rfl (any_of HT_.out (by kernel_rfl)) (fun _ _ _ h => h) (Or.inl ⟨by rfl, ?_⟩) ?_ ?_
              rotate_left
              · intro w'
                go_simp
                with_reducible rfl
              rotate_left
              · simp only [Act.put, List.setIfInBounds_toArray, List.set_cons_zero, List.set_cons_succ, i64_w, i32_w]
                rfl
              refine done_ (done_of HT_.out (by kernel_rfl)) ?_
              try go_wp2
              go_ret
              exact ⟨by first | rfl | (simp [errW_none, errW_some] <;> rfl) | (simp [*, errW_none, errW_some] <;> rfl), by repeat (first | (with_reducible first | exact HB.out | apply below_alloc | apply pw_below_drewN | apply below_drew1 | refine below_set ?_ GE101.out | refine below_set ?_ GE113.out | refine below_set ?_ GE119.out | refine below_set ?_ GE124.out) | exact HB.out)⟩
          · rw [if_neg c37] at H
            have c37b0 : (t123 == 0) = false := beq_eq_false_iff_ne.mpr c37
            have c37b1 : (t123 != 0) = true := bne_iff_ne.mpr c37
            obtain rfl := Option.some.inj H
            have hnb71 := NB113_101.out
            have hnc71 := NB101_113.out
            have hnb72 := NB113_119.out
            have hnc72 := NB119_113.out
            have hcz73_0 : wc.cell? ⟨gb113, 0, none⟩ = some (.int .i64 t105) := (blk_cell BK113.out 0).trans rfl
            have hcz73_1 : wc.cell? ⟨gb113, 1, none⟩ = some (.int .i64 t106) := (blk_cell BK113.out 1).trans rfl
            have hcz73_2 : wc.cell? ⟨gb113, 2, none⟩ = some (.bool t107) := (blk_cell BK113.out 2).trans rfl
            have hcz73_3 : wc.cell? ⟨gb113, 3, none⟩ = some (.slice Ao16 t108.length co16) := (blk_cell BK113.out 3).trans rfl
            have hcz73_4 : wc.cell? ⟨gb113, 4, none⟩ = some (.int .i64 t111) := (blk_cell BK113.out 4).trans rfl
            have hfz73_0 := blk_frozen BK113.out 0
            have hfz73_1 := blk_frozen BK113.out 1
            have hfz73_2 := blk_frozen BK113.out 2
            have hfz73_3 := blk_frozen BK113.out 3
            have hfz73_4 := blk_frozen BK113.out 4
            try go_wp2_with (first | ((with_reducible refine gate_callee (f := 12) rfl ?_); refine goesL_ (some 40) rfl rfl Tryd.func12 (by kernel_rfl) rfl #[.agg #[.int .i64 t105, .int .i64 t106, .bool t107, .slice Ao16 t108.length co16, .int .i64 t111]] rfl zm ?_; (with_reducible refine (binary_Encode.calls t105 t106 t107 _ _ t108 t111 t121 t122 t123 _ ?side1 ?side2 A34.out).mono ?_); (case side1 => repeat (first | exact (Kd.R_reads' HO_114003.out).2.2 | (with_reducible refine Kd.C_alloc ?_ _) | (with_reducible refine Kd.C_drewN ?_ _) | (with_reducible refine Kd.C_drew ?_))); (case side2 => exact (Kd.R_reads' HO_114003.out).2.1); rintro e w74 ⟨rfl, hb⟩; refine ⟨_, rfl, ?_⟩; have n0_ := Aside0.mk (Kd.R_below (zr HO_114003.out) hb); have n1_ := Aside0.mk (Kd.R_below (zr HO_120001.out) hb); have n2_ := Aside0.mk (blk_below (g := gb101) (o := .cells #[.int .u64 a1_0, .int .u64 a1_1] 28 (0, 0)) (zk BK101.out) hb); have n3_ := Aside0.mk (blk_below (g := gb113) (o := .cells #[.int .i64 t105, .int .i64 t106, .bool t107, .slice Ao16 t108.length co16, .int .i64 t111] 25 (0, 0)) (zk BK113.out) hb); have n4_ := Aside0.mk (blk_below (g := gb119) (o := .cells #[.bool t114, .slice Ao22 t115.length co22] 48 (0, 0)) (zk BK119.out) hb); have n5_ := Aside0.mk (below_step (zb HB.out) hb); clear HO_114003; clear HO_120001; clear BK101; clear BK113; clear BK119; clear HB; have HO_114003 := n0_; have HO_120001 := n1_; have BK101 := n2_; have BK113 := n3_; have BK119 := n4_; have HB := n5_; clear n0_ n1_ n2_ n3_ n4_ n5_; (try clear hb); (try clear hb2); (try clear hk); (try clear hi)) | ((with_reducible refine gate_dst (N := 10) rfl ?_); refine box_event ?hg (N := 10) ?hd (cs := #[.int .u64 0, .int .u64 0]) (t := 28) ?hr ?_; (case hd => rfl); (case hg => rfl); (case hr => first | (go_simp; done) | (go_simp; rfl)); intro gb124 hg w75 hbox hb; have n0_ := Aside0.mk (Kd.R_below (zr HO_114003.out) hb); have n1_ := Aside0.mk (Kd.R_below (zr HO_120001.out) hb); have n2_ := Aside0.mk (blk_below (g := gb101) (o := .cells #[.int .u64 a1_0, .int .u64 a1_1] 28 (0, 0)) (zk BK101.out) hb); have n3_ := Aside0.mk (blk_below (g := gb113) (o := .cells #[.int .i64 t105, .int .i64 t106, .bool t107, .slice Ao16 t108.length co16, .int .i64 t111] 25 (0, 0)) (zk BK113.out) hb); have n4_ := Aside0.mk (blk_below (g := gb119) (o := .cells #[.bool t114, .slice Ao22 t115.length co22] 48 (0, 0)) (zk BK119.out) hb); have n5_ := Aside0.mk (below_step (zb HB.out) hb); have n6_ := Aside0.mk (hbox); have n7_ := Aside0.mk ((by rw [hg]; exact (below_size (zb HB.out)) : w.heap.size ≤ gb124)); have n8_ := Aside0.mk ((by rw [hg]; exact (below_size (zb HB.out)) : w.heap.size ≤ gb124)); have n9_ := Aside0.mk ((by rw [hg]; exact Nat.ne_of_lt (blk_lt (g := gb101) (o := .cells #[.int .u64 a1_0, .int .u64 a1_1] 28 (0, 0)) (zk BK101.out)) : gb101 ≠ gb124)); have n10_ := Aside0.mk ((by rw [hg]; exact Nat.ne_of_gt (blk_lt (g := gb101) (o := .cells #[.int .u64 a1_0, .int .u64 a1_1] 28 (0, 0)) (zk BK101.out)) : gb124 ≠ gb101)); have n11_ := Aside0.mk ((by rw [hg]; exact Nat.ne_of_lt (blk_lt (g := gb113) (o := .cells #[.int .i64 t105, .int .i64 t106, .bool t107, .slice Ao16 t108.length co16, .int .i64 t111] 25 (0, 0)) (zk BK113.out)) : gb113 ≠ gb124)); have n12_ := Aside0.mk ((by rw [hg]; exact Nat.ne_of_gt (blk_lt (g := gb113) (o := .cells #[.int .i64 t105, .int .i64 t106, .bool t107, .slice Ao16 t108.length co16, .int .i64 t111] 25 (0, 0)) (zk BK113.out)) : gb124 ≠ gb113)); have n13_ := Aside0.mk ((by rw [hg]; exact Nat.ne_of_lt (blk_lt (g := gb119) (o := .cells #[.bool t114, .slice Ao22 t115.length co22] 48 (0, 0)) (zk BK119.out)) : gb119 ≠ gb124)); have n14_ := Aside0.mk ((by rw [hg]; exact Nat.ne_of_gt (blk_lt (g := gb119) (o := .cells #[.bool t114, .slice Ao22 t115.length co22] 48 (0, 0)) (zk BK119.out)) : gb124 ≠ gb119)); clear HO_114003; clear HO_120001; clear BK101; clear BK113; clear BK119; clear HB; have HO_114003 := n0_; have HO_120001 := n1_; have BK101 := n2_; have BK113 := n3_; have BK119 := n4_; have HB := n5_; have BK124 := n6_; have GW124 := n7_; have GE124 := n8_; have NB101_124 := n9_; have NB124_101 := n10_; have NB113_124 := n11_; have NB124_113 := n12_; have NB119_124 := n13_; have NB124_119 := n14_; clear n0_ n1_ n2_ n3_ n4_ n5_ n6_ n7_ n8_ n9_ n10_ n11_ n12_ n13_ n14_; clear hb hbox hg; have hnb76 := NB124_101.out; have hnc76 := NB101_124.out; have hnb77 := NB124_113.out; have hnc77 := NB113_124.out; have hnb78 := NB124_119.out; have hnc78 := NB119_124.out; have hcz79_0 : w75.cell? ⟨gb124, 0, none⟩ = some (.int .u64 0) := (blk_cell BK124.out 0).trans rfl; have hcz79_1 : w75.cell? ⟨gb124, 1, none⟩ = some (.int .u64 0) := (blk_cell BK124.out 1).trans rfl; have hfz79_0 := blk_frozen BK124.out 0; have hfz79_1 := blk_frozen BK124.out 1))
            have n0_ : Aside0 (Kd.R (Kd.int .u32) 77 ((w75.setCell ⟨gb124, 0, none⟩ (.int .u64 t121)).setCell ⟨gb124, 1, none⟩ (.int .u64 t122)) w.heap.size (fun k_ => some k_ ≠ (.slice Ao22 t115.length co22 : Value).ownBlock) (.slice Ao16 t108.length co16) t108) := ⟨by (with_reducible repeat (first | apply Kd.R_alloc | apply Kd.R_drewN | apply Kd.R_drew)); exact Kd.R_mono (Kd.R_far (p := ⟨gb124, 1, none⟩) (Kd.R_far (p := ⟨gb124, 0, none⟩) (Kd.R_types HO_114003.out BK124.out (by decide)) (fun _ hk => hk.2) (.int .u64 t121)) (fun _ hk => hk.2) (.int .u64 t122)) (fun _ hk => hk.1)⟩
            have n1_ : Aside0 (Kd.R (Kd.int .u32) 77 ((w75.setCell ⟨gb124, 0, none⟩ (.int .u64 t121)).setCell ⟨gb124, 1, none⟩ (.int .u64 t122)) w.heap.size (fun k_ => some k_ ≠ (.slice Ao16 t108.length co16 : Value).ownBlock) (.slice Ao22 t115.length co22) t115) := ⟨by (with_reducible repeat (first | apply Kd.R_alloc | apply Kd.R_drewN | apply Kd.R_drew)); exact Kd.R_mono (Kd.R_far (p := ⟨gb124, 1, none⟩) (Kd.R_far (p := ⟨gb124, 0, none⟩) (Kd.R_types HO_120001.out BK124.out (by decide)) (fun _ hk => hk.2) (.int .u64 t121)) (fun _ hk => hk.2) (.int .u64 t122)) (fun _ hk => hk.1)⟩
            have n2_ : Aside0 (((w75.setCell ⟨gb124, 0, none⟩ (.int .u64 t121)).setCell ⟨gb124, 1, none⟩ (.int .u64 t122)).heap[gb101]? = some (.cells #[.int .u64 a1_0, .int .u64 a1_1] 28 (0, 0))) := ⟨by (with_reducible repeat (first | refine blk_drewN ?_ _ | refine blk_drew ?_ | refine blk_alloc ?_ _)); refine blk_far ?_ NB101_124.out _; (with_reducible repeat (first | refine blk_drewN ?_ _ | refine blk_drew ?_ | refine blk_alloc ?_ _)); refine blk_far ?_ NB101_124.out _; (with_reducible repeat (first | refine blk_drewN ?_ _ | refine blk_drew ?_ | refine blk_alloc ?_ _)); exact BK101.out⟩
            have n3_ : Aside0 (((w75.setCell ⟨gb124, 0, none⟩ (.int .u64 t121)).setCell ⟨gb124, 1, none⟩ (.int .u64 t122)).heap[gb113]? = some (.cells #[.int .i64 t105, .int .i64 t106, .bool t107, .slice Ao16 t108.length co16, .int .i64 t111] 25 (0, 0))) := ⟨by (with_reducible repeat (first | refine blk_drewN ?_ _ | refine blk_drew ?_ | refine blk_alloc ?_ _)); refine blk_far ?_ NB113_124.out _; (with_reducible repeat (first | refine blk_drewN ?_ _ | refine blk_drew ?_ | refine blk_alloc ?_ _)); refine blk_far ?_ NB113_124.out _; (with_reducible repeat (first | refine blk_drewN ?_ _ | refine blk_drew ?_ | refine blk_alloc ?_ _)); exact BK113.out⟩
            have n4_ : Aside0 (((w75.setCell ⟨gb124, 0, none⟩ (.int .u64 t121)).setCell ⟨gb124, 1, none⟩ (.int .u64 t122)).heap[gb119]? = some (.cells #[.bool t114, .slice Ao22 t115.length co22] 48 (0, 0))) := ⟨by (with_reducible repeat (first | refine blk_drewN ?_ _ | refine blk_drew ?_ | refine blk_alloc ?_ _)); refine blk_far ?_ NB119_124.out _; (with_reducible repeat (first | refine blk_drewN ?_ _ | refine blk_drew ?_ | refine blk_alloc ?_ _)); refine blk_far ?_ NB119_124.out _; (with_reducible repeat (first | refine blk_drewN ?_ _ | refine blk_drew ?_ | refine blk_alloc ?_ _)); exact BK119.out⟩
            have n5_ : Aside0 (((w75.setCell ⟨gb124, 0, none⟩ (.int .u64 t121)).setCell ⟨gb124, 1, none⟩ (.int .u64 t122)).heap[gb124]? = some (.cells #[.int .u64 t121, .int .u64 t122] 28 (0, 0))) := ⟨by (with_reducible repeat (first | refine blk_drewN ?_ _ | refine blk_drew ?_ | refine blk_alloc ?_ _)); refine blk_put (cs := #[.int .u64 t121, .int .u64 0]) ?_ 1 _ rfl; (with_reducible repeat (first | refine blk_drewN ?_ _ | refine blk_drew ?_ | refine blk_alloc ?_ _)); refine blk_put (cs := #[.int .u64 0, .int .u64 0]) ?_ 0 _ rfl; (with_reducible repeat (first | refine blk_drewN ?_ _ | refine blk_drew ?_ | refine blk_alloc ?_ _)); exact BK124.out⟩
            have n6_ : Aside0 (Below w.heap.size w ((w75.setCell ⟨gb124, 0, none⟩ (.int .u64 t121)).setCell ⟨gb124, 1, none⟩ (.int .u64 t122))) := ⟨zb HB.out⟩
            (try clear HO_114003)
            (try clear HO_120001)
            (try clear BK101)
            (try clear BK113)
            (try clear BK119)
            (try clear BK124)
            (try clear HB)
            generalize ((w75.setCell ⟨gb124, 0, none⟩ (.int .u64 t121)).setCell ⟨gb124, 1, none⟩ (.int .u64 t122)) = w80 at n0_ n1_ n2_ n3_ n4_ n5_ n6_ ⊢
            have HO_114003 := n0_
            have HO_120001 := n1_
            have BK101 := n2_
            have BK113 := n3_
            have BK119 := n4_
            have BK124 := n5_
            have HB := n6_
            clear n0_ n1_ n2_ n3_ n4_ n5_ n6_
            have n0_ := Aside0.mk (Kd.R_drew HO_114003.out)
            have n1_ := Aside0.mk (Kd.R_drew HO_120001.out)
            have n2_ := Aside0.mk (blk_drew BK101.out)
            have n3_ := Aside0.mk (blk_drew BK113.out)
            have n4_ := Aside0.mk (blk_drew BK119.out)
            have n5_ := Aside0.mk (blk_drew BK124.out)
            have n6_ := Aside0.mk (below_drew1 HB.out)
            clear HO_114003
            clear HO_120001
            clear BK101
            clear BK113
            clear BK119
            clear BK124
            clear HB
            have HO_114003 := n0_
            have HO_120001 := n1_
            have BK101 := n2_
            have BK113 := n3_
            have BK119 := n4_
            have BK124 := n5_
            have HB := n6_
            clear n0_ n1_ n2_ n3_ n4_ n5_ n6_
            refine start_ (n := 18) (S := fun w' => True) (ds := []) #[false, false, false, false, false, false, false, false, false, false, false, false, false, false, false, false, false, false] (by kernel_rfl) rfl rfl trivial (fun hHeld => ?_); refine with_tabW sorobanlaw05_BinaryPlaces.tab7 sorobanlaw05_BinaryPlaces.bits7 (fun HT_ HW_ => ?_)
            generalize w80.drew = w81 at HO_114003 HO_120001 BK101 BK113 BK119 BK124 HB hHeld ⊢
            refine one_ (i := 0) (N := some 43) #[true, false, false, false, false, false, false, false, false, false, false, false, false, false, false, false, false, false] rfl rfl (one_of HT_.out (by kernel_rfl)) (by decide) (fun K hK => ?_)
            refine goes_ Tryd.func11 (by kernel_rfl) rfl #[] (by rfl) rfl rfl zm ?_
            with_reducible refine (sorobanlaw05_sanity.calls  true _ A35.out (HTAB.out.below (zb HB.out))).mono ?_
            rintro e w82 ⟨rfl, hb⟩
            refine ⟨_, rfl, ?_⟩
            have n0_ := Aside0.mk (Kd.R_below (zr HO_114003.out) hb)
            have n1_ := Aside0.mk (Kd.R_below (zr HO_120001.out) hb)
            have n2_ := Aside0.mk (blk_below (g := gb101) (o := .cells #[.int .u64 a1_0, .int .u64 a1_1] 28 (0, 0)) (zk BK101.out) hb)
            have n3_ := Aside0.mk (blk_below (g := gb113) (o := .cells #[.int .i64 t105, .int .i64 t106, .bool t107, .slice Ao16 t108.length co16, .int .i64 t111] 25 (0, 0)) (zk BK113.out) hb)
            have n4_ := Aside0.mk (blk_below (g := gb119) (o := .cells #[.bool t114, .slice Ao22 t115.length co22] 48 (0, 0)) (zk BK119.out) hb)
            have n5_ := Aside0.mk (blk_below (g := gb124) (o := .cells #[.int .u64 t121, .int .u64 t122] 28 (0, 0)) (zk BK124.out) hb)
            have n6_ := Aside0.mk (below_step (zb HB.out) hb)
            clear HO_114003
            clear HO_120001
            clear BK101
            clear BK113
            clear BK119
            clear BK124
            clear HB
            have HO_114003 := n0_
            have HO_120001 := n1_
            have BK101 := n2_
            have BK113 := n3_
            have BK119 := n4_
            have BK124 := n5_
            have HB := n6_
            clear n0_ n1_ n2_ n3_ n4_ n5_ n6_
            (try clear hb)
            (try clear hb2)
            (try clear hk)
            (try clear hi)
            refine hK.out _ _ trivial (fun hHeld => ?_)
            clear hK K
            refine norm_ (a' := ?_) ?_ ?_
            rotate_left
            · show Act.put _ (some 43) _ = _
              simp only [Act.put, List.setIfInBounds_toArray, List.set_cons_zero, List.set_cons_succ, i64_w, i32_w]
              rfl
            refine pure_ (i := 1) (N := some 44) (v := ?_) (a' := ?_) #[true, true, false, false, false, false, false, false, false, false, false, false, false, false, false, false, false, false] rfl rfl (any_of HT_.out (by kernel_rfl)) (fun _ _ _ h => h) (Or.inl ⟨by rfl, ?_⟩) ?_ ?_
            rotate_left
            · intro w'
              go_simp
              with_reducible rfl
            rotate_left
            · simp only [Act.put, List.setIfInBounds_toArray, List.set_cons_zero, List.set_cons_succ, i64_w, i32_w]
              rfl
            refine pure_ (i := 2) (N := some 45) (v := ?_) (a' := ?_) #[true, true, true, false, false, false, false, false, false, false, false, false, false, false, false, false, false, false] rfl rfl (any_of HT_.out (by kernel_rfl)) (fun _ _ _ h => h) (Or.inl ⟨by rfl, ?_⟩) ?_ ?_
            rotate_left
            · intro w'
              go_simp
              with_reducible rfl
            rotate_left
            · simp only [Act.put, List.setIfInBounds_toArray, List.set_cons_zero, List.set_cons_succ, i64_w, i32_w]
              rfl
            refine pure_ (i := 3) (N := some 46) (v := ?_) (a' := ?_) #[true, true, true, true, false, false, false, false, false, false, false, false, false, false, false, false, false, false] rfl rfl (any_of HT_.out (by kernel_rfl)) (fun _ _ _ h => h) (Or.inl ⟨by rfl, ?_⟩) ?_ ?_
            rotate_left
            · intro w'
              go_simp
              with_reducible rfl
            rotate_left
            · simp only [Act.put, List.setIfInBounds_toArray, List.set_cons_zero, List.set_cons_succ, i64_w, i32_w]
              rfl
            refine pure_ (i := 4) (N := some 47) (v := ?_) (a' := ?_) #[true, true, true, true, true, false, false, false, false, false, false, false, false, false, false, false, false, false] rfl rfl (any_of HT_.out (by kernel_rfl)) (fun _ _ _ h => h) (Or.inl ⟨by rfl, ?_⟩) ?_ ?_
            rotate_left
            · intro w'
              go_simp
              with_reducible rfl
            rotate_left
            · simp only [Act.put, List.setIfInBounds_toArray, List.set_cons_zero, List.set_cons_succ, i64_w, i32_w]
              rfl
            refine pure_ (i := 5) (N := some 48) (v := ?_) (a' := ?_) #[true, true, true, true, true, true, false, false, false, false, false, false, false, false, false, false, false, false] rfl rfl (any_of HT_.out (by kernel_rfl)) (fun _ _ _ h => h) (Or.inl ⟨by rfl, ?_⟩) ?_ ?_
            rotate_left
            · intro w'
              go_simp
              with_reducible rfl
            rotate_left
            · simp only [Act.put, List.setIfInBounds_toArray, List.set_cons_zero, List.set_cons_succ, i64_w, i32_w]
              rfl
            refine pure_ (i := 6) (N := some 49) (v := undef) (a' := ?_) #[true, true, true, true, true, true, true, false, false, false, false, false, false, false, false, false, false, false] rfl rfl (any_of HT_.out (by kernel_rfl)) (fun _ _ _ h => h) (Or.inr ⟨by rfl, rfl⟩) ?_ ?_
            rotate_left
            · simp only [Act.put, List.setIfInBounds_toArray, List.set_cons_zero, List.set_cons_succ, i64_w, i32_w]
              rfl
            refine pure_ (i := 7) (N := some 50) (v := undef) (a' := ?_) #[true, true, true, true, true, true, true, true, false, false, false, false, false, false, false, false, false, false] rfl rfl (any_of HT_.out (by kernel_rfl)) (fun _ _ _ h => h) (Or.inr ⟨by rfl, rfl⟩) ?_ ?_
            rotate_left
            · simp only [Act.put, List.setIfInBounds_toArray, List.set_cons_zero, List.set_cons_succ, i64_w, i32_w]
              rfl
            refine pure_ (i := 8) (N := some 51) (v := undef) (a' := ?_) #[true, true, true, true, true, true, true, true, true, false, false, false, false, false, false, false, false, false] rfl rfl (any_of HT_.out (by kernel_rfl)) (fun _ _ _ h => h) (Or.inr ⟨by rfl, rfl⟩) ?_ ?_
            rotate_left
            · simp only [Act.put, List.setIfInBounds_toArray, List.set_cons_zero, List.set_cons_succ, i64_w, i32_w]
              rfl
            refine pure_ (i := 9) (N := some 52) (v := undef) (a' := ?_) #[true, true, true, true, true, true, true, true, true, true, false, false, false, false, false, false, false, false] rfl rfl (any_of HT_.out (by kernel_rfl)) (fun _ _ _ h => h) (Or.inr ⟨by rfl, rfl⟩) ?_ ?_
            rotate_left
            · simp only [Act.put, List.setIfInBounds_toArray, List.set_cons_zero, List.set_cons_succ, i64_w, i32_w]
              rfl
            refine pure_ (i := 10) (N := some 53) (v := undef) (a' := ?_) #[true, true, true, true, true, true, true, true, true, true, true, false, false, false, false, false, false, false] rfl rfl (any_of HT_.out (by kernel_rfl)) (fun _ _ _ h => h) (Or.inr ⟨by rfl, rfl⟩) ?_ ?_
            rotate_left
            · simp only [Act.put, List.setIfInBounds_toArray, List.set_cons_zero, List.set_cons_succ, i64_w, i32_w]
              rfl
            refine pure_ (i := 11) (N := some 54) (v := ?_) (a' := ?_) #[true, true, true, true, true, true, true, true, true, true, true, true, false, false, false, false, false, false] rfl rfl (any_of HT_.out (by kernel_rfl)) (fun _ _ _ h => h) (Or.inl ⟨by rfl, ?_⟩) ?_ ?_
            rotate_left
            · intro w'
              go_simp
              with_reducible rfl
            rotate_left
            · simp only [Act.put, List.setIfInBounds_toArray, List.set_cons_zero, List.set_cons_succ, i64_w, i32_w]
              rfl
            refine pure_ (i := 12) (N := some 55) (v := ?_) (a' := ?_) #[true, true, true, true, true, true, true, true, true, true, true, true, true, false, false, false, false, false] rfl rfl (any_of HT_.out (by kernel_rfl)) (fun _ _ _ h => h) (Or.inl ⟨by rfl, ?_⟩) ?_ ?_
            rotate_left
            · intro w'
              go_simp
              with_reducible rfl
            rotate_left
            · simp only [Act.put, List.setIfInBounds_toArray, List.set_cons_zero, List.set_cons_succ, i64_w, i32_w]
              rfl
            refine pure_ (i := 13) (N := some 56) (v := undef) (a' := ?_) #[true, true, true, true, true, true, true, true, true, true, true, true, true, true, false, false, false, false] rfl rfl (any_of HT_.out (by kernel_rfl)) (fun _ _ _ h => h) (Or.inr ⟨by rfl, rfl⟩) ?_ ?_
            rotate_left
            · simp only [Act.put, List.setIfInBounds_toArray, List.set_cons_zero, List.set_cons_succ, i64_w, i32_w]
              rfl
            refine pure_ (i := 14) (N := some 57) (v := undef) (a' := ?_) #[true, true, true, true, true, true, true, true, true, true, true, true, true, true, true, false, false, false] rfl rfl (any_of HT_.out (by kernel_rfl)) (fun _ _ _ h => h) (Or.inr ⟨by rfl, rfl⟩) ?_ ?_
            rotate_left
            · simp only [Act.put, List.setIfInBounds_toArray, List.set_cons_zero, List.set_cons_succ, i64_w, i32_w]
              rfl
            refine pure_ (i := 15) (N := some 58) (v := undef) (a' := ?_) #[true, true, true, true, true, true, true, true, true, true, true, true, true, true, true, true, false, false] rfl rfl (any_of HT_.out (by kernel_rfl)) (fun _ _ _ h => h) (Or.inr ⟨by rfl, rfl⟩) ?_ ?_
            rotate_left
            · simp only [Act.put, List.setIfInBounds_toArray, List.set_cons_zero, List.set_cons_succ, i64_w, i32_w]
              rfl
            refine pure_ (i := 16) (N := some 59) (v := ?_) (a' := ?_) #[true, true, true, true, true, true, true, true, true, true, true, true, true, true, true, true, true, false] rfl rfl (any_of HT_.out (by kernel_rfl)) (fun _ _ _ h => h) (Or.inl ⟨by rfl, ?_⟩) ?_ ?_
            rotate_left
            · intro w'
              go_simp
              with_reducible rfl
            rotate_left
            · simp only [Act.put, List.setIfInBounds_toArray, List.set_cons_zero, List.set_cons_succ, i64_w, i32_w]
              rfl
            refine pure_ (i := 17) (N := some 4) (v := ?_) (a' := ?_) #[true, true, true, true, true, true, true, true, true, true, true, true, true, true, true, true, true, true] rfl rfl (any_of HT_.out (by kernel_rfl)) (fun _ _ _ h => h) (Or.inl ⟨by rfl, ?_⟩) ?_ ?_
            rotate_left
            · intro w'
              go_simp
              with_reducible rfl
            rotate_left
            · simp only [Act.put, List.setIfInBounds_toArray, List.set_cons_zero, List.set_cons_succ, i64_w, i32_w]
              rfl
            refine done_ (done_of HT_.out (by kernel_rfl)) ?_
            try go_wp2
            go_ret
            exact ⟨by first | rfl | (simp [errW_none, errW_some] <;> rfl) | (simp [*, errW_none, errW_some] <;> rfl), by repeat (first | (with_reducible first | exact HB.out | apply below_alloc | apply pw_below_drewN | apply below_drew1 | refine below_set ?_ GE101.out | refine below_set ?_ GE113.out | refine below_set ?_ GE119.out | refine below_set ?_ GE124.out) | exact HB.out)⟩
        · replace c36 := Bool.eq_false_iff.mpr c36
          subst c36
          have H1 : (some false) = some r := by rw [if_neg (show ¬ (false = true) by decide)] at H; exact H
          clear H
          have H := H1
          clear H1
          obtain rfl := Option.some.inj H
          have hnb83 := NB113_101.out
          have hnc83 := NB101_113.out
          have hnb84 := NB113_119.out
          have hnc84 := NB119_113.out
          have hcz85_0 : wc.cell? ⟨gb113, 0, none⟩ = some (.int .i64 t105) := (blk_cell BK113.out 0).trans rfl
          have hcz85_1 : wc.cell? ⟨gb113, 1, none⟩ = some (.int .i64 t106) := (blk_cell BK113.out 1).trans rfl
          have hcz85_2 : wc.cell? ⟨gb113, 2, none⟩ = some (.bool t107) := (blk_cell BK113.out 2).trans rfl
          have hcz85_3 : wc.cell? ⟨gb113, 3, none⟩ = some (.slice Ao16 t108.length co16) := (blk_cell BK113.out 3).trans rfl
          have hcz85_4 : wc.cell? ⟨gb113, 4, none⟩ = some (.int .i64 t111) := (blk_cell BK113.out 4).trans rfl
          have hfz85_0 := blk_frozen BK113.out 0
          have hfz85_1 := blk_frozen BK113.out 1
          have hfz85_2 := blk_frozen BK113.out 2
          have hfz85_3 := blk_frozen BK113.out 3
          have hfz85_4 := blk_frozen BK113.out 4
          try go_wp2_with (first | ((with_reducible refine gate_callee (f := 12) rfl ?_); refine goesL_ (some 40) rfl rfl Tryd.func12 (by kernel_rfl) rfl #[.agg #[.int .i64 t105, .int .i64 t106, .bool t107, .slice Ao16 t108.length co16, .int .i64 t111]] rfl zm ?_; (with_reducible refine (binary_Encode.calls t105 t106 t107 _ _ t108 t111 t121 t122 t123 _ ?side1 ?side2 A34.out).mono ?_); (case side1 => repeat (first | exact (Kd.R_reads' HO_114003.out).2.2 | (with_reducible refine Kd.C_alloc ?_ _) | (with_reducible refine Kd.C_drewN ?_ _) | (with_reducible refine Kd.C_drew ?_))); (case side2 => exact (Kd.R_reads' HO_114003.out).2.1); rintro e w86 ⟨rfl, hb⟩; refine ⟨_, rfl, ?_⟩; have n0_ := Aside0.mk (Kd.R_below (zr HO_114003.out) hb); have n1_ := Aside0.mk (Kd.R_below (zr HO_120001.out) hb); have n2_ := Aside0.mk (blk_below (g := gb101) (o := .cells #[.int .u64 a1_0, .int .u64 a1_1] 28 (0, 0)) (zk BK101.out) hb); have n3_ := Aside0.mk (blk_below (g := gb113) (o := .cells #[.int .i64 t105, .int .i64 t106, .bool t107, .slice Ao16 t108.length co16, .int .i64 t111] 25 (0, 0)) (zk BK113.out) hb); have n4_ := Aside0.mk (blk_below (g := gb119) (o := .cells #[.bool t114, .slice Ao22 t115.length co22] 48 (0, 0)) (zk BK119.out) hb); have n5_ := Aside0.mk (below_step (zb HB.out) hb); clear HO_114003; clear HO_120001; clear BK101; clear BK113; clear BK119; clear HB; have HO_114003 := n0_; have HO_120001 := n1_; have BK101 := n2_; have BK113 := n3_; have BK119 := n4_; have HB := n5_; clear n0_ n1_ n2_ n3_ n4_ n5_; (try clear hb); (try clear hb2); (try clear hk); (try clear hi)) | ((with_reducible refine gate_dst (N := 10) rfl ?_); refine box_event ?hg (N := 10) ?hd (cs := #[.int .u64 0, .int .u64 0]) (t := 28) ?hr ?_; (case hd => rfl); (case hg => rfl); (case hr => first | (go_simp; done) | (go_simp; rfl)); intro gb124 hg w87 hbox hb; have n0_ := Aside0.mk (Kd.R_below (zr HO_114003.out) hb); have n1_ := Aside0.mk (Kd.R_below (zr HO_120001.out) hb); have n2_ := Aside0.mk (blk_below (g := gb101) (o := .cells #[.int .u64 a1_0, .int .u64 a1_1] 28 (0, 0)) (zk BK101.out) hb); have n3_ := Aside0.mk (blk_below (g := gb113) (o := .cells #[.int .i64 t105, .int .i64 t106, .bool t107, .slice Ao16 t108.length co16, .int .i64 t111] 25 (0, 0)) (zk BK113.out) hb); have n4_ := Aside0.mk (blk_below (g := gb119) (o := .cells #[.bool t114, .slice Ao22 t115.length co22] 48 (0, 0)) (zk BK119.out) hb); have n5_ := Aside0.mk (below_step (zb HB.out) hb); have n6_ := Aside0.mk (hbox); have n7_ := Aside0.mk ((by rw [hg]; exact (below_size (zb HB.out)) : w.heap.size ≤ gb124)); have n8_ := Aside0.mk ((by rw [hg]; exact (below_size (zb HB.out)) : w.heap.size ≤ gb124)); have n9_ := Aside0.mk ((by rw [hg]; exact Nat.ne_of_lt (blk_lt (g := gb101) (o := .cells #[.int .u64 a1_0, .int .u64 a1_1] 28 (0, 0)) (zk BK101.out)) : gb101 ≠ gb124)); have n10_ := Aside0.mk ((by rw [hg]; exact Nat.ne_of_gt (blk_lt (g := gb101) (o := .cells #[.int .u64 a1_0, .int .u64 a1_1] 28 (0, 0)) (zk BK101.out)) : gb124 ≠ gb101)); have n11_ := Aside0.mk ((by rw [hg]; exact Nat.ne_of_lt (blk_lt (g := gb113) (o := .cells #[.int .i64 t105, .int .i64 t106, .bool t107, .slice Ao16 t108.length co16, .int .i64 t111] 25 (0, 0)) (zk BK113.out)) : gb113 ≠ gb124)); have n12_ := Aside0.mk ((by rw [hg]; exact Nat.ne_of_gt (blk_lt (g := gb113) (o := .cells #[.int .i64 t105, .int .i64 t106, .bool t107, .slice Ao16 t108.length co16, .int .i64 t111] 25 (0, 0)) (zk BK113.out)) : gb124 ≠ gb113)); have n13_ := Aside0.mk ((by rw [hg]; exact Nat.ne_of_lt (blk_lt (g := gb119) (o := .cells #[.bool t114, .slice Ao22 t115.length co22] 48 (0, 0)) (zk BK119.out)) : gb119 ≠ gb124)); have n14_ := Aside0.mk ((by rw [hg]; exact Nat.ne_of_gt (blk_lt (g := gb119) (o := .cells #[.bool t114, .slice Ao22 t115.length co22] 48 (0, 0)) (zk BK119.out)) : gb124 ≠ gb119)); clear HO_114003; clear HO_120001; clear BK101; clear BK113; clear BK119; clear HB; have HO_114003 := n0_; have HO_120001 := n1_; have BK101 := n2_; have BK113 := n3_; have BK119 := n4_; have HB := n5_; have BK124 := n6_; have GW124 := n7_; have GE124 := n8_; have NB101_124 := n9_; have NB124_101 := n10_; have NB113_124 := n11_; have NB124_113 := n12_; have NB119_124 := n13_; have NB124_119 := n14_; clear n0_ n1_ n2_ n3_ n4_ n5_ n6_ n7_ n8_ n9_ n10_ n11_ n12_ n13_ n14_; clear hb hbox hg; have hnb88 := NB124_101.out; have hnc88 := NB101_124.out; have hnb89 := NB124_113.out; have hnc89 := NB113_124.out; have hnb90 := NB124_119.out; have hnc90 := NB119_124.out; have hcz91_0 : w87.cell? ⟨gb124, 0, none⟩ = some (.int .u64 0) := (blk_cell BK124.out 0).trans rfl; have hcz91_1 : w87.cell? ⟨gb124, 1, none⟩ = some (.int .u64 0) := (blk_cell BK124.out 1).trans rfl; have hfz91_0 := blk_frozen BK124.out 0; have hfz91_1 := blk_frozen BK124.out 1))
          have n0_ : Aside0 (Kd.R (Kd.int .u32) 77 ((w87.setCell ⟨gb124, 0, none⟩ (.int .u64 t121)).setCell ⟨gb124, 1, none⟩ (.int .u64 t122)) w.heap.size (fun k_ => some k_ ≠ (.slice Ao22 t115.length co22 : Value).ownBlock) (.slice Ao16 t108.length co16) t108) := ⟨by (with_reducible repeat (first | apply Kd.R_alloc | apply Kd.R_drewN | apply Kd.R_drew)); exact Kd.R_mono (Kd.R_far (p := ⟨gb124, 1, none⟩) (Kd.R_far (p := ⟨gb124, 0, none⟩) (Kd.R_types HO_114003.out BK124.out (by decide)) (fun _ hk => hk.2) (.int .u64 t121)) (fun _ hk => hk.2) (.int .u64 t122)) (fun _ hk => hk.1)⟩
          have n1_ : Aside0 (Kd.R (Kd.int .u32) 77 ((w87.setCell ⟨gb124, 0, none⟩ (.int .u64 t121)).setCell ⟨gb124, 1, none⟩ (.int .u64 t122)) w.heap.size (fun k_ => some k_ ≠ (.slice Ao16 t108.length co16 : Value).ownBlock) (.slice Ao22 t115.length co22) t115) := ⟨by (with_reducible repeat (first | apply Kd.R_alloc | apply Kd.R_drewN | apply Kd.R_drew)); exact Kd.R_mono (Kd.R_far (p := ⟨gb124, 1, none⟩) (Kd.R_far (p := ⟨gb124, 0, none⟩) (Kd.R_types HO_120001.out BK124.out (by decide)) (fun _ hk => hk.2) (.int .u64 t121)) (fun _ hk => hk.2) (.int .u64 t122)) (fun _ hk => hk.1)⟩
          have n2_ : Aside0 (((w87.setCell ⟨gb124, 0, none⟩ (.int .u64 t121)).setCell ⟨gb124, 1, none⟩ (.int .u64 t122)).heap[gb101]? = some (.cells #[.int .u64 a1_0, .int .u64 a1_1] 28 (0, 0))) := ⟨by (with_reducible repeat (first | refine blk_drewN ?_ _ | refine blk_drew ?_ | refine blk_alloc ?_ _)); refine blk_far ?_ NB101_124.out _; (with_reducible repeat (first | refine blk_drewN ?_ _ | refine blk_drew ?_ | refine blk_alloc ?_ _)); refine blk_far ?_ NB101_124.out _; (with_reducible repeat (first | refine blk_drewN ?_ _ | refine blk_drew ?_ | refine blk_alloc ?_ _)); exact BK101.out⟩
          have n3_ : Aside0 (((w87.setCell ⟨gb124, 0, none⟩ (.int .u64 t121)).setCell ⟨gb124, 1, none⟩ (.int .u64 t122)).heap[gb113]? = some (.cells #[.int .i64 t105, .int .i64 t106, .bool t107, .slice Ao16 t108.length co16, .int .i64 t111] 25 (0, 0))) := ⟨by (with_reducible repeat (first | refine blk_drewN ?_ _ | refine blk_drew ?_ | refine blk_alloc ?_ _)); refine blk_far ?_ NB113_124.out _; (with_reducible repeat (first | refine blk_drewN ?_ _ | refine blk_drew ?_ | refine blk_alloc ?_ _)); refine blk_far ?_ NB113_124.out _; (with_reducible repeat (first | refine blk_drewN ?_ _ | refine blk_drew ?_ | refine blk_alloc ?_ _)); exact BK113.out⟩
          have n4_ : Aside0 (((w87.setCell ⟨gb124, 0, none⟩ (.int .u64 t121)).setCell ⟨gb124, 1, none⟩ (.int .u64 t122)).heap[gb119]? = some (.cells #[.bool t114, .slice Ao22 t115.length co22] 48 (0, 0))) := ⟨by (with_reducible repeat (first | refine blk_drewN ?_ _ | refine blk_drew ?_ | refine blk_alloc ?_ _)); refine blk_far ?_ NB119_124.out _; (with_reducible repeat (first | refine blk_drewN ?_ _ | refine blk_drew ?_ | refine blk_alloc ?_ _)); refine blk_far ?_ NB119_124.out _; (with_reducible repeat (first | refine blk_drewN ?_ _ | refine blk_drew ?_ | refine blk_alloc ?_ _)); exact BK119.out⟩
          have n5_ : Aside0 (((w87.setCell ⟨gb124, 0, none⟩ (.int .u64 t121)).setCell ⟨gb124, 1, none⟩ (.int .u64 t122)).heap[gb124]? = some (.cells #[.int .u64 t121, .int .u64 t122] 28 (0, 0))) := ⟨by (with_reducible repeat (first | refine blk_drewN ?_ _ | refine blk_drew ?_ | refine blk_alloc ?_ _)); refine blk_put (cs := #[.int .u64 t121, .int .u64 0]) ?_ 1 _ rfl; (with_reducible repeat (first | refine blk_drewN ?_ _ | refine blk_drew ?_ | refine blk_alloc ?_ _)); refine blk_put (cs := #[.int .u64 0, .int .u64 0]) ?_ 0 _ rfl; (with_reducible repeat (first | refine blk_drewN ?_ _ | refine blk_drew ?_ | refine blk_alloc ?_ _)); exact BK124.out⟩
          have n6_ : Aside0 (Below w.heap.size w ((w87.setCell ⟨gb124, 0, none⟩ (.int .u64 t121)).setCell ⟨gb124, 1, none⟩ (.int .u64 t122))) := ⟨zb HB.out⟩
          (try clear HO_114003)
          (try clear HO_120001)
          (try clear BK101)
          (try clear BK113)
          (try clear BK119)
          (try clear BK124)
          (try clear HB)
          generalize ((w87.setCell ⟨gb124, 0, none⟩ (.int .u64 t121)).setCell ⟨gb124, 1, none⟩ (.int .u64 t122)) = w92 at n0_ n1_ n2_ n3_ n4_ n5_ n6_ ⊢
          have HO_114003 := n0_
          have HO_120001 := n1_
          have BK101 := n2_
          have BK113 := n3_
          have BK119 := n4_
          have BK124 := n5_
          have HB := n6_
          clear n0_ n1_ n2_ n3_ n4_ n5_ n6_
          have n0_ := Aside0.mk (Kd.R_drew HO_114003.out)
          have n1_ := Aside0.mk (Kd.R_drew HO_120001.out)
          have n2_ := Aside0.mk (blk_drew BK101.out)
          have n3_ := Aside0.mk (blk_drew BK113.out)
          have n4_ := Aside0.mk (blk_drew BK119.out)
          have n5_ := Aside0.mk (blk_drew BK124.out)
          have n6_ := Aside0.mk (below_drew1 HB.out)
          clear HO_114003
          clear HO_120001
          clear BK101
          clear BK113
          clear BK119
          clear BK124
          clear HB
          have HO_114003 := n0_
          have HO_120001 := n1_
          have BK101 := n2_
          have BK113 := n3_
          have BK119 := n4_
          have BK124 := n5_
          have HB := n6_
          clear n0_ n1_ n2_ n3_ n4_ n5_ n6_
          refine start_ (n := 18) (S := fun w' => True) (ds := []) #[false, false, false, false, false, false, false, false, false, false, false, false, false, false, false, false, false, false] (by kernel_rfl) rfl rfl trivial (fun hHeld => ?_); refine with_tabW sorobanlaw05_BinaryPlaces.tab7 sorobanlaw05_BinaryPlaces.bits7 (fun HT_ HW_ => ?_)
          generalize w92.drew = w93 at HO_114003 HO_120001 BK101 BK113 BK119 BK124 HB hHeld ⊢
          refine one_ (i := 0) (N := some 43) #[true, false, false, false, false, false, false, false, false, false, false, false, false, false, false, false, false, false] rfl rfl (one_of HT_.out (by kernel_rfl)) (by decide) (fun K hK => ?_)
          refine goes_ Tryd.func11 (by kernel_rfl) rfl #[] (by rfl) rfl rfl zm ?_
          with_reducible refine (sorobanlaw05_sanity.calls  false _ A35.out (HTAB.out.below (zb HB.out))).mono ?_
          rintro e w94 ⟨rfl, hb⟩
          refine ⟨_, rfl, ?_⟩
          have n0_ := Aside0.mk (Kd.R_below (zr HO_114003.out) hb)
          have n1_ := Aside0.mk (Kd.R_below (zr HO_120001.out) hb)
          have n2_ := Aside0.mk (blk_below (g := gb101) (o := .cells #[.int .u64 a1_0, .int .u64 a1_1] 28 (0, 0)) (zk BK101.out) hb)
          have n3_ := Aside0.mk (blk_below (g := gb113) (o := .cells #[.int .i64 t105, .int .i64 t106, .bool t107, .slice Ao16 t108.length co16, .int .i64 t111] 25 (0, 0)) (zk BK113.out) hb)
          have n4_ := Aside0.mk (blk_below (g := gb119) (o := .cells #[.bool t114, .slice Ao22 t115.length co22] 48 (0, 0)) (zk BK119.out) hb)
          have n5_ := Aside0.mk (blk_below (g := gb124) (o := .cells #[.int .u64 t121, .int .u64 t122] 28 (0, 0)) (zk BK124.out) hb)
          have n6_ := Aside0.mk (below_step (zb HB.out) hb)
          clear HO_114003
          clear HO_120001
          clear BK101
          clear BK113
          clear BK119
          clear BK124
          clear HB
          have HO_114003 := n0_
          have HO_120001 := n1_
          have BK101 := n2_
          have BK113 := n3_
          have BK119 := n4_
          have BK124 := n5_
          have HB := n6_
          clear n0_ n1_ n2_ n3_ n4_ n5_ n6_
          (try clear hb)
          (try clear hb2)
          (try clear hk)
          (try clear hi)
          refine hK.out _ _ trivial (fun hHeld => ?_)
          clear hK K
          refine norm_ (a' := ?_) ?_ ?_
          rotate_left
          · show Act.put _ (some 43) _ = _
            simp only [Act.put, List.setIfInBounds_toArray, List.set_cons_zero, List.set_cons_succ, i64_w, i32_w]
            rfl
          refine pure_ (i := 1) (N := some 44) (v := ?_) (a' := ?_) #[true, true, false, false, false, false, false, false, false, false, false, false, false, false, false, false, false, false] rfl rfl (any_of HT_.out (by kernel_rfl)) (fun _ _ _ h => h) (Or.inl ⟨by rfl, ?_⟩) ?_ ?_
          rotate_left
          · intro w'
            go_simp
            with_reducible rfl
          rotate_left
          · simp only [Act.put, List.setIfInBounds_toArray, List.set_cons_zero, List.set_cons_succ, i64_w, i32_w]
            rfl
          refine pure_ (i := 2) (N := some 45) (v := undef) (a' := ?_) #[true, true, true, false, false, false, false, false, false, false, false, false, false, false, false, false, false, false] rfl rfl (any_of HT_.out (by kernel_rfl)) (fun _ _ _ h => h) (Or.inr ⟨by rfl, rfl⟩) ?_ ?_
          rotate_left
          · simp only [Act.put, List.setIfInBounds_toArray, List.set_cons_zero, List.set_cons_succ, i64_w, i32_w]
            rfl
          refine pure_ (i := 3) (N := some 46) (v := undef) (a' := ?_) #[true, true, true, true, false, false, false, false, false, false, false, false, false, false, false, false, false, false] rfl rfl (any_of HT_.out (by kernel_rfl)) (fun _ _ _ h => h) (Or.inr ⟨by rfl, rfl⟩) ?_ ?_
          rotate_left
          · simp only [Act.put, List.setIfInBounds_toArray, List.set_cons_zero, List.set_cons_succ, i64_w, i32_w]
            rfl
          refine pure_ (i := 4) (N := some 47) (v := ?_) (a' := ?_) #[true, true, true, true, true, false, false, false, false, false, false, false, false, false, false, false, false, false] rfl rfl (any_of HT_.out (by kernel_rfl)) (fun _ _ _ h => h) (Or.inl ⟨by rfl, ?_⟩) ?_ ?_
          rotate_left
          · intro w'
            go_simp
            with_reducible rfl
          rotate_left
          · simp only [Act.put, List.setIfInBounds_toArray, List.set_cons_zero, List.set_cons_succ, i64_w, i32_w]
            rfl
          refine pure_ (i := 5) (N := some 48) (v := ?_) (a' := ?_) #[true, true, true, true, true, true, false, false, false, false, false, false, false, false, false, false, false, false] rfl rfl (any_of HT_.out (by kernel_rfl)) (fun _ _ _ h => h) (Or.inl ⟨by rfl, ?_⟩) ?_ ?_
          rotate_left
          · intro w'
            go_simp
            with_reducible rfl
          rotate_left
          · simp only [Act.put, List.setIfInBounds_toArray, List.set_cons_zero, List.set_cons_succ, i64_w, i32_w]
            rfl
          refine pure_ (i := 6) (N := some 49) (v := undef) (a' := ?_) #[true, true, true, true, true, true, true, false, false, false, false, false, false, false, false, false, false, false] rfl rfl (any_of HT_.out (by kernel_rfl)) (fun _ _ _ h => h) (Or.inr ⟨by rfl, rfl⟩) ?_ ?_
          rotate_left
          · simp only [Act.put, List.setIfInBounds_toArray, List.set_cons_zero, List.set_cons_succ, i64_w, i32_w]
            rfl
          refine pure_ (i := 7) (N := some 50) (v := undef) (a' := ?_) #[true, true, true, true, true, true, true, true, false, false, false, false, false, false, false, false, false, false] rfl rfl (any_of HT_.out (by kernel_rfl)) (fun _ _ _ h => h) (Or.inr ⟨by rfl, rfl⟩) ?_ ?_
          rotate_left
          · simp only [Act.put, List.setIfInBounds_toArray, List.set_cons_zero, List.set_cons_succ, i64_w, i32_w]
            rfl
          refine pure_ (i := 8) (N := some 51) (v := undef) (a' := ?_) #[true, true, true, true, true, true, true, true, true, false, false, false, false, false, false, false, false, false] rfl rfl (any_of HT_.out (by kernel_rfl)) (fun _ _ _ h => h) (Or.inr ⟨by rfl, rfl⟩) ?_ ?_
          rotate_left
          · simp only [Act.put, List.setIfInBounds_toArray, List.set_cons_zero, List.set_cons_succ, i64_w, i32_w]
            rfl
          refine pure_ (i := 9) (N := some 52) (v := undef) (a' := ?_) #[true, true, true, true, true, true, true, true, true, true, false, false, false, false, false, false, false, false] rfl rfl (any_of HT_.out (by kernel_rfl)) (fun _ _ _ h => h) (Or.inr ⟨by rfl, rfl⟩) ?_ ?_
          rotate_left
          · simp only [Act.put, List.setIfInBounds_toArray, List.set_cons_zero, List.set_cons_succ, i64_w, i32_w]
            rfl
          refine pure_ (i := 10) (N := some 53) (v := undef) (a' := ?_) #[true, true, true, true, true, true, true, true, true, true, true, false, false, false, false, false, false, false] rfl rfl (any_of HT_.out (by kernel_rfl)) (fun _ _ _ h => h) (Or.inr ⟨by rfl, rfl⟩) ?_ ?_
          rotate_left
          · simp only [Act.put, List.setIfInBounds_toArray, List.set_cons_zero, List.set_cons_succ, i64_w, i32_w]
            rfl
          refine pure_ (i := 11) (N := some 54) (v := ?_) (a' := ?_) #[true, true, true, true, true, true, true, true, true, true, true, true, false, false, false, false, false, false] rfl rfl (any_of HT_.out (by kernel_rfl)) (fun _ _ _ h => h) (Or.inl ⟨by rfl, ?_⟩) ?_ ?_
          rotate_left
          · intro w'
            go_simp
            with_reducible rfl
          rotate_left
          · simp only [Act.put, List.setIfInBounds_toArray, List.set_cons_zero, List.set_cons_succ, i64_w, i32_w]
            rfl
          refine pure_ (i := 12) (N := some 55) (v := ?_) (a' := ?_) #[true, true, true, true, true, true, true, true, true, true, true, true, true, false, false, false, false, false] rfl rfl (any_of HT_.out (by kernel_rfl)) (fun _ _ _ h => h) (Or.inl ⟨by rfl, ?_⟩) ?_ ?_
          rotate_left
          · intro w'
            go_simp
            with_reducible rfl
          rotate_left
          · simp only [Act.put, List.setIfInBounds_toArray, List.set_cons_zero, List.set_cons_succ, i64_w, i32_w]
            rfl
          refine pure_ (i := 13) (N := some 56) (v := undef) (a' := ?_) #[true, true, true, true, true, true, true, true, true, true, true, true, true, true, false, false, false, false] rfl rfl (any_of HT_.out (by kernel_rfl)) (fun _ _ _ h => h) (Or.inr ⟨by rfl, rfl⟩) ?_ ?_
          rotate_left
          · simp only [Act.put, List.setIfInBounds_toArray, List.set_cons_zero, List.set_cons_succ, i64_w, i32_w]
            rfl
          refine pure_ (i := 14) (N := some 57) (v := undef) (a' := ?_) #[true, true, true, true, true, true, true, true, true, true, true, true, true, true, true, false, false, false] rfl rfl (any_of HT_.out (by kernel_rfl)) (fun _ _ _ h => h) (Or.inr ⟨by rfl, rfl⟩) ?_ ?_
          rotate_left
          · simp only [Act.put, List.setIfInBounds_toArray, List.set_cons_zero, List.set_cons_succ, i64_w, i32_w]
            rfl
          refine pure_ (i := 15) (N := some 58) (v := undef) (a' := ?_) #[true, true, true, true, true, true, true, true, true, true, true, true, true, true, true, true, false, false] rfl rfl (any_of HT_.out (by kernel_rfl)) (fun _ _ _ h => h) (Or.inr ⟨by rfl, rfl⟩) ?_ ?_
          rotate_left
          · simp only [Act.put, List.setIfInBounds_toArray, List.set_cons_zero, List.set_cons_succ, i64_w, i32_w]
            rfl
          refine pure_ (i := 16) (N := some 59) (v := ?_) (a' := ?_) #[true, true, true, true, true, true, true, true, true, true, true, true, true, true, true, true, true, false] rfl rfl (any_of HT_.out (by kernel_rfl)) (fun _ _ _ h => h) (Or.inl ⟨by rfl, ?_⟩) ?_ ?_
          rotate_left
          · intro w'
            go_simp
            with_reducible rfl
          rotate_left
          · simp only [Act.put, List.setIfInBounds_toArray, List.set_cons_zero, List.set_cons_succ, i64_w, i32_w]
            rfl
          refine pure_ (i := 17) (N := some 4) (v := ?_) (a' := ?_) #[true, true, true, true, true, true, true, true, true, true, true, true, true, true, true, true, true, true] rfl rfl (any_of HT_.out (by kernel_rfl)) (fun _ _ _ h => h) (Or.inl ⟨by rfl, ?_⟩) ?_ ?_
          rotate_left
          · intro w'
            go_simp
            with_reducible rfl
          rotate_left
          · simp only [Act.put, List.setIfInBounds_toArray, List.set_cons_zero, List.set_cons_succ, i64_w, i32_w]
            rfl
          refine done_ (done_of HT_.out (by kernel_rfl)) ?_
          try go_wp2
          go_ret
          exact ⟨by first | rfl | (simp [errW_none, errW_some] <;> rfl) | (simp [*, errW_none, errW_some] <;> rfl), by repeat (first | (with_reducible first | exact HB.out | apply below_alloc | apply pw_below_drewN | apply below_drew1 | refine below_set ?_ GE101.out | refine below_set ?_ GE113.out | refine below_set ?_ GE119.out | refine below_set ?_ GE124.out) | exact HB.out)⟩

end Go.Proofs.YtacnkcojhlbkoaaDoor.XBinaryPlaces
