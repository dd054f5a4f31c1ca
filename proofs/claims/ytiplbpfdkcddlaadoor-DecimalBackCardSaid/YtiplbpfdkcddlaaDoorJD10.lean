/- decimal: unpacked, packed, Pack and Unpack: what they return. decimal: unpacked, packed, Pack and Unpack: what they return. decimal: the number of ten-bit groups (payload of the packed encoding). -/
import Derived.Test.YtiplbpfdkcddlaaDoorJD9
import Derived.Laws.EntriesVeiled
set_option linter.unusedSimpArgs false
set_option linter.unusedVariables false
set_option linter.unnecessarySimpa false
namespace Go.Proofs.YtiplbpfdkcddlaaDoor
open Go.RowKit Go.Proofs.YtiplbpfdkcddlaaDoorW.PrintWords Go.Proofs.YtiplbpfdkcddlaaDoorW.PrintLast Go.Proofs.YtiplbpfdkcddlaaDoorW.PrintMore Go.Proofs.YtiplbpfdkcddlaaDoor.NL
set_option maxRecDepth 100000

theorem unp_l1 {b g q : Nat} {x : Int} (W0 W : World) (hw : Below W0.heap.size W0 W) (hb : b ≤ 1023) (hg : W0.cell? ⟨g, 0, none⟩ = some (.int .i64 b)) (hgs : g < W0.heap.size) (hq : q = W.heap.size) (hx : 0 ≤ x ∧ x ≤ 9) :
    Calls Tryd.prog 31 #[.slice (some ⟨q, 0, none⟩) 1 1, .pointer (some ⟨g, 0, none⟩)] (W.alloc (.cells #[.int .i64 x] 3)) fun e w' => ∃ T : Nat, e = .returned (.int .i64 T) ∧ Hid (T = tbits b [x.toNat]) ∧ T ≤ 1 ∧ Below W0.heap.size W0 w' := by
  have hzW := below_size hw
  refine (unp_lit1 W hq hb hx (((bcell hw).1 g 0 hgs).trans hg) (by omega)).mono ?_
  rintro e w' ⟨rfl, rfl⟩
  exact ⟨_, rfl, Lib.hid rfl, tbits_lt1 b x.toNat, below_alloc hw _⟩
theorem unp_l2 {b g q : Nat} {x y : Int} (W0 W : World) (hw : Below W0.heap.size W0 W) (hb : b ≤ 1023) (hg : W0.cell? ⟨g, 0, none⟩ = some (.int .i64 b)) (hgs : g < W0.heap.size) (hq : q = W.heap.size) (hx : 0 ≤ x ∧ x ≤ 9) (hy : 0 ≤ y ∧ y ≤ 9) :
    Calls Tryd.prog 31 #[.slice (some ⟨q, 0, none⟩) 2 2, .pointer (some ⟨g, 0, none⟩)] (W.alloc (.cells #[.int .i64 x, .int .i64 y] 3)) fun e w' => ∃ T : Nat, e = .returned (.int .i64 T) ∧ Hid (T = tbits b [x.toNat, y.toNat]) ∧ T ≤ 3 ∧ Below W0.heap.size W0 w' := by
  have hzW := below_size hw
  refine (unp_lit2 W hq hb hx hy (((bcell hw).1 g 0 hgs).trans hg) (by omega)).mono ?_
  rintro e w' ⟨rfl, rfl⟩
  exact ⟨_, rfl, Lib.hid rfl, tbits_lt2 b x.toNat y.toNat, below_alloc hw _⟩
theorem unp_l3 {b g q : Nat} {x y z : Int} (W0 W : World) (hw : Below W0.heap.size W0 W) (hb : b ≤ 1023) (hg : W0.cell? ⟨g, 0, none⟩ = some (.int .i64 b)) (hgs : g < W0.heap.size) (hq : q = W.heap.size) (hx : 0 ≤ x ∧ x ≤ 9) (hy : 0 ≤ y ∧ y ≤ 9) (hz : 0 ≤ z ∧ z ≤ 9) :
    Calls Tryd.prog 31 #[.slice (some ⟨q, 0, none⟩) 3 3, .pointer (some ⟨g, 0, none⟩)] (W.alloc (.cells #[.int .i64 x, .int .i64 y, .int .i64 z] 3)) fun e w' => ∃ T : Nat, e = .returned (.int .i64 T) ∧ Hid (T = tbits b [x.toNat, y.toNat, z.toNat]) ∧ T ≤ 7 ∧ Below W0.heap.size W0 w' := by
  have hzW := below_size hw
  refine (unp_lit3 W hq hb hx hy hz (((bcell hw).1 g 0 hgs).trans hg) (by omega)).mono ?_
  rintro e w' ⟨rfl, rfl⟩
  exact ⟨_, rfl, Lib.hid rfl, tbits_lt3 b x.toNat y.toNat z.toNat, below_alloc hw _⟩
set_option maxHeartbeats 4000000 in
theorem lay_0 {b g : Nat} (w : World) (hb : b ≤ 1023) (hg : w.cell? ⟨g, 0, none⟩ = some (.int .i64 b)) (hgs : g < w.heap.size) :
    Calls Tryd.prog 39 #[.func (.func 31) #[] #[.pointer (some ⟨g, 0, none⟩)]] w fun e w' => ∃ X Y Z : Nat, e = .returned (.tuple #[.int .i64 X, .int .i64 Y, .int .i64 Z]) ∧ Hid (three X Y Z = tthree b 0) ∧ X ≤ 9 ∧ Y ≤ 9 ∧ Z ≤ 9 ∧ Below w.heap.size w w' := by
  go_enter Tryd.func39, Tryd.ntmps39
  go_wp2_with (first | fail | ((with_reducible refine (unp_l3 (x := 0) (y := 1) (z := 2) w _ bel hb hg hgs (by first | rfl | (simp; done)) (by decide) (by decide) (by decide)).mono ?_); rintro e w1 ⟨T1, rfl, hT1, bT1, b1⟩; obtain ⟨hc1, hf1⟩ := bcell b1; have hz1 := below_size b1; (try simp at hz1)) | ((with_reducible refine (unp_l3 (x := 3) (y := 4) (z := 5) w _ bel hb hg hgs (by first | rfl | (simp; done)) (by decide) (by decide) (by decide)).mono ?_); rintro e w2 ⟨T2, rfl, hT2, bT2, b2⟩; obtain ⟨hc2, hf2⟩ := bcell b2; have hz2 := below_size b2; (try simp at hz2)) | ((with_reducible refine (unp_l3 (x := 7) (y := 8) (z := 9) w _ bel hb hg hgs (by first | rfl | (simp; done)) (by decide) (by decide) (by decide)).mono ?_); rintro e w3 ⟨T3, rfl, hT3, bT3, b3⟩; obtain ⟨hc3, hf3⟩ := bcell b3; have hz3 := below_size b3; (try simp at hz3)))
  all_goals
    exact bodyPost_ret (v := .tuple #[.int .i64 ((T1 : Nat) : Int), .int .i64 ((T2 : Nat) : Int), .int .i64 ((T3 : Nat) : Int)]) (by first | (simp [results, Tryd.results39, go_sem]; done) | (simp [results, Tryd.results39, go_sem]; unfold wrap64; omega) | (simp [results, Tryd.results39, go_sem, IntKind.wrap_i64]; omega)) rfl ⟨T1, T2, T3, rfl, Lib.hid (by rw [hT1.out, hT2.out, hT3.out]; rfl), by omega, by omega, by omega, bel⟩
set_option maxHeartbeats 4000000 in
theorem lay_1 {b g : Nat} (w : World) (hb : b ≤ 1023) (hg : w.cell? ⟨g, 0, none⟩ = some (.int .i64 b)) (hgs : g < w.heap.size) :
    Calls Tryd.prog 40 #[.func (.func 31) #[] #[.pointer (some ⟨g, 0, none⟩)]] w fun e w' => ∃ X Y Z : Nat, e = .returned (.tuple #[.int .i64 X, .int .i64 Y, .int .i64 Z]) ∧ Hid (three X Y Z = tthree b 1) ∧ X ≤ 9 ∧ Y ≤ 9 ∧ Z ≤ 9 ∧ Below w.heap.size w w' := by
  go_enter Tryd.func40, Tryd.ntmps40
  go_wp2_with (first | fail | ((with_reducible refine (unp_l3 (x := 0) (y := 1) (z := 2) w _ bel hb hg hgs (by first | rfl | (simp; done)) (by decide) (by decide) (by decide)).mono ?_); rintro e w1 ⟨T1, rfl, hT1, bT1, b1⟩; obtain ⟨hc1, hf1⟩ := bcell b1; have hz1 := below_size b1; (try simp at hz1)) | ((with_reducible refine (unp_l3 (x := 3) (y := 4) (z := 5) w _ bel hb hg hgs (by first | rfl | (simp; done)) (by decide) (by decide) (by decide)).mono ?_); rintro e w2 ⟨T2, rfl, hT2, bT2, b2⟩; obtain ⟨hc2, hf2⟩ := bcell b2; have hz2 := below_size b2; (try simp at hz2)) | ((with_reducible refine (unp_l1 (x := 9) w _ bel hb hg hgs (by first | rfl | (simp; done)) (by decide)).mono ?_); rintro e w3 ⟨T3, rfl, hT3, bT3, b3⟩; obtain ⟨hc3, hf3⟩ := bcell b3; have hz3 := below_size b3; (try simp at hz3)))
  all_goals
    exact bodyPost_ret (v := .tuple #[.int .i64 ((T1 : Nat) : Int), .int .i64 ((T2 : Nat) : Int), .int .i64 ((8 + T3 : Nat) : Int)]) (by first | (simp [results, Tryd.results40, go_sem]; done) | (simp [results, Tryd.results40, go_sem]; unfold wrap64; omega) | (simp [results, Tryd.results40, go_sem, IntKind.wrap_i64]; omega)) rfl ⟨T1, T2, 8 + T3, rfl, Lib.hid (by rw [hT1.out, hT2.out, hT3.out]; rfl), by omega, by omega, by omega, bel⟩
set_option maxHeartbeats 4000000 in
theorem lay_2 {b g : Nat} (w : World) (hb : b ≤ 1023) (hg : w.cell? ⟨g, 0, none⟩ = some (.int .i64 b)) (hgs : g < w.heap.size) :
    Calls Tryd.prog 41 #[.func (.func 31) #[] #[.pointer (some ⟨g, 0, none⟩)]] w fun e w' => ∃ X Y Z : Nat, e = .returned (.tuple #[.int .i64 X, .int .i64 Y, .int .i64 Z]) ∧ Hid (three X Y Z = tthree b 2) ∧ X ≤ 9 ∧ Y ≤ 9 ∧ Z ≤ 9 ∧ Below w.heap.size w w' := by
  go_enter Tryd.func41, Tryd.ntmps41
  go_wp2_with (first | fail | ((with_reducible refine (unp_l3 (x := 0) (y := 1) (z := 2) w _ bel hb hg hgs (by first | rfl | (simp; done)) (by decide) (by decide) (by decide)).mono ?_); rintro e w1 ⟨T1, rfl, hT1, bT1, b1⟩; obtain ⟨hc1, hf1⟩ := bcell b1; have hz1 := below_size b1; (try simp at hz1)) | ((with_reducible refine (unp_l1 (x := 5) w _ bel hb hg hgs (by first | rfl | (simp; done)) (by decide)).mono ?_); rintro e w2 ⟨T2, rfl, hT2, bT2, b2⟩; obtain ⟨hc2, hf2⟩ := bcell b2; have hz2 := below_size b2; (try simp at hz2)) | ((with_reducible refine (unp_l3 (x := 3) (y := 4) (z := 9) w _ bel hb hg hgs (by first | rfl | (simp; done)) (by decide) (by decide) (by decide)).mono ?_); rintro e w3 ⟨T3, rfl, hT3, bT3, b3⟩; obtain ⟨hc3, hf3⟩ := bcell b3; have hz3 := below_size b3; (try simp at hz3)))
  all_goals
    exact bodyPost_ret (v := .tuple #[.int .i64 ((T1 : Nat) : Int), .int .i64 ((8 + T2 : Nat) : Int), .int .i64 ((T3 : Nat) : Int)]) (by first | (simp [results, Tryd.results41, go_sem]; done) | (simp [results, Tryd.results41, go_sem]; unfold wrap64; omega) | (simp [results, Tryd.results41, go_sem, IntKind.wrap_i64]; omega)) rfl ⟨T1, 8 + T2, T3, rfl, Lib.hid (by rw [hT1.out, hT2.out, hT3.out]; rfl), by omega, by omega, by omega, bel⟩
set_option maxHeartbeats 4000000 in
theorem lay_3 {b g : Nat} (w : World) (hb : b ≤ 1023) (hg : w.cell? ⟨g, 0, none⟩ = some (.int .i64 b)) (hgs : g < w.heap.size) :
    Calls Tryd.prog 42 #[.func (.func 31) #[] #[.pointer (some ⟨g, 0, none⟩)]] w fun e w' => ∃ X Y Z : Nat, e = .returned (.tuple #[.int .i64 X, .int .i64 Y, .int .i64 Z]) ∧ Hid (three X Y Z = tthree b 3) ∧ X ≤ 9 ∧ Y ≤ 9 ∧ Z ≤ 9 ∧ Below w.heap.size w w' := by
  go_enter Tryd.func42, Tryd.ntmps42
  go_wp2_with (first | fail | ((with_reducible refine (unp_l1 (x := 2) w _ bel hb hg hgs (by first | rfl | (simp; done)) (by decide)).mono ?_); rintro e w1 ⟨T1, rfl, hT1, bT1, b1⟩; obtain ⟨hc1, hf1⟩ := bcell b1; have hz1 := below_size b1; (try simp at hz1)) | ((with_reducible refine (unp_l3 (x := 3) (y := 4) (z := 5) w _ bel hb hg hgs (by first | rfl | (simp; done)) (by decide) (by decide) (by decide)).mono ?_); rintro e w2 ⟨T2, rfl, hT2, bT2, b2⟩; obtain ⟨hc2, hf2⟩ := bcell b2; have hz2 := below_size b2; (try simp at hz2)) | ((with_reducible refine (unp_l3 (x := 0) (y := 1) (z := 9) w _ bel hb hg hgs (by first | rfl | (simp; done)) (by decide) (by decide) (by decide)).mono ?_); rintro e w3 ⟨T3, rfl, hT3, bT3, b3⟩; obtain ⟨hc3, hf3⟩ := bcell b3; have hz3 := below_size b3; (try simp at hz3)))
  all_goals
    exact bodyPost_ret (v := .tuple #[.int .i64 ((8 + T1 : Nat) : Int), .int .i64 ((T2 : Nat) : Int), .int .i64 ((T3 : Nat) : Int)]) (by first | (simp [results, Tryd.results42, go_sem]; done) | (simp [results, Tryd.results42, go_sem]; unfold wrap64; omega) | (simp [results, Tryd.results42, go_sem, IntKind.wrap_i64]; omega)) rfl ⟨8 + T1, T2, T3, rfl, Lib.hid (by rw [hT1.out, hT2.out, hT3.out]; rfl), by omega, by omega, by omega, bel⟩
set_option maxHeartbeats 4000000 in
theorem lay_4 {b g : Nat} (w : World) (hb : b ≤ 1023) (hg : w.cell? ⟨g, 0, none⟩ = some (.int .i64 b)) (hgs : g < w.heap.size) :
    Calls Tryd.prog 43 #[.func (.func 31) #[] #[.pointer (some ⟨g, 0, none⟩)]] w fun e w' => ∃ X Y Z : Nat, e = .returned (.tuple #[.int .i64 X, .int .i64 Y, .int .i64 Z]) ∧ Hid (three X Y Z = tthree b 4) ∧ X ≤ 9 ∧ Y ≤ 9 ∧ Z ≤ 9 ∧ Below w.heap.size w w' := by
  go_enter Tryd.func43, Tryd.ntmps43
  go_wp2_with (first | fail | ((with_reducible refine (unp_l1 (x := 2) w _ bel hb hg hgs (by first | rfl | (simp; done)) (by decide)).mono ?_); rintro e w1 ⟨T1, rfl, hT1, bT1, b1⟩; obtain ⟨hc1, hf1⟩ := bcell b1; have hz1 := below_size b1; (try simp at hz1)) | ((with_reducible refine (unp_l1 (x := 5) w _ bel hb hg hgs (by first | rfl | (simp; done)) (by decide)).mono ?_); rintro e w2 ⟨T2, rfl, hT2, bT2, b2⟩; obtain ⟨hc2, hf2⟩ := bcell b2; have hz2 := below_size b2; (try simp at hz2)) | ((with_reducible refine (unp_l3 (x := 0) (y := 1) (z := 9) w _ bel hb hg hgs (by first | rfl | (simp; done)) (by decide) (by decide) (by decide)).mono ?_); rintro e w3 ⟨T3, rfl, hT3, bT3, b3⟩; obtain ⟨hc3, hf3⟩ := bcell b3; have hz3 := below_size b3; (try simp at hz3)))
  all_goals
    exact bodyPost_ret (v := .tuple #[.int .i64 ((8 + T1 : Nat) : Int), .int .i64 ((8 + T2 : Nat) : Int), .int .i64 ((T3 : Nat) : Int)]) (by first | (simp [results, Tryd.results43, go_sem]; done) | (simp [results, Tryd.results43, go_sem]; unfold wrap64; omega) | (simp [results, Tryd.results43, go_sem, IntKind.wrap_i64]; omega)) rfl ⟨8 + T1, 8 + T2, T3, rfl, Lib.hid (by rw [hT1.out, hT2.out, hT3.out]; rfl), by omega, by omega, by omega, bel⟩
set_option maxHeartbeats 4000000 in
theorem lay_5 {b g : Nat} (w : World) (hb : b ≤ 1023) (hg : w.cell? ⟨g, 0, none⟩ = some (.int .i64 b)) (hgs : g < w.heap.size) :
    Calls Tryd.prog 44 #[.func (.func 31) #[] #[.pointer (some ⟨g, 0, none⟩)]] w fun e w' => ∃ X Y Z : Nat, e = .returned (.tuple #[.int .i64 X, .int .i64 Y, .int .i64 Z]) ∧ Hid (three X Y Z = tthree b 5) ∧ X ≤ 9 ∧ Y ≤ 9 ∧ Z ≤ 9 ∧ Below w.heap.size w w' := by
  go_enter Tryd.func44, Tryd.ntmps44
  go_wp2_with (first | fail | ((with_reducible refine (unp_l1 (x := 2) w _ bel hb hg hgs (by first | rfl | (simp; done)) (by decide)).mono ?_); rintro e w1 ⟨T1, rfl, hT1, bT1, b1⟩; obtain ⟨hc1, hf1⟩ := bcell b1; have hz1 := below_size b1; (try simp at hz1)) | ((with_reducible refine (unp_l3 (x := 0) (y := 1) (z := 5) w _ bel hb hg hgs (by first | rfl | (simp; done)) (by decide) (by decide) (by decide)).mono ?_); rintro e w2 ⟨T2, rfl, hT2, bT2, b2⟩; obtain ⟨hc2, hf2⟩ := bcell b2; have hz2 := below_size b2; (try simp at hz2)) | ((with_reducible refine (unp_l1 (x := 9) w _ bel hb hg hgs (by first | rfl | (simp; done)) (by decide)).mono ?_); rintro e w3 ⟨T3, rfl, hT3, bT3, b3⟩; obtain ⟨hc3, hf3⟩ := bcell b3; have hz3 := below_size b3; (try simp at hz3)))
  all_goals
    exact bodyPost_ret (v := .tuple #[.int .i64 ((8 + T1 : Nat) : Int), .int .i64 ((T2 : Nat) : Int), .int .i64 ((8 + T3 : Nat) : Int)]) (by first | (simp [results, Tryd.results44, go_sem]; done) | (simp [results, Tryd.results44, go_sem]; unfold wrap64; omega) | (simp [results, Tryd.results44, go_sem, IntKind.wrap_i64]; omega)) rfl ⟨8 + T1, T2, 8 + T3, rfl, Lib.hid (by rw [hT1.out, hT2.out, hT3.out]; rfl), by omega, by omega, by omega, bel⟩
set_option maxHeartbeats 4000000 in
theorem lay_6 {b g : Nat} (w : World) (hb : b ≤ 1023) (hg : w.cell? ⟨g, 0, none⟩ = some (.int .i64 b)) (hgs : g < w.heap.size) :
    Calls Tryd.prog 45 #[.func (.func 31) #[] #[.pointer (some ⟨g, 0, none⟩)]] w fun e w' => ∃ X Y Z : Nat, e = .returned (.tuple #[.int .i64 X, .int .i64 Y, .int .i64 Z]) ∧ Hid (three X Y Z = tthree b 6) ∧ X ≤ 9 ∧ Y ≤ 9 ∧ Z ≤ 9 ∧ Below w.heap.size w w' := by
  go_enter Tryd.func45, Tryd.ntmps45
  go_wp2_with (first | fail | ((with_reducible refine (unp_l3 (x := 0) (y := 1) (z := 2) w _ bel hb hg hgs (by first | rfl | (simp; done)) (by decide) (by decide) (by decide)).mono ?_); rintro e w1 ⟨T1, rfl, hT1, bT1, b1⟩; obtain ⟨hc1, hf1⟩ := bcell b1; have hz1 := below_size b1; (try simp at hz1)) | ((with_reducible refine (unp_l1 (x := 5) w _ bel hb hg hgs (by first | rfl | (simp; done)) (by decide)).mono ?_); rintro e w2 ⟨T2, rfl, hT2, bT2, b2⟩; obtain ⟨hc2, hf2⟩ := bcell b2; have hz2 := below_size b2; (try simp at hz2)) | ((with_reducible refine (unp_l1 (x := 9) w _ bel hb hg hgs (by first | rfl | (simp; done)) (by decide)).mono ?_); rintro e w3 ⟨T3, rfl, hT3, bT3, b3⟩; obtain ⟨hc3, hf3⟩ := bcell b3; have hz3 := below_size b3; (try simp at hz3)))
  all_goals
    exact bodyPost_ret (v := .tuple #[.int .i64 ((T1 : Nat) : Int), .int .i64 ((8 + T2 : Nat) : Int), .int .i64 ((8 + T3 : Nat) : Int)]) (by first | (simp [results, Tryd.results45, go_sem]; done) | (simp [results, Tryd.results45, go_sem]; unfold wrap64; omega) | (simp [results, Tryd.results45, go_sem, IntKind.wrap_i64]; omega)) rfl ⟨T1, 8 + T2, 8 + T3, rfl, Lib.hid (by rw [hT1.out, hT2.out, hT3.out]; rfl), by omega, by omega, by omega, bel⟩
set_option maxHeartbeats 4000000 in
theorem lay_7 {b g : Nat} (w : World) (hb : b ≤ 1023) (hg : w.cell? ⟨g, 0, none⟩ = some (.int .i64 b)) (hgs : g < w.heap.size) :
    Calls Tryd.prog 46 #[.func (.func 31) #[] #[.pointer (some ⟨g, 0, none⟩)]] w fun e w' => ∃ X Y Z : Nat, e = .returned (.tuple #[.int .i64 X, .int .i64 Y, .int .i64 Z]) ∧ Hid (three X Y Z = tthree b 7) ∧ X ≤ 9 ∧ Y ≤ 9 ∧ Z ≤ 9 ∧ Below w.heap.size w w' := by
  go_enter Tryd.func46, Tryd.ntmps46
  go_wp2_with (first | fail | ((with_reducible refine (unp_l1 (x := 2) w _ bel hb hg hgs (by first | rfl | (simp; done)) (by decide)).mono ?_); rintro e w1 ⟨T1, rfl, hT1, bT1, b1⟩; obtain ⟨hc1, hf1⟩ := bcell b1; have hz1 := below_size b1; (try simp at hz1)) | ((with_reducible refine (unp_l1 (x := 5) w _ bel hb hg hgs (by first | rfl | (simp; done)) (by decide)).mono ?_); rintro e w2 ⟨T2, rfl, hT2, bT2, b2⟩; obtain ⟨hc2, hf2⟩ := bcell b2; have hz2 := below_size b2; (try simp at hz2)) | ((with_reducible refine (unp_l1 (x := 9) w _ bel hb hg hgs (by first | rfl | (simp; done)) (by decide)).mono ?_); rintro e w3 ⟨T3, rfl, hT3, bT3, b3⟩; obtain ⟨hc3, hf3⟩ := bcell b3; have hz3 := below_size b3; (try simp at hz3)))
  all_goals
    exact bodyPost_ret (v := .tuple #[.int .i64 ((8 + T1 : Nat) : Int), .int .i64 ((8 + T2 : Nat) : Int), .int .i64 ((8 + T3 : Nat) : Int)]) (by first | (simp [results, Tryd.results46, go_sem]; done) | (simp [results, Tryd.results46, go_sem]; unfold wrap64; omega) | (simp [results, Tryd.results46, go_sem, IntKind.wrap_i64]; omega)) rfl ⟨8 + T1, 8 + T2, 8 + T3, rfl, Lib.hid (by rw [hT1.out, hT2.out, hT3.out]; rfl), by omega, by omega, by omega, bel⟩
end Go.Proofs.YtiplbpfdkcddlaaDoor

set_option linter.unusedSimpArgs false
set_option linter.unusedVariables false
set_option linter.unnecessarySimpa false
namespace Go.Proofs.YtiplbpfdkcddlaaDoor
open Go.RowKit Go.Proofs.YtiplbpfdkcddlaaDoorW.PrintWords Go.Proofs.YtiplbpfdkcddlaaDoorW.PrintLast Go.Proofs.YtiplbpfdkcddlaaDoorW.PrintMore Go.Proofs.YtiplbpfdkcddlaaDoor.NL
set_option maxRecDepth 100000

def layV : Value := .agg #[.func (.func 39) #[] #[], .func (.func 40) #[] #[], .func (.func 41) #[] #[], .func (.func 42) #[] #[], .func (.func 43) #[] #[], .func (.func 44) #[] #[], .func (.func 45) #[] #[], .func (.func 46) #[] #[]]
set_option maxHeartbeats 2000000 in
theorem layout_any (w : World) : Calls Tryd.prog 32 #[] w fun e w' => e = .returned layV ∧ Below w.heap.size w w' := by
  unfold layV
  go_enter Tryd.func32, Tryd.ntmps32
  go_wp2
  exact bodyPost_ret (v := layV) (by unfold layV; simp [results, Tryd.results32, go_sem]) rfl ⟨rfl, bel⟩
theorem lay_idx_0 : ∀ w : World, (Instr.index 80 layV (.int .i64 0)).run Tryd.prog w = .ok (.func (.func 39) #[] #[]) w := fun _ => by kernel_rfl
theorem lay_idx_1 : ∀ w : World, (Instr.index 80 layV (.int .i64 1)).run Tryd.prog w = .ok (.func (.func 40) #[] #[]) w := fun _ => by kernel_rfl
theorem lay_idx_2 : ∀ w : World, (Instr.index 80 layV (.int .i64 2)).run Tryd.prog w = .ok (.func (.func 41) #[] #[]) w := fun _ => by kernel_rfl
theorem lay_idx_3 : ∀ w : World, (Instr.index 80 layV (.int .i64 3)).run Tryd.prog w = .ok (.func (.func 42) #[] #[]) w := fun _ => by kernel_rfl
theorem lay_idx_4 : ∀ w : World, (Instr.index 80 layV (.int .i64 4)).run Tryd.prog w = .ok (.func (.func 43) #[] #[]) w := fun _ => by kernel_rfl
theorem lay_idx_5 : ∀ w : World, (Instr.index 80 layV (.int .i64 5)).run Tryd.prog w = .ok (.func (.func 44) #[] #[]) w := fun _ => by kernel_rfl
theorem lay_idx_6 : ∀ w : World, (Instr.index 80 layV (.int .i64 6)).run Tryd.prog w = .ok (.func (.func 45) #[] #[]) w := fun _ => by kernel_rfl
theorem lay_idx_7 : ∀ w : World, (Instr.index 80 layV (.int .i64 7)).run Tryd.prog w = .ok (.func (.func 46) #[] #[]) w := fun _ => by kernel_rfl
set_option maxHeartbeats 4000000 in
theorem unp_0 {b : Nat} (w : World) (hb : b ≤ 1023) (h6 : tbits b [6] = 0) :
    Calls Tryd.prog 17 #[.int .i64 b] w fun e w' => ∃ N : Nat, e = .returned (.int .i64 N) ∧ Hid (N = tthree b 0) ∧ Below w.heap.size w w' := by
  have H6 := Lib.hid h6
  clear h6
  have hg : (w.alloc (.cells #[.int .i64 b] 3)).cell? ⟨w.heap.size, 0, none⟩ = some (.int .i64 b) := by simp [go_sem]
  have hgs : w.heap.size < (w.alloc (.cells #[.int .i64 b] 3)).heap.size := by show w.heap.size < (w.heap.push _).size; rw [Array.size_push]; omega
  have hix := lay_idx_0
  go_enter Tryd.func17, Tryd.ntmps17
  go_wp2_with (first | fail | ((with_reducible refine (unp_l1 (x := 6) (w.alloc (.cells #[.int .i64 b] 3)) _ bel hb hg hgs (by first | rfl | (simp; done)) (by decide)).mono ?_); rintro e w1 ⟨T1, rfl, hT1, bT1, b1⟩; obtain rfl : T1 = 0 := hT1.out.trans H6.out; obtain ⟨hc1, hf1⟩ := bcell b1; have hz1 := below_size b1; (try simp at hz1)) | (go_at_call 32; (with_reducible refine (layout_any _).mono ?_); rintro e w4 ⟨rfl, b4⟩; obtain ⟨hc4, hf4⟩ := bcell b4; have hz4 := below_size b4; (try simp at hz4)) | ((with_reducible refine (lay_0 _ hb (((bcell (show Below (w.alloc (.cells #[.int .i64 b] 3)).heap.size (w.alloc (.cells #[.int .i64 b] 3)) w4 from bel)).1 w.heap.size 0 hgs).trans hg) (by have := below_size (show Below (w.alloc (.cells #[.int .i64 b] 3)).heap.size (w.alloc (.cells #[.int .i64 b] 3)) w4 from bel); omega)).mono ?_); rintro e w5 ⟨X, Y, Z, rfl, h5, bX, bY, bZ, b5⟩; obtain ⟨hc5, hf5⟩ := bcell b5; have hz5 := below_size b5; (try simp at hz5)))
  all_goals
    exact bodyPost_ret (v := .int .i64 ((three X Y Z : Nat) : Int)) (by unfold three; first | (simp [results, Tryd.results17, go_sem]; done) | (simp [results, Tryd.results17, go_sem]; unfold wrap64; omega) | (simp [results, Tryd.results17, go_sem, IntKind.wrap_i64]; omega)) rfl ⟨_, rfl, h5, bel⟩
set_option maxHeartbeats 4000000 in
theorem unp_1 {b : Nat} (w : World) (hb : b ≤ 1023) (h6 : tbits b [6] = 1) (h7 : tbits b [7, 8] = 0) :
    Calls Tryd.prog 17 #[.int .i64 b] w fun e w' => ∃ N : Nat, e = .returned (.int .i64 N) ∧ Hid (N = tthree b 1) ∧ Below w.heap.size w w' := by
  have H6 := Lib.hid h6
  have H7 := Lib.hid h7
  clear h6 h7
  have hg : (w.alloc (.cells #[.int .i64 b] 3)).cell? ⟨w.heap.size, 0, none⟩ = some (.int .i64 b) := by simp [go_sem]
  have hgs : w.heap.size < (w.alloc (.cells #[.int .i64 b] 3)).heap.size := by show w.heap.size < (w.heap.push _).size; rw [Array.size_push]; omega
  have hix := lay_idx_1
  go_enter Tryd.func17, Tryd.ntmps17
  go_wp2_with (first | fail | ((with_reducible refine (unp_l1 (x := 6) (w.alloc (.cells #[.int .i64 b] 3)) _ bel hb hg hgs (by first | rfl | (simp; done)) (by decide)).mono ?_); rintro e w1 ⟨T1, rfl, hT1, bT1, b1⟩; obtain rfl : T1 = 1 := hT1.out.trans H6.out; obtain ⟨hc1, hf1⟩ := bcell b1; have hz1 := below_size b1; (try simp at hz1)) | ((with_reducible refine (unp_l2 (x := 7) (y := 8) (w.alloc (.cells #[.int .i64 b] 3)) _ bel hb hg hgs (by first | rfl | (simp; done)) (by decide) (by decide)).mono ?_); rintro e w2 ⟨T2, rfl, hT2, bT2, b2⟩; obtain rfl : T2 = 0 := hT2.out.trans H7.out; obtain ⟨hc2, hf2⟩ := bcell b2; have hz2 := below_size b2; (try simp at hz2)) | (go_at_call 32; (with_reducible refine (layout_any _).mono ?_); rintro e w4 ⟨rfl, b4⟩; obtain ⟨hc4, hf4⟩ := bcell b4; have hz4 := below_size b4; (try simp at hz4)) | ((with_reducible refine (lay_1 _ hb (((bcell (show Below (w.alloc (.cells #[.int .i64 b] 3)).heap.size (w.alloc (.cells #[.int .i64 b] 3)) w4 from bel)).1 w.heap.size 0 hgs).trans hg) (by have := below_size (show Below (w.alloc (.cells #[.int .i64 b] 3)).heap.size (w.alloc (.cells #[.int .i64 b] 3)) w4 from bel); omega)).mono ?_); rintro e w5 ⟨X, Y, Z, rfl, h5, bX, bY, bZ, b5⟩; obtain ⟨hc5, hf5⟩ := bcell b5; have hz5 := below_size b5; (try simp at hz5)))
  all_goals
    exact bodyPost_ret (v := .int .i64 ((three X Y Z : Nat) : Int)) (by unfold three; first | (simp [results, Tryd.results17, go_sem]; done) | (simp [results, Tryd.results17, go_sem]; unfold wrap64; omega) | (simp [results, Tryd.results17, go_sem, IntKind.wrap_i64]; omega)) rfl ⟨_, rfl, h5, bel⟩
set_option maxHeartbeats 4000000 in
theorem unp_2 {b : Nat} (w : World) (hb : b ≤ 1023) (h6 : tbits b [6] = 1) (h7 : tbits b [7, 8] = 1) :
    Calls Tryd.prog 17 #[.int .i64 b] w fun e w' => ∃ N : Nat, e = .returned (.int .i64 N) ∧ Hid (N = tthree b 2) ∧ Below w.heap.size w w' := by
  have H6 := Lib.hid h6
  have H7 := Lib.hid h7
  clear h6 h7
  have hg : (w.alloc (.cells #[.int .i64 b] 3)).cell? ⟨w.heap.size, 0, none⟩ = some (.int .i64 b) := by simp [go_sem]
  have hgs : w.heap.size < (w.alloc (.cells #[.int .i64 b] 3)).heap.size := by show w.heap.size < (w.heap.push _).size; rw [Array.size_push]; omega
  have hix := lay_idx_2
  go_enter Tryd.func17, Tryd.ntmps17
  go_wp2_with (first | fail | ((with_reducible refine (unp_l1 (x := 6) (w.alloc (.cells #[.int .i64 b] 3)) _ bel hb hg hgs (by first | rfl | (simp; done)) (by decide)).mono ?_); rintro e w1 ⟨T1, rfl, hT1, bT1, b1⟩; obtain rfl : T1 = 1 := hT1.out.trans H6.out; obtain ⟨hc1, hf1⟩ := bcell b1; have hz1 := below_size b1; (try simp at hz1)) | ((with_reducible refine (unp_l2 (x := 7) (y := 8) (w.alloc (.cells #[.int .i64 b] 3)) _ bel hb hg hgs (by first | rfl | (simp; done)) (by decide) (by decide)).mono ?_); rintro e w2 ⟨T2, rfl, hT2, bT2, b2⟩; obtain rfl : T2 = 1 := hT2.out.trans H7.out; obtain ⟨hc2, hf2⟩ := bcell b2; have hz2 := below_size b2; (try simp at hz2)) | (go_at_call 32; (with_reducible refine (layout_any _).mono ?_); rintro e w4 ⟨rfl, b4⟩; obtain ⟨hc4, hf4⟩ := bcell b4; have hz4 := below_size b4; (try simp at hz4)) | ((with_reducible refine (lay_2 _ hb (((bcell (show Below (w.alloc (.cells #[.int .i64 b] 3)).heap.size (w.alloc (.cells #[.int .i64 b] 3)) w4 from bel)).1 w.heap.size 0 hgs).trans hg) (by have := below_size (show Below (w.alloc (.cells #[.int .i64 b] 3)).heap.size (w.alloc (.cells #[.int .i64 b] 3)) w4 from bel); omega)).mono ?_); rintro e w5 ⟨X, Y, Z, rfl, h5, bX, bY, bZ, b5⟩; obtain ⟨hc5, hf5⟩ := bcell b5; have hz5 := below_size b5; (try simp at hz5)))
  all_goals
    exact bodyPost_ret (v := .int .i64 ((three X Y Z : Nat) : Int)) (by unfold three; first | (simp [results, Tryd.results17, go_sem]; done) | (simp [results, Tryd.results17, go_sem]; unfold wrap64; omega) | (simp [results, Tryd.results17, go_sem, IntKind.wrap_i64]; omega)) rfl ⟨_, rfl, h5, bel⟩
set_option maxHeartbeats 4000000 in
theorem unp_3 {b : Nat} (w : World) (hb : b ≤ 1023) (h6 : tbits b [6] = 1) (h7 : tbits b [7, 8] = 2) :
    Calls Tryd.prog 17 #[.int .i64 b] w fun e w' => ∃ N : Nat, e = .returned (.int .i64 N) ∧ Hid (N = tthree b 3) ∧ Below w.heap.size w w' := by
  have H6 := Lib.hid h6
  have H7 := Lib.hid h7
  clear h6 h7
  have hg : (w.alloc (.cells #[.int .i64 b] 3)).cell? ⟨w.heap.size, 0, none⟩ = some (.int .i64 b) := by simp [go_sem]
  have hgs : w.heap.size < (w.alloc (.cells #[.int .i64 b] 3)).heap.size := by show w.heap.size < (w.heap.push _).size; rw [Array.size_push]; omega
  have hix := lay_idx_3
  go_enter Tryd.func17, Tryd.ntmps17
  go_wp2_with (first | fail | ((with_reducible refine (unp_l1 (x := 6) (w.alloc (.cells #[.int .i64 b] 3)) _ bel hb hg hgs (by first | rfl | (simp; done)) (by decide)).mono ?_); rintro e w1 ⟨T1, rfl, hT1, bT1, b1⟩; obtain rfl : T1 = 1 := hT1.out.trans H6.out; obtain ⟨hc1, hf1⟩ := bcell b1; have hz1 := below_size b1; (try simp at hz1)) | ((with_reducible refine (unp_l2 (x := 7) (y := 8) (w.alloc (.cells #[.int .i64 b] 3)) _ bel hb hg hgs (by first | rfl | (simp; done)) (by decide) (by decide)).mono ?_); rintro e w2 ⟨T2, rfl, hT2, bT2, b2⟩; obtain rfl : T2 = 2 := hT2.out.trans H7.out; obtain ⟨hc2, hf2⟩ := bcell b2; have hz2 := below_size b2; (try simp at hz2)) | (go_at_call 32; (with_reducible refine (layout_any _).mono ?_); rintro e w4 ⟨rfl, b4⟩; obtain ⟨hc4, hf4⟩ := bcell b4; have hz4 := below_size b4; (try simp at hz4)) | ((with_reducible refine (lay_3 _ hb (((bcell (show Below (w.alloc (.cells #[.int .i64 b] 3)).heap.size (w.alloc (.cells #[.int .i64 b] 3)) w4 from bel)).1 w.heap.size 0 hgs).trans hg) (by have := below_size (show Below (w.alloc (.cells #[.int .i64 b] 3)).heap.size (w.alloc (.cells #[.int .i64 b] 3)) w4 from bel); omega)).mono ?_); rintro e w5 ⟨X, Y, Z, rfl, h5, bX, bY, bZ, b5⟩; obtain ⟨hc5, hf5⟩ := bcell b5; have hz5 := below_size b5; (try simp at hz5)))
  all_goals
    exact bodyPost_ret (v := .int .i64 ((three X Y Z : Nat) : Int)) (by unfold three; first | (simp [results, Tryd.results17, go_sem]; done) | (simp [results, Tryd.results17, go_sem]; unfold wrap64; omega) | (simp [results, Tryd.results17, go_sem, IntKind.wrap_i64]; omega)) rfl ⟨_, rfl, h5, bel⟩
set_option maxHeartbeats 4000000 in
theorem unp_4 {b : Nat} (w : World) (hb : b ≤ 1023) (h6 : tbits b [6] = 1) (h7 : tbits b [7, 8] = 3) (h3 : tbits b [3, 4] = 0) :
    Calls Tryd.prog 17 #[.int .i64 b] w fun e w' => ∃ N : Nat, e = .returned (.int .i64 N) ∧ Hid (N = tthree b 4) ∧ Below w.heap.size w w' := by
  have H6 := Lib.hid h6
  have H7 := Lib.hid h7
  have H3 := Lib.hid h3
  clear h6 h7 h3
  have hg : (w.alloc (.cells #[.int .i64 b] 3)).cell? ⟨w.heap.size, 0, none⟩ = some (.int .i64 b) := by simp [go_sem]
  have hgs : w.heap.size < (w.alloc (.cells #[.int .i64 b] 3)).heap.size := by show w.heap.size < (w.heap.push _).size; rw [Array.size_push]; omega
  have hix := lay_idx_4
  go_enter Tryd.func17, Tryd.ntmps17
  go_wp2_with (first | fail | ((with_reducible refine (unp_l1 (x := 6) (w.alloc (.cells #[.int .i64 b] 3)) _ bel hb hg hgs (by first | rfl | (simp; done)) (by decide)).mono ?_); rintro e w1 ⟨T1, rfl, hT1, bT1, b1⟩; obtain rfl : T1 = 1 := hT1.out.trans H6.out; obtain ⟨hc1, hf1⟩ := bcell b1; have hz1 := below_size b1; (try simp at hz1)) | ((with_reducible refine (unp_l2 (x := 7) (y := 8) (w.alloc (.cells #[.int .i64 b] 3)) _ bel hb hg hgs (by first | rfl | (simp; done)) (by decide) (by decide)).mono ?_); rintro e w2 ⟨T2, rfl, hT2, bT2, b2⟩; obtain rfl : T2 = 3 := hT2.out.trans H7.out; obtain ⟨hc2, hf2⟩ := bcell b2; have hz2 := below_size b2; (try simp at hz2)) | ((with_reducible refine (unp_l2 (x := 3) (y := 4) (w.alloc (.cells #[.int .i64 b] 3)) _ bel hb hg hgs (by first | rfl | (simp; done)) (by decide) (by decide)).mono ?_); rintro e w3 ⟨T3, rfl, hT3, bT3, b3⟩; obtain rfl : T3 = 0 := hT3.out.trans H3.out; obtain ⟨hc3, hf3⟩ := bcell b3; have hz3 := below_size b3; (try simp at hz3)) | (go_at_call 32; (with_reducible refine (layout_any _).mono ?_); rintro e w4 ⟨rfl, b4⟩; obtain ⟨hc4, hf4⟩ := bcell b4; have hz4 := below_size b4; (try simp at hz4)) | ((with_reducible refine (lay_4 _ hb (((bcell (show Below (w.alloc (.cells #[.int .i64 b] 3)).heap.size (w.alloc (.cells #[.int .i64 b] 3)) w4 from bel)).1 w.heap.size 0 hgs).trans hg) (by have := below_size (show Below (w.alloc (.cells #[.int .i64 b] 3)).heap.size (w.alloc (.cells #[.int .i64 b] 3)) w4 from bel); omega)).mono ?_); rintro e w5 ⟨X, Y, Z, rfl, h5, bX, bY, bZ, b5⟩; obtain ⟨hc5, hf5⟩ := bcell b5; have hz5 := below_size b5; (try simp at hz5)))
  all_goals
    exact bodyPost_ret (v := .int .i64 ((three X Y Z : Nat) : Int)) (by unfold three; first | (simp [results, Tryd.results17, go_sem]; done) | (simp [results, Tryd.results17, go_sem]; unfold wrap64; omega) | (simp [results, Tryd.results17, go_sem, IntKind.wrap_i64]; omega)) rfl ⟨_, rfl, h5, bel⟩
set_option maxHeartbeats 4000000 in
theorem unp_5 {b : Nat} (w : World) (hb : b ≤ 1023) (h6 : tbits b [6] = 1) (h7 : tbits b [7, 8] = 3) (h3 : tbits b [3, 4] = 1) :
    Calls Tryd.prog 17 #[.int .i64 b] w fun e w' => ∃ N : Nat, e = .returned (.int .i64 N) ∧ Hid (N = tthree b 5) ∧ Below w.heap.size w w' := by
  have H6 := Lib.hid h6
  have H7 := Lib.hid h7
  have H3 := Lib.hid h3
  clear h6 h7 h3
  have hg : (w.alloc (.cells #[.int .i64 b] 3)).cell? ⟨w.heap.size, 0, none⟩ = some (.int .i64 b) := by simp [go_sem]
  have hgs : w.heap.size < (w.alloc (.cells #[.int .i64 b] 3)).heap.size := by show w.heap.size < (w.heap.push _).size; rw [Array.size_push]; omega
  have hix := lay_idx_5
  go_enter Tryd.func17, Tryd.ntmps17
  go_wp2_with (first | fail | ((with_reducible refine (unp_l1 (x := 6) (w.alloc (.cells #[.int .i64 b] 3)) _ bel hb hg hgs (by first | rfl | (simp; done)) (by decide)).mono ?_); rintro e w1 ⟨T1, rfl, hT1, bT1, b1⟩; obtain rfl : T1 = 1 := hT1.out.trans H6.out; obtain ⟨hc1, hf1⟩ := bcell b1; have hz1 := below_size b1; (try simp at hz1)) | ((with_reducible refine (unp_l2 (x := 7) (y := 8) (w.alloc (.cells #[.int .i64 b] 3)) _ bel hb hg hgs (by first | rfl | (simp; done)) (by decide) (by decide)).mono ?_); rintro e w2 ⟨T2, rfl, hT2, bT2, b2⟩; obtain rfl : T2 = 3 := hT2.out.trans H7.out; obtain ⟨hc2, hf2⟩ := bcell b2; have hz2 := below_size b2; (try simp at hz2)) | ((with_reducible refine (unp_l2 (x := 3) (y := 4) (w.alloc (.cells #[.int .i64 b] 3)) _ bel hb hg hgs (by first | rfl | (simp; done)) (by decide) (by decide)).mono ?_); rintro e w3 ⟨T3, rfl, hT3, bT3, b3⟩; obtain rfl : T3 = 1 := hT3.out.trans H3.out; obtain ⟨hc3, hf3⟩ := bcell b3; have hz3 := below_size b3; (try simp at hz3)) | (go_at_call 32; (with_reducible refine (layout_any _).mono ?_); rintro e w4 ⟨rfl, b4⟩; obtain ⟨hc4, hf4⟩ := bcell b4; have hz4 := below_size b4; (try simp at hz4)) | ((with_reducible refine (lay_5 _ hb (((bcell (show Below (w.alloc (.cells #[.int .i64 b] 3)).heap.size (w.alloc (.cells #[.int .i64 b] 3)) w4 from bel)).1 w.heap.size 0 hgs).trans hg) (by have := below_size (show Below (w.alloc (.cells #[.int .i64 b] 3)).heap.size (w.alloc (.cells #[.int .i64 b] 3)) w4 from bel); omega)).mono ?_); rintro e w5 ⟨X, Y, Z, rfl, h5, bX, bY, bZ, b5⟩; obtain ⟨hc5, hf5⟩ := bcell b5; have hz5 := below_size b5; (try simp at hz5)))
  all_goals
    exact bodyPost_ret (v := .int .i64 ((three X Y Z : Nat) : Int)) (by unfold three; first | (simp [results, Tryd.results17, go_sem]; done) | (simp [results, Tryd.results17, go_sem]; unfold wrap64; omega) | (simp [results, Tryd.results17, go_sem, IntKind.wrap_i64]; omega)) rfl ⟨_, rfl, h5, bel⟩
set_option maxHeartbeats 4000000 in
theorem unp_6 {b : Nat} (w : World) (hb : b ≤ 1023) (h6 : tbits b [6] = 1) (h7 : tbits b [7, 8] = 3) (h3 : tbits b [3, 4] = 2) :
    Calls Tryd.prog 17 #[.int .i64 b] w fun e w' => ∃ N : Nat, e = .returned (.int .i64 N) ∧ Hid (N = tthree b 6) ∧ Below w.heap.size w w' := by
  have H6 := Lib.hid h6
  have H7 := Lib.hid h7
  have H3 := Lib.hid h3
  clear h6 h7 h3
  have hg : (w.alloc (.cells #[.int .i64 b] 3)).cell? ⟨w.heap.size, 0, none⟩ = some (.int .i64 b) := by simp [go_sem]
  have hgs : w.heap.size < (w.alloc (.cells #[.int .i64 b] 3)).heap.size := by show w.heap.size < (w.heap.push _).size; rw [Array.size_push]; omega
  have hix := lay_idx_6
  go_enter Tryd.func17, Tryd.ntmps17
  go_wp2_with (first | fail | ((with_reducible refine (unp_l1 (x := 6) (w.alloc (.cells #[.int .i64 b] 3)) _ bel hb hg hgs (by first | rfl | (simp; done)) (by decide)).mono ?_); rintro e w1 ⟨T1, rfl, hT1, bT1, b1⟩; obtain rfl : T1 = 1 := hT1.out.trans H6.out; obtain ⟨hc1, hf1⟩ := bcell b1; have hz1 := below_size b1; (try simp at hz1)) | ((with_reducible refine (unp_l2 (x := 7) (y := 8) (w.alloc (.cells #[.int .i64 b] 3)) _ bel hb hg hgs (by first | rfl | (simp; done)) (by decide) (by decide)).mono ?_); rintro e w2 ⟨T2, rfl, hT2, bT2, b2⟩; obtain rfl : T2 = 3 := hT2.out.trans H7.out; obtain ⟨hc2, hf2⟩ := bcell b2; have hz2 := below_size b2; (try simp at hz2)) | ((with_reducible refine (unp_l2 (x := 3) (y := 4) (w.alloc (.cells #[.int .i64 b] 3)) _ bel hb hg hgs (by first | rfl | (simp; done)) (by decide) (by decide)).mono ?_); rintro e w3 ⟨T3, rfl, hT3, bT3, b3⟩; obtain rfl : T3 = 2 := hT3.out.trans H3.out; obtain ⟨hc3, hf3⟩ := bcell b3; have hz3 := below_size b3; (try simp at hz3)) | (go_at_call 32; (with_reducible refine (layout_any _).mono ?_); rintro e w4 ⟨rfl, b4⟩; obtain ⟨hc4, hf4⟩ := bcell b4; have hz4 := below_size b4; (try simp at hz4)) | ((with_reducible refine (lay_6 _ hb (((bcell (show Below (w.alloc (.cells #[.int .i64 b] 3)).heap.size (w.alloc (.cells #[.int .i64 b] 3)) w4 from bel)).1 w.heap.size 0 hgs).trans hg) (by have := below_size (show Below (w.alloc (.cells #[.int .i64 b] 3)).heap.size (w.alloc (.cells #[.int .i64 b] 3)) w4 from bel); omega)).mono ?_); rintro e w5 ⟨X, Y, Z, rfl, h5, bX, bY, bZ, b5⟩; obtain ⟨hc5, hf5⟩ := bcell b5; have hz5 := below_size b5; (try simp at hz5)))
  all_goals
    exact bodyPost_ret (v := .int .i64 ((three X Y Z : Nat) : Int)) (by unfold three; first | (simp [results, Tryd.results17, go_sem]; done) | (simp [results, Tryd.results17, go_sem]; unfold wrap64; omega) | (simp [results, Tryd.results17, go_sem, IntKind.wrap_i64]; omega)) rfl ⟨_, rfl, h5, bel⟩
set_option maxHeartbeats 4000000 in
theorem unp_7 {b : Nat} (w : World) (hb : b ≤ 1023) (h6 : tbits b [6] = 1) (h7 : tbits b [7, 8] = 3) (h3 : tbits b [3, 4] = 3) :
    Calls Tryd.prog 17 #[.int .i64 b] w fun e w' => ∃ N : Nat, e = .returned (.int .i64 N) ∧ Hid (N = tthree b 7) ∧ Below w.heap.size w w' := by
  have H6 := Lib.hid h6
  have H7 := Lib.hid h7
  have H3 := Lib.hid h3
  clear h6 h7 h3
  have hg : (w.alloc (.cells #[.int .i64 b] 3)).cell? ⟨w.heap.size, 0, none⟩ = some (.int .i64 b) := by simp [go_sem]
  have hgs : w.heap.size < (w.alloc (.cells #[.int .i64 b] 3)).heap.size := by show w.heap.size < (w.heap.push _).size; rw [Array.size_push]; omega
  have hix := lay_idx_7
  go_enter Tryd.func17, Tryd.ntmps17
  go_wp2_with (first | fail | ((with_reducible refine (unp_l1 (x := 6) (w.alloc (.cells #[.int .i64 b] 3)) _ bel hb hg hgs (by first | rfl | (simp; done)) (by decide)).mono ?_); rintro e w1 ⟨T1, rfl, hT1, bT1, b1⟩; obtain rfl : T1 = 1 := hT1.out.trans H6.out; obtain ⟨hc1, hf1⟩ := bcell b1; have hz1 := below_size b1; (try simp at hz1)) | ((with_reducible refine (unp_l2 (x := 7) (y := 8) (w.alloc (.cells #[.int .i64 b] 3)) _ bel hb hg hgs (by first | rfl | (simp; done)) (by decide) (by decide)).mono ?_); rintro e w2 ⟨T2, rfl, hT2, bT2, b2⟩; obtain rfl : T2 = 3 := hT2.out.trans H7.out; obtain ⟨hc2, hf2⟩ := bcell b2; have hz2 := below_size b2; (try simp at hz2)) | ((with_reducible refine (unp_l2 (x := 3) (y := 4) (w.alloc (.cells #[.int .i64 b] 3)) _ bel hb hg hgs (by first | rfl | (simp; done)) (by decide) (by decide)).mono ?_); rintro e w3 ⟨T3, rfl, hT3, bT3, b3⟩; obtain rfl : T3 = 3 := hT3.out.trans H3.out; obtain ⟨hc3, hf3⟩ := bcell b3; have hz3 := below_size b3; (try simp at hz3)) | (go_at_call 32; (with_reducible refine (layout_any _).mono ?_); rintro e w4 ⟨rfl, b4⟩; obtain ⟨hc4, hf4⟩ := bcell b4; have hz4 := below_size b4; (try simp at hz4)) | ((with_reducible refine (lay_7 _ hb (((bcell (show Below (w.alloc (.cells #[.int .i64 b] 3)).heap.size (w.alloc (.cells #[.int .i64 b] 3)) w4 from bel)).1 w.heap.size 0 hgs).trans hg) (by have := below_size (show Below (w.alloc (.cells #[.int .i64 b] 3)).heap.size (w.alloc (.cells #[.int .i64 b] 3)) w4 from bel); omega)).mono ?_); rintro e w5 ⟨X, Y, Z, rfl, h5, bX, bY, bZ, b5⟩; obtain ⟨hc5, hf5⟩ := bcell b5; have hz5 := below_size b5; (try simp at hz5)))
  all_goals
    exact bodyPost_ret (v := .int .i64 ((three X Y Z : Nat) : Int)) (by unfold three; first | (simp [results, Tryd.results17, go_sem]; done) | (simp [results, Tryd.results17, go_sem]; unfold wrap64; omega) | (simp [results, Tryd.results17, go_sem, IntKind.wrap_i64]; omega)) rfl ⟨_, rfl, h5, bel⟩
theorem unpacked_any {b : Nat} (w : World) (hb : b ≤ 1023) : Calls Tryd.prog 17 #[.int .i64 b] w fun e w' => e = .returned (.int .i64 (unpk b : Nat)) ∧ Below w.heap.size w w' := by
  have key : ∀ r, trow b = r → (Calls Tryd.prog 17 #[.int .i64 b] w fun e w' => ∃ N : Nat, e = .returned (.int .i64 N) ∧ Hid (N = tthree b r) ∧ Below w.heap.size w w') → Calls Tryd.prog 17 #[.int .i64 b] w fun e w' => e = .returned (.int .i64 (unpk b : Nat)) ∧ Below w.heap.size w w' := by
    intro r hr h
    refine h.mono ?_
    rintro e w' ⟨N, rfl, hN, hb⟩
    refine ⟨?_, hb⟩
    rw [hN.out]; unfold unpk; rw [hr]
  have t6 := tbits_lt1 b 6
  have t7 := tbits_lt2 b 7 8
  have t3 := tbits_lt2 b 3 4
  have e6 : tbits b [6] = tbit b 6 := by show 2 * 0 + tbit b 6 = _; omega
  by_cases h6 : tbits b [6] = 0
  · exact key 0 (by unfold trow; rw [if_neg (by omega)]) (unp_0 w hb h6)
  · have h61 : tbits b [6] = 1 := by omega
    by_cases h7 : tbits b [7, 8] = 3
    · have hr : trow b = 4 + tbits b [3, 4] := by unfold trow; rw [if_pos (by omega), if_pos h7]
      have h3 : tbits b [3, 4] = 0 ∨ tbits b [3, 4] = 1 ∨ tbits b [3, 4] = 2 ∨ tbits b [3, 4] = 3 := by omega
      rcases h3 with h3 | h3 | h3 | h3
      · exact key 4 (by rw [hr, h3]) (unp_4 w hb h61 h7 h3)
      · exact key 5 (by rw [hr, h3]) (unp_5 w hb h61 h7 h3)
      · exact key 6 (by rw [hr, h3]) (unp_6 w hb h61 h7 h3)
      · exact key 7 (by rw [hr, h3]) (unp_7 w hb h61 h7 h3)
    · have hr : trow b = 1 + tbits b [7, 8] := by unfold trow; rw [if_pos (by omega), if_neg h7]
      have h8 : tbits b [7, 8] = 0 ∨ tbits b [7, 8] = 1 ∨ tbits b [7, 8] = 2 := by omega
      rcases h8 with h8 | h8 | h8
      · exact key 1 (by rw [hr, h8]) (unp_1 w hb h61 h8)
      · exact key 2 (by rw [hr, h8]) (unp_2 w hb h61 h8)
      · exact key 3 (by rw [hr, h8]) (unp_3 w hb h61 h8)
set_option maxHeartbeats 2000000 in
theorem packed_any {n : Nat} (w : World) (hn : n ≤ 999) : Calls Tryd.prog 16 #[.int .i64 n] w fun e w' => e = .returned (.int .i64 (pkd n : Nat)) ∧ Below w.heap.size w w' := by
  have HU := Lib.hid fun (b : Nat) (hb : b ≤ 1023) w' => unpacked_any w' hb
  have HP : Hid (unpk (pkd n) = n ∧ pkd n ≤ 1023) := Lib.hid (pkd_ok (by omega))
  have HL : Hid (∀ b, b < pkd n → unpk b ≠ n) := Lib.hid fun b h => pkd_least h (by omega)
  generalize pkd n = P at *
  have hP := HP.out.2
  go_enter Tryd.func16, Tryd.ntmps16
  go_wp2
  go_loopw [3] (fun v3 wr => ∃ b : Nat, b ≤ P ∧ v3 = .int .i64 b ∧ Below w.heap.size w wr) (fun v3 _ => P - (intOf v3).toNat)
  case atStart => exact ⟨0, by omega, rfl, bel⟩
  case round =>
    obtain ⟨b, hb, rfl, hbw⟩ := hrel
    by_cases hlt : b < P
    · have hne : ((unpk b : Int) == (n : Int)) = false := by
        have := HL.out b hlt
        simp; omega
      have HV := HU.out b (by omega)
      generalize unpk b = u at *
      go_wp2_with (first | fail | (go_at_call 17; (with_reducible refine (HV _).mono ?_); rintro e w1 ⟨rfl, b1⟩))
      go_round
      case rel => exact ⟨b + 1, by omega, by simp, bel⟩
      case measure => simp [intOf]; omega
    · obtain rfl : b = P := by omega
      have HV := HU.out b (by omega)
      rw [HP.out.1] at HV
      go_wp2_with (first | fail | (go_at_call 17; (with_reducible refine (HV _).mono ?_); rintro e w1 ⟨rfl, b1⟩))
      go_ret
      exact ⟨rfl, bel⟩
def packR (n : Int) : Int × Int := if 0 ≤ n ∧ n ≤ 999 then ((pkd n.toNat : Nat), 0) else (0, 1)
set_option maxHeartbeats 2000000 in
theorem pack_any (n : Int) (w : World) : Calls Tryd.prog 7 #[.int .i64 n] w fun e w' => e = .returned (.tuple #[.int .i64 (packR n).1, .int .i64 (packR n).2]) ∧ Below w.heap.size w w' := by
  unfold packR
  by_cases h0 : n < 0
  · rw [if_neg (by omega)]
    have d0 : decide (n < 0) = true := decide_eq_true h0
    go_enter Tryd.func7, Tryd.ntmps7
    go_wp2
    exact bodyPost_ret (v := .tuple #[.int .i64 0, .int .i64 1]) (by simp [results, Tryd.results7, go_sem]) rfl ⟨rfl, bel⟩
  · have d0 : decide (n < 0) = false := decide_eq_false h0
    by_cases h1 : n > 999
    · rw [if_neg (by omega)]
      have d1 : decide (n > 999) = true := decide_eq_true h1
      go_enter Tryd.func7, Tryd.ntmps7
      go_wp2
      exact bodyPost_ret (v := .tuple #[.int .i64 0, .int .i64 1]) (by simp [results, Tryd.results7, go_sem]) rfl ⟨rfl, bel⟩
    · have d1 : decide (n > 999) = false := decide_eq_false h1
      rw [if_pos (by omega)]
      obtain ⟨m, rfl⟩ := Int.eq_ofNat_of_zero_le (show 0 ≤ n by omega)
      have HP := Lib.hid fun w' => packed_any (n := m) w' (by omega)
      rw [Int.toNat_natCast]
      generalize pkd m = P at *
      go_enter Tryd.func7, Tryd.ntmps7
      go_wp2_with (first | fail | (go_at_call 16; (with_reducible refine (HP.out _).mono ?_); rintro e w1 ⟨rfl, b1⟩))
      exact bodyPost_ret (v := .tuple #[.int .i64 P, .int .i64 0]) (by simp [results, Tryd.results7, go_sem]) rfl ⟨rfl, bel⟩
def unpackR (b : Int) : Int × Bool × Int := if 0 ≤ b ∧ b ≤ 1023 then ((unpk b.toNat : Nat), decide (pkd (unpk b.toNat) = b.toNat), 0) else (0, false, 1)
set_option maxHeartbeats 2000000 in
theorem unpack_any (b : Int) (w : World) : Calls Tryd.prog 8 #[.int .i64 b] w fun e w' => e = .returned (.tuple #[.int .i64 (unpackR b).1, .bool (unpackR b).2.1, .int .i64 (unpackR b).2.2]) ∧ Below w.heap.size w w' := by
  unfold unpackR
  by_cases h0 : b < 0
  · rw [if_neg (by omega)]
    have d0 : decide (b < 0) = true := decide_eq_true h0
    go_enter Tryd.func8, Tryd.ntmps8
    go_wp2
    exact bodyPost_ret (v := .tuple #[.int .i64 0, .bool false, .int .i64 1]) (by simp [results, Tryd.results8, go_sem]) rfl ⟨rfl, bel⟩
  · have d0 : decide (b < 0) = false := decide_eq_false h0
    by_cases h1 : b > 1023
    · rw [if_neg (by omega)]
      have d1 : decide (b > 1023) = true := decide_eq_true h1
      go_enter Tryd.func8, Tryd.ntmps8
      go_wp2
      exact bodyPost_ret (v := .tuple #[.int .i64 0, .bool false, .int .i64 1]) (by simp [results, Tryd.results8, go_sem]) rfl ⟨rfl, bel⟩
    · have d1 : decide (b > 1023) = false := decide_eq_false h1
      rw [if_pos (by omega)]
      obtain ⟨m, rfl⟩ := Int.eq_ofNat_of_zero_le (show 0 ≤ b by omega)
      rw [Int.toNat_natCast]
      have hu := (unpk_le (show m < 1024 by omega)).1
      have HU := Lib.hid fun w' => unpacked_any (b := m) w' (by omega)
      generalize unpk m = u at *
      have HP := Lib.hid fun w' => packed_any (n := u) w' hu
      generalize pkd u = P at *
      have he : ((P : Int) == (m : Int)) = decide (P = m) := by
        by_cases h : P = m
        · rw [decide_eq_true h, h]; simp
        · rw [decide_eq_false h]; simp; omega
      go_enter Tryd.func8, Tryd.ntmps8
      go_wp2_with (first | fail | (go_at_call 17; (with_reducible refine (HU.out _).mono ?_); rintro e w1 ⟨rfl, b1⟩) | (go_at_call 16; (with_reducible refine (HP.out _).mono ?_); rintro e w2 ⟨rfl, b2⟩))
      all_goals exact bodyPost_ret (v := .tuple #[.int .i64 u, .bool (decide (P = m)), .int .i64 0]) (by simp [results, Tryd.results8, go_sem, he]) rfl ⟨rfl, bel⟩
end Go.Proofs.YtiplbpfdkcddlaaDoor

set_option linter.unusedSimpArgs false
set_option linter.unusedVariables false
set_option linter.unnecessarySimpa false
namespace Go.Proofs.YtiplbpfdkcddlaaDoor
open Go.RowKit Go.Proofs.YtiplbpfdkcddlaaDoorW.PrintWords Go.Proofs.YtiplbpfdkcddlaaDoorW.PrintLast Go.Proofs.YtiplbpfdkcddlaaDoorW.PrintMore Go.Proofs.YtiplbpfdkcddlaaDoor.NL
set_option maxRecDepth 100000
set_option exponentiation.threshold 33000

/-- The number of the last k groups of ten bits, and whether all are those that Pack returns. -/
def payV : Nat → Nat → Nat
  | _, 0 => 0
  | T, k + 1 => payV (T / 1024) k * 1000 + unpk (T % 1024)
def payC : Nat → Nat → Bool
  | _, 0 => true
  | T, k + 1 => payC (T / 1024) k && decide (pkd (unpk (T % 1024)) = T % 1024)
theorem payV_lt : ∀ (k T : Nat), payV T k < 1000 ^ k := by
  intro k
  induction k with
  | zero => intro T; simp [payV]
  | succ k ih =>
    intro T
    have h1 := ih (T / 1024)
    have h2 := (unpk_le (show T % 1024 < 1024 by omega)).1
    show payV (T / 1024) k * 1000 + unpk (T % 1024) < 1000 ^ (k + 1)
    rw [Nat.pow_succ]; omega
theorem pay_step {T k j : Nat} (h : j < k) : payV (T / 2 ^ (10 * j)) (k - j) = payV (T / 2 ^ (10 * (j + 1))) (k - (j + 1)) * 1000 + unpk (T / 2 ^ (10 * j) % 1024) ∧ payC (T / 2 ^ (10 * j)) (k - j) = (payC (T / 2 ^ (10 * (j + 1))) (k - (j + 1)) && decide (pkd (unpk (T / 2 ^ (10 * j) % 1024)) = T / 2 ^ (10 * j) % 1024)) := by
  obtain ⟨i, hi⟩ : ∃ i, k - j = i + 1 := ⟨k - j - 1, by omega⟩
  have e : T / 2 ^ (10 * (j + 1)) = T / 2 ^ (10 * j) / 1024 := by rw [show 10 * (j + 1) = 10 * j + 10 by omega, Nat.pow_add, ← Nat.div_div_eq_div_mul]
  rw [hi, show k - (j + 1) = i by omega, e]
  exact ⟨rfl, rfl⟩
theorem pay_small {k x : Nat} (h : x < 1000 ^ k) (hk : k ≤ 11) : x < 2 ^ 120 := by
  have h1 : 1000 ^ k ≤ 1000 ^ 11 := Nat.pow_le_pow_right (by decide) hk
  have h2 : 1000 ^ 11 < 2 ^ 120 := by decide +kernel
  omega
theorem thou_C (W : World) : Kd.C (Kd.int .u32) (W.alloc (.cells #[.int .u32 1000] 46)) (some ⟨W.heap.size, 0, none⟩) 1 (ofN 1000) := by
  rw [show ofN 1000 = [1000] from by decide +kernel]
  exact (R_C (R_fresh W W.heap.size rfl [1000] #[.int .u32 1000] rfl 1 rfl (Nat.le_refl _) (by simp))).1
/-- The word of a small number. -/
theorem wd_lo {N : Nat} {hi lo : Int} (h : Wd N hi lo) (hN : N < 2 ^ 64) : lo = (N : Int) := by
  obtain ⟨a0, a1, b0, b1, e⟩ := h
  omega
def PayP (x : Nat) (cb : Bool) (w : World) (r : Ending) (w' : World) : Prop := ∃ v, r = .returned (.tuple #[v, .bool cb]) ∧ Kd.R (Kd.int .u32) 46 w' w.heap.size (fun _ => True) v (ofN x) ∧ Below w.heap.size w w'
set_option maxHeartbeats 8000000 in
theorem tpay_any {T k : Nat} {hi lo P L H W : Int} (w : World) (hw : Wd T hi lo) (hk : k ≤ 11) :
    Calls Tryd.prog 108 #[.agg #[], fV P L H W (10 * k : Nat), wV hi lo] w (PayP (payV T k) (payC T k) w) := by
  have HWd := Lib.hid hw
  go_enter Tryd.func108, Tryd.ntmps108
  go_wp2
  go_loopw [8, 9, 10] (fun v8 v9 v10 wr => ∃ (j : Nat) (B : Option Addr) (m d x : Nat) (cb : Bool), j ≤ k ∧ v10 = .int .i64 (10 * (j : Int) - 10) ∧ v8 = .slice B m d ∧ v9 = .bool cb ∧ Hid (Kd.R (Kd.int .u32) 46 wr w.heap.size (fun _ => True) (.slice B m d) (ofN x)) ∧ Hid (x = payV (T / 2 ^ (10 * j)) (k - j)) ∧ Hid (cb = payC (T / 2 ^ (10 * j)) (k - j)) ∧ BlkIs wr (w.heap.size + 2) 59 (· = #[.int .u64 hi, .int .u64 lo]) ∧ Below w.heap.size w wr) (fun v8 v9 v10 _ => (intOf v10 + 10).toNat)
  case atStart => exact ⟨k, none, 0, 0, 0, true, Nat.le_refl _, by first | rfl | (simp; done) | (simp; omega), rfl, rfl, Lib.hid (by rw [ofN_zero]; exact Kd.R_nil _ _ _ _ _), Lib.hid (by rw [Nat.sub_self]; rfl), Lib.hid (by rw [Nat.sub_self]; rfl), blk0, bel⟩
  case round =>
    obtain ⟨j, B, m, d, x, cb, hj, rfl, rfl, rfl, HR, HX, HCB, hblk, hbw⟩ := hrel
    obtain ⟨cs, hbk, rfl⟩ := hblk
    have k0 : wr.cell? ⟨w.heap.size + 2, 0, none⟩ = some (.int .u64 hi) := by simpa using blk_cell hbk 0
    have k1 : wr.cell? ⟨w.heap.size + 2, 1, none⟩ = some (.int .u64 lo) := by simpa using blk_cell hbk 1
    have kz : w.heap.size + 2 < wr.heap.size := blk_lt hbk
    by_cases h0 : j = 0
    · subst h0
      have d0 : decide ((0 : Int) ≤ 10 * ((0 : Nat) : Int) - 10) = false := by decide
      rw [Nat.mul_zero, Nat.pow_zero, Nat.div_one, Nat.sub_zero] at HX HCB
      go_wp2
      exact bodyPost_ret (v := .tuple #[.slice B m d, .bool cb]) (by simp [results, Tryd.results108, go_sem]) rfl ⟨_, by rw [HCB.out], by rw [← HX.out]; exact HR.out, hbw⟩
    · obtain ⟨i, rfl⟩ : ∃ i, j = i + 1 := ⟨j - 1, by omega⟩
      obtain ⟨q1, q2⟩ := pay_step (T := T) (show i < k by omega)
      generalize ha : 10 * i = a at *
      have e : (10 * ((i + 1 : Nat) : Int) - 10) = (a : Int) := by omega
      rw [e]
      have d0 : decide ((0 : Int) ≤ (a : Int)) = true := decide_eq_true (by omega)
      have hx : x < 2 ^ 120 := by rw [HX.out]; exact pay_small (payV_lt _ _) (by omega)
      have HRi := Lib.hid fun w' => wright_any a w' HWd.out (by omega)
      have hb : T / 2 ^ a % 1024 < 1024 := Nat.mod_lt _ (by decide)
      have HLow : Hid (∀ hi' lo' w', Hid (Wd (T / 2 ^ a) hi' lo') → Calls Tryd.prog 23 #[wV hi' lo', .int .i64 10] w' (GivesW (T / 2 ^ a % 1024) w')) := Lib.hid fun hi' lo' w' h => wlow_any 10 w' h.out (by omega)
      rw [← HX.out] at q1
      rw [← HCB.out] at q2
      have HX2 := Lib.hid q1
      have HC2 := Lib.hid q2
      have hu := (unpk_le hb).1
      generalize T / 2 ^ a % 1024 = b at *
      have HU := Lib.hid fun w' => unpacked_any (b := b) w' (by omega)
      generalize unpk b = n at *
      have HP := Lib.hid fun w' => packed_any (n := n) w' hu
      have HMu : Hid (∀ A n c A' w', Kd.C (Kd.int .u32) w' A n (ofN x) → n ≤ c → Kd.C (Kd.int .u32) w' A' 1 (ofN 1000) → Calls Tryd.prog 36 #[.slice A n c, .slice A' 1 1] w' (NumErr (ofN (x * 1000)) 0 w')) := Lib.hid fun A n c A' w' g1 g2 g3 => n_mul w' g1 g2 g3 (Nat.le_refl 1) (Nat.lt_trans hx (Nat.pow_lt_pow_right (by decide) (by decide))) (Nat.lt_of_lt_of_le (show 1000 < 2 ^ 10 by decide) (Nat.pow_le_pow_right (by decide) (by decide)))
      have hx3 : x * 1000 < 2 ^ 130 := by
        have : x * 1000 < 2 ^ 120 * 1024 := by omega
        have h2 : (2 : Nat) ^ 120 * 1024 = 2 ^ 130 := by decide +kernel
        omega
      have hx4 : x * 1000 < 2 ^ 239 := Nat.lt_trans hx3 (Nat.pow_lt_pow_right (by decide) (by decide))
      have hn4 : n < 2 ^ 239 := Nat.lt_of_lt_of_le (show n < 2 ^ 10 by omega) (Nat.pow_le_pow_right (by decide) (by decide))
      have HFu : Hid (∀ w', Calls Tryd.prog 104 #[.int .u64 (n : Int)] w' (Gives n w')) := Lib.hid fun w' => nFromUint_any (n : Int) w' (by omega) (by omega)
      have HAd : Hid (∀ A n1 c A' n' c' w', Kd.C (Kd.int .u32) w' A n1 (ofN (x * 1000)) → n1 ≤ c → Kd.C (Kd.int .u32) w' A' n' (ofN n) → n' ≤ c' → Calls Tryd.prog 105 #[.slice A n1 c, .slice A' n' c'] w' (NumErr (ofN (x * 1000 + n)) 0 w')) := Lib.hid fun A n1 c A' n' c' w' g1 g2 g3 g4 => n_add w' g1 g2 g3 g4 hx4 hn4
      have hcv : IntKind.i64.wrap (b : Int) = (b : Int) := by rw [IntKind.wrap_i64]; omega
      have hcu : IntKind.u64.wrap (n : Int) = (n : Int) := by rw [IntKind.wrap_u64]; omega
      have hfl : ∀ (hi lo : Int) (w : World), (Instr.field 59 (wV hi lo) 1).run Tryd.prog w = .ok (.int .u64 lo) w := fun _ _ _ => by kernel_rfl
      have hpe : ((pkd n : Int) == (b : Int)) = decide (pkd n = b) := by
        by_cases h : pkd n = b
        · rw [decide_eq_true h, h]; simp
        · rw [decide_eq_false h]; simp; omega
      clear q1 q2
      cases cb with
      | true =>
        generalize pkd n = Pk at *
        go_wp2_with (first | fail | (go_at_call 25; (with_reducible refine (HRi.out _).mono ?_); rintro r w1 ⟨hi1, lo1, rfl, hw1, b1⟩; obtain ⟨hc1, hf1⟩ := bcell b1; have hz1 := below_size b1; (try simp at hz1); have zz1 : w.heap.size + 2 < w1.heap.size := (by omega)) | (go_at_call 23; (with_reducible refine (HLow.out _ _ _ hw1).mono ?_); rintro r w2 ⟨hi2, lo2, rfl, hw2, b2⟩; obtain ⟨hc2, hf2⟩ := bcell b2; have hz2 := below_size b2; (try simp at hz2); have zz2 : w.heap.size + 2 < w2.heap.size := (by omega); obtain rfl : lo2 = (b : Int) := wd_lo hw2.out (by omega)) | (go_at_call 17; (try rw [hcv]); (with_reducible refine (HU.out _).mono ?_); rintro r w3 ⟨rfl, b3⟩; obtain ⟨hc3, hf3⟩ := bcell b3; have hz3 := below_size b3; (try simp at hz3); have zz3 : w.heap.size + 2 < w3.heap.size := (by omega)) | (go_at_call 16; (with_reducible refine (HP.out _).mono ?_); rintro r w4 ⟨rfl, b4⟩; obtain ⟨hc4, hf4⟩ := bcell b4; have hz4 := below_size b4; (try simp at hz4); have zz4 : w.heap.size + 2 < w4.heap.size := (by omega)) | (go_at_call 36; (with_reducible refine (HMu.out _ _ _ _ _ (Kd.C_below (R_C HR.out).1 bel) (R_C HR.out).2 (thou_C _)).mono ?_); rintro r w5 ⟨v5, rfl, hv5, b5⟩; obtain ⟨A5, c5, rfl⟩ := Kd.R_slice hv5; have HV5 := Lib.hid hv5; clear hv5; obtain ⟨hc5, hf5⟩ := bcell b5; have hz5 := below_size b5; (try simp at hz5); have zz5 : w.heap.size + 2 < w5.heap.size := (by omega)) | (go_at_call 104; (try rw [hcu]); (with_reducible refine (HFu.out _).mono ?_); rintro r w6 ⟨A6, n6, c6, rfl, h6, b6⟩; obtain ⟨hc6, hf6⟩ := bcell b6; have hz6 := below_size b6; (try simp at hz6); have zz6 : w.heap.size + 2 < w6.heap.size := (by omega)) | (go_at_call 105; (with_reducible refine (HAd.out _ _ _ _ _ _ _ (Kd.C_below (R_C HV5.out).1 bel) (R_C HV5.out).2 (Kd.C_below h6.out.2 bel) h6.out.1).mono ?_); rintro r w7 ⟨v7, rfl, hv7, b7⟩; obtain ⟨A7, c7, rfl⟩ := Kd.R_slice hv7; have HV7 := Lib.hid hv7; clear hv7; obtain ⟨hc7, hf7⟩ := bcell b7; have hz7 := below_size b7; (try simp at hz7); have zz7 : w.heap.size + 2 < w7.heap.size := (by omega)))
        refine ⟨?_, ?measure⟩
        repeat apply Exists.intro
        refine ⟨?rel, rfl⟩
        case rel => exact ⟨i, _, _, _, _, _, by omega, by first | rfl | (simp; done) | (simp; omega), rfl, by first | rfl | (simp; done), Lib.hid (Kd.R_lower HV7.out (by omega)), Lib.hid (by rw [ha, HX2.out]), Lib.hid (by rw [ha, HC2.out]; simp [hpe]), blk1, bel⟩
        case measure => simp [intOf]; omega
      | false =>
        go_wp2_with (first | fail | (go_at_call 25; (with_reducible refine (HRi.out _).mono ?_); rintro r w1 ⟨hi1, lo1, rfl, hw1, b1⟩; obtain ⟨hc1, hf1⟩ := bcell b1; have hz1 := below_size b1; (try simp at hz1); have zz1 : w.heap.size + 2 < w1.heap.size := (by omega)) | (go_at_call 23; (with_reducible refine (HLow.out _ _ _ hw1).mono ?_); rintro r w2 ⟨hi2, lo2, rfl, hw2, b2⟩; obtain ⟨hc2, hf2⟩ := bcell b2; have hz2 := below_size b2; (try simp at hz2); have zz2 : w.heap.size + 2 < w2.heap.size := (by omega); obtain rfl : lo2 = (b : Int) := wd_lo hw2.out (by omega)) | (go_at_call 17; (try rw [hcv]); (with_reducible refine (HU.out _).mono ?_); rintro r w3 ⟨rfl, b3⟩; obtain ⟨hc3, hf3⟩ := bcell b3; have hz3 := below_size b3; (try simp at hz3); have zz3 : w.heap.size + 2 < w3.heap.size := (by omega)) | (go_at_call 36; (with_reducible refine (HMu.out _ _ _ _ _ (Kd.C_below (R_C HR.out).1 bel) (R_C HR.out).2 (thou_C _)).mono ?_); rintro r w5 ⟨v5, rfl, hv5, b5⟩; obtain ⟨A5, c5, rfl⟩ := Kd.R_slice hv5; have HV5 := Lib.hid hv5; clear hv5; obtain ⟨hc5, hf5⟩ := bcell b5; have hz5 := below_size b5; (try simp at hz5); have zz5 : w.heap.size + 2 < w5.heap.size := (by omega)) | (go_at_call 104; (try rw [hcu]); (with_reducible refine (HFu.out _).mono ?_); rintro r w6 ⟨A6, n6, c6, rfl, h6, b6⟩; obtain ⟨hc6, hf6⟩ := bcell b6; have hz6 := below_size b6; (try simp at hz6); have zz6 : w.heap.size + 2 < w6.heap.size := (by omega)) | (go_at_call 105; (with_reducible refine (HAd.out _ _ _ _ _ _ _ (Kd.C_below (R_C HV5.out).1 bel) (R_C HV5.out).2 (Kd.C_below h6.out.2 bel) h6.out.1).mono ?_); rintro r w7 ⟨v7, rfl, hv7, b7⟩; obtain ⟨A7, c7, rfl⟩ := Kd.R_slice hv7; have HV7 := Lib.hid hv7; clear hv7; obtain ⟨hc7, hf7⟩ := bcell b7; have hz7 := below_size b7; (try simp at hz7); have zz7 : w.heap.size + 2 < w7.heap.size := (by omega)))
        refine ⟨?_, ?measure⟩
        repeat apply Exists.intro
        refine ⟨?rel, rfl⟩
        case rel => exact ⟨i, _, _, _, _, _, by omega, by first | rfl | (simp; done) | (simp; omega), rfl, by first | rfl | (simp; done), Lib.hid (Kd.R_lower HV7.out (by omega)), Lib.hid (by rw [ha, HX2.out]), Lib.hid (by rw [ha, HC2.out]; rfl), blk1, bel⟩
        case measure => simp [intOf]; omega
end Go.Proofs.YtiplbpfdkcddlaaDoor
