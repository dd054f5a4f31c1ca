/- Written by this session's own program (wip/tools/xprint.sh) for the law BinarySpecials: what the law's functions compute, and that the machine does so, given the contracts of the program's functions. -/
import Derived.Test.YtacnkcojhlbkoaaDoorJDua
import Derived.Test.YtacnkcojhlbkoaaDoorJD19
namespace Go.Proofs.YtacnkcojhlbkoaaDoor.XBinarySpecials
open Go.RowKit Go.Proofs.YtacnkcojhlbkoaaDoorW.PrintWords Go.Proofs.YtacnkcojhlbkoaaDoorW.PrintLast Go.Proofs.YtacnkcojhlbkoaaDoorW.PrintMore Go.Proofs.YtacnkcojhlbkoaaDoor.Zip
attribute [local go_sem] max2_int min2_int max_two min_two max_three min_three max_four min_four   -- for this text's walks alone
set_option linter.unusedVariables false
set_option linter.unusedSimpArgs false

attribute [local go_sem high] eqA28
/-! ### sorobanlaw05_BinarySpecials: function 6 -/
mutual
def sorobanlaw05_BinarySpecials.j0 : Nat → Bool → Bool → List Int → List Int → Int → Int → Option (Bool)
  | 0, _, _, _, _, _, _ => none
  | k + 1, x1, x2, x3, x4, x11, x12 => (binary_Special.f x11 x12 x2 x3).bind fun bt104 => ((binary_Format.f x11).bind fun bt113 => ((nat_Bits.f x3).bind fun bt120 => (if bt113.2.2.2.2.2 = 0 then (if bt120.2 = 0 then (if bt120.1 ≤ (wrap64 (bt113.1 - 2)) then (if bt120.1 > 0 then (sorobanlaw05_BinarySpecials.j1 k x2 x3 x4 x11 x12 bt104.2.2.2.2.2 true bt104.1 bt104.2.1 bt104.2.2.1 bt104.2.2.2.1 bt104.2.2.2.2.1) else (sorobanlaw05_BinarySpecials.j1 k x2 x3 x4 x11 x12 bt104.2.2.2.2.2 (!x1) bt104.1 bt104.2.1 bt104.2.2.1 bt104.2.2.2.1 bt104.2.2.2.2.1)) else (sorobanlaw05_BinarySpecials.j1 k x2 x3 x4 x11 x12 bt104.2.2.2.2.2 false bt104.1 bt104.2.1 bt104.2.2.1 bt104.2.2.2.1 bt104.2.2.2.2.1)) else (sorobanlaw05_BinarySpecials.j1 k x2 x3 x4 x11 x12 bt104.2.2.2.2.2 false bt104.1 bt104.2.1 bt104.2.2.1 bt104.2.2.2.1 bt104.2.2.2.2.1)) else (some false))))
def sorobanlaw05_BinarySpecials.j1 : Nat → Bool → List Int → List Int → Int → Int → Int → Bool → Int → Int → Bool → List Int → Int → Option (Bool)
  | 0, _, _, _, _, _, _, _, _, _, _, _, _ => none
  | k + 1, x2, x3, x4, x11, x12, x14, x19, x113000, x113001, x113002, x113003, x113004 => if x19 = true then ((binary_Encode.f x113000 x113001 x113002 x113003 x113004).bind fun bt123 => ((binary_Decode.f x11 bt123.1 bt123.2.1).bind fun bt127 => (if x14 = 0 then (if bt123.2.2 = 0 then (if bt127.2.2.2.2.2 = 0 then ((sorobanref05_Same.f bt127.1 bt127.2.1 bt127.2.2.1 bt127.2.2.2.1 bt127.2.2.2.2.1 x113000 x113001 x113002 x113003 x113004).bind fun t136 => (sorobanlaw05_BinarySpecials.j2 k x2 x3 x4 x11 x12 (!t136) bt123.1 bt123.2.1)) else (sorobanlaw05_BinarySpecials.j2 k x2 x3 x4 x11 x12 true bt123.1 bt123.2.1)) else (sorobanlaw05_BinarySpecials.j2 k x2 x3 x4 x11 x12 true bt123.1 bt123.2.1)) else (sorobanlaw05_BinarySpecials.j2 k x2 x3 x4 x11 x12 true bt123.1 bt123.2.1)))) else ((sorobanlaw05_sanity.f).bind fun t122 => (if t122 = true then (some (x14 == 1)) else (some false)))
def sorobanlaw05_BinarySpecials.j2 : Nat → Bool → List Int → List Int → Int → Int → Bool → Int → Int → Option (Bool)
  | 0, _, _, _, _, _, _, _, _ => none
  | k + 1, x2, x3, x4, x11, x12, x104, x127000, x127001 => if x104 = true then (some false) else ((binary_Special.f x11 x12 x2 x4).bind fun bt137 => ((binary_Encode.f bt137.1 bt137.2.1 bt137.2.2.1 bt137.2.2.2.1 bt137.2.2.2.2.1).bind fun bt146 => ((sorobanlaw05_sanity.f).bind fun t150 => (if t150 = true then (if bt137.2.2.2.2.2 = 0 then (if bt146.2.2 = 0 then ((sorobanref01_Same.f x3 x4).bind fun t151 => (some ((x127000 == bt146.1 && (x127001 == bt146.2.1)) == t151))) else (some false)) else (some true)) else (some false)))))
end
def sorobanlaw05_BinarySpecials.f (k : Nat) (a0 : Int) (a1 : Bool) (a2 : Bool) (l3 : List Int) (l4 : List Int) : Option (Bool) := (sorobanlaw05_which.f a0).bind fun t101 => ((light2 l3 l4).bind fun t102 => (if t102 = true then (if a1 = true then (sorobanlaw05_BinarySpecials.j0 k a1 a2 l3 l4 t101 4) else (sorobanlaw05_BinarySpecials.j0 k a1 a2 l3 l4 t101 3)) else ((sorobanlaw05_sanity.f).bind fun t103 => (some t103))))
theorem sorobanlaw05_BinarySpecials.mono_l : ∀ k, (∀ y0 y1 y2 y3 y4 y5, LeO (sorobanlaw05_BinarySpecials.j0 k y0 y1 y2 y3 y4 y5) (sorobanlaw05_BinarySpecials.j0 (k + 1) y0 y1 y2 y3 y4 y5)) ∧ (∀ y0 y1 y2 y3 y4 y5 y6 y7 y8 y9 y10 y11, LeO (sorobanlaw05_BinarySpecials.j1 k y0 y1 y2 y3 y4 y5 y6 y7 y8 y9 y10 y11) (sorobanlaw05_BinarySpecials.j1 (k + 1) y0 y1 y2 y3 y4 y5 y6 y7 y8 y9 y10 y11)) ∧ (∀ y0 y1 y2 y3 y4 y5 y6 y7, LeO (sorobanlaw05_BinarySpecials.j2 k y0 y1 y2 y3 y4 y5 y6 y7) (sorobanlaw05_BinarySpecials.j2 (k + 1) y0 y1 y2 y3 y4 y5 y6 y7))
  | 0 => ⟨fun _ _ _ _ _ _ r h => by simp [sorobanlaw05_BinarySpecials.j0] at h, fun _ _ _ _ _ _ _ _ _ _ _ _ r h => by simp [sorobanlaw05_BinarySpecials.j1] at h, fun _ _ _ _ _ _ _ _ r h => by simp [sorobanlaw05_BinarySpecials.j2] at h⟩
  | k + 1 => by
    obtain ⟨ih0, ih1, ih2⟩ := sorobanlaw05_BinarySpecials.mono_l k
    refine ⟨?_, ?_, ?_⟩
    · intro y0 y1 y2 y3 y4 y5
      unfold sorobanlaw05_BinarySpecials.j0
      repeat' first
      | (with_reducible exact ih0 _ _ _ _ _ _)
      | (with_reducible exact ih1 _ _ _ _ _ _ _ _ _ _ _ _)
      | (with_reducible exact ih2 _ _ _ _ _ _ _ _)
      | (with_reducible exact LeO.refl _)
      | (with_reducible exact LeO.none _)
      | (with_reducible refine LeO.ite ?_ ?_)
      | (with_reducible refine LeO.bind ?_ (fun _ => ?_))
      | exact ih0 _ _ _ _ _ _
      | exact ih1 _ _ _ _ _ _ _ _ _ _ _ _
      | exact ih2 _ _ _ _ _ _ _ _
      | exact LeO.none _
      | refine LeO.ite ?_ ?_
      | refine LeO.bind ?_ (fun _ => ?_)
    · intro y0 y1 y2 y3 y4 y5 y6 y7 y8 y9 y10 y11
      unfold sorobanlaw05_BinarySpecials.j1
      repeat' first
      | (with_reducible exact ih0 _ _ _ _ _ _)
      | (with_reducible exact ih1 _ _ _ _ _ _ _ _ _ _ _ _)
      | (with_reducible exact ih2 _ _ _ _ _ _ _ _)
      | (with_reducible exact LeO.refl _)
      | (with_reducible exact LeO.none _)
      | (with_reducible refine LeO.ite ?_ ?_)
      | (with_reducible refine LeO.bind ?_ (fun _ => ?_))
      | exact ih0 _ _ _ _ _ _
      | exact ih1 _ _ _ _ _ _ _ _ _ _ _ _
      | exact ih2 _ _ _ _ _ _ _ _
      | exact LeO.none _
      | refine LeO.ite ?_ ?_
      | refine LeO.bind ?_ (fun _ => ?_)
    · intro y0 y1 y2 y3 y4 y5 y6 y7
      unfold sorobanlaw05_BinarySpecials.j2
      repeat' first
      | (with_reducible exact ih0 _ _ _ _ _ _)
      | (with_reducible exact ih1 _ _ _ _ _ _ _ _ _ _ _ _)
      | (with_reducible exact ih2 _ _ _ _ _ _ _ _)
      | (with_reducible exact LeO.refl _)
      | (with_reducible exact LeO.none _)
      | (with_reducible refine LeO.ite ?_ ?_)
      | (with_reducible refine LeO.bind ?_ (fun _ => ?_))
      | exact ih0 _ _ _ _ _ _
      | exact ih1 _ _ _ _ _ _ _ _ _ _ _ _
      | exact ih2 _ _ _ _ _ _ _ _
      | exact LeO.none _
      | refine LeO.ite ?_ ?_
      | refine LeO.bind ?_ (fun _ => ?_)
theorem sorobanlaw05_BinarySpecials.mono : ∀ a0 a1 a2 a3 a4 k, LeO (sorobanlaw05_BinarySpecials.f k a0 a1 a2 a3 a4) (sorobanlaw05_BinarySpecials.f (k + 1) a0 a1 a2 a3 a4) := by
  intro a0 a1 a2 a3 a4 k
  obtain ⟨ih0, ih1, ih2⟩ := sorobanlaw05_BinarySpecials.mono_l k
  unfold sorobanlaw05_BinarySpecials.f
  repeat' first
      | (with_reducible exact ih0 _ _ _ _ _ _)
      | (with_reducible exact ih1 _ _ _ _ _ _ _ _ _ _ _ _)
      | (with_reducible exact ih2 _ _ _ _ _ _ _ _)
      | (with_reducible exact LeO.refl _)
      | (with_reducible exact LeO.none _)
      | (with_reducible refine LeO.ite ?_ ?_)
      | (with_reducible refine LeO.bind ?_ (fun _ => ?_))
      | exact ih0 _ _ _ _ _ _
      | exact ih1 _ _ _ _ _ _ _ _ _ _ _ _
      | exact ih2 _ _ _ _ _ _ _ _
      | exact LeO.none _
      | refine LeO.ite ?_ ?_
      | refine LeO.bind ?_ (fun _ => ?_)
def sorobanlaw05_BinarySpecials.T21 : Bool × List (List Nat × List Nat) := (true, [([], []), ([0, 0], [0]), ([1], [1]), ([2, 1], [1, 2]), ([3, 1, 1], [1, 3]), ([4], [4]), ([5, 4], [4, 5]), ([6, 4, 4], [4, 6]), ([7], [7]), ([7], [7]), ([8, 9, 7], [7, 8, 9]), ([7], [7]), ([7], [7]), ([11, 12, 7, 7], [7, 11, 12]), ([10, 13, 7], [7, 10, 13]), ([7, 14, 4], [4, 7, 14]), ([4, 15, 1], [1, 4, 15]), ([1, 16], [1, 16]), ([17, 13, 0, 1, 2, 3, 4, 5, 6, 7, 8, 9, 10, 11, 12, 13, 14, 15, 16, 17], [17])])
def sorobanlaw05_BinarySpecials.B21 : List Nat := [0, 1, 3, 7, 15, 31, 63, 127, 255, 255, 1023, 255, 255, 6399, 16383, 32767, 65535, 131071, 262143]
theorem sorobanlaw05_BinarySpecials.tab21 : rtab .any (opsOf Tryd.f6 21) = sorobanlaw05_BinarySpecials.T21 := by kernel_rfl
theorem sorobanlaw05_BinarySpecials.bits21 : waitsOk sorobanlaw05_BinarySpecials.T21.2 sorobanlaw05_BinarySpecials.B21 = true := by kernel_rfl
set_option maxHeartbeats 8000000 in
set_option maxRecDepth 100000 in
theorem sorobanlaw05_BinarySpecials.calls (k : Nat) (a0 : Int) (a1 : Bool) (a2 : Bool) (A3 : Option Addr) (c3 : Nat) (l3 : List Int) (A4 : Option Addr) (c4 : Nat) (l4 : List Int) (r : Bool) (w : World) (hr3 : Kd.C (Kd.int .u32) w A3 l3.length l3) (hc3 : l3.length ≤ c3) (hr4 : Kd.C (Kd.int .u32) w A4 l4.length l4) (hc4 : l4.length ≤ c4) (h : sorobanlaw05_BinarySpecials.f k a0 a1 a2 l3 l4 = some r) (hT : Tab w) :
    Calls Tryd.prog 6 #[.int .u8 a0, .bool a1, .bool a2, .slice A3 l3.length c3, .slice A4 l4.length c4] w fun e w' => e = .returned (.bool r) ∧ Below w.heap.size w w' := by
  have hu25 := Tryd.underlying25
  have hu57 := Tryd.underlying57
  have hu28 := Tryd.underlying28
  have HR3 := Aside0.mk hr3
  have HC3 := Aside0.mk hc3
  clear hr3 hc3
  have HR4 := Aside0.mk hr4
  have HC4 := Aside0.mk hc4
  clear hr4 hc4
  have HTAB := Aside0.mk hT
  clear hT
  have HB := Aside0.mk (Below.refl w.heap.size w)
  have H : ((sorobanlaw05_which.f a0).bind fun t101 => ((light2 l3 l4).bind fun t102 => (if t102 = true then (if a1 = true then (sorobanlaw05_BinarySpecials.j0 k a1 a2 l3 l4 t101 4) else (sorobanlaw05_BinarySpecials.j0 k a1 a2 l3 l4 t101 3)) else ((sorobanlaw05_sanity.f).bind fun t103 => (some t103))))) = some r := h
  clear h
  replace H := Option.bind_eq_some_iff.mp H
  obtain ⟨t101, A60, H⟩ := H
  replace H : ((light2 l3 l4).bind fun t102 => (if t102 = true then (if a1 = true then (sorobanlaw05_BinarySpecials.j0 k a1 a2 l3 l4 t101 4) else (sorobanlaw05_BinarySpecials.j0 k a1 a2 l3 l4 t101 3)) else ((sorobanlaw05_sanity.f).bind fun t103 => (some t103)))) = some r := H
  have A6 := Aside0.mk A60
  clear A60
  replace H := Option.bind_eq_some_iff.mp H
  obtain ⟨t102, A70, H⟩ := H
  replace H : (if t102 = true then (if a1 = true then (sorobanlaw05_BinarySpecials.j0 k a1 a2 l3 l4 t101 4) else (sorobanlaw05_BinarySpecials.j0 k a1 a2 l3 l4 t101 3)) else ((sorobanlaw05_sanity.f).bind fun t103 => (some t103))) = some r := H
  have A7 := Aside0.mk A70
  clear A70
  by_cases c8 : t102 = true
  · subst c8
    have H1 : (if a1 = true then (sorobanlaw05_BinarySpecials.j0 k a1 a2 l3 l4 t101 4) else (sorobanlaw05_BinarySpecials.j0 k a1 a2 l3 l4 t101 3)) = some r := by rw [if_pos rfl] at H; exact H
    clear H
    have H := H1
    clear H1
    have HC9 := Aside0.mk H
    clear H
    go_enter Tryd.func6, Tryd.ntmps6
    go_upto_if 33 with (first | ((with_reducible refine gate_callee (f := 21) rfl ?_); refine goesL_ (some 26) rfl rfl Tryd.func21 (by kernel_rfl) rfl #[.int .u8 a0] rfl zm ?_; (with_reducible refine (sorobanlaw05_which.calls a0 t101 _ A6.out).mono ?_); rintro e w10 ⟨rfl, hb⟩; refine ⟨_, rfl, ?_⟩; have n0_ := Aside0.mk (below_step (zb HB.out) hb); clear HB; have HB := n0_; clear n0_; (try clear hb); (try clear hb2); (try clear hk); (try clear hi)) | (go_at_call 10; (with_reducible refine (light_two _ _ A7.out).mono ?_); rintro e w11 ⟨rfl, hb⟩; have n0_ := Aside0.mk (below_step (zb HB.out) hb); clear HB; have HB := n0_; clear n0_; (try clear hb); (try clear hb2); (try clear hk); (try clear hi)))
    (try simp only [Act.put, List.setIfInBounds_toArray, List.set_cons_zero, List.set_cons_succ])
    go_cut [12] (fun v12 wc => ∃ (kq : Nat) (x12_8 : Int), v12 = .int .i64 x12_8 ∧ Aside0 (sorobanlaw05_BinarySpecials.j0 kq a1 a2 l3 l4 t101 x12_8 = some r) ∧ Aside0 (kq ≤ k) ∧ Aside0 (Below w.heap.size w wc))
    case first =>
      have H := HC9.out
      clear HC9
      by_cases c12 : a1 = true
      · subst c12
        have H1 : (sorobanlaw05_BinarySpecials.j0 k true a2 l3 l4 t101 4) = some r := by rw [if_pos rfl] at H; exact H
        clear H
        have H := H1
        clear H1
        have H' := Aside0.mk H
        clear H
        go_wp2
        go_meet
        case rel => exact ⟨_, (4), (by first | rfl | (simp; done) | (simp [*]; done) | (simp; omega)), H', ⟨by first | omega | exact Nat.le_refl _⟩, ⟨zb HB.out⟩⟩
      · replace c12 := Bool.eq_false_iff.mpr c12
        subst c12
        have H1 : (sorobanlaw05_BinarySpecials.j0 k false a2 l3 l4 t101 3) = some r := by rw [if_neg (show ¬ (false = true) by decide)] at H; exact H
        clear H
        have H := H1
        clear H1
        have H' := Aside0.mk H
        clear H
        go_wp2
        go_meet
        case rel => exact ⟨_, (3), (by first | rfl | (simp; done) | (simp [*]; done) | (simp; omega)), H', ⟨by first | omega | exact Nat.le_refl _⟩, ⟨zb HB.out⟩⟩
    case rest =>
      clear HC9
      try clear c1
      try clear c2
      try clear p2
      try clear c3
      try clear c4
      try clear c6
      try clear c8
      try clear c10
      try clear c12
      obtain ⟨kq, x12_8, rfl, HA, HJ8, HB⟩ := hcut
      cases kq with
      | zero => exact absurd HA.out (by simp [sorobanlaw05_BinarySpecials.j0])
      | succ kj8 =>
        have H := HA.out
        clear HA
        simp only [sorobanlaw05_BinarySpecials.j0] at H
        replace H := Option.bind_eq_some_iff.mp H
        obtain ⟨⟨t104, t105, t106, t107, t110, t111⟩, A130, H⟩ := H
        replace H : ((binary_Format.f t101).bind fun bt113 => ((nat_Bits.f l3).bind fun bt120 => (if bt113.2.2.2.2.2 = 0 then (if bt120.2 = 0 then (if bt120.1 ≤ (wrap64 (bt113.1 - 2)) then (if bt120.1 > 0 then (sorobanlaw05_BinarySpecials.j1 kj8 a2 l3 l4 t101 x12_8 t111 true t104 t105 t106 t107 t110) else (sorobanlaw05_BinarySpecials.j1 kj8 a2 l3 l4 t101 x12_8 t111 (!a1) t104 t105 t106 t107 t110)) else (sorobanlaw05_BinarySpecials.j1 kj8 a2 l3 l4 t101 x12_8 t111 false t104 t105 t106 t107 t110)) else (sorobanlaw05_BinarySpecials.j1 kj8 a2 l3 l4 t101 x12_8 t111 false t104 t105 t106 t107 t110)) else (some false)))) = some r := H
        have A13 := Aside0.mk A130
        clear A130
        replace H := Option.bind_eq_some_iff.mp H
        obtain ⟨⟨t113, t114, t115, t116, t117, t118⟩, A140, H⟩ := H
        replace H : ((nat_Bits.f l3).bind fun bt120 => (if t118 = 0 then (if bt120.2 = 0 then (if bt120.1 ≤ (wrap64 (t113 - 2)) then (if bt120.1 > 0 then (sorobanlaw05_BinarySpecials.j1 kj8 a2 l3 l4 t101 x12_8 t111 true t104 t105 t106 t107 t110) else (sorobanlaw05_BinarySpecials.j1 kj8 a2 l3 l4 t101 x12_8 t111 (!a1) t104 t105 t106 t107 t110)) else (sorobanlaw05_BinarySpecials.j1 kj8 a2 l3 l4 t101 x12_8 t111 false t104 t105 t106 t107 t110)) else (sorobanlaw05_BinarySpecials.j1 kj8 a2 l3 l4 t101 x12_8 t111 false t104 t105 t106 t107 t110)) else (some false))) = some r := H
        have A14 := Aside0.mk A140
        clear A140
        replace H := Option.bind_eq_some_iff.mp H
        obtain ⟨⟨t120, t121⟩, A150, H⟩ := H
        replace H : (if t118 = 0 then (if t121 = 0 then (if t120 ≤ (wrap64 (t113 - 2)) then (if t120 > 0 then (sorobanlaw05_BinarySpecials.j1 kj8 a2 l3 l4 t101 x12_8 t111 true t104 t105 t106 t107 t110) else (sorobanlaw05_BinarySpecials.j1 kj8 a2 l3 l4 t101 x12_8 t111 (!a1) t104 t105 t106 t107 t110)) else (sorobanlaw05_BinarySpecials.j1 kj8 a2 l3 l4 t101 x12_8 t111 false t104 t105 t106 t107 t110)) else (sorobanlaw05_BinarySpecials.j1 kj8 a2 l3 l4 t101 x12_8 t111 false t104 t105 t106 t107 t110)) else (some false)) = some r := H
        have A15 := Aside0.mk A150
        clear A150
        by_cases c16 : t118 = 0
        · rw [if_pos c16] at H
          have c16b0 : (t118 == 0) = true := beq_iff_eq.mpr c16
          have c16b1 : (t118 != 0) = false := bne_eq_false_iff_eq.mpr c16
          clear c16
          have HC17 := Aside0.mk H
          clear H
          go_upto_region 12 with (first | ((with_reducible refine gate_callee (f := 27) rfl ?_); refine goesL_ (some 39) rfl rfl Tryd.func27 (by kernel_rfl) rfl #[.int .i64 t101, .int .i64 x12_8, .bool a2, .slice A3 l3.length c3] rfl zm ?_; (with_reducible refine (binary_Special.calls t101 x12_8 a2 _ _ l3 t104 t105 t106 t107 t110 t111 _ ?side1 ?side2 A13.out).mono ?_); (case side1 => repeat (first | exact (Kd.C_below HR3.out HB.out) | (with_reducible refine Kd.C_alloc ?_ _) | (with_reducible refine Kd.C_drewN ?_ _) | (with_reducible refine Kd.C_drew ?_))); (case side2 => exact HC3.out); rintro e w18 ⟨v108, rfl, ho0, hb⟩; refine ⟨_, rfl, ?_⟩; have n0_ := Aside0.mk (Kd.R_lower ho0 (below_size (zb HB.out))); have n1_ := Aside0.mk (below_step (zb HB.out) hb); clear HB; have HO109 := n0_; have HB := n1_; clear n0_ n1_; (try clear hb); (try clear hb2); (try clear hk); (try clear hi); (try clear ho0)) | ((with_reducible refine gate_dst (N := 13) rfl ?_); refine box_event ?hg (N := 13) ?hd (cs := #[.int .i64 0, .int .i64 0, .bool false, .slice none 0 0, .int .i64 0]) (t := 25) ?hr ?_; (case hd => rfl); (case hg => rfl); (case hr => first | (go_simp; done) | (go_simp; rfl)); intro gb112 hg w19 hbox hb; have n0_ := Aside0.mk (Kd.R_below (zr HO109.out) hb); have n1_ := Aside0.mk (below_step (zb HB.out) hb); have n2_ := Aside0.mk (hbox); have n3_ := Aside0.mk ((by rw [hg]; exact (below_size (zb HB.out)) : w.heap.size ≤ gb112)); have n4_ := Aside0.mk ((by rw [hg]; exact (below_size (zb HB.out)) : w.heap.size ≤ gb112)); clear HO109; clear HB; have HO109 := n0_; have HB := n1_; have BK112 := n2_; have GW112 := n3_; have GE112 := n4_; clear n0_ n1_ n2_ n3_ n4_; clear hb hbox hg; have hcz20_0 : w19.cell? ⟨gb112, 0, none⟩ = some (.int .i64 0) := (blk_cell BK112.out 0).trans rfl; have hcz20_1 : w19.cell? ⟨gb112, 1, none⟩ = some (.int .i64 0) := (blk_cell BK112.out 1).trans rfl; have hcz20_2 : w19.cell? ⟨gb112, 2, none⟩ = some (.bool false) := (blk_cell BK112.out 2).trans rfl; have hcz20_3 : w19.cell? ⟨gb112, 3, none⟩ = some (.slice none 0 0) := (blk_cell BK112.out 3).trans rfl; have hcz20_4 : w19.cell? ⟨gb112, 4, none⟩ = some (.int .i64 0) := (blk_cell BK112.out 4).trans rfl; have hfz20_0 := blk_frozen BK112.out 0; have hfz20_1 := blk_frozen BK112.out 1; have hfz20_2 := blk_frozen BK112.out 2; have hfz20_3 := blk_frozen BK112.out 3; have hfz20_4 := blk_frozen BK112.out 4; obtain ⟨Ao21, co21, eo21⟩ := Kd.R_slice HO109.out; subst eo21) | ((with_reducible refine gate_callee (f := 28) rfl ?_); refine goesL_ (some 44) rfl rfl Tryd.func28 (by kernel_rfl) rfl #[.int .i64 t101] rfl zm ?_; (with_reducible refine (binary_Format.calls t101 t113 t114 t115 t116 t117 t118 _ A14.out).mono ?_); rintro e w22 ⟨rfl, hb⟩; refine ⟨_, rfl, ?_⟩; have n0_ := Aside0.mk (Kd.R_below (by (with_reducible repeat (first | apply Kd.R_alloc | apply Kd.R_drewN | apply Kd.R_drew)); exact (Kd.R_mono (Kd.R_far (p := ⟨gb112, 4, none⟩) (Kd.R_far (p := ⟨gb112, 3, none⟩) (Kd.R_far (p := ⟨gb112, 2, none⟩) (Kd.R_far (p := ⟨gb112, 1, none⟩) (Kd.R_far (p := ⟨gb112, 0, none⟩) (Kd.R_types HO109.out BK112.out (by decide)) (fun _ hk => hk.2) (.int .i64 t104)) (fun _ hk => hk.2) (.int .i64 t105)) (fun _ hk => hk.2) (.bool t106)) (fun _ hk => hk.2) (.slice Ao21 t107.length co21)) (fun _ hk => hk.2) (.int .i64 t110)) (fun _ h_ => h_.1))) hb); have n1_ := Aside0.mk (blk_below (g := gb112) (o := .cells #[.int .i64 t104, .int .i64 t105, .bool t106, .slice Ao21 t107.length co21, .int .i64 t110] 25 (0, 0)) (by (with_reducible repeat (first | refine blk_drewN ?_ _ | refine blk_drew ?_ | refine blk_alloc ?_ _)); refine blk_put (cs := #[.int .i64 t104, .int .i64 t105, .bool t106, .slice Ao21 t107.length co21, .int .i64 0]) ?_ 4 _ rfl; (with_reducible repeat (first | refine blk_drewN ?_ _ | refine blk_drew ?_ | refine blk_alloc ?_ _)); refine blk_put (cs := #[.int .i64 t104, .int .i64 t105, .bool t106, .slice none 0 0, .int .i64 0]) ?_ 3 _ rfl; (with_reducible repeat (first | refine blk_drewN ?_ _ | refine blk_drew ?_ | refine blk_alloc ?_ _)); refine blk_put (cs := #[.int .i64 t104, .int .i64 t105, .bool false, .slice none 0 0, .int .i64 0]) ?_ 2 _ rfl; (with_reducible repeat (first | refine blk_drewN ?_ _ | refine blk_drew ?_ | refine blk_alloc ?_ _)); refine blk_put (cs := #[.int .i64 t104, .int .i64 0, .bool false, .slice none 0 0, .int .i64 0]) ?_ 1 _ rfl; (with_reducible repeat (first | refine blk_drewN ?_ _ | refine blk_drew ?_ | refine blk_alloc ?_ _)); refine blk_put (cs := #[.int .i64 0, .int .i64 0, .bool false, .slice none 0 0, .int .i64 0]) ?_ 0 _ rfl; (with_reducible repeat (first | refine blk_drewN ?_ _ | refine blk_drew ?_ | refine blk_alloc ?_ _)); exact BK112.out) hb); have n2_ := Aside0.mk (below_step (zb HB.out) hb); clear HO109; clear BK112; clear HB; have HO109 := n0_; have BK112 := n1_; have HB := n2_; clear n0_ n1_ n2_; (try clear hb); (try clear hb2); (try clear hk); (try clear hi)) | ((with_reducible refine gate_dst (N := 15) rfl ?_); refine box_event ?hg (N := 15) ?hd (cs := #[.int .i64 0, .int .i64 0, .int .i64 0, .int .i64 0, .int .i64 0]) (t := 57) ?hr ?_; (case hd => rfl); (case hg => rfl); (case hr => first | (go_simp; done) | (go_simp; rfl)); intro gb119 hg w23 hbox hb; have n0_ := Aside0.mk (Kd.R_below (zr HO109.out) hb); have n1_ := Aside0.mk (blk_below (g := gb112) (o := .cells #[.int .i64 t104, .int .i64 t105, .bool t106, .slice Ao21 t107.length co21, .int .i64 t110] 25 (0, 0)) (zk BK112.out) hb); have n2_ := Aside0.mk (below_step (zb HB.out) hb); have n3_ := Aside0.mk (hbox); have n4_ := Aside0.mk ((by rw [hg]; exact (below_size (zb HB.out)) : w.heap.size ≤ gb119)); have n5_ := Aside0.mk ((by rw [hg]; exact (below_size (zb HB.out)) : w.heap.size ≤ gb119)); have n6_ := Aside0.mk ((by rw [hg]; exact Nat.ne_of_lt (blk_lt (g := gb112) (o := .cells #[.int .i64 t104, .int .i64 t105, .bool t106, .slice Ao21 t107.length co21, .int .i64 t110] 25 (0, 0)) (zk BK112.out)) : gb112 ≠ gb119)); have n7_ := Aside0.mk ((by rw [hg]; exact Nat.ne_of_gt (blk_lt (g := gb112) (o := .cells #[.int .i64 t104, .int .i64 t105, .bool t106, .slice Ao21 t107.length co21, .int .i64 t110] 25 (0, 0)) (zk BK112.out)) : gb119 ≠ gb112)); clear HO109; clear BK112; clear HB; have HO109 := n0_; have BK112 := n1_; have HB := n2_; have BK119 := n3_; have GW119 := n4_; have GE119 := n5_; have NB112_119 := n6_; have NB119_112 := n7_; clear n0_ n1_ n2_ n3_ n4_ n5_ n6_ n7_; clear hb hbox hg; have hnb24 := NB119_112.out; have hnc24 := NB112_119.out; have hcz25_0 : w23.cell? ⟨gb119, 0, none⟩ = some (.int .i64 0) := (blk_cell BK119.out 0).trans rfl; have hcz25_1 : w23.cell? ⟨gb119, 1, none⟩ = some (.int .i64 0) := (blk_cell BK119.out 1).trans rfl; have hcz25_2 : w23.cell? ⟨gb119, 2, none⟩ = some (.int .i64 0) := (blk_cell BK119.out 2).trans rfl; have hcz25_3 : w23.cell? ⟨gb119, 3, none⟩ = some (.int .i64 0) := (blk_cell BK119.out 3).trans rfl; have hcz25_4 : w23.cell? ⟨gb119, 4, none⟩ = some (.int .i64 0) := (blk_cell BK119.out 4).trans rfl; have hfz25_0 := blk_frozen BK119.out 0; have hfz25_1 := blk_frozen BK119.out 1; have hfz25_2 := blk_frozen BK119.out 2; have hfz25_3 := blk_frozen BK119.out 3; have hfz25_4 := blk_frozen BK119.out 4) | ((with_reducible refine gate_callee (f := 29) rfl ?_); refine goesL_ (some 49) rfl rfl Tryd.func29 (by kernel_rfl) rfl #[.slice A3 l3.length c3] rfl zm ?_; (with_reducible refine (nat_Bits.calls _ _ l3 t120 t121 _ ?side1 ?side2 A15.out).mono ?_); (case side1 => exact Kd.C_below HR3.out (zb HB.out)); (case side2 => exact HC3.out); rintro e w26 ⟨rfl, hb⟩; refine ⟨_, rfl, ?_⟩; have n0_ := Aside0.mk (Kd.R_below (by (with_reducible repeat (first | apply Kd.R_alloc | apply Kd.R_drewN | apply Kd.R_drew)); exact (Kd.R_mono (Kd.R_far (p := ⟨gb119, 4, none⟩) (Kd.R_far (p := ⟨gb119, 3, none⟩) (Kd.R_far (p := ⟨gb119, 2, none⟩) (Kd.R_far (p := ⟨gb119, 1, none⟩) (Kd.R_far (p := ⟨gb119, 0, none⟩) (Kd.R_types HO109.out BK119.out (by decide)) (fun _ hk => hk.2) (.int .i64 t113)) (fun _ hk => hk.2) (.int .i64 t114)) (fun _ hk => hk.2) (.int .i64 t115)) (fun _ hk => hk.2) (.int .i64 t116)) (fun _ hk => hk.2) (.int .i64 t117)) (fun _ h_ => h_.1))) hb); have n1_ := Aside0.mk (blk_below (g := gb112) (o := .cells #[.int .i64 t104, .int .i64 t105, .bool t106, .slice Ao21 t107.length co21, .int .i64 t110] 25 (0, 0)) (by (with_reducible repeat (first | refine blk_drewN ?_ _ | refine blk_drew ?_ | refine blk_alloc ?_ _)); refine blk_far ?_ NB112_119.out _; (with_reducible repeat (first | refine blk_drewN ?_ _ | refine blk_drew ?_ | refine blk_alloc ?_ _)); refine blk_far ?_ NB112_119.out _; (with_reducible repeat (first | refine blk_drewN ?_ _ | refine blk_drew ?_ | refine blk_alloc ?_ _)); refine blk_far ?_ NB112_119.out _; (with_reducible repeat (first | refine blk_drewN ?_ _ | refine blk_drew ?_ | refine blk_alloc ?_ _)); refine blk_far ?_ NB112_119.out _; (with_reducible repeat (first | refine blk_drewN ?_ _ | refine blk_drew ?_ | refine blk_alloc ?_ _)); refine blk_far ?_ NB112_119.out _; (with_reducible repeat (first | refine blk_drewN ?_ _ | refine blk_drew ?_ | refine blk_alloc ?_ _)); exact BK112.out) hb); have n2_ := Aside0.mk (blk_below (g := gb119) (o := .cells #[.int .i64 t113, .int .i64 t114, .int .i64 t115, .int .i64 t116, .int .i64 t117] 57 (0, 0)) (by (with_reducible repeat (first | refine blk_drewN ?_ _ | refine blk_drew ?_ | refine blk_alloc ?_ _)); refine blk_put (cs := #[.int .i64 t113, .int .i64 t114, .int .i64 t115, .int .i64 t116, .int .i64 0]) ?_ 4 _ rfl; (with_reducible repeat (first | refine blk_drewN ?_ _ | refine blk_drew ?_ | refine blk_alloc ?_ _)); refine blk_put (cs := #[.int .i64 t113, .int .i64 t114, .int .i64 t115, .int .i64 0, .int .i64 0]) ?_ 3 _ rfl; (with_reducible repeat (first | refine blk_drewN ?_ _ | refine blk_drew ?_ | refine blk_alloc ?_ _)); refine blk_put (cs := #[.int .i64 t113, .int .i64 t114, .int .i64 0, .int .i64 0, .int .i64 0]) ?_ 2 _ rfl; (with_reducible repeat (first | refine blk_drewN ?_ _ | refine blk_drew ?_ | refine blk_alloc ?_ _)); refine blk_put (cs := #[.int .i64 t113, .int .i64 0, .int .i64 0, .int .i64 0, .int .i64 0]) ?_ 1 _ rfl; (with_reducible repeat (first | refine blk_drewN ?_ _ | refine blk_drew ?_ | refine blk_alloc ?_ _)); refine blk_put (cs := #[.int .i64 0, .int .i64 0, .int .i64 0, .int .i64 0, .int .i64 0]) ?_ 0 _ rfl; (with_reducible repeat (first | refine blk_drewN ?_ _ | refine blk_drew ?_ | refine blk_alloc ?_ _)); exact BK119.out) hb); have n3_ := Aside0.mk (below_step (zb HB.out) hb); clear HO109; clear BK112; clear BK119; clear HB; have HO109 := n0_; have BK112 := n1_; have BK119 := n2_; have HB := n3_; clear n0_ n1_ n2_ n3_; (try clear hb); (try clear hb2); (try clear hk); (try clear hi)))
          (try simp only [Act.put, List.setIfInBounds_toArray, List.set_cons_zero, List.set_cons_succ])
          go_cut [19] (fun v19 wc => ∃ (kq : Nat) (x19_16 : Bool), v19 = .bool x19_16 ∧ Aside0 (sorobanlaw05_BinarySpecials.j1 kq a2 l3 l4 t101 x12_8 t111 x19_16 t104 t105 t106 t107 t110 = some r) ∧ Aside0 (kq ≤ kj8) ∧ Aside0 (Kd.R (Kd.int .u32) 77 wc w.heap.size (fun _ => True) (.slice Ao21 t107.length co21) t107) ∧ Aside0 (wc.heap[gb112]? = some (.cells #[.int .i64 t104, .int .i64 t105, .bool t106, (.slice Ao21 t107.length co21), .int .i64 t110] 25 (0, 0))) ∧ Aside0 (wc.heap[gb119]? = some (.cells #[.int .i64 t113, .int .i64 t114, .int .i64 t115, .int .i64 t116, .int .i64 t117] 57 (0, 0))) ∧ Aside0 (Below w.heap.size w wc))
          case first =>
            have H := HC17.out
            clear HC17
            by_cases c27 : t121 = 0
            · rw [if_pos c27] at H
              have c27b0 : (t121 == 0) = true := beq_iff_eq.mpr c27
              have c27b1 : (t121 != 0) = false := bne_eq_false_iff_eq.mpr c27
              clear c27
              (first | rw [c27b0] | (simp only [i64_w, i32_w]; rw [c27b0]) | skip)
              by_cases c28 : t120 ≤ (wrap64 (t113 - 2))
              · rw [if_pos c28] at H
                have c28b0 : decide (t120 ≤ (wrap64 (t113 - 2))) = true := decide_eq_true c28
                clear c28
                by_cases c29 : t120 > 0
                · rw [if_pos c29] at H
                  have c29b0 : decide (0 < t120) = true := decide_eq_true c29
                  clear c29
                  have H' := Aside0.mk H
                  clear H
                  have hnb30 := NB119_112.out
                  have hnc30 := NB112_119.out
                  have hcz31_0 : w26.cell? ⟨gb119, 0, none⟩ = some (.int .i64 t113) := (blk_cell BK119.out 0).trans rfl
                  have hcz31_1 : w26.cell? ⟨gb119, 1, none⟩ = some (.int .i64 t114) := (blk_cell BK119.out 1).trans rfl
                  have hcz31_2 : w26.cell? ⟨gb119, 2, none⟩ = some (.int .i64 t115) := (blk_cell BK119.out 2).trans rfl
                  have hcz31_3 : w26.cell? ⟨gb119, 3, none⟩ = some (.int .i64 t116) := (blk_cell BK119.out 3).trans rfl
                  have hcz31_4 : w26.cell? ⟨gb119, 4, none⟩ = some (.int .i64 t117) := (blk_cell BK119.out 4).trans rfl
                  have hfz31_0 := blk_frozen BK119.out 0
                  have hfz31_1 := blk_frozen BK119.out 1
                  have hfz31_2 := blk_frozen BK119.out 2
                  have hfz31_3 := blk_frozen BK119.out 3
                  have hfz31_4 := blk_frozen BK119.out 4
                  go_wp2
                  go_meet
                  case rel => exact ⟨_, (true), (by first | rfl | (simp; done) | (simp [*]; done) | (simp; omega)), H', ⟨by have := HJ8.out; first | omega | exact Nat.le_refl _⟩, ⟨by (with_reducible repeat (first | apply Kd.R_alloc | apply Kd.R_drewN | apply Kd.R_drew)); exact HO109.out⟩, ⟨by (with_reducible repeat (first | refine blk_drewN ?_ _ | refine blk_drew ?_ | refine blk_alloc ?_ _)); exact BK112.out⟩, ⟨by (with_reducible repeat (first | refine blk_drewN ?_ _ | refine blk_drew ?_ | refine blk_alloc ?_ _)); exact BK119.out⟩, ⟨zb HB.out⟩⟩
                · rw [if_neg c29] at H
                  have c29b0 : decide (0 < t120) = false := decide_eq_false c29
                  clear c29
                  have H' := Aside0.mk H
                  clear H
                  have hnb32 := NB119_112.out
                  have hnc32 := NB112_119.out
                  have hcz33_0 : w26.cell? ⟨gb119, 0, none⟩ = some (.int .i64 t113) := (blk_cell BK119.out 0).trans rfl
                  have hcz33_1 : w26.cell? ⟨gb119, 1, none⟩ = some (.int .i64 t114) := (blk_cell BK119.out 1).trans rfl
                  have hcz33_2 : w26.cell? ⟨gb119, 2, none⟩ = some (.int .i64 t115) := (blk_cell BK119.out 2).trans rfl
                  have hcz33_3 : w26.cell? ⟨gb119, 3, none⟩ = some (.int .i64 t116) := (blk_cell BK119.out 3).trans rfl
                  have hcz33_4 : w26.cell? ⟨gb119, 4, none⟩ = some (.int .i64 t117) := (blk_cell BK119.out 4).trans rfl
                  have hfz33_0 := blk_frozen BK119.out 0
                  have hfz33_1 := blk_frozen BK119.out 1
                  have hfz33_2 := blk_frozen BK119.out 2
                  have hfz33_3 := blk_frozen BK119.out 3
                  have hfz33_4 := blk_frozen BK119.out 4
                  go_wp2
                  go_meet
                  case rel => exact ⟨_, (!a1), (by first | rfl | (simp; done) | (simp [*]; done) | (simp; omega)), H', ⟨by have := HJ8.out; first | omega | exact Nat.le_refl _⟩, ⟨by (with_reducible repeat (first | apply Kd.R_alloc | apply Kd.R_drewN | apply Kd.R_drew)); exact HO109.out⟩, ⟨by (with_reducible repeat (first | refine blk_drewN ?_ _ | refine blk_drew ?_ | refine blk_alloc ?_ _)); exact BK112.out⟩, ⟨by (with_reducible repeat (first | refine blk_drewN ?_ _ | refine blk_drew ?_ | refine blk_alloc ?_ _)); exact BK119.out⟩, ⟨zb HB.out⟩⟩
              · rw [if_neg c28] at H
                have c28b0 : decide (t120 ≤ (wrap64 (t113 - 2))) = false := decide_eq_false c28
                clear c28
                have H' := Aside0.mk H
                clear H
                have hnb34 := NB119_112.out
                have hnc34 := NB112_119.out
                have hcz35_0 : w26.cell? ⟨gb119, 0, none⟩ = some (.int .i64 t113) := (blk_cell BK119.out 0).trans rfl
                have hcz35_1 : w26.cell? ⟨gb119, 1, none⟩ = some (.int .i64 t114) := (blk_cell BK119.out 1).trans rfl
                have hcz35_2 : w26.cell? ⟨gb119, 2, none⟩ = some (.int .i64 t115) := (blk_cell BK119.out 2).trans rfl
                have hcz35_3 : w26.cell? ⟨gb119, 3, none⟩ = some (.int .i64 t116) := (blk_cell BK119.out 3).trans rfl
                have hcz35_4 : w26.cell? ⟨gb119, 4, none⟩ = some (.int .i64 t117) := (blk_cell BK119.out 4).trans rfl
                have hfz35_0 := blk_frozen BK119.out 0
                have hfz35_1 := blk_frozen BK119.out 1
                have hfz35_2 := blk_frozen BK119.out 2
                have hfz35_3 := blk_frozen BK119.out 3
                have hfz35_4 := blk_frozen BK119.out 4
                go_wp2
                go_meet
                case rel => exact ⟨_, (false), (by first | rfl | (simp; done) | (simp [*]; done) | (simp; omega)), H', ⟨by have := HJ8.out; first | omega | exact Nat.le_refl _⟩, ⟨by (with_reducible repeat (first | apply Kd.R_alloc | apply Kd.R_drewN | apply Kd.R_drew)); exact HO109.out⟩, ⟨by (with_reducible repeat (first | refine blk_drewN ?_ _ | refine blk_drew ?_ | refine blk_alloc ?_ _)); exact BK112.out⟩, ⟨by (with_reducible repeat (first | refine blk_drewN ?_ _ | refine blk_drew ?_ | refine blk_alloc ?_ _)); exact BK119.out⟩, ⟨zb HB.out⟩⟩
            · rw [if_neg c27] at H
              have c27b0 : (t121 == 0) = false := beq_eq_false_iff_ne.mpr c27
              have c27b1 : (t121 != 0) = true := bne_iff_ne.mpr c27
              (first | rw [c27b0] | (simp only [i64_w, i32_w]; rw [c27b0]) | skip)
              have H' := Aside0.mk H
              clear H
              go_wp2
              go_meet
              case rel => exact ⟨_, (false), (by first | rfl | (simp; done) | (simp [*]; done) | (simp; omega)), H', ⟨by have := HJ8.out; first | omega | exact Nat.le_refl _⟩, ⟨by (with_reducible repeat (first | apply Kd.R_alloc | apply Kd.R_drewN | apply Kd.R_drew)); exact HO109.out⟩, ⟨by (with_reducible repeat (first | refine blk_drewN ?_ _ | refine blk_drew ?_ | refine blk_alloc ?_ _)); exact BK112.out⟩, ⟨by (with_reducible repeat (first | refine blk_drewN ?_ _ | refine blk_drew ?_ | refine blk_alloc ?_ _)); exact BK119.out⟩, ⟨zb HB.out⟩⟩
          case rest =>
            clear HC17
            try clear c1
            try clear c2
            try clear p2
            try clear c3
            try clear c4
            try clear c6
            try clear p6
            try clear c8
            try clear c10
            try clear c12
            try clear c16
            try clear c16b0
            try clear c16b1
            try clear c21
            try clear c24
            try clear c27
            try clear c27b0
            try clear c27b1
            try clear c28
            try clear c28b0
            try clear c29
            try clear c29b0
            try clear c30
            try clear c32
            try clear c34
            try clear hcz20_0
            try clear hcz20_1
            try clear hcz20_2
            try clear hcz20_3
            try clear hcz20_4
            try clear hcz25_0
            try clear hcz25_1
            try clear hcz25_2
            try clear hcz25_3
            try clear hcz25_4
            try clear hcz31_0
            try clear hcz31_1
            try clear hcz31_2
            try clear hcz31_3
            try clear hcz31_4
            try clear hcz33_0
            try clear hcz33_1
            try clear hcz33_2
            try clear hcz33_3
            try clear hcz33_4
            try clear hcz35_0
            try clear hcz35_1
            try clear hcz35_2
            try clear hcz35_3
            try clear hcz35_4
            try clear hfz20_0
            try clear hfz20_1
            try clear hfz20_2
            try clear hfz20_3
            try clear hfz20_4
            try clear hfz25_0
            try clear hfz25_1
            try clear hfz25_2
            try clear hfz25_3
            try clear hfz25_4
            try clear hfz31_0
            try clear hfz31_1
            try clear hfz31_2
            try clear hfz31_3
            try clear hfz31_4
            try clear hfz33_0
            try clear hfz33_1
            try clear hfz33_2
            try clear hfz33_3
            try clear hfz33_4
            try clear hfz35_0
            try clear hfz35_1
            try clear hfz35_2
            try clear hfz35_3
            try clear hfz35_4
            try clear p2
            obtain ⟨kq, x19_16, rfl, HA, HJ16, HO_113003, BK112, BK119, HB⟩ := hcut
            cases kq with
            | zero => exact absurd HA.out (by simp [sorobanlaw05_BinarySpecials.j1])
            | succ kj16 =>
              have H := HA.out
              clear HA
              simp only [sorobanlaw05_BinarySpecials.j1] at H
              by_cases c36 : x19_16 = true
              · subst c36
                have H1 : ((binary_Encode.f t104 t105 t106 t107 t110).bind fun bt123 => ((binary_Decode.f t101 bt123.1 bt123.2.1).bind fun bt127 => (if t111 = 0 then (if bt123.2.2 = 0 then (if bt127.2.2.2.2.2 = 0 then ((sorobanref05_Same.f bt127.1 bt127.2.1 bt127.2.2.1 bt127.2.2.2.1 bt127.2.2.2.2.1 t104 t105 t106 t107 t110).bind fun t136 => (sorobanlaw05_BinarySpecials.j2 kj16 a2 l3 l4 t101 x12_8 (!t136) bt123.1 bt123.2.1)) else (sorobanlaw05_BinarySpecials.j2 kj16 a2 l3 l4 t101 x12_8 true bt123.1 bt123.2.1)) else (sorobanlaw05_BinarySpecials.j2 kj16 a2 l3 l4 t101 x12_8 true bt123.1 bt123.2.1)) else (sorobanlaw05_BinarySpecials.j2 kj16 a2 l3 l4 t101 x12_8 true bt123.1 bt123.2.1)))) = some r := by rw [if_pos rfl] at H; exact H
                clear H
                have H := H1
                clear H1
                replace H := Option.bind_eq_some_iff.mp H
                obtain ⟨⟨t123, t124, t125⟩, A370, H⟩ := H
                replace H : ((binary_Decode.f t101 t123 t124).bind fun bt127 => (if t111 = 0 then (if t125 = 0 then (if bt127.2.2.2.2.2 = 0 then ((sorobanref05_Same.f bt127.1 bt127.2.1 bt127.2.2.1 bt127.2.2.2.1 bt127.2.2.2.2.1 t104 t105 t106 t107 t110).bind fun t136 => (sorobanlaw05_BinarySpecials.j2 kj16 a2 l3 l4 t101 x12_8 (!t136) t123 t124)) else (sorobanlaw05_BinarySpecials.j2 kj16 a2 l3 l4 t101 x12_8 true t123 t124)) else (sorobanlaw05_BinarySpecials.j2 kj16 a2 l3 l4 t101 x12_8 true t123 t124)) else (sorobanlaw05_BinarySpecials.j2 kj16 a2 l3 l4 t101 x12_8 true t123 t124))) = some r := H
                have A37 := Aside0.mk A370
                clear A370
                replace H := Option.bind_eq_some_iff.mp H
                obtain ⟨⟨t127, t128, t129, t130, t133, t134⟩, A380, H⟩ := H
                replace H : (if t111 = 0 then (if t125 = 0 then (if t134 = 0 then ((sorobanref05_Same.f t127 t128 t129 t130 t133 t104 t105 t106 t107 t110).bind fun t136 => (sorobanlaw05_BinarySpecials.j2 kj16 a2 l3 l4 t101 x12_8 (!t136) t123 t124)) else (sorobanlaw05_BinarySpecials.j2 kj16 a2 l3 l4 t101 x12_8 true t123 t124)) else (sorobanlaw05_BinarySpecials.j2 kj16 a2 l3 l4 t101 x12_8 true t123 t124)) else (sorobanlaw05_BinarySpecials.j2 kj16 a2 l3 l4 t101 x12_8 true t123 t124)) = some r := H
                have A38 := Aside0.mk A380
                clear A380
                have HC39 := Aside0.mk H
                clear H
                have hnb40 := NB112_119.out
                have hnc40 := NB119_112.out
                have hcz41_0 : wc.cell? ⟨gb112, 0, none⟩ = some (.int .i64 t104) := (blk_cell BK112.out 0).trans rfl
                have hcz41_1 : wc.cell? ⟨gb112, 1, none⟩ = some (.int .i64 t105) := (blk_cell BK112.out 1).trans rfl
                have hcz41_2 : wc.cell? ⟨gb112, 2, none⟩ = some (.bool t106) := (blk_cell BK112.out 2).trans rfl
                have hcz41_3 : wc.cell? ⟨gb112, 3, none⟩ = some (.slice Ao21 t107.length co21) := (blk_cell BK112.out 3).trans rfl
                have hcz41_4 : wc.cell? ⟨gb112, 4, none⟩ = some (.int .i64 t110) := (blk_cell BK112.out 4).trans rfl
                have hfz41_0 := blk_frozen BK112.out 0
                have hfz41_1 := blk_frozen BK112.out 1
                have hfz41_2 := blk_frozen BK112.out 2
                have hfz41_3 := blk_frozen BK112.out 3
                have hfz41_4 := blk_frozen BK112.out 4
                go_upto_region 17 with (first | ((with_reducible refine gate_callee (f := 12) rfl ?_); refine goesL_ (some 80) rfl rfl Tryd.func12 (by kernel_rfl) rfl #[.agg #[.int .i64 t104, .int .i64 t105, .bool t106, .slice Ao21 t107.length co21, .int .i64 t110]] rfl zm ?_; (with_reducible refine (binary_Encode.calls t104 t105 t106 _ _ t107 t110 t123 t124 t125 _ ?side1 ?side2 A37.out).mono ?_); (case side1 => repeat (first | exact (Kd.R_reads' HO_113003.out).2.2 | (with_reducible refine Kd.C_alloc ?_ _) | (with_reducible refine Kd.C_drewN ?_ _) | (with_reducible refine Kd.C_drew ?_))); (case side2 => exact (Kd.R_reads' HO_113003.out).2.1); rintro e w42 ⟨rfl, hb⟩; refine ⟨_, rfl, ?_⟩; have n0_ := Aside0.mk (Kd.R_below (zr HO_113003.out) hb); have n1_ := Aside0.mk (blk_below (g := gb112) (o := .cells #[.int .i64 t104, .int .i64 t105, .bool t106, .slice Ao21 t107.length co21, .int .i64 t110] 25 (0, 0)) (zk BK112.out) hb); have n2_ := Aside0.mk (blk_below (g := gb119) (o := .cells #[.int .i64 t113, .int .i64 t114, .int .i64 t115, .int .i64 t116, .int .i64 t117] 57 (0, 0)) (zk BK119.out) hb); have n3_ := Aside0.mk (below_step (zb HB.out) hb); clear HO_113003; clear BK112; clear BK119; clear HB; have HO_113003 := n0_; have BK112 := n1_; have BK119 := n2_; have HB := n3_; clear n0_ n1_ n2_ n3_; (try clear hb); (try clear hb2); (try clear hk); (try clear hi)) | ((with_reducible refine gate_dst (N := 20) rfl ?_); refine box_event ?hg (N := 20) ?hd (cs := #[.int .u64 0, .int .u64 0]) (t := 28) ?hr ?_; (case hd => rfl); (case hg => rfl); (case hr => first | (go_simp; done) | (go_simp; rfl)); intro gb126 hg w43 hbox hb; have n0_ := Aside0.mk (Kd.R_below (zr HO_113003.out) hb); have n1_ := Aside0.mk (blk_below (g := gb112) (o := .cells #[.int .i64 t104, .int .i64 t105, .bool t106, .slice Ao21 t107.length co21, .int .i64 t110] 25 (0, 0)) (zk BK112.out) hb); have n2_ := Aside0.mk (blk_below (g := gb119) (o := .cells #[.int .i64 t113, .int .i64 t114, .int .i64 t115, .int .i64 t116, .int .i64 t117] 57 (0, 0)) (zk BK119.out) hb); have n3_ := Aside0.mk (below_step (zb HB.out) hb); have n4_ := Aside0.mk (hbox); have n5_ := Aside0.mk ((by rw [hg]; exact (below_size (zb HB.out)) : w.heap.size ≤ gb126)); have n6_ := Aside0.mk ((by rw [hg]; exact (below_size (zb HB.out)) : w.heap.size ≤ gb126)); have n7_ := Aside0.mk ((by rw [hg]; exact Nat.ne_of_lt (blk_lt (g := gb112) (o := .cells #[.int .i64 t104, .int .i64 t105, .bool t106, .slice Ao21 t107.length co21, .int .i64 t110] 25 (0, 0)) (zk BK112.out)) : gb112 ≠ gb126)); have n8_ := Aside0.mk ((by rw [hg]; exact Nat.ne_of_gt (blk_lt (g := gb112) (o := .cells #[.int .i64 t104, .int .i64 t105, .bool t106, .slice Ao21 t107.length co21, .int .i64 t110] 25 (0, 0)) (zk BK112.out)) : gb126 ≠ gb112)); have n9_ := Aside0.mk ((by rw [hg]; exact Nat.ne_of_lt (blk_lt (g := gb119) (o := .cells #[.int .i64 t113, .int .i64 t114, .int .i64 t115, .int .i64 t116, .int .i64 t117] 57 (0, 0)) (zk BK119.out)) : gb119 ≠ gb126)); have n10_ := Aside0.mk ((by rw [hg]; exact Nat.ne_of_gt (blk_lt (g := gb119) (o := .cells #[.int .i64 t113, .int .i64 t114, .int .i64 t115, .int .i64 t116, .int .i64 t117] 57 (0, 0)) (zk BK119.out)) : gb126 ≠ gb119)); clear HO_113003; clear BK112; clear BK119; clear HB; have HO_113003 := n0_; have BK112 := n1_; have BK119 := n2_; have HB := n3_; have BK126 := n4_; have GW126 := n5_; have GE126 := n6_; have NB112_126 := n7_; have NB126_112 := n8_; have NB119_126 := n9_; have NB126_119 := n10_; clear n0_ n1_ n2_ n3_ n4_ n5_ n6_ n7_ n8_ n9_ n10_; clear hb hbox hg; have hnb44 := NB126_112.out; have hnc44 := NB112_126.out; have hnb45 := NB126_119.out; have hnc45 := NB119_126.out; have hcz46_0 : w43.cell? ⟨gb126, 0, none⟩ = some (.int .u64 0) := (blk_cell BK126.out 0).trans rfl; have hcz46_1 : w43.cell? ⟨gb126, 1, none⟩ = some (.int .u64 0) := (blk_cell BK126.out 1).trans rfl; have hfz46_0 := blk_frozen BK126.out 0; have hfz46_1 := blk_frozen BK126.out 1) | ((with_reducible refine gate_callee (f := 15) rfl ?_); refine goesL_ (some 86) rfl rfl Tryd.func15 (by kernel_rfl) rfl #[.int .i64 t101, .agg #[.int .u64 t123, .int .u64 t124]] rfl zm ?_; (with_reducible refine (binary_Decode.calls t101 t123 t124 t127 t128 t129 t130 t133 t134 _ A38.out).mono ?_); rintro e w47 ⟨v131, rfl, ho0, hb⟩; refine ⟨_, rfl, ?_⟩; have n0_ := Aside0.mk (Kd.R_elder' (by (with_reducible repeat (first | apply Kd.R_alloc | apply Kd.R_drewN | apply Kd.R_drew)); exact (Kd.R_mono (Kd.R_far (p := ⟨gb126, 1, none⟩) (Kd.R_far (p := ⟨gb126, 0, none⟩) (Kd.R_types HO_113003.out BK126.out (by decide)) (fun _ hk => hk.2) (.int .u64 t123)) (fun _ hk => hk.2) (.int .u64 t124)) (fun _ h_ => h_.1))) (Kd.R_base ho0) hb); have n1_ := Aside0.mk (Kd.R_lower (Kd.R_new' ho0 (Kd.R_lt (by (with_reducible repeat (first | apply Kd.R_alloc | apply Kd.R_drewN | apply Kd.R_drew)); exact (Kd.R_mono (Kd.R_far (p := ⟨gb126, 1, none⟩) (Kd.R_far (p := ⟨gb126, 0, none⟩) (Kd.R_types HO_113003.out BK126.out (by decide)) (fun _ hk => hk.2) (.int .u64 t123)) (fun _ hk => hk.2) (.int .u64 t124)) (fun _ h_ => h_.1))))) (below_size (zb HB.out))); have n2_ := Aside0.mk (blk_below (g := gb112) (o := .cells #[.int .i64 t104, .int .i64 t105, .bool t106, .slice Ao21 t107.length co21, .int .i64 t110] 25 (0, 0)) (by (with_reducible repeat (first | refine blk_drewN ?_ _ | refine blk_drew ?_ | refine blk_alloc ?_ _)); refine blk_far ?_ NB112_126.out _; (with_reducible repeat (first | refine blk_drewN ?_ _ | refine blk_drew ?_ | refine blk_alloc ?_ _)); refine blk_far ?_ NB112_126.out _; (with_reducible repeat (first | refine blk_drewN ?_ _ | refine blk_drew ?_ | refine blk_alloc ?_ _)); exact BK112.out) hb); have n3_ := Aside0.mk (blk_below (g := gb119) (o := .cells #[.int .i64 t113, .int .i64 t114, .int .i64 t115, .int .i64 t116, .int .i64 t117] 57 (0, 0)) (by (with_reducible repeat (first | refine blk_drewN ?_ _ | refine blk_drew ?_ | refine blk_alloc ?_ _)); refine blk_far ?_ NB119_126.out _; (with_reducible repeat (first | refine blk_drewN ?_ _ | refine blk_drew ?_ | refine blk_alloc ?_ _)); refine blk_far ?_ NB119_126.out _; (with_reducible repeat (first | refine blk_drewN ?_ _ | refine blk_drew ?_ | refine blk_alloc ?_ _)); exact BK119.out) hb); have n4_ := Aside0.mk (blk_below (g := gb126) (o := .cells #[.int .u64 t123, .int .u64 t124] 28 (0, 0)) (by (with_reducible repeat (first | refine blk_drewN ?_ _ | refine blk_drew ?_ | refine blk_alloc ?_ _)); refine blk_put (cs := #[.int .u64 t123, .int .u64 0]) ?_ 1 _ rfl; (with_reducible repeat (first | refine blk_drewN ?_ _ | refine blk_drew ?_ | refine blk_alloc ?_ _)); refine blk_put (cs := #[.int .u64 0, .int .u64 0]) ?_ 0 _ rfl; (with_reducible repeat (first | refine blk_drewN ?_ _ | refine blk_drew ?_ | refine blk_alloc ?_ _)); exact BK126.out) hb); have n5_ := Aside0.mk (below_step (zb HB.out) hb); clear HO_113003; clear BK112; clear BK119; clear BK126; clear HB; have HO_113003 := n0_; have HO132 := n1_; have BK112 := n2_; have BK119 := n3_; have BK126 := n4_; have HB := n5_; clear n0_ n1_ n2_ n3_ n4_ n5_; (try clear hb); (try clear hb2); (try clear hk); (try clear hi); (try clear ho0)) | ((with_reducible refine gate_dst (N := 21) rfl ?_); refine box_event ?hg (N := 21) ?hd (cs := #[.int .i64 0, .int .i64 0, .bool false, .slice none 0 0, .int .i64 0]) (t := 25) ?hr ?_; (case hd => rfl); (case hg => rfl); (case hr => first | (go_simp; done) | (go_simp; rfl)); intro gb135 hg w48 hbox hb; have n0_ := Aside0.mk (Kd.R_below (zr HO_113003.out) hb); have n1_ := Aside0.mk (Kd.R_below (zr HO132.out) hb); have n2_ := Aside0.mk (blk_below (g := gb112) (o := .cells #[.int .i64 t104, .int .i64 t105, .bool t106, .slice Ao21 t107.length co21, .int .i64 t110] 25 (0, 0)) (zk BK112.out) hb); have n3_ := Aside0.mk (blk_below (g := gb119) (o := .cells #[.int .i64 t113, .int .i64 t114, .int .i64 t115, .int .i64 t116, .int .i64 t117] 57 (0, 0)) (zk BK119.out) hb); have n4_ := Aside0.mk (blk_below (g := gb126) (o := .cells #[.int .u64 t123, .int .u64 t124] 28 (0, 0)) (zk BK126.out) hb); have n5_ := Aside0.mk (below_step (zb HB.out) hb); have n6_ := Aside0.mk (hbox); have n7_ := Aside0.mk ((by rw [hg]; exact (below_size (zb HB.out)) : w.heap.size ≤ gb135)); have n8_ := Aside0.mk ((by rw [hg]; exact (below_size (zb HB.out)) : w.heap.size ≤ gb135)); have n9_ := Aside0.mk ((by rw [hg]; exact Nat.ne_of_lt (blk_lt (g := gb112) (o := .cells #[.int .i64 t104, .int .i64 t105, .bool t106, .slice Ao21 t107.length co21, .int .i64 t110] 25 (0, 0)) (zk BK112.out)) : gb112 ≠ gb135)); have n10_ := Aside0.mk ((by rw [hg]; exact Nat.ne_of_gt (blk_lt (g := gb112) (o := .cells #[.int .i64 t104, .int .i64 t105, .bool t106, .slice Ao21 t107.length co21, .int .i64 t110] 25 (0, 0)) (zk BK112.out)) : gb135 ≠ gb112)); have n11_ := Aside0.mk ((by rw [hg]; exact Nat.ne_of_lt (blk_lt (g := gb119) (o := .cells #[.int .i64 t113, .int .i64 t114, .int .i64 t115, .int .i64 t116, .int .i64 t117] 57 (0, 0)) (zk BK119.out)) : gb119 ≠ gb135)); have n12_ := Aside0.mk ((by rw [hg]; exact Nat.ne_of_gt (blk_lt (g := gb119) (o := .cells #[.int .i64 t113, .int .i64 t114, .int .i64 t115, .int .i64 t116, .int .i64 t117] 57 (0, 0)) (zk BK119.out)) : gb135 ≠ gb119)); have n13_ := Aside0.mk ((by rw [hg]; exact Nat.ne_of_lt (blk_lt (g := gb126) (o := .cells #[.int .u64 t123, .int .u64 t124] 28 (0, 0)) (zk BK126.out)) : gb126 ≠ gb135)); have n14_ := Aside0.mk ((by rw [hg]; exact Nat.ne_of_gt (blk_lt (g := gb126) (o := .cells #[.int .u64 t123, .int .u64 t124] 28 (0, 0)) (zk BK126.out)) : gb135 ≠ gb126)); clear HO_113003; clear HO132; clear BK112; clear BK119; clear BK126; clear HB; have HO_113003 := n0_; have HO132 := n1_; have BK112 := n2_; have BK119 := n3_; have BK126 := n4_; have HB := n5_; have BK135 := n6_; have GW135 := n7_; have GE135 := n8_; have NB112_135 := n9_; have NB135_112 := n10_; have NB119_135 := n11_; have NB135_119 := n12_; have NB126_135 := n13_; have NB135_126 := n14_; clear n0_ n1_ n2_ n3_ n4_ n5_ n6_ n7_ n8_ n9_ n10_ n11_ n12_ n13_ n14_; clear hb hbox hg; have hnb49 := NB135_112.out; have hnc49 := NB112_135.out; have hnb50 := NB135_119.out; have hnc50 := NB119_135.out; have hnb51 := NB135_126.out; have hnc51 := NB126_135.out; have hcz52_0 : w48.cell? ⟨gb135, 0, none⟩ = some (.int .i64 0) := (blk_cell BK135.out 0).trans rfl; have hcz52_1 : w48.cell? ⟨gb135, 1, none⟩ = some (.int .i64 0) := (blk_cell BK135.out 1).trans rfl; have hcz52_2 : w48.cell? ⟨gb135, 2, none⟩ = some (.bool false) := (blk_cell BK135.out 2).trans rfl; have hcz52_3 : w48.cell? ⟨gb135, 3, none⟩ = some (.slice none 0 0) := (blk_cell BK135.out 3).trans rfl; have hcz52_4 : w48.cell? ⟨gb135, 4, none⟩ = some (.int .i64 0) := (blk_cell BK135.out 4).trans rfl; have hfz52_0 := blk_frozen BK135.out 0; have hfz52_1 := blk_frozen BK135.out 1; have hfz52_2 := blk_frozen BK135.out 2; have hfz52_3 := blk_frozen BK135.out 3; have hfz52_4 := blk_frozen BK135.out 4; obtain ⟨Ao53, co53, eo53⟩ := Kd.R_slice HO132.out; subst eo53))
                (try simp only [Act.put, List.setIfInBounds_toArray, List.set_cons_zero, List.set_cons_succ])
                go_cut [104] (fun v104 wc => ∃ (kq : Nat) (x104_38 : Bool), v104 = .bool x104_38 ∧ Aside0 (sorobanlaw05_BinarySpecials.j2 kq a2 l3 l4 t101 x12_8 x104_38 t123 t124 = some r) ∧ Aside0 (kq ≤ kj16) ∧ Aside0 (Kd.R (Kd.int .u32) 77 wc w.heap.size (fun k_ => some k_ ≠ ((.slice Ao53 t130.length co53) : Value).ownBlock) (.slice Ao21 t107.length co21) t107) ∧ Aside0 (Kd.R (Kd.int .u32) 77 wc w.heap.size (fun k_ => some k_ ≠ ((.slice Ao21 t107.length co21) : Value).ownBlock) (.slice Ao53 t130.length co53) t130) ∧ Aside0 (wc.heap[gb112]? = some (.cells #[.int .i64 t104, .int .i64 t105, .bool t106, (.slice Ao21 t107.length co21), .int .i64 t110] 25 (0, 0))) ∧ Aside0 (wc.heap[gb119]? = some (.cells #[.int .i64 t113, .int .i64 t114, .int .i64 t115, .int .i64 t116, .int .i64 t117] 57 (0, 0))) ∧ Aside0 (wc.heap[gb126]? = some (.cells #[.int .u64 t123, .int .u64 t124] 28 (0, 0))) ∧ Aside0 (wc.heap[gb135]? = some (.cells #[.int .i64 t127, .int .i64 t128, .bool t129, (.slice Ao53 t130.length co53), .int .i64 t133] 25 (0, 0))) ∧ Aside0 (Below w.heap.size w wc))
                case first =>
                  have H := HC39.out
                  clear HC39
                  by_cases c54 : t111 = 0
                  · rw [if_pos c54] at H
                    have c54b0 : (t111 == 0) = true := beq_iff_eq.mpr c54
                    have c54b1 : (t111 != 0) = false := bne_eq_false_iff_eq.mpr c54
                    clear c54
                    (first | rw [c54b0] | (simp only [i64_w, i32_w]; rw [c54b0]) | skip)
                    by_cases c55 : t125 = 0
                    · rw [if_pos c55] at H
                      have c55b0 : (t125 == 0) = true := beq_iff_eq.mpr c55
                      have c55b1 : (t125 != 0) = false := bne_eq_false_iff_eq.mpr c55
                      clear c55
                      by_cases c56 : t134 = 0
                      · rw [if_pos c56] at H
                        have c56b0 : (t134 == 0) = true := beq_iff_eq.mpr c56
                        have c56b1 : (t134 != 0) = false := bne_eq_false_iff_eq.mpr c56
                        clear c56
                        replace H := Option.bind_eq_some_iff.mp H
                        obtain ⟨t136, A570, H⟩ := H
                        replace H : (sorobanlaw05_BinarySpecials.j2 kj16 a2 l3 l4 t101 x12_8 (!t136) t123 t124) = some r := H
                        have A57 := Aside0.mk A570
                        clear A570
                        have H' := Aside0.mk H
                        clear H
                        have hnb58 := NB135_112.out
                        have hnc58 := NB112_135.out
                        have hnb59 := NB135_119.out
                        have hnc59 := NB119_135.out
                        have hnb60 := NB135_126.out
                        have hnc60 := NB126_135.out
                        have hcz61_0 : w48.cell? ⟨gb135, 0, none⟩ = some (.int .i64 0) := (blk_cell BK135.out 0).trans rfl
                        have hcz61_1 : w48.cell? ⟨gb135, 1, none⟩ = some (.int .i64 0) := (blk_cell BK135.out 1).trans rfl
                        have hcz61_2 : w48.cell? ⟨gb135, 2, none⟩ = some (.bool false) := (blk_cell BK135.out 2).trans rfl
                        have hcz61_3 : w48.cell? ⟨gb135, 3, none⟩ = some (.slice none 0 0) := (blk_cell BK135.out 3).trans rfl
                        have hcz61_4 : w48.cell? ⟨gb135, 4, none⟩ = some (.int .i64 0) := (blk_cell BK135.out 4).trans rfl
                        have hfz61_0 := blk_frozen BK135.out 0
                        have hfz61_1 := blk_frozen BK135.out 1
                        have hfz61_2 := blk_frozen BK135.out 2
                        have hfz61_3 := blk_frozen BK135.out 3
                        have hfz61_4 := blk_frozen BK135.out 4
                        have hnb62 := NB112_119.out
                        have hnc62 := NB119_112.out
                        have hnb63 := NB112_126.out
                        have hnc63 := NB126_112.out
                        have hcz64_0 : w48.cell? ⟨gb112, 0, none⟩ = some (.int .i64 t104) := (blk_cell BK112.out 0).trans rfl
                        have hcz64_1 : w48.cell? ⟨gb112, 1, none⟩ = some (.int .i64 t105) := (blk_cell BK112.out 1).trans rfl
                        have hcz64_2 : w48.cell? ⟨gb112, 2, none⟩ = some (.bool t106) := (blk_cell BK112.out 2).trans rfl
                        have hcz64_3 : w48.cell? ⟨gb112, 3, none⟩ = some (.slice Ao21 t107.length co21) := (blk_cell BK112.out 3).trans rfl
                        have hcz64_4 : w48.cell? ⟨gb112, 4, none⟩ = some (.int .i64 t110) := (blk_cell BK112.out 4).trans rfl
                        have hfz64_0 := blk_frozen BK112.out 0
                        have hfz64_1 := blk_frozen BK112.out 1
                        have hfz64_2 := blk_frozen BK112.out 2
                        have hfz64_3 := blk_frozen BK112.out 3
                        have hfz64_4 := blk_frozen BK112.out 4
                        go_wp2_with (first | (go_at_call 19; (with_reducible refine (sorobanref05_Same.calls t127 t128 t129 _ _ t130 t133 t104 t105 t106 _ _ t107 t110 t136 _ ?side1 ?side2 ?side3 ?side4 A57.out).mono ?_); (case side1 => refine (Kd.R_reads' (e := 77) (base := w.heap.size) (ok := fun k_ => (True ∧ some k_ ≠ (.slice Ao21 t107.length co21 : Value).ownBlock)) (n := t130.length) (c := co53) ?_).2.2; exact (by (with_reducible repeat (first | apply Kd.R_alloc | apply Kd.R_drewN | apply Kd.R_drew)); exact (Kd.R_mono (Kd.R_far (p := ⟨gb135, 4, none⟩) (Kd.R_far (p := ⟨gb135, 3, none⟩) (Kd.R_far (p := ⟨gb135, 2, none⟩) (Kd.R_far (p := ⟨gb135, 1, none⟩) (Kd.R_far (p := ⟨gb135, 0, none⟩) (Kd.R_types HO132.out BK135.out (by decide)) (fun _ hk => hk.2) (.int .i64 t127)) (fun _ hk => hk.2) (.int .i64 t128)) (fun _ hk => hk.2) (.bool t129)) (fun _ hk => hk.2) (.slice Ao53 t130.length co53)) (fun _ hk => hk.2) (.int .i64 t133)) (fun _ h_ => h_.1)))); (case side2 => exact (Kd.R_reads' HO132.out).2.1); (case side3 => refine (Kd.R_reads' (e := 77) (base := w.heap.size) (ok := fun k_ => (True ∧ some k_ ≠ (.slice Ao53 t130.length co53 : Value).ownBlock)) (n := t107.length) (c := co21) ?_).2.2; exact (by (with_reducible repeat (first | apply Kd.R_alloc | apply Kd.R_drewN | apply Kd.R_drew)); exact (Kd.R_mono (Kd.R_far (p := ⟨gb135, 4, none⟩) (Kd.R_far (p := ⟨gb135, 3, none⟩) (Kd.R_far (p := ⟨gb135, 2, none⟩) (Kd.R_far (p := ⟨gb135, 1, none⟩) (Kd.R_far (p := ⟨gb135, 0, none⟩) (Kd.R_types HO_113003.out BK135.out (by decide)) (fun _ hk => hk.2) (.int .i64 t127)) (fun _ hk => hk.2) (.int .i64 t128)) (fun _ hk => hk.2) (.bool t129)) (fun _ hk => hk.2) (.slice Ao53 t130.length co53)) (fun _ hk => hk.2) (.int .i64 t133)) (fun _ h_ => h_.1)))); (case side4 => exact (Kd.R_reads' HO_113003.out).2.1); rintro e w65 ⟨rfl, hb⟩; have n0_ := Aside0.mk (Kd.R_below (by (with_reducible repeat (first | apply Kd.R_alloc | apply Kd.R_drewN | apply Kd.R_drew)); exact (Kd.R_mono (Kd.R_far (p := ⟨gb135, 4, none⟩) (Kd.R_far (p := ⟨gb135, 3, none⟩) (Kd.R_far (p := ⟨gb135, 2, none⟩) (Kd.R_far (p := ⟨gb135, 1, none⟩) (Kd.R_far (p := ⟨gb135, 0, none⟩) (Kd.R_types HO_113003.out BK135.out (by decide)) (fun _ hk => hk.2) (.int .i64 t127)) (fun _ hk => hk.2) (.int .i64 t128)) (fun _ hk => hk.2) (.bool t129)) (fun _ hk => hk.2) (.slice Ao53 t130.length co53)) (fun _ hk => hk.2) (.int .i64 t133)) (fun _ h_ => h_.1))) hb); have n1_ := Aside0.mk (Kd.R_below (by (with_reducible repeat (first | apply Kd.R_alloc | apply Kd.R_drewN | apply Kd.R_drew)); exact (Kd.R_mono (Kd.R_far (p := ⟨gb135, 4, none⟩) (Kd.R_far (p := ⟨gb135, 3, none⟩) (Kd.R_far (p := ⟨gb135, 2, none⟩) (Kd.R_far (p := ⟨gb135, 1, none⟩) (Kd.R_far (p := ⟨gb135, 0, none⟩) (Kd.R_types HO132.out BK135.out (by decide)) (fun _ hk => hk.2) (.int .i64 t127)) (fun _ hk => hk.2) (.int .i64 t128)) (fun _ hk => hk.2) (.bool t129)) (fun _ hk => hk.2) (.slice Ao53 t130.length co53)) (fun _ hk => hk.2) (.int .i64 t133)) (fun _ h_ => h_.1))) hb); have n2_ := Aside0.mk (blk_below (g := gb112) (o := .cells #[.int .i64 t104, .int .i64 t105, .bool t106, .slice Ao21 t107.length co21, .int .i64 t110] 25 (0, 0)) (by (with_reducible repeat (first | refine blk_drewN ?_ _ | refine blk_drew ?_ | refine blk_alloc ?_ _)); refine blk_far ?_ NB112_135.out _; (with_reducible repeat (first | refine blk_drewN ?_ _ | refine blk_drew ?_ | refine blk_alloc ?_ _)); refine blk_far ?_ NB112_135.out _; (with_reducible repeat (first | refine blk_drewN ?_ _ | refine blk_drew ?_ | refine blk_alloc ?_ _)); refine blk_far ?_ NB112_135.out _; (with_reducible repeat (first | refine blk_drewN ?_ _ | refine blk_drew ?_ | refine blk_alloc ?_ _)); refine blk_far ?_ NB112_135.out _; (with_reducible repeat (first | refine blk_drewN ?_ _ | refine blk_drew ?_ | refine blk_alloc ?_ _)); refine blk_far ?_ NB112_135.out _; (with_reducible repeat (first | refine blk_drewN ?_ _ | refine blk_drew ?_ | refine blk_alloc ?_ _)); exact BK112.out) hb); have n3_ := Aside0.mk (blk_below (g := gb119) (o := .cells #[.int .i64 t113, .int .i64 t114, .int .i64 t115, .int .i64 t116, .int .i64 t117] 57 (0, 0)) (by (with_reducible repeat (first | refine blk_drewN ?_ _ | refine blk_drew ?_ | refine blk_alloc ?_ _)); refine blk_far ?_ NB119_135.out _; (with_reducible repeat (first | refine blk_drewN ?_ _ | refine blk_drew ?_ | refine blk_alloc ?_ _)); refine blk_far ?_ NB119_135.out _; (with_reducible repeat (first | refine blk_drewN ?_ _ | refine blk_drew ?_ | refine blk_alloc ?_ _)); refine blk_far ?_ NB119_135.out _; (with_reducible repeat (first | refine blk_drewN ?_ _ | refine blk_drew ?_ | refine blk_alloc ?_ _)); refine blk_far ?_ NB119_135.out _; (with_reducible repeat (first | refine blk_drewN ?_ _ | refine blk_drew ?_ | refine blk_alloc ?_ _)); refine blk_far ?_ NB119_135.out _; (with_reducible repeat (first | refine blk_drewN ?_ _ | refine blk_drew ?_ | refine blk_alloc ?_ _)); exact BK119.out) hb); have n4_ := Aside0.mk (blk_below (g := gb126) (o := .cells #[.int .u64 t123, .int .u64 t124] 28 (0, 0)) (by (with_reducible repeat (first | refine blk_drewN ?_ _ | refine blk_drew ?_ | refine blk_alloc ?_ _)); refine blk_far ?_ NB126_135.out _; (with_reducible repeat (first | refine blk_drewN ?_ _ | refine blk_drew ?_ | refine blk_alloc ?_ _)); refine blk_far ?_ NB126_135.out _; (with_reducible repeat (first | refine blk_drewN ?_ _ | refine blk_drew ?_ | refine blk_alloc ?_ _)); refine blk_far ?_ NB126_135.out _; (with_reducible repeat (first | refine blk_drewN ?_ _ | refine blk_drew ?_ | refine blk_alloc ?_ _)); refine blk_far ?_ NB126_135.out _; (with_reducible repeat (first | refine blk_drewN ?_ _ | refine blk_drew ?_ | refine blk_alloc ?_ _)); refine blk_far ?_ NB126_135.out _; (with_reducible repeat (first | refine blk_drewN ?_ _ | refine blk_drew ?_ | refine blk_alloc ?_ _)); exact BK126.out) hb); have n5_ := Aside0.mk (blk_below (g := gb135) (o := .cells #[.int .i64 t127, .int .i64 t128, .bool t129, .slice Ao53 t130.length co53, .int .i64 t133] 25 (0, 0)) (by (with_reducible repeat (first | refine blk_drewN ?_ _ | refine blk_drew ?_ | refine blk_alloc ?_ _)); refine blk_put (cs := #[.int .i64 t127, .int .i64 t128, .bool t129, .slice Ao53 t130.length co53, .int .i64 0]) ?_ 4 _ rfl; (with_reducible repeat (first | refine blk_drewN ?_ _ | refine blk_drew ?_ | refine blk_alloc ?_ _)); refine blk_put (cs := #[.int .i64 t127, .int .i64 t128, .bool t129, .slice none 0 0, .int .i64 0]) ?_ 3 _ rfl; (with_reducible repeat (first | refine blk_drewN ?_ _ | refine blk_drew ?_ | refine blk_alloc ?_ _)); refine blk_put (cs := #[.int .i64 t127, .int .i64 t128, .bool false, .slice none 0 0, .int .i64 0]) ?_ 2 _ rfl; (with_reducible repeat (first | refine blk_drewN ?_ _ | refine blk_drew ?_ | refine blk_alloc ?_ _)); refine blk_put (cs := #[.int .i64 t127, .int .i64 0, .bool false, .slice none 0 0, .int .i64 0]) ?_ 1 _ rfl; (with_reducible repeat (first | refine blk_drewN ?_ _ | refine blk_drew ?_ | refine blk_alloc ?_ _)); refine blk_put (cs := #[.int .i64 0, .int .i64 0, .bool false, .slice none 0 0, .int .i64 0]) ?_ 0 _ rfl; (with_reducible repeat (first | refine blk_drewN ?_ _ | refine blk_drew ?_ | refine blk_alloc ?_ _)); exact BK135.out) hb); have n6_ := Aside0.mk (below_step (zb HB.out) hb); clear HO_113003; clear HO132; clear BK112; clear BK119; clear BK126; clear BK135; clear HB; have HO_113003 := n0_; have HO132 := n1_; have BK112 := n2_; have BK119 := n3_; have BK126 := n4_; have BK135 := n5_; have HB := n6_; clear n0_ n1_ n2_ n3_ n4_ n5_ n6_; (try clear hb); (try clear hb2); (try clear hk); (try clear hi)))
                        go_meet
                        case rel => exact ⟨_, (!t136), (by first | rfl | (simp; done) | (simp [*]; done) | (simp; omega)), H', ⟨by have := HJ8.out; have := HJ16.out; first | omega | exact Nat.le_refl _⟩, ⟨by (with_reducible repeat (first | apply Kd.R_alloc | apply Kd.R_drewN | apply Kd.R_drew)); exact Kd.R_mono HO_113003.out (fun _ hk => hk.2)⟩, ⟨by (with_reducible repeat (first | apply Kd.R_alloc | apply Kd.R_drewN | apply Kd.R_drew)); exact Kd.R_mono HO132.out (fun _ hk => hk.2)⟩, ⟨by (with_reducible repeat (first | refine blk_drewN ?_ _ | refine blk_drew ?_ | refine blk_alloc ?_ _)); exact BK112.out⟩, ⟨by (with_reducible repeat (first | refine blk_drewN ?_ _ | refine blk_drew ?_ | refine blk_alloc ?_ _)); exact BK119.out⟩, ⟨by (with_reducible repeat (first | refine blk_drewN ?_ _ | refine blk_drew ?_ | refine blk_alloc ?_ _)); exact BK126.out⟩, ⟨by (with_reducible repeat (first | refine blk_drewN ?_ _ | refine blk_drew ?_ | refine blk_alloc ?_ _)); exact BK135.out⟩, ⟨zb HB.out⟩⟩
                      · rw [if_neg c56] at H
                        have c56b0 : (t134 == 0) = false := beq_eq_false_iff_ne.mpr c56
                        have c56b1 : (t134 != 0) = true := bne_iff_ne.mpr c56
                        have H' := Aside0.mk H
                        clear H
                        go_wp2
                        go_meet
                        case rel => exact ⟨_, (true), (by first | rfl | (simp; done) | (simp [*]; done) | (simp; omega)), H', ⟨by have := HJ8.out; have := HJ16.out; first | omega | exact Nat.le_refl _⟩, ⟨by (with_reducible repeat (first | apply Kd.R_alloc | apply Kd.R_drewN | apply Kd.R_drew)); exact Kd.R_mono (Kd.R_far (p := ⟨gb135, 4, none⟩) (Kd.R_far (p := ⟨gb135, 3, none⟩) (Kd.R_far (p := ⟨gb135, 2, none⟩) (Kd.R_far (p := ⟨gb135, 1, none⟩) (Kd.R_far (p := ⟨gb135, 0, none⟩) (Kd.R_types HO_113003.out BK135.out (by decide)) (fun _ hk => hk.2) (.int .i64 t127)) (fun _ hk => hk.2) (.int .i64 t128)) (fun _ hk => hk.2) (.bool t129)) (fun _ hk => hk.2) (.slice Ao53 t130.length co53)) (fun _ hk => hk.2) (.int .i64 t133)) (fun _ hk => hk.1.2)⟩, ⟨by (with_reducible repeat (first | apply Kd.R_alloc | apply Kd.R_drewN | apply Kd.R_drew)); exact Kd.R_mono (Kd.R_far (p := ⟨gb135, 4, none⟩) (Kd.R_far (p := ⟨gb135, 3, none⟩) (Kd.R_far (p := ⟨gb135, 2, none⟩) (Kd.R_far (p := ⟨gb135, 1, none⟩) (Kd.R_far (p := ⟨gb135, 0, none⟩) (Kd.R_types HO132.out BK135.out (by decide)) (fun _ hk => hk.2) (.int .i64 t127)) (fun _ hk => hk.2) (.int .i64 t128)) (fun _ hk => hk.2) (.bool t129)) (fun _ hk => hk.2) (.slice Ao53 t130.length co53)) (fun _ hk => hk.2) (.int .i64 t133)) (fun _ hk => hk.1.2)⟩, ⟨by (with_reducible repeat (first | refine blk_drewN ?_ _ | refine blk_drew ?_ | refine blk_alloc ?_ _)); refine blk_far ?_ NB112_135.out _; (with_reducible repeat (first | refine blk_drewN ?_ _ | refine blk_drew ?_ | refine blk_alloc ?_ _)); refine blk_far ?_ NB112_135.out _; (with_reducible repeat (first | refine blk_drewN ?_ _ | refine blk_drew ?_ | refine blk_alloc ?_ _)); refine blk_far ?_ NB112_135.out _; (with_reducible repeat (first | refine blk_drewN ?_ _ | refine blk_drew ?_ | refine blk_alloc ?_ _)); refine blk_far ?_ NB112_135.out _; (with_reducible repeat (first | refine blk_drewN ?_ _ | refine blk_drew ?_ | refine blk_alloc ?_ _)); refine blk_far ?_ NB112_135.out _; (with_reducible repeat (first | refine blk_drewN ?_ _ | refine blk_drew ?_ | refine blk_alloc ?_ _)); exact BK112.out⟩, ⟨by (with_reducible repeat (first | refine blk_drewN ?_ _ | refine blk_drew ?_ | refine blk_alloc ?_ _)); refine blk_far ?_ NB119_135.out _; (with_reducible repeat (first | refine blk_drewN ?_ _ | refine blk_drew ?_ | refine blk_alloc ?_ _)); refine blk_far ?_ NB119_135.out _; (with_reducible repeat (first | refine blk_drewN ?_ _ | refine blk_drew ?_ | refine blk_alloc ?_ _)); refine blk_far ?_ NB119_135.out _; (with_reducible repeat (first | refine blk_drewN ?_ _ | refine blk_drew ?_ | refine blk_alloc ?_ _)); refine blk_far ?_ NB119_135.out _; (with_reducible repeat (first | refine blk_drewN ?_ _ | refine blk_drew ?_ | refine blk_alloc ?_ _)); refine blk_far ?_ NB119_135.out _; (with_reducible repeat (first | refine blk_drewN ?_ _ | refine blk_drew ?_ | refine blk_alloc ?_ _)); exact BK119.out⟩, ⟨by (with_reducible repeat (first | refine blk_drewN ?_ _ | refine blk_drew ?_ | refine blk_alloc ?_ _)); refine blk_far ?_ NB126_135.out _; (with_reducible repeat (first | refine blk_drewN ?_ _ | refine blk_drew ?_ | refine blk_alloc ?_ _)); refine blk_far ?_ NB126_135.out _; (with_reducible repeat (first | refine blk_drewN ?_ _ | refine blk_drew ?_ | refine blk_alloc ?_ _)); refine blk_far ?_ NB126_135.out _; (with_reducible repeat (first | refine blk_drewN ?_ _ | refine blk_drew ?_ | refine blk_alloc ?_ _)); refine blk_far ?_ NB126_135.out _; (with_reducible repeat (first | refine blk_drewN ?_ _ | refine blk_drew ?_ | refine blk_alloc ?_ _)); refine blk_far ?_ NB126_135.out _; (with_reducible repeat (first | refine blk_drewN ?_ _ | refine blk_drew ?_ | refine blk_alloc ?_ _)); exact BK126.out⟩, ⟨by (with_reducible repeat (first | refine blk_drewN ?_ _ | refine blk_drew ?_ | refine blk_alloc ?_ _)); refine blk_put (cs := #[.int .i64 t127, .int .i64 t128, .bool t129, .slice Ao53 t130.length co53, .int .i64 0]) ?_ 4 _ rfl; (with_reducible repeat (first | refine blk_drewN ?_ _ | refine blk_drew ?_ | refine blk_alloc ?_ _)); refine blk_put (cs := #[.int .i64 t127, .int .i64 t128, .bool t129, .slice none 0 0, .int .i64 0]) ?_ 3 _ rfl; (with_reducible repeat (first | refine blk_drewN ?_ _ | refine blk_drew ?_ | refine blk_alloc ?_ _)); refine blk_put (cs := #[.int .i64 t127, .int .i64 t128, .bool false, .slice none 0 0, .int .i64 0]) ?_ 2 _ rfl; (with_reducible repeat (first | refine blk_drewN ?_ _ | refine blk_drew ?_ | refine blk_alloc ?_ _)); refine blk_put (cs := #[.int .i64 t127, .int .i64 0, .bool false, .slice none 0 0, .int .i64 0]) ?_ 1 _ rfl; (with_reducible repeat (first | refine blk_drewN ?_ _ | refine blk_drew ?_ | refine blk_alloc ?_ _)); refine blk_put (cs := #[.int .i64 0, .int .i64 0, .bool false, .slice none 0 0, .int .i64 0]) ?_ 0 _ rfl; (with_reducible repeat (first | refine blk_drewN ?_ _ | refine blk_drew ?_ | refine blk_alloc ?_ _)); exact BK135.out⟩, ⟨zb HB.out⟩⟩
                    · rw [if_neg c55] at H
                      have c55b0 : (t125 == 0) = false := beq_eq_false_iff_ne.mpr c55
                      have c55b1 : (t125 != 0) = true := bne_iff_ne.mpr c55
                      have H' := Aside0.mk H
                      clear H
                      go_wp2
                      go_meet
                      case rel => exact ⟨_, (true), (by first | rfl | (simp; done) | (simp [*]; done) | (simp; omega)), H', ⟨by have := HJ8.out; have := HJ16.out; first | omega | exact Nat.le_refl _⟩, ⟨by (with_reducible repeat (first | apply Kd.R_alloc | apply Kd.R_drewN | apply Kd.R_drew)); exact Kd.R_mono (Kd.R_far (p := ⟨gb135, 4, none⟩) (Kd.R_far (p := ⟨gb135, 3, none⟩) (Kd.R_far (p := ⟨gb135, 2, none⟩) (Kd.R_far (p := ⟨gb135, 1, none⟩) (Kd.R_far (p := ⟨gb135, 0, none⟩) (Kd.R_types HO_113003.out BK135.out (by decide)) (fun _ hk => hk.2) (.int .i64 t127)) (fun _ hk => hk.2) (.int .i64 t128)) (fun _ hk => hk.2) (.bool t129)) (fun _ hk => hk.2) (.slice Ao53 t130.length co53)) (fun _ hk => hk.2) (.int .i64 t133)) (fun _ hk => hk.1.2)⟩, ⟨by (with_reducible repeat (first | apply Kd.R_alloc | apply Kd.R_drewN | apply Kd.R_drew)); exact Kd.R_mono (Kd.R_far (p := ⟨gb135, 4, none⟩) (Kd.R_far (p := ⟨gb135, 3, none⟩) (Kd.R_far (p := ⟨gb135, 2, none⟩) (Kd.R_far (p := ⟨gb135, 1, none⟩) (Kd.R_far (p := ⟨gb135, 0, none⟩) (Kd.R_types HO132.out BK135.out (by decide)) (fun _ hk => hk.2) (.int .i64 t127)) (fun _ hk => hk.2) (.int .i64 t128)) (fun _ hk => hk.2) (.bool t129)) (fun _ hk => hk.2) (.slice Ao53 t130.length co53)) (fun _ hk => hk.2) (.int .i64 t133)) (fun _ hk => hk.1.2)⟩, ⟨by (with_reducible repeat (first | refine blk_drewN ?_ _ | refine blk_drew ?_ | refine blk_alloc ?_ _)); refine blk_far ?_ NB112_135.out _; (with_reducible repeat (first | refine blk_drewN ?_ _ | refine blk_drew ?_ | refine blk_alloc ?_ _)); refine blk_far ?_ NB112_135.out _; (with_reducible repeat (first | refine blk_drewN ?_ _ | refine blk_drew ?_ | refine blk_alloc ?_ _)); refine blk_far ?_ NB112_135.out _; (with_reducible repeat (first | refine blk_drewN ?_ _ | refine blk_drew ?_ | refine blk_alloc ?_ _)); refine blk_far ?_ NB112_135.out _; (with_reducible repeat (first | refine blk_drewN ?_ _ | refine blk_drew ?_ | refine blk_alloc ?_ _)); refine blk_far ?_ NB112_135.out _; (with_reducible repeat (first | refine blk_drewN ?_ _ | refine blk_drew ?_ | refine blk_alloc ?_ _)); exact BK112.out⟩, ⟨by (with_reducible repeat (first | refine blk_drewN ?_ _ | refine blk_drew ?_ | refine blk_alloc ?_ _)); refine blk_far ?_ NB119_135.out _; (with_reducible repeat (first | refine blk_drewN ?_ _ | refine blk_drew ?_ | refine blk_alloc ?_ _)); refine blk_far ?_ NB119_135.out _; (with_reducible repeat (first | refine blk_drewN ?_ _ | refine blk_drew ?_ | refine blk_alloc ?_ _)); refine blk_far ?_ NB119_135.out _; (with_reducible repeat (first | refine blk_drewN ?_ _ | refine blk_drew ?_ | refine blk_alloc ?_ _)); refine blk_far ?_ NB119_135.out _; (with_reducible repeat (first | refine blk_drewN ?_ _ | refine blk_drew ?_ | refine blk_alloc ?_ _)); refine blk_far ?_ NB119_135.out _; (with_reducible repeat (first | refine blk_drewN ?_ _ | refine blk_drew ?_ | refine blk_alloc ?_ _)); exact BK119.out⟩, ⟨by (with_reducible repeat (first | refine blk_drewN ?_ _ | refine blk_drew ?_ | refine blk_alloc ?_ _)); refine blk_far ?_ NB126_135.out _; (with_reducible repeat (first | refine blk_drewN ?_ _ | refine blk_drew ?_ | refine blk_alloc ?_ _)); refine blk_far ?_ NB126_135.out _; (with_reducible repeat (first | refine blk_drewN ?_ _ | refine blk_drew ?_ | refine blk_alloc ?_ _)); refine blk_far ?_ NB126_135.out _; (with_reducible repeat (first | refine blk_drewN ?_ _ | refine blk_drew ?_ | refine blk_alloc ?_ _)); refine blk_far ?_ NB126_135.out _; (with_reducible repeat (first | refine blk_drewN ?_ _ | refine blk_drew ?_ | refine blk_alloc ?_ _)); refine blk_far ?_ NB126_135.out _; (with_reducible repeat (first | refine blk_drewN ?_ _ | refine blk_drew ?_ | refine blk_alloc ?_ _)); exact BK126.out⟩, ⟨by (with_reducible repeat (first | refine blk_drewN ?_ _ | refine blk_drew ?_ | refine blk_alloc ?_ _)); refine blk_put (cs := #[.int .i64 t127, .int .i64 t128, .bool t129, .slice Ao53 t130.length co53, .int .i64 0]) ?_ 4 _ rfl; (with_reducible repeat (first | refine blk_drewN ?_ _ | refine blk_drew ?_ | refine blk_alloc ?_ _)); refine blk_put (cs := #[.int .i64 t127, .int .i64 t128, .bool t129, .slice none 0 0, .int .i64 0]) ?_ 3 _ rfl; (with_reducible repeat (first | refine blk_drewN ?_ _ | refine blk_drew ?_ | refine blk_alloc ?_ _)); refine blk_put (cs := #[.int .i64 t127, .int .i64 t128, .bool false, .slice none 0 0, .int .i64 0]) ?_ 2 _ rfl; (with_reducible repeat (first | refine blk_drewN ?_ _ | refine blk_drew ?_ | refine blk_alloc ?_ _)); refine blk_put (cs := #[.int .i64 t127, .int .i64 0, .bool false, .slice none 0 0, .int .i64 0]) ?_ 1 _ rfl; (with_reducible repeat (first | refine blk_drewN ?_ _ | refine blk_drew ?_ | refine blk_alloc ?_ _)); refine blk_put (cs := #[.int .i64 0, .int .i64 0, .bool false, .slice none 0 0, .int .i64 0]) ?_ 0 _ rfl; (with_reducible repeat (first | refine blk_drewN ?_ _ | refine blk_drew ?_ | refine blk_alloc ?_ _)); exact BK135.out⟩, ⟨zb HB.out⟩⟩
                  · rw [if_neg c54] at H
                    have c54b0 : (t111 == 0) = false := beq_eq_false_iff_ne.mpr c54
                    have c54b1 : (t111 != 0) = true := bne_iff_ne.mpr c54
                    (first | rw [c54b0] | (simp only [i64_w, i32_w]; rw [c54b0]) | skip)
                    have H' := Aside0.mk H
                    clear H
                    go_wp2
                    go_meet
                    case rel => exact ⟨_, (true), (by first | rfl | (simp; done) | (simp [*]; done) | (simp; omega)), H', ⟨by have := HJ8.out; have := HJ16.out; first | omega | exact Nat.le_refl _⟩, ⟨by (with_reducible repeat (first | apply Kd.R_alloc | apply Kd.R_drewN | apply Kd.R_drew)); exact Kd.R_mono (Kd.R_far (p := ⟨gb135, 4, none⟩) (Kd.R_far (p := ⟨gb135, 3, none⟩) (Kd.R_far (p := ⟨gb135, 2, none⟩) (Kd.R_far (p := ⟨gb135, 1, none⟩) (Kd.R_far (p := ⟨gb135, 0, none⟩) (Kd.R_types HO_113003.out BK135.out (by decide)) (fun _ hk => hk.2) (.int .i64 t127)) (fun _ hk => hk.2) (.int .i64 t128)) (fun _ hk => hk.2) (.bool t129)) (fun _ hk => hk.2) (.slice Ao53 t130.length co53)) (fun _ hk => hk.2) (.int .i64 t133)) (fun _ hk => hk.1.2)⟩, ⟨by (with_reducible repeat (first | apply Kd.R_alloc | apply Kd.R_drewN | apply Kd.R_drew)); exact Kd.R_mono (Kd.R_far (p := ⟨gb135, 4, none⟩) (Kd.R_far (p := ⟨gb135, 3, none⟩) (Kd.R_far (p := ⟨gb135, 2, none⟩) (Kd.R_far (p := ⟨gb135, 1, none⟩) (Kd.R_far (p := ⟨gb135, 0, none⟩) (Kd.R_types HO132.out BK135.out (by decide)) (fun _ hk => hk.2) (.int .i64 t127)) (fun _ hk => hk.2) (.int .i64 t128)) (fun _ hk => hk.2) (.bool t129)) (fun _ hk => hk.2) (.slice Ao53 t130.length co53)) (fun _ hk => hk.2) (.int .i64 t133)) (fun _ hk => hk.1.2)⟩, ⟨by (with_reducible repeat (first | refine blk_drewN ?_ _ | refine blk_drew ?_ | refine blk_alloc ?_ _)); refine blk_far ?_ NB112_135.out _; (with_reducible repeat (first | refine blk_drewN ?_ _ | refine blk_drew ?_ | refine blk_alloc ?_ _)); refine blk_far ?_ NB112_135.out _; (with_reducible repeat (first | refine blk_drewN ?_ _ | refine blk_drew ?_ | refine blk_alloc ?_ _)); refine blk_far ?_ NB112_135.out _; (with_reducible repeat (first | refine blk_drewN ?_ _ | refine blk_drew ?_ | refine blk_alloc ?_ _)); refine blk_far ?_ NB112_135.out _; (with_reducible repeat (first | refine blk_drewN ?_ _ | refine blk_drew ?_ | refine blk_alloc ?_ _)); refine blk_far ?_ NB112_135.out _; (with_reducible repeat (first | refine blk_drewN ?_ _ | refine blk_drew ?_ | refine blk_alloc ?_ _)); exact BK112.out⟩, ⟨by (with_reducible repeat (first | refine blk_drewN ?_ _ | refine blk_drew ?_ | refine blk_alloc ?_ _)); refine blk_far ?_ NB119_135.out _; (with_reducible repeat (first | refine blk_drewN ?_ _ | refine blk_drew ?_ | refine blk_alloc ?_ _)); refine blk_far ?_ NB119_135.out _; (with_reducible repeat (first | refine blk_drewN ?_ _ | refine blk_drew ?_ | refine blk_alloc ?_ _)); refine blk_far ?_ NB119_135.out _; (with_reducible repeat (first | refine blk_drewN ?_ _ | refine blk_drew ?_ | refine blk_alloc ?_ _)); refine blk_far ?_ NB119_135.out _; (with_reducible repeat (first | refine blk_drewN ?_ _ | refine blk_drew ?_ | refine blk_alloc ?_ _)); refine blk_far ?_ NB119_135.out _; (with_reducible repeat (first | refine blk_drewN ?_ _ | refine blk_drew ?_ | refine blk_alloc ?_ _)); exact BK119.out⟩, ⟨by (with_reducible repeat (first | refine blk_drewN ?_ _ | refine blk_drew ?_ | refine blk_alloc ?_ _)); refine blk_far ?_ NB126_135.out _; (with_reducible repeat (first | refine blk_drewN ?_ _ | refine blk_drew ?_ | refine blk_alloc ?_ _)); refine blk_far ?_ NB126_135.out _; (with_reducible repeat (first | refine blk_drewN ?_ _ | refine blk_drew ?_ | refine blk_alloc ?_ _)); refine blk_far ?_ NB126_135.out _; (with_reducible repeat (first | refine blk_drewN ?_ _ | refine blk_drew ?_ | refine blk_alloc ?_ _)); refine blk_far ?_ NB126_135.out _; (with_reducible repeat (first | refine blk_drewN ?_ _ | refine blk_drew ?_ | refine blk_alloc ?_ _)); refine blk_far ?_ NB126_135.out _; (with_reducible repeat (first | refine blk_drewN ?_ _ | refine blk_drew ?_ | refine blk_alloc ?_ _)); exact BK126.out⟩, ⟨by (with_reducible repeat (first | refine blk_drewN ?_ _ | refine blk_drew ?_ | refine blk_alloc ?_ _)); refine blk_put (cs := #[.int .i64 t127, .int .i64 t128, .bool t129, .slice Ao53 t130.length co53, .int .i64 0]) ?_ 4 _ rfl; (with_reducible repeat (first | refine blk_drewN ?_ _ | refine blk_drew ?_ | refine blk_alloc ?_ _)); refine blk_put (cs := #[.int .i64 t127, .int .i64 t128, .bool t129, .slice none 0 0, .int .i64 0]) ?_ 3 _ rfl; (with_reducible repeat (first | refine blk_drewN ?_ _ | refine blk_drew ?_ | refine blk_alloc ?_ _)); refine blk_put (cs := #[.int .i64 t127, .int .i64 t128, .bool false, .slice none 0 0, .int .i64 0]) ?_ 2 _ rfl; (with_reducible repeat (first | refine blk_drewN ?_ _ | refine blk_drew ?_ | refine blk_alloc ?_ _)); refine blk_put (cs := #[.int .i64 t127, .int .i64 0, .bool false, .slice none 0 0, .int .i64 0]) ?_ 1 _ rfl; (with_reducible repeat (first | refine blk_drewN ?_ _ | refine blk_drew ?_ | refine blk_alloc ?_ _)); refine blk_put (cs := #[.int .i64 0, .int .i64 0, .bool false, .slice none 0 0, .int .i64 0]) ?_ 0 _ rfl; (with_reducible repeat (first | refine blk_drewN ?_ _ | refine blk_drew ?_ | refine blk_alloc ?_ _)); exact BK135.out⟩, ⟨zb HB.out⟩⟩
                case rest =>
                  clear HC39
                  try clear c1
                  try clear c2
                  try clear p2
                  try clear c3
                  try clear c4
                  try clear c5
                  try clear c6
                  try clear p6
                  try clear c8
                  try clear c10
                  try clear c12
                  try clear c15
                  try clear c16
                  try clear c16b0
                  try clear c16b1
                  try clear c21
                  try clear c24
                  try clear c27
                  try clear c27b0
                  try clear c27b1
                  try clear c28
                  try clear c28b0
                  try clear c29
                  try clear c29b0
                  try clear c30
                  try clear c32
                  try clear c34
                  try clear c36
                  try clear c40
                  try clear c44
                  try clear c45
                  try clear c49
                  try clear c50
                  try clear c51
                  try clear c54
                  try clear c54b0
                  try clear c54b1
                  try clear c55
                  try clear c55b0
                  try clear c55b1
                  try clear c56
                  try clear c56b0
                  try clear c56b1
                  try clear c58
                  try clear c59
                  try clear c60
                  try clear c62
                  try clear c63
                  try clear p64
                  try clear hcz20_0
                  try clear hcz20_1
                  try clear hcz20_2
                  try clear hcz20_3
                  try clear hcz20_4
                  try clear hcz25_0
                  try clear hcz25_1
                  try clear hcz25_2
                  try clear hcz25_3
                  try clear hcz25_4
                  try clear hcz31_0
                  try clear hcz31_1
                  try clear hcz31_2
                  try clear hcz31_3
                  try clear hcz31_4
                  try clear hcz33_0
                  try clear hcz33_1
                  try clear hcz33_2
                  try clear hcz33_3
                  try clear hcz33_4
                  try clear hcz35_0
                  try clear hcz35_1
                  try clear hcz35_2
                  try clear hcz35_3
                  try clear hcz35_4
                  try clear hcz41_0
                  try clear hcz41_1
                  try clear hcz41_2
                  try clear hcz41_3
                  try clear hcz41_4
                  try clear hcz46_0
                  try clear hcz46_1
                  try clear hcz52_0
                  try clear hcz52_1
                  try clear hcz52_2
                  try clear hcz52_3
                  try clear hcz52_4
                  try clear hcz61_0
                  try clear hcz61_1
                  try clear hcz61_2
                  try clear hcz61_3
                  try clear hcz61_4
                  try clear hcz64_0
                  try clear hcz64_1
                  try clear hcz64_2
                  try clear hcz64_3
                  try clear hcz64_4
                  try clear hfz20_0
                  try clear hfz20_1
                  try clear hfz20_2
                  try clear hfz20_3
                  try clear hfz20_4
                  try clear hfz25_0
                  try clear hfz25_1
                  try clear hfz25_2
                  try clear hfz25_3
                  try clear hfz25_4
                  try clear hfz31_0
                  try clear hfz31_1
                  try clear hfz31_2
                  try clear hfz31_3
                  try clear hfz31_4
                  try clear hfz33_0
                  try clear hfz33_1
                  try clear hfz33_2
                  try clear hfz33_3
                  try clear hfz33_4
                  try clear hfz35_0
                  try clear hfz35_1
                  try clear hfz35_2
                  try clear hfz35_3
                  try clear hfz35_4
                  try clear hfz41_0
                  try clear hfz41_1
                  try clear hfz41_2
                  try clear hfz41_3
                  try clear hfz41_4
                  try clear hfz46_0
                  try clear hfz46_1
                  try clear hfz52_0
                  try clear hfz52_1
                  try clear hfz52_2
                  try clear hfz52_3
                  try clear hfz52_4
                  try clear hfz61_0
                  try clear hfz61_1
                  try clear hfz61_2
                  try clear hfz61_3
                  try clear hfz61_4
                  try clear hfz64_0
                  try clear hfz64_1
                  try clear hfz64_2
                  try clear hfz64_3
                  try clear hfz64_4
                  try clear p2
                  try clear p6
                  obtain ⟨kq, x104_38, rfl, HA, HJ38, HO_113003, HO_136003, BK112, BK119, BK126, BK135, HB⟩ := hcut
                  cases kq with
                  | zero => exact absurd HA.out (by simp [sorobanlaw05_BinarySpecials.j2])
                  | succ kj38 =>
                    have H := HA.out
                    clear HA
                    simp only [sorobanlaw05_BinarySpecials.j2] at H
                    by_cases c66 : x104_38 = true
                    · subst c66
                      have H1 : (some false) = some r := by rw [if_pos rfl] at H; exact H
                      clear H
                      have H := H1
                      clear H1
                      obtain rfl := Option.some.inj H
                      go_wp2
                      go_ret
                      exact ⟨by first | rfl | (simp [errW_none, errW_some] <;> rfl) | (simp [*, errW_none, errW_some] <;> rfl), by repeat (first | (with_reducible first | exact HB.out | apply below_alloc | apply pw_below_drewN | apply below_drew1 | refine below_set ?_ GE112.out | refine below_set ?_ GE119.out | refine below_set ?_ GE126.out | refine below_set ?_ GE135.out) | exact HB.out)⟩
                    · replace c66 := Bool.eq_false_iff.mpr c66
                      subst c66
                      have H1 : ((binary_Special.f t101 x12_8 a2 l4).bind fun bt137 => ((binary_Encode.f bt137.1 bt137.2.1 bt137.2.2.1 bt137.2.2.2.1 bt137.2.2.2.2.1).bind fun bt146 => ((sorobanlaw05_sanity.f).bind fun t150 => (if t150 = true then (if bt137.2.2.2.2.2 = 0 then (if bt146.2.2 = 0 then ((sorobanref01_Same.f l3 l4).bind fun t151 => (some ((t123 == bt146.1 && (t124 == bt146.2.1)) == t151))) else (some false)) else (some true)) else (some false))))) = some r := by rw [if_neg (show ¬ (false = true) by decide)] at H; exact H
                      clear H
                      have H := H1
                      clear H1
                      replace H := Option.bind_eq_some_iff.mp H
                      obtain ⟨⟨t137, t138, t139, t140, t143, t144⟩, A670, H⟩ := H
                      replace H : ((binary_Encode.f t137 t138 t139 t140 t143).bind fun bt146 => ((sorobanlaw05_sanity.f).bind fun t150 => (if t150 = true then (if t144 = 0 then (if bt146.2.2 = 0 then ((sorobanref01_Same.f l3 l4).bind fun t151 => (some ((t123 == bt146.1 && (t124 == bt146.2.1)) == t151))) else (some false)) else (some true)) else (some false)))) = some r := H
                      have A67 := Aside0.mk A670
                      clear A670
                      replace H := Option.bind_eq_some_iff.mp H
                      obtain ⟨⟨t146, t147, t148⟩, A680, H⟩ := H
                      replace H : ((sorobanlaw05_sanity.f).bind fun t150 => (if t150 = true then (if t144 = 0 then (if t148 = 0 then ((sorobanref01_Same.f l3 l4).bind fun t151 => (some ((t123 == t146 && (t124 == t147)) == t151))) else (some false)) else (some true)) else (some false))) = some r := H
                      have A68 := Aside0.mk A680
                      clear A680
                      replace H := Option.bind_eq_some_iff.mp H
                      obtain ⟨t150, A690, H⟩ := H
                      replace H : (if t150 = true then (if t144 = 0 then (if t148 = 0 then ((sorobanref01_Same.f l3 l4).bind fun t151 => (some ((t123 == t146 && (t124 == t147)) == t151))) else (some false)) else (some true)) else (some false)) = some r := H
                      have A69 := Aside0.mk A690
                      clear A690
                      by_cases c70 : t150 = true
                      · subst c70
                        have H1 : (if t144 = 0 then (if t148 = 0 then ((sorobanref01_Same.f l3 l4).bind fun t151 => (some ((t123 == t146 && (t124 == t147)) == t151))) else (some false)) else (some true)) = some r := by rw [if_pos rfl] at H; exact H
                        clear H
                        have H := H1
                        clear H1
                        by_cases c71 : t144 = 0
                        · rw [if_pos c71] at H
                          have c71b0 : (t144 == 0) = true := beq_iff_eq.mpr c71
                          have c71b1 : (t144 != 0) = false := bne_eq_false_iff_eq.mpr c71
                          clear c71
                          by_cases c72 : t148 = 0
                          · rw [if_pos c72] at H
                            have c72b0 : (t148 == 0) = true := beq_iff_eq.mpr c72
                            have c72b1 : (t148 != 0) = false := bne_eq_false_iff_eq.mpr c72
                            clear c72
                            replace H := Option.bind_eq_some_iff.mp H
                            obtain ⟨t151, A730, H⟩ := H
                            replace H : (some ((t123 == t146 && (t124 == t147)) == t151)) = some r := H
                            have A73 := Aside0.mk A730
                            clear A730
                            obtain rfl := Option.some.inj H
                            try go_wp2_with (first | ((with_reducible refine gate_callee (f := 27) rfl ?_); refine goesL_ (some 110) rfl rfl Tryd.func27 (by kernel_rfl) rfl #[.int .i64 t101, .int .i64 x12_8, .bool a2, .slice A4 l4.length c4] rfl zm ?_; (with_reducible refine (binary_Special.calls t101 x12_8 a2 _ _ l4 t137 t138 t139 t140 t143 t144 _ ?side1 ?side2 A67.out).mono ?_); (case side1 => repeat (first | exact (Kd.C_below HR4.out HB.out) | (with_reducible refine Kd.C_alloc ?_ _) | (with_reducible refine Kd.C_drewN ?_ _) | (with_reducible refine Kd.C_drew ?_))); (case side2 => exact HC4.out); rintro e w74 ⟨v141, rfl, ho0, hb⟩; refine ⟨_, rfl, ?_⟩; have n0_ := Aside0.mk (Kd.R_elder' (zr HO_113003.out) (Kd.R_base ho0) hb); have n1_ := Aside0.mk (Kd.R_elder' (zr HO_136003.out) (Kd.R_base ho0) hb); have n2_ := Aside0.mk (Kd.R_lower (Kd.R_new' (Kd.R_new' ho0 (Kd.R_lt (zr HO_113003.out))) (Kd.R_lt (zr HO_136003.out))) (below_size (zb HB.out))); have n3_ := Aside0.mk (blk_below (g := gb112) (o := .cells #[.int .i64 t104, .int .i64 t105, .bool t106, .slice Ao21 t107.length co21, .int .i64 t110] 25 (0, 0)) (zk BK112.out) hb); have n4_ := Aside0.mk (blk_below (g := gb119) (o := .cells #[.int .i64 t113, .int .i64 t114, .int .i64 t115, .int .i64 t116, .int .i64 t117] 57 (0, 0)) (zk BK119.out) hb); have n5_ := Aside0.mk (blk_below (g := gb126) (o := .cells #[.int .u64 t123, .int .u64 t124] 28 (0, 0)) (zk BK126.out) hb); have n6_ := Aside0.mk (blk_below (g := gb135) (o := .cells #[.int .i64 t127, .int .i64 t128, .bool t129, .slice Ao53 t130.length co53, .int .i64 t133] 25 (0, 0)) (zk BK135.out) hb); have n7_ := Aside0.mk (below_step (zb HB.out) hb); clear HO_113003; clear HO_136003; clear BK112; clear BK119; clear BK126; clear BK135; clear HB; have HO_113003 := n0_; have HO_136003 := n1_; have HO142 := n2_; have BK112 := n3_; have BK119 := n4_; have BK126 := n5_; have BK135 := n6_; have HB := n7_; clear n0_ n1_ n2_ n3_ n4_ n5_ n6_ n7_; (try clear hb); (try clear hb2); (try clear hk); (try clear hi); (try clear ho0)) | ((with_reducible refine gate_dst (N := 23) rfl ?_); refine box_event ?hg (N := 23) ?hd (cs := #[.int .i64 0, .int .i64 0, .bool false, .slice none 0 0, .int .i64 0]) (t := 25) ?hr ?_; (case hd => rfl); (case hg => rfl); (case hr => first | (go_simp; done) | (go_simp; rfl)); intro gb145 hg w75 hbox hb; have n0_ := Aside0.mk (Kd.R_below (zr HO_113003.out) hb); have n1_ := Aside0.mk (Kd.R_below (zr HO_136003.out) hb); have n2_ := Aside0.mk (Kd.R_below (zr HO142.out) hb); have n3_ := Aside0.mk (blk_below (g := gb112) (o := .cells #[.int .i64 t104, .int .i64 t105, .bool t106, .slice Ao21 t107.length co21, .int .i64 t110] 25 (0, 0)) (zk BK112.out) hb); have n4_ := Aside0.mk (blk_below (g := gb119) (o := .cells #[.int .i64 t113, .int .i64 t114, .int .i64 t115, .int .i64 t116, .int .i64 t117] 57 (0, 0)) (zk BK119.out) hb); have n5_ := Aside0.mk (blk_below (g := gb126) (o := .cells #[.int .u64 t123, .int .u64 t124] 28 (0, 0)) (zk BK126.out) hb); have n6_ := Aside0.mk (blk_below (g := gb135) (o := .cells #[.int .i64 t127, .int .i64 t128, .bool t129, .slice Ao53 t130.length co53, .int .i64 t133] 25 (0, 0)) (zk BK135.out) hb); have n7_ := Aside0.mk (below_step (zb HB.out) hb); have n8_ := Aside0.mk (hbox); have n9_ := Aside0.mk ((by rw [hg]; exact (below_size (zb HB.out)) : w.heap.size ≤ gb145)); have n10_ := Aside0.mk ((by rw [hg]; exact (below_size (zb HB.out)) : w.heap.size ≤ gb145)); have n11_ := Aside0.mk ((by rw [hg]; exact Nat.ne_of_lt (blk_lt (g := gb112) (o := .cells #[.int .i64 t104, .int .i64 t105, .bool t106, .slice Ao21 t107.length co21, .int .i64 t110] 25 (0, 0)) (zk BK112.out)) : gb112 ≠ gb145)); have n12_ := Aside0.mk ((by rw [hg]; exact Nat.ne_of_gt (blk_lt (g := gb112) (o := .cells #[.int .i64 t104, .int .i64 t105, .bool t106, .slice Ao21 t107.length co21, .int .i64 t110] 25 (0, 0)) (zk BK112.out)) : gb145 ≠ gb112)); have n13_ := Aside0.mk ((by rw [hg]; exact Nat.ne_of_lt (blk_lt (g := gb119) (o := .cells #[.int .i64 t113, .int .i64 t114, .int .i64 t115, .int .i64 t116, .int .i64 t117] 57 (0, 0)) (zk BK119.out)) : gb119 ≠ gb145)); have n14_ := Aside0.mk ((by rw [hg]; exact Nat.ne_of_gt (blk_lt (g := gb119) (o := .cells #[.int .i64 t113, .int .i64 t114, .int .i64 t115, .int .i64 t116, .int .i64 t117] 57 (0, 0)) (zk BK119.out)) : gb145 ≠ gb119)); have n15_ := Aside0.mk ((by rw [hg]; exact Nat.ne_of_lt (blk_lt (g := gb126) (o := .cells #[.int .u64 t123, .int .u64 t124] 28 (0, 0)) (zk BK126.out)) : gb126 ≠ gb145)); have n16_ := Aside0.mk ((by rw [hg]; exact Nat.ne_of_gt (blk_lt (g := gb126) (o := .cells #[.int .u64 t123, .int .u64 t124] 28 (0, 0)) (zk BK126.out)) : gb145 ≠ gb126)); have n17_ := Aside0.mk ((by rw [hg]; exact Nat.ne_of_lt (blk_lt (g := gb135) (o := .cells #[.int .i64 t127, .int .i64 t128, .bool t129, .slice Ao53 t130.length co53, .int .i64 t133] 25 (0, 0)) (zk BK135.out)) : gb135 ≠ gb145)); have n18_ := Aside0.mk ((by rw [hg]; exact Nat.ne_of_gt (blk_lt (g := gb135) (o := .cells #[.int .i64 t127, .int .i64 t128, .bool t129, .slice Ao53 t130.length co53, .int .i64 t133] 25 (0, 0)) (zk BK135.out)) : gb145 ≠ gb135)); clear HO_113003; clear HO_136003; clear HO142; clear BK112; clear BK119; clear BK126; clear BK135; clear HB; have HO_113003 := n0_; have HO_136003 := n1_; have HO142 := n2_; have BK112 := n3_; have BK119 := n4_; have BK126 := n5_; have BK135 := n6_; have HB := n7_; have BK145 := n8_; have GW145 := n9_; have GE145 := n10_; have NB112_145 := n11_; have NB145_112 := n12_; have NB119_145 := n13_; have NB145_119 := n14_; have NB126_145 := n15_; have NB145_126 := n16_; have NB135_145 := n17_; have NB145_135 := n18_; clear n0_ n1_ n2_ n3_ n4_ n5_ n6_ n7_ n8_ n9_ n10_ n11_ n12_ n13_ n14_ n15_ n16_ n17_ n18_; clear hb hbox hg; have hnb76 := NB145_112.out; have hnc76 := NB112_145.out; have hnb77 := NB145_119.out; have hnc77 := NB119_145.out; have hnb78 := NB145_126.out; have hnc78 := NB126_145.out; have hnb79 := NB145_135.out; have hnc79 := NB135_145.out; have hcz80_0 : w75.cell? ⟨gb145, 0, none⟩ = some (.int .i64 0) := (blk_cell BK145.out 0).trans rfl; have hcz80_1 : w75.cell? ⟨gb145, 1, none⟩ = some (.int .i64 0) := (blk_cell BK145.out 1).trans rfl; have hcz80_2 : w75.cell? ⟨gb145, 2, none⟩ = some (.bool false) := (blk_cell BK145.out 2).trans rfl; have hcz80_3 : w75.cell? ⟨gb145, 3, none⟩ = some (.slice none 0 0) := (blk_cell BK145.out 3).trans rfl; have hcz80_4 : w75.cell? ⟨gb145, 4, none⟩ = some (.int .i64 0) := (blk_cell BK145.out 4).trans rfl; have hfz80_0 := blk_frozen BK145.out 0; have hfz80_1 := blk_frozen BK145.out 1; have hfz80_2 := blk_frozen BK145.out 2; have hfz80_3 := blk_frozen BK145.out 3; have hfz80_4 := blk_frozen BK145.out 4; obtain ⟨Ao81, co81, eo81⟩ := Kd.R_slice HO142.out; subst eo81) | ((with_reducible refine gate_callee (f := 12) rfl ?_); refine goesL_ (some 115) rfl rfl Tryd.func12 (by kernel_rfl) rfl #[.agg #[.int .i64 t137, .int .i64 t138, .bool t139, .slice Ao81 t140.length co81, .int .i64 t143]] rfl zm ?_; (with_reducible refine (binary_Encode.calls t137 t138 t139 _ _ t140 t143 t146 t147 t148 _ ?side1 ?side2 A68.out).mono ?_); (case side1 => refine (Kd.R_reads' (e := 77) (base := w.heap.size) (ok := fun k_ => ((True ∧ some k_ ≠ (.slice Ao21 t107.length co21 : Value).ownBlock) ∧ some k_ ≠ (.slice Ao53 t130.length co53 : Value).ownBlock)) (n := t140.length) (c := co81) ?_).2.2; exact (by (with_reducible repeat (first | apply Kd.R_alloc | apply Kd.R_drewN | apply Kd.R_drew)); exact (Kd.R_mono (Kd.R_far (p := ⟨gb145, 4, none⟩) (Kd.R_far (p := ⟨gb145, 3, none⟩) (Kd.R_far (p := ⟨gb145, 2, none⟩) (Kd.R_far (p := ⟨gb145, 1, none⟩) (Kd.R_far (p := ⟨gb145, 0, none⟩) (Kd.R_types HO142.out BK145.out (by decide)) (fun _ hk => hk.2) (.int .i64 t137)) (fun _ hk => hk.2) (.int .i64 t138)) (fun _ hk => hk.2) (.bool t139)) (fun _ hk => hk.2) (.slice Ao81 t140.length co81)) (fun _ hk => hk.2) (.int .i64 t143)) (fun _ h_ => h_.1)))); (case side2 => exact (Kd.R_reads' HO142.out).2.1); rintro e w82 ⟨rfl, hb⟩; refine ⟨_, rfl, ?_⟩; have n0_ := Aside0.mk (Kd.R_below (by (with_reducible repeat (first | apply Kd.R_alloc | apply Kd.R_drewN | apply Kd.R_drew)); exact (Kd.R_mono (Kd.R_far (p := ⟨gb145, 4, none⟩) (Kd.R_far (p := ⟨gb145, 3, none⟩) (Kd.R_far (p := ⟨gb145, 2, none⟩) (Kd.R_far (p := ⟨gb145, 1, none⟩) (Kd.R_far (p := ⟨gb145, 0, none⟩) (Kd.R_types HO_113003.out BK145.out (by decide)) (fun _ hk => hk.2) (.int .i64 t137)) (fun _ hk => hk.2) (.int .i64 t138)) (fun _ hk => hk.2) (.bool t139)) (fun _ hk => hk.2) (.slice Ao81 t140.length co81)) (fun _ hk => hk.2) (.int .i64 t143)) (fun _ h_ => h_.1))) hb); have n1_ := Aside0.mk (Kd.R_below (by (with_reducible repeat (first | apply Kd.R_alloc | apply Kd.R_drewN | apply Kd.R_drew)); exact (Kd.R_mono (Kd.R_far (p := ⟨gb145, 4, none⟩) (Kd.R_far (p := ⟨gb145, 3, none⟩) (Kd.R_far (p := ⟨gb145, 2, none⟩) (Kd.R_far (p := ⟨gb145, 1, none⟩) (Kd.R_far (p := ⟨gb145, 0, none⟩) (Kd.R_types HO_136003.out BK145.out (by decide)) (fun _ hk => hk.2) (.int .i64 t137)) (fun _ hk => hk.2) (.int .i64 t138)) (fun _ hk => hk.2) (.bool t139)) (fun _ hk => hk.2) (.slice Ao81 t140.length co81)) (fun _ hk => hk.2) (.int .i64 t143)) (fun _ h_ => h_.1))) hb); have n2_ := Aside0.mk (Kd.R_below (by (with_reducible repeat (first | apply Kd.R_alloc | apply Kd.R_drewN | apply Kd.R_drew)); exact (Kd.R_mono (Kd.R_far (p := ⟨gb145, 4, none⟩) (Kd.R_far (p := ⟨gb145, 3, none⟩) (Kd.R_far (p := ⟨gb145, 2, none⟩) (Kd.R_far (p := ⟨gb145, 1, none⟩) (Kd.R_far (p := ⟨gb145, 0, none⟩) (Kd.R_types HO142.out BK145.out (by decide)) (fun _ hk => hk.2) (.int .i64 t137)) (fun _ hk => hk.2) (.int .i64 t138)) (fun _ hk => hk.2) (.bool t139)) (fun _ hk => hk.2) (.slice Ao81 t140.length co81)) (fun _ hk => hk.2) (.int .i64 t143)) (fun _ h_ => h_.1))) hb); have n3_ := Aside0.mk (blk_below (g := gb112) (o := .cells #[.int .i64 t104, .int .i64 t105, .bool t106, .slice Ao21 t107.length co21, .int .i64 t110] 25 (0, 0)) (by (with_reducible repeat (first | refine blk_drewN ?_ _ | refine blk_drew ?_ | refine blk_alloc ?_ _)); refine blk_far ?_ NB112_145.out _; (with_reducible repeat (first | refine blk_drewN ?_ _ | refine blk_drew ?_ | refine blk_alloc ?_ _)); refine blk_far ?_ NB112_145.out _; (with_reducible repeat (first | refine blk_drewN ?_ _ | refine blk_drew ?_ | refine blk_alloc ?_ _)); refine blk_far ?_ NB112_145.out _; (with_reducible repeat (first | refine blk_drewN ?_ _ | refine blk_drew ?_ | refine blk_alloc ?_ _)); refine blk_far ?_ NB112_145.out _; (with_reducible repeat (first | refine blk_drewN ?_ _ | refine blk_drew ?_ | refine blk_alloc ?_ _)); refine blk_far ?_ NB112_145.out _; (with_reducible repeat (first | refine blk_drewN ?_ _ | refine blk_drew ?_ | refine blk_alloc ?_ _)); exact BK112.out) hb); have n4_ := Aside0.mk (blk_below (g := gb119) (o := .cells #[.int .i64 t113, .int .i64 t114, .int .i64 t115, .int .i64 t116, .int .i64 t117] 57 (0, 0)) (by (with_reducible repeat (first | refine blk_drewN ?_ _ | refine blk_drew ?_ | refine blk_alloc ?_ _)); refine blk_far ?_ NB119_145.out _; (with_reducible repeat (first | refine blk_drewN ?_ _ | refine blk_drew ?_ | refine blk_alloc ?_ _)); refine blk_far ?_ NB119_145.out _; (with_reducible repeat (first | refine blk_drewN ?_ _ | refine blk_drew ?_ | refine blk_alloc ?_ _)); refine blk_far ?_ NB119_145.out _; (with_reducible repeat (first | refine blk_drewN ?_ _ | refine blk_drew ?_ | refine blk_alloc ?_ _)); refine blk_far ?_ NB119_145.out _; (with_reducible repeat (first | refine blk_drewN ?_ _ | refine blk_drew ?_ | refine blk_alloc ?_ _)); refine blk_far ?_ NB119_145.out _; (with_reducible repeat (first | refine blk_drewN ?_ _ | refine blk_drew ?_ | refine blk_alloc ?_ _)); exact BK119.out) hb); have n5_ := Aside0.mk (blk_below (g := gb126) (o := .cells #[.int .u64 t123, .int .u64 t124] 28 (0, 0)) (by (with_reducible repeat (first | refine blk_drewN ?_ _ | refine blk_drew ?_ | refine blk_alloc ?_ _)); refine blk_far ?_ NB126_145.out _; (with_reducible repeat (first | refine blk_drewN ?_ _ | refine blk_drew ?_ | refine blk_alloc ?_ _)); refine blk_far ?_ NB126_145.out _; (with_reducible repeat (first | refine blk_drewN ?_ _ | refine blk_drew ?_ | refine blk_alloc ?_ _)); refine blk_far ?_ NB126_145.out _; (with_reducible repeat (first | refine blk_drewN ?_ _ | refine blk_drew ?_ | refine blk_alloc ?_ _)); refine blk_far ?_ NB126_145.out _; (with_reducible repeat (first | refine blk_drewN ?_ _ | refine blk_drew ?_ | refine blk_alloc ?_ _)); refine blk_far ?_ NB126_145.out _; (with_reducible repeat (first | refine blk_drewN ?_ _ | refine blk_drew ?_ | refine blk_alloc ?_ _)); exact BK126.out) hb); have n6_ := Aside0.mk (blk_below (g := gb135) (o := .cells #[.int .i64 t127, .int .i64 t128, .bool t129, .slice Ao53 t130.length co53, .int .i64 t133] 25 (0, 0)) (by (with_reducible repeat (first | refine blk_drewN ?_ _ | refine blk_drew ?_ | refine blk_alloc ?_ _)); refine blk_far ?_ NB135_145.out _; (with_reducible repeat (first | refine blk_drewN ?_ _ | refine blk_drew ?_ | refine blk_alloc ?_ _)); refine blk_far ?_ NB135_145.out _; (with_reducible repeat (first | refine blk_drewN ?_ _ | refine blk_drew ?_ | refine blk_alloc ?_ _)); refine blk_far ?_ NB135_145.out _; (with_reducible repeat (first | refine blk_drewN ?_ _ | refine blk_drew ?_ | refine blk_alloc ?_ _)); refine blk_far ?_ NB135_145.out _; (with_reducible repeat (first | refine blk_drewN ?_ _ | refine blk_drew ?_ | refine blk_alloc ?_ _)); refine blk_far ?_ NB135_145.out _; (with_reducible repeat (first | refine blk_drewN ?_ _ | refine blk_drew ?_ | refine blk_alloc ?_ _)); exact BK135.out) hb); have n7_ := Aside0.mk (blk_below (g := gb145) (o := .cells #[.int .i64 t137, .int .i64 t138, .bool t139, .slice Ao81 t140.length co81, .int .i64 t143] 25 (0, 0)) (by (with_reducible repeat (first | refine blk_drewN ?_ _ | refine blk_drew ?_ | refine blk_alloc ?_ _)); refine blk_put (cs := #[.int .i64 t137, .int .i64 t138, .bool t139, .slice Ao81 t140.length co81, .int .i64 0]) ?_ 4 _ rfl; (with_reducible repeat (first | refine blk_drewN ?_ _ | refine blk_drew ?_ | refine blk_alloc ?_ _)); refine blk_put (cs := #[.int .i64 t137, .int .i64 t138, .bool t139, .slice none 0 0, .int .i64 0]) ?_ 3 _ rfl; (with_reducible repeat (first | refine blk_drewN ?_ _ | refine blk_drew ?_ | refine blk_alloc ?_ _)); refine blk_put (cs := #[.int .i64 t137, .int .i64 t138, .bool false, .slice none 0 0, .int .i64 0]) ?_ 2 _ rfl; (with_reducible repeat (first | refine blk_drewN ?_ _ | refine blk_drew ?_ | refine blk_alloc ?_ _)); refine blk_put (cs := #[.int .i64 t137, .int .i64 0, .bool false, .slice none 0 0, .int .i64 0]) ?_ 1 _ rfl; (with_reducible repeat (first | refine blk_drewN ?_ _ | refine blk_drew ?_ | refine blk_alloc ?_ _)); refine blk_put (cs := #[.int .i64 0, .int .i64 0, .bool false, .slice none 0 0, .int .i64 0]) ?_ 0 _ rfl; (with_reducible repeat (first | refine blk_drewN ?_ _ | refine blk_drew ?_ | refine blk_alloc ?_ _)); exact BK145.out) hb); have n8_ := Aside0.mk (below_step (zb HB.out) hb); clear HO_113003; clear HO_136003; clear HO142; clear BK112; clear BK119; clear BK126; clear BK135; clear BK145; clear HB; have HO_113003 := n0_; have HO_136003 := n1_; have HO142 := n2_; have BK112 := n3_; have BK119 := n4_; have BK126 := n5_; have BK135 := n6_; have BK145 := n7_; have HB := n8_; clear n0_ n1_ n2_ n3_ n4_ n5_ n6_ n7_ n8_; (try clear hb); (try clear hb2); (try clear hk); (try clear hi)) | ((with_reducible refine gate_dst (N := 24) rfl ?_); refine box_event ?hg (N := 24) ?hd (cs := #[.int .u64 0, .int .u64 0]) (t := 28) ?hr ?_; (case hd => rfl); (case hg => rfl); (case hr => first | (go_simp; done) | (go_simp; rfl)); intro gb149 hg w83 hbox hb; have n0_ := Aside0.mk (Kd.R_below (zr HO_113003.out) hb); have n1_ := Aside0.mk (Kd.R_below (zr HO_136003.out) hb); have n2_ := Aside0.mk (Kd.R_below (zr HO142.out) hb); have n3_ := Aside0.mk (blk_below (g := gb112) (o := .cells #[.int .i64 t104, .int .i64 t105, .bool t106, .slice Ao21 t107.length co21, .int .i64 t110] 25 (0, 0)) (zk BK112.out) hb); have n4_ := Aside0.mk (blk_below (g := gb119) (o := .cells #[.int .i64 t113, .int .i64 t114, .int .i64 t115, .int .i64 t116, .int .i64 t117] 57 (0, 0)) (zk BK119.out) hb); have n5_ := Aside0.mk (blk_below (g := gb126) (o := .cells #[.int .u64 t123, .int .u64 t124] 28 (0, 0)) (zk BK126.out) hb); have n6_ := Aside0.mk (blk_below (g := gb135) (o := .cells #[.int .i64 t127, .int .i64 t128, .bool t129, .slice Ao53 t130.length co53, .int .i64 t133] 25 (0, 0)) (zk BK135.out) hb); have n7_ := Aside0.mk (blk_below (g := gb145) (o := .cells #[.int .i64 t137, .int .i64 t138, .bool t139, .slice Ao81 t140.length co81, .int .i64 t143] 25 (0, 0)) (zk BK145.out) hb); have n8_ := Aside0.mk (below_step (zb HB.out) hb); have n9_ := Aside0.mk (hbox); have n10_ := Aside0.mk ((by rw [hg]; exact (below_size (zb HB.out)) : w.heap.size ≤ gb149)); have n11_ := Aside0.mk ((by rw [hg]; exact (below_size (zb HB.out)) : w.heap.size ≤ gb149)); have n12_ := Aside0.mk ((by rw [hg]; exact Nat.ne_of_lt (blk_lt (g := gb112) (o := .cells #[.int .i64 t104, .int .i64 t105, .bool t106, .slice Ao21 t107.length co21, .int .i64 t110] 25 (0, 0)) (zk BK112.out)) : gb112 ≠ gb149)); have n13_ := Aside0.mk ((by rw [hg]; exact Nat.ne_of_gt (blk_lt (g := gb112) (o := .cells #[.int .i64 t104, .int .i64 t105, .bool t106, .slice Ao21 t107.length co21, .int .i64 t110] 25 (0, 0)) (zk BK112.out)) : gb149 ≠ gb112)); have n14_ := Aside0.mk ((by rw [hg]; exact Nat.ne_of_lt (blk_lt (g := gb119) (o := .cells #[.int .i64 t113, .int .i64 t114, .int .i64 t115, .int .i64 t116, .int .i64 t117] 57 (0, 0)) (zk BK119.out)) : gb119 ≠ gb149)); have n15_ := Aside0.mk ((by rw [hg]; exact Nat.ne_of_gt (blk_lt (g := gb119) (o := .cells #[.int .i64 t113, .int .i64 t114, .int .i64 t115, .int .i64 t116, .int .i64 t117] 57 (0, 0)) (zk BK119.out)) : gb149 ≠ gb119)); have n16_ := Aside0.mk ((by rw [hg]; exact Nat.ne_of_lt (blk_lt (g := gb126) (o := .cells #[.int .u64 t123, .int .u64 t124] 28 (0, 0)) (zk BK126.out)) : gb126 ≠ gb149)); have n17_ := Aside0.mk ((by rw [hg]; exact Nat.ne_of_gt (blk_lt (g := gb126) (o := .cells #[.int .u64 t123, .int .u64 t124] 28 (0, 0)) (zk BK126.out)) : gb149 ≠ gb126)); have n18_ := Aside0.mk ((by rw [hg]; exact Nat.ne_of_lt (blk_lt (g := gb135) (o := .cells #[.int .i64 t127, .int .i64 t128, .bool t129, .slice Ao53 t130.length co53, .int .i64 t133] 25 (0, 0)) (zk BK135.out)) : gb135 ≠ gb149)); have n19_ := Aside0.mk ((by rw [hg]; exact Nat.ne_of_gt (blk_lt (g := gb135) (o := .cells #[.int .i64 t127, .int .i64 t128, .bool t129, .slice Ao53 t130.length co53, .int .i64 t133] 25 (0, 0)) (zk BK135.out)) : gb149 ≠ gb135)); have n20_ := Aside0.mk ((by rw [hg]; exact Nat.ne_of_lt (blk_lt (g := gb145) (o := .cells #[.int .i64 t137, .int .i64 t138, .bool t139, .slice Ao81 t140.length co81, .int .i64 t143] 25 (0, 0)) (zk BK145.out)) : gb145 ≠ gb149)); have n21_ := Aside0.mk ((by rw [hg]; exact Nat.ne_of_gt (blk_lt (g := gb145) (o := .cells #[.int .i64 t137, .int .i64 t138, .bool t139, .slice Ao81 t140.length co81, .int .i64 t143] 25 (0, 0)) (zk BK145.out)) : gb149 ≠ gb145)); clear HO_113003; clear HO_136003; clear HO142; clear BK112; clear BK119; clear BK126; clear BK135; clear BK145; clear HB; have HO_113003 := n0_; have HO_136003 := n1_; have HO142 := n2_; have BK112 := n3_; have BK119 := n4_; have BK126 := n5_; have BK135 := n6_; have BK145 := n7_; have HB := n8_; have BK149 := n9_; have GW149 := n10_; have GE149 := n11_; have NB112_149 := n12_; have NB149_112 := n13_; have NB119_149 := n14_; have NB149_119 := n15_; have NB126_149 := n16_; have NB149_126 := n17_; have NB135_149 := n18_; have NB149_135 := n19_; have NB145_149 := n20_; have NB149_145 := n21_; clear n0_ n1_ n2_ n3_ n4_ n5_ n6_ n7_ n8_ n9_ n10_ n11_ n12_ n13_ n14_ n15_ n16_ n17_ n18_ n19_ n20_ n21_; clear hb hbox hg; have hnb84 := NB149_112.out; have hnc84 := NB112_149.out; have hnb85 := NB149_119.out; have hnc85 := NB119_149.out; have hnb86 := NB149_126.out; have hnc86 := NB126_149.out; have hnb87 := NB149_135.out; have hnc87 := NB135_149.out; have hnb88 := NB149_145.out; have hnc88 := NB145_149.out; have hcz89_0 : w83.cell? ⟨gb149, 0, none⟩ = some (.int .u64 0) := (blk_cell BK149.out 0).trans rfl; have hcz89_1 : w83.cell? ⟨gb149, 1, none⟩ = some (.int .u64 0) := (blk_cell BK149.out 1).trans rfl; have hfz89_0 := blk_frozen BK149.out 0; have hfz89_1 := blk_frozen BK149.out 1))
                            have n0_ : Aside0 (Kd.R (Kd.int .u32) 77 ((w83.setCell ⟨gb149, 0, none⟩ (.int .u64 t146)).setCell ⟨gb149, 1, none⟩ (.int .u64 t147)) w.heap.size (fun k_ => some k_ ≠ (.slice Ao53 t130.length co53 : Value).ownBlock ∧ some k_ ≠ (.slice Ao81 t140.length co81 : Value).ownBlock) (.slice Ao21 t107.length co21) t107) := ⟨by (with_reducible repeat (first | apply Kd.R_alloc | apply Kd.R_drewN | apply Kd.R_drew)); exact Kd.R_mono (Kd.R_far (p := ⟨gb149, 1, none⟩) (Kd.R_far (p := ⟨gb149, 0, none⟩) (Kd.R_types HO_113003.out BK149.out (by decide)) (fun _ hk => hk.2) (.int .u64 t146)) (fun _ hk => hk.2) (.int .u64 t147)) (fun _ hk => ⟨hk.1.1, hk.1.2⟩)⟩
                            have n1_ : Aside0 (Kd.R (Kd.int .u32) 77 ((w83.setCell ⟨gb149, 0, none⟩ (.int .u64 t146)).setCell ⟨gb149, 1, none⟩ (.int .u64 t147)) w.heap.size (fun k_ => some k_ ≠ (.slice Ao21 t107.length co21 : Value).ownBlock ∧ some k_ ≠ (.slice Ao81 t140.length co81 : Value).ownBlock) (.slice Ao53 t130.length co53) t130) := ⟨by (with_reducible repeat (first | apply Kd.R_alloc | apply Kd.R_drewN | apply Kd.R_drew)); exact Kd.R_mono (Kd.R_far (p := ⟨gb149, 1, none⟩) (Kd.R_far (p := ⟨gb149, 0, none⟩) (Kd.R_types HO_136003.out BK149.out (by decide)) (fun _ hk => hk.2) (.int .u64 t146)) (fun _ hk => hk.2) (.int .u64 t147)) (fun _ hk => ⟨hk.1.1, hk.1.2⟩)⟩
                            have n2_ : Aside0 (Kd.R (Kd.int .u32) 77 ((w83.setCell ⟨gb149, 0, none⟩ (.int .u64 t146)).setCell ⟨gb149, 1, none⟩ (.int .u64 t147)) w.heap.size (fun k_ => some k_ ≠ (.slice Ao21 t107.length co21 : Value).ownBlock ∧ some k_ ≠ (.slice Ao53 t130.length co53 : Value).ownBlock) (.slice Ao81 t140.length co81) t140) := ⟨by (with_reducible repeat (first | apply Kd.R_alloc | apply Kd.R_drewN | apply Kd.R_drew)); exact Kd.R_mono (Kd.R_far (p := ⟨gb149, 1, none⟩) (Kd.R_far (p := ⟨gb149, 0, none⟩) (Kd.R_types HO142.out BK149.out (by decide)) (fun _ hk => hk.2) (.int .u64 t146)) (fun _ hk => hk.2) (.int .u64 t147)) (fun _ hk => ⟨hk.1.1.2, hk.1.2⟩)⟩
                            have n3_ : Aside0 (((w83.setCell ⟨gb149, 0, none⟩ (.int .u64 t146)).setCell ⟨gb149, 1, none⟩ (.int .u64 t147)).heap[gb112]? = some (.cells #[.int .i64 t104, .int .i64 t105, .bool t106, .slice Ao21 t107.length co21, .int .i64 t110] 25 (0, 0))) := ⟨by (with_reducible repeat (first | refine blk_drewN ?_ _ | refine blk_drew ?_ | refine blk_alloc ?_ _)); refine blk_far ?_ NB112_149.out _; (with_reducible repeat (first | refine blk_drewN ?_ _ | refine blk_drew ?_ | refine blk_alloc ?_ _)); refine blk_far ?_ NB112_149.out _; (with_reducible repeat (first | refine blk_drewN ?_ _ | refine blk_drew ?_ | refine blk_alloc ?_ _)); exact BK112.out⟩
                            have n4_ : Aside0 (((w83.setCell ⟨gb149, 0, none⟩ (.int .u64 t146)).setCell ⟨gb149, 1, none⟩ (.int .u64 t147)).heap[gb119]? = some (.cells #[.int .i64 t113, .int .i64 t114, .int .i64 t115, .int .i64 t116, .int .i64 t117] 57 (0, 0))) := ⟨by (with_reducible repeat (first | refine blk_drewN ?_ _ | refine blk_drew ?_ | refine blk_alloc ?_ _)); refine blk_far ?_ NB119_149.out _; (with_reducible repeat (first | refine blk_drewN ?_ _ | refine blk_drew ?_ | refine blk_alloc ?_ _)); refine blk_far ?_ NB119_149.out _; (with_reducible repeat (first | refine blk_drewN ?_ _ | refine blk_drew ?_ | refine blk_alloc ?_ _)); exact BK119.out⟩
                            have n5_ : Aside0 (((w83.setCell ⟨gb149, 0, none⟩ (.int .u64 t146)).setCell ⟨gb149, 1, none⟩ (.int .u64 t147)).heap[gb126]? = some (.cells #[.int .u64 t123, .int .u64 t124] 28 (0, 0))) := ⟨by (with_reducible repeat (first | refine blk_drewN ?_ _ | refine blk_drew ?_ | refine blk_alloc ?_ _)); refine blk_far ?_ NB126_149.out _; (with_reducible repeat (first | refine blk_drewN ?_ _ | refine blk_drew ?_ | refine blk_alloc ?_ _)); refine blk_far ?_ NB126_149.out _; (with_reducible repeat (first | refine blk_drewN ?_ _ | refine blk_drew ?_ | refine blk_alloc ?_ _)); exact BK126.out⟩
                            have n6_ : Aside0 (((w83.setCell ⟨gb149, 0, none⟩ (.int .u64 t146)).setCell ⟨gb149, 1, none⟩ (.int .u64 t147)).heap[gb135]? = some (.cells #[.int .i64 t127, .int .i64 t128, .bool t129, .slice Ao53 t130.length co53, .int .i64 t133] 25 (0, 0))) := ⟨by (with_reducible repeat (first | refine blk_drewN ?_ _ | refine blk_drew ?_ | refine blk_alloc ?_ _)); refine blk_far ?_ NB135_149.out _; (with_reducible repeat (first | refine blk_drewN ?_ _ | refine blk_drew ?_ | refine blk_alloc ?_ _)); refine blk_far ?_ NB135_149.out _; (with_reducible repeat (first | refine blk_drewN ?_ _ | refine blk_drew ?_ | refine blk_alloc ?_ _)); exact BK135.out⟩
                            have n7_ : Aside0 (((w83.setCell ⟨gb149, 0, none⟩ (.int .u64 t146)).setCell ⟨gb149, 1, none⟩ (.int .u64 t147)).heap[gb145]? = some (.cells #[.int .i64 t137, .int .i64 t138, .bool t139, .slice Ao81 t140.length co81, .int .i64 t143] 25 (0, 0))) := ⟨by (with_reducible repeat (first | refine blk_drewN ?_ _ | refine blk_drew ?_ | refine blk_alloc ?_ _)); refine blk_far ?_ NB145_149.out _; (with_reducible repeat (first | refine blk_drewN ?_ _ | refine blk_drew ?_ | refine blk_alloc ?_ _)); refine blk_far ?_ NB145_149.out _; (with_reducible repeat (first | refine blk_drewN ?_ _ | refine blk_drew ?_ | refine blk_alloc ?_ _)); exact BK145.out⟩
                            have n8_ : Aside0 (((w83.setCell ⟨gb149, 0, none⟩ (.int .u64 t146)).setCell ⟨gb149, 1, none⟩ (.int .u64 t147)).heap[gb149]? = some (.cells #[.int .u64 t146, .int .u64 t147] 28 (0, 0))) := ⟨by (with_reducible repeat (first | refine blk_drewN ?_ _ | refine blk_drew ?_ | refine blk_alloc ?_ _)); refine blk_put (cs := #[.int .u64 t146, .int .u64 0]) ?_ 1 _ rfl; (with_reducible repeat (first | refine blk_drewN ?_ _ | refine blk_drew ?_ | refine blk_alloc ?_ _)); refine blk_put (cs := #[.int .u64 0, .int .u64 0]) ?_ 0 _ rfl; (with_reducible repeat (first | refine blk_drewN ?_ _ | refine blk_drew ?_ | refine blk_alloc ?_ _)); exact BK149.out⟩
                            have n9_ : Aside0 (Below w.heap.size w ((w83.setCell ⟨gb149, 0, none⟩ (.int .u64 t146)).setCell ⟨gb149, 1, none⟩ (.int .u64 t147))) := ⟨zb HB.out⟩
                            (try clear HO_113003)
                            (try clear HO_136003)
                            (try clear HO142)
                            (try clear BK112)
                            (try clear BK119)
                            (try clear BK126)
                            (try clear BK135)
                            (try clear BK145)
                            (try clear BK149)
                            (try clear HB)
                            generalize ((w83.setCell ⟨gb149, 0, none⟩ (.int .u64 t146)).setCell ⟨gb149, 1, none⟩ (.int .u64 t147)) = w90 at n0_ n1_ n2_ n3_ n4_ n5_ n6_ n7_ n8_ n9_ ⊢
                            have HO_113003 := n0_
                            have HO_136003 := n1_
                            have HO142 := n2_
                            have BK112 := n3_
                            have BK119 := n4_
                            have BK126 := n5_
                            have BK135 := n6_
                            have BK145 := n7_
                            have BK149 := n8_
                            have HB := n9_
                            clear n0_ n1_ n2_ n3_ n4_ n5_ n6_ n7_ n8_ n9_
                            have n0_ := Aside0.mk (Kd.R_drew HO_113003.out)
                            have n1_ := Aside0.mk (Kd.R_drew HO_136003.out)
                            have n2_ := Aside0.mk (Kd.R_drew HO142.out)
                            have n3_ := Aside0.mk (blk_drew BK112.out)
                            have n4_ := Aside0.mk (blk_drew BK119.out)
                            have n5_ := Aside0.mk (blk_drew BK126.out)
                            have n6_ := Aside0.mk (blk_drew BK135.out)
                            have n7_ := Aside0.mk (blk_drew BK145.out)
                            have n8_ := Aside0.mk (blk_drew BK149.out)
                            have n9_ := Aside0.mk (below_drew1 HB.out)
                            clear HO_113003
                            clear HO_136003
                            clear HO142
                            clear BK112
                            clear BK119
                            clear BK126
                            clear BK135
                            clear BK145
                            clear BK149
                            clear HB
                            have HO_113003 := n0_
                            have HO_136003 := n1_
                            have HO142 := n2_
                            have BK112 := n3_
                            have BK119 := n4_
                            have BK126 := n5_
                            have BK135 := n6_
                            have BK145 := n7_
                            have BK149 := n8_
                            have HB := n9_
                            clear n0_ n1_ n2_ n3_ n4_ n5_ n6_ n7_ n8_ n9_
                            refine start_ (n := 19) (S := fun w' => w'.cell? ⟨gb126, 0, none⟩ = some (.int .u64 t123) ∧ w'.cell? ⟨gb126, 1, none⟩ = some (.int .u64 t124) ∧ w'.cell? ⟨gb149, 0, none⟩ = some (.int .u64 t146) ∧ w'.cell? ⟨gb149, 1, none⟩ = some (.int .u64 t147)) (ds := []) #[false, false, false, false, false, false, false, false, false, false, false, false, false, false, false, false, false, false, false] (by kernel_rfl) rfl rfl ⟨(blk_cell BK126.out 0).trans rfl, (blk_cell BK126.out 1).trans rfl, (blk_cell BK149.out 0).trans rfl, (blk_cell BK149.out 1).trans rfl⟩ (fun hHeld => ?_); refine with_tabW sorobanlaw05_BinarySpecials.tab21 sorobanlaw05_BinarySpecials.bits21 (fun HT_ HW_ => ?_)
                            generalize w90.drew = w91 at HO_113003 HO_136003 HO142 BK112 BK119 BK126 BK135 BK145 BK149 HB hHeld ⊢
                            refine one_ (i := 0) (N := some 118) #[true, false, false, false, false, false, false, false, false, false, false, false, false, false, false, false, false, false, false] rfl rfl (one_of HT_.out (by kernel_rfl)) (by decide) (fun K hK => ?_)
                            refine goes_ Tryd.func11 (by kernel_rfl) rfl #[] (by rfl) rfl rfl zm ?_
                            with_reducible refine (sorobanlaw05_sanity.calls  true _ A69.out (HTAB.out.below (zb HB.out))).mono ?_
                            rintro e w92 ⟨rfl, hb⟩
                            refine ⟨_, rfl, ?_⟩
                            have n0_ := Aside0.mk (Kd.R_below (zr HO_113003.out) hb)
                            have n1_ := Aside0.mk (Kd.R_below (zr HO_136003.out) hb)
                            have n2_ := Aside0.mk (Kd.R_below (zr HO142.out) hb)
                            have n3_ := Aside0.mk (blk_below (g := gb112) (o := .cells #[.int .i64 t104, .int .i64 t105, .bool t106, .slice Ao21 t107.length co21, .int .i64 t110] 25 (0, 0)) (zk BK112.out) hb)
                            have n4_ := Aside0.mk (blk_below (g := gb119) (o := .cells #[.int .i64 t113, .int .i64 t114, .int .i64 t115, .int .i64 t116, .int .i64 t117] 57 (0, 0)) (zk BK119.out) hb)
                            have n5_ := Aside0.mk (blk_below (g := gb126) (o := .cells #[.int .u64 t123, .int .u64 t124] 28 (0, 0)) (zk BK126.out) hb)
                            have n6_ := Aside0.mk (blk_below (g := gb135) (o := .cells #[.int .i64 t127, .int .i64 t128, .bool t129, .slice Ao53 t130.length co53, .int .i64 t133] 25 (0, 0)) (zk BK135.out) hb)
                            have n7_ := Aside0.mk (blk_below (g := gb145) (o := .cells #[.int .i64 t137, .int .i64 t138, .bool t139, .slice Ao81 t140.length co81, .int .i64 t143] 25 (0, 0)) (zk BK145.out) hb)
                            have n8_ := Aside0.mk (blk_below (g := gb149) (o := .cells #[.int .u64 t146, .int .u64 t147] 28 (0, 0)) (zk BK149.out) hb)
                            have n9_ := Aside0.mk (below_step (zb HB.out) hb)
                            clear HO_113003
                            clear HO_136003
                            clear HO142
                            clear BK112
                            clear BK119
                            clear BK126
                            clear BK135
                            clear BK145
                            clear BK149
                            clear HB
                            have HO_113003 := n0_
                            have HO_136003 := n1_
                            have HO142 := n2_
                            have BK112 := n3_
                            have BK119 := n4_
                            have BK126 := n5_
                            have BK135 := n6_
                            have BK145 := n7_
                            have BK149 := n8_
                            have HB := n9_
                            clear n0_ n1_ n2_ n3_ n4_ n5_ n6_ n7_ n8_ n9_
                            (try clear hb)
                            (try clear hb2)
                            (try clear hk)
                            (try clear hi)
                            refine hK.out _ _ ⟨(blk_cell BK126.out 0).trans rfl, (blk_cell BK126.out 1).trans rfl, (blk_cell BK149.out 0).trans rfl, (blk_cell BK149.out 1).trans rfl⟩ (fun hHeld => ?_)
                            clear hK K
                            refine norm_ (a' := ?_) ?_ ?_
                            rotate_left
                            · show Act.put _ (some 118) _ = _
                              simp only [Act.put, List.setIfInBounds_toArray, List.set_cons_zero, List.set_cons_succ, i64_w, i32_w]
                              rfl
                            refine pure_ (i := 1) (N := some 119) (v := ?_) (a' := ?_) #[true, true, false, false, false, false, false, false, false, false, false, false, false, false, false, false, false, false, false] rfl rfl (any_of HT_.out (by kernel_rfl)) (fun _ _ _ h => h) (Or.inl ⟨by rfl, ?_⟩) ?_ ?_
                            rotate_left
                            · intro w'
                              go_simp
                              with_reducible rfl
                            rotate_left
                            · simp only [Act.put, List.setIfInBounds_toArray, List.set_cons_zero, List.set_cons_succ, i64_w, i32_w]
                              rfl
                            refine pure_ (i := 2) (N := some 120) (v := ?_) (a' := ?_) #[true, true, true, false, false, false, false, false, false, false, false, false, false, false, false, false, false, false, false] rfl rfl (any_of HT_.out (by kernel_rfl)) (fun _ _ _ h => h) (Or.inl ⟨by rfl, ?_⟩) ?_ ?_
                            rotate_left
                            · intro w'
                              go_simp
                              with_reducible rfl
                            rotate_left
                            · simp only [Act.put, List.setIfInBounds_toArray, List.set_cons_zero, List.set_cons_succ, i64_w, i32_w]
                              rfl
                            refine pure_ (i := 3) (N := some 121) (v := ?_) (a' := ?_) #[true, true, true, true, false, false, false, false, false, false, false, false, false, false, false, false, false, false, false] rfl rfl (any_of HT_.out (by kernel_rfl)) (fun _ _ _ h => h) (Or.inl ⟨by rfl, ?_⟩) ?_ ?_
                            rotate_left
                            · intro w'
                              go_simp
                              with_reducible rfl
                            rotate_left
                            · simp only [Act.put, List.setIfInBounds_toArray, List.set_cons_zero, List.set_cons_succ, i64_w, i32_w]
                              rfl
                            refine pure_ (i := 4) (N := some 122) (v := ?_) (a' := ?_) #[true, true, true, true, true, false, false, false, false, false, false, false, false, false, false, false, false, false, false] rfl rfl (any_of HT_.out (by kernel_rfl)) (fun _ _ _ h => h) (Or.inl ⟨by rfl, ?_⟩) ?_ ?_
                            rotate_left
                            · intro w'
                              go_simp
                              with_reducible rfl
                            rotate_left
                            · simp only [Act.put, List.setIfInBounds_toArray, List.set_cons_zero, List.set_cons_succ, i64_w, i32_w]
                              rfl
                            refine pure_ (i := 5) (N := some 123) (v := ?_) (a' := ?_) #[true, true, true, true, true, true, false, false, false, false, false, false, false, false, false, false, false, false, false] rfl rfl (any_of HT_.out (by kernel_rfl)) (fun _ _ _ h => h) (Or.inl ⟨by rfl, ?_⟩) ?_ ?_
                            rotate_left
                            · intro w'
                              go_simp
                              with_reducible rfl
                            rotate_left
                            · simp only [Act.put, List.setIfInBounds_toArray, List.set_cons_zero, List.set_cons_succ, i64_w, i32_w]
                              rfl
                            refine pure_ (i := 6) (N := some 124) (v := ?_) (a' := ?_) #[true, true, true, true, true, true, true, false, false, false, false, false, false, false, false, false, false, false, false] rfl rfl (any_of HT_.out (by kernel_rfl)) (fun _ _ _ h => h) (Or.inl ⟨by rfl, ?_⟩) ?_ ?_
                            rotate_left
                            · intro w'
                              go_simp
                              with_reducible rfl
                            rotate_left
                            · simp only [Act.put, List.setIfInBounds_toArray, List.set_cons_zero, List.set_cons_succ, i64_w, i32_w]
                              rfl
                            refine pure_ (i := 7) (N := some 125) (v := ?_) (a' := ?_) #[true, true, true, true, true, true, true, true, false, false, false, false, false, false, false, false, false, false, false] rfl rfl (any_of HT_.out (by kernel_rfl)) (fun _ _ _ h => h) (Or.inl ⟨by rfl, ?_⟩) ?_ ?_
                            rotate_left
                            · intro w'
                              go_simp
                              with_reducible rfl
                            rotate_left
                            · simp only [Act.put, List.setIfInBounds_toArray, List.set_cons_zero, List.set_cons_succ, i64_w, i32_w]
                              rfl
                            refine pure_ (i := 11) (N := some 129) (v := ?_) (a' := ?_) #[true, true, true, true, true, true, true, true, false, false, false, true, false, false, false, false, false, false, false] rfl rfl (any_of HT_.out (by kernel_rfl)) (fun _ _ _ h => h) (Or.inl ⟨by rfl, ?_⟩) ?_ ?_
                            rotate_left
                            · intro w'
                              go_simp
                              with_reducible rfl
                            rotate_left
                            · simp only [Act.put, List.setIfInBounds_toArray, List.set_cons_zero, List.set_cons_succ, i64_w, i32_w]
                              rfl
                            refine pure_ (i := 12) (N := some 130) (v := ?_) (a' := ?_) #[true, true, true, true, true, true, true, true, false, false, false, true, true, false, false, false, false, false, false] rfl rfl (any_of HT_.out (by kernel_rfl)) (fun _ _ _ h => h) (Or.inl ⟨by rfl, ?_⟩) ?_ ?_
                            rotate_left
                            · intro w'
                              go_simp
                              with_reducible rfl
                            rotate_left
                            · simp only [Act.put, List.setIfInBounds_toArray, List.set_cons_zero, List.set_cons_succ, i64_w, i32_w]
                              rfl
                            refine take_ (i := 8) (N := some 126) (v := ?_) (a' := ?_) #[true, true, true, true, true, true, true, true, true, false, false, true, true, false, false, false, false, false, false] rfl rfl (take_ofW HT_.out HW_.out (by kernel_rfl)) (fun _ _ _ h => h) (Or.inl ⟨by rfl, ?_⟩) hHeld ?_ ?_
                            rotate_left
                            · rintro w' ⟨s0, s1, s2, s3⟩
                              go_simp
                              with_reducible rfl
                            rotate_left
                            · simp only [Act.put, List.setIfInBounds_toArray, List.set_cons_zero, List.set_cons_succ, i64_w, i32_w]
                              rfl
                            refine take_ (i := 9) (N := some 127) (v := ?_) (a' := ?_) #[true, true, true, true, true, true, true, true, true, true, false, true, true, false, false, false, false, false, false] rfl rfl (take_ofW HT_.out HW_.out (by kernel_rfl)) (fun _ _ _ h => h) (Or.inl ⟨by rfl, ?_⟩) hHeld ?_ ?_
                            rotate_left
                            · rintro w' ⟨s0, s1, s2, s3⟩
                              go_simp
                              with_reducible rfl
                            rotate_left
                            · simp only [Act.put, List.setIfInBounds_toArray, List.set_cons_zero, List.set_cons_succ, i64_w, i32_w]
                              rfl
                            refine pure_ (i := 10) (N := some 128) (v := ?_) (a' := ?_) #[true, true, true, true, true, true, true, true, true, true, true, true, true, false, false, false, false, false, false] rfl rfl (any_of HT_.out (by kernel_rfl)) (fun _ _ _ h => h) (Or.inl ⟨by rfl, ?_⟩) ?_ ?_
                            rotate_left
                            · intro w'
                              go_simp
                              with_reducible rfl
                            rotate_left
                            · simp only [Act.put, List.setIfInBounds_toArray, List.set_cons_zero, List.set_cons_succ, i64_w, i32_w]
                              rfl
                            refine one_ (i := 13) (N := some 131) #[true, true, true, true, true, true, true, true, true, true, true, true, true, true, false, false, false, false, false] rfl rfl (one_of HT_.out (by kernel_rfl)) (by decide) (fun K hK => ?_)
                            refine goes_ Tryd.func24 (by kernel_rfl) rfl #[.slice A3 l3.length c3, .slice A4 l4.length c4] (by rfl) rfl rfl zm ?_
                            with_reducible refine (sorobanref01_Same.calls _ _ l3 _ _ l4 t151 _ ?side1 ?side2 ?side3 ?side4 A73.out).mono ?_
                            (case side1 => repeat (first | exact (Kd.C_below HR3.out HB.out) | (with_reducible refine Kd.C_alloc ?_ _) | (with_reducible refine Kd.C_drewN ?_ _) | (with_reducible refine Kd.C_drew ?_)))
                            (case side2 => exact HC3.out)
                            (case side3 => repeat (first | exact (Kd.C_below HR4.out HB.out) | (with_reducible refine Kd.C_alloc ?_ _) | (with_reducible refine Kd.C_drewN ?_ _) | (with_reducible refine Kd.C_drew ?_)))
                            (case side4 => exact HC4.out)
                            rintro e w93 ⟨rfl, hb⟩
                            refine ⟨_, rfl, ?_⟩
                            have n0_ := Aside0.mk (Kd.R_below (zr HO_113003.out) hb)
                            have n1_ := Aside0.mk (Kd.R_below (zr HO_136003.out) hb)
                            have n2_ := Aside0.mk (Kd.R_below (zr HO142.out) hb)
                            have n3_ := Aside0.mk (blk_below (g := gb112) (o := .cells #[.int .i64 t104, .int .i64 t105, .bool t106, .slice Ao21 t107.length co21, .int .i64 t110] 25 (0, 0)) (zk BK112.out) hb)
                            have n4_ := Aside0.mk (blk_below (g := gb119) (o := .cells #[.int .i64 t113, .int .i64 t114, .int .i64 t115, .int .i64 t116, .int .i64 t117] 57 (0, 0)) (zk BK119.out) hb)
                            have n5_ := Aside0.mk (blk_below (g := gb126) (o := .cells #[.int .u64 t123, .int .u64 t124] 28 (0, 0)) (zk BK126.out) hb)
                            have n6_ := Aside0.mk (blk_below (g := gb135) (o := .cells #[.int .i64 t127, .int .i64 t128, .bool t129, .slice Ao53 t130.length co53, .int .i64 t133] 25 (0, 0)) (zk BK135.out) hb)
                            have n7_ := Aside0.mk (blk_below (g := gb145) (o := .cells #[.int .i64 t137, .int .i64 t138, .bool t139, .slice Ao81 t140.length co81, .int .i64 t143] 25 (0, 0)) (zk BK145.out) hb)
                            have n8_ := Aside0.mk (blk_below (g := gb149) (o := .cells #[.int .u64 t146, .int .u64 t147] 28 (0, 0)) (zk BK149.out) hb)
                            have n9_ := Aside0.mk (below_step (zb HB.out) hb)
                            clear HO_113003
                            clear HO_136003
                            clear HO142
                            clear BK112
                            clear BK119
                            clear BK126
                            clear BK135
                            clear BK145
                            clear BK149
                            clear HB
                            have HO_113003 := n0_
                            have HO_136003 := n1_
                            have HO142 := n2_
                            have BK112 := n3_
                            have BK119 := n4_
                            have BK126 := n5_
                            have BK135 := n6_
                            have BK145 := n7_
                            have BK149 := n8_
                            have HB := n9_
                            clear n0_ n1_ n2_ n3_ n4_ n5_ n6_ n7_ n8_ n9_
                            (try clear hb)
                            (try clear hb2)
                            (try clear hk)
                            (try clear hi)
                            refine hK.out _ _ ⟨(blk_cell BK126.out 0).trans rfl, (blk_cell BK126.out 1).trans rfl, (blk_cell BK149.out 0).trans rfl, (blk_cell BK149.out 1).trans rfl⟩ (fun hHeld => ?_)
                            clear hK K
                            refine norm_ (a' := ?_) ?_ ?_
                            rotate_left
                            · show Act.put _ (some 131) _ = _
                              simp only [Act.put, List.setIfInBounds_toArray, List.set_cons_zero, List.set_cons_succ, i64_w, i32_w]
                              rfl
                            refine pure_ (i := 14) (N := some 132) (v := ?_) (a' := ?_) #[true, true, true, true, true, true, true, true, true, true, true, true, true, true, true, false, false, false, false] rfl rfl (any_of HT_.out (by kernel_rfl)) (fun _ _ _ h => h) (Or.inl ⟨by rfl, ?_⟩) ?_ ?_
                            rotate_left
                            · intro w'
                              go_simp
                              with_reducible rfl
                            rotate_left
                            · simp only [Act.put, List.setIfInBounds_toArray, List.set_cons_zero, List.set_cons_succ, i64_w, i32_w]
                              rfl
                            refine pure_ (i := 15) (N := some 133) (v := ?_) (a' := ?_) #[true, true, true, true, true, true, true, true, true, true, true, true, true, true, true, true, false, false, false] rfl rfl (any_of HT_.out (by kernel_rfl)) (fun _ _ _ h => h) (Or.inl ⟨by rfl, ?_⟩) ?_ ?_
                            rotate_left
                            · intro w'
                              go_simp
                              with_reducible rfl
                            rotate_left
                            · simp only [Act.put, List.setIfInBounds_toArray, List.set_cons_zero, List.set_cons_succ, i64_w, i32_w]
                              rfl
                            refine pure_ (i := 16) (N := some 134) (v := ?_) (a' := ?_) #[true, true, true, true, true, true, true, true, true, true, true, true, true, true, true, true, true, false, false] rfl rfl (any_of HT_.out (by kernel_rfl)) (fun _ _ _ h => h) (Or.inl ⟨by rfl, ?_⟩) ?_ ?_
                            rotate_left
                            · intro w'
                              go_simp
                              with_reducible rfl
                            rotate_left
                            · simp only [Act.put, List.setIfInBounds_toArray, List.set_cons_zero, List.set_cons_succ, i64_w, i32_w]
                              rfl
                            refine pure_ (i := 17) (N := some 135) (v := ?_) (a' := ?_) #[true, true, true, true, true, true, true, true, true, true, true, true, true, true, true, true, true, true, false] rfl rfl (any_of HT_.out (by kernel_rfl)) (fun _ _ _ h => h) (Or.inl ⟨by rfl, ?_⟩) ?_ ?_
                            rotate_left
                            · intro w'
                              go_simp
                              with_reducible rfl
                            rotate_left
                            · simp only [Act.put, List.setIfInBounds_toArray, List.set_cons_zero, List.set_cons_succ, i64_w, i32_w]
                              rfl
                            refine pure_ (i := 18) (N := some 10) (v := ?_) (a' := ?_) #[true, true, true, true, true, true, true, true, true, true, true, true, true, true, true, true, true, true, true] rfl rfl (any_of HT_.out (by kernel_rfl)) (fun _ _ _ h => h) (Or.inl ⟨by rfl, ?_⟩) ?_ ?_
                            rotate_left
                            · intro w'
                              go_simp
                              with_reducible rfl
                            rotate_left
                            · simp only [Act.put, List.setIfInBounds_toArray, List.set_cons_zero, List.set_cons_succ, i64_w, i32_w]
                              rfl
                            refine done_ (done_of HT_.out (by kernel_rfl)) ?_
                            try go_wp2
                            go_ret
                            exact ⟨by first | rfl | (simp [errW_none, errW_some] <;> rfl) | (simp [*, errW_none, errW_some] <;> rfl), by repeat (first | (with_reducible first | exact HB.out | apply below_alloc | apply pw_below_drewN | apply below_drew1 | refine below_set ?_ GE112.out | refine below_set ?_ GE119.out | refine below_set ?_ GE126.out | refine below_set ?_ GE135.out | refine below_set ?_ GE145.out | refine below_set ?_ GE149.out) | exact HB.out)⟩
                          · rw [if_neg c72] at H
                            have c72b0 : (t148 == 0) = false := beq_eq_false_iff_ne.mpr c72
                            have c72b1 : (t148 != 0) = true := bne_iff_ne.mpr c72
                            obtain rfl := Option.some.inj H
                            try go_wp2_with (first | ((with_reducible refine gate_callee (f := 27) rfl ?_); refine goesL_ (some 110) rfl rfl Tryd.func27 (by kernel_rfl) rfl #[.int .i64 t101, .int .i64 x12_8, .bool a2, .slice A4 l4.length c4] rfl zm ?_; (with_reducible refine (binary_Special.calls t101 x12_8 a2 _ _ l4 t137 t138 t139 t140 t143 t144 _ ?side1 ?side2 A67.out).mono ?_); (case side1 => repeat (first | exact (Kd.C_below HR4.out HB.out) | (with_reducible refine Kd.C_alloc ?_ _) | (with_reducible refine Kd.C_drewN ?_ _) | (with_reducible refine Kd.C_drew ?_))); (case side2 => exact HC4.out); rintro e w94 ⟨v141, rfl, ho0, hb⟩; refine ⟨_, rfl, ?_⟩; have n0_ := Aside0.mk (Kd.R_elder' (zr HO_113003.out) (Kd.R_base ho0) hb); have n1_ := Aside0.mk (Kd.R_elder' (zr HO_136003.out) (Kd.R_base ho0) hb); have n2_ := Aside0.mk (Kd.R_lower (Kd.R_new' (Kd.R_new' ho0 (Kd.R_lt (zr HO_113003.out))) (Kd.R_lt (zr HO_136003.out))) (below_size (zb HB.out))); have n3_ := Aside0.mk (blk_below (g := gb112) (o := .cells #[.int .i64 t104, .int .i64 t105, .bool t106, .slice Ao21 t107.length co21, .int .i64 t110] 25 (0, 0)) (zk BK112.out) hb); have n4_ := Aside0.mk (blk_below (g := gb119) (o := .cells #[.int .i64 t113, .int .i64 t114, .int .i64 t115, .int .i64 t116, .int .i64 t117] 57 (0, 0)) (zk BK119.out) hb); have n5_ := Aside0.mk (blk_below (g := gb126) (o := .cells #[.int .u64 t123, .int .u64 t124] 28 (0, 0)) (zk BK126.out) hb); have n6_ := Aside0.mk (blk_below (g := gb135) (o := .cells #[.int .i64 t127, .int .i64 t128, .bool t129, .slice Ao53 t130.length co53, .int .i64 t133] 25 (0, 0)) (zk BK135.out) hb); have n7_ := Aside0.mk (below_step (zb HB.out) hb); clear HO_113003; clear HO_136003; clear BK112; clear BK119; clear BK126; clear BK135; clear HB; have HO_113003 := n0_; have HO_136003 := n1_; have HO142 := n2_; have BK112 := n3_; have BK119 := n4_; have BK126 := n5_; have BK135 := n6_; have HB := n7_; clear n0_ n1_ n2_ n3_ n4_ n5_ n6_ n7_; (try clear hb); (try clear hb2); (try clear hk); (try clear hi); (try clear ho0)) | ((with_reducible refine gate_dst (N := 23) rfl ?_); refine box_event ?hg (N := 23) ?hd (cs := #[.int .i64 0, .int .i64 0, .bool false, .slice none 0 0, .int .i64 0]) (t := 25) ?hr ?_; (case hd => rfl); (case hg => rfl); (case hr => first | (go_simp; done) | (go_simp; rfl)); intro gb145 hg w95 hbox hb; have n0_ := Aside0.mk (Kd.R_below (zr HO_113003.out) hb); have n1_ := Aside0.mk (Kd.R_below (zr HO_136003.out) hb); have n2_ := Aside0.mk (Kd.R_below (zr HO142.out) hb); have n3_ := Aside0.mk (blk_below (g := gb112) (o := .cells #[.int .i64 t104, .int .i64 t105, .bool t106, .slice Ao21 t107.length co21, .int .i64 t110] 25 (0, 0)) (zk BK112.out) hb); have n4_ := Aside0.mk (blk_below (g := gb119) (o := .cells #[.int .i64 t113, .int .i64 t114, .int .i64 t115, .int .i64 t116, .int .i64 t117] 57 (0, 0)) (zk BK119.out) hb); have n5_ := Aside0.mk (blk_below (g := gb126) (o := .cells #[.int .u64 t123, .int .u64 t124] 28 (0, 0)) (zk BK126.out) hb); have n6_ := Aside0.mk (blk_below (g := gb135) (o := .cells #[.int .i64 t127, .int .i64 t128, .bool t129, .slice Ao53 t130.length co53, .int .i64 t133] 25 (0, 0)) (zk BK135.out) hb); have n7_ := Aside0.mk (below_step (zb HB.out) hb); have n8_ := Aside0.mk (hbox); have n9_ := Aside0.mk ((by rw [hg]; exact (below_size (zb HB.out)) : w.heap.size ≤ gb145)); have n10_ := Aside0.mk ((by rw [hg]; exact (below_size (zb HB.out)) : w.heap.size ≤ gb145)); have n11_ := Aside0.mk ((by rw [hg]; exact Nat.ne_of_lt (blk_lt (g := gb112) (o := .cells #[.int .i64 t104, .int .i64 t105, .bool t106, .slice Ao21 t107.length co21, .int .i64 t110] 25 (0, 0)) (zk BK112.out)) : gb112 ≠ gb145)); have n12_ := Aside0.mk ((by rw [hg]; exact Nat.ne_of_gt (blk_lt (g := gb112) (o := .cells #[.int .i64 t104, .int .i64 t105, .bool t106, .slice Ao21 t107.length co21, .int .i64 t110] 25 (0, 0)) (zk BK112.out)) : gb145 ≠ gb112)); have n13_ := Aside0.mk ((by rw [hg]; exact Nat.ne_of_lt (blk_lt (g := gb119) (o := .cells #[.int .i64 t113, .int .i64 t114, .int .i64 t115, .int .i64 t116, .int .i64 t117] 57 (0, 0)) (zk BK119.out)) : gb119 ≠ gb145)); have n14_ := Aside0.mk ((by rw [hg]; exact Nat.ne_of_gt (blk_lt (g := gb119) (o := .cells #[.int .i64 t113, .int .i64 t114, .int .i64 t115, .int .i64 t116, .int .i64 t117] 57 (0, 0)) (zk BK119.out)) : gb145 ≠ gb119)); have n15_ := Aside0.mk ((by rw [hg]; exact Nat.ne_of_lt (blk_lt (g := gb126) (o := .cells #[.int .u64 t123, .int .u64 t124] 28 (0, 0)) (zk BK126.out)) : gb126 ≠ gb145)); have n16_ := Aside0.mk ((by rw [hg]; exact Nat.ne_of_gt (blk_lt (g := gb126) (o := .cells #[.int .u64 t123, .int .u64 t124] 28 (0, 0)) (zk BK126.out)) : gb145 ≠ gb126)); have n17_ := Aside0.mk ((by rw [hg]; exact Nat.ne_of_lt (blk_lt (g := gb135) (o := .cells #[.int .i64 t127, .int .i64 t128, .bool t129, .slice Ao53 t130.length co53, .int .i64 t133] 25 (0, 0)) (zk BK135.out)) : gb135 ≠ gb145)); have n18_ := Aside0.mk ((by rw [hg]; exact Nat.ne_of_gt (blk_lt (g := gb135) (o := .cells #[.int .i64 t127, .int .i64 t128, .bool t129, .slice Ao53 t130.length co53, .int .i64 t133] 25 (0, 0)) (zk BK135.out)) : gb145 ≠ gb135)); clear HO_113003; clear HO_136003; clear HO142; clear BK112; clear BK119; clear BK126; clear BK135; clear HB; have HO_113003 := n0_; have HO_136003 := n1_; have HO142 := n2_; have BK112 := n3_; have BK119 := n4_; have BK126 := n5_; have BK135 := n6_; have HB := n7_; have BK145 := n8_; have GW145 := n9_; have GE145 := n10_; have NB112_145 := n11_; have NB145_112 := n12_; have NB119_145 := n13_; have NB145_119 := n14_; have NB126_145 := n15_; have NB145_126 := n16_; have NB135_145 := n17_; have NB145_135 := n18_; clear n0_ n1_ n2_ n3_ n4_ n5_ n6_ n7_ n8_ n9_ n10_ n11_ n12_ n13_ n14_ n15_ n16_ n17_ n18_; clear hb hbox hg; have hnb96 := NB145_112.out; have hnc96 := NB112_145.out; have hnb97 := NB145_119.out; have hnc97 := NB119_145.out; have hnb98 := NB145_126.out; have hnc98 := NB126_145.out; have hnb99 := NB145_135.out; have hnc99 := NB135_145.out; have hcz100_0 : w95.cell? ⟨gb145, 0, none⟩ = some (.int .i64 0) := (blk_cell BK145.out 0).trans rfl; have hcz100_1 : w95.cell? ⟨gb145, 1, none⟩ = some (.int .i64 0) := (blk_cell BK145.out 1).trans rfl; have hcz100_2 : w95.cell? ⟨gb145, 2, none⟩ = some (.bool false) := (blk_cell BK145.out 2).trans rfl; have hcz100_3 : w95.cell? ⟨gb145, 3, none⟩ = some (.slice none 0 0) := (blk_cell BK145.out 3).trans rfl; have hcz100_4 : w95.cell? ⟨gb145, 4, none⟩ = some (.int .i64 0) := (blk_cell BK145.out 4).trans rfl; have hfz100_0 := blk_frozen BK145.out 0; have hfz100_1 := blk_frozen BK145.out 1; have hfz100_2 := blk_frozen BK145.out 2; have hfz100_3 := blk_frozen BK145.out 3; have hfz100_4 := blk_frozen BK145.out 4; obtain ⟨Ao101, co101, eo101⟩ := Kd.R_slice HO142.out; subst eo101) | ((with_reducible refine gate_callee (f := 12) rfl ?_); refine goesL_ (some 115) rfl rfl Tryd.func12 (by kernel_rfl) rfl #[.agg #[.int .i64 t137, .int .i64 t138, .bool t139, .slice Ao101 t140.length co101, .int .i64 t143]] rfl zm ?_; (with_reducible refine (binary_Encode.calls t137 t138 t139 _ _ t140 t143 t146 t147 t148 _ ?side1 ?side2 A68.out).mono ?_); (case side1 => refine (Kd.R_reads' (e := 77) (base := w.heap.size) (ok := fun k_ => ((True ∧ some k_ ≠ (.slice Ao21 t107.length co21 : Value).ownBlock) ∧ some k_ ≠ (.slice Ao53 t130.length co53 : Value).ownBlock)) (n := t140.length) (c := co101) ?_).2.2; exact (by (with_reducible repeat (first | apply Kd.R_alloc | apply Kd.R_drewN | apply Kd.R_drew)); exact (Kd.R_mono (Kd.R_far (p := ⟨gb145, 4, none⟩) (Kd.R_far (p := ⟨gb145, 3, none⟩) (Kd.R_far (p := ⟨gb145, 2, none⟩) (Kd.R_far (p := ⟨gb145, 1, none⟩) (Kd.R_far (p := ⟨gb145, 0, none⟩) (Kd.R_types HO142.out BK145.out (by decide)) (fun _ hk => hk.2) (.int .i64 t137)) (fun _ hk => hk.2) (.int .i64 t138)) (fun _ hk => hk.2) (.bool t139)) (fun _ hk => hk.2) (.slice Ao101 t140.length co101)) (fun _ hk => hk.2) (.int .i64 t143)) (fun _ h_ => h_.1)))); (case side2 => exact (Kd.R_reads' HO142.out).2.1); rintro e w102 ⟨rfl, hb⟩; refine ⟨_, rfl, ?_⟩; have n0_ := Aside0.mk (Kd.R_below (by (with_reducible repeat (first | apply Kd.R_alloc | apply Kd.R_drewN | apply Kd.R_drew)); exact (Kd.R_mono (Kd.R_far (p := ⟨gb145, 4, none⟩) (Kd.R_far (p := ⟨gb145, 3, none⟩) (Kd.R_far (p := ⟨gb145, 2, none⟩) (Kd.R_far (p := ⟨gb145, 1, none⟩) (Kd.R_far (p := ⟨gb145, 0, none⟩) (Kd.R_types HO_113003.out BK145.out (by decide)) (fun _ hk => hk.2) (.int .i64 t137)) (fun _ hk => hk.2) (.int .i64 t138)) (fun _ hk => hk.2) (.bool t139)) (fun _ hk => hk.2) (.slice Ao101 t140.length co101)) (fun _ hk => hk.2) (.int .i64 t143)) (fun _ h_ => h_.1))) hb); have n1_ := Aside0.mk (Kd.R_below (by (with_reducible repeat (first | apply Kd.R_alloc | apply Kd.R_drewN | apply Kd.R_drew)); exact (Kd.R_mono (Kd.R_far (p := ⟨gb145, 4, none⟩) (Kd.R_far (p := ⟨gb145, 3, none⟩) (Kd.R_far (p := ⟨gb145, 2, none⟩) (Kd.R_far (p := ⟨gb145, 1, none⟩) (Kd.R_far (p := ⟨gb145, 0, none⟩) (Kd.R_types HO_136003.out BK145.out (by decide)) (fun _ hk => hk.2) (.int .i64 t137)) (fun _ hk => hk.2) (.int .i64 t138)) (fun _ hk => hk.2) (.bool t139)) (fun _ hk => hk.2) (.slice Ao101 t140.length co101)) (fun _ hk => hk.2) (.int .i64 t143)) (fun _ h_ => h_.1))) hb); have n2_ := Aside0.mk (Kd.R_below (by (with_reducible repeat (first | apply Kd.R_alloc | apply Kd.R_drewN | apply Kd.R_drew)); exact (Kd.R_mono (Kd.R_far (p := ⟨gb145, 4, none⟩) (Kd.R_far (p := ⟨gb145, 3, none⟩) (Kd.R_far (p := ⟨gb145, 2, none⟩) (Kd.R_far (p := ⟨gb145, 1, none⟩) (Kd.R_far (p := ⟨gb145, 0, none⟩) (Kd.R_types HO142.out BK145.out (by decide)) (fun _ hk => hk.2) (.int .i64 t137)) (fun _ hk => hk.2) (.int .i64 t138)) (fun _ hk => hk.2) (.bool t139)) (fun _ hk => hk.2) (.slice Ao101 t140.length co101)) (fun _ hk => hk.2) (.int .i64 t143)) (fun _ h_ => h_.1))) hb); have n3_ := Aside0.mk (blk_below (g := gb112) (o := .cells #[.int .i64 t104, .int .i64 t105, .bool t106, .slice Ao21 t107.length co21, .int .i64 t110] 25 (0, 0)) (by (with_reducible repeat (first | refine blk_drewN ?_ _ | refine blk_drew ?_ | refine blk_alloc ?_ _)); refine blk_far ?_ NB112_145.out _; (with_reducible repeat (first | refine blk_drewN ?_ _ | refine blk_drew ?_ | refine blk_alloc ?_ _)); refine blk_far ?_ NB112_145.out _; (with_reducible repeat (first | refine blk_drewN ?_ _ | refine blk_drew ?_ | refine blk_alloc ?_ _)); refine blk_far ?_ NB112_145.out _; (with_reducible repeat (first | refine blk_drewN ?_ _ | refine blk_drew ?_ | refine blk_alloc ?_ _)); refine blk_far ?_ NB112_145.out _; (with_reducible repeat (first | refine blk_drewN ?_ _ | refine blk_drew ?_ | refine blk_alloc ?_ _)); refine blk_far ?_ NB112_145.out _; (with_reducible repeat (first | refine blk_drewN ?_ _ | refine blk_drew ?_ | refine blk_alloc ?_ _)); exact BK112.out) hb); have n4_ := Aside0.mk (blk_below (g := gb119) (o := .cells #[.int .i64 t113, .int .i64 t114, .int .i64 t115, .int .i64 t116, .int .i64 t117] 57 (0, 0)) (by (with_reducible repeat (first | refine blk_drewN ?_ _ | refine blk_drew ?_ | refine blk_alloc ?_ _)); refine blk_far ?_ NB119_145.out _; (with_reducible repeat (first | refine blk_drewN ?_ _ | refine blk_drew ?_ | refine blk_alloc ?_ _)); refine blk_far ?_ NB119_145.out _; (with_reducible repeat (first | refine blk_drewN ?_ _ | refine blk_drew ?_ | refine blk_alloc ?_ _)); refine blk_far ?_ NB119_145.out _; (with_reducible repeat (first | refine blk_drewN ?_ _ | refine blk_drew ?_ | refine blk_alloc ?_ _)); refine blk_far ?_ NB119_145.out _; (with_reducible repeat (first | refine blk_drewN ?_ _ | refine blk_drew ?_ | refine blk_alloc ?_ _)); refine blk_far ?_ NB119_145.out _; (with_reducible repeat (first | refine blk_drewN ?_ _ | refine blk_drew ?_ | refine blk_alloc ?_ _)); exact BK119.out) hb); have n5_ := Aside0.mk (blk_below (g := gb126) (o := .cells #[.int .u64 t123, .int .u64 t124] 28 (0, 0)) (by (with_reducible repeat (first | refine blk_drewN ?_ _ | refine blk_drew ?_ | refine blk_alloc ?_ _)); refine blk_far ?_ NB126_145.out _; (with_reducible repeat (first | refine blk_drewN ?_ _ | refine blk_drew ?_ | refine blk_alloc ?_ _)); refine blk_far ?_ NB126_145.out _; (with_reducible repeat (first | refine blk_drewN ?_ _ | refine blk_drew ?_ | refine blk_alloc ?_ _)); refine blk_far ?_ NB126_145.out _; (with_reducible repeat (first | refine blk_drewN ?_ _ | refine blk_drew ?_ | refine blk_alloc ?_ _)); refine blk_far ?_ NB126_145.out _; (with_reducible repeat (first | refine blk_drewN ?_ _ | refine blk_drew ?_ | refine blk_alloc ?_ _)); refine blk_far ?_ NB126_145.out _; (with_reducible repeat (first | refine blk_drewN ?_ _ | refine blk_drew ?_ | refine blk_alloc ?_ _)); exact BK126.out) hb); have n6_ := Aside0.mk (blk_below (g := gb135) (o := .cells #[.int .i64 t127, .int .i64 t128, .bool t129, .slice Ao53 t130.length co53, .int .i64 t133] 25 (0, 0)) (by (with_reducible repeat (first | refine blk_drewN ?_ _ | refine blk_drew ?_ | refine blk_alloc ?_ _)); refine blk_far ?_ NB135_145.out _; (with_reducible repeat (first | refine blk_drewN ?_ _ | refine blk_drew ?_ | refine blk_alloc ?_ _)); refine blk_far ?_ NB135_145.out _; (with_reducible repeat (first | refine blk_drewN ?_ _ | refine blk_drew ?_ | refine blk_alloc ?_ _)); refine blk_far ?_ NB135_145.out _; (with_reducible repeat (first | refine blk_drewN ?_ _ | refine blk_drew ?_ | refine blk_alloc ?_ _)); refine blk_far ?_ NB135_145.out _; (with_reducible repeat (first | refine blk_drewN ?_ _ | refine blk_drew ?_ | refine blk_alloc ?_ _)); refine blk_far ?_ NB135_145.out _; (with_reducible repeat (first | refine blk_drewN ?_ _ | refine blk_drew ?_ | refine blk_alloc ?_ _)); exact BK135.out) hb); have n7_ := Aside0.mk (blk_below (g := gb145) (o := .cells #[.int .i64 t137, .int .i64 t138, .bool t139, .slice Ao101 t140.length co101, .int .i64 t143] 25 (0, 0)) (by (with_reducible repeat (first | refine blk_drewN ?_ _ | refine blk_drew ?_ | refine blk_alloc ?_ _)); refine blk_put (cs := #[.int .i64 t137, .int .i64 t138, .bool t139, .slice Ao101 t140.length co101, .int .i64 0]) ?_ 4 _ rfl; (with_reducible repeat (first | refine blk_drewN ?_ _ | refine blk_drew ?_ | refine blk_alloc ?_ _)); refine blk_put (cs := #[.int .i64 t137, .int .i64 t138, .bool t139, .slice none 0 0, .int .i64 0]) ?_ 3 _ rfl; (with_reducible repeat (first | refine blk_drewN ?_ _ | refine blk_drew ?_ | refine blk_alloc ?_ _)); refine blk_put (cs := #[.int .i64 t137, .int .i64 t138, .bool false, .slice none 0 0, .int .i64 0]) ?_ 2 _ rfl; (with_reducible repeat (first | refine blk_drewN ?_ _ | refine blk_drew ?_ | refine blk_alloc ?_ _)); refine blk_put (cs := #[.int .i64 t137, .int .i64 0, .bool false, .slice none 0 0, .int .i64 0]) ?_ 1 _ rfl; (with_reducible repeat (first | refine blk_drewN ?_ _ | refine blk_drew ?_ | refine blk_alloc ?_ _)); refine blk_put (cs := #[.int .i64 0, .int .i64 0, .bool false, .slice none 0 0, .int .i64 0]) ?_ 0 _ rfl; (with_reducible repeat (first | refine blk_drewN ?_ _ | refine blk_drew ?_ | refine blk_alloc ?_ _)); exact BK145.out) hb); have n8_ := Aside0.mk (below_step (zb HB.out) hb); clear HO_113003; clear HO_136003; clear HO142; clear BK112; clear BK119; clear BK126; clear BK135; clear BK145; clear HB; have HO_113003 := n0_; have HO_136003 := n1_; have HO142 := n2_; have BK112 := n3_; have BK119 := n4_; have BK126 := n5_; have BK135 := n6_; have BK145 := n7_; have HB := n8_; clear n0_ n1_ n2_ n3_ n4_ n5_ n6_ n7_ n8_; (try clear hb); (try clear hb2); (try clear hk); (try clear hi)) | ((with_reducible refine gate_dst (N := 24) rfl ?_); refine box_event ?hg (N := 24) ?hd (cs := #[.int .u64 0, .int .u64 0]) (t := 28) ?hr ?_; (case hd => rfl); (case hg => rfl); (case hr => first | (go_simp; done) | (go_simp; rfl)); intro gb149 hg w103 hbox hb; have n0_ := Aside0.mk (Kd.R_below (zr HO_113003.out) hb); have n1_ := Aside0.mk (Kd.R_below (zr HO_136003.out) hb); have n2_ := Aside0.mk (Kd.R_below (zr HO142.out) hb); have n3_ := Aside0.mk (blk_below (g := gb112) (o := .cells #[.int .i64 t104, .int .i64 t105, .bool t106, .slice Ao21 t107.length co21, .int .i64 t110] 25 (0, 0)) (zk BK112.out) hb); have n4_ := Aside0.mk (blk_below (g := gb119) (o := .cells #[.int .i64 t113, .int .i64 t114, .int .i64 t115, .int .i64 t116, .int .i64 t117] 57 (0, 0)) (zk BK119.out) hb); have n5_ := Aside0.mk (blk_below (g := gb126) (o := .cells #[.int .u64 t123, .int .u64 t124] 28 (0, 0)) (zk BK126.out) hb); have n6_ := Aside0.mk (blk_below (g := gb135) (o := .cells #[.int .i64 t127, .int .i64 t128, .bool t129, .slice Ao53 t130.length co53, .int .i64 t133] 25 (0, 0)) (zk BK135.out) hb); have n7_ := Aside0.mk (blk_below (g := gb145) (o := .cells #[.int .i64 t137, .int .i64 t138, .bool t139, .slice Ao101 t140.length co101, .int .i64 t143] 25 (0, 0)) (zk BK145.out) hb); have n8_ := Aside0.mk (below_step (zb HB.out) hb); have n9_ := Aside0.mk (hbox); have n10_ := Aside0.mk ((by rw [hg]; exact (below_size (zb HB.out)) : w.heap.size ≤ gb149)); have n11_ := Aside0.mk ((by rw [hg]; exact (below_size (zb HB.out)) : w.heap.size ≤ gb149)); have n12_ := Aside0.mk ((by rw [hg]; exact Nat.ne_of_lt (blk_lt (g := gb112) (o := .cells #[.int .i64 t104, .int .i64 t105, .bool t106, .slice Ao21 t107.length co21, .int .i64 t110] 25 (0, 0)) (zk BK112.out)) : gb112 ≠ gb149)); have n13_ := Aside0.mk ((by rw [hg]; exact Nat.ne_of_gt (blk_lt (g := gb112) (o := .cells #[.int .i64 t104, .int .i64 t105, .bool t106, .slice Ao21 t107.length co21, .int .i64 t110] 25 (0, 0)) (zk BK112.out)) : gb149 ≠ gb112)); have n14_ := Aside0.mk ((by rw [hg]; exact Nat.ne_of_lt (blk_lt (g := gb119) (o := .cells #[.int .i64 t113, .int .i64 t114, .int .i64 t115, .int .i64 t116, .int .i64 t117] 57 (0, 0)) (zk BK119.out)) : gb119 ≠ gb149)); have n15_ := Aside0.mk ((by rw [hg]; exact Nat.ne_of_gt (blk_lt (g := gb119) (o := .cells #[.int .i64 t113, .int .i64 t114, .int .i64 t115, .int .i64 t116, .int .i64 t117] 57 (0, 0)) (zk BK119.out)) : gb149 ≠ gb119)); have n16_ := Aside0.mk ((by rw [hg]; exact Nat.ne_of_lt (blk_lt (g := gb126) (o := .cells #[.int .u64 t123, .int .u64 t124] 28 (0, 0)) (zk BK126.out)) : gb126 ≠ gb149)); have n17_ := Aside0.mk ((by rw [hg]; exact Nat.ne_of_gt (blk_lt (g := gb126) (o := .cells #[.int .u64 t123, .int .u64 t124] 28 (0, 0)) (zk BK126.out)) : gb149 ≠ gb126)); have n18_ := Aside0.mk ((by rw [hg]; exact Nat.ne_of_lt (blk_lt (g := gb135) (o := .cells #[.int .i64 t127, .int .i64 t128, .bool t129, .slice Ao53 t130.length co53, .int .i64 t133] 25 (0, 0)) (zk BK135.out)) : gb135 ≠ gb149)); have n19_ := Aside0.mk ((by rw [hg]; exact Nat.ne_of_gt (blk_lt (g := gb135) (o := .cells #[.int .i64 t127, .int .i64 t128, .bool t129, .slice Ao53 t130.length co53, .int .i64 t133] 25 (0, 0)) (zk BK135.out)) : gb149 ≠ gb135)); have n20_ := Aside0.mk ((by rw [hg]; exact Nat.ne_of_lt (blk_lt (g := gb145) (o := .cells #[.int .i64 t137, .int .i64 t138, .bool t139, .slice Ao101 t140.length co101, .int .i64 t143] 25 (0, 0)) (zk BK145.out)) : gb145 ≠ gb149)); have n21_ := Aside0.mk ((by rw [hg]; exact Nat.ne_of_gt (blk_lt (g := gb145) (o := .cells #[.int .i64 t137, .int .i64 t138, .bool t139, .slice Ao101 t140.length co101, .int .i64 t143] 25 (0, 0)) (zk BK145.out)) : gb149 ≠ gb145)); clear HO_113003; clear HO_136003; clear HO142; clear BK112; clear BK119; clear BK126; clear BK135; clear BK145; clear HB; have HO_113003 := n0_; have HO_136003 := n1_; have HO142 := n2_; have BK112 := n3_; have BK119 := n4_; have BK126 := n5_; have BK135 := n6_; have BK145 := n7_; have HB := n8_; have BK149 := n9_; have GW149 := n10_; have GE149 := n11_; have NB112_149 := n12_; have NB149_112 := n13_; have NB119_149 := n14_; have NB149_119 := n15_; have NB126_149 := n16_; have NB149_126 := n17_; have NB135_149 := n18_; have NB149_135 := n19_; have NB145_149 := n20_; have NB149_145 := n21_; clear n0_ n1_ n2_ n3_ n4_ n5_ n6_ n7_ n8_ n9_ n10_ n11_ n12_ n13_ n14_ n15_ n16_ n17_ n18_ n19_ n20_ n21_; clear hb hbox hg; have hnb104 := NB149_112.out; have hnc104 := NB112_149.out; have hnb105 := NB149_119.out; have hnc105 := NB119_149.out; have hnb106 := NB149_126.out; have hnc106 := NB126_149.out; have hnb107 := NB149_135.out; have hnc107 := NB135_149.out; have hnb108 := NB149_145.out; have hnc108 := NB145_149.out; have hcz109_0 : w103.cell? ⟨gb149, 0, none⟩ = some (.int .u64 0) := (blk_cell BK149.out 0).trans rfl; have hcz109_1 : w103.cell? ⟨gb149, 1, none⟩ = some (.int .u64 0) := (blk_cell BK149.out 1).trans rfl; have hfz109_0 := blk_frozen BK149.out 0; have hfz109_1 := blk_frozen BK149.out 1))
                            have n0_ : Aside0 (Kd.R (Kd.int .u32) 77 ((w103.setCell ⟨gb149, 0, none⟩ (.int .u64 t146)).setCell ⟨gb149, 1, none⟩ (.int .u64 t147)) w.heap.size (fun k_ => some k_ ≠ (.slice Ao53 t130.length co53 : Value).ownBlock ∧ some k_ ≠ (.slice Ao101 t140.length co101 : Value).ownBlock) (.slice Ao21 t107.length co21) t107) := ⟨by (with_reducible repeat (first | apply Kd.R_alloc | apply Kd.R_drewN | apply Kd.R_drew)); exact Kd.R_mono (Kd.R_far (p := ⟨gb149, 1, none⟩) (Kd.R_far (p := ⟨gb149, 0, none⟩) (Kd.R_types HO_113003.out BK149.out (by decide)) (fun _ hk => hk.2) (.int .u64 t146)) (fun _ hk => hk.2) (.int .u64 t147)) (fun _ hk => ⟨hk.1.1, hk.1.2⟩)⟩
                            have n1_ : Aside0 (Kd.R (Kd.int .u32) 77 ((w103.setCell ⟨gb149, 0, none⟩ (.int .u64 t146)).setCell ⟨gb149, 1, none⟩ (.int .u64 t147)) w.heap.size (fun k_ => some k_ ≠ (.slice Ao21 t107.length co21 : Value).ownBlock ∧ some k_ ≠ (.slice Ao101 t140.length co101 : Value).ownBlock) (.slice Ao53 t130.length co53) t130) := ⟨by (with_reducible repeat (first | apply Kd.R_alloc | apply Kd.R_drewN | apply Kd.R_drew)); exact Kd.R_mono (Kd.R_far (p := ⟨gb149, 1, none⟩) (Kd.R_far (p := ⟨gb149, 0, none⟩) (Kd.R_types HO_136003.out BK149.out (by decide)) (fun _ hk => hk.2) (.int .u64 t146)) (fun _ hk => hk.2) (.int .u64 t147)) (fun _ hk => ⟨hk.1.1, hk.1.2⟩)⟩
                            have n2_ : Aside0 (Kd.R (Kd.int .u32) 77 ((w103.setCell ⟨gb149, 0, none⟩ (.int .u64 t146)).setCell ⟨gb149, 1, none⟩ (.int .u64 t147)) w.heap.size (fun k_ => some k_ ≠ (.slice Ao21 t107.length co21 : Value).ownBlock ∧ some k_ ≠ (.slice Ao53 t130.length co53 : Value).ownBlock) (.slice Ao101 t140.length co101) t140) := ⟨by (with_reducible repeat (first | apply Kd.R_alloc | apply Kd.R_drewN | apply Kd.R_drew)); exact Kd.R_mono (Kd.R_far (p := ⟨gb149, 1, none⟩) (Kd.R_far (p := ⟨gb149, 0, none⟩) (Kd.R_types HO142.out BK149.out (by decide)) (fun _ hk => hk.2) (.int .u64 t146)) (fun _ hk => hk.2) (.int .u64 t147)) (fun _ hk => ⟨hk.1.1.2, hk.1.2⟩)⟩
                            have n3_ : Aside0 (((w103.setCell ⟨gb149, 0, none⟩ (.int .u64 t146)).setCell ⟨gb149, 1, none⟩ (.int .u64 t147)).heap[gb112]? = some (.cells #[.int .i64 t104, .int .i64 t105, .bool t106, .slice Ao21 t107.length co21, .int .i64 t110] 25 (0, 0))) := ⟨by (with_reducible repeat (first | refine blk_drewN ?_ _ | refine blk_drew ?_ | refine blk_alloc ?_ _)); refine blk_far ?_ NB112_149.out _; (with_reducible repeat (first | refine blk_drewN ?_ _ | refine blk_drew ?_ | refine blk_alloc ?_ _)); refine blk_far ?_ NB112_149.out _; (with_reducible repeat (first | refine blk_drewN ?_ _ | refine blk_drew ?_ | refine blk_alloc ?_ _)); exact BK112.out⟩
                            have n4_ : Aside0 (((w103.setCell ⟨gb149, 0, none⟩ (.int .u64 t146)).setCell ⟨gb149, 1, none⟩ (.int .u64 t147)).heap[gb119]? = some (.cells #[.int .i64 t113, .int .i64 t114, .int .i64 t115, .int .i64 t116, .int .i64 t117] 57 (0, 0))) := ⟨by (with_reducible repeat (first | refine blk_drewN ?_ _ | refine blk_drew ?_ | refine blk_alloc ?_ _)); refine blk_far ?_ NB119_149.out _; (with_reducible repeat (first | refine blk_drewN ?_ _ | refine blk_drew ?_ | refine blk_alloc ?_ _)); refine blk_far ?_ NB119_149.out _; (with_reducible repeat (first | refine blk_drewN ?_ _ | refine blk_drew ?_ | refine blk_alloc ?_ _)); exact BK119.out⟩
                            have n5_ : Aside0 (((w103.setCell ⟨gb149, 0, none⟩ (.int .u64 t146)).setCell ⟨gb149, 1, none⟩ (.int .u64 t147)).heap[gb126]? = some (.cells #[.int .u64 t123, .int .u64 t124] 28 (0, 0))) := ⟨by (with_reducible repeat (first | refine blk_drewN ?_ _ | refine blk_drew ?_ | refine blk_alloc ?_ _)); refine blk_far ?_ NB126_149.out _; (with_reducible repeat (first | refine blk_drewN ?_ _ | refine blk_drew ?_ | refine blk_alloc ?_ _)); refine blk_far ?_ NB126_149.out _; (with_reducible repeat (first | refine blk_drewN ?_ _ | refine blk_drew ?_ | refine blk_alloc ?_ _)); exact BK126.out⟩
                            have n6_ : Aside0 (((w103.setCell ⟨gb149, 0, none⟩ (.int .u64 t146)).setCell ⟨gb149, 1, none⟩ (.int .u64 t147)).heap[gb135]? = some (.cells #[.int .i64 t127, .int .i64 t128, .bool t129, .slice Ao53 t130.length co53, .int .i64 t133] 25 (0, 0))) := ⟨by (with_reducible repeat (first | refine blk_drewN ?_ _ | refine blk_drew ?_ | refine blk_alloc ?_ _)); refine blk_far ?_ NB135_149.out _; (with_reducible repeat (first | refine blk_drewN ?_ _ | refine blk_drew ?_ | refine blk_alloc ?_ _)); refine blk_far ?_ NB135_149.out _; (with_reducible repeat (first | refine blk_drewN ?_ _ | refine blk_drew ?_ | refine blk_alloc ?_ _)); exact BK135.out⟩
                            have n7_ : Aside0 (((w103.setCell ⟨gb149, 0, none⟩ (.int .u64 t146)).setCell ⟨gb149, 1, none⟩ (.int .u64 t147)).heap[gb145]? = some (.cells #[.int .i64 t137, .int .i64 t138, .bool t139, .slice Ao101 t140.length co101, .int .i64 t143] 25 (0, 0))) := ⟨by (with_reducible repeat (first | refine blk_drewN ?_ _ | refine blk_drew ?_ | refine blk_alloc ?_ _)); refine blk_far ?_ NB145_149.out _; (with_reducible repeat (first | refine blk_drewN ?_ _ | refine blk_drew ?_ | refine blk_alloc ?_ _)); refine blk_far ?_ NB145_149.out _; (with_reducible repeat (first | refine blk_drewN ?_ _ | refine blk_drew ?_ | refine blk_alloc ?_ _)); exact BK145.out⟩
                            have n8_ : Aside0 (((w103.setCell ⟨gb149, 0, none⟩ (.int .u64 t146)).setCell ⟨gb149, 1, none⟩ (.int .u64 t147)).heap[gb149]? = some (.cells #[.int .u64 t146, .int .u64 t147] 28 (0, 0))) := ⟨by (with_reducible repeat (first | refine blk_drewN ?_ _ | refine blk_drew ?_ | refine blk_alloc ?_ _)); refine blk_put (cs := #[.int .u64 t146, .int .u64 0]) ?_ 1 _ rfl; (with_reducible repeat (first | refine blk_drewN ?_ _ | refine blk_drew ?_ | refine blk_alloc ?_ _)); refine blk_put (cs := #[.int .u64 0, .int .u64 0]) ?_ 0 _ rfl; (with_reducible repeat (first | refine blk_drewN ?_ _ | refine blk_drew ?_ | refine blk_alloc ?_ _)); exact BK149.out⟩
                            have n9_ : Aside0 (Below w.heap.size w ((w103.setCell ⟨gb149, 0, none⟩ (.int .u64 t146)).setCell ⟨gb149, 1, none⟩ (.int .u64 t147))) := ⟨zb HB.out⟩
                            (try clear HO_113003)
                            (try clear HO_136003)
                            (try clear HO142)
                            (try clear BK112)
                            (try clear BK119)
                            (try clear BK126)
                            (try clear BK135)
                            (try clear BK145)
                            (try clear BK149)
                            (try clear HB)
                            generalize ((w103.setCell ⟨gb149, 0, none⟩ (.int .u64 t146)).setCell ⟨gb149, 1, none⟩ (.int .u64 t147)) = w110 at n0_ n1_ n2_ n3_ n4_ n5_ n6_ n7_ n8_ n9_ ⊢
                            have HO_113003 := n0_
                            have HO_136003 := n1_
                            have HO142 := n2_
                            have BK112 := n3_
                            have BK119 := n4_
                            have BK126 := n5_
                            have BK135 := n6_
                            have BK145 := n7_
                            have BK149 := n8_
                            have HB := n9_
                            clear n0_ n1_ n2_ n3_ n4_ n5_ n6_ n7_ n8_ n9_
                            have n0_ := Aside0.mk (Kd.R_drew HO_113003.out)
                            have n1_ := Aside0.mk (Kd.R_drew HO_136003.out)
                            have n2_ := Aside0.mk (Kd.R_drew HO142.out)
                            have n3_ := Aside0.mk (blk_drew BK112.out)
                            have n4_ := Aside0.mk (blk_drew BK119.out)
                            have n5_ := Aside0.mk (blk_drew BK126.out)
                            have n6_ := Aside0.mk (blk_drew BK135.out)
                            have n7_ := Aside0.mk (blk_drew BK145.out)
                            have n8_ := Aside0.mk (blk_drew BK149.out)
                            have n9_ := Aside0.mk (below_drew1 HB.out)
                            clear HO_113003
                            clear HO_136003
                            clear HO142
                            clear BK112
                            clear BK119
                            clear BK126
                            clear BK135
                            clear BK145
                            clear BK149
                            clear HB
                            have HO_113003 := n0_
                            have HO_136003 := n1_
                            have HO142 := n2_
                            have BK112 := n3_
                            have BK119 := n4_
                            have BK126 := n5_
                            have BK135 := n6_
                            have BK145 := n7_
                            have BK149 := n8_
                            have HB := n9_
                            clear n0_ n1_ n2_ n3_ n4_ n5_ n6_ n7_ n8_ n9_
                            refine start_ (n := 19) (S := fun w' => True) (ds := []) #[false, false, false, false, false, false, false, false, false, false, false, false, false, false, false, false, false, false, false] (by kernel_rfl) rfl rfl trivial (fun hHeld => ?_); refine with_tabW sorobanlaw05_BinarySpecials.tab21 sorobanlaw05_BinarySpecials.bits21 (fun HT_ HW_ => ?_)
                            generalize w110.drew = w111 at HO_113003 HO_136003 HO142 BK112 BK119 BK126 BK135 BK145 BK149 HB hHeld ⊢
                            refine one_ (i := 0) (N := some 118) #[true, false, false, false, false, false, false, false, false, false, false, false, false, false, false, false, false, false, false] rfl rfl (one_of HT_.out (by kernel_rfl)) (by decide) (fun K hK => ?_)
                            refine goes_ Tryd.func11 (by kernel_rfl) rfl #[] (by rfl) rfl rfl zm ?_
                            with_reducible refine (sorobanlaw05_sanity.calls  true _ A69.out (HTAB.out.below (zb HB.out))).mono ?_
                            rintro e w112 ⟨rfl, hb⟩
                            refine ⟨_, rfl, ?_⟩
                            have n0_ := Aside0.mk (Kd.R_below (zr HO_113003.out) hb)
                            have n1_ := Aside0.mk (Kd.R_below (zr HO_136003.out) hb)
                            have n2_ := Aside0.mk (Kd.R_below (zr HO142.out) hb)
                            have n3_ := Aside0.mk (blk_below (g := gb112) (o := .cells #[.int .i64 t104, .int .i64 t105, .bool t106, .slice Ao21 t107.length co21, .int .i64 t110] 25 (0, 0)) (zk BK112.out) hb)
                            have n4_ := Aside0.mk (blk_below (g := gb119) (o := .cells #[.int .i64 t113, .int .i64 t114, .int .i64 t115, .int .i64 t116, .int .i64 t117] 57 (0, 0)) (zk BK119.out) hb)
                            have n5_ := Aside0.mk (blk_below (g := gb126) (o := .cells #[.int .u64 t123, .int .u64 t124] 28 (0, 0)) (zk BK126.out) hb)
                            have n6_ := Aside0.mk (blk_below (g := gb135) (o := .cells #[.int .i64 t127, .int .i64 t128, .bool t129, .slice Ao53 t130.length co53, .int .i64 t133] 25 (0, 0)) (zk BK135.out) hb)
                            have n7_ := Aside0.mk (blk_below (g := gb145) (o := .cells #[.int .i64 t137, .int .i64 t138, .bool t139, .slice Ao101 t140.length co101, .int .i64 t143] 25 (0, 0)) (zk BK145.out) hb)
                            have n8_ := Aside0.mk (blk_below (g := gb149) (o := .cells #[.int .u64 t146, .int .u64 t147] 28 (0, 0)) (zk BK149.out) hb)
                            have n9_ := Aside0.mk (below_step (zb HB.out) hb)
                            clear HO_113003
                            clear HO_136003
                            clear HO142
                            clear BK112
                            clear BK119
                            clear BK126
                            clear BK135
                            clear BK145
                            clear BK149
                            clear HB
                            have HO_113003 := n0_
                            have HO_136003 := n1_
                            have HO142 := n2_
                            have BK112 := n3_
                            have BK119 := n4_
                            have BK126 := n5_
                            have BK135 := n6_
                            have BK145 := n7_
                            have BK149 := n8_
                            have HB := n9_
                            clear n0_ n1_ n2_ n3_ n4_ n5_ n6_ n7_ n8_ n9_
                            (try clear hb)
                            (try clear hb2)
                            (try clear hk)
                            (try clear hi)
                            refine hK.out _ _ trivial (fun hHeld => ?_)
                            clear hK K
                            refine norm_ (a' := ?_) ?_ ?_
                            rotate_left
                            · show Act.put _ (some 118) _ = _
                              simp only [Act.put, List.setIfInBounds_toArray, List.set_cons_zero, List.set_cons_succ, i64_w, i32_w]
                              rfl
                            refine pure_ (i := 1) (N := some 119) (v := ?_) (a' := ?_) #[true, true, false, false, false, false, false, false, false, false, false, false, false, false, false, false, false, false, false] rfl rfl (any_of HT_.out (by kernel_rfl)) (fun _ _ _ h => h) (Or.inl ⟨by rfl, ?_⟩) ?_ ?_
                            rotate_left
                            · intro w'
                              go_simp
                              with_reducible rfl
                            rotate_left
                            · simp only [Act.put, List.setIfInBounds_toArray, List.set_cons_zero, List.set_cons_succ, i64_w, i32_w]
                              rfl
                            refine pure_ (i := 2) (N := some 120) (v := ?_) (a' := ?_) #[true, true, true, false, false, false, false, false, false, false, false, false, false, false, false, false, false, false, false] rfl rfl (any_of HT_.out (by kernel_rfl)) (fun _ _ _ h => h) (Or.inl ⟨by rfl, ?_⟩) ?_ ?_
                            rotate_left
                            · intro w'
                              go_simp
                              with_reducible rfl
                            rotate_left
                            · simp only [Act.put, List.setIfInBounds_toArray, List.set_cons_zero, List.set_cons_succ, i64_w, i32_w]
                              rfl
                            refine pure_ (i := 3) (N := some 121) (v := ?_) (a' := ?_) #[true, true, true, true, false, false, false, false, false, false, false, false, false, false, false, false, false, false, false] rfl rfl (any_of HT_.out (by kernel_rfl)) (fun _ _ _ h => h) (Or.inl ⟨by rfl, ?_⟩) ?_ ?_
                            rotate_left
                            · intro w'
                              go_simp
                              with_reducible rfl
                            rotate_left
                            · simp only [Act.put, List.setIfInBounds_toArray, List.set_cons_zero, List.set_cons_succ, i64_w, i32_w]
                              rfl
                            refine pure_ (i := 4) (N := some 122) (v := ?_) (a' := ?_) #[true, true, true, true, true, false, false, false, false, false, false, false, false, false, false, false, false, false, false] rfl rfl (any_of HT_.out (by kernel_rfl)) (fun _ _ _ h => h) (Or.inl ⟨by rfl, ?_⟩) ?_ ?_
                            rotate_left
                            · intro w'
                              go_simp
                              with_reducible rfl
                            rotate_left
                            · simp only [Act.put, List.setIfInBounds_toArray, List.set_cons_zero, List.set_cons_succ, i64_w, i32_w]
                              rfl
                            refine pure_ (i := 5) (N := some 123) (v := ?_) (a' := ?_) #[true, true, true, true, true, true, false, false, false, false, false, false, false, false, false, false, false, false, false] rfl rfl (any_of HT_.out (by kernel_rfl)) (fun _ _ _ h => h) (Or.inl ⟨by rfl, ?_⟩) ?_ ?_
                            rotate_left
                            · intro w'
                              go_simp
                              with_reducible rfl
                            rotate_left
                            · simp only [Act.put, List.setIfInBounds_toArray, List.set_cons_zero, List.set_cons_succ, i64_w, i32_w]
                              rfl
                            refine pure_ (i := 6) (N := some 124) (v := ?_) (a' := ?_) #[true, true, true, true, true, true, true, false, false, false, false, false, false, false, false, false, false, false, false] rfl rfl (any_of HT_.out (by kernel_rfl)) (fun _ _ _ h => h) (Or.inl ⟨by rfl, ?_⟩) ?_ ?_
                            rotate_left
                            · intro w'
                              go_simp
                              with_reducible rfl
                            rotate_left
                            · simp only [Act.put, List.setIfInBounds_toArray, List.set_cons_zero, List.set_cons_succ, i64_w, i32_w]
                              rfl
                            refine pure_ (i := 7) (N := some 125) (v := ?_) (a' := ?_) #[true, true, true, true, true, true, true, true, false, false, false, false, false, false, false, false, false, false, false] rfl rfl (any_of HT_.out (by kernel_rfl)) (fun _ _ _ h => h) (Or.inl ⟨by rfl, ?_⟩) ?_ ?_
                            rotate_left
                            · intro w'
                              go_simp
                              with_reducible rfl
                            rotate_left
                            · simp only [Act.put, List.setIfInBounds_toArray, List.set_cons_zero, List.set_cons_succ, i64_w, i32_w]
                              rfl
                            refine pure_ (i := 8) (N := some 126) (v := undef) (a' := ?_) #[true, true, true, true, true, true, true, true, true, false, false, false, false, false, false, false, false, false, false] rfl rfl (any_of HT_.out (by kernel_rfl)) (fun _ _ _ h => h) (Or.inr ⟨by rfl, rfl⟩) ?_ ?_
                            rotate_left
                            · simp only [Act.put, List.setIfInBounds_toArray, List.set_cons_zero, List.set_cons_succ, i64_w, i32_w]
                              rfl
                            refine pure_ (i := 9) (N := some 127) (v := undef) (a' := ?_) #[true, true, true, true, true, true, true, true, true, true, false, false, false, false, false, false, false, false, false] rfl rfl (any_of HT_.out (by kernel_rfl)) (fun _ _ _ h => h) (Or.inr ⟨by rfl, rfl⟩) ?_ ?_
                            rotate_left
                            · simp only [Act.put, List.setIfInBounds_toArray, List.set_cons_zero, List.set_cons_succ, i64_w, i32_w]
                              rfl
                            refine pure_ (i := 10) (N := some 128) (v := undef) (a' := ?_) #[true, true, true, true, true, true, true, true, true, true, true, false, false, false, false, false, false, false, false] rfl rfl (any_of HT_.out (by kernel_rfl)) (fun _ _ _ h => h) (Or.inr ⟨by rfl, rfl⟩) ?_ ?_
                            rotate_left
                            · simp only [Act.put, List.setIfInBounds_toArray, List.set_cons_zero, List.set_cons_succ, i64_w, i32_w]
                              rfl
                            refine pure_ (i := 11) (N := some 129) (v := undef) (a' := ?_) #[true, true, true, true, true, true, true, true, true, true, true, true, false, false, false, false, false, false, false] rfl rfl (any_of HT_.out (by kernel_rfl)) (fun _ _ _ h => h) (Or.inr ⟨by rfl, rfl⟩) ?_ ?_
                            rotate_left
                            · simp only [Act.put, List.setIfInBounds_toArray, List.set_cons_zero, List.set_cons_succ, i64_w, i32_w]
                              rfl
                            refine pure_ (i := 12) (N := some 130) (v := undef) (a' := ?_) #[true, true, true, true, true, true, true, true, true, true, true, true, true, false, false, false, false, false, false] rfl rfl (any_of HT_.out (by kernel_rfl)) (fun _ _ _ h => h) (Or.inr ⟨by rfl, rfl⟩) ?_ ?_
                            rotate_left
                            · simp only [Act.put, List.setIfInBounds_toArray, List.set_cons_zero, List.set_cons_succ, i64_w, i32_w]
                              rfl
                            refine pure_ (i := 13) (N := some 131) (v := undef) (a' := ?_) #[true, true, true, true, true, true, true, true, true, true, true, true, true, true, false, false, false, false, false] rfl rfl (any_of HT_.out (by kernel_rfl)) (fun _ _ _ h => h) (Or.inr ⟨by rfl, rfl⟩) ?_ ?_
                            rotate_left
                            · simp only [Act.put, List.setIfInBounds_toArray, List.set_cons_zero, List.set_cons_succ, i64_w, i32_w]
                              rfl
                            refine pure_ (i := 14) (N := some 132) (v := undef) (a' := ?_) #[true, true, true, true, true, true, true, true, true, true, true, true, true, true, true, false, false, false, false] rfl rfl (any_of HT_.out (by kernel_rfl)) (fun _ _ _ h => h) (Or.inr ⟨by rfl, rfl⟩) ?_ ?_
                            rotate_left
                            · simp only [Act.put, List.setIfInBounds_toArray, List.set_cons_zero, List.set_cons_succ, i64_w, i32_w]
                              rfl
                            refine pure_ (i := 15) (N := some 133) (v := ?_) (a' := ?_) #[true, true, true, true, true, true, true, true, true, true, true, true, true, true, true, true, false, false, false] rfl rfl (any_of HT_.out (by kernel_rfl)) (fun _ _ _ h => h) (Or.inl ⟨by rfl, ?_⟩) ?_ ?_
                            rotate_left
                            · intro w'
                              go_simp
                              with_reducible rfl
                            rotate_left
                            · simp only [Act.put, List.setIfInBounds_toArray, List.set_cons_zero, List.set_cons_succ, i64_w, i32_w]
                              rfl
                            refine pure_ (i := 16) (N := some 134) (v := ?_) (a' := ?_) #[true, true, true, true, true, true, true, true, true, true, true, true, true, true, true, true, true, false, false] rfl rfl (any_of HT_.out (by kernel_rfl)) (fun _ _ _ h => h) (Or.inl ⟨by rfl, ?_⟩) ?_ ?_
                            rotate_left
                            · intro w'
                              go_simp
                              with_reducible rfl
                            rotate_left
                            · simp only [Act.put, List.setIfInBounds_toArray, List.set_cons_zero, List.set_cons_succ, i64_w, i32_w]
                              rfl
                            refine pure_ (i := 17) (N := some 135) (v := ?_) (a' := ?_) #[true, true, true, true, true, true, true, true, true, true, true, true, true, true, true, true, true, true, false] rfl rfl (any_of HT_.out (by kernel_rfl)) (fun _ _ _ h => h) (Or.inl ⟨by rfl, ?_⟩) ?_ ?_
                            rotate_left
                            · intro w'
                              go_simp
                              with_reducible rfl
                            rotate_left
                            · simp only [Act.put, List.setIfInBounds_toArray, List.set_cons_zero, List.set_cons_succ, i64_w, i32_w]
                              rfl
                            refine pure_ (i := 18) (N := some 10) (v := ?_) (a' := ?_) #[true, true, true, true, true, true, true, true, true, true, true, true, true, true, true, true, true, true, true] rfl rfl (any_of HT_.out (by kernel_rfl)) (fun _ _ _ h => h) (Or.inl ⟨by rfl, ?_⟩) ?_ ?_
                            rotate_left
                            · intro w'
                              go_simp
                              with_reducible rfl
                            rotate_left
                            · simp only [Act.put, List.setIfInBounds_toArray, List.set_cons_zero, List.set_cons_succ, i64_w, i32_w]
                              rfl
                            refine done_ (done_of HT_.out (by kernel_rfl)) ?_
                            try go_wp2
                            go_ret
                            exact ⟨by first | rfl | (simp [errW_none, errW_some] <;> rfl) | (simp [*, errW_none, errW_some] <;> rfl), by repeat (first | (with_reducible first | exact HB.out | apply below_alloc | apply pw_below_drewN | apply below_drew1 | refine below_set ?_ GE112.out | refine below_set ?_ GE119.out | refine below_set ?_ GE126.out | refine below_set ?_ GE135.out | refine below_set ?_ GE145.out | refine below_set ?_ GE149.out) | exact HB.out)⟩
                        · rw [if_neg c71] at H
                          have c71b0 : (t144 == 0) = false := beq_eq_false_iff_ne.mpr c71
                          have c71b1 : (t144 != 0) = true := bne_iff_ne.mpr c71
                          obtain rfl := Option.some.inj H
                          try go_wp2_with (first | ((with_reducible refine gate_callee (f := 27) rfl ?_); refine goesL_ (some 110) rfl rfl Tryd.func27 (by kernel_rfl) rfl #[.int .i64 t101, .int .i64 x12_8, .bool a2, .slice A4 l4.length c4] rfl zm ?_; (with_reducible refine (binary_Special.calls t101 x12_8 a2 _ _ l4 t137 t138 t139 t140 t143 t144 _ ?side1 ?side2 A67.out).mono ?_); (case side1 => repeat (first | exact (Kd.C_below HR4.out HB.out) | (with_reducible refine Kd.C_alloc ?_ _) | (with_reducible refine Kd.C_drewN ?_ _) | (with_reducible refine Kd.C_drew ?_))); (case side2 => exact HC4.out); rintro e w113 ⟨v141, rfl, ho0, hb⟩; refine ⟨_, rfl, ?_⟩; have n0_ := Aside0.mk (Kd.R_elder' (zr HO_113003.out) (Kd.R_base ho0) hb); have n1_ := Aside0.mk (Kd.R_elder' (zr HO_136003.out) (Kd.R_base ho0) hb); have n2_ := Aside0.mk (Kd.R_lower (Kd.R_new' (Kd.R_new' ho0 (Kd.R_lt (zr HO_113003.out))) (Kd.R_lt (zr HO_136003.out))) (below_size (zb HB.out))); have n3_ := Aside0.mk (blk_below (g := gb112) (o := .cells #[.int .i64 t104, .int .i64 t105, .bool t106, .slice Ao21 t107.length co21, .int .i64 t110] 25 (0, 0)) (zk BK112.out) hb); have n4_ := Aside0.mk (blk_below (g := gb119) (o := .cells #[.int .i64 t113, .int .i64 t114, .int .i64 t115, .int .i64 t116, .int .i64 t117] 57 (0, 0)) (zk BK119.out) hb); have n5_ := Aside0.mk (blk_below (g := gb126) (o := .cells #[.int .u64 t123, .int .u64 t124] 28 (0, 0)) (zk BK126.out) hb); have n6_ := Aside0.mk (blk_below (g := gb135) (o := .cells #[.int .i64 t127, .int .i64 t128, .bool t129, .slice Ao53 t130.length co53, .int .i64 t133] 25 (0, 0)) (zk BK135.out) hb); have n7_ := Aside0.mk (below_step (zb HB.out) hb); clear HO_113003; clear HO_136003; clear BK112; clear BK119; clear BK126; clear BK135; clear HB; have HO_113003 := n0_; have HO_136003 := n1_; have HO142 := n2_; have BK112 := n3_; have BK119 := n4_; have BK126 := n5_; have BK135 := n6_; have HB := n7_; clear n0_ n1_ n2_ n3_ n4_ n5_ n6_ n7_; (try clear hb); (try clear hb2); (try clear hk); (try clear hi); (try clear ho0)) | ((with_reducible refine gate_dst (N := 23) rfl ?_); refine box_event ?hg (N := 23) ?hd (cs := #[.int .i64 0, .int .i64 0, .bool false, .slice none 0 0, .int .i64 0]) (t := 25) ?hr ?_; (case hd => rfl); (case hg => rfl); (case hr => first | (go_simp; done) | (go_simp; rfl)); intro gb145 hg w114 hbox hb; have n0_ := Aside0.mk (Kd.R_below (zr HO_113003.out) hb); have n1_ := Aside0.mk (Kd.R_below (zr HO_136003.out) hb); have n2_ := Aside0.mk (Kd.R_below (zr HO142.out) hb); have n3_ := Aside0.mk (blk_below (g := gb112) (o := .cells #[.int .i64 t104, .int .i64 t105, .bool t106, .slice Ao21 t107.length co21, .int .i64 t110] 25 (0, 0)) (zk BK112.out) hb); have n4_ := Aside0.mk (blk_below (g := gb119) (o := .cells #[.int .i64 t113, .int .i64 t114, .int .i64 t115, .int .i64 t116, .int .i64 t117] 57 (0, 0)) (zk BK119.out) hb); have n5_ := Aside0.mk (blk_below (g := gb126) (o := .cells #[.int .u64 t123, .int .u64 t124] 28 (0, 0)) (zk BK126.out) hb); have n6_ := Aside0.mk (blk_below (g := gb135) (o := .cells #[.int .i64 t127, .int .i64 t128, .bool t129, .slice Ao53 t130.length co53, .int .i64 t133] 25 (0, 0)) (zk BK135.out) hb); have n7_ := Aside0.mk (below_step (zb HB.out) hb); have n8_ := Aside0.mk (hbox); have n9_ := Aside0.mk ((by rw [hg]; exact (below_size (zb HB.out)) : w.heap.size ≤ gb145)); have n10_ := Aside0.mk ((by rw [hg]; exact (below_size (zb HB.out)) : w.heap.size ≤ gb145)); have n11_ := Aside0.mk ((by rw [hg]; exact Nat.ne_of_lt (blk_lt (g := gb112) (o := .cells #[.int .i64 t104, .int .i64 t105, .bool t106, .slice Ao21 t107.length co21, .int .i64 t110] 25 (0, 0)) (zk BK112.out)) : gb112 ≠ gb145)); have n12_ := Aside0.mk ((by rw [hg]; exact Nat.ne_of_gt (blk_lt (g := gb112) (o := .cells #[.int .i64 t104, .int .i64 t105, .bool t106, .slice Ao21 t107.length co21, .int .i64 t110] 25 (0, 0)) (zk BK112.out)) : gb145 ≠ gb112)); have n13_ := Aside0.mk ((by rw [hg]; exact Nat.ne_of_lt (blk_lt (g := gb119) (o := .cells #[.int .i64 t113, .int .i64 t114, .int .i64 t115, .int .i64 t116, .int .i64 t117] 57 (0, 0)) (zk BK119.out)) : gb119 ≠ gb145)); have n14_ := Aside0.mk ((by rw [hg]; exact Nat.ne_of_gt (blk_lt (g := gb119) (o := .cells #[.int .i64 t113, .int .i64 t114, .int .i64 t115, .int .i64 t116, .int .i64 t117] 57 (0, 0)) (zk BK119.out)) : gb145 ≠ gb119)); have n15_ := Aside0.mk ((by rw [hg]; exact Nat.ne_of_lt (blk_lt (g := gb126) (o := .cells #[.int .u64 t123, .int .u64 t124] 28 (0, 0)) (zk BK126.out)) : gb126 ≠ gb145)); have n16_ := Aside0.mk ((by rw [hg]; exact Nat.ne_of_gt (blk_lt (g := gb126) (o := .cells #[.int .u64 t123, .int .u64 t124] 28 (0, 0)) (zk BK126.out)) : gb145 ≠ gb126)); have n17_ := Aside0.mk ((by rw [hg]; exact Nat.ne_of_lt (blk_lt (g := gb135) (o := .cells #[.int .i64 t127, .int .i64 t128, .bool t129, .slice Ao53 t130.length co53, .int .i64 t133] 25 (0, 0)) (zk BK135.out)) : gb135 ≠ gb145)); have n18_ := Aside0.mk ((by rw [hg]; exact Nat.ne_of_gt (blk_lt (g := gb135) (o := .cells #[.int .i64 t127, .int .i64 t128, .bool t129, .slice Ao53 t130.length co53, .int .i64 t133] 25 (0, 0)) (zk BK135.out)) : gb145 ≠ gb135)); clear HO_113003; clear HO_136003; clear HO142; clear BK112; clear BK119; clear BK126; clear BK135; clear HB; have HO_113003 := n0_; have HO_136003 := n1_; have HO142 := n2_; have BK112 := n3_; have BK119 := n4_; have BK126 := n5_; have BK135 := n6_; have HB := n7_; have BK145 := n8_; have GW145 := n9_; have GE145 := n10_; have NB112_145 := n11_; have NB145_112 := n12_; have NB119_145 := n13_; have NB145_119 := n14_; have NB126_145 := n15_; have NB145_126 := n16_; have NB135_145 := n17_; have NB145_135 := n18_; clear n0_ n1_ n2_ n3_ n4_ n5_ n6_ n7_ n8_ n9_ n10_ n11_ n12_ n13_ n14_ n15_ n16_ n17_ n18_; clear hb hbox hg; have hnb115 := NB145_112.out; have hnc115 := NB112_145.out; have hnb116 := NB145_119.out; have hnc116 := NB119_145.out; have hnb117 := NB145_126.out; have hnc117 := NB126_145.out; have hnb118 := NB145_135.out; have hnc118 := NB135_145.out; have hcz119_0 : w114.cell? ⟨gb145, 0, none⟩ = some (.int .i64 0) := (blk_cell BK145.out 0).trans rfl; have hcz119_1 : w114.cell? ⟨gb145, 1, none⟩ = some (.int .i64 0) := (blk_cell BK145.out 1).trans rfl; have hcz119_2 : w114.cell? ⟨gb145, 2, none⟩ = some (.bool false) := (blk_cell BK145.out 2).trans rfl; have hcz119_3 : w114.cell? ⟨gb145, 3, none⟩ = some (.slice none 0 0) := (blk_cell BK145.out 3).trans rfl; have hcz119_4 : w114.cell? ⟨gb145, 4, none⟩ = some (.int .i64 0) := (blk_cell BK145.out 4).trans rfl; have hfz119_0 := blk_frozen BK145.out 0; have hfz119_1 := blk_frozen BK145.out 1; have hfz119_2 := blk_frozen BK145.out 2; have hfz119_3 := blk_frozen BK145.out 3; have hfz119_4 := blk_frozen BK145.out 4; obtain ⟨Ao120, co120, eo120⟩ := Kd.R_slice HO142.out; subst eo120) | ((with_reducible refine gate_callee (f := 12) rfl ?_); refine goesL_ (some 115) rfl rfl Tryd.func12 (by kernel_rfl) rfl #[.agg #[.int .i64 t137, .int .i64 t138, .bool t139, .slice Ao120 t140.length co120, .int .i64 t143]] rfl zm ?_; (with_reducible refine (binary_Encode.calls t137 t138 t139 _ _ t140 t143 t146 t147 t148 _ ?side1 ?side2 A68.out).mono ?_); (case side1 => refine (Kd.R_reads' (e := 77) (base := w.heap.size) (ok := fun k_ => ((True ∧ some k_ ≠ (.slice Ao21 t107.length co21 : Value).ownBlock) ∧ some k_ ≠ (.slice Ao53 t130.length co53 : Value).ownBlock)) (n := t140.length) (c := co120) ?_).2.2; exact (by (with_reducible repeat (first | apply Kd.R_alloc | apply Kd.R_drewN | apply Kd.R_drew)); exact (Kd.R_mono (Kd.R_far (p := ⟨gb145, 4, none⟩) (Kd.R_far (p := ⟨gb145, 3, none⟩) (Kd.R_far (p := ⟨gb145, 2, none⟩) (Kd.R_far (p := ⟨gb145, 1, none⟩) (Kd.R_far (p := ⟨gb145, 0, none⟩) (Kd.R_types HO142.out BK145.out (by decide)) (fun _ hk => hk.2) (.int .i64 t137)) (fun _ hk => hk.2) (.int .i64 t138)) (fun _ hk => hk.2) (.bool t139)) (fun _ hk => hk.2) (.slice Ao120 t140.length co120)) (fun _ hk => hk.2) (.int .i64 t143)) (fun _ h_ => h_.1)))); (case side2 => exact (Kd.R_reads' HO142.out).2.1); rintro e w121 ⟨rfl, hb⟩; refine ⟨_, rfl, ?_⟩; have n0_ := Aside0.mk (Kd.R_below (by (with_reducible repeat (first | apply Kd.R_alloc | apply Kd.R_drewN | apply Kd.R_drew)); exact (Kd.R_mono (Kd.R_far (p := ⟨gb145, 4, none⟩) (Kd.R_far (p := ⟨gb145, 3, none⟩) (Kd.R_far (p := ⟨gb145, 2, none⟩) (Kd.R_far (p := ⟨gb145, 1, none⟩) (Kd.R_far (p := ⟨gb145, 0, none⟩) (Kd.R_types HO_113003.out BK145.out (by decide)) (fun _ hk => hk.2) (.int .i64 t137)) (fun _ hk => hk.2) (.int .i64 t138)) (fun _ hk => hk.2) (.bool t139)) (fun _ hk => hk.2) (.slice Ao120 t140.length co120)) (fun _ hk => hk.2) (.int .i64 t143)) (fun _ h_ => h_.1))) hb); have n1_ := Aside0.mk (Kd.R_below (by (with_reducible repeat (first | apply Kd.R_alloc | apply Kd.R_drewN | apply Kd.R_drew)); exact (Kd.R_mono (Kd.R_far (p := ⟨gb145, 4, none⟩) (Kd.R_far (p := ⟨gb145, 3, none⟩) (Kd.R_far (p := ⟨gb145, 2, none⟩) (Kd.R_far (p := ⟨gb145, 1, none⟩) (Kd.R_far (p := ⟨gb145, 0, none⟩) (Kd.R_types HO_136003.out BK145.out (by decide)) (fun _ hk => hk.2) (.int .i64 t137)) (fun _ hk => hk.2) (.int .i64 t138)) (fun _ hk => hk.2) (.bool t139)) (fun _ hk => hk.2) (.slice Ao120 t140.length co120)) (fun _ hk => hk.2) (.int .i64 t143)) (fun _ h_ => h_.1))) hb); have n2_ := Aside0.mk (Kd.R_below (by (with_reducible repeat (first | apply Kd.R_alloc | apply Kd.R_drewN | apply Kd.R_drew)); exact (Kd.R_mono (Kd.R_far (p := ⟨gb145, 4, none⟩) (Kd.R_far (p := ⟨gb145, 3, none⟩) (Kd.R_far (p := ⟨gb145, 2, none⟩) (Kd.R_far (p := ⟨gb145, 1, none⟩) (Kd.R_far (p := ⟨gb145, 0, none⟩) (Kd.R_types HO142.out BK145.out (by decide)) (fun _ hk => hk.2) (.int .i64 t137)) (fun _ hk => hk.2) (.int .i64 t138)) (fun _ hk => hk.2) (.bool t139)) (fun _ hk => hk.2) (.slice Ao120 t140.length co120)) (fun _ hk => hk.2) (.int .i64 t143)) (fun _ h_ => h_.1))) hb); have n3_ := Aside0.mk (blk_below (g := gb112) (o := .cells #[.int .i64 t104, .int .i64 t105, .bool t106, .slice Ao21 t107.length co21, .int .i64 t110] 25 (0, 0)) (by (with_reducible repeat (first | refine blk_drewN ?_ _ | refine blk_drew ?_ | refine blk_alloc ?_ _)); refine blk_far ?_ NB112_145.out _; (with_reducible repeat (first | refine blk_drewN ?_ _ | refine blk_drew ?_ | refine blk_alloc ?_ _)); refine blk_far ?_ NB112_145.out _; (with_reducible repeat (first | refine blk_drewN ?_ _ | refine blk_drew ?_ | refine blk_alloc ?_ _)); refine blk_far ?_ NB112_145.out _; (with_reducible repeat (first | refine blk_drewN ?_ _ | refine blk_drew ?_ | refine blk_alloc ?_ _)); refine blk_far ?_ NB112_145.out _; (with_reducible repeat (first | refine blk_drewN ?_ _ | refine blk_drew ?_ | refine blk_alloc ?_ _)); refine blk_far ?_ NB112_145.out _; (with_reducible repeat (first | refine blk_drewN ?_ _ | refine blk_drew ?_ | refine blk_alloc ?_ _)); exact BK112.out) hb); have n4_ := Aside0.mk (blk_below (g := gb119) (o := .cells #[.int .i64 t113, .int .i64 t114, .int .i64 t115, .int .i64 t116, .int .i64 t117] 57 (0, 0)) (by (with_reducible repeat (first | refine blk_drewN ?_ _ | refine blk_drew ?_ | refine blk_alloc ?_ _)); refine blk_far ?_ NB119_145.out _; (with_reducible repeat (first | refine blk_drewN ?_ _ | refine blk_drew ?_ | refine blk_alloc ?_ _)); refine blk_far ?_ NB119_145.out _; (with_reducible repeat (first | refine blk_drewN ?_ _ | refine blk_drew ?_ | refine blk_alloc ?_ _)); refine blk_far ?_ NB119_145.out _; (with_reducible repeat (first | refine blk_drewN ?_ _ | refine blk_drew ?_ | refine blk_alloc ?_ _)); refine blk_far ?_ NB119_145.out _; (with_reducible repeat (first | refine blk_drewN ?_ _ | refine blk_drew ?_ | refine blk_alloc ?_ _)); refine blk_far ?_ NB119_145.out _; (with_reducible repeat (first | refine blk_drewN ?_ _ | refine blk_drew ?_ | refine blk_alloc ?_ _)); exact BK119.out) hb); have n5_ := Aside0.mk (blk_below (g := gb126) (o := .cells #[.int .u64 t123, .int .u64 t124] 28 (0, 0)) (by (with_reducible repeat (first | refine blk_drewN ?_ _ | refine blk_drew ?_ | refine blk_alloc ?_ _)); refine blk_far ?_ NB126_145.out _; (with_reducible repeat (first | refine blk_drewN ?_ _ | refine blk_drew ?_ | refine blk_alloc ?_ _)); refine blk_far ?_ NB126_145.out _; (with_reducible repeat (first | refine blk_drewN ?_ _ | refine blk_drew ?_ | refine blk_alloc ?_ _)); refine blk_far ?_ NB126_145.out _; (with_reducible repeat (first | refine blk_drewN ?_ _ | refine blk_drew ?_ | refine blk_alloc ?_ _)); refine blk_far ?_ NB126_145.out _; (with_reducible repeat (first | refine blk_drewN ?_ _ | refine blk_drew ?_ | refine blk_alloc ?_ _)); refine blk_far ?_ NB126_145.out _; (with_reducible repeat (first | refine blk_drewN ?_ _ | refine blk_drew ?_ | refine blk_alloc ?_ _)); exact BK126.out) hb); have n6_ := Aside0.mk (blk_below (g := gb135) (o := .cells #[.int .i64 t127, .int .i64 t128, .bool t129, .slice Ao53 t130.length co53, .int .i64 t133] 25 (0, 0)) (by (with_reducible repeat (first | refine blk_drewN ?_ _ | refine blk_drew ?_ | refine blk_alloc ?_ _)); refine blk_far ?_ NB135_145.out _; (with_reducible repeat (first | refine blk_drewN ?_ _ | refine blk_drew ?_ | refine blk_alloc ?_ _)); refine blk_far ?_ NB135_145.out _; (with_reducible repeat (first | refine blk_drewN ?_ _ | refine blk_drew ?_ | refine blk_alloc ?_ _)); refine blk_far ?_ NB135_145.out _; (with_reducible repeat (first | refine blk_drewN ?_ _ | refine blk_drew ?_ | refine blk_alloc ?_ _)); refine blk_far ?_ NB135_145.out _; (with_reducible repeat (first | refine blk_drewN ?_ _ | refine blk_drew ?_ | refine blk_alloc ?_ _)); refine blk_far ?_ NB135_145.out _; (with_reducible repeat (first | refine blk_drewN ?_ _ | refine blk_drew ?_ | refine blk_alloc ?_ _)); exact BK135.out) hb); have n7_ := Aside0.mk (blk_below (g := gb145) (o := .cells #[.int .i64 t137, .int .i64 t138, .bool t139, .slice Ao120 t140.length co120, .int .i64 t143] 25 (0, 0)) (by (with_reducible repeat (first | refine blk_drewN ?_ _ | refine blk_drew ?_ | refine blk_alloc ?_ _)); refine blk_put (cs := #[.int .i64 t137, .int .i64 t138, .bool t139, .slice Ao120 t140.length co120, .int .i64 0]) ?_ 4 _ rfl; (with_reducible repeat (first | refine blk_drewN ?_ _ | refine blk_drew ?_ | refine blk_alloc ?_ _)); refine blk_put (cs := #[.int .i64 t137, .int .i64 t138, .bool t139, .slice none 0 0, .int .i64 0]) ?_ 3 _ rfl; (with_reducible repeat (first | refine blk_drewN ?_ _ | refine blk_drew ?_ | refine blk_alloc ?_ _)); refine blk_put (cs := #[.int .i64 t137, .int .i64 t138, .bool false, .slice none 0 0, .int .i64 0]) ?_ 2 _ rfl; (with_reducible repeat (first | refine blk_drewN ?_ _ | refine blk_drew ?_ | refine blk_alloc ?_ _)); refine blk_put (cs := #[.int .i64 t137, .int .i64 0, .bool false, .slice none 0 0, .int .i64 0]) ?_ 1 _ rfl; (with_reducible repeat (first | refine blk_drewN ?_ _ | refine blk_drew ?_ | refine blk_alloc ?_ _)); refine blk_put (cs := #[.int .i64 0, .int .i64 0, .bool false, .slice none 0 0, .int .i64 0]) ?_ 0 _ rfl; (with_reducible repeat (first | refine blk_drewN ?_ _ | refine blk_drew ?_ | refine blk_alloc ?_ _)); exact BK145.out) hb); have n8_ := Aside0.mk (below_step (zb HB.out) hb); clear HO_113003; clear HO_136003; clear HO142; clear BK112; clear BK119; clear BK126; clear BK135; clear BK145; clear HB; have HO_113003 := n0_; have HO_136003 := n1_; have HO142 := n2_; have BK112 := n3_; have BK119 := n4_; have BK126 := n5_; have BK135 := n6_; have BK145 := n7_; have HB := n8_; clear n0_ n1_ n2_ n3_ n4_ n5_ n6_ n7_ n8_; (try clear hb); (try clear hb2); (try clear hk); (try clear hi)) | ((with_reducible refine gate_dst (N := 24) rfl ?_); refine box_event ?hg (N := 24) ?hd (cs := #[.int .u64 0, .int .u64 0]) (t := 28) ?hr ?_; (case hd => rfl); (case hg => rfl); (case hr => first | (go_simp; done) | (go_simp; rfl)); intro gb149 hg w122 hbox hb; have n0_ := Aside0.mk (Kd.R_below (zr HO_113003.out) hb); have n1_ := Aside0.mk (Kd.R_below (zr HO_136003.out) hb); have n2_ := Aside0.mk (Kd.R_below (zr HO142.out) hb); have n3_ := Aside0.mk (blk_below (g := gb112) (o := .cells #[.int .i64 t104, .int .i64 t105, .bool t106, .slice Ao21 t107.length co21, .int .i64 t110] 25 (0, 0)) (zk BK112.out) hb); have n4_ := Aside0.mk (blk_below (g := gb119) (o := .cells #[.int .i64 t113, .int .i64 t114, .int .i64 t115, .int .i64 t116, .int .i64 t117] 57 (0, 0)) (zk BK119.out) hb); have n5_ := Aside0.mk (blk_below (g := gb126) (o := .cells #[.int .u64 t123, .int .u64 t124] 28 (0, 0)) (zk BK126.out) hb); have n6_ := Aside0.mk (blk_below (g := gb135) (o := .cells #[.int .i64 t127, .int .i64 t128, .bool t129, .slice Ao53 t130.length co53, .int .i64 t133] 25 (0, 0)) (zk BK135.out) hb); have n7_ := Aside0.mk (blk_below (g := gb145) (o := .cells #[.int .i64 t137, .int .i64 t138, .bool t139, .slice Ao120 t140.length co120, .int .i64 t143] 25 (0, 0)) (zk BK145.out) hb); have n8_ := Aside0.mk (below_step (zb HB.out) hb); have n9_ := Aside0.mk (hbox); have n10_ := Aside0.mk ((by rw [hg]; exact (below_size (zb HB.out)) : w.heap.size ≤ gb149)); have n11_ := Aside0.mk ((by rw [hg]; exact (below_size (zb HB.out)) : w.heap.size ≤ gb149)); have n12_ := Aside0.mk ((by rw [hg]; exact Nat.ne_of_lt (blk_lt (g := gb112) (o := .cells #[.int .i64 t104, .int .i64 t105, .bool t106, .slice Ao21 t107.length co21, .int .i64 t110] 25 (0, 0)) (zk BK112.out)) : gb112 ≠ gb149)); have n13_ := Aside0.mk ((by rw [hg]; exact Nat.ne_of_gt (blk_lt (g := gb112) (o := .cells #[.int .i64 t104, .int .i64 t105, .bool t106, .slice Ao21 t107.length co21, .int .i64 t110] 25 (0, 0)) (zk BK112.out)) : gb149 ≠ gb112)); have n14_ := Aside0.mk ((by rw [hg]; exact Nat.ne_of_lt (blk_lt (g := gb119) (o := .cells #[.int .i64 t113, .int .i64 t114, .int .i64 t115, .int .i64 t116, .int .i64 t117] 57 (0, 0)) (zk BK119.out)) : gb119 ≠ gb149)); have n15_ := Aside0.mk ((by rw [hg]; exact Nat.ne_of_gt (blk_lt (g := gb119) (o := .cells #[.int .i64 t113, .int .i64 t114, .int .i64 t115, .int .i64 t116, .int .i64 t117] 57 (0, 0)) (zk BK119.out)) : gb149 ≠ gb119)); have n16_ := Aside0.mk ((by rw [hg]; exact Nat.ne_of_lt (blk_lt (g := gb126) (o := .cells #[.int .u64 t123, .int .u64 t124] 28 (0, 0)) (zk BK126.out)) : gb126 ≠ gb149)); have n17_ := Aside0.mk ((by rw [hg]; exact Nat.ne_of_gt (blk_lt (g := gb126) (o := .cells #[.int .u64 t123, .int .u64 t124] 28 (0, 0)) (zk BK126.out)) : gb149 ≠ gb126)); have n18_ := Aside0.mk ((by rw [hg]; exact Nat.ne_of_lt (blk_lt (g := gb135) (o := .cells #[.int .i64 t127, .int .i64 t128, .bool t129, .slice Ao53 t130.length co53, .int .i64 t133] 25 (0, 0)) (zk BK135.out)) : gb135 ≠ gb149)); have n19_ := Aside0.mk ((by rw [hg]; exact Nat.ne_of_gt (blk_lt (g := gb135) (o := .cells #[.int .i64 t127, .int .i64 t128, .bool t129, .slice Ao53 t130.length co53, .int .i64 t133] 25 (0, 0)) (zk BK135.out)) : gb149 ≠ gb135)); have n20_ := Aside0.mk ((by rw [hg]; exact Nat.ne_of_lt (blk_lt (g := gb145) (o := .cells #[.int .i64 t137, .int .i64 t138, .bool t139, .slice Ao120 t140.length co120, .int .i64 t143] 25 (0, 0)) (zk BK145.out)) : gb145 ≠ gb149)); have n21_ := Aside0.mk ((by rw [hg]; exact Nat.ne_of_gt (blk_lt (g := gb145) (o := .cells #[.int .i64 t137, .int .i64 t138, .bool t139, .slice Ao120 t140.length co120, .int .i64 t143] 25 (0, 0)) (zk BK145.out)) : gb149 ≠ gb145)); clear HO_113003; clear HO_136003; clear HO142; clear BK112; clear BK119; clear BK126; clear BK135; clear BK145; clear HB; have HO_113003 := n0_; have HO_136003 := n1_; have HO142 := n2_; have BK112 := n3_; have BK119 := n4_; have BK126 := n5_; have BK135 := n6_; have BK145 := n7_; have HB := n8_; have BK149 := n9_; have GW149 := n10_; have GE149 := n11_; have NB112_149 := n12_; have NB149_112 := n13_; have NB119_149 := n14_; have NB149_119 := n15_; have NB126_149 := n16_; have NB149_126 := n17_; have NB135_149 := n18_; have NB149_135 := n19_; have NB145_149 := n20_; have NB149_145 := n21_; clear n0_ n1_ n2_ n3_ n4_ n5_ n6_ n7_ n8_ n9_ n10_ n11_ n12_ n13_ n14_ n15_ n16_ n17_ n18_ n19_ n20_ n21_; clear hb hbox hg; have hnb123 := NB149_112.out; have hnc123 := NB112_149.out; have hnb124 := NB149_119.out; have hnc124 := NB119_149.out; have hnb125 := NB149_126.out; have hnc125 := NB126_149.out; have hnb126 := NB149_135.out; have hnc126 := NB135_149.out; have hnb127 := NB149_145.out; have hnc127 := NB145_149.out; have hcz128_0 : w122.cell? ⟨gb149, 0, none⟩ = some (.int .u64 0) := (blk_cell BK149.out 0).trans rfl; have hcz128_1 : w122.cell? ⟨gb149, 1, none⟩ = some (.int .u64 0) := (blk_cell BK149.out 1).trans rfl; have hfz128_0 := blk_frozen BK149.out 0; have hfz128_1 := blk_frozen BK149.out 1))
                          have n0_ : Aside0 (Kd.R (Kd.int .u32) 77 ((w122.setCell ⟨gb149, 0, none⟩ (.int .u64 t146)).setCell ⟨gb149, 1, none⟩ (.int .u64 t147)) w.heap.size (fun k_ => some k_ ≠ (.slice Ao53 t130.length co53 : Value).ownBlock ∧ some k_ ≠ (.slice Ao120 t140.length co120 : Value).ownBlock) (.slice Ao21 t107.length co21) t107) := ⟨by (with_reducible repeat (first | apply Kd.R_alloc | apply Kd.R_drewN | apply Kd.R_drew)); exact Kd.R_mono (Kd.R_far (p := ⟨gb149, 1, none⟩) (Kd.R_far (p := ⟨gb149, 0, none⟩) (Kd.R_types HO_113003.out BK149.out (by decide)) (fun _ hk => hk.2) (.int .u64 t146)) (fun _ hk => hk.2) (.int .u64 t147)) (fun _ hk => ⟨hk.1.1, hk.1.2⟩)⟩
                          have n1_ : Aside0 (Kd.R (Kd.int .u32) 77 ((w122.setCell ⟨gb149, 0, none⟩ (.int .u64 t146)).setCell ⟨gb149, 1, none⟩ (.int .u64 t147)) w.heap.size (fun k_ => some k_ ≠ (.slice Ao21 t107.length co21 : Value).ownBlock ∧ some k_ ≠ (.slice Ao120 t140.length co120 : Value).ownBlock) (.slice Ao53 t130.length co53) t130) := ⟨by (with_reducible repeat (first | apply Kd.R_alloc | apply Kd.R_drewN | apply Kd.R_drew)); exact Kd.R_mono (Kd.R_far (p := ⟨gb149, 1, none⟩) (Kd.R_far (p := ⟨gb149, 0, none⟩) (Kd.R_types HO_136003.out BK149.out (by decide)) (fun _ hk => hk.2) (.int .u64 t146)) (fun _ hk => hk.2) (.int .u64 t147)) (fun _ hk => ⟨hk.1.1, hk.1.2⟩)⟩
                          have n2_ : Aside0 (Kd.R (Kd.int .u32) 77 ((w122.setCell ⟨gb149, 0, none⟩ (.int .u64 t146)).setCell ⟨gb149, 1, none⟩ (.int .u64 t147)) w.heap.size (fun k_ => some k_ ≠ (.slice Ao21 t107.length co21 : Value).ownBlock ∧ some k_ ≠ (.slice Ao53 t130.length co53 : Value).ownBlock) (.slice Ao120 t140.length co120) t140) := ⟨by (with_reducible repeat (first | apply Kd.R_alloc | apply Kd.R_drewN | apply Kd.R_drew)); exact Kd.R_mono (Kd.R_far (p := ⟨gb149, 1, none⟩) (Kd.R_far (p := ⟨gb149, 0, none⟩) (Kd.R_types HO142.out BK149.out (by decide)) (fun _ hk => hk.2) (.int .u64 t146)) (fun _ hk => hk.2) (.int .u64 t147)) (fun _ hk => ⟨hk.1.1.2, hk.1.2⟩)⟩
                          have n3_ : Aside0 (((w122.setCell ⟨gb149, 0, none⟩ (.int .u64 t146)).setCell ⟨gb149, 1, none⟩ (.int .u64 t147)).heap[gb112]? = some (.cells #[.int .i64 t104, .int .i64 t105, .bool t106, .slice Ao21 t107.length co21, .int .i64 t110] 25 (0, 0))) := ⟨by (with_reducible repeat (first | refine blk_drewN ?_ _ | refine blk_drew ?_ | refine blk_alloc ?_ _)); refine blk_far ?_ NB112_149.out _; (with_reducible repeat (first | refine blk_drewN ?_ _ | refine blk_drew ?_ | refine blk_alloc ?_ _)); refine blk_far ?_ NB112_149.out _; (with_reducible repeat (first | refine blk_drewN ?_ _ | refine blk_drew ?_ | refine blk_alloc ?_ _)); exact BK112.out⟩
                          have n4_ : Aside0 (((w122.setCell ⟨gb149, 0, none⟩ (.int .u64 t146)).setCell ⟨gb149, 1, none⟩ (.int .u64 t147)).heap[gb119]? = some (.cells #[.int .i64 t113, .int .i64 t114, .int .i64 t115, .int .i64 t116, .int .i64 t117] 57 (0, 0))) := ⟨by (with_reducible repeat (first | refine blk_drewN ?_ _ | refine blk_drew ?_ | refine blk_alloc ?_ _)); refine blk_far ?_ NB119_149.out _; (with_reducible repeat (first | refine blk_drewN ?_ _ | refine blk_drew ?_ | refine blk_alloc ?_ _)); refine blk_far ?_ NB119_149.out _; (with_reducible repeat (first | refine blk_drewN ?_ _ | refine blk_drew ?_ | refine blk_alloc ?_ _)); exact BK119.out⟩
                          have n5_ : Aside0 (((w122.setCell ⟨gb149, 0, none⟩ (.int .u64 t146)).setCell ⟨gb149, 1, none⟩ (.int .u64 t147)).heap[gb126]? = some (.cells #[.int .u64 t123, .int .u64 t124] 28 (0, 0))) := ⟨by (with_reducible repeat (first | refine blk_drewN ?_ _ | refine blk_drew ?_ | refine blk_alloc ?_ _)); refine blk_far ?_ NB126_149.out _; (with_reducible repeat (first | refine blk_drewN ?_ _ | refine blk_drew ?_ | refine blk_alloc ?_ _)); refine blk_far ?_ NB126_149.out _; (with_reducible repeat (first | refine blk_drewN ?_ _ | refine blk_drew ?_ | refine blk_alloc ?_ _)); exact BK126.out⟩
                          have n6_ : Aside0 (((w122.setCell ⟨gb149, 0, none⟩ (.int .u64 t146)).setCell ⟨gb149, 1, none⟩ (.int .u64 t147)).heap[gb135]? = some (.cells #[.int .i64 t127, .int .i64 t128, .bool t129, .slice Ao53 t130.length co53, .int .i64 t133] 25 (0, 0))) := ⟨by (with_reducible repeat (first | refine blk_drewN ?_ _ | refine blk_drew ?_ | refine blk_alloc ?_ _)); refine blk_far ?_ NB135_149.out _; (with_reducible repeat (first | refine blk_drewN ?_ _ | refine blk_drew ?_ | refine blk_alloc ?_ _)); refine blk_far ?_ NB135_149.out _; (with_reducible repeat (first | refine blk_drewN ?_ _ | refine blk_drew ?_ | refine blk_alloc ?_ _)); exact BK135.out⟩
                          have n7_ : Aside0 (((w122.setCell ⟨gb149, 0, none⟩ (.int .u64 t146)).setCell ⟨gb149, 1, none⟩ (.int .u64 t147)).heap[gb145]? = some (.cells #[.int .i64 t137, .int .i64 t138, .bool t139, .slice Ao120 t140.length co120, .int .i64 t143] 25 (0, 0))) := ⟨by (with_reducible repeat (first | refine blk_drewN ?_ _ | refine blk_drew ?_ | refine blk_alloc ?_ _)); refine blk_far ?_ NB145_149.out _; (with_reducible repeat (first | refine blk_drewN ?_ _ | refine blk_drew ?_ | refine blk_alloc ?_ _)); refine blk_far ?_ NB145_149.out _; (with_reducible repeat (first | refine blk_drewN ?_ _ | refine blk_drew ?_ | refine blk_alloc ?_ _)); exact BK145.out⟩
                          have n8_ : Aside0 (((w122.setCell ⟨gb149, 0, none⟩ (.int .u64 t146)).setCell ⟨gb149, 1, none⟩ (.int .u64 t147)).heap[gb149]? = some (.cells #[.int .u64 t146, .int .u64 t147] 28 (0, 0))) := ⟨by (with_reducible repeat (first | refine blk_drewN ?_ _ | refine blk_drew ?_ | refine blk_alloc ?_ _)); refine blk_put (cs := #[.int .u64 t146, .int .u64 0]) ?_ 1 _ rfl; (with_reducible repeat (first | refine blk_drewN ?_ _ | refine blk_drew ?_ | refine blk_alloc ?_ _)); refine blk_put (cs := #[.int .u64 0, .int .u64 0]) ?_ 0 _ rfl; (with_reducible repeat (first | refine blk_drewN ?_ _ | refine blk_drew ?_ | refine blk_alloc ?_ _)); exact BK149.out⟩
                          have n9_ : Aside0 (Below w.heap.size w ((w122.setCell ⟨gb149, 0, none⟩ (.int .u64 t146)).setCell ⟨gb149, 1, none⟩ (.int .u64 t147))) := ⟨zb HB.out⟩
                          (try clear HO_113003)
                          (try clear HO_136003)
                          (try clear HO142)
                          (try clear BK112)
                          (try clear BK119)
                          (try clear BK126)
                          (try clear BK135)
                          (try clear BK145)
                          (try clear BK149)
                          (try clear HB)
                          generalize ((w122.setCell ⟨gb149, 0, none⟩ (.int .u64 t146)).setCell ⟨gb149, 1, none⟩ (.int .u64 t147)) = w129 at n0_ n1_ n2_ n3_ n4_ n5_ n6_ n7_ n8_ n9_ ⊢
                          have HO_113003 := n0_
                          have HO_136003 := n1_
                          have HO142 := n2_
                          have BK112 := n3_
                          have BK119 := n4_
                          have BK126 := n5_
                          have BK135 := n6_
                          have BK145 := n7_
                          have BK149 := n8_
                          have HB := n9_
                          clear n0_ n1_ n2_ n3_ n4_ n5_ n6_ n7_ n8_ n9_
                          have n0_ := Aside0.mk (Kd.R_drew HO_113003.out)
                          have n1_ := Aside0.mk (Kd.R_drew HO_136003.out)
                          have n2_ := Aside0.mk (Kd.R_drew HO142.out)
                          have n3_ := Aside0.mk (blk_drew BK112.out)
                          have n4_ := Aside0.mk (blk_drew BK119.out)
                          have n5_ := Aside0.mk (blk_drew BK126.out)
                          have n6_ := Aside0.mk (blk_drew BK135.out)
                          have n7_ := Aside0.mk (blk_drew BK145.out)
                          have n8_ := Aside0.mk (blk_drew BK149.out)
                          have n9_ := Aside0.mk (below_drew1 HB.out)
                          clear HO_113003
                          clear HO_136003
                          clear HO142
                          clear BK112
                          clear BK119
                          clear BK126
                          clear BK135
                          clear BK145
                          clear BK149
                          clear HB
                          have HO_113003 := n0_
                          have HO_136003 := n1_
                          have HO142 := n2_
                          have BK112 := n3_
                          have BK119 := n4_
                          have BK126 := n5_
                          have BK135 := n6_
                          have BK145 := n7_
                          have BK149 := n8_
                          have HB := n9_
                          clear n0_ n1_ n2_ n3_ n4_ n5_ n6_ n7_ n8_ n9_
                          refine start_ (n := 19) (S := fun w' => True) (ds := []) #[false, false, false, false, false, false, false, false, false, false, false, false, false, false, false, false, false, false, false] (by kernel_rfl) rfl rfl trivial (fun hHeld => ?_); refine with_tabW sorobanlaw05_BinarySpecials.tab21 sorobanlaw05_BinarySpecials.bits21 (fun HT_ HW_ => ?_)
                          generalize w129.drew = w130 at HO_113003 HO_136003 HO142 BK112 BK119 BK126 BK135 BK145 BK149 HB hHeld ⊢
                          refine one_ (i := 0) (N := some 118) #[true, false, false, false, false, false, false, false, false, false, false, false, false, false, false, false, false, false, false] rfl rfl (one_of HT_.out (by kernel_rfl)) (by decide) (fun K hK => ?_)
                          refine goes_ Tryd.func11 (by kernel_rfl) rfl #[] (by rfl) rfl rfl zm ?_
                          with_reducible refine (sorobanlaw05_sanity.calls  true _ A69.out (HTAB.out.below (zb HB.out))).mono ?_
                          rintro e w131 ⟨rfl, hb⟩
                          refine ⟨_, rfl, ?_⟩
                          have n0_ := Aside0.mk (Kd.R_below (zr HO_113003.out) hb)
                          have n1_ := Aside0.mk (Kd.R_below (zr HO_136003.out) hb)
                          have n2_ := Aside0.mk (Kd.R_below (zr HO142.out) hb)
                          have n3_ := Aside0.mk (blk_below (g := gb112) (o := .cells #[.int .i64 t104, .int .i64 t105, .bool t106, .slice Ao21 t107.length co21, .int .i64 t110] 25 (0, 0)) (zk BK112.out) hb)
                          have n4_ := Aside0.mk (blk_below (g := gb119) (o := .cells #[.int .i64 t113, .int .i64 t114, .int .i64 t115, .int .i64 t116, .int .i64 t117] 57 (0, 0)) (zk BK119.out) hb)
                          have n5_ := Aside0.mk (blk_below (g := gb126) (o := .cells #[.int .u64 t123, .int .u64 t124] 28 (0, 0)) (zk BK126.out) hb)
                          have n6_ := Aside0.mk (blk_below (g := gb135) (o := .cells #[.int .i64 t127, .int .i64 t128, .bool t129, .slice Ao53 t130.length co53, .int .i64 t133] 25 (0, 0)) (zk BK135.out) hb)
                          have n7_ := Aside0.mk (blk_below (g := gb145) (o := .cells #[.int .i64 t137, .int .i64 t138, .bool t139, .slice Ao120 t140.length co120, .int .i64 t143] 25 (0, 0)) (zk BK145.out) hb)
                          have n8_ := Aside0.mk (blk_below (g := gb149) (o := .cells #[.int .u64 t146, .int .u64 t147] 28 (0, 0)) (zk BK149.out) hb)
                          have n9_ := Aside0.mk (below_step (zb HB.out) hb)
                          clear HO_113003
                          clear HO_136003
                          clear HO142
                          clear BK112
                          clear BK119
                          clear BK126
                          clear BK135
                          clear BK145
                          clear BK149
                          clear HB
                          have HO_113003 := n0_
                          have HO_136003 := n1_
                          have HO142 := n2_
                          have BK112 := n3_
                          have BK119 := n4_
                          have BK126 := n5_
                          have BK135 := n6_
                          have BK145 := n7_
                          have BK149 := n8_
                          have HB := n9_
                          clear n0_ n1_ n2_ n3_ n4_ n5_ n6_ n7_ n8_ n9_
                          (try clear hb)
                          (try clear hb2)
                          (try clear hk)
                          (try clear hi)
                          refine hK.out _ _ trivial (fun hHeld => ?_)
                          clear hK K
                          refine norm_ (a' := ?_) ?_ ?_
                          rotate_left
                          · show Act.put _ (some 118) _ = _
                            simp only [Act.put, List.setIfInBounds_toArray, List.set_cons_zero, List.set_cons_succ, i64_w, i32_w]
                            rfl
                          refine pure_ (i := 1) (N := some 119) (v := ?_) (a' := ?_) #[true, true, false, false, false, false, false, false, false, false, false, false, false, false, false, false, false, false, false] rfl rfl (any_of HT_.out (by kernel_rfl)) (fun _ _ _ h => h) (Or.inl ⟨by rfl, ?_⟩) ?_ ?_
                          rotate_left
                          · intro w'
                            go_simp
                            with_reducible rfl
                          rotate_left
                          · simp only [Act.put, List.setIfInBounds_toArray, List.set_cons_zero, List.set_cons_succ, i64_w, i32_w]
                            rfl
                          refine pure_ (i := 2) (N := some 120) (v := ?_) (a' := ?_) #[true, true, true, false, false, false, false, false, false, false, false, false, false, false, false, false, false, false, false] rfl rfl (any_of HT_.out (by kernel_rfl)) (fun _ _ _ h => h) (Or.inl ⟨by rfl, ?_⟩) ?_ ?_
                          rotate_left
                          · intro w'
                            go_simp
                            with_reducible rfl
                          rotate_left
                          · simp only [Act.put, List.setIfInBounds_toArray, List.set_cons_zero, List.set_cons_succ, i64_w, i32_w]
                            rfl
                          refine pure_ (i := 3) (N := some 121) (v := ?_) (a' := ?_) #[true, true, true, true, false, false, false, false, false, false, false, false, false, false, false, false, false, false, false] rfl rfl (any_of HT_.out (by kernel_rfl)) (fun _ _ _ h => h) (Or.inl ⟨by rfl, ?_⟩) ?_ ?_
                          rotate_left
                          · intro w'
                            go_simp
                            with_reducible rfl
                          rotate_left
                          · simp only [Act.put, List.setIfInBounds_toArray, List.set_cons_zero, List.set_cons_succ, i64_w, i32_w]
                            rfl
                          refine pure_ (i := 4) (N := some 122) (v := ?_) (a' := ?_) #[true, true, true, true, true, false, false, false, false, false, false, false, false, false, false, false, false, false, false] rfl rfl (any_of HT_.out (by kernel_rfl)) (fun _ _ _ h => h) (Or.inl ⟨by rfl, ?_⟩) ?_ ?_
                          rotate_left
                          · intro w'
                            go_simp
                            with_reducible rfl
                          rotate_left
                          · simp only [Act.put, List.setIfInBounds_toArray, List.set_cons_zero, List.set_cons_succ, i64_w, i32_w]
                            rfl
                          refine pure_ (i := 5) (N := some 123) (v := undef) (a' := ?_) #[true, true, true, true, true, true, false, false, false, false, false, false, false, false, false, false, false, false, false] rfl rfl (any_of HT_.out (by kernel_rfl)) (fun _ _ _ h => h) (Or.inr ⟨by rfl, rfl⟩) ?_ ?_
                          rotate_left
                          · simp only [Act.put, List.setIfInBounds_toArray, List.set_cons_zero, List.set_cons_succ, i64_w, i32_w]
                            rfl
                          refine pure_ (i := 6) (N := some 124) (v := undef) (a' := ?_) #[true, true, true, true, true, true, true, false, false, false, false, false, false, false, false, false, false, false, false] rfl rfl (any_of HT_.out (by kernel_rfl)) (fun _ _ _ h => h) (Or.inr ⟨by rfl, rfl⟩) ?_ ?_
                          rotate_left
                          · simp only [Act.put, List.setIfInBounds_toArray, List.set_cons_zero, List.set_cons_succ, i64_w, i32_w]
                            rfl
                          refine pure_ (i := 7) (N := some 125) (v := undef) (a' := ?_) #[true, true, true, true, true, true, true, true, false, false, false, false, false, false, false, false, false, false, false] rfl rfl (any_of HT_.out (by kernel_rfl)) (fun _ _ _ h => h) (Or.inr ⟨by rfl, rfl⟩) ?_ ?_
                          rotate_left
                          · simp only [Act.put, List.setIfInBounds_toArray, List.set_cons_zero, List.set_cons_succ, i64_w, i32_w]
                            rfl
                          refine pure_ (i := 8) (N := some 126) (v := undef) (a' := ?_) #[true, true, true, true, true, true, true, true, true, false, false, false, false, false, false, false, false, false, false] rfl rfl (any_of HT_.out (by kernel_rfl)) (fun _ _ _ h => h) (Or.inr ⟨by rfl, rfl⟩) ?_ ?_
                          rotate_left
                          · simp only [Act.put, List.setIfInBounds_toArray, List.set_cons_zero, List.set_cons_succ, i64_w, i32_w]
                            rfl
                          refine pure_ (i := 9) (N := some 127) (v := undef) (a' := ?_) #[true, true, true, true, true, true, true, true, true, true, false, false, false, false, false, false, false, false, false] rfl rfl (any_of HT_.out (by kernel_rfl)) (fun _ _ _ h => h) (Or.inr ⟨by rfl, rfl⟩) ?_ ?_
                          rotate_left
                          · simp only [Act.put, List.setIfInBounds_toArray, List.set_cons_zero, List.set_cons_succ, i64_w, i32_w]
                            rfl
                          refine pure_ (i := 10) (N := some 128) (v := undef) (a' := ?_) #[true, true, true, true, true, true, true, true, true, true, true, false, false, false, false, false, false, false, false] rfl rfl (any_of HT_.out (by kernel_rfl)) (fun _ _ _ h => h) (Or.inr ⟨by rfl, rfl⟩) ?_ ?_
                          rotate_left
                          · simp only [Act.put, List.setIfInBounds_toArray, List.set_cons_zero, List.set_cons_succ, i64_w, i32_w]
                            rfl
                          refine pure_ (i := 11) (N := some 129) (v := undef) (a' := ?_) #[true, true, true, true, true, true, true, true, true, true, true, true, false, false, false, false, false, false, false] rfl rfl (any_of HT_.out (by kernel_rfl)) (fun _ _ _ h => h) (Or.inr ⟨by rfl, rfl⟩) ?_ ?_
                          rotate_left
                          · simp only [Act.put, List.setIfInBounds_toArray, List.set_cons_zero, List.set_cons_succ, i64_w, i32_w]
                            rfl
                          refine pure_ (i := 12) (N := some 130) (v := undef) (a' := ?_) #[true, true, true, true, true, true, true, true, true, true, true, true, true, false, false, false, false, false, false] rfl rfl (any_of HT_.out (by kernel_rfl)) (fun _ _ _ h => h) (Or.inr ⟨by rfl, rfl⟩) ?_ ?_
                          rotate_left
                          · simp only [Act.put, List.setIfInBounds_toArray, List.set_cons_zero, List.set_cons_succ, i64_w, i32_w]
                            rfl
                          refine pure_ (i := 13) (N := some 131) (v := undef) (a' := ?_) #[true, true, true, true, true, true, true, true, true, true, true, true, true, true, false, false, false, false, false] rfl rfl (any_of HT_.out (by kernel_rfl)) (fun _ _ _ h => h) (Or.inr ⟨by rfl, rfl⟩) ?_ ?_
                          rotate_left
                          · simp only [Act.put, List.setIfInBounds_toArray, List.set_cons_zero, List.set_cons_succ, i64_w, i32_w]
                            rfl
                          refine pure_ (i := 14) (N := some 132) (v := undef) (a' := ?_) #[true, true, true, true, true, true, true, true, true, true, true, true, true, true, true, false, false, false, false] rfl rfl (any_of HT_.out (by kernel_rfl)) (fun _ _ _ h => h) (Or.inr ⟨by rfl, rfl⟩) ?_ ?_
                          rotate_left
                          · simp only [Act.put, List.setIfInBounds_toArray, List.set_cons_zero, List.set_cons_succ, i64_w, i32_w]
                            rfl
                          refine pure_ (i := 15) (N := some 133) (v := undef) (a' := ?_) #[true, true, true, true, true, true, true, true, true, true, true, true, true, true, true, true, false, false, false] rfl rfl (any_of HT_.out (by kernel_rfl)) (fun _ _ _ h => h) (Or.inr ⟨by rfl, rfl⟩) ?_ ?_
                          rotate_left
                          · simp only [Act.put, List.setIfInBounds_toArray, List.set_cons_zero, List.set_cons_succ, i64_w, i32_w]
                            rfl
                          refine pure_ (i := 16) (N := some 134) (v := ?_) (a' := ?_) #[true, true, true, true, true, true, true, true, true, true, true, true, true, true, true, true, true, false, false] rfl rfl (any_of HT_.out (by kernel_rfl)) (fun _ _ _ h => h) (Or.inl ⟨by rfl, ?_⟩) ?_ ?_
                          rotate_left
                          · intro w'
                            go_simp
                            with_reducible rfl
                          rotate_left
                          · simp only [Act.put, List.setIfInBounds_toArray, List.set_cons_zero, List.set_cons_succ, i64_w, i32_w]
                            rfl
                          refine pure_ (i := 17) (N := some 135) (v := ?_) (a' := ?_) #[true, true, true, true, true, true, true, true, true, true, true, true, true, true, true, true, true, true, false] rfl rfl (any_of HT_.out (by kernel_rfl)) (fun _ _ _ h => h) (Or.inl ⟨by rfl, ?_⟩) ?_ ?_
                          rotate_left
                          · intro w'
                            go_simp
                            with_reducible rfl
                          rotate_left
                          · simp only [Act.put, List.setIfInBounds_toArray, List.set_cons_zero, List.set_cons_succ, i64_w, i32_w]
                            rfl
                          refine pure_ (i := 18) (N := some 10) (v := ?_) (a' := ?_) #[true, true, true, true, true, true, true, true, true, true, true, true, true, true, true, true, true, true, true] rfl rfl (any_of HT_.out (by kernel_rfl)) (fun _ _ _ h => h) (Or.inl ⟨by rfl, ?_⟩) ?_ ?_
                          rotate_left
                          · intro w'
                            go_simp
                            with_reducible rfl
                          rotate_left
                          · simp only [Act.put, List.setIfInBounds_toArray, List.set_cons_zero, List.set_cons_succ, i64_w, i32_w]
                            rfl
                          refine done_ (done_of HT_.out (by kernel_rfl)) ?_
                          try go_wp2
                          go_ret
                          exact ⟨by first | rfl | (simp [errW_none, errW_some] <;> rfl) | (simp [*, errW_none, errW_some] <;> rfl), by repeat (first | (with_reducible first | exact HB.out | apply below_alloc | apply pw_below_drewN | apply below_drew1 | refine below_set ?_ GE112.out | refine below_set ?_ GE119.out | refine below_set ?_ GE126.out | refine below_set ?_ GE135.out | refine below_set ?_ GE145.out | refine below_set ?_ GE149.out) | exact HB.out)⟩
                      · replace c70 := Bool.eq_false_iff.mpr c70
                        subst c70
                        have H1 : (some false) = some r := by rw [if_neg (show ¬ (false = true) by decide)] at H; exact H
                        clear H
                        have H := H1
                        clear H1
                        obtain rfl := Option.some.inj H
                        try go_wp2_with (first | ((with_reducible refine gate_callee (f := 27) rfl ?_); refine goesL_ (some 110) rfl rfl Tryd.func27 (by kernel_rfl) rfl #[.int .i64 t101, .int .i64 x12_8, .bool a2, .slice A4 l4.length c4] rfl zm ?_; (with_reducible refine (binary_Special.calls t101 x12_8 a2 _ _ l4 t137 t138 t139 t140 t143 t144 _ ?side1 ?side2 A67.out).mono ?_); (case side1 => repeat (first | exact (Kd.C_below HR4.out HB.out) | (with_reducible refine Kd.C_alloc ?_ _) | (with_reducible refine Kd.C_drewN ?_ _) | (with_reducible refine Kd.C_drew ?_))); (case side2 => exact HC4.out); rintro e w132 ⟨v141, rfl, ho0, hb⟩; refine ⟨_, rfl, ?_⟩; have n0_ := Aside0.mk (Kd.R_elder' (zr HO_113003.out) (Kd.R_base ho0) hb); have n1_ := Aside0.mk (Kd.R_elder' (zr HO_136003.out) (Kd.R_base ho0) hb); have n2_ := Aside0.mk (Kd.R_lower (Kd.R_new' (Kd.R_new' ho0 (Kd.R_lt (zr HO_113003.out))) (Kd.R_lt (zr HO_136003.out))) (below_size (zb HB.out))); have n3_ := Aside0.mk (blk_below (g := gb112) (o := .cells #[.int .i64 t104, .int .i64 t105, .bool t106, .slice Ao21 t107.length co21, .int .i64 t110] 25 (0, 0)) (zk BK112.out) hb); have n4_ := Aside0.mk (blk_below (g := gb119) (o := .cells #[.int .i64 t113, .int .i64 t114, .int .i64 t115, .int .i64 t116, .int .i64 t117] 57 (0, 0)) (zk BK119.out) hb); have n5_ := Aside0.mk (blk_below (g := gb126) (o := .cells #[.int .u64 t123, .int .u64 t124] 28 (0, 0)) (zk BK126.out) hb); have n6_ := Aside0.mk (blk_below (g := gb135) (o := .cells #[.int .i64 t127, .int .i64 t128, .bool t129, .slice Ao53 t130.length co53, .int .i64 t133] 25 (0, 0)) (zk BK135.out) hb); have n7_ := Aside0.mk (below_step (zb HB.out) hb); clear HO_113003; clear HO_136003; clear BK112; clear BK119; clear BK126; clear BK135; clear HB; have HO_113003 := n0_; have HO_136003 := n1_; have HO142 := n2_; have BK112 := n3_; have BK119 := n4_; have BK126 := n5_; have BK135 := n6_; have HB := n7_; clear n0_ n1_ n2_ n3_ n4_ n5_ n6_ n7_; (try clear hb); (try clear hb2); (try clear hk); (try clear hi); (try clear ho0)) | ((with_reducible refine gate_dst (N := 23) rfl ?_); refine box_event ?hg (N := 23) ?hd (cs := #[.int .i64 0, .int .i64 0, .bool false, .slice none 0 0, .int .i64 0]) (t := 25) ?hr ?_; (case hd => rfl); (case hg => rfl); (case hr => first | (go_simp; done) | (go_simp; rfl)); intro gb145 hg w133 hbox hb; have n0_ := Aside0.mk (Kd.R_below (zr HO_113003.out) hb); have n1_ := Aside0.mk (Kd.R_below (zr HO_136003.out) hb); have n2_ := Aside0.mk (Kd.R_below (zr HO142.out) hb); have n3_ := Aside0.mk (blk_below (g := gb112) (o := .cells #[.int .i64 t104, .int .i64 t105, .bool t106, .slice Ao21 t107.length co21, .int .i64 t110] 25 (0, 0)) (zk BK112.out) hb); have n4_ := Aside0.mk (blk_below (g := gb119) (o := .cells #[.int .i64 t113, .int .i64 t114, .int .i64 t115, .int .i64 t116, .int .i64 t117] 57 (0, 0)) (zk BK119.out) hb); have n5_ := Aside0.mk (blk_below (g := gb126) (o := .cells #[.int .u64 t123, .int .u64 t124] 28 (0, 0)) (zk BK126.out) hb); have n6_ := Aside0.mk (blk_below (g := gb135) (o := .cells #[.int .i64 t127, .int .i64 t128, .bool t129, .slice Ao53 t130.length co53, .int .i64 t133] 25 (0, 0)) (zk BK135.out) hb); have n7_ := Aside0.mk (below_step (zb HB.out) hb); have n8_ := Aside0.mk (hbox); have n9_ := Aside0.mk ((by rw [hg]; exact (below_size (zb HB.out)) : w.heap.size ≤ gb145)); have n10_ := Aside0.mk ((by rw [hg]; exact (below_size (zb HB.out)) : w.heap.size ≤ gb145)); have n11_ := Aside0.mk ((by rw [hg]; exact Nat.ne_of_lt (blk_lt (g := gb112) (o := .cells #[.int .i64 t104, .int .i64 t105, .bool t106, .slice Ao21 t107.length co21, .int .i64 t110] 25 (0, 0)) (zk BK112.out)) : gb112 ≠ gb145)); have n12_ := Aside0.mk ((by rw [hg]; exact Nat.ne_of_gt (blk_lt (g := gb112) (o := .cells #[.int .i64 t104, .int .i64 t105, .bool t106, .slice Ao21 t107.length co21, .int .i64 t110] 25 (0, 0)) (zk BK112.out)) : gb145 ≠ gb112)); have n13_ := Aside0.mk ((by rw [hg]; exact Nat.ne_of_lt (blk_lt (g := gb119) (o := .cells #[.int .i64 t113, .int .i64 t114, .int .i64 t115, .int .i64 t116, .int .i64 t117] 57 (0, 0)) (zk BK119.out)) : gb119 ≠ gb145)); have n14_ := Aside0.mk ((by rw [hg]; exact Nat.ne_of_gt (blk_lt (g := gb119) (o := .cells #[.int .i64 t113, .int .i64 t114, .int .i64 t115, .int .i64 t116, .int .i64 t117] 57 (0, 0)) (zk BK119.out)) : gb145 ≠ gb119)); have n15_ := Aside0.mk ((by rw [hg]; exact Nat.ne_of_lt (blk_lt (g := gb126) (o := .cells #[.int .u64 t123, .int .u64 t124] 28 (0, 0)) (zk BK126.out)) : gb126 ≠ gb145)); have n16_ := Aside0.mk ((by rw [hg]; exact Nat.ne_of_gt (blk_lt (g := gb126) (o := .cells #[.int .u64 t123, .int .u64 t124] 28 (0, 0)) (zk BK126.out)) : gb145 ≠ gb126)); have n17_ := Aside0.mk ((by rw [hg]; exact Nat.ne_of_lt (blk_lt (g := gb135) (o := .cells #[.int .i64 t127, .int .i64 t128, .bool t129, .slice Ao53 t130.length co53, .int .i64 t133] 25 (0, 0)) (zk BK135.out)) : gb135 ≠ gb145)); have n18_ := Aside0.mk ((by rw [hg]; exact Nat.ne_of_gt (blk_lt (g := gb135) (o := .cells #[.int .i64 t127, .int .i64 t128, .bool t129, .slice Ao53 t130.length co53, .int .i64 t133] 25 (0, 0)) (zk BK135.out)) : gb145 ≠ gb135)); clear HO_113003; clear HO_136003; clear HO142; clear BK112; clear BK119; clear BK126; clear BK135; clear HB; have HO_113003 := n0_; have HO_136003 := n1_; have HO142 := n2_; have BK112 := n3_; have BK119 := n4_; have BK126 := n5_; have BK135 := n6_; have HB := n7_; have BK145 := n8_; have GW145 := n9_; have GE145 := n10_; have NB112_145 := n11_; have NB145_112 := n12_; have NB119_145 := n13_; have NB145_119 := n14_; have NB126_145 := n15_; have NB145_126 := n16_; have NB135_145 := n17_; have NB145_135 := n18_; clear n0_ n1_ n2_ n3_ n4_ n5_ n6_ n7_ n8_ n9_ n10_ n11_ n12_ n13_ n14_ n15_ n16_ n17_ n18_; clear hb hbox hg; have hnb134 := NB145_112.out; have hnc134 := NB112_145.out; have hnb135 := NB145_119.out; have hnc135 := NB119_145.out; have hnb136 := NB145_126.out; have hnc136 := NB126_145.out; have hnb137 := NB145_135.out; have hnc137 := NB135_145.out; have hcz138_0 : w133.cell? ⟨gb145, 0, none⟩ = some (.int .i64 0) := (blk_cell BK145.out 0).trans rfl; have hcz138_1 : w133.cell? ⟨gb145, 1, none⟩ = some (.int .i64 0) := (blk_cell BK145.out 1).trans rfl; have hcz138_2 : w133.cell? ⟨gb145, 2, none⟩ = some (.bool false) := (blk_cell BK145.out 2).trans rfl; have hcz138_3 : w133.cell? ⟨gb145, 3, none⟩ = some (.slice none 0 0) := (blk_cell BK145.out 3).trans rfl; have hcz138_4 : w133.cell? ⟨gb145, 4, none⟩ = some (.int .i64 0) := (blk_cell BK145.out 4).trans rfl; have hfz138_0 := blk_frozen BK145.out 0; have hfz138_1 := blk_frozen BK145.out 1; have hfz138_2 := blk_frozen BK145.out 2; have hfz138_3 := blk_frozen BK145.out 3; have hfz138_4 := blk_frozen BK145.out 4; obtain ⟨Ao139, co139, eo139⟩ := Kd.R_slice HO142.out; subst eo139) | ((with_reducible refine gate_callee (f := 12) rfl ?_); refine goesL_ (some 115) rfl rfl Tryd.func12 (by kernel_rfl) rfl #[.agg #[.int .i64 t137, .int .i64 t138, .bool t139, .slice Ao139 t140.length co139, .int .i64 t143]] rfl zm ?_; (with_reducible refine (binary_Encode.calls t137 t138 t139 _ _ t140 t143 t146 t147 t148 _ ?side1 ?side2 A68.out).mono ?_); (case side1 => refine (Kd.R_reads' (e := 77) (base := w.heap.size) (ok := fun k_ => ((True ∧ some k_ ≠ (.slice Ao21 t107.length co21 : Value).ownBlock) ∧ some k_ ≠ (.slice Ao53 t130.length co53 : Value).ownBlock)) (n := t140.length) (c := co139) ?_).2.2; exact (by (with_reducible repeat (first | apply Kd.R_alloc | apply Kd.R_drewN | apply Kd.R_drew)); exact (Kd.R_mono (Kd.R_far (p := ⟨gb145, 4, none⟩) (Kd.R_far (p := ⟨gb145, 3, none⟩) (Kd.R_far (p := ⟨gb145, 2, none⟩) (Kd.R_far (p := ⟨gb145, 1, none⟩) (Kd.R_far (p := ⟨gb145, 0, none⟩) (Kd.R_types HO142.out BK145.out (by decide)) (fun _ hk => hk.2) (.int .i64 t137)) (fun _ hk => hk.2) (.int .i64 t138)) (fun _ hk => hk.2) (.bool t139)) (fun _ hk => hk.2) (.slice Ao139 t140.length co139)) (fun _ hk => hk.2) (.int .i64 t143)) (fun _ h_ => h_.1)))); (case side2 => exact (Kd.R_reads' HO142.out).2.1); rintro e w140 ⟨rfl, hb⟩; refine ⟨_, rfl, ?_⟩; have n0_ := Aside0.mk (Kd.R_below (by (with_reducible repeat (first | apply Kd.R_alloc | apply Kd.R_drewN | apply Kd.R_drew)); exact (Kd.R_mono (Kd.R_far (p := ⟨gb145, 4, none⟩) (Kd.R_far (p := ⟨gb145, 3, none⟩) (Kd.R_far (p := ⟨gb145, 2, none⟩) (Kd.R_far (p := ⟨gb145, 1, none⟩) (Kd.R_far (p := ⟨gb145, 0, none⟩) (Kd.R_types HO_113003.out BK145.out (by decide)) (fun _ hk => hk.2) (.int .i64 t137)) (fun _ hk => hk.2) (.int .i64 t138)) (fun _ hk => hk.2) (.bool t139)) (fun _ hk => hk.2) (.slice Ao139 t140.length co139)) (fun _ hk => hk.2) (.int .i64 t143)) (fun _ h_ => h_.1))) hb); have n1_ := Aside0.mk (Kd.R_below (by (with_reducible repeat (first | apply Kd.R_alloc | apply Kd.R_drewN | apply Kd.R_drew)); exact (Kd.R_mono (Kd.R_far (p := ⟨gb145, 4, none⟩) (Kd.R_far (p := ⟨gb145, 3, none⟩) (Kd.R_far (p := ⟨gb145, 2, none⟩) (Kd.R_far (p := ⟨gb145, 1, none⟩) (Kd.R_far (p := ⟨gb145, 0, none⟩) (Kd.R_types HO_136003.out BK145.out (by decide)) (fun _ hk => hk.2) (.int .i64 t137)) (fun _ hk => hk.2) (.int .i64 t138)) (fun _ hk => hk.2) (.bool t139)) (fun _ hk => hk.2) (.slice Ao139 t140.length co139)) (fun _ hk => hk.2) (.int .i64 t143)) (fun _ h_ => h_.1))) hb); have n2_ := Aside0.mk (Kd.R_below (by (with_reducible repeat (first | apply Kd.R_alloc | apply Kd.R_drewN | apply Kd.R_drew)); exact (Kd.R_mono (Kd.R_far (p := ⟨gb145, 4, none⟩) (Kd.R_far (p := ⟨gb145, 3, none⟩) (Kd.R_far (p := ⟨gb145, 2, none⟩) (Kd.R_far (p := ⟨gb145, 1, none⟩) (Kd.R_far (p := ⟨gb145, 0, none⟩) (Kd.R_types HO142.out BK145.out (by decide)) (fun _ hk => hk.2) (.int .i64 t137)) (fun _ hk => hk.2) (.int .i64 t138)) (fun _ hk => hk.2) (.bool t139)) (fun _ hk => hk.2) (.slice Ao139 t140.length co139)) (fun _ hk => hk.2) (.int .i64 t143)) (fun _ h_ => h_.1))) hb); have n3_ := Aside0.mk (blk_below (g := gb112) (o := .cells #[.int .i64 t104, .int .i64 t105, .bool t106, .slice Ao21 t107.length co21, .int .i64 t110] 25 (0, 0)) (by (with_reducible repeat (first | refine blk_drewN ?_ _ | refine blk_drew ?_ | refine blk_alloc ?_ _)); refine blk_far ?_ NB112_145.out _; (with_reducible repeat (first | refine blk_drewN ?_ _ | refine blk_drew ?_ | refine blk_alloc ?_ _)); refine blk_far ?_ NB112_145.out _; (with_reducible repeat (first | refine blk_drewN ?_ _ | refine blk_drew ?_ | refine blk_alloc ?_ _)); refine blk_far ?_ NB112_145.out _; (with_reducible repeat (first | refine blk_drewN ?_ _ | refine blk_drew ?_ | refine blk_alloc ?_ _)); refine blk_far ?_ NB112_145.out _; (with_reducible repeat (first | refine blk_drewN ?_ _ | refine blk_drew ?_ | refine blk_alloc ?_ _)); refine blk_far ?_ NB112_145.out _; (with_reducible repeat (first | refine blk_drewN ?_ _ | refine blk_drew ?_ | refine blk_alloc ?_ _)); exact BK112.out) hb); have n4_ := Aside0.mk (blk_below (g := gb119) (o := .cells #[.int .i64 t113, .int .i64 t114, .int .i64 t115, .int .i64 t116, .int .i64 t117] 57 (0, 0)) (by (with_reducible repeat (first | refine blk_drewN ?_ _ | refine blk_drew ?_ | refine blk_alloc ?_ _)); refine blk_far ?_ NB119_145.out _; (with_reducible repeat (first | refine blk_drewN ?_ _ | refine blk_drew ?_ | refine blk_alloc ?_ _)); refine blk_far ?_ NB119_145.out _; (with_reducible repeat (first | refine blk_drewN ?_ _ | refine blk_drew ?_ | refine blk_alloc ?_ _)); refine blk_far ?_ NB119_145.out _; (with_reducible repeat (first | refine blk_drewN ?_ _ | refine blk_drew ?_ | refine blk_alloc ?_ _)); refine blk_far ?_ NB119_145.out _; (with_reducible repeat (first | refine blk_drewN ?_ _ | refine blk_drew ?_ | refine blk_alloc ?_ _)); refine blk_far ?_ NB119_145.out _; (with_reducible repeat (first | refine blk_drewN ?_ _ | refine blk_drew ?_ | refine blk_alloc ?_ _)); exact BK119.out) hb); have n5_ := Aside0.mk (blk_below (g := gb126) (o := .cells #[.int .u64 t123, .int .u64 t124] 28 (0, 0)) (by (with_reducible repeat (first | refine blk_drewN ?_ _ | refine blk_drew ?_ | refine blk_alloc ?_ _)); refine blk_far ?_ NB126_145.out _; (with_reducible repeat (first | refine blk_drewN ?_ _ | refine blk_drew ?_ | refine blk_alloc ?_ _)); refine blk_far ?_ NB126_145.out _; (with_reducible repeat (first | refine blk_drewN ?_ _ | refine blk_drew ?_ | refine blk_alloc ?_ _)); refine blk_far ?_ NB126_145.out _; (with_reducible repeat (first | refine blk_drewN ?_ _ | refine blk_drew ?_ | refine blk_alloc ?_ _)); refine blk_far ?_ NB126_145.out _; (with_reducible repeat (first | refine blk_drewN ?_ _ | refine blk_drew ?_ | refine blk_alloc ?_ _)); refine blk_far ?_ NB126_145.out _; (with_reducible repeat (first | refine blk_drewN ?_ _ | refine blk_drew ?_ | refine blk_alloc ?_ _)); exact BK126.out) hb); have n6_ := Aside0.mk (blk_below (g := gb135) (o := .cells #[.int .i64 t127, .int .i64 t128, .bool t129, .slice Ao53 t130.length co53, .int .i64 t133] 25 (0, 0)) (by (with_reducible repeat (first | refine blk_drewN ?_ _ | refine blk_drew ?_ | refine blk_alloc ?_ _)); refine blk_far ?_ NB135_145.out _; (with_reducible repeat (first | refine blk_drewN ?_ _ | refine blk_drew ?_ | refine blk_alloc ?_ _)); refine blk_far ?_ NB135_145.out _; (with_reducible repeat (first | refine blk_drewN ?_ _ | refine blk_drew ?_ | refine blk_alloc ?_ _)); refine blk_far ?_ NB135_145.out _; (with_reducible repeat (first | refine blk_drewN ?_ _ | refine blk_drew ?_ | refine blk_alloc ?_ _)); refine blk_far ?_ NB135_145.out _; (with_reducible repeat (first | refine blk_drewN ?_ _ | refine blk_drew ?_ | refine blk_alloc ?_ _)); refine blk_far ?_ NB135_145.out _; (with_reducible repeat (first | refine blk_drewN ?_ _ | refine blk_drew ?_ | refine blk_alloc ?_ _)); exact BK135.out) hb); have n7_ := Aside0.mk (blk_below (g := gb145) (o := .cells #[.int .i64 t137, .int .i64 t138, .bool t139, .slice Ao139 t140.length co139, .int .i64 t143] 25 (0, 0)) (by (with_reducible repeat (first | refine blk_drewN ?_ _ | refine blk_drew ?_ | refine blk_alloc ?_ _)); refine blk_put (cs := #[.int .i64 t137, .int .i64 t138, .bool t139, .slice Ao139 t140.length co139, .int .i64 0]) ?_ 4 _ rfl; (with_reducible repeat (first | refine blk_drewN ?_ _ | refine blk_drew ?_ | refine blk_alloc ?_ _)); refine blk_put (cs := #[.int .i64 t137, .int .i64 t138, .bool t139, .slice none 0 0, .int .i64 0]) ?_ 3 _ rfl; (with_reducible repeat (first | refine blk_drewN ?_ _ | refine blk_drew ?_ | refine blk_alloc ?_ _)); refine blk_put (cs := #[.int .i64 t137, .int .i64 t138, .bool false, .slice none 0 0, .int .i64 0]) ?_ 2 _ rfl; (with_reducible repeat (first | refine blk_drewN ?_ _ | refine blk_drew ?_ | refine blk_alloc ?_ _)); refine blk_put (cs := #[.int .i64 t137, .int .i64 0, .bool false, .slice none 0 0, .int .i64 0]) ?_ 1 _ rfl; (with_reducible repeat (first | refine blk_drewN ?_ _ | refine blk_drew ?_ | refine blk_alloc ?_ _)); refine blk_put (cs := #[.int .i64 0, .int .i64 0, .bool false, .slice none 0 0, .int .i64 0]) ?_ 0 _ rfl; (with_reducible repeat (first | refine blk_drewN ?_ _ | refine blk_drew ?_ | refine blk_alloc ?_ _)); exact BK145.out) hb); have n8_ := Aside0.mk (below_step (zb HB.out) hb); clear HO_113003; clear HO_136003; clear HO142; clear BK112; clear BK119; clear BK126; clear BK135; clear BK145; clear HB; have HO_113003 := n0_; have HO_136003 := n1_; have HO142 := n2_; have BK112 := n3_; have BK119 := n4_; have BK126 := n5_; have BK135 := n6_; have BK145 := n7_; have HB := n8_; clear n0_ n1_ n2_ n3_ n4_ n5_ n6_ n7_ n8_; (try clear hb); (try clear hb2); (try clear hk); (try clear hi)) | ((with_reducible refine gate_dst (N := 24) rfl ?_); refine box_event ?hg (N := 24) ?hd (cs := #[.int .u64 0, .int .u64 0]) (t := 28) ?hr ?_; (case hd => rfl); (case hg => rfl); (case hr => first | (go_simp; done) | (go_simp; rfl)); intro gb149 hg w141 hbox hb; have n0_ := Aside0.mk (Kd.R_below (zr HO_113003.out) hb); have n1_ := Aside0.mk (Kd.R_below (zr HO_136003.out) hb); have n2_ := Aside0.mk (Kd.R_below (zr HO142.out) hb); have n3_ := Aside0.mk (blk_below (g := gb112) (o := .cells #[.int .i64 t104, .int .i64 t105, .bool t106, .slice Ao21 t107.length co21, .int .i64 t110] 25 (0, 0)) (zk BK112.out) hb); have n4_ := Aside0.mk (blk_below (g := gb119) (o := .cells #[.int .i64 t113, .int .i64 t114, .int .i64 t115, .int .i64 t116, .int .i64 t117] 57 (0, 0)) (zk BK119.out) hb); have n5_ := Aside0.mk (blk_below (g := gb126) (o := .cells #[.int .u64 t123, .int .u64 t124] 28 (0, 0)) (zk BK126.out) hb); have n6_ := Aside0.mk (blk_below (g := gb135) (o := .cells #[.int .i64 t127, .int .i64 t128, .bool t129, .slice Ao53 t130.length co53, .int .i64 t133] 25 (0, 0)) (zk BK135.out) hb); have n7_ := Aside0.mk (blk_below (g := gb145) (o := .cells #[.int .i64 t137, .int .i64 t138, .bool t139, .slice Ao139 t140.length co139, .int .i64 t143] 25 (0, 0)) (zk BK145.out) hb); have n8_ := Aside0.mk (below_step (zb HB.out) hb); have n9_ := Aside0.mk (hbox); have n10_ := Aside0.mk ((by rw [hg]; exact (below_size (zb HB.out)) : w.heap.size ≤ gb149)); have n11_ := Aside0.mk ((by rw [hg]; exact (below_size (zb HB.out)) : w.heap.size ≤ gb149)); have n12_ := Aside0.mk ((by rw [hg]; exact Nat.ne_of_lt (blk_lt (g := gb112) (o := .cells #[.int .i64 t104, .int .i64 t105, .bool t106, .slice Ao21 t107.length co21, .int .i64 t110] 25 (0, 0)) (zk BK112.out)) : gb112 ≠ gb149)); have n13_ := Aside0.mk ((by rw [hg]; exact Nat.ne_of_gt (blk_lt (g := gb112) (o := .cells #[.int .i64 t104, .int .i64 t105, .bool t106, .slice Ao21 t107.length co21, .int .i64 t110] 25 (0, 0)) (zk BK112.out)) : gb149 ≠ gb112)); have n14_ := Aside0.mk ((by rw [hg]; exact Nat.ne_of_lt (blk_lt (g := gb119) (o := .cells #[.int .i64 t113, .int .i64 t114, .int .i64 t115, .int .i64 t116, .int .i64 t117] 57 (0, 0)) (zk BK119.out)) : gb119 ≠ gb149)); have n15_ := Aside0.mk ((by rw [hg]; exact Nat.ne_of_gt (blk_lt (g := gb119) (o := .cells #[.int .i64 t113, .int .i64 t114, .int .i64 t115, .int .i64 t116, .int .i64 t117] 57 (0, 0)) (zk BK119.out)) : gb149 ≠ gb119)); have n16_ := Aside0.mk ((by rw [hg]; exact Nat.ne_of_lt (blk_lt (g := gb126) (o := .cells #[.int .u64 t123, .int .u64 t124] 28 (0, 0)) (zk BK126.out)) : gb126 ≠ gb149)); have n17_ := Aside0.mk ((by rw [hg]; exact Nat.ne_of_gt (blk_lt (g := gb126) (o := .cells #[.int .u64 t123, .int .u64 t124] 28 (0, 0)) (zk BK126.out)) : gb149 ≠ gb126)); have n18_ := Aside0.mk ((by rw [hg]; exact Nat.ne_of_lt (blk_lt (g := gb135) (o := .cells #[.int .i64 t127, .int .i64 t128, .bool t129, .slice Ao53 t130.length co53, .int .i64 t133] 25 (0, 0)) (zk BK135.out)) : gb135 ≠ gb149)); have n19_ := Aside0.mk ((by rw [hg]; exact Nat.ne_of_gt (blk_lt (g := gb135) (o := .cells #[.int .i64 t127, .int .i64 t128, .bool t129, .slice Ao53 t130.length co53, .int .i64 t133] 25 (0, 0)) (zk BK135.out)) : gb149 ≠ gb135)); have n20_ := Aside0.mk ((by rw [hg]; exact Nat.ne_of_lt (blk_lt (g := gb145) (o := .cells #[.int .i64 t137, .int .i64 t138, .bool t139, .slice Ao139 t140.length co139, .int .i64 t143] 25 (0, 0)) (zk BK145.out)) : gb145 ≠ gb149)); have n21_ := Aside0.mk ((by rw [hg]; exact Nat.ne_of_gt (blk_lt (g := gb145) (o := .cells #[.int .i64 t137, .int .i64 t138, .bool t139, .slice Ao139 t140.length co139, .int .i64 t143] 25 (0, 0)) (zk BK145.out)) : gb149 ≠ gb145)); clear HO_113003; clear HO_136003; clear HO142; clear BK112; clear BK119; clear BK126; clear BK135; clear BK145; clear HB; have HO_113003 := n0_; have HO_136003 := n1_; have HO142 := n2_; have BK112 := n3_; have BK119 := n4_; have BK126 := n5_; have BK135 := n6_; have BK145 := n7_; have HB := n8_; have BK149 := n9_; have GW149 := n10_; have GE149 := n11_; have NB112_149 := n12_; have NB149_112 := n13_; have NB119_149 := n14_; have NB149_119 := n15_; have NB126_149 := n16_; have NB149_126 := n17_; have NB135_149 := n18_; have NB149_135 := n19_; have NB145_149 := n20_; have NB149_145 := n21_; clear n0_ n1_ n2_ n3_ n4_ n5_ n6_ n7_ n8_ n9_ n10_ n11_ n12_ n13_ n14_ n15_ n16_ n17_ n18_ n19_ n20_ n21_; clear hb hbox hg; have hnb142 := NB149_112.out; have hnc142 := NB112_149.out; have hnb143 := NB149_119.out; have hnc143 := NB119_149.out; have hnb144 := NB149_126.out; have hnc144 := NB126_149.out; have hnb145 := NB149_135.out; have hnc145 := NB135_149.out; have hnb146 := NB149_145.out; have hnc146 := NB145_149.out; have hcz147_0 : w141.cell? ⟨gb149, 0, none⟩ = some (.int .u64 0) := (blk_cell BK149.out 0).trans rfl; have hcz147_1 : w141.cell? ⟨gb149, 1, none⟩ = some (.int .u64 0) := (blk_cell BK149.out 1).trans rfl; have hfz147_0 := blk_frozen BK149.out 0; have hfz147_1 := blk_frozen BK149.out 1))
                        have n0_ : Aside0 (Kd.R (Kd.int .u32) 77 ((w141.setCell ⟨gb149, 0, none⟩ (.int .u64 t146)).setCell ⟨gb149, 1, none⟩ (.int .u64 t147)) w.heap.size (fun k_ => some k_ ≠ (.slice Ao53 t130.length co53 : Value).ownBlock ∧ some k_ ≠ (.slice Ao139 t140.length co139 : Value).ownBlock) (.slice Ao21 t107.length co21) t107) := ⟨by (with_reducible repeat (first | apply Kd.R_alloc | apply Kd.R_drewN | apply Kd.R_drew)); exact Kd.R_mono (Kd.R_far (p := ⟨gb149, 1, none⟩) (Kd.R_far (p := ⟨gb149, 0, none⟩) (Kd.R_types HO_113003.out BK149.out (by decide)) (fun _ hk => hk.2) (.int .u64 t146)) (fun _ hk => hk.2) (.int .u64 t147)) (fun _ hk => ⟨hk.1.1, hk.1.2⟩)⟩
                        have n1_ : Aside0 (Kd.R (Kd.int .u32) 77 ((w141.setCell ⟨gb149, 0, none⟩ (.int .u64 t146)).setCell ⟨gb149, 1, none⟩ (.int .u64 t147)) w.heap.size (fun k_ => some k_ ≠ (.slice Ao21 t107.length co21 : Value).ownBlock ∧ some k_ ≠ (.slice Ao139 t140.length co139 : Value).ownBlock) (.slice Ao53 t130.length co53) t130) := ⟨by (with_reducible repeat (first | apply Kd.R_alloc | apply Kd.R_drewN | apply Kd.R_drew)); exact Kd.R_mono (Kd.R_far (p := ⟨gb149, 1, none⟩) (Kd.R_far (p := ⟨gb149, 0, none⟩) (Kd.R_types HO_136003.out BK149.out (by decide)) (fun _ hk => hk.2) (.int .u64 t146)) (fun _ hk => hk.2) (.int .u64 t147)) (fun _ hk => ⟨hk.1.1, hk.1.2⟩)⟩
                        have n2_ : Aside0 (Kd.R (Kd.int .u32) 77 ((w141.setCell ⟨gb149, 0, none⟩ (.int .u64 t146)).setCell ⟨gb149, 1, none⟩ (.int .u64 t147)) w.heap.size (fun k_ => some k_ ≠ (.slice Ao21 t107.length co21 : Value).ownBlock ∧ some k_ ≠ (.slice Ao53 t130.length co53 : Value).ownBlock) (.slice Ao139 t140.length co139) t140) := ⟨by (with_reducible repeat (first | apply Kd.R_alloc | apply Kd.R_drewN | apply Kd.R_drew)); exact Kd.R_mono (Kd.R_far (p := ⟨gb149, 1, none⟩) (Kd.R_far (p := ⟨gb149, 0, none⟩) (Kd.R_types HO142.out BK149.out (by decide)) (fun _ hk => hk.2) (.int .u64 t146)) (fun _ hk => hk.2) (.int .u64 t147)) (fun _ hk => ⟨hk.1.1.2, hk.1.2⟩)⟩
                        have n3_ : Aside0 (((w141.setCell ⟨gb149, 0, none⟩ (.int .u64 t146)).setCell ⟨gb149, 1, none⟩ (.int .u64 t147)).heap[gb112]? = some (.cells #[.int .i64 t104, .int .i64 t105, .bool t106, .slice Ao21 t107.length co21, .int .i64 t110] 25 (0, 0))) := ⟨by (with_reducible repeat (first | refine blk_drewN ?_ _ | refine blk_drew ?_ | refine blk_alloc ?_ _)); refine blk_far ?_ NB112_149.out _; (with_reducible repeat (first | refine blk_drewN ?_ _ | refine blk_drew ?_ | refine blk_alloc ?_ _)); refine blk_far ?_ NB112_149.out _; (with_reducible repeat (first | refine blk_drewN ?_ _ | refine blk_drew ?_ | refine blk_alloc ?_ _)); exact BK112.out⟩
                        have n4_ : Aside0 (((w141.setCell ⟨gb149, 0, none⟩ (.int .u64 t146)).setCell ⟨gb149, 1, none⟩ (.int .u64 t147)).heap[gb119]? = some (.cells #[.int .i64 t113, .int .i64 t114, .int .i64 t115, .int .i64 t116, .int .i64 t117] 57 (0, 0))) := ⟨by (with_reducible repeat (first | refine blk_drewN ?_ _ | refine blk_drew ?_ | refine blk_alloc ?_ _)); refine blk_far ?_ NB119_149.out _; (with_reducible repeat (first | refine blk_drewN ?_ _ | refine blk_drew ?_ | refine blk_alloc ?_ _)); refine blk_far ?_ NB119_149.out _; (with_reducible repeat (first | refine blk_drewN ?_ _ | refine blk_drew ?_ | refine blk_alloc ?_ _)); exact BK119.out⟩
                        have n5_ : Aside0 (((w141.setCell ⟨gb149, 0, none⟩ (.int .u64 t146)).setCell ⟨gb149, 1, none⟩ (.int .u64 t147)).heap[gb126]? = some (.cells #[.int .u64 t123, .int .u64 t124] 28 (0, 0))) := ⟨by (with_reducible repeat (first | refine blk_drewN ?_ _ | refine blk_drew ?_ | refine blk_alloc ?_ _)); refine blk_far ?_ NB126_149.out _; (with_reducible repeat (first | refine blk_drewN ?_ _ | refine blk_drew ?_ | refine blk_alloc ?_ _)); refine blk_far ?_ NB126_149.out _; (with_reducible repeat (first | refine blk_drewN ?_ _ | refine blk_drew ?_ | refine blk_alloc ?_ _)); exact BK126.out⟩
                        have n6_ : Aside0 (((w141.setCell ⟨gb149, 0, none⟩ (.int .u64 t146)).setCell ⟨gb149, 1, none⟩ (.int .u64 t147)).heap[gb135]? = some (.cells #[.int .i64 t127, .int .i64 t128, .bool t129, .slice Ao53 t130.length co53, .int .i64 t133] 25 (0, 0))) := ⟨by (with_reducible repeat (first | refine blk_drewN ?_ _ | refine blk_drew ?_ | refine blk_alloc ?_ _)); refine blk_far ?_ NB135_149.out _; (with_reducible repeat (first | refine blk_drewN ?_ _ | refine blk_drew ?_ | refine blk_alloc ?_ _)); refine blk_far ?_ NB135_149.out _; (with_reducible repeat (first | refine blk_drewN ?_ _ | refine blk_drew ?_ | refine blk_alloc ?_ _)); exact BK135.out⟩
                        have n7_ : Aside0 (((w141.setCell ⟨gb149, 0, none⟩ (.int .u64 t146)).setCell ⟨gb149, 1, none⟩ (.int .u64 t147)).heap[gb145]? = some (.cells #[.int .i64 t137, .int .i64 t138, .bool t139, .slice Ao139 t140.length co139, .int .i64 t143] 25 (0, 0))) := ⟨by (with_reducible repeat (first | refine blk_drewN ?_ _ | refine blk_drew ?_ | refine blk_alloc ?_ _)); refine blk_far ?_ NB145_149.out _; (with_reducible repeat (first | refine blk_drewN ?_ _ | refine blk_drew ?_ | refine blk_alloc ?_ _)); refine blk_far ?_ NB145_149.out _; (with_reducible repeat (first | refine blk_drewN ?_ _ | refine blk_drew ?_ | refine blk_alloc ?_ _)); exact BK145.out⟩
                        have n8_ : Aside0 (((w141.setCell ⟨gb149, 0, none⟩ (.int .u64 t146)).setCell ⟨gb149, 1, none⟩ (.int .u64 t147)).heap[gb149]? = some (.cells #[.int .u64 t146, .int .u64 t147] 28 (0, 0))) := ⟨by (with_reducible repeat (first | refine blk_drewN ?_ _ | refine blk_drew ?_ | refine blk_alloc ?_ _)); refine blk_put (cs := #[.int .u64 t146, .int .u64 0]) ?_ 1 _ rfl; (with_reducible repeat (first | refine blk_drewN ?_ _ | refine blk_drew ?_ | refine blk_alloc ?_ _)); refine blk_put (cs := #[.int .u64 0, .int .u64 0]) ?_ 0 _ rfl; (with_reducible repeat (first | refine blk_drewN ?_ _ | refine blk_drew ?_ | refine blk_alloc ?_ _)); exact BK149.out⟩
                        have n9_ : Aside0 (Below w.heap.size w ((w141.setCell ⟨gb149, 0, none⟩ (.int .u64 t146)).setCell ⟨gb149, 1, none⟩ (.int .u64 t147))) := ⟨zb HB.out⟩
                        (try clear HO_113003)
                        (try clear HO_136003)
                        (try clear HO142)
                        (try clear BK112)
                        (try clear BK119)
                        (try clear BK126)
                        (try clear BK135)
                        (try clear BK145)
                        (try clear BK149)
                        (try clear HB)
                        generalize ((w141.setCell ⟨gb149, 0, none⟩ (.int .u64 t146)).setCell ⟨gb149, 1, none⟩ (.int .u64 t147)) = w148 at n0_ n1_ n2_ n3_ n4_ n5_ n6_ n7_ n8_ n9_ ⊢
                        have HO_113003 := n0_
                        have HO_136003 := n1_
                        have HO142 := n2_
                        have BK112 := n3_
                        have BK119 := n4_
                        have BK126 := n5_
                        have BK135 := n6_
                        have BK145 := n7_
                        have BK149 := n8_
                        have HB := n9_
                        clear n0_ n1_ n2_ n3_ n4_ n5_ n6_ n7_ n8_ n9_
                        have n0_ := Aside0.mk (Kd.R_drew HO_113003.out)
                        have n1_ := Aside0.mk (Kd.R_drew HO_136003.out)
                        have n2_ := Aside0.mk (Kd.R_drew HO142.out)
                        have n3_ := Aside0.mk (blk_drew BK112.out)
                        have n4_ := Aside0.mk (blk_drew BK119.out)
                        have n5_ := Aside0.mk (blk_drew BK126.out)
                        have n6_ := Aside0.mk (blk_drew BK135.out)
                        have n7_ := Aside0.mk (blk_drew BK145.out)
                        have n8_ := Aside0.mk (blk_drew BK149.out)
                        have n9_ := Aside0.mk (below_drew1 HB.out)
                        clear HO_113003
                        clear HO_136003
                        clear HO142
                        clear BK112
                        clear BK119
                        clear BK126
                        clear BK135
                        clear BK145
                        clear BK149
                        clear HB
                        have HO_113003 := n0_
                        have HO_136003 := n1_
                        have HO142 := n2_
                        have BK112 := n3_
                        have BK119 := n4_
                        have BK126 := n5_
                        have BK135 := n6_
                        have BK145 := n7_
                        have BK149 := n8_
                        have HB := n9_
                        clear n0_ n1_ n2_ n3_ n4_ n5_ n6_ n7_ n8_ n9_
                        refine start_ (n := 19) (S := fun w' => True) (ds := []) #[false, false, false, false, false, false, false, false, false, false, false, false, false, false, false, false, false, false, false] (by kernel_rfl) rfl rfl trivial (fun hHeld => ?_); refine with_tabW sorobanlaw05_BinarySpecials.tab21 sorobanlaw05_BinarySpecials.bits21 (fun HT_ HW_ => ?_)
                        generalize w148.drew = w149 at HO_113003 HO_136003 HO142 BK112 BK119 BK126 BK135 BK145 BK149 HB hHeld ⊢
                        refine one_ (i := 0) (N := some 118) #[true, false, false, false, false, false, false, false, false, false, false, false, false, false, false, false, false, false, false] rfl rfl (one_of HT_.out (by kernel_rfl)) (by decide) (fun K hK => ?_)
                        refine goes_ Tryd.func11 (by kernel_rfl) rfl #[] (by rfl) rfl rfl zm ?_
                        with_reducible refine (sorobanlaw05_sanity.calls  false _ A69.out (HTAB.out.below (zb HB.out))).mono ?_
                        rintro e w150 ⟨rfl, hb⟩
                        refine ⟨_, rfl, ?_⟩
                        have n0_ := Aside0.mk (Kd.R_below (zr HO_113003.out) hb)
                        have n1_ := Aside0.mk (Kd.R_below (zr HO_136003.out) hb)
                        have n2_ := Aside0.mk (Kd.R_below (zr HO142.out) hb)
                        have n3_ := Aside0.mk (blk_below (g := gb112) (o := .cells #[.int .i64 t104, .int .i64 t105, .bool t106, .slice Ao21 t107.length co21, .int .i64 t110] 25 (0, 0)) (zk BK112.out) hb)
                        have n4_ := Aside0.mk (blk_below (g := gb119) (o := .cells #[.int .i64 t113, .int .i64 t114, .int .i64 t115, .int .i64 t116, .int .i64 t117] 57 (0, 0)) (zk BK119.out) hb)
                        have n5_ := Aside0.mk (blk_below (g := gb126) (o := .cells #[.int .u64 t123, .int .u64 t124] 28 (0, 0)) (zk BK126.out) hb)
                        have n6_ := Aside0.mk (blk_below (g := gb135) (o := .cells #[.int .i64 t127, .int .i64 t128, .bool t129, .slice Ao53 t130.length co53, .int .i64 t133] 25 (0, 0)) (zk BK135.out) hb)
                        have n7_ := Aside0.mk (blk_below (g := gb145) (o := .cells #[.int .i64 t137, .int .i64 t138, .bool t139, .slice Ao139 t140.length co139, .int .i64 t143] 25 (0, 0)) (zk BK145.out) hb)
                        have n8_ := Aside0.mk (blk_below (g := gb149) (o := .cells #[.int .u64 t146, .int .u64 t147] 28 (0, 0)) (zk BK149.out) hb)
                        have n9_ := Aside0.mk (below_step (zb HB.out) hb)
                        clear HO_113003
                        clear HO_136003
                        clear HO142
                        clear BK112
                        clear BK119
                        clear BK126
                        clear BK135
                        clear BK145
                        clear BK149
                        clear HB
                        have HO_113003 := n0_
                        have HO_136003 := n1_
                        have HO142 := n2_
                        have BK112 := n3_
                        have BK119 := n4_
                        have BK126 := n5_
                        have BK135 := n6_
                        have BK145 := n7_
                        have BK149 := n8_
                        have HB := n9_
                        clear n0_ n1_ n2_ n3_ n4_ n5_ n6_ n7_ n8_ n9_
                        (try clear hb)
                        (try clear hb2)
                        (try clear hk)
                        (try clear hi)
                        refine hK.out _ _ trivial (fun hHeld => ?_)
                        clear hK K
                        refine norm_ (a' := ?_) ?_ ?_
                        rotate_left
                        · show Act.put _ (some 118) _ = _
                          simp only [Act.put, List.setIfInBounds_toArray, List.set_cons_zero, List.set_cons_succ, i64_w, i32_w]
                          rfl
                        refine pure_ (i := 1) (N := some 119) (v := ?_) (a' := ?_) #[true, true, false, false, false, false, false, false, false, false, false, false, false, false, false, false, false, false, false] rfl rfl (any_of HT_.out (by kernel_rfl)) (fun _ _ _ h => h) (Or.inl ⟨by rfl, ?_⟩) ?_ ?_
                        rotate_left
                        · intro w'
                          go_simp
                          with_reducible rfl
                        rotate_left
                        · simp only [Act.put, List.setIfInBounds_toArray, List.set_cons_zero, List.set_cons_succ, i64_w, i32_w]
                          rfl
                        refine pure_ (i := 2) (N := some 120) (v := undef) (a' := ?_) #[true, true, true, false, false, false, false, false, false, false, false, false, false, false, false, false, false, false, false] rfl rfl (any_of HT_.out (by kernel_rfl)) (fun _ _ _ h => h) (Or.inr ⟨by rfl, rfl⟩) ?_ ?_
                        rotate_left
                        · simp only [Act.put, List.setIfInBounds_toArray, List.set_cons_zero, List.set_cons_succ, i64_w, i32_w]
                          rfl
                        refine pure_ (i := 3) (N := some 121) (v := undef) (a' := ?_) #[true, true, true, true, false, false, false, false, false, false, false, false, false, false, false, false, false, false, false] rfl rfl (any_of HT_.out (by kernel_rfl)) (fun _ _ _ h => h) (Or.inr ⟨by rfl, rfl⟩) ?_ ?_
                        rotate_left
                        · simp only [Act.put, List.setIfInBounds_toArray, List.set_cons_zero, List.set_cons_succ, i64_w, i32_w]
                          rfl
                        refine pure_ (i := 4) (N := some 122) (v := undef) (a' := ?_) #[true, true, true, true, true, false, false, false, false, false, false, false, false, false, false, false, false, false, false] rfl rfl (any_of HT_.out (by kernel_rfl)) (fun _ _ _ h => h) (Or.inr ⟨by rfl, rfl⟩) ?_ ?_
                        rotate_left
                        · simp only [Act.put, List.setIfInBounds_toArray, List.set_cons_zero, List.set_cons_succ, i64_w, i32_w]
                          rfl
                        refine pure_ (i := 5) (N := some 123) (v := undef) (a' := ?_) #[true, true, true, true, true, true, false, false, false, false, false, false, false, false, false, false, false, false, false] rfl rfl (any_of HT_.out (by kernel_rfl)) (fun _ _ _ h => h) (Or.inr ⟨by rfl, rfl⟩) ?_ ?_
                        rotate_left
                        · simp only [Act.put, List.setIfInBounds_toArray, List.set_cons_zero, List.set_cons_succ, i64_w, i32_w]
                          rfl
                        refine pure_ (i := 6) (N := some 124) (v := undef) (a' := ?_) #[true, true, true, true, true, true, true, false, false, false, false, false, false, false, false, false, false, false, false] rfl rfl (any_of HT_.out (by kernel_rfl)) (fun _ _ _ h => h) (Or.inr ⟨by rfl, rfl⟩) ?_ ?_
                        rotate_left
                        · simp only [Act.put, List.setIfInBounds_toArray, List.set_cons_zero, List.set_cons_succ, i64_w, i32_w]
                          rfl
                        refine pure_ (i := 7) (N := some 125) (v := undef) (a' := ?_) #[true, true, true, true, true, true, true, true, false, false, false, false, false, false, false, false, false, false, false] rfl rfl (any_of HT_.out (by kernel_rfl)) (fun _ _ _ h => h) (Or.inr ⟨by rfl, rfl⟩) ?_ ?_
                        rotate_left
                        · simp only [Act.put, List.setIfInBounds_toArray, List.set_cons_zero, List.set_cons_succ, i64_w, i32_w]
                          rfl
                        refine pure_ (i := 8) (N := some 126) (v := undef) (a' := ?_) #[true, true, true, true, true, true, true, true, true, false, false, false, false, false, false, false, false, false, false] rfl rfl (any_of HT_.out (by kernel_rfl)) (fun _ _ _ h => h) (Or.inr ⟨by rfl, rfl⟩) ?_ ?_
                        rotate_left
                        · simp only [Act.put, List.setIfInBounds_toArray, List.set_cons_zero, List.set_cons_succ, i64_w, i32_w]
                          rfl
                        refine pure_ (i := 9) (N := some 127) (v := undef) (a' := ?_) #[true, true, true, true, true, true, true, true, true, true, false, false, false, false, false, false, false, false, false] rfl rfl (any_of HT_.out (by kernel_rfl)) (fun _ _ _ h => h) (Or.inr ⟨by rfl, rfl⟩) ?_ ?_
                        rotate_left
                        · simp only [Act.put, List.setIfInBounds_toArray, List.set_cons_zero, List.set_cons_succ, i64_w, i32_w]
                          rfl
                        refine pure_ (i := 10) (N := some 128) (v := undef) (a' := ?_) #[true, true, true, true, true, true, true, true, true, true, true, false, false, false, false, false, false, false, false] rfl rfl (any_of HT_.out (by kernel_rfl)) (fun _ _ _ h => h) (Or.inr ⟨by rfl, rfl⟩) ?_ ?_
                        rotate_left
                        · simp only [Act.put, List.setIfInBounds_toArray, List.set_cons_zero, List.set_cons_succ, i64_w, i32_w]
                          rfl
                        refine pure_ (i := 11) (N := some 129) (v := undef) (a' := ?_) #[true, true, true, true, true, true, true, true, true, true, true, true, false, false, false, false, false, false, false] rfl rfl (any_of HT_.out (by kernel_rfl)) (fun _ _ _ h => h) (Or.inr ⟨by rfl, rfl⟩) ?_ ?_
                        rotate_left
                        · simp only [Act.put, List.setIfInBounds_toArray, List.set_cons_zero, List.set_cons_succ, i64_w, i32_w]
                          rfl
                        refine pure_ (i := 12) (N := some 130) (v := undef) (a' := ?_) #[true, true, true, true, true, true, true, true, true, true, true, true, true, false, false, false, false, false, false] rfl rfl (any_of HT_.out (by kernel_rfl)) (fun _ _ _ h => h) (Or.inr ⟨by rfl, rfl⟩) ?_ ?_
                        rotate_left
                        · simp only [Act.put, List.setIfInBounds_toArray, List.set_cons_zero, List.set_cons_succ, i64_w, i32_w]
                          rfl
                        refine pure_ (i := 13) (N := some 131) (v := undef) (a' := ?_) #[true, true, true, true, true, true, true, true, true, true, true, true, true, true, false, false, false, false, false] rfl rfl (any_of HT_.out (by kernel_rfl)) (fun _ _ _ h => h) (Or.inr ⟨by rfl, rfl⟩) ?_ ?_
                        rotate_left
                        · simp only [Act.put, List.setIfInBounds_toArray, List.set_cons_zero, List.set_cons_succ, i64_w, i32_w]
                          rfl
                        refine pure_ (i := 14) (N := some 132) (v := undef) (a' := ?_) #[true, true, true, true, true, true, true, true, true, true, true, true, true, true, true, false, false, false, false] rfl rfl (any_of HT_.out (by kernel_rfl)) (fun _ _ _ h => h) (Or.inr ⟨by rfl, rfl⟩) ?_ ?_
                        rotate_left
                        · simp only [Act.put, List.setIfInBounds_toArray, List.set_cons_zero, List.set_cons_succ, i64_w, i32_w]
                          rfl
                        refine pure_ (i := 15) (N := some 133) (v := undef) (a' := ?_) #[true, true, true, true, true, true, true, true, true, true, true, true, true, true, true, true, false, false, false] rfl rfl (any_of HT_.out (by kernel_rfl)) (fun _ _ _ h => h) (Or.inr ⟨by rfl, rfl⟩) ?_ ?_
                        rotate_left
                        · simp only [Act.put, List.setIfInBounds_toArray, List.set_cons_zero, List.set_cons_succ, i64_w, i32_w]
                          rfl
                        refine pure_ (i := 16) (N := some 134) (v := undef) (a' := ?_) #[true, true, true, true, true, true, true, true, true, true, true, true, true, true, true, true, true, false, false] rfl rfl (any_of HT_.out (by kernel_rfl)) (fun _ _ _ h => h) (Or.inr ⟨by rfl, rfl⟩) ?_ ?_
                        rotate_left
                        · simp only [Act.put, List.setIfInBounds_toArray, List.set_cons_zero, List.set_cons_succ, i64_w, i32_w]
                          rfl
                        refine pure_ (i := 17) (N := some 135) (v := ?_) (a' := ?_) #[true, true, true, true, true, true, true, true, true, true, true, true, true, true, true, true, true, true, false] rfl rfl (any_of HT_.out (by kernel_rfl)) (fun _ _ _ h => h) (Or.inl ⟨by rfl, ?_⟩) ?_ ?_
                        rotate_left
                        · intro w'
                          go_simp
                          with_reducible rfl
                        rotate_left
                        · simp only [Act.put, List.setIfInBounds_toArray, List.set_cons_zero, List.set_cons_succ, i64_w, i32_w]
                          rfl
                        refine pure_ (i := 18) (N := some 10) (v := ?_) (a' := ?_) #[true, true, true, true, true, true, true, true, true, true, true, true, true, true, true, true, true, true, true] rfl rfl (any_of HT_.out (by kernel_rfl)) (fun _ _ _ h => h) (Or.inl ⟨by rfl, ?_⟩) ?_ ?_
                        rotate_left
                        · intro w'
                          go_simp
                          with_reducible rfl
                        rotate_left
                        · simp only [Act.put, List.setIfInBounds_toArray, List.set_cons_zero, List.set_cons_succ, i64_w, i32_w]
                          rfl
                        refine done_ (done_of HT_.out (by kernel_rfl)) ?_
                        try go_wp2
                        go_ret
                        exact ⟨by first | rfl | (simp [errW_none, errW_some] <;> rfl) | (simp [*, errW_none, errW_some] <;> rfl), by repeat (first | (with_reducible first | exact HB.out | apply below_alloc | apply pw_below_drewN | apply below_drew1 | refine below_set ?_ GE112.out | refine below_set ?_ GE119.out | refine below_set ?_ GE126.out | refine below_set ?_ GE135.out | refine below_set ?_ GE145.out | refine below_set ?_ GE149.out) | exact HB.out)⟩
              · replace c36 := Bool.eq_false_iff.mpr c36
                subst c36
                have H1 : ((sorobanlaw05_sanity.f).bind fun t122 => (if t122 = true then (some (t111 == 1)) else (some false))) = some r := by rw [if_neg (show ¬ (false = true) by decide)] at H; exact H
                clear H
                have H := H1
                clear H1
                replace H := Option.bind_eq_some_iff.mp H
                obtain ⟨t122, A1510, H⟩ := H
                replace H : (if t122 = true then (some (t111 == 1)) else (some false)) = some r := H
                have A151 := Aside0.mk A1510
                clear A1510
                by_cases c152 : t122 = true
                · subst c152
                  have H1 : (some (t111 == 1)) = some r := by rw [if_pos rfl] at H; exact H
                  clear H
                  have H := H1
                  clear H1
                  obtain rfl := Option.some.inj H
                  go_wp2_with (first | ((with_reducible refine gate_callee (f := 11) rfl ?_); refine goesL_ (some 73) rfl rfl Tryd.func11 (by kernel_rfl) rfl #[] rfl zm ?_; (with_reducible refine (sorobanlaw05_sanity.calls  true _ A151.out (HTAB.out.below (zb HB.out))).mono ?_); rintro e w153 ⟨rfl, hb⟩; refine ⟨_, rfl, ?_⟩; have n0_ := Aside0.mk (Kd.R_below (zr HO_113003.out) hb); have n1_ := Aside0.mk (blk_below (g := gb112) (o := .cells #[.int .i64 t104, .int .i64 t105, .bool t106, .slice Ao21 t107.length co21, .int .i64 t110] 25 (0, 0)) (zk BK112.out) hb); have n2_ := Aside0.mk (blk_below (g := gb119) (o := .cells #[.int .i64 t113, .int .i64 t114, .int .i64 t115, .int .i64 t116, .int .i64 t117] 57 (0, 0)) (zk BK119.out) hb); have n3_ := Aside0.mk (below_step (zb HB.out) hb); clear HO_113003; clear BK112; clear BK119; clear HB; have HO_113003 := n0_; have BK112 := n1_; have BK119 := n2_; have HB := n3_; clear n0_ n1_ n2_ n3_; (try clear hb); (try clear hb2); (try clear hk); (try clear hi)))
                  go_ret
                  exact ⟨by first | rfl | (simp [errW_none, errW_some] <;> rfl) | (simp [*, errW_none, errW_some] <;> rfl), by repeat (first | (with_reducible first | exact HB.out | apply below_alloc | apply pw_below_drewN | apply below_drew1 | refine below_set ?_ GE112.out | refine below_set ?_ GE119.out) | exact HB.out)⟩
                · replace c152 := Bool.eq_false_iff.mpr c152
                  subst c152
                  have H1 : (some false) = some r := by rw [if_neg (show ¬ (false = true) by decide)] at H; exact H
                  clear H
                  have H := H1
                  clear H1
                  obtain rfl := Option.some.inj H
                  go_wp2_with (first | ((with_reducible refine gate_callee (f := 11) rfl ?_); refine goesL_ (some 73) rfl rfl Tryd.func11 (by kernel_rfl) rfl #[] rfl zm ?_; (with_reducible refine (sorobanlaw05_sanity.calls  false _ A151.out (HTAB.out.below (zb HB.out))).mono ?_); rintro e w154 ⟨rfl, hb⟩; refine ⟨_, rfl, ?_⟩; have n0_ := Aside0.mk (Kd.R_below (zr HO_113003.out) hb); have n1_ := Aside0.mk (blk_below (g := gb112) (o := .cells #[.int .i64 t104, .int .i64 t105, .bool t106, .slice Ao21 t107.length co21, .int .i64 t110] 25 (0, 0)) (zk BK112.out) hb); have n2_ := Aside0.mk (blk_below (g := gb119) (o := .cells #[.int .i64 t113, .int .i64 t114, .int .i64 t115, .int .i64 t116, .int .i64 t117] 57 (0, 0)) (zk BK119.out) hb); have n3_ := Aside0.mk (below_step (zb HB.out) hb); clear HO_113003; clear BK112; clear BK119; clear HB; have HO_113003 := n0_; have BK112 := n1_; have BK119 := n2_; have HB := n3_; clear n0_ n1_ n2_ n3_; (try clear hb); (try clear hb2); (try clear hk); (try clear hi)))
                  go_ret
                  exact ⟨by first | rfl | (simp [errW_none, errW_some] <;> rfl) | (simp [*, errW_none, errW_some] <;> rfl), by repeat (first | (with_reducible first | exact HB.out | apply below_alloc | apply pw_below_drewN | apply below_drew1 | refine below_set ?_ GE112.out | refine below_set ?_ GE119.out) | exact HB.out)⟩
        · rw [if_neg c16] at H
          have c16b0 : (t118 == 0) = false := beq_eq_false_iff_ne.mpr c16
          have c16b1 : (t118 != 0) = true := bne_iff_ne.mpr c16
          obtain rfl := Option.some.inj H
          go_wp2_with (first | ((with_reducible refine gate_callee (f := 27) rfl ?_); refine goesL_ (some 39) rfl rfl Tryd.func27 (by kernel_rfl) rfl #[.int .i64 t101, .int .i64 x12_8, .bool a2, .slice A3 l3.length c3] rfl zm ?_; (with_reducible refine (binary_Special.calls t101 x12_8 a2 _ _ l3 t104 t105 t106 t107 t110 t111 _ ?side1 ?side2 A13.out).mono ?_); (case side1 => repeat (first | exact (Kd.C_below HR3.out HB.out) | (with_reducible refine Kd.C_alloc ?_ _) | (with_reducible refine Kd.C_drewN ?_ _) | (with_reducible refine Kd.C_drew ?_))); (case side2 => exact HC3.out); rintro e w155 ⟨v108, rfl, ho0, hb⟩; refine ⟨_, rfl, ?_⟩; have n0_ := Aside0.mk (Kd.R_lower ho0 (below_size (zb HB.out))); have n1_ := Aside0.mk (below_step (zb HB.out) hb); clear HB; have HO109 := n0_; have HB := n1_; clear n0_ n1_; (try clear hb); (try clear hb2); (try clear hk); (try clear hi); (try clear ho0)) | ((with_reducible refine gate_dst (N := 13) rfl ?_); refine box_event ?hg (N := 13) ?hd (cs := #[.int .i64 0, .int .i64 0, .bool false, .slice none 0 0, .int .i64 0]) (t := 25) ?hr ?_; (case hd => rfl); (case hg => rfl); (case hr => first | (go_simp; done) | (go_simp; rfl)); intro gb112 hg w156 hbox hb; have n0_ := Aside0.mk (Kd.R_below (zr HO109.out) hb); have n1_ := Aside0.mk (below_step (zb HB.out) hb); have n2_ := Aside0.mk (hbox); have n3_ := Aside0.mk ((by rw [hg]; exact (below_size (zb HB.out)) : w.heap.size ≤ gb112)); have n4_ := Aside0.mk ((by rw [hg]; exact (below_size (zb HB.out)) : w.heap.size ≤ gb112)); clear HO109; clear HB; have HO109 := n0_; have HB := n1_; have BK112 := n2_; have GW112 := n3_; have GE112 := n4_; clear n0_ n1_ n2_ n3_ n4_; clear hb hbox hg; have hcz157_0 : w156.cell? ⟨gb112, 0, none⟩ = some (.int .i64 0) := (blk_cell BK112.out 0).trans rfl; have hcz157_1 : w156.cell? ⟨gb112, 1, none⟩ = some (.int .i64 0) := (blk_cell BK112.out 1).trans rfl; have hcz157_2 : w156.cell? ⟨gb112, 2, none⟩ = some (.bool false) := (blk_cell BK112.out 2).trans rfl; have hcz157_3 : w156.cell? ⟨gb112, 3, none⟩ = some (.slice none 0 0) := (blk_cell BK112.out 3).trans rfl; have hcz157_4 : w156.cell? ⟨gb112, 4, none⟩ = some (.int .i64 0) := (blk_cell BK112.out 4).trans rfl; have hfz157_0 := blk_frozen BK112.out 0; have hfz157_1 := blk_frozen BK112.out 1; have hfz157_2 := blk_frozen BK112.out 2; have hfz157_3 := blk_frozen BK112.out 3; have hfz157_4 := blk_frozen BK112.out 4; obtain ⟨Ao158, co158, eo158⟩ := Kd.R_slice HO109.out; subst eo158) | ((with_reducible refine gate_callee (f := 28) rfl ?_); refine goesL_ (some 44) rfl rfl Tryd.func28 (by kernel_rfl) rfl #[.int .i64 t101] rfl zm ?_; (with_reducible refine (binary_Format.calls t101 t113 t114 t115 t116 t117 t118 _ A14.out).mono ?_); rintro e w159 ⟨rfl, hb⟩; refine ⟨_, rfl, ?_⟩; have n0_ := Aside0.mk (Kd.R_below (by (with_reducible repeat (first | apply Kd.R_alloc | apply Kd.R_drewN | apply Kd.R_drew)); exact (Kd.R_mono (Kd.R_far (p := ⟨gb112, 4, none⟩) (Kd.R_far (p := ⟨gb112, 3, none⟩) (Kd.R_far (p := ⟨gb112, 2, none⟩) (Kd.R_far (p := ⟨gb112, 1, none⟩) (Kd.R_far (p := ⟨gb112, 0, none⟩) (Kd.R_types HO109.out BK112.out (by decide)) (fun _ hk => hk.2) (.int .i64 t104)) (fun _ hk => hk.2) (.int .i64 t105)) (fun _ hk => hk.2) (.bool t106)) (fun _ hk => hk.2) (.slice Ao158 t107.length co158)) (fun _ hk => hk.2) (.int .i64 t110)) (fun _ h_ => h_.1))) hb); have n1_ := Aside0.mk (blk_below (g := gb112) (o := .cells #[.int .i64 t104, .int .i64 t105, .bool t106, .slice Ao158 t107.length co158, .int .i64 t110] 25 (0, 0)) (by (with_reducible repeat (first | refine blk_drewN ?_ _ | refine blk_drew ?_ | refine blk_alloc ?_ _)); refine blk_put (cs := #[.int .i64 t104, .int .i64 t105, .bool t106, .slice Ao158 t107.length co158, .int .i64 0]) ?_ 4 _ rfl; (with_reducible repeat (first | refine blk_drewN ?_ _ | refine blk_drew ?_ | refine blk_alloc ?_ _)); refine blk_put (cs := #[.int .i64 t104, .int .i64 t105, .bool t106, .slice none 0 0, .int .i64 0]) ?_ 3 _ rfl; (with_reducible repeat (first | refine blk_drewN ?_ _ | refine blk_drew ?_ | refine blk_alloc ?_ _)); refine blk_put (cs := #[.int .i64 t104, .int .i64 t105, .bool false, .slice none 0 0, .int .i64 0]) ?_ 2 _ rfl; (with_reducible repeat (first | refine blk_drewN ?_ _ | refine blk_drew ?_ | refine blk_alloc ?_ _)); refine blk_put (cs := #[.int .i64 t104, .int .i64 0, .bool false, .slice none 0 0, .int .i64 0]) ?_ 1 _ rfl; (with_reducible repeat (first | refine blk_drewN ?_ _ | refine blk_drew ?_ | refine blk_alloc ?_ _)); refine blk_put (cs := #[.int .i64 0, .int .i64 0, .bool false, .slice none 0 0, .int .i64 0]) ?_ 0 _ rfl; (with_reducible repeat (first | refine blk_drewN ?_ _ | refine blk_drew ?_ | refine blk_alloc ?_ _)); exact BK112.out) hb); have n2_ := Aside0.mk (below_step (zb HB.out) hb); clear HO109; clear BK112; clear HB; have HO109 := n0_; have BK112 := n1_; have HB := n2_; clear n0_ n1_ n2_; (try clear hb); (try clear hb2); (try clear hk); (try clear hi)) | ((with_reducible refine gate_dst (N := 15) rfl ?_); refine box_event ?hg (N := 15) ?hd (cs := #[.int .i64 0, .int .i64 0, .int .i64 0, .int .i64 0, .int .i64 0]) (t := 57) ?hr ?_; (case hd => rfl); (case hg => rfl); (case hr => first | (go_simp; done) | (go_simp; rfl)); intro gb119 hg w160 hbox hb; have n0_ := Aside0.mk (Kd.R_below (zr HO109.out) hb); have n1_ := Aside0.mk (blk_below (g := gb112) (o := .cells #[.int .i64 t104, .int .i64 t105, .bool t106, .slice Ao158 t107.length co158, .int .i64 t110] 25 (0, 0)) (zk BK112.out) hb); have n2_ := Aside0.mk (below_step (zb HB.out) hb); have n3_ := Aside0.mk (hbox); have n4_ := Aside0.mk ((by rw [hg]; exact (below_size (zb HB.out)) : w.heap.size ≤ gb119)); have n5_ := Aside0.mk ((by rw [hg]; exact (below_size (zb HB.out)) : w.heap.size ≤ gb119)); have n6_ := Aside0.mk ((by rw [hg]; exact Nat.ne_of_lt (blk_lt (g := gb112) (o := .cells #[.int .i64 t104, .int .i64 t105, .bool t106, .slice Ao158 t107.length co158, .int .i64 t110] 25 (0, 0)) (zk BK112.out)) : gb112 ≠ gb119)); have n7_ := Aside0.mk ((by rw [hg]; exact Nat.ne_of_gt (blk_lt (g := gb112) (o := .cells #[.int .i64 t104, .int .i64 t105, .bool t106, .slice Ao158 t107.length co158, .int .i64 t110] 25 (0, 0)) (zk BK112.out)) : gb119 ≠ gb112)); clear HO109; clear BK112; clear HB; have HO109 := n0_; have BK112 := n1_; have HB := n2_; have BK119 := n3_; have GW119 := n4_; have GE119 := n5_; have NB112_119 := n6_; have NB119_112 := n7_; clear n0_ n1_ n2_ n3_ n4_ n5_ n6_ n7_; clear hb hbox hg; have hnb161 := NB119_112.out; have hnc161 := NB112_119.out; have hcz162_0 : w160.cell? ⟨gb119, 0, none⟩ = some (.int .i64 0) := (blk_cell BK119.out 0).trans rfl; have hcz162_1 : w160.cell? ⟨gb119, 1, none⟩ = some (.int .i64 0) := (blk_cell BK119.out 1).trans rfl; have hcz162_2 : w160.cell? ⟨gb119, 2, none⟩ = some (.int .i64 0) := (blk_cell BK119.out 2).trans rfl; have hcz162_3 : w160.cell? ⟨gb119, 3, none⟩ = some (.int .i64 0) := (blk_cell BK119.out 3).trans rfl; have hcz162_4 : w160.cell? ⟨gb119, 4, none⟩ = some (.int .i64 0) := (blk_cell BK119.out 4).trans rfl; have hfz162_0 := blk_frozen BK119.out 0; have hfz162_1 := blk_frozen BK119.out 1; have hfz162_2 := blk_frozen BK119.out 2; have hfz162_3 := blk_frozen BK119.out 3; have hfz162_4 := blk_frozen BK119.out 4) | ((with_reducible refine gate_callee (f := 29) rfl ?_); refine goesL_ (some 49) rfl rfl Tryd.func29 (by kernel_rfl) rfl #[.slice A3 l3.length c3] rfl zm ?_; (with_reducible refine (nat_Bits.calls _ _ l3 t120 t121 _ ?side1 ?side2 A15.out).mono ?_); (case side1 => exact Kd.C_below HR3.out (zb HB.out)); (case side2 => exact HC3.out); rintro e w163 ⟨rfl, hb⟩; refine ⟨_, rfl, ?_⟩; have n0_ := Aside0.mk (Kd.R_below (by (with_reducible repeat (first | apply Kd.R_alloc | apply Kd.R_drewN | apply Kd.R_drew)); exact (Kd.R_mono (Kd.R_far (p := ⟨gb119, 4, none⟩) (Kd.R_far (p := ⟨gb119, 3, none⟩) (Kd.R_far (p := ⟨gb119, 2, none⟩) (Kd.R_far (p := ⟨gb119, 1, none⟩) (Kd.R_far (p := ⟨gb119, 0, none⟩) (Kd.R_types HO109.out BK119.out (by decide)) (fun _ hk => hk.2) (.int .i64 t113)) (fun _ hk => hk.2) (.int .i64 t114)) (fun _ hk => hk.2) (.int .i64 t115)) (fun _ hk => hk.2) (.int .i64 t116)) (fun _ hk => hk.2) (.int .i64 t117)) (fun _ h_ => h_.1))) hb); have n1_ := Aside0.mk (blk_below (g := gb112) (o := .cells #[.int .i64 t104, .int .i64 t105, .bool t106, .slice Ao158 t107.length co158, .int .i64 t110] 25 (0, 0)) (by (with_reducible repeat (first | refine blk_drewN ?_ _ | refine blk_drew ?_ | refine blk_alloc ?_ _)); refine blk_far ?_ NB112_119.out _; (with_reducible repeat (first | refine blk_drewN ?_ _ | refine blk_drew ?_ | refine blk_alloc ?_ _)); refine blk_far ?_ NB112_119.out _; (with_reducible repeat (first | refine blk_drewN ?_ _ | refine blk_drew ?_ | refine blk_alloc ?_ _)); refine blk_far ?_ NB112_119.out _; (with_reducible repeat (first | refine blk_drewN ?_ _ | refine blk_drew ?_ | refine blk_alloc ?_ _)); refine blk_far ?_ NB112_119.out _; (with_reducible repeat (first | refine blk_drewN ?_ _ | refine blk_drew ?_ | refine blk_alloc ?_ _)); refine blk_far ?_ NB112_119.out _; (with_reducible repeat (first | refine blk_drewN ?_ _ | refine blk_drew ?_ | refine blk_alloc ?_ _)); exact BK112.out) hb); have n2_ := Aside0.mk (blk_below (g := gb119) (o := .cells #[.int .i64 t113, .int .i64 t114, .int .i64 t115, .int .i64 t116, .int .i64 t117] 57 (0, 0)) (by (with_reducible repeat (first | refine blk_drewN ?_ _ | refine blk_drew ?_ | refine blk_alloc ?_ _)); refine blk_put (cs := #[.int .i64 t113, .int .i64 t114, .int .i64 t115, .int .i64 t116, .int .i64 0]) ?_ 4 _ rfl; (with_reducible repeat (first | refine blk_drewN ?_ _ | refine blk_drew ?_ | refine blk_alloc ?_ _)); refine blk_put (cs := #[.int .i64 t113, .int .i64 t114, .int .i64 t115, .int .i64 0, .int .i64 0]) ?_ 3 _ rfl; (with_reducible repeat (first | refine blk_drewN ?_ _ | refine blk_drew ?_ | refine blk_alloc ?_ _)); refine blk_put (cs := #[.int .i64 t113, .int .i64 t114, .int .i64 0, .int .i64 0, .int .i64 0]) ?_ 2 _ rfl; (with_reducible repeat (first | refine blk_drewN ?_ _ | refine blk_drew ?_ | refine blk_alloc ?_ _)); refine blk_put (cs := #[.int .i64 t113, .int .i64 0, .int .i64 0, .int .i64 0, .int .i64 0]) ?_ 1 _ rfl; (with_reducible repeat (first | refine blk_drewN ?_ _ | refine blk_drew ?_ | refine blk_alloc ?_ _)); refine blk_put (cs := #[.int .i64 0, .int .i64 0, .int .i64 0, .int .i64 0, .int .i64 0]) ?_ 0 _ rfl; (with_reducible repeat (first | refine blk_drewN ?_ _ | refine blk_drew ?_ | refine blk_alloc ?_ _)); exact BK119.out) hb); have n3_ := Aside0.mk (below_step (zb HB.out) hb); clear HO109; clear BK112; clear BK119; clear HB; have HO109 := n0_; have BK112 := n1_; have BK119 := n2_; have HB := n3_; clear n0_ n1_ n2_ n3_; (try clear hb); (try clear hb2); (try clear hk); (try clear hi)))
          go_ret
          exact ⟨by first | rfl | (simp [errW_none, errW_some] <;> rfl) | (simp [*, errW_none, errW_some] <;> rfl), by repeat (first | (with_reducible first | exact HB.out | apply below_alloc | apply pw_below_drewN | apply below_drew1 | refine below_set ?_ GE112.out | refine below_set ?_ GE119.out) | exact HB.out)⟩
  · replace c8 := Bool.eq_false_iff.mpr c8
    subst c8
    have H1 : ((sorobanlaw05_sanity.f).bind fun t103 => (some t103)) = some r := by rw [if_neg (show ¬ (false = true) by decide)] at H; exact H
    clear H
    have H := H1
    clear H1
    replace H := Option.bind_eq_some_iff.mp H
    obtain ⟨t103, A1640, H⟩ := H
    replace H : (some t103) = some r := H
    have A164 := Aside0.mk A1640
    clear A1640
    obtain rfl := Option.some.inj H
    go_enter Tryd.func6, Tryd.ntmps6
    go_wp2_with (first | ((with_reducible refine gate_callee (f := 21) rfl ?_); refine goesL_ (some 26) rfl rfl Tryd.func21 (by kernel_rfl) rfl #[.int .u8 a0] rfl zm ?_; (with_reducible refine (sorobanlaw05_which.calls a0 t101 _ A6.out).mono ?_); rintro e w165 ⟨rfl, hb⟩; refine ⟨_, rfl, ?_⟩; have n0_ := Aside0.mk (below_step (zb HB.out) hb); clear HB; have HB := n0_; clear n0_; (try clear hb); (try clear hb2); (try clear hk); (try clear hi)) | (go_at_call 10; (with_reducible refine (light_two _ _ A7.out).mono ?_); rintro e w166 ⟨rfl, hb⟩; have n0_ := Aside0.mk (below_step (zb HB.out) hb); clear HB; have HB := n0_; clear n0_; (try clear hb); (try clear hb2); (try clear hk); (try clear hi)) | ((with_reducible refine gate_callee (f := 11) rfl ?_); refine goesL_ (some 32) rfl rfl Tryd.func11 (by kernel_rfl) rfl #[] rfl zm ?_; (with_reducible refine (sorobanlaw05_sanity.calls  t103 _ A164.out (HTAB.out.below (zb HB.out))).mono ?_); rintro e w167 ⟨rfl, hb⟩; refine ⟨_, rfl, ?_⟩; have n0_ := Aside0.mk (below_step (zb HB.out) hb); clear HB; have HB := n0_; clear n0_; (try clear hb); (try clear hb2); (try clear hk); (try clear hi)))
    go_ret
    exact ⟨by first | rfl | (simp [errW_none, errW_some] <;> rfl) | (simp [*, errW_none, errW_some] <;> rfl), by repeat (first | (with_reducible first | exact HB.out | apply below_alloc | apply pw_below_drewN | apply below_drew1) | exact HB.out)⟩

end Go.Proofs.YtacnkcojhlbkoaaDoor.XBinarySpecials
