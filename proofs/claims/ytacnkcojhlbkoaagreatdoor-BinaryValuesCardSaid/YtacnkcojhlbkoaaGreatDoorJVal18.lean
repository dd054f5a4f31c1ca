/- Written by this session's own program (wip/tools/xprint.sh) for the law Bits: what the law's functions compute, and that the machine does so, given the contracts of the program's functions. The specification's comparing of lists and data, and its count of digits: what they return, of lists and numbers. Written by this session's own program (wip/tools/xprint.sh) for the law Ar: what the law's functions compute, and that the machine does so, given the contracts of the program's functions. -/
import Derived.Test.YtacnkcojhlbkoaaGreatDoorJVal17
import Derived.Test.YtacnkcojhlbkoaaGreatDoorJVal16
import Derived.Test.YtacnkcojhlbkoaaGreatDoorProg
import Derived.Below
import Derived.Deep.Draws
import Derived.Deep.AppendLies
import Derived.Maps.AppendAt
import Derived.OwnWalk
import Derived.Laws.BytesArg
import Derived.Laws.MakeOwn
import Derived.Laws.OwnMore
import Derived.Deep.OwnRows
import Derived.Tactics
import Derived.Lib.ConvBytes
import Derived.Laws.Slices
import Derived.WalkKit
import Derived.KernelRfl
import Derived.RowKit3
import Derived.Deep.LoopGhost
import Derived.Deep.QuietTactic
import Derived.BigQuiet
import Derived.WideLaws
import Derived.Deep.DeepCutAuto
import Derived.Deep.CutBlock
import Derived.Deep.RegionHeld3
import Derived.Laws.Rows
import Derived.Lib.AppendStr
import Derived.ArgAppend
import Derived.Laws.IdiomCopy
import Derived.OrdersHeld
import Derived.Laws.BitsLemmas
import Derived.RowKit
import Derived.Test.YtacnkcojhlbkoaaGreatDoorJVal0
import Derived.Test.YtacnkcojhlbkoaaGreatDoorJVal1
import Derived.Test.YtacnkcojhlbkoaaGreatDoorJVal2
namespace Go.Proofs.YtacnkcojhlbkoaaGreatDoor.XBits
open Go.RowKit Go.Proofs.YtacnkcojhlbkoaaGreatDoorW.PrintWords Go.Proofs.YtacnkcojhlbkoaaGreatDoorW.PrintLast Go.Proofs.YtacnkcojhlbkoaaGreatDoorW.PrintMore
attribute [local go_sem] max2_int min2_int max_two min_two max_three min_three max_four min_four   -- for this text's walks alone
set_option linter.unusedVariables false
set_option linter.unusedSimpArgs false

/-! ### sorobanref01_Bits: function 33 -/
def sorobanref01_Bits.l0 : Nat → Int → Int → Option (Int)
  | 0, _, _ => none
  | k + 1, x4, x5 => if x5 > 0 then (sorobanref01_Bits.l0 k (wrap64 (x4 + 1)) ((Int.tdiv x5 2) % 4294967296)) else (some x4)
def sorobanref01_Bits.f (k : Nat) (l0 : List Int) : Option (Int) := if (l0.length : Int) = 0 then (some 0) else (if 0 ≤ (wrap64 ((l0.length : Int) - 1)) then (if (wrap64 ((l0.length : Int) - 1)) < (l0.length : Int) then (sorobanref01_Bits.l0 k (wrap64 (32 * (wrap64 ((l0.length : Int) - 1)))) (rd l0 (wrap64 ((l0.length : Int) - 1)))) else (none)) else (none))
set_option maxHeartbeats 8000000 in
set_option maxRecDepth 100000 in
theorem sorobanref01_Bits.calls (k : Nat) (A0 : Option Addr) (c0 : Nat) (l0 : List Int) (r : Int) (w : World) (hr0 : Kd.C (Kd.int .u32) w A0 l0.length l0) (hc0 : l0.length ≤ c0) (h : sorobanref01_Bits.f k l0 = some r) :
    Calls Tryz.prog 33 #[.slice A0 l0.length c0] w fun e w' => e = .returned (.int .i64 r) ∧ Drawn0 w w' := by
  have HR0 := Aside0.mk hr0
  have HC0 := Aside0.mk hc0
  clear hr0 hc0
  have H : (if (l0.length : Int) = 0 then (some 0) else (if 0 ≤ (wrap64 ((l0.length : Int) - 1)) then (if (wrap64 ((l0.length : Int) - 1)) < (l0.length : Int) then (sorobanref01_Bits.l0 k (wrap64 (32 * (wrap64 ((l0.length : Int) - 1)))) (rd l0 (wrap64 ((l0.length : Int) - 1)))) else (none)) else (none))) = some r := h
  clear h
  by_cases c2 : (l0.length : Int) = 0
  · rw [if_pos c2] at H
    have c2b0 : ((l0.length : Int) == 0) = true := beq_iff_eq.mpr c2
    have c2b1 : ((l0.length : Int) != 0) = false := bne_eq_false_iff_eq.mpr c2
    clear c2
    obtain rfl := Option.some.inj H
    go_enter Tryz.func33, Tryz.ntmps33
    go_wp2
    go_ret
    exact ⟨by first | rfl | (simp; done) | (simp [*]; done), by repeat (first | exact Drawn0.refl _ | apply Drawn0.step)⟩
  · rw [if_neg c2] at H
    have c2b0 : ((l0.length : Int) == 0) = false := beq_eq_false_iff_ne.mpr c2
    have c2b1 : ((l0.length : Int) != 0) = true := bne_iff_ne.mpr c2
    have c2b2 : ¬ (l0 = []) := fun h_ => c2 (by rw [h_]; rfl)
    obtain ⟨ji3, hji3⟩ : ∃ j_ : Int, (wrap64 ((l0.length : Int) - 1)) = j_ := ⟨_, rfl⟩
    replace H : (if 0 ≤ (ji3) then (if (ji3) < (l0.length : Int) then (sorobanref01_Bits.l0 k (wrap64 (32 * (ji3))) (rd l0 (ji3))) else (none)) else (none)) = some r := by first | (rw [hji3] at H; exact H) | (simp only [hji3] at H ⊢; exact H)
    have hji3w : (IntKind.i64.wrap ((l0.length : Int) - 1)) = ji3 := (i64_w _).trans hji3
    by_cases c4 : 0 ≤ (ji3)
    · rw [if_pos c4] at H
      have c4b0 : decide (0 ≤ (ji3)) = true := decide_eq_true c4
      clear c4
      by_cases c5 : (ji3) < (l0.length : Int)
      · rw [if_pos c5] at H
        have c5b0 : decide ((ji3) < (l0.length : Int)) = true := decide_eq_true c5
        clear c5
        have H' := Aside0.mk H
        clear H
        have p101 : 0 ≤ ((ji3) : Int) := of_decide_eq_true (by first | (with_reducible assumption) | assumption)
        have q101 : (ji3) < (l0.length : Int) := of_decide_eq_true (by first | (with_reducible assumption) | assumption)
        obtain ⟨ad101, e101, hx101_0⟩ := Kd.at_int HR0.out (ji3) p101 q101
        cases e101
        replace p101 := eq_true p101
        replace q101 := eq_true q101
        go_enter Tryz.func33, Tryz.ntmps33
        go_wp2
        go_loopg [4, 5] k (fun kq v4 v5 w' => ∃ (x4_1 : Int) (x5_1 : Int), v4 = .int .i64 x4_1 ∧ v5 = .int .u32 x5_1 ∧ Aside0 (sorobanref01_Bits.l0 kq x4_1 x5_1 = some r) ∧ Aside0 (kq ≤ k) ∧ Drawn0 w w')
        case atStart => exact ⟨(wrap64 (32 * (ji3))), (rd l0 (ji3)), (by first | rfl | (simp; done) | (simp only [← hji3] <;> (first | rfl | simp)) | (simp [*]; done)), (by first | rfl | (simp; done) | (simp only [← hji3] <;> (first | rfl | simp)) | (simp [*]; done)), H', ⟨Nat.le_refl _⟩, by repeat (first | exact Drawn0.refl _ | apply Drawn0.step)⟩
        case round =>
          clear H'
          try clear p1
          try clear q1
          try clear hx1
          try clear c2
          try clear c2b0
          try clear c2b1
          try clear c2b2
          try clear p2
          try clear c3
          try clear c4
          try clear c4b0
          try clear c5
          try clear c5b0
          try clear hx101_0
          try clear p101
          try clear q101
          obtain ⟨x4_1, x5_1, rfl, rfl, HA, HK1, ⟨m1, rfl⟩⟩ := hrel
          cases gk with
          | zero => exact absurd HA.out (by simp [sorobanref01_Bits.l0])
          | succ k1 =>
            have H := HA.out
            clear HA
            simp only [sorobanref01_Bits.l0] at H
            by_cases c6 : x5_1 > 0
            · rw [if_pos c6] at H
              have c6b0 : decide (0 < x5_1) = true := decide_eq_true c6
              clear c6
              have H' := Aside0.mk H
              clear H
              go_wp2
              go_roundg k1
              case measure => have := HK1.out; omega
              case rel => exact ⟨(wrap64 (x4_1 + 1)), ((Int.tdiv x5_1 2) % 4294967296), (by first | rfl | (simp; done) | (simp [*]; done) | (simp; omega)), (by first | rfl | (simp; done) | (simp [*]; done) | (simp; omega)), H', ⟨by have := HK1.out; omega⟩, by repeat (first | exact Drawn0.refl _ | apply Drawn0.step)⟩
            · rw [if_neg c6] at H
              have c6b0 : decide (0 < x5_1) = false := decide_eq_false c6
              clear c6
              obtain rfl := Option.some.inj H
              go_wp2
              go_ret
              exact ⟨by first | rfl | (simp; done) | (simp only [← hji3] <;> (first | rfl | simp)) | (simp [*]; done), by repeat (first | exact Drawn0.refl _ | apply Drawn0.step)⟩
      · rw [if_neg c5] at H
        exact absurd H (by simp)
    · rw [if_neg c4] at H
      exact absurd H (by simp)

end Go.Proofs.YtacnkcojhlbkoaaGreatDoor.XBits

set_option linter.unusedSimpArgs false
set_option linter.unusedVariables false
set_option linter.unnecessarySimpa false
namespace Go.Proofs.YtacnkcojhlbkoaaGreatDoor
open Go.RowKit Go.Proofs.YtacnkcojhlbkoaaGreatDoorW.PrintWords Go.Proofs.YtacnkcojhlbkoaaGreatDoorW.PrintLast Go.Proofs.YtacnkcojhlbkoaaGreatDoorW.PrintMore Go.Proofs.YtacnkcojhlbkoaaGreatDoor.NL
set_option maxRecDepth 100000

theorem w64 {n : Int} (h : -9223372036854775808 ≤ n := by omega) (h2 : n < 9223372036854775808 := by omega) : wrap64 n = n := by unfold wrap64; omega
theorem same_l0 {l m : List Int} (hl : l.length = m.length) (hn : l.length ≤ 1000000000) : ∀ (t i : Nat), i + t = l.length → XSame.sorobanref01_Same.l0 (t + 1) l m (i : Int) = some (decide (l.drop i = m.drop i)) := by
  intro t
  induction t with
  | zero =>
    intro i hi
    unfold XSame.sorobanref01_Same.l0
    rw [if_neg (by omega), List.drop_eq_nil_of_le (by omega), List.drop_eq_nil_of_le (by omega)]
    simp
  | succ t ih =>
    intro i hi
    unfold XSame.sorobanref01_Same.l0
    have h1 : i < l.length := by omega
    have h2 : i < m.length := by omega
    rw [if_pos (by omega), if_pos (by omega), if_pos (by omega), w64, show (i : Int) + 1 = ((i + 1 : Nat) : Int) by omega, ih (i + 1) (by omega)]
    have d1 := List.drop_eq_getElem_cons h1
    have d2 := List.drop_eq_getElem_cons h2
    rw [d1, d2]
    have e1 : rd l (i : Int) = l[i] := by unfold rd; rw [Int.toNat_natCast, List.getD_eq_getElem?_getD, List.getElem?_eq_getElem h1]; rfl
    have e2 : rd m (i : Int) = m[i] := by unfold rd; rw [Int.toNat_natCast, List.getD_eq_getElem?_getD, List.getElem?_eq_getElem h2]; rfl
    rw [e1, e2]
    by_cases h : l[i] = m[i]
    · rw [if_pos h, h]; congr 1; rw [decide_eq_decide]; exact ⟨fun h => by rw [h], fun h => by injection h⟩
    · rw [if_neg h]; congr 1; symm; rw [decide_eq_false_iff_not]; intro h3; injection h3 with h4 h5; exact h h4
theorem same_val (l m : List Int) (hn : l.length ≤ 1000000000) : XSame.sorobanref01_Same.f (l.length + 1) l m = some (decide (l = m)) := by
  unfold XSame.sorobanref01_Same.f
  by_cases hl : l.length = m.length
  · rw [if_pos (by omega)]
    have := same_l0 hl hn l.length 0 (by omega)
    simpa using this
  · rw [if_neg (by omega)]; congr 1; symm; rw [decide_eq_false_iff_not]; intro h; exact hl (by rw [h])

def sorobanref01_Same.f (l0 l1 : List Int) : Option Bool := if l0.length ≤ 1000000000 then some (decide (l0 = l1)) else none
theorem sorobanref01_Same.calls (A0 : Option Addr) (c0 : Nat) (l0 : List Int) (A1 : Option Addr) (c1 : Nat) (l1 : List Int) (r : Bool) (w : World) (hr0 : Kd.C (Kd.int .u32) w A0 l0.length l0) (hc0 : l0.length ≤ c0) (hr1 : Kd.C (Kd.int .u32) w A1 l1.length l1) (hc1 : l1.length ≤ c1) (h : sorobanref01_Same.f l0 l1 = some r) :
    Calls Tryz.prog 36 #[.slice A0 l0.length c0, .slice A1 l1.length c1] w fun e w' => e = .returned (.bool r) ∧ Below w.heap.size w w' := by
  unfold sorobanref01_Same.f at h
  split at h
  · rename_i hb
    refine (XSame.sorobanref01_Same.calls (l0.length + 1) A0 c0 l0 A1 c1 l1 r w hr0 hc0 hr1 hc1 (by rw [same_val l0 l1 hb, h])).mono ?_
    rintro e w' ⟨h1, h2⟩
    exact ⟨h1, h2.below⟩
  · cases h
def sorobanref05_Same.f (a0_0 a0_1 : Int) (a0_2 : Bool) (l0_3 : List Int) (a0_4 a1_0 a1_1 : Int) (a1_2 : Bool) (l1_3 : List Int) (a1_4 : Int) : Option Bool :=
  if l0_3.length ≤ 1000000000 then some (decide (a0_0 = a1_0 ∧ a0_1 = a1_1 ∧ a0_2 = a1_2 ∧ l0_3 = l1_3 ∧ a0_4 = a1_4)) else none
theorem sorobanref05_Same.calls (a0_0 a0_1 : Int) (a0_2 : Bool) (A0_3 : Option Addr) (c0_3 : Nat) (l0_3 : List Int) (a0_4 a1_0 a1_1 : Int) (a1_2 : Bool) (A1_3 : Option Addr) (c1_3 : Nat) (l1_3 : List Int) (a1_4 : Int) (r : Bool) (w : World) (hr0_3 : Kd.C (Kd.int .u32) w A0_3 l0_3.length l0_3) (hc0_3 : l0_3.length ≤ c0_3) (hr1_3 : Kd.C (Kd.int .u32) w A1_3 l1_3.length l1_3) (hc1_3 : l1_3.length ≤ c1_3) (h : sorobanref05_Same.f a0_0 a0_1 a0_2 l0_3 a0_4 a1_0 a1_1 a1_2 l1_3 a1_4 = some r) :
    Calls Tryz.prog 10 #[.agg #[.int .i64 a0_0, .int .i64 a0_1, .bool a0_2, .slice A0_3 l0_3.length c0_3, .int .i64 a0_4], .agg #[.int .i64 a1_0, .int .i64 a1_1, .bool a1_2, .slice A1_3 l1_3.length c1_3, .int .i64 a1_4]] w fun e w' => e = .returned (.bool r) ∧ Below w.heap.size w w' := by
  unfold sorobanref05_Same.f at h
  split at h
  · rename_i hb
    refine XSame.sorobanref05_Same.calls (l0_3.length + 1) a0_0 a0_1 a0_2 A0_3 c0_3 l0_3 a0_4 a1_0 a1_1 a1_2 A1_3 c1_3 l1_3 a1_4 r w hr0_3 hc0_3 hr1_3 hc1_3 ?_
    rw [← h]
    unfold XSame.sorobanref05_Same.f
    rw [same_val l0_3 l1_3 hb]
    by_cases h1 : a0_0 = a1_0
    · by_cases h2 : a0_1 = a1_1
      · by_cases h3 : a0_2 = a1_2
        · by_cases h4 : a0_4 = a1_4
          · simp [h1, h2, h3, h4]
          · simp [h1, h2, h3, h4]
        · simp [h1, h2, h3]
      · simp [h1, h2]
    · simp [h1]
  · cases h

theorem bits_l0 (b : Int) : ∀ (t x : Nat), x < 2 ^ t → t ≤ 32 → 0 ≤ b → b + t ≤ 1000000000000 → XBits.sorobanref01_Bits.l0 (t + 1) b (x : Int) = some (b + (blen x : Nat)) := by
  intro t
  induction t generalizing b with
  | zero =>
    intro x hx _ _ _
    have : x = 0 := by simpa using hx
    subst this
    unfold XBits.sorobanref01_Bits.l0
    rw [if_neg (by omega), blen_zero]; simp
  | succ t ih =>
    intro x hx ht hb hb2
    unfold XBits.sorobanref01_Bits.l0
    by_cases h0 : x = 0
    · subst h0
      rw [if_neg (by omega), blen_zero]; simp
    · have hx32 : x < 4294967296 := Nat.lt_of_lt_of_le hx (Nat.le_trans (Nat.pow_le_pow_right (by omega) ht) (by decide))
      have e : Int.tdiv (x : Int) 2 % 4294967296 = ((x / 2 : Nat) : Int) := by
        rw [Int.tdiv_eq_ediv_of_nonneg (by omega)]; omega
      have hb3 : blen x = blen (x / 2) + 1 := by
        by_cases h1 : x = 1
        · subst h1; decide
        · have := blen_div (n := x) (k := 1) (by rw [Nat.pow_one]; omega)
          rw [Nat.pow_one] at this; omega
      have hx2 : x / 2 < 2 ^ t := by rw [Nat.pow_succ] at hx; omega
      rw [if_pos (by omega), w64, e, ih (b + 1) (x / 2) hx2 (by omega) (by omega) (by omega), hb3]
      congr 1; omega
theorem bits_val {l : List Int} (la : Lim l) (hok : okN l = true) : XBits.sorobanref01_Bits.f 33 l = some ((blen (val l) : Nat) : Int) := by
  obtain ⟨h1, h2⟩ := okN_iff.1 hok
  unfold XBits.sorobanref01_Bits.f
  by_cases h0 : l = []
  · subst h0; rfl
  · have hp : 0 < l.length := List.length_pos_iff.2 h0
    obtain ⟨x0, x1⟩ := lim_getD la (l.length - 1)
    have e1 : wrap64 ((l.length : Int) - 1) = ((l.length - 1 : Nat) : Int) := by rw [w64]; omega
    have e2 : rd l ((l.length - 1 : Nat) : Int) = ((l.getD (l.length - 1) 0).toNat : Int) := by unfold rd; rw [Int.toNat_natCast]; omega
    have h32 : (l.getD (l.length - 1) 0).toNat < 2 ^ 32 := by
      have : (2 : Nat) ^ 32 = 4294967296 := by decide
      omega
    have hb := bits_l0 (32 * ((l.length - 1 : Nat) : Int)) 32 _ h32 (by omega) (by omega) (by omega)
    rw [if_neg (by omega), e1, if_pos (by omega), if_pos (by omega), e2, w64, hb, blen_val la h2 hp]
    congr 1
def sorobanref01_Bits.f (l0 : List Int) : Option Int := if u32L l0 && okN l0 then some ((blen (val l0) : Nat) : Int) else none
theorem sorobanref01_Bits.calls (A0 : Option Addr) (c0 : Nat) (l0 : List Int) (r : Int) (w : World) (hr0 : Kd.C (Kd.int .u32) w A0 l0.length l0) (hc0 : l0.length ≤ c0) (h : sorobanref01_Bits.f l0 = some r) :
    Calls Tryz.prog 33 #[.slice A0 l0.length c0] w fun e w' => e = .returned (.int .i64 r) ∧ Below w.heap.size w w' := by
  unfold sorobanref01_Bits.f at h
  split at h
  · rename_i hb
    simp only [Bool.and_eq_true] at hb
    refine (XBits.sorobanref01_Bits.calls 33 A0 c0 l0 r w hr0 hc0 (by rw [bits_val (u32L_of hb.1) hb.2, h])).mono ?_
    rintro e w' ⟨h1, h2⟩
    exact ⟨h1, h2.below⟩
  · cases h
end Go.Proofs.YtacnkcojhlbkoaaGreatDoor

namespace Go.Proofs.YtacnkcojhlbkoaaGreatDoor.XAr
open Go.RowKit Go.Proofs.YtacnkcojhlbkoaaGreatDoorW.PrintWords Go.Proofs.YtacnkcojhlbkoaaGreatDoorW.PrintLast Go.Proofs.YtacnkcojhlbkoaaGreatDoorW.PrintMore
attribute [local go_sem] max2_int min2_int max_two min_two max_three min_three max_four min_four   -- for this text's walks alone
set_option linter.unusedVariables false
set_option linter.unusedSimpArgs false

def errW : Option Int → Value
  | none => .nilIface
  | some c => .iface 0 (.int .i64 c)
theorem errW_none : errW none = .nilIface := rfl
theorem errW_some (c : Int) : errW (some c) = .iface 0 (.int .i64 c) := rfl

theorem info40 : (Tryz.prog.info? 40).map (fun i => (i.zero, i.size, i.bytes)) = some (some (.int .u32 0), 1, 4) := by kernel_rfl
-- the values' own types

end Go.Proofs.YtacnkcojhlbkoaaGreatDoor.XAr
