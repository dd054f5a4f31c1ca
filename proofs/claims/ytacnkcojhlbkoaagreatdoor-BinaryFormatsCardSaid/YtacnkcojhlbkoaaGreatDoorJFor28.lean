/- The specification's Cmp, Sub, Shr, Bit and word: what they return, of numbers. Written by this session's own program (wip/tools/xprint.sh) for the law Bitz: what the law's functions compute, and that the machine does so, given the contracts of the program's functions. -/
import Derived.Test.YtacnkcojhlbkoaaGreatDoorJFor27
import Derived.Test.YtacnkcojhlbkoaaGreatDoorProg
import Derived.Below
import Derived.Deep.Draws
import Derived.Deep.AppendLies
import Derived.Maps.AppendAt
import Derived.OwnWalk
import Derived.Laws.BytesArg
import Derived.Laws.MakeOwn
import Derived.Laws.OwnMore
import Derived.Deep.OwnRows
import Derived.Tactics
import Derived.Lib.ConvBytes
import Derived.Laws.Slices
import Derived.WalkKit
import Derived.KernelRfl
import Derived.RowKit3
import Derived.Deep.LoopGhost
import Derived.Deep.QuietTactic
import Derived.BigQuiet
import Derived.WideLaws
import Derived.Deep.DeepCutAuto
import Derived.Deep.CutBlock
import Derived.Deep.RegionHeld3
import Derived.Laws.Rows
import Derived.Lib.AppendStr
import Derived.ArgAppend
import Derived.Laws.IdiomCopy
import Derived.OrdersHeld
import Derived.Laws.BitsLemmas
import Derived.RowKit
import Derived.Test.YtacnkcojhlbkoaaGreatDoorJFor0
import Derived.Test.YtacnkcojhlbkoaaGreatDoorJFor1
import Derived.Test.YtacnkcojhlbkoaaGreatDoorJFor2
set_option linter.unusedSimpArgs false
set_option linter.unusedVariables false
set_option linter.unnecessarySimpa false
namespace Go.Proofs.YtacnkcojhlbkoaaGreatDoor
open Go.RowKit Go.Proofs.YtacnkcojhlbkoaaGreatDoorW.PrintWords Go.Proofs.YtacnkcojhlbkoaaGreatDoorW.PrintLast Go.Proofs.YtacnkcojhlbkoaaGreatDoorW.PrintMore Go.Proofs.YtacnkcojhlbkoaaGreatDoor.NL
set_option maxRecDepth 100000

theorem sub_l0 {a b : List Int} (la : Lim a) (lb : Lim b) (hn : a.length ≤ 1000000) (hle : val b ≤ val a) : ∀ (t i : Nat) (x : List Int) (c : Nat), i + t = a.length → x.length = i → Lim x → c ≤ 1 → val x + val (b.take i) = val (a.take i) + W i * c →
    XAr.sorobanref01_Sub.l0 (t + 1) a b x (c : Nat) (i : Nat) = some (ofN (val a - val b)) := by
  intro t
  induction t with
  | zero =>
    intro i x c hi hx lx hc hv
    unfold XAr.sorobanref01_Sub.l0
    rw [if_neg (by omega), trim_f lx (by omega), Option.bind_some]
    have h2 : val b < W i := Nat.lt_of_le_of_lt hle (Nat.lt_of_lt_of_le (val_lt la) (W_le (by omega)))
    rw [val_take lb, Nat.mod_eq_of_lt h2, take_all (by omega)] at hv
    have h1 : val x < W i := by have := val_lt lx; rw [hx] at this; exact this
    have h4 : c = 0 := by
      rcases Nat.eq_zero_or_pos c with h | h
      · exact h
      · have : c = 1 := by omega
        subst this
        rw [Nat.mul_one] at hv; omega
    subst h4
    rw [show val x = val a - val b by omega]
  | succ t ih =>
    intro i x c hi hx lx hc hv
    unfold XAr.sorobanref01_Sub.l0
    rw [if_pos (by omega), at_f la, at_f lb, Option.bind_some, Option.bind_some, if_pos (by omega)]
    obtain ⟨a0, a1⟩ := lim_getD la i
    obtain ⟨b0, b1⟩ := lim_getD lb i
    have ea := val_take_succ a i
    have eb := val_take_succ b i
    have hp : (a.getD i 0).toNat < 4294967296 := by omega
    have hq : (b.getD i 0).toNat < 4294967296 := by omega
    generalize (a.getD i 0).toNat = p at *
    generalize (b.getD i 0).toNat = q at *
    clear a0 a1 b0 b1
    obtain ⟨lo, c', hlo, hc', he, e3, e4⟩ : ∃ lo c' : Nat, lo < 4294967296 ∧ c' ≤ 1 ∧ lo + q + c = p + 4294967296 * c' ∧
        (IntKind.u64.wrap (IntKind.u64.wrap ((p : Int) - (q : Int)) - (c : Int))) % 4294967296 = (lo : Nat) ∧ (IntKind.u64.wrap (IntKind.u64.wrap ((p : Int) - (q : Int)) - (c : Int))) / 9223372036854775808 = (c' : Nat) := by
      simp only [IntKind.wrap_u64]
      by_cases h : q + c ≤ p
      · exact ⟨p - (q + c), 0, by omega, by omega, by omega, by omega, by omega⟩
      · exact ⟨p + 4294967296 - (q + c), 1, by omega, by omega, by omega, by omega, by omega⟩
    have e5 : wrap64 ((i : Int) + 1) = ((i + 1 : Nat) : Int) := by rw [w64]; omega
    rw [e3, e4, e5]
    refine ih (i + 1) _ _ (by omega) (by simp [hx]) ?_ hc' ?_
    · refine lx.append ?_
      intro y hy
      simp at hy
      subst hy
      omega
    · rw [val_append, hx, ea, eb, W_succ]
      have hv1 : val [((lo : Nat) : Int)] = lo := by simp [val]
      rw [hv1]
      show val x + W i * lo + (val (b.take i) + W i * q) = val (a.take i) + W i * p + 4294967296 * W i * c'
      have h1 : W i * lo + W i * q + W i * c = W i * p + 4294967296 * W i * c' := by
        rw [← Nat.mul_add, ← Nat.mul_add, he, Nat.mul_add, Nat.mul_comm 4294967296 (W i), Nat.mul_assoc]
      omega
def sorobanref01_Sub.f (l0 l1 : List Int) : Option (List Int) := if (u32L l0 && u32L l1) && decide (l0.length ≤ 100000 ∧ val l1 ≤ val l0) then some (ofN (val l0 - val l1)) else none
theorem sorobanref01_Sub.calls (A0 : Option Addr) (c0 : Nat) (l0 : List Int) (A1 : Option Addr) (c1 : Nat) (l1 : List Int) (r : List Int) (w : World) (hr0 : Kd.C (Kd.int .u32) w A0 l0.length l0) (hc0 : l0.length ≤ c0) (hr1 : Kd.C (Kd.int .u32) w A1 l1.length l1) (hc1 : l1.length ≤ c1) (h : sorobanref01_Sub.f l0 l1 = some r) :
    Calls Tryz.prog 55 #[.slice A0 l0.length c0, .slice A1 l1.length c1] w fun e w' => ∃ v0_ : Value, e = .returned (v0_) ∧ Kd.R (Kd.int .u32) 40 w' w.heap.size (fun _ => True) v0_ r ∧ Below w.heap.size w w' := by
  unfold sorobanref01_Sub.f at h
  split at h
  · rename_i hb
    simp only [Bool.and_eq_true, decide_eq_true_eq] at hb
    obtain ⟨⟨h1, h2⟩, h3, h4⟩ := hb
    refine XAr.sorobanref01_Sub.calls (l0.length + 1) A0 c0 l0 A1 c1 l1 r w hr0 hc0 hr1 hc1 ?_
    rw [← h]
    unfold XAr.sorobanref01_Sub.f
    have e0 : val ([] : List Int) + val (l1.take 0) = val (l0.take 0) + W 0 * 0 := by rw [List.take_zero, List.take_zero, Nat.mul_zero]; rfl
    exact sub_l0 (u32L_of h1) (u32L_of h2) (by omega) h4 l0.length 0 [] 0 (by omega) rfl (by intro x hx; simp at hx) (by omega) e0
  · cases h

theorem shr_l0 {a : List Int} {s q r : Nat} (la : Lim a) (hr : r < 32) (hs : s = 32 * q + r) (hn : a.length ≤ 1000000) (hs2 : s ≤ 100000000) : ∀ (t k : Nat) (x : List Int), q + k + t = a.length → x.length = k → Lim x → val x = val a / 2 ^ s % W k →
    XAr.sorobanref01_Shr.l0 (t + 1) a (s : Nat) x ((q + k : Nat) : Int) = some (ofN (val a / 2 ^ s)) := by
  have et : Int.tmod ((s : Nat) : Int) 32 = (r : Nat) := by rw [Int.tmod_eq_emod_of_nonneg (by omega)]; omega
  intro t
  induction t with
  | zero =>
    intro k x hi hx lx hv
    unfold XAr.sorobanref01_Shr.l0
    rw [if_neg (by omega), trim_f lx (by omega), Option.bind_some, hv, Nat.mod_eq_of_lt]
    rw [hs, Nat.pow_add, ← W_two, ← Nat.div_div_eq_div_mul]
    refine Nat.lt_of_le_of_lt (Nat.div_le_self _ _) ?_
    rw [Nat.div_lt_iff_lt_mul (W_pos q), ← W_add]
    exact Nat.lt_of_lt_of_le (val_lt la) (W_le (by omega))
  | succ t ih =>
    intro k x hi hx lx hv
    unfold XAr.sorobanref01_Shr.l0
    have e5 : wrap64 (((q + k : Nat) : Int) + 1) = ((q + k + 1 : Nat) : Int) := by clear hv ih; rw [w64] <;> omega
    have c1 : ((q + k : Nat) : Int) < (a.length : Int) := by clear hv ih; omega
    have c2 : (0 : Int) ≤ ((r : Nat) : Int) := by clear hv ih; omega
    have c3 : x.length < 35184372088832 := by clear hv ih; omega
    have c4 : q + (k + 1) + t = a.length := by clear hv ih; omega
    rw [e5, if_pos c1, at_f la, at_f la, Option.bind_some, Option.bind_some, et, if_pos c2, if_pos c3]
    have hd := shr_digit la k q r hr
    rw [← hs] at hd
    rw [show k + q = q + k by omega] at hd
    obtain ⟨a0, a1⟩ := lim_getD la (q + k)
    obtain ⟨b0, b1⟩ := lim_getD la (q + k + 1)
    generalize (a.getD (q + k) 0) = u at *
    generalize (a.getD (q + k + 1) 0) = v at *
    have e1 : IntKind.u64.wrap (IntKind.u64.wrap (((v.toNat : Nat) : Int) * 4294967296) + ((u.toNat : Nat) : Int)) = ((u.toNat + 4294967296 * v.toNat : Nat) : Int) := by
      simp only [IntKind.wrap_u64]; omega
    have e2 : (shr .u64 ((u.toNat + 4294967296 * v.toNat : Nat) : Int) ((r : Nat) : Int)) % 4294967296 = ((val a / 2 ^ s / W k % 4294967296 : Nat) : Int) := by
      rw [← hd]
      unfold shr
      rw [Int.toNat_natCast, Nat.min_eq_left (by simp [IntKind.bits]; omega)]
      have hx : ((u.toNat + 4294967296 * v.toNat : Nat) : Int) / 2 ^ r = (((u.toNat + 4294967296 * v.toNat) / 2 ^ r : Nat) : Int) := by
        rw [Int.natCast_ediv, Int.natCast_pow]; rfl
      rw [hx]
      generalize (u.toNat + 4294967296 * v.toNat) / 2 ^ r = z
      clear hv ih hd hx
      omega
    rw [e1, e2]
    refine ih (k + 1) _ c4 (by simp [hx]) ?_ ?_
    · refine lx.append ?_
      intro y hy
      simp at hy
      subst hy
      clear hv ih
      generalize val a / 2 ^ s / W k = z
      omega
    · have hv1 : val [((val a / 2 ^ s / W k % 4294967296 : Nat) : Int)] = val a / 2 ^ s / W k % 4294967296 := by
        clear hv ih; simp only [val, Int.toNat_natCast]; omega
      rw [val_append, hx, hv1, hv, W_succ, Nat.mul_comm 4294967296 (W k), Nat.mod_mul]
theorem shr_f {a : List Int} {s : Nat} (la : Lim a) (hs : s ≤ 1000000) (hl : a.length ≤ 1000000) : XAr.sorobanref01_Shr.f (a.length + 1) a (s : Nat) = some (ofN (val a / 2 ^ s)) := by
  have et : wrap64 (Int.tdiv ((s : Nat) : Int) 32) = ((s / 32 : Nat) : Int) := by rw [Int.tdiv_eq_ediv_of_nonneg (by omega), w64]; omega
  unfold XAr.sorobanref01_Shr.f
  rw [et]
  by_cases h : s / 32 ≥ a.length
  · rw [if_pos (by omega), Nat.div_eq_of_lt, ofN_zero]
    refine Nat.lt_of_lt_of_le (val_lt la) ?_
    rw [show (4294967296 : Nat) = 2 ^ 32 by decide, ← Nat.pow_mul]
    exact Nat.pow_le_pow_right (by omega) (by omega)
  · rw [if_neg (by omega)]
    have hm : ∀ k n, XAr.sorobanref01_Shr.l0 k a (s : Nat) [] ((s / 32 + 0 : Nat) : Int) = some n → ∀ j, k ≤ j → XAr.sorobanref01_Shr.l0 j a (s : Nat) [] ((s / 32 + 0 : Nat) : Int) = some n := by
      intro k n hk j hj
      induction hj with
      | refl => exact hk
      | step _ ih => exact XAr.sorobanref01_Shr.mono_l _ _ _ _ _ _ ih
    exact hm _ _ (shr_l0 (q := s / 32) (r := s % 32) la (by omega) (by omega) hl (by omega) (a.length - s / 32) 0 [] (by omega) rfl (by intro x hx; simp at hx) (by rw [W_zero, Nat.mod_one]; rfl)) _ (by omega)
def sorobanref01_Shr.f (l0 : List Int) (a1 : Int) : Option (List Int) := if u32L l0 && decide (l0.length ≤ 1000000 ∧ 0 ≤ a1 ∧ a1 ≤ 1000000) then some (ofN (val l0 / 2 ^ a1.toNat)) else none
theorem sorobanref01_Shr.calls (A0 : Option Addr) (c0 : Nat) (l0 : List Int) (a1 : Int) (r : List Int) (w : World) (hr0 : Kd.C (Kd.int .u32) w A0 l0.length l0) (hc0 : l0.length ≤ c0) (h : sorobanref01_Shr.f l0 a1 = some r) :
    Calls Tryz.prog 53 #[.slice A0 l0.length c0, .int .i64 a1] w fun e w' => ∃ v0_ : Value, e = .returned (v0_) ∧ Kd.R (Kd.int .u32) 40 w' w.heap.size (fun _ => True) v0_ r ∧ Below w.heap.size w w' := by
  unfold sorobanref01_Shr.f at h
  split at h
  · rename_i hb
    simp only [Bool.and_eq_true, decide_eq_true_eq] at hb
    obtain ⟨h1, h2, h3, h4⟩ := hb
    obtain ⟨s, rfl⟩ := Int.eq_ofNat_of_zero_le h3
    refine XAr.sorobanref01_Shr.calls (l0.length + 1) A0 c0 l0 (s : Nat) r w hr0 hc0 ?_
    rw [← h, shr_f (u32L_of h1) (by omega) h2, Int.toNat_natCast]
  · cases h

end Go.Proofs.YtacnkcojhlbkoaaGreatDoor

namespace Go.Proofs.YtacnkcojhlbkoaaGreatDoor.XBitz
open Go.RowKit Go.Proofs.YtacnkcojhlbkoaaGreatDoorW.PrintWords Go.Proofs.YtacnkcojhlbkoaaGreatDoorW.PrintLast Go.Proofs.YtacnkcojhlbkoaaGreatDoorW.PrintMore
attribute [local go_sem] max2_int min2_int max_two min_two max_three min_three max_four min_four   -- for this text's walks alone
set_option linter.unusedVariables false
set_option linter.unusedSimpArgs false

def errW : Option Int → Value
  | none => .nilIface
  | some c => .iface 0 (.int .i64 c)
theorem errW_none : errW none = .nilIface := rfl
theorem errW_some (c : Int) : errW (some c) = .iface 0 (.int .i64 c) := rfl

theorem info40 : (Tryz.prog.info? 40).map (fun i => (i.zero, i.size, i.bytes)) = some (some (.int .u32 0), 1, 4) := by kernel_rfl
-- the values' own types

end Go.Proofs.YtacnkcojhlbkoaaGreatDoor.XBitz
