/- The specification's sums and small numbers: what they return, of numbers. The specification's Shl: what it returns, of numbers. Written by this session's own program (wip/tools/xprint.sh) for the law Canon: what the law's functions compute, and that the machine does so, given the contracts of the program's functions. Written by this session's own program (wip/tools/xprint.sh) for the law Canon: what the law's functions compute, and that the machine does so, given the contracts of the program's functions. Written by this session's own program (wip/tools/xprint.sh) for the law Canon: what the law's functions compute, and that the machine does so, given the contracts of the program's functions. Canonical's contract. What the laws on bits need of numbers: words, what Decode and Encode return one behind the other. The specification's Of, Shl, Add, of numbers. The specification's Cmp, Sub, Shr, Bit and word: what they return, of numbers. -/
import Derived.Test.YtacnkcojhlbkoaaGreatDoorJVal19
import Derived.Test.YtacnkcojhlbkoaaGreatDoorJVal18
import Derived.Test.YtacnkcojhlbkoaaGreatDoorJVal17
import Derived.Test.YtacnkcojhlbkoaaGreatDoorProg
import Derived.Below
import Derived.Deep.Draws
import Derived.Deep.AppendLies
import Derived.Maps.AppendAt
import Derived.OwnWalk
import Derived.Laws.BytesArg
import Derived.Laws.MakeOwn
import Derived.Laws.OwnMore
import Derived.Deep.OwnRows
import Derived.Tactics
import Derived.Lib.ConvBytes
import Derived.Laws.Slices
import Derived.WalkKit
import Derived.KernelRfl
import Derived.RowKit3
import Derived.Deep.LoopGhost
import Derived.Deep.QuietTactic
import Derived.BigQuiet
import Derived.WideLaws
import Derived.Deep.DeepCutAuto
import Derived.Deep.CutBlock
import Derived.Deep.RegionHeld3
import Derived.Laws.Rows
import Derived.Lib.AppendStr
import Derived.ArgAppend
import Derived.Laws.IdiomCopy
import Derived.OrdersHeld
import Derived.Laws.BitsLemmas
import Derived.RowKit
import Derived.Test.YtacnkcojhlbkoaaGreatDoorJVal16
import Derived.Test.YtacnkcojhlbkoaaGreatDoorJVal0
import Derived.Test.YtacnkcojhlbkoaaGreatDoorJVal1
import Derived.Test.YtacnkcojhlbkoaaGreatDoorJVal2
set_option linter.unusedSimpArgs false
set_option linter.unusedVariables false
set_option linter.unnecessarySimpa false
namespace Go.Proofs.YtacnkcojhlbkoaaGreatDoor
open Go.RowKit Go.Proofs.YtacnkcojhlbkoaaGreatDoorW.PrintWords Go.Proofs.YtacnkcojhlbkoaaGreatDoorW.PrintLast Go.Proofs.YtacnkcojhlbkoaaGreatDoorW.PrintMore Go.Proofs.YtacnkcojhlbkoaaGreatDoor.NL
set_option maxRecDepth 100000

theorem trim_f {l : List Int} (la : Lim l) (hn : l.length ≤ 1000000000) : sorobanref01_Trim.f l = some (ofN (val l)) := by
  unfold sorobanref01_Trim.f
  rw [u32L_mk la, decide_eq_true hn]; rfl
theorem at_f {l : List Int} (la : Lim l) (i : Nat) : XAr.sorobanref01_at.f l (i : Nat) = some (((l.getD i 0).toNat : Nat) : Int) := by
  obtain ⟨x0, x1⟩ := lim_getD la i
  unfold XAr.sorobanref01_at.f
  by_cases h : i < l.length
  · rw [if_neg (by omega), if_pos (by omega), if_pos (by omega)]
    have e : rd l (i : Nat) = l.getD i 0 := by unfold rd; rw [Int.toNat_natCast]
    rw [e, IntKind.wrap_u64]
    congr 1; omega
  · rw [if_pos (by omega), List.getD_eq_getElem?_getD, List.getElem?_eq_none (by omega)]; rfl
theorem wu64 {n : Nat} (h : n < 18446744073709551616) : IntKind.u64.wrap (n : Int) = (n : Int) := by rw [IntKind.wrap_u64]; omega
theorem add_l0 {a b : List Int} (la : Lim a) (lb : Lim b) (m : Nat) (hm : mx (a.length : Int) (b.length : Int) = (m : Nat)) (hb : m ≤ 1000000) : ∀ (t i : Nat) (x : List Int) (c : Nat), i + t = m + 1 → x.length = i → Lim x → c ≤ 1 → val x + W i * c = val (a.take i) + val (b.take i) →
    XAr.sorobanref01_Add.l0 (t + 1) a b x (c : Nat) (i : Nat) = some (ofN (val a + val b)) := by
  have hma : a.length ≤ m ∧ b.length ≤ m := by unfold mx at hm; split at hm <;> omega
  intro t
  induction t with
  | zero =>
    intro i x c hi hx lx hc hv
    unfold XAr.sorobanref01_Add.l0
    rw [hm, if_neg (by omega), trim_f lx (by omega), Option.bind_some]
    rw [take_all (by omega), take_all (by omega)] at hv
    have h1 : val a < W m := Nat.lt_of_lt_of_le (val_lt la) (W_le hma.1)
    have h2 : val b < W m := Nat.lt_of_lt_of_le (val_lt lb) (W_le hma.2)
    have h3 : W i = 4294967296 * W m := by rw [show i = m + 1 by omega, W_succ]
    have h4 : c = 0 := by
      rcases Nat.eq_zero_or_pos c with h | h
      · exact h
      · have : c = 1 := by omega
        subst this
        rw [Nat.mul_one] at hv; omega
    subst h4
    rw [← hv]; simp
  | succ t ih =>
    intro i x c hi hx lx hc hv
    unfold XAr.sorobanref01_Add.l0
    rw [hm, if_pos (by omega), at_f la, at_f lb, Option.bind_some, Option.bind_some, if_pos (by omega)]
    obtain ⟨a0, a1⟩ := lim_getD la i
    obtain ⟨b0, b1⟩ := lim_getD lb i
    have ea := val_take_succ a i
    have eb := val_take_succ b i
    have hp : (a.getD i 0).toNat < 4294967296 := by omega
    have hq : (b.getD i 0).toNat < 4294967296 := by omega
    generalize (a.getD i 0).toNat = p at *
    generalize (b.getD i 0).toNat = q at *
    clear a0 a1 b0 b1
    have e1 : IntKind.u64.wrap ((p : Int) + (q : Int)) = ((p + q : Nat) : Int) := by rw [← Int.natCast_add]; exact wu64 (by omega)
    have e2 : IntKind.u64.wrap (((p + q : Nat) : Int) + (c : Int)) = ((p + q + c : Nat) : Int) := by rw [← Int.natCast_add]; exact wu64 (by omega)
    rw [e1, e2]
    have e3 : ((p + q + c : Nat) : Int) % 4294967296 = (((p + q + c) % 4294967296 : Nat) : Int) := by omega
    have e4 : ((p + q + c : Nat) : Int) / 4294967296 = (((p + q + c) / 4294967296 : Nat) : Int) := by omega
    have e5 : wrap64 ((i : Int) + 1) = ((i + 1 : Nat) : Int) := by rw [w64]; omega
    rw [e3, e4, e5]
    refine ih (i + 1) _ _ (by omega) (by simp [hx]) ?_ (by omega) ?_
    · refine lx.append ?_
      intro y hy
      simp at hy
      subst hy
      omega
    · rw [val_append, hx, ea, eb, W_succ]
      have hd := Nat.div_add_mod (p + q + c) 4294967296
      have hv1 : val [(((p + q + c) % 4294967296 : Nat) : Int)] = (p + q + c) % 4294967296 := by simp only [val, Int.toNat_natCast]; omega
      rw [hv1]
      show val x + W i * ((p + q + c) % 4294967296) + 4294967296 * W i * ((p + q + c) / 4294967296) = _
      generalize (p + q + c) % 4294967296 = lo at *
      generalize (p + q + c) / 4294967296 = hi at *
      have h1 : W i * lo + 4294967296 * W i * hi = W i * (p + q + c) := by
        rw [← hd, Nat.mul_add, Nat.mul_comm 4294967296 (W i), Nat.mul_assoc]; omega
      have h2 : W i * (p + q + c) = W i * p + W i * q + W i * c := by rw [Nat.mul_add, Nat.mul_add]
      omega
def sorobanref01_Add.f (l0 l1 : List Int) : Option (List Int) := if (u32L l0 && u32L l1) && decide (l0.length ≤ 100000 ∧ l1.length ≤ 100000) then some (ofN (val l0 + val l1)) else none
theorem sorobanref01_Add.calls (A0 : Option Addr) (c0 : Nat) (l0 : List Int) (A1 : Option Addr) (c1 : Nat) (l1 : List Int) (r : List Int) (w : World) (hr0 : Kd.C (Kd.int .u32) w A0 l0.length l0) (hc0 : l0.length ≤ c0) (hr1 : Kd.C (Kd.int .u32) w A1 l1.length l1) (hc1 : l1.length ≤ c1) (h : sorobanref01_Add.f l0 l1 = some r) :
    Calls Tryz.prog 98 #[.slice A0 l0.length c0, .slice A1 l1.length c1] w fun e w' => ∃ v0_ : Value, e = .returned (v0_) ∧ Kd.R (Kd.int .u32) 40 w' w.heap.size (fun _ => True) v0_ r ∧ Below w.heap.size w w' := by
  unfold sorobanref01_Add.f at h
  split at h
  · rename_i hb
    simp only [Bool.and_eq_true, decide_eq_true_eq] at hb
    obtain ⟨⟨h1, h2⟩, h3, h4⟩ := hb
    obtain ⟨m, hm⟩ : ∃ m : Nat, mx (l0.length : Int) (l1.length : Int) = (m : Nat) := by
      unfold mx
      split
      · exact ⟨_, rfl⟩
      · exact ⟨_, rfl⟩
    have hmb : m ≤ 100000 := by unfold mx at hm; split at hm <;> omega
    refine XAr.sorobanref01_Add.calls (m + 1 + 1) A0 c0 l0 A1 c1 l1 r w hr0 hc0 hr1 hc1 ?_
    rw [← h]
    unfold XAr.sorobanref01_Add.f
    exact add_l0 (u32L_of h1) (u32L_of h2) m hm (by omega) (m + 1) 0 [] 0 (by omega) rfl (by intro x hx; simp at hx) (by omega) (by simp [val])
  · cases h
def sorobanref01_Of.f (a0 : Int) : Option (List Int) := if u64B a0 then some (ofN a0.toNat) else none
theorem sorobanref01_Of.calls (a0 : Int) (r : List Int) (w : World) (h : sorobanref01_Of.f a0 = some r) :
    Calls Tryz.prog 71 #[.int .u64 a0] w fun e w' => ∃ v0_ : Value, e = .returned (v0_) ∧ Kd.R (Kd.int .u32) 40 w' w.heap.size (fun _ => True) v0_ r ∧ Below w.heap.size w w' := by
  unfold sorobanref01_Of.f at h
  split at h
  · rename_i hb
    simp only [u64B, decide_eq_true_eq] at hb
    refine XAr.sorobanref01_Of.calls a0 r w ?_
    rw [← h]
    unfold XAr.sorobanref01_Of.f
    rw [trim_f (by intro x hx; simp at hx; omega) (by simp)]
    simp only [Option.bind_some]
    congr 2
    simp [val]; omega
  · cases h
end Go.Proofs.YtacnkcojhlbkoaaGreatDoor

set_option linter.unusedSimpArgs false
set_option linter.unusedVariables false
set_option linter.unnecessarySimpa false
namespace Go.Proofs.YtacnkcojhlbkoaaGreatDoor
open Go.RowKit Go.Proofs.YtacnkcojhlbkoaaGreatDoorW.PrintWords Go.Proofs.YtacnkcojhlbkoaaGreatDoorW.PrintLast Go.Proofs.YtacnkcojhlbkoaaGreatDoorW.PrintMore Go.Proofs.YtacnkcojhlbkoaaGreatDoor.NL
set_option maxRecDepth 100000

theorem val_zeros (n : Nat) : val (List.replicate n 0) = 0 := by
  induction n with
  | zero => rfl
  | succ n ih => rw [List.replicate_succ]; simp only [val]; rw [ih]; rfl
theorem shl_l0 {a : List Int} {s q r : Nat} (la : Lim a) (hr : r < 32) (hs : s = 32 * q + r) (hq : q ≤ 100000) (hl : a.length ≤ 1000000) : ∀ (t i : Nat) (x : List Int) (c : Nat), i + t = a.length → x.length = q + i → Lim x → c < 4294967296 → val x + W (q + i) * c = W q * (2 ^ r * val (a.take i)) →
    XShl.sorobanref01_Shl.l0 (t + 1) a (s : Nat) x (c : Nat) (i : Nat) = some (ofN (val a * 2 ^ s)) := by
  have et : Int.tmod ((s : Nat) : Int) 32 = (r : Nat) := by rw [Int.tmod_eq_emod_of_nonneg (by omega)]; omega
  have hrp : 2 ^ r ≤ 2147483648 := Nat.le_trans (Nat.pow_le_pow_right (by omega) (show r ≤ 31 by omega)) (by decide)
  intro t
  induction t with
  | zero =>
    intro i x c hi hx lx hc hv
    unfold XShl.sorobanref01_Shl.l0
    have e0 : ((c : Nat) : Int) % 4294967296 = (c : Nat) := by omega
    have lc : Lim (x ++ [((c : Nat) : Int)]) := lx.append (by intro y hy; simp at hy; subst hy; omega)
    rw [if_neg (by omega), if_pos (by omega), e0, trim_f lc (by simp; omega), Option.bind_some]
    rw [take_all (by omega)] at hv
    congr 2
    rw [val_append, hx]
    have h1 : val [((c : Nat) : Int)] = c := by simp [val]
    rw [h1]
    show val x + W (q + i) * c = _
    rw [hv, hs, Nat.pow_add, ← W_two, Nat.mul_comm (val a), Nat.mul_assoc]
  | succ t ih =>
    intro i x c hi hx lx hc hv
    obtain ⟨a0, a1⟩ := lim_getD la i
    have ea := val_take_succ a i
    have hp : (a.getD i 0).toNat < 4294967296 := by omega
    have hrd : rd a (i : Nat) = (((a.getD i 0).toNat : Nat) : Int) := by unfold rd; rw [Int.toNat_natCast]; omega
    unfold XShl.sorobanref01_Shl.l0
    rw [if_pos (by omega), if_pos (by omega), et, if_pos (by omega), if_pos (by omega), hrd]
    generalize (a.getD i 0).toNat = p at *
    have hpr : p * 2 ^ r < 9223372036854775808 := by
      have : p * 2 ^ r ≤ 4294967295 * 2147483648 := Nat.mul_le_mul (by omega) hrp
      omega
    have e1 : shl .u64 (IntKind.u64.wrap (p : Int)) ((r : Nat) : Int) = ((p * 2 ^ r : Nat) : Int) := by
      unfold shl
      rw [wu64 (by omega), Int.toNat_natCast, Nat.min_eq_left (by simp [IntKind.bits]; omega), cast_mul_pow, wu64 (by omega)]
    have e2 : IntKind.u64.wrap (((p * 2 ^ r : Nat) : Int) + (c : Int)) = ((p * 2 ^ r + c : Nat) : Int) := by rw [← Int.natCast_add]; exact wu64 (by omega)
    rw [e1, e2]
    obtain ⟨u, hu⟩ : ∃ u, p * 2 ^ r = u := ⟨_, rfl⟩
    rw [hu] at hpr ⊢
    have e3 : ((u + c : Nat) : Int) % 4294967296 = (((u + c) % 4294967296 : Nat) : Int) := by omega
    have e4 : ((u + c : Nat) : Int) / 4294967296 = (((u + c) / 4294967296 : Nat) : Int) := by omega
    have e5 : wrap64 ((i : Int) + 1) = ((i + 1 : Nat) : Int) := by rw [w64]; omega
    rw [e3, e4, e5]
    have hx2 : (x ++ [(((u + c) % 4294967296 : Nat) : Int)]).length = q + (i + 1) := by simp [hx]; omega
    refine ih (i + 1) _ _ (by omega) hx2 ?_ (by omega) ?_
    · refine lx.append ?_
      intro y hy
      simp at hy
      subst hy
      omega
    · have hv1 : val [(((u + c) % 4294967296 : Nat) : Int)] = (u + c) % 4294967296 := by simp only [val, Int.toNat_natCast]; omega
      have hW : W (q + (i + 1)) = 4294967296 * W (q + i) := by rw [show q + (i + 1) = (q + i) + 1 by omega, W_succ]
      have hWq : W (q + i) = W q * W i := Nat.pow_add _ _ _
      rw [val_append, hx, hv1, hW, ea]
      show val x + W (q + i) * ((u + c) % 4294967296) + 4294967296 * W (q + i) * ((u + c) / 4294967296) = _
      have hd := Nat.div_add_mod (u + c) 4294967296
      have h1 : W (q + i) * ((u + c) % 4294967296) + 4294967296 * W (q + i) * ((u + c) / 4294967296) = W (q + i) * u + W (q + i) * c := by
        generalize (u + c) % 4294967296 = lo at *
        generalize (u + c) / 4294967296 = hi at *
        rw [← Nat.mul_add, ← hd, Nat.mul_add, Nat.mul_comm 4294967296 (W (q + i)), Nat.mul_assoc]; omega
      have h2 : W q * (2 ^ r * (val (a.take i) + W i * p)) = W q * (2 ^ r * val (a.take i)) + W (q + i) * u := by
        rw [Nat.mul_add, Nat.mul_add, hWq, ← hu, Nat.mul_assoc, Nat.mul_left_comm (2 ^ r), Nat.mul_comm (2 ^ r) p]
      rw [h2, ← hv]
      omega
theorem rshl_f {a : List Int} {s : Nat} (la : Lim a) (hs : s ≤ 1000000) (hl : a.length ≤ 1000000) (hne : a ≠ []) : XShl.sorobanref01_Shl.f (a.length + 1) a (s : Nat) = some (ofN (val a * 2 ^ s)) := by
  have hp : 0 < a.length := List.length_pos_iff.2 hne
  have et : wrap64 (Int.tdiv ((s : Nat) : Int) 32) = ((s / 32 : Nat) : Int) := by rw [Int.tdiv_eq_ediv_of_nonneg (by omega), w64]; omega
  unfold XShl.sorobanref01_Shl.f
  rw [if_neg (by omega), et, if_pos (by omega), Int.toNat_natCast, if_pos (by omega)]
  have h := shl_l0 (s := s) (q := s / 32) (r := s % 32) la (by omega) (by omega) (by omega) hl a.length 0 (List.replicate (s / 32) 0) 0 (by omega) (by simp) (by
    intro y hy
    have := List.eq_of_mem_replicate hy
    omega) (by omega) (by rw [val_zeros]; simp [val])
  exact h
def sorobanref01_Shl.f (l0 : List Int) (a1 : Int) : Option (List Int) := if u32L l0 && decide (l0 ≠ [] ∧ l0.length ≤ 1000000 ∧ 0 ≤ a1 ∧ a1 ≤ 1000000) then some (ofN (val l0 * 2 ^ a1.toNat)) else none
theorem sorobanref01_Shl.calls (A0 : Option Addr) (c0 : Nat) (l0 : List Int) (a1 : Int) (r : List Int) (w : World) (hr0 : Kd.C (Kd.int .u32) w A0 l0.length l0) (hc0 : l0.length ≤ c0) (h : sorobanref01_Shl.f l0 a1 = some r) :
    Calls Tryz.prog 54 #[.slice A0 l0.length c0, .int .i64 a1] w fun e w' => ∃ v0_ : Value, e = .returned (v0_) ∧ Kd.R (Kd.int .u32) 40 w' w.heap.size (fun _ => True) v0_ r ∧ Below w.heap.size w w' := by
  unfold sorobanref01_Shl.f at h
  split at h
  · rename_i hb
    simp only [Bool.and_eq_true, decide_eq_true_eq] at hb
    obtain ⟨h1, h2, h3, h4, h5⟩ := hb
    obtain ⟨s, rfl⟩ := Int.eq_ofNat_of_zero_le h4
    refine XShl.sorobanref01_Shl.calls (l0.length + 1) A0 c0 l0 (s : Nat) r w hr0 hc0 h2 ⟨h4, h5⟩ h3 ?_
    rw [← h, rshl_f (u32L_of h1) (by omega) h3 h2, Int.toNat_natCast]
  · cases h
end Go.Proofs.YtacnkcojhlbkoaaGreatDoor

namespace Go.Proofs.YtacnkcojhlbkoaaGreatDoor.XCanon
open Go.RowKit Go.Proofs.YtacnkcojhlbkoaaGreatDoorW.PrintWords Go.Proofs.YtacnkcojhlbkoaaGreatDoorW.PrintLast Go.Proofs.YtacnkcojhlbkoaaGreatDoorW.PrintMore
attribute [local go_sem] max2_int min2_int max_two min_two max_three min_three max_four min_four   -- for this text's walks alone
set_option linter.unusedVariables false
set_option linter.unusedSimpArgs false

def errW : Option Int → Value
  | none => .nilIface
  | some c => .iface 0 (.int .i64 c)
theorem errW_none : errW none = .nilIface := rfl
theorem errW_some (c : Int) : errW (some c) = .iface 0 (.int .i64 c) := rfl

-- the values' own types

end Go.Proofs.YtacnkcojhlbkoaaGreatDoor.XCanon

namespace Go.Proofs.YtacnkcojhlbkoaaGreatDoor.XCanon
open Go.RowKit Go.Proofs.YtacnkcojhlbkoaaGreatDoorW.PrintWords Go.Proofs.YtacnkcojhlbkoaaGreatDoorW.PrintLast Go.Proofs.YtacnkcojhlbkoaaGreatDoorW.PrintMore
attribute [local go_sem] max2_int min2_int max_two min_two max_three min_three max_four min_four   -- for this text's walks alone
set_option linter.unusedVariables false
set_option linter.unusedSimpArgs false

theorem eqA66 (d : Nat) (w : World) (x0 y0 : Int) (x1 y1 : Int) :
    (Op.equalIn (d + 2) 66 (.agg #[.int .u64 x0, .int .u64 x1]) (.agg #[.int .u64 y0, .int .u64 y1])).run Tryz.prog w = .ok (x0 == y0 && (x1 == y1)) w := by
  refine eqA_of Tryz.underlying66 (by kernel_rfl) ?_
  refine eqf_cons (by rfl) (by go_simp; rfl) (by go_simp; rfl) (by go_simp) ?_
  exact eqf_last (by rfl) (by go_simp; rfl) (by go_simp; rfl) (by go_simp)
end Go.Proofs.YtacnkcojhlbkoaaGreatDoor.XCanon

namespace Go.Proofs.YtacnkcojhlbkoaaGreatDoor.XCanon
open Go.RowKit Go.Proofs.YtacnkcojhlbkoaaGreatDoorW.PrintWords Go.Proofs.YtacnkcojhlbkoaaGreatDoorW.PrintLast Go.Proofs.YtacnkcojhlbkoaaGreatDoorW.PrintMore Go.Proofs.YtacnkcojhlbkoaaGreatDoor.Zip
attribute [local go_sem] max2_int min2_int max_two min_two max_three min_three max_four min_four   -- for this text's walks alone
set_option linter.unusedVariables false
set_option linter.unusedSimpArgs false

attribute [local go_sem high] eqA66
/-! ### binary_Canonical: function 32 -/
def binary_Canonical.f (a0 : Int) (a1_0 : Int) (a1_1 : Int) : Option (Bool × Int) := (binary_Decode.f a0 a1_0 a1_1).bind fun bt102 => (if bt102.2.2.2.2.2 = 0 then ((binary_Encode.f bt102.1 bt102.2.1 bt102.2.2.1 bt102.2.2.2.1 bt102.2.2.2.2.1).bind fun bt111 => (some ((bt111.1 == a1_0 && (bt111.2.1 == a1_1)), bt111.2.2))) else (some (false, bt102.2.2.2.2.2)))
set_option maxHeartbeats 8000000 in
set_option maxRecDepth 100000 in
theorem binary_Canonical.calls (a0 : Int) (a1_0 : Int) (a1_1 : Int) (r1 : Bool) (r2 : Int) (w : World) (h : binary_Canonical.f a0 a1_0 a1_1 = some (r1, r2)) :
    Calls Tryz.prog 32 #[.int .i64 a0, .agg #[.int .u64 a1_0, .int .u64 a1_1]] w fun e w' => e = .returned (.tuple #[.bool r1, .int .i64 r2]) ∧ Below w.heap.size w w' := by
  have hu66 := Tryz.underlying66
  have hu25 := Tryz.underlying25
  have HB := Aside0.mk (Below.refl w.heap.size w)
  have H : ((binary_Decode.f a0 a1_0 a1_1).bind fun bt102 => (if bt102.2.2.2.2.2 = 0 then ((binary_Encode.f bt102.1 bt102.2.1 bt102.2.2.1 bt102.2.2.2.1 bt102.2.2.2.2.1).bind fun bt111 => (some ((bt111.1 == a1_0 && (bt111.2.1 == a1_1)), bt111.2.2))) else (some (false, bt102.2.2.2.2.2)))) = some (r1, r2) := h
  clear h
  replace H := Option.bind_eq_some_iff.mp H
  obtain ⟨⟨t102, t103, t104, t105, t108, t109⟩, A30, H⟩ := H
  replace H : (if t109 = 0 then ((binary_Encode.f t102 t103 t104 t105 t108).bind fun bt111 => (some ((bt111.1 == a1_0 && (bt111.2.1 == a1_1)), bt111.2.2))) else (some (false, t109))) = some (r1, r2) := H
  have A3 := Aside0.mk A30
  clear A30
  by_cases c4 : t109 = 0
  · rw [if_pos c4] at H
    have c4b0 : (t109 == 0) = true := beq_iff_eq.mpr c4
    have c4b1 : (t109 != 0) = false := bne_eq_false_iff_eq.mpr c4
    clear c4
    replace H := Option.bind_eq_some_iff.mp H
    obtain ⟨⟨t111, t112, t113⟩, A50, H⟩ := H
    replace H : (some ((t111 == a1_0 && (t112 == a1_1)), t113)) = some (r1, r2) := H
    have A5 := Aside0.mk A50
    clear A50
    simp only [Option.some.injEq, Prod.mk.injEq] at H
    obtain ⟨rfl, rfl⟩ := H
    go_enter Tryz.func32, Tryz.ntmps32
    go_wp2_with (first | ((with_reducible refine gate_dst (N := 3) rfl ?_); refine box_event ?hg (N := 3) ?hd (cs := #[.int .u64 a1_0, .int .u64 a1_1]) (t := 66) ?hr ?_; (case hd => rfl); (case hg => rfl); (case hr => first | (go_simp; done) | (go_simp; rfl)); intro gb101 hg w6 hbox hb; have n0_ := Aside0.mk (below_step (zb HB.out) hb); have n1_ := Aside0.mk (hbox); have n2_ := Aside0.mk ((by rw [hg]; exact (below_size (zb HB.out)) : w.heap.size ≤ gb101)); have n3_ := Aside0.mk ((by rw [hg]; exact (below_size (zb HB.out)) : w.heap.size ≤ gb101)); clear HB; have HB := n0_; have BK101 := n1_; have GW101 := n2_; have GE101 := n3_; clear n0_ n1_ n2_ n3_; clear hb hbox hg; have hcz7_0 : w6.cell? ⟨gb101, 0, none⟩ = some (.int .u64 a1_0) := (blk_cell BK101.out 0).trans rfl; have hcz7_1 : w6.cell? ⟨gb101, 1, none⟩ = some (.int .u64 a1_1) := (blk_cell BK101.out 1).trans rfl; have hfz7_0 := blk_frozen BK101.out 0; have hfz7_1 := blk_frozen BK101.out 1) | ((with_reducible refine gate_callee (f := 31) rfl ?_); refine goesL_ (some 12) rfl rfl Tryz.func31 (by kernel_rfl) rfl #[.int .i64 a0, .agg #[.int .u64 a1_0, .int .u64 a1_1]] rfl zm ?_; (with_reducible refine (binary_Decode.calls a0 a1_0 a1_1 t102 t103 t104 t105 t108 t109 _ A3.out).mono ?_); rintro e w8 ⟨v106, rfl, ho0, hb⟩; refine ⟨_, rfl, ?_⟩; have n0_ := Aside0.mk (Kd.R_lower ho0 (below_size (zb HB.out))); have n1_ := Aside0.mk (blk_below (g := gb101) (o := .cells #[.int .u64 a1_0, .int .u64 a1_1] 66 (0, 0)) (zk BK101.out) hb); have n2_ := Aside0.mk (below_step (zb HB.out) hb); clear BK101; clear HB; have HO107 := n0_; have BK101 := n1_; have HB := n2_; clear n0_ n1_ n2_; (try clear hb); (try clear hb2); (try clear hk); (try clear hi); (try clear ho0)) | ((with_reducible refine gate_dst (N := 6) rfl ?_); refine box_event ?hg (N := 6) ?hd (cs := #[.int .i64 0, .int .i64 0, .bool false, .slice none 0 0, .int .i64 0]) (t := 25) ?hr ?_; (case hd => rfl); (case hg => rfl); (case hr => first | (go_simp; done) | (go_simp; rfl)); intro gb110 hg w9 hbox hb; have n0_ := Aside0.mk (Kd.R_below (zr HO107.out) hb); have n1_ := Aside0.mk (blk_below (g := gb101) (o := .cells #[.int .u64 a1_0, .int .u64 a1_1] 66 (0, 0)) (zk BK101.out) hb); have n2_ := Aside0.mk (below_step (zb HB.out) hb); have n3_ := Aside0.mk (hbox); have n4_ := Aside0.mk ((by rw [hg]; exact (below_size (zb HB.out)) : w.heap.size ≤ gb110)); have n5_ := Aside0.mk ((by rw [hg]; exact (below_size (zb HB.out)) : w.heap.size ≤ gb110)); have n6_ := Aside0.mk ((by rw [hg]; exact Nat.ne_of_lt (blk_lt (g := gb101) (o := .cells #[.int .u64 a1_0, .int .u64 a1_1] 66 (0, 0)) (zk BK101.out)) : gb101 ≠ gb110)); have n7_ := Aside0.mk ((by rw [hg]; exact Nat.ne_of_gt (blk_lt (g := gb101) (o := .cells #[.int .u64 a1_0, .int .u64 a1_1] 66 (0, 0)) (zk BK101.out)) : gb110 ≠ gb101)); clear HO107; clear BK101; clear HB; have HO107 := n0_; have BK101 := n1_; have HB := n2_; have BK110 := n3_; have GW110 := n4_; have GE110 := n5_; have NB101_110 := n6_; have NB110_101 := n7_; clear n0_ n1_ n2_ n3_ n4_ n5_ n6_ n7_; clear hb hbox hg; have hnb10 := NB110_101.out; have hnc10 := NB101_110.out; have hcz11_0 : w9.cell? ⟨gb110, 0, none⟩ = some (.int .i64 0) := (blk_cell BK110.out 0).trans rfl; have hcz11_1 : w9.cell? ⟨gb110, 1, none⟩ = some (.int .i64 0) := (blk_cell BK110.out 1).trans rfl; have hcz11_2 : w9.cell? ⟨gb110, 2, none⟩ = some (.bool false) := (blk_cell BK110.out 2).trans rfl; have hcz11_3 : w9.cell? ⟨gb110, 3, none⟩ = some (.slice none 0 0) := (blk_cell BK110.out 3).trans rfl; have hcz11_4 : w9.cell? ⟨gb110, 4, none⟩ = some (.int .i64 0) := (blk_cell BK110.out 4).trans rfl; have hfz11_0 := blk_frozen BK110.out 0; have hfz11_1 := blk_frozen BK110.out 1; have hfz11_2 := blk_frozen BK110.out 2; have hfz11_3 := blk_frozen BK110.out 3; have hfz11_4 := blk_frozen BK110.out 4; obtain ⟨Ao12, co12, eo12⟩ := Kd.R_slice HO107.out; subst eo12) | ((with_reducible refine gate_callee (f := 30) rfl ?_); refine goesL_ (some 20) rfl rfl Tryz.func30 (by kernel_rfl) rfl #[.agg #[.int .i64 t102, .int .i64 t103, .bool t104, .slice Ao12 t105.length co12, .int .i64 t108]] rfl zm ?_; (with_reducible refine (binary_Encode.calls t102 t103 t104 _ _ t105 t108 t111 t112 t113 _ ?side1 ?side2 A5.out).mono ?_); (case side1 => refine (Kd.R_reads' (e := 40) (base := w.heap.size) (ok := fun k_ => True) (n := t105.length) (c := co12) ?_).2.2; exact (by (with_reducible repeat (first | apply Kd.R_alloc | apply Kd.R_drewN | apply Kd.R_drew)); exact (Kd.R_mono (Kd.R_far (p := ⟨gb110, 4, none⟩) (Kd.R_far (p := ⟨gb110, 3, none⟩) (Kd.R_far (p := ⟨gb110, 2, none⟩) (Kd.R_far (p := ⟨gb110, 1, none⟩) (Kd.R_far (p := ⟨gb110, 0, none⟩) (Kd.R_types HO107.out BK110.out (by decide)) (fun _ hk => hk.2) (.int .i64 t102)) (fun _ hk => hk.2) (.int .i64 t103)) (fun _ hk => hk.2) (.bool t104)) (fun _ hk => hk.2) (.slice Ao12 t105.length co12)) (fun _ hk => hk.2) (.int .i64 t108)) (fun _ h_ => h_.1)))); (case side2 => exact (Kd.R_reads' HO107.out).2.1); rintro e w13 ⟨rfl, hb⟩; refine ⟨_, rfl, ?_⟩; have n0_ := Aside0.mk (Kd.R_below (by (with_reducible repeat (first | apply Kd.R_alloc | apply Kd.R_drewN | apply Kd.R_drew)); exact (Kd.R_mono (Kd.R_far (p := ⟨gb110, 4, none⟩) (Kd.R_far (p := ⟨gb110, 3, none⟩) (Kd.R_far (p := ⟨gb110, 2, none⟩) (Kd.R_far (p := ⟨gb110, 1, none⟩) (Kd.R_far (p := ⟨gb110, 0, none⟩) (Kd.R_types HO107.out BK110.out (by decide)) (fun _ hk => hk.2) (.int .i64 t102)) (fun _ hk => hk.2) (.int .i64 t103)) (fun _ hk => hk.2) (.bool t104)) (fun _ hk => hk.2) (.slice Ao12 t105.length co12)) (fun _ hk => hk.2) (.int .i64 t108)) (fun _ h_ => h_.1))) hb); have n1_ := Aside0.mk (blk_below (g := gb101) (o := .cells #[.int .u64 a1_0, .int .u64 a1_1] 66 (0, 0)) (by (with_reducible repeat (first | refine blk_drewN ?_ _ | refine blk_drew ?_ | refine blk_alloc ?_ _)); refine blk_far ?_ NB101_110.out _; (with_reducible repeat (first | refine blk_drewN ?_ _ | refine blk_drew ?_ | refine blk_alloc ?_ _)); refine blk_far ?_ NB101_110.out _; (with_reducible repeat (first | refine blk_drewN ?_ _ | refine blk_drew ?_ | refine blk_alloc ?_ _)); refine blk_far ?_ NB101_110.out _; (with_reducible repeat (first | refine blk_drewN ?_ _ | refine blk_drew ?_ | refine blk_alloc ?_ _)); refine blk_far ?_ NB101_110.out _; (with_reducible repeat (first | refine blk_drewN ?_ _ | refine blk_drew ?_ | refine blk_alloc ?_ _)); refine blk_far ?_ NB101_110.out _; (with_reducible repeat (first | refine blk_drewN ?_ _ | refine blk_drew ?_ | refine blk_alloc ?_ _)); exact BK101.out) hb); have n2_ := Aside0.mk (blk_below (g := gb110) (o := .cells #[.int .i64 t102, .int .i64 t103, .bool t104, .slice Ao12 t105.length co12, .int .i64 t108] 25 (0, 0)) (by (with_reducible repeat (first | refine blk_drewN ?_ _ | refine blk_drew ?_ | refine blk_alloc ?_ _)); refine blk_put (cs := #[.int .i64 t102, .int .i64 t103, .bool t104, .slice Ao12 t105.length co12, .int .i64 0]) ?_ 4 _ rfl; (with_reducible repeat (first | refine blk_drewN ?_ _ | refine blk_drew ?_ | refine blk_alloc ?_ _)); refine blk_put (cs := #[.int .i64 t102, .int .i64 t103, .bool t104, .slice none 0 0, .int .i64 0]) ?_ 3 _ rfl; (with_reducible repeat (first | refine blk_drewN ?_ _ | refine blk_drew ?_ | refine blk_alloc ?_ _)); refine blk_put (cs := #[.int .i64 t102, .int .i64 t103, .bool false, .slice none 0 0, .int .i64 0]) ?_ 2 _ rfl; (with_reducible repeat (first | refine blk_drewN ?_ _ | refine blk_drew ?_ | refine blk_alloc ?_ _)); refine blk_put (cs := #[.int .i64 t102, .int .i64 0, .bool false, .slice none 0 0, .int .i64 0]) ?_ 1 _ rfl; (with_reducible repeat (first | refine blk_drewN ?_ _ | refine blk_drew ?_ | refine blk_alloc ?_ _)); refine blk_put (cs := #[.int .i64 0, .int .i64 0, .bool false, .slice none 0 0, .int .i64 0]) ?_ 0 _ rfl; (with_reducible repeat (first | refine blk_drewN ?_ _ | refine blk_drew ?_ | refine blk_alloc ?_ _)); exact BK110.out) hb); have n3_ := Aside0.mk (below_step (zb HB.out) hb); clear HO107; clear BK101; clear BK110; clear HB; have HO107 := n0_; have BK101 := n1_; have BK110 := n2_; have HB := n3_; clear n0_ n1_ n2_ n3_; (try clear hb); (try clear hb2); (try clear hk); (try clear hi)) | ((with_reducible refine gate_dst (N := 8) rfl ?_); refine box_event ?hg (N := 8) ?hd (cs := #[.int .u64 0, .int .u64 0]) (t := 66) ?hr ?_; (case hd => rfl); (case hg => rfl); (case hr => first | (go_simp; done) | (go_simp; rfl)); intro gb114 hg w14 hbox hb; have n0_ := Aside0.mk (Kd.R_below (zr HO107.out) hb); have n1_ := Aside0.mk (blk_below (g := gb101) (o := .cells #[.int .u64 a1_0, .int .u64 a1_1] 66 (0, 0)) (zk BK101.out) hb); have n2_ := Aside0.mk (blk_below (g := gb110) (o := .cells #[.int .i64 t102, .int .i64 t103, .bool t104, .slice Ao12 t105.length co12, .int .i64 t108] 25 (0, 0)) (zk BK110.out) hb); have n3_ := Aside0.mk (below_step (zb HB.out) hb); have n4_ := Aside0.mk (hbox); have n5_ := Aside0.mk ((by rw [hg]; exact (below_size (zb HB.out)) : w.heap.size ≤ gb114)); have n6_ := Aside0.mk ((by rw [hg]; exact (below_size (zb HB.out)) : w.heap.size ≤ gb114)); have n7_ := Aside0.mk ((by rw [hg]; exact Nat.ne_of_lt (blk_lt (g := gb101) (o := .cells #[.int .u64 a1_0, .int .u64 a1_1] 66 (0, 0)) (zk BK101.out)) : gb101 ≠ gb114)); have n8_ := Aside0.mk ((by rw [hg]; exact Nat.ne_of_gt (blk_lt (g := gb101) (o := .cells #[.int .u64 a1_0, .int .u64 a1_1] 66 (0, 0)) (zk BK101.out)) : gb114 ≠ gb101)); have n9_ := Aside0.mk ((by rw [hg]; exact Nat.ne_of_lt (blk_lt (g := gb110) (o := .cells #[.int .i64 t102, .int .i64 t103, .bool t104, .slice Ao12 t105.length co12, .int .i64 t108] 25 (0, 0)) (zk BK110.out)) : gb110 ≠ gb114)); have n10_ := Aside0.mk ((by rw [hg]; exact Nat.ne_of_gt (blk_lt (g := gb110) (o := .cells #[.int .i64 t102, .int .i64 t103, .bool t104, .slice Ao12 t105.length co12, .int .i64 t108] 25 (0, 0)) (zk BK110.out)) : gb114 ≠ gb110)); clear HO107; clear BK101; clear BK110; clear HB; have HO107 := n0_; have BK101 := n1_; have BK110 := n2_; have HB := n3_; have BK114 := n4_; have GW114 := n5_; have GE114 := n6_; have NB101_114 := n7_; have NB114_101 := n8_; have NB110_114 := n9_; have NB114_110 := n10_; clear n0_ n1_ n2_ n3_ n4_ n5_ n6_ n7_ n8_ n9_ n10_; clear hb hbox hg; have hnb15 := NB114_101.out; have hnc15 := NB101_114.out; have hnb16 := NB114_110.out; have hnc16 := NB110_114.out; have hcz17_0 : w14.cell? ⟨gb114, 0, none⟩ = some (.int .u64 0) := (blk_cell BK114.out 0).trans rfl; have hcz17_1 : w14.cell? ⟨gb114, 1, none⟩ = some (.int .u64 0) := (blk_cell BK114.out 1).trans rfl; have hfz17_0 := blk_frozen BK114.out 0; have hfz17_1 := blk_frozen BK114.out 1; have hcz18_0 : w14.cell? ⟨gb101, 0, none⟩ = some (.int .u64 a1_0) := (blk_cell BK101.out 0).trans rfl; have hcz18_1 : w14.cell? ⟨gb101, 1, none⟩ = some (.int .u64 a1_1) := (blk_cell BK101.out 1).trans rfl; have hfz18_0 := blk_frozen BK101.out 0; have hfz18_1 := blk_frozen BK101.out 1))
    go_ret2
    exact ⟨by first | rfl | (simp [errW_none, errW_some] <;> rfl) | (simp [*, errW_none, errW_some] <;> rfl), zb HB.out⟩
  · rw [if_neg c4] at H
    have c4b0 : (t109 == 0) = false := beq_eq_false_iff_ne.mpr c4
    have c4b1 : (t109 != 0) = true := bne_iff_ne.mpr c4
    simp only [Option.some.injEq, Prod.mk.injEq] at H
    obtain ⟨rfl, rfl⟩ := H
    go_enter Tryz.func32, Tryz.ntmps32
    go_wp2_with (first | ((with_reducible refine gate_dst (N := 3) rfl ?_); refine box_event ?hg (N := 3) ?hd (cs := #[.int .u64 a1_0, .int .u64 a1_1]) (t := 66) ?hr ?_; (case hd => rfl); (case hg => rfl); (case hr => first | (go_simp; done) | (go_simp; rfl)); intro gb101 hg w19 hbox hb; have n0_ := Aside0.mk (below_step (zb HB.out) hb); have n1_ := Aside0.mk (hbox); have n2_ := Aside0.mk ((by rw [hg]; exact (below_size (zb HB.out)) : w.heap.size ≤ gb101)); have n3_ := Aside0.mk ((by rw [hg]; exact (below_size (zb HB.out)) : w.heap.size ≤ gb101)); clear HB; have HB := n0_; have BK101 := n1_; have GW101 := n2_; have GE101 := n3_; clear n0_ n1_ n2_ n3_; clear hb hbox hg; have hcz20_0 : w19.cell? ⟨gb101, 0, none⟩ = some (.int .u64 a1_0) := (blk_cell BK101.out 0).trans rfl; have hcz20_1 : w19.cell? ⟨gb101, 1, none⟩ = some (.int .u64 a1_1) := (blk_cell BK101.out 1).trans rfl; have hfz20_0 := blk_frozen BK101.out 0; have hfz20_1 := blk_frozen BK101.out 1) | ((with_reducible refine gate_callee (f := 31) rfl ?_); refine goesL_ (some 12) rfl rfl Tryz.func31 (by kernel_rfl) rfl #[.int .i64 a0, .agg #[.int .u64 a1_0, .int .u64 a1_1]] rfl zm ?_; (with_reducible refine (binary_Decode.calls a0 a1_0 a1_1 t102 t103 t104 t105 t108 t109 _ A3.out).mono ?_); rintro e w21 ⟨v106, rfl, ho0, hb⟩; refine ⟨_, rfl, ?_⟩; have n0_ := Aside0.mk (Kd.R_lower ho0 (below_size (zb HB.out))); have n1_ := Aside0.mk (blk_below (g := gb101) (o := .cells #[.int .u64 a1_0, .int .u64 a1_1] 66 (0, 0)) (zk BK101.out) hb); have n2_ := Aside0.mk (below_step (zb HB.out) hb); clear BK101; clear HB; have HO107 := n0_; have BK101 := n1_; have HB := n2_; clear n0_ n1_ n2_; (try clear hb); (try clear hb2); (try clear hk); (try clear hi); (try clear ho0)) | ((with_reducible refine gate_dst (N := 6) rfl ?_); refine box_event ?hg (N := 6) ?hd (cs := #[.int .i64 0, .int .i64 0, .bool false, .slice none 0 0, .int .i64 0]) (t := 25) ?hr ?_; (case hd => rfl); (case hg => rfl); (case hr => first | (go_simp; done) | (go_simp; rfl)); intro gb110 hg w22 hbox hb; have n0_ := Aside0.mk (Kd.R_below (zr HO107.out) hb); have n1_ := Aside0.mk (blk_below (g := gb101) (o := .cells #[.int .u64 a1_0, .int .u64 a1_1] 66 (0, 0)) (zk BK101.out) hb); have n2_ := Aside0.mk (below_step (zb HB.out) hb); have n3_ := Aside0.mk (hbox); have n4_ := Aside0.mk ((by rw [hg]; exact (below_size (zb HB.out)) : w.heap.size ≤ gb110)); have n5_ := Aside0.mk ((by rw [hg]; exact (below_size (zb HB.out)) : w.heap.size ≤ gb110)); have n6_ := Aside0.mk ((by rw [hg]; exact Nat.ne_of_lt (blk_lt (g := gb101) (o := .cells #[.int .u64 a1_0, .int .u64 a1_1] 66 (0, 0)) (zk BK101.out)) : gb101 ≠ gb110)); have n7_ := Aside0.mk ((by rw [hg]; exact Nat.ne_of_gt (blk_lt (g := gb101) (o := .cells #[.int .u64 a1_0, .int .u64 a1_1] 66 (0, 0)) (zk BK101.out)) : gb110 ≠ gb101)); clear HO107; clear BK101; clear HB; have HO107 := n0_; have BK101 := n1_; have HB := n2_; have BK110 := n3_; have GW110 := n4_; have GE110 := n5_; have NB101_110 := n6_; have NB110_101 := n7_; clear n0_ n1_ n2_ n3_ n4_ n5_ n6_ n7_; clear hb hbox hg; have hnb23 := NB110_101.out; have hnc23 := NB101_110.out; have hcz24_0 : w22.cell? ⟨gb110, 0, none⟩ = some (.int .i64 0) := (blk_cell BK110.out 0).trans rfl; have hcz24_1 : w22.cell? ⟨gb110, 1, none⟩ = some (.int .i64 0) := (blk_cell BK110.out 1).trans rfl; have hcz24_2 : w22.cell? ⟨gb110, 2, none⟩ = some (.bool false) := (blk_cell BK110.out 2).trans rfl; have hcz24_3 : w22.cell? ⟨gb110, 3, none⟩ = some (.slice none 0 0) := (blk_cell BK110.out 3).trans rfl; have hcz24_4 : w22.cell? ⟨gb110, 4, none⟩ = some (.int .i64 0) := (blk_cell BK110.out 4).trans rfl; have hfz24_0 := blk_frozen BK110.out 0; have hfz24_1 := blk_frozen BK110.out 1; have hfz24_2 := blk_frozen BK110.out 2; have hfz24_3 := blk_frozen BK110.out 3; have hfz24_4 := blk_frozen BK110.out 4; obtain ⟨Ao25, co25, eo25⟩ := Kd.R_slice HO107.out; subst eo25))
    go_ret2
    exact ⟨by first | rfl | (simp [errW_none, errW_some] <;> rfl) | (simp [*, errW_none, errW_some] <;> rfl), zb HB.out⟩

end Go.Proofs.YtacnkcojhlbkoaaGreatDoor.XCanon

set_option linter.unusedSimpArgs false
set_option linter.unusedVariables false
set_option linter.unnecessarySimpa false
namespace Go.Proofs.YtacnkcojhlbkoaaGreatDoor
open Go.RowKit Go.Proofs.YtacnkcojhlbkoaaGreatDoorW.PrintWords Go.Proofs.YtacnkcojhlbkoaaGreatDoorW.PrintLast Go.Proofs.YtacnkcojhlbkoaaGreatDoorW.PrintMore Go.Proofs.YtacnkcojhlbkoaaGreatDoor.NL
def canonR (f : Int) (N : Nat) (hi lo : Int) : Bool × Int :=
  if isFm f = true ∧ N < 2 ^ (topN f + 1) then ((((packN f (decN f N).1 (decNeg f N) (decN f N).2.1 (decN f N).2.2 / 18446744073709551616 : Nat) : Int) == hi && (((packN f (decN f N).1 (decNeg f N) (decN f N).2.1 (decN f N).2.2 % 18446744073709551616 : Nat) : Int) == lo)), 0) else (false, 1)
def binary_Canonical.f (a0 a1_0 a1_1 : Int) : Option (Bool × Int) := if u64B a1_0 && u64B a1_1 then some (canonR a0 (rawN a1_0 a1_1) a1_0 a1_1) else none
theorem binary_Canonical.calls (a0 a1_0 a1_1 : Int) (r1 : Bool) (r2 : Int) (w : World) (h : binary_Canonical.f a0 a1_0 a1_1 = some (r1, r2)) :
    Calls Tryz.prog 32 #[.int .i64 a0, .agg #[.int .u64 a1_0, .int .u64 a1_1]] w fun e w' => e = .returned (.tuple #[.bool r1, .int .i64 r2]) ∧ Below w.heap.size w w' := by
  refine XCanon.binary_Canonical.calls a0 a1_0 a1_1 r1 r2 w ?_
  rw [← h]
  unfold binary_Canonical.f at h ⊢
  split at h
  · rename_i hb
    rw [if_pos hb]
    unfold XCanon.binary_Canonical.f binary_Decode.f canonR decodeR
    rw [if_pos hb]
    by_cases hd : isFm a0 = true ∧ rawN a1_0 a1_1 < 2 ^ (topN a0 + 1)
    · rw [if_pos hd, if_pos hd]
      have hk : datOk a0 (decN a0 (rawN a1_0 a1_1)).1 (ofN (decN a0 (rawN a1_0 a1_1)).2.1) (decN a0 (rawN a1_0 a1_1)).2.2 = true := by
        unfold datOk; rw [hd.1, dec_has hd.1]; rfl
      simp only [Option.bind_some, if_true]
      unfold binary_Encode.f
      rw [if_pos (u32L_ofN _)]
      unfold encN encE
      rw [hk]
      simp only [if_true, Option.bind_some, val_ofN]
    · rw [if_neg hd, if_neg hd]
      simp
  · cases h
end Go.Proofs.YtacnkcojhlbkoaaGreatDoor

set_option linter.unusedSimpArgs false
set_option linter.unusedVariables false
set_option linter.unnecessarySimpa false
namespace Go.Proofs.YtacnkcojhlbkoaaGreatDoor
open Go.RowKit Go.Proofs.YtacnkcojhlbkoaaGreatDoorW.PrintWords Go.Proofs.YtacnkcojhlbkoaaGreatDoorW.PrintLast Go.Proofs.YtacnkcojhlbkoaaGreatDoorW.PrintMore Go.Proofs.YtacnkcojhlbkoaaGreatDoor.NL
set_option maxRecDepth 100000
set_option exponentiation.threshold 130

abbrev wHi (N : Nat) : Int := ((N / 18446744073709551616 : Nat) : Int)
abbrev wLo (N : Nat) : Int := ((N % 18446744073709551616 : Nat) : Int)
end Go.Proofs.YtacnkcojhlbkoaaGreatDoor

set_option linter.unusedSimpArgs false
set_option linter.unusedVariables false
set_option linter.unnecessarySimpa false
namespace Go.Proofs.YtacnkcojhlbkoaaGreatDoor
open Go.RowKit Go.Proofs.YtacnkcojhlbkoaaGreatDoorW.PrintWords Go.Proofs.YtacnkcojhlbkoaaGreatDoorW.PrintLast Go.Proofs.YtacnkcojhlbkoaaGreatDoorW.PrintMore Go.Proofs.YtacnkcojhlbkoaaGreatDoor.NL
set_option maxRecDepth 100000
set_option exponentiation.threshold 33000

theorem len_ofN {x : Nat} {n : Nat} {A : Option Addr} {w : World} (h : Kd.C (Kd.int .u32) w A n (ofN x)) : n = (ofN x).length := h.1.symm
theorem rof_gives (x : Int) (w : World) (h : u64B x = true) : Calls Tryz.prog 71 #[.int .u64 x] w (Gives x.toNat w) := by
  refine (sorobanref01_Of.calls x (ofN x.toNat) w (by unfold sorobanref01_Of.f; rw [if_pos h])).mono ?_
  rintro e w' ⟨v, rfl, hv, hb⟩
  obtain ⟨A, c, rfl⟩ := Kd.R_slice hv
  exact ⟨A, _, c, rfl, Lib.hid ⟨(R_C hv).2, (R_C hv).1⟩, hb⟩
theorem radd_new {A A' : Option Addr} {n c n' c' x y : Nat} (w : World) (h : Kd.C (Kd.int .u32) w A n (ofN x)) (hc : n ≤ c) (h' : Kd.C (Kd.int .u32) w A' n' (ofN y)) (hc' : n' ≤ c') (hx : x < 2 ^ 1000) (hy : y < 2 ^ 1000) : Calls Tryz.prog 98 #[.slice A n c, .slice A' n' c'] w (NewRow w (ofN (x + y))) := by
  obtain rfl := len_ofN h
  obtain rfl := len_ofN h'
  have l1 : (ofN x).length ≤ 1024 := small_len hx (by omega)
  have l2 : (ofN y).length ≤ 1024 := small_len hy (by omega)
  refine sorobanref01_Add.calls A c (ofN x) A' c' (ofN y) (ofN (x + y)) w h hc h' hc' ?_
  unfold sorobanref01_Add.f
  rw [u32L_ofN, u32L_ofN, decide_eq_true ⟨by omega, by omega⟩, val_ofN, val_ofN]; rfl
end Go.Proofs.YtacnkcojhlbkoaaGreatDoor

set_option linter.unusedSimpArgs false
set_option linter.unusedVariables false
set_option linter.unnecessarySimpa false
namespace Go.Proofs.YtacnkcojhlbkoaaGreatDoor
open Go.RowKit Go.Proofs.YtacnkcojhlbkoaaGreatDoorW.PrintWords Go.Proofs.YtacnkcojhlbkoaaGreatDoorW.PrintLast Go.Proofs.YtacnkcojhlbkoaaGreatDoorW.PrintMore Go.Proofs.YtacnkcojhlbkoaaGreatDoor.NL
set_option maxRecDepth 100000

def rcmpN (x y : Nat) : Int := if x < y then -1 else if x > y then 1 else 0
theorem cmp_digit (x y : Nat) (B : Nat) (hB : 0 < B) (h : x / B = y / B) : rcmpN x y = rcmpN (x % B) (y % B) := by
  have h1 := Nat.div_add_mod x B
  have h2 := Nat.div_add_mod y B
  rw [h] at h1
  unfold rcmpN
  generalize B * (y / B) = t at *
  generalize x % B = u at *
  generalize y % B = v at *
  subst h1; subst h2
  by_cases hx : u < v
  · rw [if_pos (by omega), if_pos hx]
  · rw [if_neg (by omega), if_neg hx]
    by_cases hy : u > v
    · rw [if_pos (by omega), if_pos hy]
    · rw [if_neg (by omega), if_neg hy]
theorem cmp_l0 {a b : List Int} (la : Lim a) (lb : Lim b) : ∀ (t : Nat), t ≤ 1000000 → val a / W t = val b / W t →
    XAr.sorobanref01_Cmp.l0 (t + 1) a b ((t : Nat) - 1 : Int) = some (rcmpN (val a) (val b)) := by
  intro t
  induction t with
  | zero =>
    intro _ h
    rw [W_zero, Nat.div_one, Nat.div_one] at h
    unfold XAr.sorobanref01_Cmp.l0
    rw [if_neg (by omega), h]
    unfold rcmpN
    rw [if_neg (by omega), if_neg (by omega)]
  | succ t ih =>
    intro ht h
    unfold XAr.sorobanref01_Cmp.l0
    have e0 : (((t + 1 : Nat) : Int) - 1) = (t : Nat) := by omega
    rw [e0, if_pos (by omega), at_f la, at_f lb]
    simp only [Option.bind_some]
    have da := digit la t
    have db := digit lb t
    rw [W_succ, Nat.mul_comm, ← Nat.div_div_eq_div_mul, ← Nat.div_div_eq_div_mul] at h
    rw [da, db]
    have hd := cmp_digit _ _ 4294967296 (by omega) h
    have lift : rcmpN (val a / W t) (val b / W t) ≠ 0 → rcmpN (val a) (val b) = rcmpN (val a / W t) (val b / W t) := by
      intro hn
      unfold rcmpN at hn ⊢
      by_cases h1 : val a / W t < val b / W t
      · rw [if_pos h1, if_pos]
        rcases Nat.lt_or_ge (val a) (val b) with h | h
        · exact h
        · exact absurd (Nat.div_le_div_right (c := W t) h) (by omega)
      · rw [if_neg h1] at hn ⊢
        by_cases h2 : val a / W t > val b / W t
        · have h3 : val b < val a := by
            rcases Nat.lt_or_ge (val b) (val a) with h | h
            · exact h
            · exact absurd (Nat.div_le_div_right (c := W t) h) (by omega)
          rw [if_pos h2, if_neg (by omega), if_pos h3]
        · rw [if_neg h2] at hn
          exact absurd rfl hn
    by_cases h1 : val a / W t % 4294967296 < val b / W t % 4294967296
    · have hc : rcmpN (val a / W t) (val b / W t) = -1 := by rw [hd]; unfold rcmpN; rw [if_pos h1]
      rw [if_pos (by omega), lift (by rw [hc]; omega), hc]
    · rw [if_neg (by omega)]
      by_cases h2 : val a / W t % 4294967296 > val b / W t % 4294967296
      · have hc : rcmpN (val a / W t) (val b / W t) = 1 := by rw [hd]; unfold rcmpN; rw [if_neg h1, if_pos h2]
        rw [if_pos (by omega), lift (by rw [hc]; omega), hc]
      · rw [if_neg (by omega), w64]
        refine ih (by omega) ?_
        have p1 := Nat.div_add_mod (val a / W t) 4294967296
        have p2 := Nat.div_add_mod (val b / W t) 4294967296
        rw [h] at p1
        omega
def sorobanref01_Cmp.f (l0 l1 : List Int) : Option Int := if (u32L l0 && u32L l1) && decide (l0.length ≤ 100000 ∧ l1.length ≤ 100000) then some (rcmpN (val l0) (val l1)) else none
theorem sorobanref01_Cmp.calls (A0 : Option Addr) (c0 : Nat) (l0 : List Int) (A1 : Option Addr) (c1 : Nat) (l1 : List Int) (r : Int) (w : World) (hr0 : Kd.C (Kd.int .u32) w A0 l0.length l0) (hc0 : l0.length ≤ c0) (hr1 : Kd.C (Kd.int .u32) w A1 l1.length l1) (hc1 : l1.length ≤ c1) (h : sorobanref01_Cmp.f l0 l1 = some r) :
    Calls Tryz.prog 67 #[.slice A0 l0.length c0, .slice A1 l1.length c1] w fun e w' => e = .returned (.int .i64 r) ∧ Below w.heap.size w w' := by
  unfold sorobanref01_Cmp.f at h
  split at h
  · rename_i hb
    simp only [Bool.and_eq_true, decide_eq_true_eq] at hb
    obtain ⟨⟨h1, h2⟩, h3, h4⟩ := hb
    obtain ⟨m, hm⟩ : ∃ m : Nat, mx (l0.length : Int) (l1.length : Int) = (m : Nat) := by
      unfold mx
      split
      · exact ⟨_, rfl⟩
      · exact ⟨_, rfl⟩
    have hmb : m ≤ 100000 := by unfold mx at hm; split at hm <;> omega
    have hma : l0.length ≤ m ∧ l1.length ≤ m := by unfold mx at hm; split at hm <;> omega
    refine XAr.sorobanref01_Cmp.calls (m + 1) A0 c0 l0 A1 c1 l1 r w hr0 hc0 hr1 hc1 ?_
    rw [← h]
    unfold XAr.sorobanref01_Cmp.f
    rw [hm, w64]
    refine cmp_l0 (u32L_of h1) (u32L_of h2) m (by omega) ?_
    rw [Nat.div_eq_of_lt (Nat.lt_of_lt_of_le (val_lt (u32L_of h1)) (W_le hma.1)), Nat.div_eq_of_lt (Nat.lt_of_lt_of_le (val_lt (u32L_of h2)) (W_le hma.2))]
  · cases h

theorem sub_l0 {a b : List Int} (la : Lim a) (lb : Lim b) (hn : a.length ≤ 1000000) (hle : val b ≤ val a) : ∀ (t i : Nat) (x : List Int) (c : Nat), i + t = a.length → x.length = i → Lim x → c ≤ 1 → val x + val (b.take i) = val (a.take i) + W i * c →
    XAr.sorobanref01_Sub.l0 (t + 1) a b x (c : Nat) (i : Nat) = some (ofN (val a - val b)) := by
  intro t
  induction t with
  | zero =>
    intro i x c hi hx lx hc hv
    unfold XAr.sorobanref01_Sub.l0
    rw [if_neg (by omega), trim_f lx (by omega), Option.bind_some]
    have h2 : val b < W i := Nat.lt_of_le_of_lt hle (Nat.lt_of_lt_of_le (val_lt la) (W_le (by omega)))
    rw [val_take lb, Nat.mod_eq_of_lt h2, take_all (by omega)] at hv
    have h1 : val x < W i := by have := val_lt lx; rw [hx] at this; exact this
    have h4 : c = 0 := by
      rcases Nat.eq_zero_or_pos c with h | h
      · exact h
      · have : c = 1 := by omega
        subst this
        rw [Nat.mul_one] at hv; omega
    subst h4
    rw [show val x = val a - val b by omega]
  | succ t ih =>
    intro i x c hi hx lx hc hv
    unfold XAr.sorobanref01_Sub.l0
    rw [if_pos (by omega), at_f la, at_f lb, Option.bind_some, Option.bind_some, if_pos (by omega)]
    obtain ⟨a0, a1⟩ := lim_getD la i
    obtain ⟨b0, b1⟩ := lim_getD lb i
    have ea := val_take_succ a i
    have eb := val_take_succ b i
    have hp : (a.getD i 0).toNat < 4294967296 := by omega
    have hq : (b.getD i 0).toNat < 4294967296 := by omega
    generalize (a.getD i 0).toNat = p at *
    generalize (b.getD i 0).toNat = q at *
    clear a0 a1 b0 b1
    obtain ⟨lo, c', hlo, hc', he, e3, e4⟩ : ∃ lo c' : Nat, lo < 4294967296 ∧ c' ≤ 1 ∧ lo + q + c = p + 4294967296 * c' ∧
        (IntKind.u64.wrap (IntKind.u64.wrap ((p : Int) - (q : Int)) - (c : Int))) % 4294967296 = (lo : Nat) ∧ (IntKind.u64.wrap (IntKind.u64.wrap ((p : Int) - (q : Int)) - (c : Int))) / 9223372036854775808 = (c' : Nat) := by
      simp only [IntKind.wrap_u64]
      by_cases h : q + c ≤ p
      · exact ⟨p - (q + c), 0, by omega, by omega, by omega, by omega, by omega⟩
      · exact ⟨p + 4294967296 - (q + c), 1, by omega, by omega, by omega, by omega, by omega⟩
    have e5 : wrap64 ((i : Int) + 1) = ((i + 1 : Nat) : Int) := by rw [w64]; omega
    rw [e3, e4, e5]
    refine ih (i + 1) _ _ (by omega) (by simp [hx]) ?_ hc' ?_
    · refine lx.append ?_
      intro y hy
      simp at hy
      subst hy
      omega
    · rw [val_append, hx, ea, eb, W_succ]
      have hv1 : val [((lo : Nat) : Int)] = lo := by simp [val]
      rw [hv1]
      show val x + W i * lo + (val (b.take i) + W i * q) = val (a.take i) + W i * p + 4294967296 * W i * c'
      have h1 : W i * lo + W i * q + W i * c = W i * p + 4294967296 * W i * c' := by
        rw [← Nat.mul_add, ← Nat.mul_add, he, Nat.mul_add, Nat.mul_comm 4294967296 (W i), Nat.mul_assoc]
      omega
def sorobanref01_Sub.f (l0 l1 : List Int) : Option (List Int) := if (u32L l0 && u32L l1) && decide (l0.length ≤ 100000 ∧ val l1 ≤ val l0) then some (ofN (val l0 - val l1)) else none
theorem sorobanref01_Sub.calls (A0 : Option Addr) (c0 : Nat) (l0 : List Int) (A1 : Option Addr) (c1 : Nat) (l1 : List Int) (r : List Int) (w : World) (hr0 : Kd.C (Kd.int .u32) w A0 l0.length l0) (hc0 : l0.length ≤ c0) (hr1 : Kd.C (Kd.int .u32) w A1 l1.length l1) (hc1 : l1.length ≤ c1) (h : sorobanref01_Sub.f l0 l1 = some r) :
    Calls Tryz.prog 55 #[.slice A0 l0.length c0, .slice A1 l1.length c1] w fun e w' => ∃ v0_ : Value, e = .returned (v0_) ∧ Kd.R (Kd.int .u32) 40 w' w.heap.size (fun _ => True) v0_ r ∧ Below w.heap.size w w' := by
  unfold sorobanref01_Sub.f at h
  split at h
  · rename_i hb
    simp only [Bool.and_eq_true, decide_eq_true_eq] at hb
    obtain ⟨⟨h1, h2⟩, h3, h4⟩ := hb
    refine XAr.sorobanref01_Sub.calls (l0.length + 1) A0 c0 l0 A1 c1 l1 r w hr0 hc0 hr1 hc1 ?_
    rw [← h]
    unfold XAr.sorobanref01_Sub.f
    have e0 : val ([] : List Int) + val (l1.take 0) = val (l0.take 0) + W 0 * 0 := by rw [List.take_zero, List.take_zero, Nat.mul_zero]; rfl
    exact sub_l0 (u32L_of h1) (u32L_of h2) (by omega) h4 l0.length 0 [] 0 (by omega) rfl (by intro x hx; simp at hx) (by omega) e0
  · cases h

theorem shr_l0 {a : List Int} {s q r : Nat} (la : Lim a) (hr : r < 32) (hs : s = 32 * q + r) (hn : a.length ≤ 1000000) (hs2 : s ≤ 100000000) : ∀ (t k : Nat) (x : List Int), q + k + t = a.length → x.length = k → Lim x → val x = val a / 2 ^ s % W k →
    XAr.sorobanref01_Shr.l0 (t + 1) a (s : Nat) x ((q + k : Nat) : Int) = some (ofN (val a / 2 ^ s)) := by
  have et : Int.tmod ((s : Nat) : Int) 32 = (r : Nat) := by rw [Int.tmod_eq_emod_of_nonneg (by omega)]; omega
  intro t
  induction t with
  | zero =>
    intro k x hi hx lx hv
    unfold XAr.sorobanref01_Shr.l0
    rw [if_neg (by omega), trim_f lx (by omega), Option.bind_some, hv, Nat.mod_eq_of_lt]
    rw [hs, Nat.pow_add, ← W_two, ← Nat.div_div_eq_div_mul]
    refine Nat.lt_of_le_of_lt (Nat.div_le_self _ _) ?_
    rw [Nat.div_lt_iff_lt_mul (W_pos q), ← W_add]
    exact Nat.lt_of_lt_of_le (val_lt la) (W_le (by omega))
  | succ t ih =>
    intro k x hi hx lx hv
    unfold XAr.sorobanref01_Shr.l0
    have e5 : wrap64 (((q + k : Nat) : Int) + 1) = ((q + k + 1 : Nat) : Int) := by clear hv ih; rw [w64] <;> omega
    have c1 : ((q + k : Nat) : Int) < (a.length : Int) := by clear hv ih; omega
    have c2 : (0 : Int) ≤ ((r : Nat) : Int) := by clear hv ih; omega
    have c3 : x.length < 35184372088832 := by clear hv ih; omega
    have c4 : q + (k + 1) + t = a.length := by clear hv ih; omega
    rw [e5, if_pos c1, at_f la, at_f la, Option.bind_some, Option.bind_some, et, if_pos c2, if_pos c3]
    have hd := shr_digit la k q r hr
    rw [← hs] at hd
    rw [show k + q = q + k by omega] at hd
    obtain ⟨a0, a1⟩ := lim_getD la (q + k)
    obtain ⟨b0, b1⟩ := lim_getD la (q + k + 1)
    generalize (a.getD (q + k) 0) = u at *
    generalize (a.getD (q + k + 1) 0) = v at *
    have e1 : IntKind.u64.wrap (IntKind.u64.wrap (((v.toNat : Nat) : Int) * 4294967296) + ((u.toNat : Nat) : Int)) = ((u.toNat + 4294967296 * v.toNat : Nat) : Int) := by
      simp only [IntKind.wrap_u64]; omega
    have e2 : (shr .u64 ((u.toNat + 4294967296 * v.toNat : Nat) : Int) ((r : Nat) : Int)) % 4294967296 = ((val a / 2 ^ s / W k % 4294967296 : Nat) : Int) := by
      rw [← hd]
      unfold shr
      rw [Int.toNat_natCast, Nat.min_eq_left (by simp [IntKind.bits]; omega)]
      have hx : ((u.toNat + 4294967296 * v.toNat : Nat) : Int) / 2 ^ r = (((u.toNat + 4294967296 * v.toNat) / 2 ^ r : Nat) : Int) := by
        rw [Int.natCast_ediv, Int.natCast_pow]; rfl
      rw [hx]
      generalize (u.toNat + 4294967296 * v.toNat) / 2 ^ r = z
      clear hv ih hd hx
      omega
    rw [e1, e2]
    refine ih (k + 1) _ c4 (by simp [hx]) ?_ ?_
    · refine lx.append ?_
      intro y hy
      simp at hy
      subst hy
      clear hv ih
      generalize val a / 2 ^ s / W k = z
      omega
    · have hv1 : val [((val a / 2 ^ s / W k % 4294967296 : Nat) : Int)] = val a / 2 ^ s / W k % 4294967296 := by
        clear hv ih; simp only [val, Int.toNat_natCast]; omega
      rw [val_append, hx, hv1, hv, W_succ, Nat.mul_comm 4294967296 (W k), Nat.mod_mul]
theorem shr_f {a : List Int} {s : Nat} (la : Lim a) (hs : s ≤ 1000000) (hl : a.length ≤ 1000000) : XAr.sorobanref01_Shr.f (a.length + 1) a (s : Nat) = some (ofN (val a / 2 ^ s)) := by
  have et : wrap64 (Int.tdiv ((s : Nat) : Int) 32) = ((s / 32 : Nat) : Int) := by rw [Int.tdiv_eq_ediv_of_nonneg (by omega), w64]; omega
  unfold XAr.sorobanref01_Shr.f
  rw [et]
  by_cases h : s / 32 ≥ a.length
  · rw [if_pos (by omega), Nat.div_eq_of_lt, ofN_zero]
    refine Nat.lt_of_lt_of_le (val_lt la) ?_
    rw [show (4294967296 : Nat) = 2 ^ 32 by decide, ← Nat.pow_mul]
    exact Nat.pow_le_pow_right (by omega) (by omega)
  · rw [if_neg (by omega)]
    have hm : ∀ k n, XAr.sorobanref01_Shr.l0 k a (s : Nat) [] ((s / 32 + 0 : Nat) : Int) = some n → ∀ j, k ≤ j → XAr.sorobanref01_Shr.l0 j a (s : Nat) [] ((s / 32 + 0 : Nat) : Int) = some n := by
      intro k n hk j hj
      induction hj with
      | refl => exact hk
      | step _ ih => exact XAr.sorobanref01_Shr.mono_l _ _ _ _ _ _ ih
    exact hm _ _ (shr_l0 (q := s / 32) (r := s % 32) la (by omega) (by omega) hl (by omega) (a.length - s / 32) 0 [] (by omega) rfl (by intro x hx; simp at hx) (by rw [W_zero, Nat.mod_one]; rfl)) _ (by omega)
def sorobanref01_Shr.f (l0 : List Int) (a1 : Int) : Option (List Int) := if u32L l0 && decide (l0.length ≤ 1000000 ∧ 0 ≤ a1 ∧ a1 ≤ 1000000) then some (ofN (val l0 / 2 ^ a1.toNat)) else none
theorem sorobanref01_Shr.calls (A0 : Option Addr) (c0 : Nat) (l0 : List Int) (a1 : Int) (r : List Int) (w : World) (hr0 : Kd.C (Kd.int .u32) w A0 l0.length l0) (hc0 : l0.length ≤ c0) (h : sorobanref01_Shr.f l0 a1 = some r) :
    Calls Tryz.prog 53 #[.slice A0 l0.length c0, .int .i64 a1] w fun e w' => ∃ v0_ : Value, e = .returned (v0_) ∧ Kd.R (Kd.int .u32) 40 w' w.heap.size (fun _ => True) v0_ r ∧ Below w.heap.size w w' := by
  unfold sorobanref01_Shr.f at h
  split at h
  · rename_i hb
    simp only [Bool.and_eq_true, decide_eq_true_eq] at hb
    obtain ⟨h1, h2, h3, h4⟩ := hb
    obtain ⟨s, rfl⟩ := Int.eq_ofNat_of_zero_le h3
    refine XAr.sorobanref01_Shr.calls (l0.length + 1) A0 c0 l0 (s : Nat) r w hr0 hc0 ?_
    rw [← h, shr_f (u32L_of h1) (by omega) h2, Int.toNat_natCast]
  · cases h

end Go.Proofs.YtacnkcojhlbkoaaGreatDoor
