/- The specification's sums and small numbers: what they return, of numbers. The specification's Cmp, Sub, Shr, Bit and word: what they return, of numbers. The specification's Shl: a number times a power of 2. Written by this session's own program (wip/tools/xprint.sh) for the law Shl: what the law's functions compute, and that the machine does so, given the contracts of the program's functions. Written by this session's own program (wip/tools/xprint.sh) for the law Shl: what the law's functions compute, and that the machine does so, given the contracts of the program's functions. The specification's Shl: what it returns, of numbers. Short words for steps that the printed walks take again and again. -/
import Derived.Test.YtacnkcojhlbkoaaDoorJOrd24
import Derived.Test.YtacnkcojhlbkoaaDoorJOrd17
import Derived.Test.YtacnkcojhlbkoaaDoorJOrd23
import Derived.Test.YtacnkcojhlbkoaaDoorJOrd6
import Derived.Test.YtacnkcojhlbkoaaDoorJOrd9
import Derived.Laws.OwnMore
import Derived.Test.YtacnkcojhlbkoaaDoorProg
import Derived.Below
import Derived.Deep.Draws
import Derived.Deep.AppendLies
import Derived.Maps.AppendAt
import Derived.OwnWalk
import Derived.Laws.BytesArg
import Derived.Laws.MakeOwn
import Derived.Deep.OwnRows
import Derived.Tactics
import Derived.Lib.ConvBytes
import Derived.Laws.Slices
import Derived.WalkKit
import Derived.KernelRfl
import Derived.RowKit3
import Derived.Deep.LoopGhost
import Derived.Deep.QuietTactic
import Derived.BigQuiet
import Derived.WideLaws
import Derived.Deep.DeepCutAuto
import Derived.Deep.CutBlock
import Derived.Deep.RegionHeld3
import Derived.Laws.Rows
import Derived.Lib.AppendStr
import Derived.ArgAppend
import Derived.Laws.IdiomCopy
import Derived.OrdersHeld
import Derived.Laws.BitsLemmas
import Derived.RowKit
import Derived.Test.YtacnkcojhlbkoaaDoorJOrd0
import Derived.Test.YtacnkcojhlbkoaaDoorJOrd1
import Derived.Test.YtacnkcojhlbkoaaDoorJOrd2
set_option linter.unusedSimpArgs false
set_option linter.unusedVariables false
set_option linter.unnecessarySimpa false
namespace Go.Proofs.YtacnkcojhlbkoaaDoor
open Go.RowKit Go.Proofs.YtacnkcojhlbkoaaDoorW.PrintWords Go.Proofs.YtacnkcojhlbkoaaDoorW.PrintLast Go.Proofs.YtacnkcojhlbkoaaDoorW.PrintMore Go.Proofs.YtacnkcojhlbkoaaDoor.NL
set_option maxRecDepth 100000

theorem trim_f {l : List Int} (la : Lim l) (hn : l.length ≤ 1000000000) : sorobanref01_Trim.f l = some (ofN (val l)) := by
  unfold sorobanref01_Trim.f
  rw [u32L_mk la, decide_eq_true hn]; rfl
theorem at_f {l : List Int} (la : Lim l) (i : Nat) : XAr.sorobanref01_at.f l (i : Nat) = some (((l.getD i 0).toNat : Nat) : Int) := by
  obtain ⟨x0, x1⟩ := lim_getD la i
  unfold XAr.sorobanref01_at.f
  by_cases h : i < l.length
  · rw [if_neg (by omega), if_pos (by omega), if_pos (by omega)]
    have e : rd l (i : Nat) = l.getD i 0 := by unfold rd; rw [Int.toNat_natCast]
    rw [e, IntKind.wrap_u64]
    congr 1; omega
  · rw [if_pos (by omega), List.getD_eq_getElem?_getD, List.getElem?_eq_none (by omega)]; rfl
theorem wu64 {n : Nat} (h : n < 18446744073709551616) : IntKind.u64.wrap (n : Int) = (n : Int) := by rw [IntKind.wrap_u64]; omega
end Go.Proofs.YtacnkcojhlbkoaaDoor

set_option linter.unusedSimpArgs false
set_option linter.unusedVariables false
set_option linter.unnecessarySimpa false
namespace Go.Proofs.YtacnkcojhlbkoaaDoor
open Go.RowKit Go.Proofs.YtacnkcojhlbkoaaDoorW.PrintWords Go.Proofs.YtacnkcojhlbkoaaDoorW.PrintLast Go.Proofs.YtacnkcojhlbkoaaDoorW.PrintMore Go.Proofs.YtacnkcojhlbkoaaDoor.NL
set_option maxRecDepth 100000

def rcmpN (x y : Nat) : Int := if x < y then -1 else if x > y then 1 else 0
theorem cmp_digit (x y : Nat) (B : Nat) (hB : 0 < B) (h : x / B = y / B) : rcmpN x y = rcmpN (x % B) (y % B) := by
  have h1 := Nat.div_add_mod x B
  have h2 := Nat.div_add_mod y B
  rw [h] at h1
  unfold rcmpN
  generalize B * (y / B) = t at *
  generalize x % B = u at *
  generalize y % B = v at *
  subst h1; subst h2
  by_cases hx : u < v
  · rw [if_pos (by omega), if_pos hx]
  · rw [if_neg (by omega), if_neg hx]
    by_cases hy : u > v
    · rw [if_pos (by omega), if_pos hy]
    · rw [if_neg (by omega), if_neg hy]
theorem cmp_l0 {a b : List Int} (la : Lim a) (lb : Lim b) : ∀ (t : Nat), t ≤ 1000000 → val a / W t = val b / W t →
    XAr.sorobanref01_Cmp.l0 (t + 1) a b ((t : Nat) - 1 : Int) = some (rcmpN (val a) (val b)) := by
  intro t
  induction t with
  | zero =>
    intro _ h
    rw [W_zero, Nat.div_one, Nat.div_one] at h
    unfold XAr.sorobanref01_Cmp.l0
    rw [if_neg (by omega), h]
    unfold rcmpN
    rw [if_neg (by omega), if_neg (by omega)]
  | succ t ih =>
    intro ht h
    unfold XAr.sorobanref01_Cmp.l0
    have e0 : (((t + 1 : Nat) : Int) - 1) = (t : Nat) := by omega
    rw [e0, if_pos (by omega), at_f la, at_f lb]
    simp only [Option.bind_some]
    have da := digit la t
    have db := digit lb t
    rw [W_succ, Nat.mul_comm, ← Nat.div_div_eq_div_mul, ← Nat.div_div_eq_div_mul] at h
    rw [da, db]
    have hd := cmp_digit _ _ 4294967296 (by omega) h
    have lift : rcmpN (val a / W t) (val b / W t) ≠ 0 → rcmpN (val a) (val b) = rcmpN (val a / W t) (val b / W t) := by
      intro hn
      unfold rcmpN at hn ⊢
      by_cases h1 : val a / W t < val b / W t
      · rw [if_pos h1, if_pos]
        rcases Nat.lt_or_ge (val a) (val b) with h | h
        · exact h
        · exact absurd (Nat.div_le_div_right (c := W t) h) (by omega)
      · rw [if_neg h1] at hn ⊢
        by_cases h2 : val a / W t > val b / W t
        · have h3 : val b < val a := by
            rcases Nat.lt_or_ge (val b) (val a) with h | h
            · exact h
            · exact absurd (Nat.div_le_div_right (c := W t) h) (by omega)
          rw [if_pos h2, if_neg (by omega), if_pos h3]
        · rw [if_neg h2] at hn
          exact absurd rfl hn
    by_cases h1 : val a / W t % 4294967296 < val b / W t % 4294967296
    · have hc : rcmpN (val a / W t) (val b / W t) = -1 := by rw [hd]; unfold rcmpN; rw [if_pos h1]
      rw [if_pos (by omega), lift (by rw [hc]; omega), hc]
    · rw [if_neg (by omega)]
      by_cases h2 : val a / W t % 4294967296 > val b / W t % 4294967296
      · have hc : rcmpN (val a / W t) (val b / W t) = 1 := by rw [hd]; unfold rcmpN; rw [if_neg h1, if_pos h2]
        rw [if_pos (by omega), lift (by rw [hc]; omega), hc]
      · rw [if_neg (by omega), w64]
        refine ih (by omega) ?_
        have p1 := Nat.div_add_mod (val a / W t) 4294967296
        have p2 := Nat.div_add_mod (val b / W t) 4294967296
        rw [h] at p1
        omega
def sorobanref01_Cmp.f (l0 l1 : List Int) : Option Int := if (u32L l0 && u32L l1) && decide (l0.length ≤ 100000 ∧ l1.length ≤ 100000) then some (rcmpN (val l0) (val l1)) else none
theorem sorobanref01_Cmp.calls (A0 : Option Addr) (c0 : Nat) (l0 : List Int) (A1 : Option Addr) (c1 : Nat) (l1 : List Int) (r : Int) (w : World) (hr0 : Kd.C (Kd.int .u32) w A0 l0.length l0) (hc0 : l0.length ≤ c0) (hr1 : Kd.C (Kd.int .u32) w A1 l1.length l1) (hc1 : l1.length ≤ c1) (h : sorobanref01_Cmp.f l0 l1 = some r) :
    Calls Tryd.prog 82 #[.slice A0 l0.length c0, .slice A1 l1.length c1] w fun e w' => e = .returned (.int .i64 r) ∧ Below w.heap.size w w' := by
  unfold sorobanref01_Cmp.f at h
  split at h
  · rename_i hb
    simp only [Bool.and_eq_true, decide_eq_true_eq] at hb
    obtain ⟨⟨h1, h2⟩, h3, h4⟩ := hb
    obtain ⟨m, hm⟩ : ∃ m : Nat, mx (l0.length : Int) (l1.length : Int) = (m : Nat) := by
      unfold mx
      split
      · exact ⟨_, rfl⟩
      · exact ⟨_, rfl⟩
    have hmb : m ≤ 100000 := by unfold mx at hm; split at hm <;> omega
    have hma : l0.length ≤ m ∧ l1.length ≤ m := by unfold mx at hm; split at hm <;> omega
    refine XAr.sorobanref01_Cmp.calls (m + 1) A0 c0 l0 A1 c1 l1 r w hr0 hc0 hr1 hc1 ?_
    rw [← h]
    unfold XAr.sorobanref01_Cmp.f
    rw [hm, w64]
    refine cmp_l0 (u32L_of h1) (u32L_of h2) m (by omega) ?_
    rw [Nat.div_eq_of_lt (Nat.lt_of_lt_of_le (val_lt (u32L_of h1)) (W_le hma.1)), Nat.div_eq_of_lt (Nat.lt_of_lt_of_le (val_lt (u32L_of h2)) (W_le hma.2))]
  · cases h

end Go.Proofs.YtacnkcojhlbkoaaDoor

set_option linter.unusedSimpArgs false
set_option linter.unusedVariables false
set_option linter.unnecessarySimpa false
namespace Go.Proofs.YtacnkcojhlbkoaaDoor
open Go.RowKit Go.Proofs.YtacnkcojhlbkoaaDoorW.PrintWords Go.Proofs.YtacnkcojhlbkoaaDoorW.PrintLast Go.Proofs.YtacnkcojhlbkoaaDoorW.PrintMore Go.Proofs.YtacnkcojhlbkoaaDoor.NL
set_option maxRecDepth 100000

/-- 'make' with a length and a capacity. -/
theorem make_row2 {P : Program} {ops : Array Oper} {rest : List Oper} {o : Oper} {a : Act} {Q : Exit → Act → World → Prop} {W w0 : World} (hp : P = Tryd.prog) (hgd : o.guard = none) (x y : Operand) (ho : o.op = .makeSlice 23 x y) (n c : Nat)
    (hx : a.eval x = .int .i64 n) (hy : a.eval y = .int .i64 c) (hnc : n ≤ c) (hl : c ≤ 1000000000) (HB : Below w0.heap.size w0 W)
    (h : ∀ A w1, OwnI .u32 77 w0.heap.size w1 (.slice A n c) (List.replicate n 0) → Below w0.heap.size w0 w1 → wpList P ops Q rest (a.put o.dst (.slice A n c)) w1) : wpList P ops Q (o :: rest) a W := by
  subst hp
  obtain ⟨i, hi, hzz⟩ := Option.map_eq_some_iff.1 infoU32
  simp only [Prod.mk.injEq] at hzz
  obtain ⟨hz0, hz1, hz2⟩ := hzz
  have hr := run_make (P := Tryd.prog) W 23 77 i (.int .u32 0) Tryd.underlying23 hi hz0 .i64 .i64 (n : Int) (c : Int) (by omega) (by omega) (by rw [hz2]; omega) (by omega)
  simp only [Int.toNat_natCast] at hr
  rw [hz1] at hr
  refine wpList_plain hgd fun K hK' => ?_
  unfold Oper.wp
  simp [execOp, ho, hx, hy, hr, Result.andThen]
  refine hK' _ _ (h _ _ ?_ (below_alloc HB _))
  have h1 := R_fresh (k := .u32) (e := 77) (base := w0.heap.size) W W.heap.size rfl (List.replicate c 0) (madeCells (Value.int .u32 0).cells c) (by
    apply Array.toList_inj.1
    show (madeCells #[Value.int .u32 0] c).toList = _
    rw [toList_madeCells_one]
    simp [nums]) c (by simp) HB.size (by simp; omega)
  have h2 := R_pre h1 hnc
  rwa [List.take_replicate, Nat.min_eq_left hnc] at h2
/-- The same, as the printed walks ask for it. -/
theorem make_two {P : Program} {ops : Array Oper} {rest : List Oper} {o : Oper} {a : Act} {Q : Exit → Act → World → Prop} {W : World} (hp : P = Tryd.prog) (hgd : o.guard = none) (x y : Operand) (ho : o.op = .makeSlice 23 x y) (n c : Int)
    (hx : a.eval x = .int .i64 n) (hy : a.eval y = .int .i64 c) (h0 : 0 ≤ n) (hnc : n ≤ c) (hl : c ≤ 1000000000)
    (h : ∀ v w1, Kd.R (Kd.int .u32) 77 w1 W.heap.size (fun _ => True) v (List.replicate n.toNat 0) → Below W.heap.size W w1 → wpList P ops Q rest (a.put o.dst v) w1) : wpList P ops Q (o :: rest) a W := by
  obtain ⟨n, rfl⟩ := Int.eq_ofNat_of_zero_le h0
  obtain ⟨c, rfl⟩ := Int.eq_ofNat_of_zero_le (show 0 ≤ c by omega)
  exact make_row2 (w0 := W) hp hgd x y ho n c hx hy (by omega) (by omega) (Below.refl _ _) fun A w1 h1 h2 => h _ w1 h1 h2
end Go.Proofs.YtacnkcojhlbkoaaDoor

namespace Go.Proofs.YtacnkcojhlbkoaaDoor.XShl
open Go.RowKit Go.Proofs.YtacnkcojhlbkoaaDoorW.PrintWords Go.Proofs.YtacnkcojhlbkoaaDoorW.PrintLast Go.Proofs.YtacnkcojhlbkoaaDoorW.PrintMore
attribute [local go_sem] max2_int min2_int max_two min_two max_three min_three max_four min_four   -- for this text's walks alone
set_option linter.unusedVariables false
set_option linter.unusedSimpArgs false

def errW : Option Int → Value
  | none => .nilIface
  | some c => .iface 0 (.int .i64 c)
theorem errW_none : errW none = .nilIface := rfl
theorem errW_some (c : Int) : errW (some c) = .iface 0 (.int .i64 c) := rfl

theorem info77 : (Tryd.prog.info? 77).map (fun i => (i.zero, i.size, i.bytes)) = some (some (.int .u32 0), 1, 4) := by kernel_rfl
-- the values' own types

end Go.Proofs.YtacnkcojhlbkoaaDoor.XShl

namespace Go.Proofs.YtacnkcojhlbkoaaDoor.XShl
open Go.RowKit Go.Proofs.YtacnkcojhlbkoaaDoorW.PrintWords Go.Proofs.YtacnkcojhlbkoaaDoorW.PrintLast Go.Proofs.YtacnkcojhlbkoaaDoorW.PrintMore
attribute [local go_sem] max2_int min2_int max_two min_two max_three min_three max_four min_four   -- for this text's walks alone
set_option linter.unusedVariables false
set_option linter.unusedSimpArgs false

/-! ### sorobanref01_Shl: function 63 -/
def sorobanref01_Shl.l0 : Nat → List Int → Int → List Int → Int → Int → Option (List Int)
  | 0, _, _, _, _, _ => none
  | k + 1, x0, x1, x5, x6, x7 => if x7 < (x0.length : Int) then (if 0 ≤ x7 then (if 0 ≤ (Int.tmod x1 32) then (if x5.length < 35184372088832 then (sorobanref01_Shl.l0 k x0 x1 (x5 ++ [(IntKind.u64.wrap ((shl .u64 (IntKind.u64.wrap (rd x0 x7)) (Int.tmod x1 32)) + x6)) % 4294967296]) ((IntKind.u64.wrap ((shl .u64 (IntKind.u64.wrap (rd x0 x7)) (Int.tmod x1 32)) + x6)) / 4294967296) (wrap64 (x7 + 1))) else (none)) else (none)) else (none)) else (if x5.length < 35184372088832 then ((sorobanref01_Trim.f (x5 ++ [(x6) % 4294967296])).bind fun t111 => (some t111)) else (none))
def sorobanref01_Shl.f (k : Nat) (l0 : List Int) (a1 : Int) : Option (List Int) := if (l0.length : Int) = 0 then (some ([] : List Int)) else (if 0 ≤ (wrap64 (Int.tdiv a1 32)) then (if (wrap64 (Int.tdiv a1 32) : Int).toNat ≤ 70368744177664 then (sorobanref01_Shl.l0 k l0 a1 (List.replicate (wrap64 (Int.tdiv a1 32) : Int).toNat 0) 0 0) else (none)) else (none))
set_option maxHeartbeats 8000000 in
set_option maxRecDepth 100000 in
theorem sorobanref01_Shl.calls (k : Nat) (A0 : Option Addr) (c0 : Nat) (l0 : List Int) (a1 : Int) (r : List Int) (w : World) (hr0 : Kd.C (Kd.int .u32) w A0 l0.length l0) (hc0 : l0.length ≤ c0) (hne : l0 ≠ []) (hs : 0 ≤ a1 ∧ a1 ≤ 1000000) (hln : l0.length ≤ 1000000) (h : sorobanref01_Shl.f k l0 a1 = some r) :
    Calls Tryd.prog 63 #[.slice A0 l0.length c0, .int .i64 a1] w fun e w' => ∃ v0_ : Value, e = .returned (v0_) ∧ Kd.R (Kd.int .u32) 77 w' w.heap.size (fun _ => True) v0_ r ∧ Below w.heap.size w w' := by
  have HR0 := Aside0.mk hr0
  have HC0 := Aside0.mk hc0
  clear hr0 hc0
  have HB := Aside0.mk (Below.refl w.heap.size w)
  have H : (if (l0.length : Int) = 0 then (some ([] : List Int)) else (if 0 ≤ (wrap64 (Int.tdiv a1 32)) then (if (wrap64 (Int.tdiv a1 32) : Int).toNat ≤ 70368744177664 then (sorobanref01_Shl.l0 k l0 a1 (List.replicate (wrap64 (Int.tdiv a1 32) : Int).toNat 0) 0 0) else (none)) else (none))) = some r := h
  clear h
  by_cases c3 : (l0.length : Int) = 0
  · exact absurd (List.length_eq_zero_iff.1 (by omega)) hne
  · rw [if_neg c3] at H
    have c3b0 : ((l0.length : Int) == 0) = false := beq_eq_false_iff_ne.mpr c3
    have c3b1 : ((l0.length : Int) != 0) = true := bne_iff_ne.mpr c3
    have c3b2 : ¬ (l0 = []) := fun h_ => c3 (by rw [h_]; rfl)
    obtain ⟨ji4, hji4⟩ : ∃ j_ : Int, (wrap64 (Int.tdiv a1 32)) = j_ := ⟨_, rfl⟩
    replace H : (if 0 ≤ (ji4) then (if (ji4 : Int).toNat ≤ 70368744177664 then (sorobanref01_Shl.l0 k l0 a1 (List.replicate (ji4 : Int).toNat 0) 0 0) else (none)) else (none)) = some r := by first | (rw [hji4] at H; exact H) | (simp only [hji4] at H ⊢; exact H)
    have hji4w : (IntKind.i64.wrap (Int.tdiv a1 32)) = ji4 := (i64_w _).trans hji4
    have hjb : Aside0 (0 ≤ ji4 ∧ ji4 ≤ 100000 ∧ l0.length ≤ 1000000) := ⟨by rw [← hji4, Int.tdiv_eq_ediv_of_nonneg hs.1]; unfold wrap64; omega⟩
    have hji4x : IntKind.i64.wrap (ji4 + (l0.length : Int)) = ji4 + (l0.length : Int) := by have h_ := hjb.out; rw [IntKind.wrap_i64]; omega
    have hji4y : IntKind.i64.wrap (ji4 + (l0.length : Int) + 1) = ji4 + (l0.length : Int) + 1 := by have h_ := hjb.out; rw [IntKind.wrap_i64]; omega
    clear hs hln hne
    by_cases c5 : 0 ≤ (ji4)
    · rw [if_pos c5] at H
      have c5b0 := eq_true c5
      have c5b1 : decide (0 ≤ (ji4)) = true := decide_eq_true c5
      clear c5
      by_cases c6 : (ji4 : Int).toNat ≤ 70368744177664
      · rw [if_pos c6] at H
        have c6b0 := eq_true c6
        have c6b1 : decide ((ji4 : Int).toNat ≤ 70368744177664) = true := decide_eq_true c6
        clear c6
        obtain ⟨y101, hy101⟩ : ∃ y_ : List Int, y_ = (List.replicate (ji4 : Int).toNat 0) := ⟨_, rfl⟩
        replace H : (sorobanref01_Shl.l0 k l0 a1 y101 0 0) = some r := by first | (rw [hy101]; with_reducible exact H) | (have H2_ := (Option.bind_some _ _).symm.trans H; rw [hy101]; with_reducible exact H2_) | (have H2_ := (Option.bind_some _ _).symm.trans H; with_reducible exact H2_) | with_reducible exact H | (rw [hy101]; exact H) | exact H
        have Ny101 := Aside0.mk hy101
        clear hy101
        have H' := Aside0.mk H
        clear H
        go_enter Tryd.func63, Tryd.ntmps63
        go_wp2_with (first | ((with_reducible refine gate_dst (N := 21) rfl ?_); refine make_two rfl rfl _ _ rfl ji4 _ rfl rfl ?h0_ ?h1_ ?h2_ ?_; (case h0_ => exact hjb.out.1); (case h1_ => (have h_ := hjb.out; first | omega | (simp; omega) | (unfold wrap64; omega))); (case h2_ => (have h_ := hjb.out; first | omega | (simp; omega) | (unfold wrap64; omega))); intro v102 w7 ho8 hb; (first | rw [← Ny101.out] at ho8 | (simp only [Int.reduceToNat] at ho8; rw [← Ny101.out] at ho8)); have n0_ := Aside0.mk (Kd.R_lower ho8 (below_size (by repeat (first | (with_reducible first | exact HB.out | apply below_alloc | apply pw_below_drewN | apply below_drew1) | exact HB.out)))); have n1_ := Aside0.mk (below_step (by repeat (first | (with_reducible first | exact HB.out | apply below_alloc | apply pw_below_drewN | apply below_drew1) | exact HB.out)) hb); clear HB; have HO103 := n0_; have HB := n1_; clear n0_ n1_; clear hb ho8))
        go_loopg [5, 6, 7] k (fun kq v5 v6 v7 w' => ∃ (x5_1 : List Int) (x6_1 : Int) (x7_1 : Int), v6 = .int .u64 x6_1 ∧ v7 = .int .i64 x7_1 ∧ Aside0 (sorobanref01_Shl.l0 kq l0 a1 x5_1 x6_1 x7_1 = some r) ∧ Aside0 (kq ≤ k) ∧ Aside0 (Kd.R (Kd.int .u32) 77 w' w.heap.size (fun _ => True) v5 x5_1) ∧ Aside0 (Below w.heap.size w w'))
        case atStart => exact ⟨(y101), (0), (0), (by first | rfl | (simp; done) | (simp [*]; done) | (simp; omega)), (by first | rfl | (simp; done) | (simp [*]; done) | (simp; omega)), H', ⟨Nat.le_refl _⟩, ⟨by (with_reducible repeat (first | apply Kd.R_alloc | apply Kd.R_drewN | apply Kd.R_drew)); exact HO103.out⟩, ⟨by repeat (first | (with_reducible first | exact HB.out | apply below_alloc | apply pw_below_drewN | apply below_drew1) | exact HB.out)⟩⟩
        case round =>
          clear H'
          try clear p2
          try clear c3
          try clear c3b0
          try clear c3b1
          try clear c3b2
          try clear c5
          try clear c5b0
          try clear c5b1
          try clear c6
          try clear c6b0
          try clear c6b1
          try clear p6
          obtain ⟨x5_1, x6_1, x7_1, rfl, rfl, HA, HK1, HO_5, HB⟩ := hrel
          cases gk with
          | zero => exact absurd HA.out (by simp [sorobanref01_Shl.l0])
          | succ k1 =>
            have H := HA.out
            clear HA
            simp only [sorobanref01_Shl.l0] at H
            by_cases c9 : x7_1 < (l0.length : Int)
            · rw [if_pos c9] at H
              have c9b0 : decide (x7_1 < (l0.length : Int)) = true := decide_eq_true c9
              clear c9
              by_cases c10 : 0 ≤ x7_1
              · rw [if_pos c10] at H
                have c10b0 : decide (0 ≤ x7_1) = true := decide_eq_true c10
                clear c10
                obtain ⟨ji11, hji11⟩ : ∃ j_ : Int, (Int.tmod a1 32) = j_ := ⟨_, rfl⟩
                replace H : (if 0 ≤ (ji11) then (if x5_1.length < 35184372088832 then (sorobanref01_Shl.l0 k1 l0 a1 (x5_1 ++ [(IntKind.u64.wrap ((shl .u64 (IntKind.u64.wrap (rd l0 x7_1)) (ji11)) + x6_1)) % 4294967296]) ((IntKind.u64.wrap ((shl .u64 (IntKind.u64.wrap (rd l0 x7_1)) (ji11)) + x6_1)) / 4294967296) (wrap64 (x7_1 + 1))) else (none)) else (none)) = some r := by first | (rw [hji11] at H; exact H) | (simp only [hji11] at H ⊢; exact H)
                by_cases c12 : 0 ≤ (ji11)
                · rw [if_pos c12] at H
                  have c12b0 := eq_true c12
                  have c12b1 : decide (0 ≤ (ji11)) = true := decide_eq_true c12
                  clear c12
                  obtain ⟨ji13, hji13⟩ : ∃ j_ : Int, (shl .u64 (IntKind.u64.wrap (rd l0 x7_1)) (ji11)) = j_ := ⟨_, rfl⟩
                  replace H : (if x5_1.length < 35184372088832 then (sorobanref01_Shl.l0 k1 l0 a1 (x5_1 ++ [(IntKind.u64.wrap ((ji13) + x6_1)) % 4294967296]) ((IntKind.u64.wrap ((ji13) + x6_1)) / 4294967296) (wrap64 (x7_1 + 1))) else (none)) = some r := by first | (rw [hji13] at H; exact H) | (simp only [hji13] at H ⊢; exact H)
                  have hji13_ : (IntKind.u64.wrap ((IntKind.u64.wrap (rd l0 x7_1)) * 2 ^ min (ji11).toNat 64)) = ji13 := hji13
                  have hji13z : (ji11) ≤ 64 → (IntKind.u64.wrap ((IntKind.u64.wrap (rd l0 x7_1)) * 2 ^ (ji11).toNat)) = ji13 := shl_small hji13
                  by_cases c14 : x5_1.length < 35184372088832
                  · rw [if_pos c14] at H
                    have LMc14 := Aside0.mk c14
                    clear c14
                    obtain ⟨y105, hy105⟩ : ∃ y_ : List Int, y_ = (x5_1 ++ [(IntKind.u64.wrap ((ji13) + x6_1)) % 4294967296]) := ⟨_, rfl⟩
                    replace H : (sorobanref01_Shl.l0 k1 l0 a1 y105 ((IntKind.u64.wrap ((ji13) + x6_1)) / 4294967296) (wrap64 (x7_1 + 1))) = some r := by first | (rw [hy105]; with_reducible exact H) | (have H2_ := (Option.bind_some _ _).symm.trans H; rw [hy105]; with_reducible exact H2_) | (have H2_ := (Option.bind_some _ _).symm.trans H; with_reducible exact H2_) | with_reducible exact H | (rw [hy105]; exact H) | exact H
                    have Ny105 := Aside0.mk hy105
                    clear hy105
                    have H' := Aside0.mk H
                    clear H
                    have p104 : 0 ≤ (x7_1 : Int) := of_decide_eq_true (by first | (with_reducible assumption) | assumption)
                    have q104 : x7_1 < (l0.length : Int) := of_decide_eq_true (by first | (with_reducible assumption) | assumption)
                    obtain ⟨ad104, e104, hx104_0⟩ := Kd.at_int HR0.out x7_1 p104 q104
                    cases e104
                    replace hx104_0 := (HB.out.cell (World.block_lt_of_cell? w _ hx104_0)).trans hx104_0
                    replace p104 := eq_true p104
                    replace q104 := eq_true q104
                    go_wp2_with (first | ((with_reducible refine gate_builtin (b := .append) (xs := #[.tmp 38, .tmp 41]) rfl ?_); at_builtin; refine Kd.R_append (Kd.int .u32) (w0 := w) w.heap.size rfl (.tmp 38) (.tmp 41) 23 77 (.int .u32 0) 4 rfl Tryd.underlying23 info77 rfl (by decide) (by omega) u5 x5_1 ((IntKind.u64.wrap ((ji13) + x6_1)) % 4294967296) [.int .u32 ((IntKind.u64.wrap ((ji13) + x6_1)) % 4294967296)] (fun _ => True) (fun _ => False) rfl rfl ?aP (fun _ hk => hk.elim) ?aF ?aO ?aB ?aS ?aL ?_; (case aP => exact rfl); (case aB => exact (by repeat (first | (with_reducible first | exact HB.out | apply below_alloc | apply pw_below_drewN | apply below_drew1) | exact HB.out))); (case aF => exact (fun _ _ => trivial)); (case aO => exact (by (with_reducible repeat (first | apply Kd.R_alloc | apply Kd.R_drewN | apply Kd.R_drew)); exact HO_5.out)); (case aS => exact (below_size (by repeat (first | (with_reducible first | exact HB.out | apply below_alloc | apply pw_below_drewN | apply below_drew1) | exact HB.out)))); (case aL => have := LMc14.out; omega); intro v106 w15 ho hb hg hat; rw [← Ny105.out] at ho; have n0_ := Aside0.mk (hb); have n1_ := Aside0.mk (ho); clear HB; clear HO_5; have HB := n0_; have HO107 := n1_; clear n0_ n1_; clear ho hb hg hat))
                    go_roundg k1
                    case measure => have := HK1.out; omega
                    case rel => exact ⟨(y105), ((IntKind.u64.wrap ((ji13) + x6_1)) / 4294967296), (wrap64 (x7_1 + 1)), (by first | rfl | (simp; done) | (simp only [← hji13] <;> (first | rfl | simp)) | (simp [*]; done)), (by first | rfl | (simp; done) | (simp [*]; done) | (simp; omega)), H', ⟨by have := HK1.out; omega⟩, ⟨by (with_reducible repeat (first | apply Kd.R_alloc | apply Kd.R_drewN | apply Kd.R_drew)); exact HO107.out⟩, ⟨by repeat (first | (with_reducible first | exact HB.out | apply below_alloc | apply pw_below_drewN | apply below_drew1) | exact HB.out)⟩⟩
                  · rw [if_neg c14] at H
                    exact absurd H (by simp)
                · rw [if_neg c12] at H
                  exact absurd H (by simp)
              · rw [if_neg c10] at H
                exact absurd H (by simp)
            · rw [if_neg c9] at H
              have c9b0 : decide (x7_1 < (l0.length : Int)) = false := decide_eq_false c9
              clear c9
              by_cases c16 : x5_1.length < 35184372088832
              · rw [if_pos c16] at H
                have LMc16 := Aside0.mk c16
                clear c16
                obtain ⟨y108, hy108⟩ : ∃ y_ : List Int, y_ = (x5_1 ++ [(x6_1) % 4294967296]) := ⟨_, rfl⟩
                replace H : ((sorobanref01_Trim.f y108).bind fun t111 => (some t111)) = some r := by first | (rw [hy108]; with_reducible exact H) | (have H2_ := (Option.bind_some _ _).symm.trans H; rw [hy108]; with_reducible exact H2_) | (have H2_ := (Option.bind_some _ _).symm.trans H; with_reducible exact H2_) | with_reducible exact H | (rw [hy108]; exact H) | exact H
                have Ny108 := Aside0.mk hy108
                clear hy108
                replace H := Option.bind_eq_some_iff.mp H
                obtain ⟨t111, A170, H⟩ := H
                replace H : (some t111) = some r := H
                have A17 := Aside0.mk A170
                clear A170
                obtain rfl := Option.some.inj H
                go_wp2_with (first | ((with_reducible refine gate_builtin (b := .append) (xs := #[.tmp 45, .tmp 48]) rfl ?_); at_builtin; refine Kd.R_append (Kd.int .u32) (w0 := w) w.heap.size rfl (.tmp 45) (.tmp 48) 23 77 (.int .u32 0) 4 rfl Tryd.underlying23 info77 rfl (by decide) (by omega) u5 x5_1 ((x6_1) % 4294967296) [.int .u32 ((x6_1) % 4294967296)] (fun _ => True) (fun _ => False) rfl rfl ?aP (fun _ hk => hk.elim) ?aF ?aO ?aB ?aS ?aL ?_; (case aP => exact rfl); (case aB => exact (by repeat (first | (with_reducible first | exact HB.out | apply below_alloc | apply pw_below_drewN | apply below_drew1) | exact HB.out))); (case aF => exact (fun _ _ => trivial)); (case aO => exact (by (with_reducible repeat (first | apply Kd.R_alloc | apply Kd.R_drewN | apply Kd.R_drew)); exact HO_5.out)); (case aS => exact (below_size (by repeat (first | (with_reducible first | exact HB.out | apply below_alloc | apply pw_below_drewN | apply below_drew1) | exact HB.out)))); (case aL => have := LMc16.out; omega); intro v109 w18 ho hb hg hat; rw [← Ny108.out] at ho; have n0_ := Aside0.mk (hb); have n1_ := Aside0.mk (ho); clear HB; clear HO_5; have HB := n0_; have HO110 := n1_; clear n0_ n1_; clear ho hb hg hat; obtain ⟨Ao19, co19, eo19⟩ := Kd.R_slice HO110.out; subst eo19) | ((with_reducible refine gate_callee (f := 96) rfl ?_); refine goesL_ (some 50) rfl rfl Tryd.func96 (by kernel_rfl) rfl #[.slice Ao19 y108.length co19] rfl (by (try simp only [List.map_toArray, List.map_cons, List.map_nil]); first | done | rfl | (simp only [List.length_drop, List.length_take]; rfl)) ?_; (with_reducible refine (sorobanref01_Trim.calls _ _ y108 t111 _ ?side1 ?side2 A17.out).mono ?_); (case side1 => repeat (first | exact (Kd.R_reads' HO110.out).2.2 | (with_reducible refine Kd.C_alloc ?_ _) | (with_reducible refine Kd.C_drewN ?_ _) | (with_reducible refine Kd.C_drew ?_))); (case side2 => exact (Kd.R_reads' HO110.out).2.1); rintro e w20 ⟨v112, rfl, ho0, hb⟩; refine ⟨_, rfl, ?_⟩; have n0_ := Aside0.mk (Kd.R_elder' (by (with_reducible repeat (first | apply Kd.R_alloc | apply Kd.R_drewN | apply Kd.R_drew)); exact HO110.out) (Kd.R_base ho0) hb); have n1_ := Aside0.mk (Kd.R_lower (Kd.R_new' ho0 (Kd.R_lt (by (with_reducible repeat (first | apply Kd.R_alloc | apply Kd.R_drewN | apply Kd.R_drew)); exact HO110.out))) (below_size (by repeat (first | (with_reducible first | exact HB.out | apply below_alloc | apply pw_below_drewN | apply below_drew1) | exact HB.out)))); have n2_ := Aside0.mk (below_step (by repeat (first | (with_reducible first | exact HB.out | apply below_alloc | apply pw_below_drewN | apply below_drew1) | exact HB.out)) hb); clear HO110; clear HB; have HO110 := n0_; have HO113 := n1_; have HB := n2_; clear n0_ n1_ n2_; (try clear hb); (try clear hb2); (try clear hk); (try clear hi); (try clear ho0)))
                go_ret
                exact ⟨_, by first | rfl | (simp [errW_none, errW_some] <;> rfl) | (simp only [← hji4]; first | rfl | (simp [errW_none, errW_some] <;> rfl)) | (simp [*, errW_none, errW_some] <;> rfl), by (with_reducible repeat (first | apply Kd.R_alloc | apply Kd.R_drewN | apply Kd.R_drew)); exact Kd.R_mono HO113.out (fun _ hk => trivial), by repeat (first | (with_reducible first | exact HB.out | apply below_alloc | apply pw_below_drewN | apply below_drew1) | exact HB.out)⟩
              · rw [if_neg c16] at H
                exact absurd H (by simp)
      · rw [if_neg c6] at H
        exact absurd H (by simp)
    · rw [if_neg c5] at H
      exact absurd H (by simp)

end Go.Proofs.YtacnkcojhlbkoaaDoor.XShl

set_option linter.unusedSimpArgs false
set_option linter.unusedVariables false
set_option linter.unnecessarySimpa false
namespace Go.Proofs.YtacnkcojhlbkoaaDoor
open Go.RowKit Go.Proofs.YtacnkcojhlbkoaaDoorW.PrintWords Go.Proofs.YtacnkcojhlbkoaaDoorW.PrintLast Go.Proofs.YtacnkcojhlbkoaaDoorW.PrintMore Go.Proofs.YtacnkcojhlbkoaaDoor.NL
set_option maxRecDepth 100000

theorem val_zeros (n : Nat) : val (List.replicate n 0) = 0 := by
  induction n with
  | zero => rfl
  | succ n ih => rw [List.replicate_succ]; simp only [val]; rw [ih]; rfl
theorem shl_l0 {a : List Int} {s q r : Nat} (la : Lim a) (hr : r < 32) (hs : s = 32 * q + r) (hq : q ≤ 100000) (hl : a.length ≤ 1000000) : ∀ (t i : Nat) (x : List Int) (c : Nat), i + t = a.length → x.length = q + i → Lim x → c < 4294967296 → val x + W (q + i) * c = W q * (2 ^ r * val (a.take i)) →
    XShl.sorobanref01_Shl.l0 (t + 1) a (s : Nat) x (c : Nat) (i : Nat) = some (ofN (val a * 2 ^ s)) := by
  have et : Int.tmod ((s : Nat) : Int) 32 = (r : Nat) := by rw [Int.tmod_eq_emod_of_nonneg (by omega)]; omega
  have hrp : 2 ^ r ≤ 2147483648 := Nat.le_trans (Nat.pow_le_pow_right (by omega) (show r ≤ 31 by omega)) (by decide)
  intro t
  induction t with
  | zero =>
    intro i x c hi hx lx hc hv
    unfold XShl.sorobanref01_Shl.l0
    have e0 : ((c : Nat) : Int) % 4294967296 = (c : Nat) := by omega
    have lc : Lim (x ++ [((c : Nat) : Int)]) := lx.append (by intro y hy; simp at hy; subst hy; omega)
    rw [if_neg (by omega), if_pos (by omega), e0, trim_f lc (by simp; omega), Option.bind_some]
    rw [take_all (by omega)] at hv
    congr 2
    rw [val_append, hx]
    have h1 : val [((c : Nat) : Int)] = c := by simp [val]
    rw [h1]
    show val x + W (q + i) * c = _
    rw [hv, hs, Nat.pow_add, ← W_two, Nat.mul_comm (val a), Nat.mul_assoc]
  | succ t ih =>
    intro i x c hi hx lx hc hv
    obtain ⟨a0, a1⟩ := lim_getD la i
    have ea := val_take_succ a i
    have hp : (a.getD i 0).toNat < 4294967296 := by omega
    have hrd : rd a (i : Nat) = (((a.getD i 0).toNat : Nat) : Int) := by unfold rd; rw [Int.toNat_natCast]; omega
    unfold XShl.sorobanref01_Shl.l0
    rw [if_pos (by omega), if_pos (by omega), et, if_pos (by omega), if_pos (by omega), hrd]
    generalize (a.getD i 0).toNat = p at *
    have hpr : p * 2 ^ r < 9223372036854775808 := by
      have : p * 2 ^ r ≤ 4294967295 * 2147483648 := Nat.mul_le_mul (by omega) hrp
      omega
    have e1 : shl .u64 (IntKind.u64.wrap (p : Int)) ((r : Nat) : Int) = ((p * 2 ^ r : Nat) : Int) := by
      unfold shl
      rw [wu64 (by omega), Int.toNat_natCast, Nat.min_eq_left (by simp [IntKind.bits]; omega), cast_mul_pow, wu64 (by omega)]
    have e2 : IntKind.u64.wrap (((p * 2 ^ r : Nat) : Int) + (c : Int)) = ((p * 2 ^ r + c : Nat) : Int) := by rw [← Int.natCast_add]; exact wu64 (by omega)
    rw [e1, e2]
    obtain ⟨u, hu⟩ : ∃ u, p * 2 ^ r = u := ⟨_, rfl⟩
    rw [hu] at hpr ⊢
    have e3 : ((u + c : Nat) : Int) % 4294967296 = (((u + c) % 4294967296 : Nat) : Int) := by omega
    have e4 : ((u + c : Nat) : Int) / 4294967296 = (((u + c) / 4294967296 : Nat) : Int) := by omega
    have e5 : wrap64 ((i : Int) + 1) = ((i + 1 : Nat) : Int) := by rw [w64]; omega
    rw [e3, e4, e5]
    have hx2 : (x ++ [(((u + c) % 4294967296 : Nat) : Int)]).length = q + (i + 1) := by simp [hx]; omega
    refine ih (i + 1) _ _ (by omega) hx2 ?_ (by omega) ?_
    · refine lx.append ?_
      intro y hy
      simp at hy
      subst hy
      omega
    · have hv1 : val [(((u + c) % 4294967296 : Nat) : Int)] = (u + c) % 4294967296 := by simp only [val, Int.toNat_natCast]; omega
      have hW : W (q + (i + 1)) = 4294967296 * W (q + i) := by rw [show q + (i + 1) = (q + i) + 1 by omega, W_succ]
      have hWq : W (q + i) = W q * W i := Nat.pow_add _ _ _
      rw [val_append, hx, hv1, hW, ea]
      show val x + W (q + i) * ((u + c) % 4294967296) + 4294967296 * W (q + i) * ((u + c) / 4294967296) = _
      have hd := Nat.div_add_mod (u + c) 4294967296
      have h1 : W (q + i) * ((u + c) % 4294967296) + 4294967296 * W (q + i) * ((u + c) / 4294967296) = W (q + i) * u + W (q + i) * c := by
        generalize (u + c) % 4294967296 = lo at *
        generalize (u + c) / 4294967296 = hi at *
        rw [← Nat.mul_add, ← hd, Nat.mul_add, Nat.mul_comm 4294967296 (W (q + i)), Nat.mul_assoc]; omega
      have h2 : W q * (2 ^ r * (val (a.take i) + W i * p)) = W q * (2 ^ r * val (a.take i)) + W (q + i) * u := by
        rw [Nat.mul_add, Nat.mul_add, hWq, ← hu, Nat.mul_assoc, Nat.mul_left_comm (2 ^ r), Nat.mul_comm (2 ^ r) p]
      rw [h2, ← hv]
      omega
theorem rshl_f {a : List Int} {s : Nat} (la : Lim a) (hs : s ≤ 1000000) (hl : a.length ≤ 1000000) (hne : a ≠ []) : XShl.sorobanref01_Shl.f (a.length + 1) a (s : Nat) = some (ofN (val a * 2 ^ s)) := by
  have hp : 0 < a.length := List.length_pos_iff.2 hne
  have et : wrap64 (Int.tdiv ((s : Nat) : Int) 32) = ((s / 32 : Nat) : Int) := by rw [Int.tdiv_eq_ediv_of_nonneg (by omega), w64]; omega
  unfold XShl.sorobanref01_Shl.f
  rw [if_neg (by omega), et, if_pos (by omega), Int.toNat_natCast, if_pos (by omega)]
  have h := shl_l0 (s := s) (q := s / 32) (r := s % 32) la (by omega) (by omega) (by omega) hl a.length 0 (List.replicate (s / 32) 0) 0 (by omega) (by simp) (by
    intro y hy
    have := List.eq_of_mem_replicate hy
    omega) (by omega) (by rw [val_zeros]; simp [val])
  exact h
def sorobanref01_Shl.f (l0 : List Int) (a1 : Int) : Option (List Int) := if u32L l0 && decide (l0 ≠ [] ∧ l0.length ≤ 1000000 ∧ 0 ≤ a1 ∧ a1 ≤ 1000000) then some (ofN (val l0 * 2 ^ a1.toNat)) else none
theorem sorobanref01_Shl.calls (A0 : Option Addr) (c0 : Nat) (l0 : List Int) (a1 : Int) (r : List Int) (w : World) (hr0 : Kd.C (Kd.int .u32) w A0 l0.length l0) (hc0 : l0.length ≤ c0) (h : sorobanref01_Shl.f l0 a1 = some r) :
    Calls Tryd.prog 63 #[.slice A0 l0.length c0, .int .i64 a1] w fun e w' => ∃ v0_ : Value, e = .returned (v0_) ∧ Kd.R (Kd.int .u32) 77 w' w.heap.size (fun _ => True) v0_ r ∧ Below w.heap.size w w' := by
  unfold sorobanref01_Shl.f at h
  split at h
  · rename_i hb
    simp only [Bool.and_eq_true, decide_eq_true_eq] at hb
    obtain ⟨h1, h2, h3, h4, h5⟩ := hb
    obtain ⟨s, rfl⟩ := Int.eq_ofNat_of_zero_le h4
    refine XShl.sorobanref01_Shl.calls (l0.length + 1) A0 c0 l0 (s : Nat) r w hr0 hc0 h2 ⟨h4, h5⟩ h3 ?_
    rw [← h, rshl_f (u32L_of h1) (by omega) h3 h2, Int.toNat_natCast]
  · cases h
end Go.Proofs.YtacnkcojhlbkoaaDoor

set_option linter.unusedSimpArgs false
set_option linter.unusedVariables false
set_option linter.unnecessarySimpa false
namespace Go.Proofs.YtacnkcojhlbkoaaDoor.Zip
open Go Go.RowKit Go.Proofs.YtacnkcojhlbkoaaDoorW.PrintWords Go.Proofs.YtacnkcojhlbkoaaDoorW.PrintLast Go.Proofs.YtacnkcojhlbkoaaDoorW.PrintMore
theorem zb {n : Nat} {w w0 w1 : World} (h : Below n w w0) (g : Below n w w0 → Below n w w1 := by intro h_; repeat (first | (with_reducible first | exact h_ | apply below_alloc | apply pw_below_drewN | apply below_drew1 | (refine below_set ?_ ?hge_; (case hge_ => exact Aside0.out (by assumption)))) | exact h_)) : Below n w w1 := g h
theorem zk {P Q : Prop} (h : P) (g : P → Q := by intro h_; (with_reducible repeat (first | refine blk_drewN ?_ _ | refine blk_drew ?_ | refine blk_alloc ?_ _)); exact h_) : Q := g h
theorem zr {P Q : Prop} (h : P) (g : P → Q := by intro h_; (with_reducible repeat (first | apply Kd.R_alloc | apply Kd.R_drewN | apply Kd.R_drew)); exact h_) : Q := g h
theorem zm {P : Prop} (h : P := by (try simp only [List.map_toArray, List.map_cons, List.map_nil]); first | done | rfl | (simp only [List.length_drop, List.length_take]; rfl)) : P := h
end Go.Proofs.YtacnkcojhlbkoaaDoor.Zip
