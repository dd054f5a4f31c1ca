/- The law's guard on sizes: whether no list is longer than 1100 elements. Written by this session's own program (wip/tools/xprint.sh) for the law BinarySpecials: what the law's functions compute, and that the machine does so, given the contracts of the program's functions. Written by this session's own program (wip/tools/xprint.sh) for the law BinarySpecials: what the law's functions compute, and that the machine does so, given the contracts of the program's functions. -/
import Derived.Test.YtacnkcojhlbkoaaDoorJD7
import Derived.Test.YtacnkcojhlbkoaaDoorProg
import Derived.Below
import Derived.Deep.Draws
import Derived.Deep.AppendLies
import Derived.Maps.AppendAt
import Derived.OwnWalk
import Derived.Laws.BytesArg
import Derived.Laws.MakeOwn
import Derived.Laws.OwnMore
import Derived.Deep.OwnRows
import Derived.Tactics
import Derived.Lib.ConvBytes
import Derived.Laws.Slices
import Derived.WalkKit
import Derived.KernelRfl
import Derived.RowKit3
import Derived.Deep.LoopGhost
import Derived.Deep.QuietTactic
import Derived.BigQuiet
import Derived.WideLaws
import Derived.Deep.DeepCutAuto
import Derived.Deep.CutBlock
import Derived.Deep.RegionHeld3
import Derived.Laws.Rows
import Derived.Lib.AppendStr
import Derived.ArgAppend
import Derived.Laws.IdiomCopy
import Derived.OrdersHeld
import Derived.Laws.BitsLemmas
import Derived.RowKit
import Derived.Test.YtacnkcojhlbkoaaDoorJD19
import Derived.Test.YtacnkcojhlbkoaaDoorJD17
import Derived.Test.YtacnkcojhlbkoaaDoorJD0
import Derived.Test.YtacnkcojhlbkoaaDoorJD1
import Derived.Test.YtacnkcojhlbkoaaDoorJD2
set_option linter.unusedSimpArgs false
set_option linter.unusedVariables false
set_option linter.unnecessarySimpa false
namespace Go.Proofs.YtacnkcojhlbkoaaDoor
open Go.RowKit Go.Proofs.YtacnkcojhlbkoaaDoorW.PrintWords Go.Proofs.YtacnkcojhlbkoaaDoorW.PrintLast Go.Proofs.YtacnkcojhlbkoaaDoorW.PrintMore Go.Proofs.YtacnkcojhlbkoaaDoor.NL
set_option maxRecDepth 100000

set_option maxHeartbeats 2000000 in
theorem light_any (b m : Nat) (f : Nat → Option Addr × Nat × Nat) (w : World) (hc : ∀ i, i < m → w.cell? ⟨b, i, none⟩ = some (.slice (f i).1 (f i).2.1 (f i).2.2)) (hm : m ≤ 1000) (hn : ∀ i, i < m → (f i).2.1 ≤ 9223372036854775807) :
    Calls Tryd.prog 10 #[.slice (some ⟨b, 0, none⟩) m m] w fun e w' => e = .returned (.bool (decide (∀ i, i < m → (f i).2.1 ≤ 1100))) ∧ w = w' := by
  have HC := Lib.hid hc
  have HN := Lib.hid hn
  clear hc hn
  go_enter Tryd.func10, Tryd.ntmps10
  go_wp2
  go_loop [3] (fun vi => ∃ k : Nat, k ≤ m ∧ vi = .int .i64 k ∧ ∀ i, i < k → (f i).2.1 ≤ 1100) (fun vi => m - (intOf vi).toNat)
  case atStart => exact ⟨0, by omega, rfl, fun i h => absurd h (by omega)⟩
  case round =>
    obtain ⟨k, hk, rfl, hv⟩ := hrel
    have HV := Lib.hid hv
    clear hv
    by_cases hlt : k < m
    · have hcell := HC.out k hlt
      have hn := HN.out k hlt
      have HE : Hid ((f k).2.1 ≤ 1100 → ∀ i, i < k + 1 → (f i).2.1 ≤ 1100) := Lib.hid fun h i hi => by
        by_cases e : i = k
        · rw [e]; exact h
        · exact HV.out i (by omega)
      have HF : Hid (1100 < (f k).2.1 → decide (∀ i, i < m → (f i).2.1 ≤ 1100) = false) := Lib.hid fun h => decide_eq_false fun h2 => by have := h2 k hlt; omega
      generalize (f k).2.1 = n at *
      generalize (f k).1 = A at *
      generalize (f k).2.2 = c at *
      by_cases h : n ≤ 1100
      · have d0 : decide ((1100 : Int) < n) = false := decide_eq_false (by omega)
        have HE2 := Lib.hid (HE.out h)
        clear HE HF h
        go_wp2
        go_round
        case rel => exact ⟨k + 1, by omega, by simp, HE2.out⟩
        case measure => simp [intOf]; omega
      · have d0 : decide ((1100 : Int) < n) = true := decide_eq_true (by omega)
        have HF2 := Lib.hid (HF.out (by omega))
        clear HE HF h
        go_wp2
        go_ret
        exact ⟨by rw [HF2.out]; rfl, rfl⟩
    · obtain rfl : k = m := by omega
      have HT : Hid (decide (∀ i, i < k → (f i).2.1 ≤ 1100) = true) := Lib.hid (decide_eq_true HV.out)
      go_wp2
      go_ret
      exact ⟨by rw [HT.out]; rfl, rfl⟩
end Go.Proofs.YtacnkcojhlbkoaaDoor
namespace Go.Proofs.YtacnkcojhlbkoaaDoor
open Go.RowKit Go.Proofs.YtacnkcojhlbkoaaDoorW.PrintWords Go.Proofs.YtacnkcojhlbkoaaDoorW.PrintLast Go.Proofs.YtacnkcojhlbkoaaDoorW.PrintMore Go.Proofs.YtacnkcojhlbkoaaDoor.NL
/-- 'light' of one list, and of two, as the laws call it: out of an array that was just made. -/
def light1 (l0 : List Int) : Option Bool := if l0.length ≤ 9223372036854775807 then some (decide (l0.length ≤ 1100)) else none
def light2 (l0 l1 : List Int) : Option Bool := if l0.length ≤ 9223372036854775807 ∧ l1.length ≤ 9223372036854775807 then some (decide (l0.length ≤ 1100 ∧ l1.length ≤ 1100)) else none
theorem light_one {A0 : Option Addr} {c0 : Nat} {l0 : List Int} {r : Bool} (W : World) (t : TypeId) (h : light1 l0 = some r) :
    Calls Tryd.prog 10 #[.slice (some ⟨W.heap.size, 0, none⟩) 1 1] (W.alloc (.cells #[.slice A0 l0.length c0] t)) fun e w' => e = .returned (.bool r) ∧ Below (W.alloc (.cells #[.slice A0 l0.length c0] t)).heap.size (W.alloc (.cells #[.slice A0 l0.length c0] t)) w' := by
  unfold light1 at h
  split at h
  · rename_i hb
    simp only [Option.some.injEq] at h
    subst h
    refine (light_any W.heap.size 1 (fun _ => (A0, l0.length, c0)) _ (fun i hi => ?_) (by omega) (fun i hi => hb)).mono ?_
    · obtain rfl : i = 0 := by omega
      simp [go_sem]
    · rintro e w' ⟨rfl, rfl⟩
      refine ⟨?_, Below.refl _ _⟩
      congr 2
      rw [decide_eq_decide]
      exact ⟨fun h => h 0 (by omega), fun h _ _ => h⟩
  · cases h
theorem light_two {A0 A1 : Option Addr} {c0 c1 : Nat} {l0 l1 : List Int} {r : Bool} (W : World) (t : TypeId) (h : light2 l0 l1 = some r) :
    Calls Tryd.prog 10 #[.slice (some ⟨W.heap.size, 0, none⟩) 2 2] (W.alloc (.cells #[.slice A0 l0.length c0, .slice A1 l1.length c1] t)) fun e w' => e = .returned (.bool r) ∧ Below (W.alloc (.cells #[.slice A0 l0.length c0, .slice A1 l1.length c1] t)).heap.size (W.alloc (.cells #[.slice A0 l0.length c0, .slice A1 l1.length c1] t)) w' := by
  unfold light2 at h
  split at h
  · rename_i hb
    simp only [Option.some.injEq] at h
    subst h
    refine (light_any W.heap.size 2 (fun i => if i = 0 then (A0, l0.length, c0) else (A1, l1.length, c1)) _ (fun i hi => ?_) (by omega) (fun i hi => ?_)).mono ?_
    · have : i = 0 ∨ i = 1 := by omega
      rcases this with rfl | rfl <;> simp [go_sem]
    · have : i = 0 ∨ i = 1 := by omega
      rcases this with rfl | rfl
      · exact hb.1
      · exact hb.2
    · rintro e w' ⟨rfl, rfl⟩
      refine ⟨?_, Below.refl _ _⟩
      congr 2
      rw [decide_eq_decide]
      exact ⟨fun h => ⟨h 0 (by omega), h 1 (by omega)⟩, fun h i hi => by
        have : i = 0 ∨ i = 1 := by omega
        rcases this with rfl | rfl
        · exact h.1
        · exact h.2⟩
  · cases h
/-- A row of limbs that came in. -/
def IsRow (k : IntKind) (w : World) (a : Option Addr) (len cap : Nat) (zs : List Int) : Prop :=
  (a = none ∧ len = 0 ∧ cap = 0 ∧ zs = []) ∨
  ∃ x, a = some x ∧ len ≤ cap ∧ cap ≤ maxLen ∧ zs.length = cap ∧ (∀ i, i < zs.length → w.cell? (x.add i) = some (.int k (zs.getD i 0))) ∧ ∀ n ∈ zs, (Lit.int k n).wf = true
theorem nat_row {W : World} {a : Option Addr} {len cap : Nat} {z : List Int} (h : IsRow .u32 W a len cap z) : ∃ l : List Int, len = l.length ∧ Kd.C (Kd.int .u32) W a l.length l ∧ l.length ≤ cap ∧ Lim l ∧ l.length ≤ maxLen := by
  obtain ⟨l1, rfl, hr1, hm1, hw1, hc1⟩ := ReadsInt.ofRowC h
  refine ⟨l1, rfl, Kd.C_of_reads (d := (0 : Int)) (h1 := fun _ => rfl) hr1, hc1, ?_, hm1⟩
  intro n hn
  have := hw1 n hn
  simp [Lit.wf, IntKind.min, IntKind.max, IntKind.signed, IntKind.bits] at this
  omega
end Go.Proofs.YtacnkcojhlbkoaaDoor

namespace Go.Proofs.YtacnkcojhlbkoaaDoor.XBinarySpecials
open Go.RowKit Go.Proofs.YtacnkcojhlbkoaaDoorW.PrintWords Go.Proofs.YtacnkcojhlbkoaaDoorW.PrintLast Go.Proofs.YtacnkcojhlbkoaaDoorW.PrintMore
attribute [local go_sem] max2_int min2_int max_two min_two max_three min_three max_four min_four   -- for this text's walks alone
set_option linter.unusedVariables false
set_option linter.unusedSimpArgs false

def errW : Option Int → Value
  | none => .nilIface
  | some c => .iface 0 (.int .i64 c)
theorem errW_none : errW none = .nilIface := rfl
theorem errW_some (c : Int) : errW (some c) = .iface 0 (.int .i64 c) := rfl

-- the values' own types

end Go.Proofs.YtacnkcojhlbkoaaDoor.XBinarySpecials

namespace Go.Proofs.YtacnkcojhlbkoaaDoor.XBinarySpecials
open Go.RowKit Go.Proofs.YtacnkcojhlbkoaaDoorW.PrintWords Go.Proofs.YtacnkcojhlbkoaaDoorW.PrintLast Go.Proofs.YtacnkcojhlbkoaaDoorW.PrintMore
attribute [local go_sem] max2_int min2_int max_two min_two max_three min_three max_four min_four   -- for this text's walks alone
set_option linter.unusedVariables false
set_option linter.unusedSimpArgs false

theorem eqA28 (d : Nat) (w : World) (x0 y0 : Int) (x1 y1 : Int) :
    (Op.equalIn (d + 2) 28 (.agg #[.int .u64 x0, .int .u64 x1]) (.agg #[.int .u64 y0, .int .u64 y1])).run Tryd.prog w = .ok (x0 == y0 && (x1 == y1)) w := by
  refine eqA_of Tryd.underlying28 (by kernel_rfl) ?_
  refine eqf_cons (by rfl) (by go_simp; rfl) (by go_simp; rfl) (by go_simp) ?_
  exact eqf_last (by rfl) (by go_simp; rfl) (by go_simp; rfl) (by go_simp)
end Go.Proofs.YtacnkcojhlbkoaaDoor.XBinarySpecials
