/- The specification's Trim: a list without zeros at its end. The specification's Trim, in the form that the printed walks ask for. Written by this session's own program (wip/tools/xprint.sh) for the law Ar: what the law's functions compute, and that the machine does so, given the contracts of the program's functions. -/
import Derived.Test.YtacnkcojhlbkoaaDoorJOrd4
import Derived.Test.YtacnkcojhlbkoaaDoorJOrd16
import Derived.Test.YtacnkcojhlbkoaaDoorProg
import Derived.Below
import Derived.Deep.Draws
import Derived.Deep.AppendLies
import Derived.Maps.AppendAt
import Derived.OwnWalk
import Derived.Laws.BytesArg
import Derived.Laws.MakeOwn
import Derived.Laws.OwnMore
import Derived.Deep.OwnRows
import Derived.Tactics
import Derived.Lib.ConvBytes
import Derived.Laws.Slices
import Derived.WalkKit
import Derived.KernelRfl
import Derived.RowKit3
import Derived.Deep.LoopGhost
import Derived.Deep.QuietTactic
import Derived.BigQuiet
import Derived.WideLaws
import Derived.Deep.DeepCutAuto
import Derived.Deep.CutBlock
import Derived.Deep.RegionHeld3
import Derived.Laws.Rows
import Derived.Lib.AppendStr
import Derived.ArgAppend
import Derived.Laws.IdiomCopy
import Derived.OrdersHeld
import Derived.Laws.BitsLemmas
import Derived.RowKit
import Derived.Test.YtacnkcojhlbkoaaDoorJOrd17
import Derived.Test.YtacnkcojhlbkoaaDoorJOrd0
import Derived.Test.YtacnkcojhlbkoaaDoorJOrd1
import Derived.Test.YtacnkcojhlbkoaaDoorJOrd2
set_option linter.unusedSimpArgs false
set_option linter.unusedVariables false
set_option linter.unnecessarySimpa false
namespace Go.Proofs.YtacnkcojhlbkoaaDoor
open Go.RowKit Go.Proofs.YtacnkcojhlbkoaaDoorW.PrintWords Go.Proofs.YtacnkcojhlbkoaaDoorW.PrintLast Go.Proofs.YtacnkcojhlbkoaaDoorW.PrintMore Go.Proofs.YtacnkcojhlbkoaaDoor.NL
set_option maxRecDepth 100000

set_option maxHeartbeats 4000000 in
theorem rtrim_any (A : Option Addr) (c : Nat) (l : List Int) (w : World) (hC : Kd.C (Kd.int .u32) w A l.length l) (la : Lim l) (hc : l.length ≤ c) (hn : l.length ≤ 1000000000) :
    Calls Tryd.prog 96 #[.slice A l.length c] w (NewRow w (ofN (val l))) := by
  obtain ⟨n, hl⟩ : ∃ n, l.length = n := ⟨_, rfl⟩
  rw [hl] at hC hc hn ⊢
  have HL := Lib.hid hl
  have HC := Lib.hid hC
  have HA := Lib.hid la
  have hcell : Hid (∀ k, k < n → ∃ b off, A = some ⟨b, off, none⟩ ∧ w.cell? ⟨b, off + k, none⟩ = some (.int .u32 (l.getD k 0))) := Lib.hid fun k hk => by
    obtain ⟨b, off, h1, -, h2⟩ := open_C HC.out (by omega)
    exact ⟨b, off, h1, h2 k hk⟩
  clear hl hC la
  go_enter Tryd.func96, Tryd.ntmps96
  go_wp2
  go_loop [3] (fun vi => ∃ k : Nat, k ≤ n ∧ vi = .int .i64 k ∧ val (l.take k) = val l) (fun vi => (intOf vi).toNat)
  case atStart => exact ⟨n, Nat.le_refl _, rfl, by rw [take_all (by rw [HL.out]; exact Nat.le_refl _)]⟩
  case round =>
    obtain ⟨k, hk, rfl, hv⟩ := hrel
    have HV := Lib.hid hv
    clear hv
    have END : Hid ((k = 0 ∨ ∃ j, k = j + 1 ∧ l.getD j 0 ≠ 0) → l.take k = ofN (val l)) := Lib.hid fun h => trim_end HA.out (by rw [HL.out]; exact hk) HV.out h
    have HCk : Hid (Kd.C (Kd.int .u32) w A k (l.take k)) := Lib.hid (C_head HC.out hk)
    have HLk : Hid ((l.take k).length = k) := Lib.hid (by rw [List.length_take, HL.out]; omega)
    by_cases h0 : k = 0
    · subst h0
      have HE := Lib.hid (END.out (.inl rfl))
      clear END
      rcases A with _ | ⟨b, off, sp⟩
      · go_wp2_with (at_builtin; refine Kd.R_append_rows (Kd.int .u32) (w0 := w) w.heap.size rfl (.tmp 18) (.tmp 21) 23 77 (.int .u32 0) 4 rfl Tryd.underlying23 infoU32 rfl (by decide) (by omega) _ [] (l.take 0) _ 0 c (fun _ => True) (fun _ => False) rfl rfl (R_fresh w w.heap.size rfl [] #[] rfl 0 rfl (Nat.le_refl _) (by simp)) (Kd.C_below HCk.out bel) (fun _ _ h => h) (fun _ h => h.elim) (fun _ _ => trivial) bel (by simp) (by first | (simp; done) | (simp; omega)) ?_; intro v1 w1 hv hb _ _; obtain ⟨A1, c1, rfl⟩ := Kd.R_slice hv)
        go_ret
        exact ⟨_, rfl, by rw [← HE.out]; exact hv, hb⟩
      · go_wp2_with (at_builtin; refine Kd.R_append_rows (Kd.int .u32) (w0 := w) w.heap.size rfl (.tmp 18) (.tmp 21) 23 77 (.int .u32 0) 4 rfl Tryd.underlying23 infoU32 rfl (by decide) (by omega) _ [] (l.take 0) _ 0 c (fun _ => True) (fun _ => False) rfl rfl (R_fresh w w.heap.size rfl [] #[] rfl 0 rfl (Nat.le_refl _) (by simp)) (Kd.C_below HCk.out bel) (fun _ _ h => h) (fun _ h => h.elim) (fun _ _ => trivial) bel (by simp) (by first | (simp; done) | (simp; omega)) ?_; intro v1 w1 hv hb _ _; obtain ⟨A1, c1, rfl⟩ := Kd.R_slice hv)
        go_ret
        exact ⟨_, rfl, by rw [← HE.out]; exact hv, hb⟩
    · obtain ⟨j, rfl⟩ : ∃ j, k = j + 1 := ⟨k - 1, by omega⟩
      obtain ⟨b, off, rfl, hcl⟩ := hcell.out j (by omega)
      obtain ⟨x0, x1⟩ := lim_getD HA.out j
      have hj1 : ((j : Int) + 1 - 1) = (j : Int) := by omega
      have hwj : IntKind.i64.wrap (j : Int) = (j : Int) := by rw [IntKind.wrap_i64]; omega
      by_cases hx : l.getD j 0 = 0
      · have HS : Hid (val (l.take j) = val l) := Lib.hid (by
          obtain ⟨k', e, h1, h2⟩ := TrimRel.step (A := none) (c := 0) (k := j) (by rw [HL.out]; omega) HV.out hx
          injection e with _ e _
          subst e
          exact h2)
        rw [hx] at hcl
        clear END hx x0 x1
        go_wp2
        go_round
        case rel => exact ⟨j, by omega, by simp, HS.out⟩
        case measure => simp [intOf]
      · have HE := Lib.hid (END.out (.inr ⟨j, rfl, hx⟩))
        have t0 : (l.getD j 0 == 0) = false := by simpa using hx
        clear END hx
        generalize l.getD j 0 = x at *
        go_wp2_with (at_builtin; refine Kd.R_append_rows (Kd.int .u32) (w0 := w) w.heap.size rfl (.tmp 18) (.tmp 21) 23 77 (.int .u32 0) 4 rfl Tryd.underlying23 infoU32 rfl (by decide) (by omega) _ [] (l.take (j + 1)) _ (j + 1) c (fun _ => True) (fun _ => False) rfl rfl (R_fresh w w.heap.size rfl [] #[] rfl 0 rfl (Nat.le_refl _) (by simp)) (Kd.C_below HCk.out bel) (fun _ _ h => h) (fun _ h => h.elim) (fun _ _ => trivial) bel (by simp) (by first | (simp; done) | (simp; omega) | (rw [HLk.out]; simp; omega)) ?_; intro v1 w1 hv hb _ _; obtain ⟨A1, c1, hvv⟩ := Kd.R_slice hv; rw [show (([] : List Int) ++ l.take (j + 1)).length = j + 1 from HLk.out] at hvv; subst hvv)
        go_ret
        exact ⟨_, rfl, by rw [← HE.out]; exact hv, hb⟩
end Go.Proofs.YtacnkcojhlbkoaaDoor

set_option linter.unusedSimpArgs false
set_option linter.unusedVariables false
set_option linter.unnecessarySimpa false
namespace Go.Proofs.YtacnkcojhlbkoaaDoor
open Go.RowKit Go.Proofs.YtacnkcojhlbkoaaDoorW.PrintWords Go.Proofs.YtacnkcojhlbkoaaDoorW.PrintLast Go.Proofs.YtacnkcojhlbkoaaDoorW.PrintMore Go.Proofs.YtacnkcojhlbkoaaDoor.NL
def sorobanref01_Trim.f (l0 : List Int) : Option (List Int) := if u32L l0 && decide (l0.length ≤ 1000000000) then some (ofN (val l0)) else none
theorem sorobanref01_Trim.calls (A0 : Option Addr) (c0 : Nat) (l0 : List Int) (r : List Int) (w : World) (hr0 : Kd.C (Kd.int .u32) w A0 l0.length l0) (hc0 : l0.length ≤ c0) (h : sorobanref01_Trim.f l0 = some r) :
    Calls Tryd.prog 96 #[.slice A0 l0.length c0] w fun e w' => ∃ v0_ : Value, e = .returned (v0_) ∧ Kd.R (Kd.int .u32) 77 w' w.heap.size (fun _ => True) v0_ r ∧ Below w.heap.size w w' := by
  unfold sorobanref01_Trim.f at h
  split at h
  · rename_i hb
    simp only [Bool.and_eq_true, decide_eq_true_eq] at hb
    simp only [Option.some.injEq] at h
    subst h
    exact rtrim_any A0 c0 l0 w hr0 (u32L_of hb.1) hc0 hb.2
  · cases h
end Go.Proofs.YtacnkcojhlbkoaaDoor

namespace Go.Proofs.YtacnkcojhlbkoaaDoor.XAr
open Go.RowKit Go.Proofs.YtacnkcojhlbkoaaDoorW.PrintWords Go.Proofs.YtacnkcojhlbkoaaDoorW.PrintLast Go.Proofs.YtacnkcojhlbkoaaDoorW.PrintMore
attribute [local go_sem] max2_int min2_int max_two min_two max_three min_three max_four min_four   -- for this text's walks alone
set_option linter.unusedVariables false
set_option linter.unusedSimpArgs false

def errW : Option Int → Value
  | none => .nilIface
  | some c => .iface 0 (.int .i64 c)
theorem errW_none : errW none = .nilIface := rfl
theorem errW_some (c : Int) : errW (some c) = .iface 0 (.int .i64 c) := rfl

theorem info77 : (Tryd.prog.info? 77).map (fun i => (i.zero, i.size, i.bytes)) = some (some (.int .u32 0), 1, 4) := by kernel_rfl
-- the values' own types

end Go.Proofs.YtacnkcojhlbkoaaDoor.XAr
