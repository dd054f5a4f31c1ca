/- The contracts of the specification's Next and of the shifts that it counts, in the form that the printed walks ask for. -/
import Derived.Test.YtcekghcejmhhaaaCharsRefN
set_option linter.unusedSimpArgs false
set_option linter.unusedVariables false
set_option linter.unnecessarySimpa false
namespace Go.Proofs.Ytcekghcejmhhaaa
open Go.RowKit Go.Proofs.YtcekghcejmhhaaaW.PrintWords Go.Proofs.YtcekghcejmhhaaaW.PrintLast Go.Proofs.YtcekghcejmhhaaaW.PrintMore

def sorobanref18_shifts.f (a0 a1 : Int) (l2 : List Int) : Option (Int × Int) := XBaseD.sorobanref18_shifts.f (l2.length + 1) a0 a1 l2
theorem sorobanref18_shifts.calls (a0 a1 : Int) (A2 : Option Addr) (c2 : Nat) (l2 : List Int) (r1 r2 : Int) (w : World) (hr2 : Kd.C (Kd.int .u8) w A2 l2.length l2) (hc2 : l2.length ≤ c2) (h : sorobanref18_shifts.f a0 a1 l2 = some (r1, r2)) :
    Calls Try.prog 47 #[.int .i64 a0, .int .i64 a1, .slice A2 l2.length c2] w fun e w' => e = .returned (.tuple #[.int .i64 r1, .int .i64 r2]) ∧ Below w.heap.size w w' :=
  (XBaseD.sorobanref18_shifts.calls (l2.length + 1) a0 a1 A2 c2 l2 r1 r2 w hr2 hc2 h).mono fun e w' ⟨h1, h2⟩ => ⟨h1, h2.below⟩
def sorobanref18_Next.f (a0 a1 : Int) (l2 : List Int) : Option (Int × Int × Int × Int) := if encOk a0 ∧ (a1 = 0 ∨ a1 = 1) ∧ bytB l2 = true ∧ l2.length ≤ 20000 then some (Ref.T (nextC a0 a1 l2)) else none
theorem sorobanref18_Next.calls (a0 a1 : Int) (A2 : Option Addr) (c2 : Nat) (l2 : List Int) (r1 r2 r3 r4 : Int) (w : World) (hr2 : Kd.C (Kd.int .u8) w A2 l2.length l2) (hc2 : l2.length ≤ c2) (h : sorobanref18_Next.f a0 a1 l2 = some (r1, r2, r3, r4)) :
    Calls Try.prog 33 #[.int .i64 a0, .int .i64 a1, .slice A2 l2.length c2] w fun e w' => e = .returned (.agg #[.int .i64 r1, .int .u32 r2, .int .i64 r3, .int .i64 r4]) ∧ Below w.heap.size w w' := by
  unfold sorobanref18_Next.f at h
  split at h
  · rename_i h0
    simp only [Ref.T, Option.some.injEq, Prod.mk.injEq] at h
    obtain ⟨rfl, rfl, rfl, rfl⟩ := h
    exact Ref.next_walk a0 a1 h0.1 h0.2.1 A2 c2 l2 w h0.2.2.2 hr2 hc2 (Byt.mem (bytB_of h0.2.2.1))
  · cases h
theorem next_x {enc st : Int} {l : List Int} (he : encOk enc) (hs : st = 0 ∨ st = 1) (hb : ∀ x ∈ l, 0 ≤ x ∧ x ≤ 255) (hn : l.length ≤ 20000) : sorobanref18_Next.f enc st l = some (Ref.T (nextC enc st l)) := by
  unfold sorobanref18_Next.f; rw [if_pos ⟨he, hs, bytB_mk hb, hn⟩]
end Go.Proofs.Ytcekghcejmhhaaa
