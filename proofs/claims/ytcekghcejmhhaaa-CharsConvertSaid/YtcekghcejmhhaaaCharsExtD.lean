/- The contract of the specification's Decode, in the form that the printed walks ask for. -/
import Derived.Test.YtcekghcejmhhaaaCharsRefC
set_option linter.unusedSimpArgs false
set_option linter.unusedVariables false
set_option linter.unnecessarySimpa false
namespace Go.Proofs.Ytcekghcejmhhaaa
open Go.RowKit Go.Proofs.YtcekghcejmhhaaaW.PrintWords Go.Proofs.YtcekghcejmhhaaaW.PrintLast Go.Proofs.YtcekghcejmhhaaaW.PrintMore

def sorobanref18_Decode.f (a0 : Int) (l1 : List Int) : Option (List Int × List Int × Int × Int) := XCharsDecode.sorobanref18_Decode.f (2 * l1.length + 10) a0 l1
theorem sorobanref18_Decode.calls (a0 : Int) (A1 : Option Addr) (c1 : Nat) (l1 : List Int) (r1 r2 : List Int) (r3 r4 : Int) (w : World) (hr1 : Kd.C (Kd.int .u8) w A1 l1.length l1) (hc1 : l1.length ≤ c1) (h : sorobanref18_Decode.f a0 l1 = some (r1, r2, r3, r4)) :
    Calls Try.prog 26 #[.int .i64 a0, .slice A1 l1.length c1] w fun e w' => ∃ v0_ v1_ : Value, e = .returned (.agg #[v0_, v1_, .int .i64 r3, .int .i64 r4]) ∧ Kd.R (Kd.int .u32) 43 w' w.heap.size (fun _ => True) v0_ r1 ∧ Kd.R (Kd.int .i64) 3 w' w.heap.size (fun _ => True) v1_ r2 ∧ Below w.heap.size w w' :=
  XCharsDecode.sorobanref18_Decode.calls (2 * l1.length + 10) a0 A1 c1 l1 r1 r2 r3 r4 w hr1 hc1 h

theorem decode_x {enc : Int} (he : encOk enc) {l : List Int} (hb : ∀ x ∈ l, 0 ≤ x ∧ x ≤ 255) (hn : l.length ≤ 20000) : ∃ s, sorobanref18_Decode.f enc l = some ((Ref.readR [] [] (decodeLoop enc l.length 0 0 l)).1, (Ref.readR [] [] (decodeLoop enc l.length 0 0 l)).2.1, (Ref.readR [] [] (decodeLoop enc l.length 0 0 l)).2.2, s) :=
  Ref.decode_ref he hb hn (Nat.le_refl _)
end Go.Proofs.Ytcekghcejmhhaaa
