/- decimal.Decode of infinities and NaNs: its walk. -/
import Derived.Test.YtiplbpfdkcddlaaDoorJD11
import Derived.Test.YtiplbpfdkcddlaaDoorJDm0
import Derived.Test.YtiplbpfdkcddlaaDoorJDm1
import Derived.Test.YtiplbpfdkcddlaaDoorJDm2
set_option linter.unusedSimpArgs false
set_option linter.unusedVariables false
set_option linter.unnecessarySimpa false
namespace Go.Proofs.YtiplbpfdkcddlaaDoor
open Go.RowKit Go.Proofs.YtiplbpfdkcddlaaDoorW.PrintWords Go.Proofs.YtiplbpfdkcddlaaDoorW.PrintLast Go.Proofs.YtiplbpfdkcddlaaDoorW.PrintMore Go.Proofs.YtiplbpfdkcddlaaDoor.NL
set_option maxRecDepth 100000
set_option exponentiation.threshold 33000

set_option maxHeartbeats 16000000 in
theorem dec_oth {fm enc P L H hi lo cl : Int} {wn tn s T G sg R g3 g4 g5 : Nat} {ng cb a b c a2 : Bool} {te : TypeId} {v : Value} {gpay : Nat} (w : World)
    (hT : Tab w)
    (HFo : Hid (∀ w', Tab w' → Calls Tryd.prog 19 #[.int .i64 fm] w' fun r w'' => r = .returned (.tuple #[fV P L H (wn : Nat) (tn : Nat), .bool true]) ∧ Below w'.heap.size w' w''))
    (HEn : Hid (∀ w', Calls Tryd.prog 18 #[.int .i64 enc] w' fun r w'' => r = .returned (.iface te v) ∧ Below w'.heap.size w' w''))
    (hs1 : Hid (s = 1 + wn + 5 + tn)) (hwn : wn ≤ 12) (htn : tn ≤ 110)
    (HLs : Hid (∀ w', Calls Tryd.prog 23 #[wV hi lo, .int .i64 (s : Nat)] w' fun r w'' => r = .returned (wV hi lo) ∧ Below w'.heap.size w' w''))
    (HF1 : Hid (∀ g w', w'.cell? ⟨g, 0, none⟩ = some (.int .u64 hi) → w'.cell? ⟨g, 1, none⟩ = some (.int .u64 lo) → Calls Tryd.prog 24 #[.int .i64 (tn : Nat), .int .i64 ((wn : Int) + 5), .pointer (some ⟨g, 0, none⟩)] w' fun r w'' => r = .returned (.int .u64 (G : Nat)) ∧ Below w'.heap.size w' w''))
    (HLt : Hid (∀ w', Calls Tryd.prog 23 #[wV hi lo, .int .i64 (tn : Nat)] w' (GivesW T w')))
    (HF2 : Hid (∀ g w', w'.cell? ⟨g, 0, none⟩ = some (.int .u64 hi) → w'.cell? ⟨g, 1, none⟩ = some (.int .u64 lo) → Calls Tryd.prog 24 #[.int .i64 ((s : Int) - 1), .int .i64 1, .pointer (some ⟨g, 0, none⟩)] w' fun r w'' => r = .returned (.int .u64 (sg : Nat)) ∧ Below w'.heap.size w' w''))
    (hng : ((sg : Int) == 1) = ng)
    (hwn0 : 0 < wn) (hcase : Hid ((((G : Int) / 2 ^ wn == 30) = true ∧ cl = 2 ∧ R = 0 ∧ cb = (a && decide (T = 0))) ∨ (((G : Int) / 2 ^ wn == 30) = false ∧ ((G : Int) / 2 ^ wn == 31) = true ∧ cl = (if b then 4 else 3) ∧ cb = (c && a2))))
    (HFg3 : Hid (∀ g w', w'.cell? ⟨g, 0, none⟩ = some (.int .u64 hi) → w'.cell? ⟨g, 1, none⟩ = some (.int .u64 lo) → Calls Tryd.prog 24 #[.int .i64 (tn : Nat), .int .i64 (wn : Nat), .pointer (some ⟨g, 0, none⟩)] w' fun r w'' => r = .returned (.int .u64 (g3 : Nat)) ∧ Below w'.heap.size w' w''))
    (HFg5 : Hid (∀ g w', w'.cell? ⟨g, 0, none⟩ = some (.int .u64 hi) → w'.cell? ⟨g, 1, none⟩ = some (.int .u64 lo) → Calls Tryd.prog 24 #[.int .i64 ((tn : Int) + wn - 1), .int .i64 1, .pointer (some ⟨g, 0, none⟩)] w' fun r w'' => r = .returned (.int .u64 (g5 : Nat)) ∧ Below w'.heap.size w' w''))
    (HFg4 : Hid (∀ g w', w'.cell? ⟨g, 0, none⟩ = some (.int .u64 hi) → w'.cell? ⟨g, 1, none⟩ = some (.int .u64 lo) → Calls Tryd.prog 24 #[.int .i64 (tn : Nat), .int .i64 ((wn : Int) - 1), .pointer (some ⟨g, 0, none⟩)] w' fun r w'' => r = .returned (.int .u64 (g4 : Nat)) ∧ Below w'.heap.size w' w''))
    (ha : Hid (((g3 : Int) == 0) = a)) (hb : Hid (((g5 : Int) == 1) = b)) (ha2 : Hid (((g4 : Int) == 0) = a2))
    (hm : ∀ w', (method 254 te v "soroban/decimal.payload").run Tryd.prog w' = .ok (gpay, v) w')
    (ef : ∀ args w', (callFunc gpay args).run Tryd.prog w' = .ok (.enter gpay args) w')
    (HPay : Hid ((((G : Int) / 2 ^ wn == 30) = false) → ∀ thi tlo w', Hid (Wd T thi tlo) → Calls Tryd.prog gpay #[v, fV P L H (wn : Nat) (tn : Nat), wV thi tlo] w' (PayP R c w'))) :
    Calls Tryd.prog 10 #[.int .i64 fm, .int .i64 enc, .agg #[.int .u64 hi, .int .u64 lo]] w fun r w' => ∃ u, r = .returned (.tuple #[.agg #[.int .i64 fm, .int .i64 cl, .bool ng, u, .int .i64 0], .bool cb, .int .i64 0]) ∧ Kd.R (Kd.int .u32) 46 w' w.heap.size (fun _ => True) u (ofN R) ∧ Below w.heap.size w w' := by
  rcases hcase.out with h | h
  · exact dec_inf (b := b) w hT HFo HEn hs1 hwn htn HLs HF1 HLt HF2 hng hwn0 (Lib.hid h) HFg3 HFg5 HFg4 ha hb ha2 hm ef HPay
  · cases b with
    | false => exact dec_qnan (b := false) w hT HFo HEn hs1 hwn htn HLs HF1 HLt HF2 hng hwn0 (Lib.hid h) HFg3 HFg5 HFg4 ha hb ha2 hm ef HPay
    | true => exact dec_snan (b := true) w hT HFo HEn hs1 hwn htn HLs HF1 HLt HF2 hng hwn0 (Lib.hid h) HFg3 HFg5 HFg4 ha hb ha2 hm ef HPay
end Go.Proofs.YtiplbpfdkcddlaaDoor
