/- What the law BinaryBack asks of numbers alone: Encode of Decode and Decode of Encode. The law BinaryBack: for every input that its guards let in it answers true: the row, and the tied card (the one listed variable is a table of math/bits, tied to the program's text). -/
import Derived.Test.YtacnkcojhlbkoaaDoorJBack18
import Derived.Test.YtacnkcojhlbkoaaDoorJBack19
import Derived.Test.YtacnkcojhlbkoaaDoorCards
import Derived.Test.YtacnkcojhlbkoaaDoorTie
import Derived.WalkKit
import Derived.ProofKit
import Derived.OpenShut
import Derived.ShutString
import Derived.ChangeOld
import Derived.Below
import Derived.SizedLaws
import Derived.LaidMore
import Derived.Lib.LaidTab
import Derived.Stop.Joined
import Derived.SevenTiedAt
set_option linter.unusedSimpArgs false
set_option linter.unusedVariables false
set_option linter.unnecessarySimpa false
namespace Go.Proofs.YtacnkcojhlbkoaaDoor
open Go.RowKit Go.Proofs.YtacnkcojhlbkoaaDoorW.PrintWords Go.Proofs.YtacnkcojhlbkoaaDoorW.PrintLast Go.Proofs.YtacnkcojhlbkoaaDoorW.PrintMore Go.Proofs.YtacnkcojhlbkoaaDoor.NL
set_option maxRecDepth 100000
set_option exponentiation.threshold 130

theorem back_abs (k : Nat) {a0 hi lo f nh nl cl ex mh ml : Int} {ng b : Bool} {co : List Int} (e1 : sorobanlaw05_which.f a0 = some f) (e2 : sorobanlaw05_cut.f f hi lo = some (nh, nl)) (c0 : binary_Decode.f f nh nl = some (f, cl, ng, co, ex, 0)) (c5 : binary_Check.f f cl ng co ex = some 0) (c3 : binary_Encode.f f cl ng co ex = some (mh, ml, 0)) (c1 : binary_Canonical.f f nh nl = some (b, 0)) (c2 : binary_Canonical.f f mh ml = some (true, 0)) (c4 : binary_Decode.f f mh ml = some (f, cl, ng, co, ex, 0)) (c7 : sorobanref05_Same.f f cl ng co ex f cl ng co ex = some true) (c8 : (mh == nh && (ml == nl)) = b) (c9 : f = 4 ∨ b = true) :
    XBinaryBack.sorobanlaw05_BinaryBack.f (k + 1) a0 hi lo = some true := by
  have c6 : sorobanlaw05_sanity.f = some true := rfl
  simp only [XBinaryBack.sorobanlaw05_BinaryBack.f, XBinaryBack.sorobanlaw05_BinaryBack.j0, e1, e2, c0, c5, c3, c1, c2, c4, c6, c7, c8, Option.bind_some, if_true, bne_self_eq_false, Bool.false_eq_true, if_false, beq_self_eq_true]
  rcases c9 with rfl | rfl
  · cases b <;> rfl
  · rfl
theorem binaryBack_pure (k : Nat) (a0 hi lo : Int) (h0 : 0 ≤ a0 ∧ a0 ≤ 255) (h1 : u64B hi = true) (h2 : u64B lo = true) : XBinaryBack.sorobanlaw05_BinaryBack.f (k + 1) a0 hi lo = some true := by
  obtain ⟨f, e1, hf⟩ := which_f h0
  obtain ⟨N, hN, e2⟩ := cut_f hf h1 h2
  have hx := dec_128 hf N
  have hh := (dec_ok hf N).1
  obtain ⟨d1, d2, d3⟩ := dec_pack (ng := decNeg f N) hf hh
  have hl := ofN_len hx
  have c2 := canon_f hf d3
  have c4 := decode_f hf d3
  rw [d1, d2] at c2 c4
  rw [decide_eq_true rfl] at c2
  refine back_abs k e1 e2 (decode_f hf hN) (check_f (ng := decNeg f N) hf hx hh) (encode_f (ng := decNeg f N) hf hx hh) (canon_f hf hN) c2 c4 ?_ words_inj ?_
  · unfold sorobanref05_Same.f
    rw [if_pos (by omega), decide_eq_true ⟨rfl, rfl, rfl, rfl, rfl⟩]
  · by_cases h4 : f = 4
    · exact .inl h4
    · exact .inr (decide_eq_true (pack_dec hf h4 hN))
end Go.Proofs.YtacnkcojhlbkoaaDoor
namespace Go.Proofs.YtacnkcojhlbkoaaDoor
open Go.RowKit
/-- The law's walk: it answers true. -/
theorem binaryBack_walk (a0 a1_0 a1_1 : Int) (W : World) (w0 : (Lit.int .u8 a0).wf = true) (w1 : (Lit.int .u64 a1_0).wf = true) (w2 : (Lit.int .u64 a1_1).wf = true) (hT : Tab W) :
    Calls Tryd.prog 5 #[.int .u8 a0, .agg #[.int .u64 a1_0, .int .u64 a1_1]] W fun e w' => e = .returned (.bool true) ∧ Below W.heap.size W w' := by
  simp [Lit.wf, IntKind.min, IntKind.max, IntKind.signed, IntKind.bits] at w0 w1 w2
  exact XBinaryBack.sorobanlaw05_BinaryBack.calls 1 a0 a1_0 a1_1 true W (binaryBack_pure 0 a0 a1_0 a1_1 (by omega) (by simp only [u64B, decide_eq_true_eq]; omega) (by simp only [u64B, decide_eq_true_eq]; omega)) hT
end Go.Proofs.YtacnkcojhlbkoaaDoor

set_option linter.unusedSimpArgs false
set_option linter.unusedVariables false
set_option linter.unnecessarySimpa false
namespace Go.Proofs.YtacnkcojhlbkoaaDoor.binaryBack
open Go.ChangeShapes Go.WideShapes Go.ChangeAt Go.RowKit Go.Proofs.YtacnkcojhlbkoaaDoor Go.Proofs.YtacnkcojhlbkoaaDoorW.PrintWords Go.Proofs.YtacnkcojhlbkoaaDoorW.PrintLast Go.Proofs.YtacnkcojhlbkoaaDoorW.PrintMore Go.Proofs.YtacnkcojhlbkoaaDoor.NL
set_option maxRecDepth 100000
theorem own : ownKnob Tryd.prog.godebug = none := by kernel_rfl
theorem laidOut : laidOutB Tryd.prog = true := by kernel_rfl
theorem gTab : Tryd.prog.globalNamed "math/bits.deBruijn32tab" = some 0 := by kernel_rfl
theorem tTab : (Tryd.prog.globals[0]?).map (·.type) = some 164 := by kernel_rfl
theorem door_met (os : Os) (args : Array Value) : laidMetH Tryd.prog [("math/bits.deBruijn32tab", Rows.laid_math_bits_deBruijn32tab)] ((World.doorLaid Tryd.prog 14 os).forCall (fun _ _ => 0) ⟨#[], args, []⟩).memory :=
  laidMetH_of_parts3 (fuel := 8) (laidMet_of_run' 8 (by kernel_rfl) (by kernel_rfl)) (by kernel_rfl) (by kernel_rfl)
theorem tab_of {W : World} (h : laidMetH Tryd.prog [("math/bits.deBruijn32tab", Rows.laid_math_bits_deBruijn32tab)] W) : Tab W := by
  rw [MakeChecks.laidMetH_plain _ _ _ (by kernel_rfl)] at h
  have hT := Lib.tabIs_of_head (k := .u8) (zs := Lib.deBruijn32tab.map Int.ofNat) gTab tTab Tryd.underlying164 Tryd.underlying5 (by kernel_rfl) (by kernel_rfl) h
  intro j hj
  have h1 := hT.cell gTab j (by simpa using hj)
  rw [h1]
  congr 2
  rw [List.getD_eq_getElem?_getD, List.getElem?_map, List.getD_eq_getElem?_getD]
  cases Lib.deBruijn32tab[j]? <;> rfl
theorem open_raw {H : Type} {enc : TypeId × Value → H} {W : World} {base b0 : Nat} {sp : Nat → Bool} {held : Bool} {v : Value} {d : DataW H} {p : List MemPlace} (hv : Value.okWide Tryd.prog W .any b0 28 v) (hd : DataW.Trod enc Tryd.prog W base sp held 28 v d p) :
    ∃ a b : Int, v = .agg #[.int .u64 a, .int .u64 b] ∧ (Lit.int .u64 a).wf = true ∧ (Lit.int .u64 b).wf = true := by
  obtain ⟨cs, rfl, hsz⟩ := okWide_struct Tryd.underlying28 hv
  have hc : Tryd.prog.cellsOf 28 = 2 := by kernel_rfl
  have hc1 : Tryd.prog.cellsOf 26 = 1 := by kernel_rfl
  rw [hc] at hsz
  obtain ⟨l⟩ := cs
  obtain ⟨c0, c1, rfl⟩ : ∃ c0 c1, l = [c0, c1] := by
    match l, hsz with
    | [c0, c1], _ => exact ⟨c0, c1, rfl⟩
  obtain ⟨fuel, hf⟩ := hd
  obtain ⟨y0, y1, m, -, -, hy0, hy1⟩ := trod_struct2 Tryd.underlying28 hf
  obtain ⟨a, e0, -, wa⟩ := DataW.trod_int Tryd.underlying26 hy0
  obtain ⟨b, e1, -, wb⟩ := DataW.trod_int Tryd.underlying26 hy1
  rw [hc1] at e0 e1
  simp [Value.cells] at e0 e1
  subst e0 e1
  exact ⟨a, b, rfl, wa, wb⟩
set_option maxHeartbeats 4000000 in
theorem lifted (os : Os) (started : os.Started) (H : Type) (enc : TypeId × Value → H) :
    ReturnsInHanded {} Tryd.checked os 5 .any (fun w args => (Rows.binaryBackSpec.pre enc Tryd.prog Tryd.f5 [] false w args ∧ laidMetH Tryd.prog [("math/bits.deBruijn32tab", Rows.laid_math_bits_deBruijn32tab)] w) ∧ sizedMet enc Tryd.prog Tryd.f5 (OpenSpec.ofChange Rows.binaryBackSpec) false w args)
      (Rows.binaryBackSpec.post enc Tryd.prog Tryd.f5 false true false false) := by
  refine returnsInHanded_of_change_and (C := Tryd.checked) (X := fun w _ => laidMetH Tryd.prog [("math/bits.deBruijn32tab", Rows.laid_math_bits_deBruijn32tab)] w) (fun _ _ _ hh h => h.of_heap hh) own started (by kernel_rfl) Tryd.func5
    (ChangeSpec.witness_shaped (enc := enc) (C := Tryd.checked) (os := os) (X := fun w _ => laidMetH Tryd.prog [("math/bits.deBruijn32tab", Rows.laid_math_bits_deBruijn32tab)] w) false (World.doorLaid Tryd.prog 14 os) #[.int .u8 0, .agg #[.int .u64 0, .int .u64 0]] 8 rfl (World.shaped_of_RefB (by kernel_rfl) (by kernel_rfl)) (by kernel_rfl) (by kernel_rfl) (by kernel_rfl) (door_met os _)) ?_
  intro W base args ds gs before hval0 hW _ hszq hL _
  have hval : ∀ (j : Nat) t v, Tryd.f5.params[j]? = some t → args[j]? = some v → Value.okWide Tryd.prog W .any base t v := hval0
  have hW' := hW
  obtain ⟨p, q, hA0, hV, rfl, hfz, hnd⟩ := hW
  have hA : DataW.TrodAll enc Tryd.prog W 0 (fun _ => true) true Tryd.f5.params.toList args.toList ds p := hA0
  rw [Tryd.params5] at hA hval
  obtain ⟨v0, vs0, d0, ds0, p0, q0, hargs, rfl, rfl, h0, r0⟩ := trodAll_cons hA
  obtain ⟨v1, vs1, d1, ds1, p1, q1, rfl, rfl, rfl, h1, r1⟩ := trodAll_cons r0
  obtain ⟨rfl, rfl, rfl⟩ := trodAll_nil r1
  obtain rfl : args = #[v0, v1] := by cases args; simp_all
  obtain ⟨rfl, rfl⟩ := trodVars_none hV
  obtain ⟨a0, rfl, rfl, rfl, w0⟩ := open_int Tryd.underlying5 (hval 0 5 v0 rfl rfl) h0
  have k1 := h1
  have lt1 : ∀ x ∈ p1, x.block < W.heap.size := by obtain ⟨m, hm⟩ := k1; exact DataW.trod_lt m _ _ _ hm
  obtain ⟨a1_0, a1_1, rfl, w1_0, w1_1⟩ := open_raw (hval 1 28 v1 rfl rfl) h1
  clear hA0 hval0
  have hT := tab_of hL
  refine (binaryBack_walk a0 a1_0 a1_1 W w0 w1_0 w1_1 hT).mono fun e W' ⟨he, bel⟩ => ?_
  subst he
  exact ⟨_, rfl, _, _, _, [], _, [], hW', trodAll_mk1 (shut_bool Tryd.underlying4 _), (trodAll_cons_mk (shut_int Tryd.underlying5 w0) (trodAll_cons_mk (Below.trod laidOut (by kernel_rfl) (of_decide_eq_true (by kernel_rfl)) k1 bel lt1) trodAll_mk0)), rfl, bel.frame _, fun h => by cases h⟩
theorem over : Rows.binaryBackRow.holds Tryd.pinned (OpenSpec.ofChange Rows.binaryBackSpec) :=
  OpenClaim.holds_of_wide 5 Tryd.f5 rfl rfl rfl rfl rfl rfl rfl ⟨rfl, rfl, rfl, rfl, rfl⟩ rfl rfl rfl rfl rfl (by kernel_rfl) Tryd.func5 (by kernel_rfl)
    (of_decide_eq_true (by kernel_rfl)) (by unfold Func.isWrapper; first | (rw [if_pos (by decide +kernel)]; kernel_rfl) | (rw [if_neg (by decide +kernel)]; exact ⟨rfl, rfl⟩))
    (fun os started H enc _ => lifted os started H enc)
theorem card : Rows.BinaryBackCardSaid :=
  Claim7.holds_tied_plain_at .later [] [.data] true Rows.binaryBackCard.stood.harness true
    over (fun _ h => by cases h) (by kernel_rfl) (fun _ h => by cases h) binaryBack_row_tie rfl ⟨rfl, rfl⟩ (by kernel_rfl) rfl
    (fun f fn hf hfn => by
      obtain rfl : f = 5 := Option.some.inj ((show Tryd.prog.funcNamed "soroban/sorobanlaw05.BinaryBack" = some 5 by kernel_rfl).symm.trans hf) |>.symm
      obtain rfl : fn = Tryd.f5 := (Option.some.inj (Tryd.func5.symm.trans hfn)).symm
      exact ⟨by kernel_rfl, fun j t ht => by
        rw [Tryd.params5] at ht
        have hm : t ∈ [5, 28] := by simpa using Array.mem_of_getElem? ht
        have hall : ([5, 28].all fun u => !Tryd.prog.wantsStandIn u) = true := by kernel_rfl
        exact (show Tryd.prog.wantsStandIn t = false by simpa using List.all_eq_true.1 hall t hm)⟩)
    (by kernel_rfl)
end Go.Proofs.YtacnkcojhlbkoaaDoor.binaryBack
namespace Go.Proofs.YtacnkcojhlbkoaaDoor
/-- The tied card, under a short name, for the claim. -/
theorem binaryBack_holds : Rows.BinaryBackCardSaid := binaryBack.card
end Go.Proofs.YtacnkcojhlbkoaaDoor
