/- What the law BinaryPlaces asks of numbers alone: bits, as a number, are the place. The law BinaryPlaces: for every input that its guards let in it answers true: the row, and the tied card (the one listed variable is a table of math/bits, tied to the program's text). -/
import Derived.Test.YtacnkcojhlbkoaaDoorJDzc
import Derived.Test.YtacnkcojhlbkoaaDoorJDzd
import Derived.Test.YtacnkcojhlbkoaaDoorCards
import Derived.Test.YtacnkcojhlbkoaaDoorTie
import Derived.WalkKit
import Derived.ProofKit
import Derived.OpenShut
import Derived.ShutString
import Derived.ChangeOld
import Derived.Below
import Derived.SizedLaws
import Derived.LaidMore
import Derived.Lib.LaidTab
import Derived.Stop.Joined
import Derived.SevenTiedAt
set_option linter.unusedSimpArgs false
set_option linter.unusedVariables false
set_option linter.unnecessarySimpa false
namespace Go.Proofs.YtacnkcojhlbkoaaDoor
open Go.RowKit Go.Proofs.YtacnkcojhlbkoaaDoorW.PrintWords Go.Proofs.YtacnkcojhlbkoaaDoorW.PrintLast Go.Proofs.YtacnkcojhlbkoaaDoorW.PrintMore Go.Proofs.YtacnkcojhlbkoaaDoor.NL
set_option maxRecDepth 100000
set_option exponentiation.threshold 130

theorem place_pack {f cl ex : Int} {x : Nat} (hf : isFm f = true) (h4 : f ≠ 4) (hh : fits (fmD f) (fmL f) (fmH f) cl (blen x) ex = true) (hc : ¬ (cl = 3 ∨ cl = 4)) : placeN f cl x ex = packN f cl false x ex := by
  obtain ⟨e1, e2, -, e4, e5, e6, e7⟩ := fm_nums hf
  have hfr : frontN f = oneN f := by unfold frontN oneN; rw [if_neg h4]; omega
  have hoD : (fmD f - 1).toNat = oneN f := rfl
  have hp : 2 ^ (oneN f + 1) = 2 * 2 ^ oneN f := by rw [Nat.pow_succ]; omega
  unfold placeN packN packFR fieldN fracN
  rw [if_neg (show ¬ (f = 4 ∧ _) from fun h => h4 h.1), hfr]
  unfold fits at hh
  by_cases c1 : cl = 1
  · subst c1
    rw [if_pos rfl] at hh
    simp only [Bool.and_eq_true, Bool.or_eq_true, decide_eq_true_eq] at hh
    obtain ⟨⟨⟨h1, h2⟩, h3⟩, h5⟩ := hh
    rw [if_neg (by decide), if_pos rfl, if_pos rfl]
    obtain ⟨m, hm⟩ : ∃ m : Nat, ex - fmL f = m := ⟨(ex - fmL f).toNat, by omega⟩
    have hm2 : (ex - fmL f).toNat = m := by omega
    have hm3 : (ex - fmL f + 1).toNat = m + 1 := by omega
    by_cases hz : (blen x : Int) = fmD f
    · have hz' : blen x = oneN f + 1 := by omega
      have hlo : 2 ^ oneN f ≤ x := by
        have := blen_ge (n := x) (by intro h; rw [h, blen_zero] at hz'; omega)
        rwa [hz'] at this
      have hhi : x < 2 ^ (oneN f + 1) := blen_le.1 (by omega)
      have hmod : x % 2 ^ oneN f = x - 2 ^ oneN f := by
        rw [Nat.mod_eq_sub_mod hlo, Nat.mod_eq_of_lt (by omega)]
      rw [if_pos hz, if_pos hz, hoD, hmod, hm2, hm3, Nat.succ_mul, Nat.mul_comm m]
      simp only [Bool.false_eq_true, if_false]
      omega
    · rw [if_neg hz, if_neg hz, hm2]
      have : m = 0 := by omega
      subst this
      simp
  · rw [if_neg c1] at hh
    by_cases c2 : cl = 2
    · subst c2
      rw [if_pos rfl, if_neg (by decide), if_neg (by decide), if_pos rfl]
      have hm2 : (fmH f - fmL f).toNat + 2 = lastN f := by omega
      rw [← hm2, hp, Nat.add_mul, Nat.mul_comm (2 ^ oneN f)]
      simp only [Bool.false_eq_true, if_false]
      omega
    · exfalso
      rw [if_neg c2, if_neg (fun h => hc (.inl h)), if_neg (fun h => hc (.inr h))] at hh
      simp at hh
theorem places_abs (k : Nat) {a0 hi lo f nh nl cl ex er : Int} {ng neg : Bool} {co ab : List Int} (e1 : sorobanlaw05_which.f a0 = some f) (e2 : sorobanlaw05_cut.f f hi lo = some (nh, nl)) (c0 : binary_Decode.f f nh nl = some (f, cl, ng, co, ex, 0)) (c1 : binary_Index.f f cl ng co ex = some (neg, ab, er))
    (h : er = 0 → ng = false → f ≠ 4 → ∃ mh ml N, binary_Encode.f f cl ng co ex = some (mh, ml, 0) ∧ sorobanref05_Nat.f mh ml = some N ∧ sorobanref01_Same.f ab N = some true ∧ neg = false) :
    XBinaryPlaces.sorobanlaw05_BinaryPlaces.f (k + 1) a0 hi lo = some true := by
  have c6 : sorobanlaw05_sanity.f = some true := rfl
  have t : XBinaryPlaces.sorobanlaw05_BinaryPlaces.j0 (k + 1) true f cl ng co ex neg ab = some true := by
    simp only [XBinaryPlaces.sorobanlaw05_BinaryPlaces.j0, c6, Option.bind_some, if_true]
  simp only [XBinaryPlaces.sorobanlaw05_BinaryPlaces.f, e1, e2, c0, c1, Option.bind_some]
  by_cases h0 : er = 0
  · rw [if_pos h0]
    cases ng with
    | true => rw [if_pos rfl]; exact t
    | false =>
      rw [if_neg (by simp)]
      by_cases h4 : f = 4
      · rw [show (f == 4) = true by simp [h4]]; exact t
      · rw [show (f == 4) = false by simp [h4]]
        obtain ⟨mh, ml, N, g1, g2, g3, g4⟩ := h h0 rfl h4
        simp only [XBinaryPlaces.sorobanlaw05_BinaryPlaces.j0, g1, g2, g3, g4, c6, Option.bind_some, Bool.false_eq_true, if_false, if_true, Bool.not_false]
  · rw [if_neg h0]; exact t
theorem binaryPlaces_pure (k : Nat) (a0 hi lo : Int) (h0 : 0 ≤ a0 ∧ a0 ≤ 255) (h1 : u64B hi = true) (h2 : u64B lo = true) : XBinaryPlaces.sorobanlaw05_BinaryPlaces.f (k + 1) a0 hi lo = some true := by
  obtain ⟨f, e1, hf⟩ := which_f h0
  obtain ⟨N, hN, e2⟩ := cut_f hf h1 h2
  have hx := dec_128 hf N
  have hh := (dec_ok hf N).1
  have c0 := decode_f hf hN
  have hok := datOk_f hf hx hh
  generalize decNeg f N = ng at *
  generalize (decN f N).1 = cl at *
  generalize (decN f N).2.1 = x at *
  generalize (decN f N).2.2 = ex at *
  have hi : binary_Index.f f cl ng (ofN x) ex = some (if cl = 3 ∨ cl = 4 then (false, [], 5) else (ng && decide (0 < placeN f cl x ex), ofN (placeN f cl x ex), 0)) := by
    unfold binary_Index.f indexR
    rw [u32L_ofN, if_pos rfl, hok, if_neg (by simp), val_ofN]
  by_cases hc : cl = 3 ∨ cl = 4
  · rw [if_pos hc] at hi
    exact places_abs k e1 e2 c0 hi (fun h => absurd h (by decide))
  · rw [if_neg hc] at hi
    refine places_abs k e1 e2 c0 hi fun _ hng h4 => ?_
    subst hng
    obtain ⟨-, -, d3⟩ := dec_pack (ng := false) hf hh
    have hE := encode_f (ng := false) hf hx hh
    have hM := lt_128 hf d3
    have hpp := place_pack hf h4 hh hc
    generalize packN f cl false x ex = M at *
    refine ⟨_, _, ofN M, hE, ?_, ?_, rfl⟩
    · unfold sorobanref05_Nat.f
      rw [u64_hi hM, u64_lo, raw_words]; rfl
    · unfold sorobanref01_Same.f
      have := ofN_len hM
      rw [hpp, if_pos (by omega), decide_eq_true rfl]
/-- The law's walk: it answers true. -/
theorem binaryPlaces_walk (a0 a1_0 a1_1 : Int) (W : World) (w0 : (Lit.int .u8 a0).wf = true) (w1 : (Lit.int .u64 a1_0).wf = true) (w2 : (Lit.int .u64 a1_1).wf = true) (hT : Tab W) :
    Calls Tryd.prog 4 #[.int .u8 a0, .agg #[.int .u64 a1_0, .int .u64 a1_1]] W fun e w' => e = .returned (.bool true) ∧ Below W.heap.size W w' := by
  simp [Lit.wf, IntKind.min, IntKind.max, IntKind.signed, IntKind.bits] at w0 w1 w2
  exact XBinaryPlaces.sorobanlaw05_BinaryPlaces.calls 1 a0 a1_0 a1_1 true W (binaryPlaces_pure 0 a0 a1_0 a1_1 (by omega) (by simp only [u64B, decide_eq_true_eq]; omega) (by simp only [u64B, decide_eq_true_eq]; omega)) hT
end Go.Proofs.YtacnkcojhlbkoaaDoor

set_option linter.unusedSimpArgs false
set_option linter.unusedVariables false
set_option linter.unnecessarySimpa false
namespace Go.Proofs.YtacnkcojhlbkoaaDoor.binaryPlaces
open Go.ChangeShapes Go.WideShapes Go.ChangeAt Go.RowKit Go.Proofs.YtacnkcojhlbkoaaDoor Go.Proofs.YtacnkcojhlbkoaaDoorW.PrintWords Go.Proofs.YtacnkcojhlbkoaaDoorW.PrintLast Go.Proofs.YtacnkcojhlbkoaaDoorW.PrintMore Go.Proofs.YtacnkcojhlbkoaaDoor.NL
set_option maxRecDepth 100000
theorem own : ownKnob Tryd.prog.godebug = none := by kernel_rfl
theorem laidOut : laidOutB Tryd.prog = true := by kernel_rfl
theorem gTab : Tryd.prog.globalNamed "math/bits.deBruijn32tab" = some 0 := by kernel_rfl
theorem tTab : (Tryd.prog.globals[0]?).map (·.type) = some 164 := by kernel_rfl
theorem door_met (os : Os) (args : Array Value) : laidMetH Tryd.prog [("math/bits.deBruijn32tab", Rows.laid_math_bits_deBruijn32tab)] ((World.doorLaid Tryd.prog 14 os).forCall (fun _ _ => 0) ⟨#[], args, []⟩).memory :=
  laidMetH_of_parts3 (fuel := 8) (laidMet_of_run' 8 (by kernel_rfl) (by kernel_rfl)) (by kernel_rfl) (by kernel_rfl)
theorem tab_of {W : World} (h : laidMetH Tryd.prog [("math/bits.deBruijn32tab", Rows.laid_math_bits_deBruijn32tab)] W) : Tab W := by
  rw [MakeChecks.laidMetH_plain _ _ _ (by kernel_rfl)] at h
  have hT := Lib.tabIs_of_head (k := .u8) (zs := Lib.deBruijn32tab.map Int.ofNat) gTab tTab Tryd.underlying164 Tryd.underlying5 (by kernel_rfl) (by kernel_rfl) h
  intro j hj
  have h1 := hT.cell gTab j (by simpa using hj)
  rw [h1]
  congr 2
  rw [List.getD_eq_getElem?_getD, List.getElem?_map, List.getD_eq_getElem?_getD]
  cases Lib.deBruijn32tab[j]? <;> rfl
theorem open_raw {H : Type} {enc : TypeId × Value → H} {W : World} {base b0 : Nat} {sp : Nat → Bool} {held : Bool} {v : Value} {d : DataW H} {p : List MemPlace} (hv : Value.okWide Tryd.prog W .any b0 28 v) (hd : DataW.Trod enc Tryd.prog W base sp held 28 v d p) :
    ∃ a b : Int, v = .agg #[.int .u64 a, .int .u64 b] ∧ (Lit.int .u64 a).wf = true ∧ (Lit.int .u64 b).wf = true := by
  obtain ⟨cs, rfl, hsz⟩ := okWide_struct Tryd.underlying28 hv
  have hc : Tryd.prog.cellsOf 28 = 2 := by kernel_rfl
  have hc1 : Tryd.prog.cellsOf 26 = 1 := by kernel_rfl
  rw [hc] at hsz
  obtain ⟨l⟩ := cs
  obtain ⟨c0, c1, rfl⟩ : ∃ c0 c1, l = [c0, c1] := by
    match l, hsz with
    | [c0, c1], _ => exact ⟨c0, c1, rfl⟩
  obtain ⟨fuel, hf⟩ := hd
  obtain ⟨y0, y1, m, -, -, hy0, hy1⟩ := trod_struct2 Tryd.underlying28 hf
  obtain ⟨a, e0, -, wa⟩ := DataW.trod_int Tryd.underlying26 hy0
  obtain ⟨b, e1, -, wb⟩ := DataW.trod_int Tryd.underlying26 hy1
  rw [hc1] at e0 e1
  simp [Value.cells] at e0 e1
  subst e0 e1
  exact ⟨a, b, rfl, wa, wb⟩
set_option maxHeartbeats 4000000 in
theorem lifted (os : Os) (started : os.Started) (H : Type) (enc : TypeId × Value → H) :
    ReturnsInHanded {} Tryd.checked os 4 .any (fun w args => (Rows.binaryPlacesSpec.pre enc Tryd.prog Tryd.f4 [] false w args ∧ laidMetH Tryd.prog [("math/bits.deBruijn32tab", Rows.laid_math_bits_deBruijn32tab)] w) ∧ sizedMet enc Tryd.prog Tryd.f4 (OpenSpec.ofChange Rows.binaryPlacesSpec) false w args)
      (Rows.binaryPlacesSpec.post enc Tryd.prog Tryd.f4 false true false false) := by
  refine returnsInHanded_of_change_and (C := Tryd.checked) (X := fun w _ => laidMetH Tryd.prog [("math/bits.deBruijn32tab", Rows.laid_math_bits_deBruijn32tab)] w) (fun _ _ _ hh h => h.of_heap hh) own started (by kernel_rfl) Tryd.func4
    (ChangeSpec.witness_shaped (enc := enc) (C := Tryd.checked) (os := os) (X := fun w _ => laidMetH Tryd.prog [("math/bits.deBruijn32tab", Rows.laid_math_bits_deBruijn32tab)] w) false (World.doorLaid Tryd.prog 14 os) #[.int .u8 0, .agg #[.int .u64 0, .int .u64 0]] 8 rfl (World.shaped_of_RefB (by kernel_rfl) (by kernel_rfl)) (by kernel_rfl) (by kernel_rfl) (by kernel_rfl) (door_met os _)) ?_
  intro W base args ds gs before hval0 hW _ hszq hL _
  have hval : ∀ (j : Nat) t v, Tryd.f4.params[j]? = some t → args[j]? = some v → Value.okWide Tryd.prog W .any base t v := hval0
  have hW' := hW
  obtain ⟨p, q, hA0, hV, rfl, hfz, hnd⟩ := hW
  have hA : DataW.TrodAll enc Tryd.prog W 0 (fun _ => true) true Tryd.f4.params.toList args.toList ds p := hA0
  rw [Tryd.params4] at hA hval
  obtain ⟨v0, vs0, d0, ds0, p0, q0, hargs, rfl, rfl, h0, r0⟩ := trodAll_cons hA
  obtain ⟨v1, vs1, d1, ds1, p1, q1, rfl, rfl, rfl, h1, r1⟩ := trodAll_cons r0
  obtain ⟨rfl, rfl, rfl⟩ := trodAll_nil r1
  obtain rfl : args = #[v0, v1] := by cases args; simp_all
  obtain ⟨rfl, rfl⟩ := trodVars_none hV
  obtain ⟨a0, rfl, rfl, rfl, w0⟩ := open_int Tryd.underlying5 (hval 0 5 v0 rfl rfl) h0
  have k1 := h1
  have lt1 : ∀ x ∈ p1, x.block < W.heap.size := by obtain ⟨m, hm⟩ := k1; exact DataW.trod_lt m _ _ _ hm
  obtain ⟨a1_0, a1_1, rfl, w1_0, w1_1⟩ := open_raw (hval 1 28 v1 rfl rfl) h1
  clear hA0 hval0
  have hT := tab_of hL
  refine (binaryPlaces_walk a0 a1_0 a1_1 W w0 w1_0 w1_1 hT).mono fun e W' ⟨he, bel⟩ => ?_
  subst he
  exact ⟨_, rfl, _, _, _, [], _, [], hW', trodAll_mk1 (shut_bool Tryd.underlying4 _), (trodAll_cons_mk (shut_int Tryd.underlying5 w0) (trodAll_cons_mk (Below.trod laidOut (by kernel_rfl) (of_decide_eq_true (by kernel_rfl)) k1 bel lt1) trodAll_mk0)), rfl, bel.frame _, fun h => by cases h⟩
theorem over : Rows.binaryPlacesRow.holds Tryd.pinned (OpenSpec.ofChange Rows.binaryPlacesSpec) :=
  OpenClaim.holds_of_wide 4 Tryd.f4 rfl rfl rfl rfl rfl rfl rfl ⟨rfl, rfl, rfl, rfl, rfl⟩ rfl rfl rfl rfl rfl (by kernel_rfl) Tryd.func4 (by kernel_rfl)
    (of_decide_eq_true (by kernel_rfl)) (by unfold Func.isWrapper; first | (rw [if_pos (by decide +kernel)]; kernel_rfl) | (rw [if_neg (by decide +kernel)]; exact ⟨rfl, rfl⟩))
    (fun os started H enc _ => lifted os started H enc)
theorem card : Rows.BinaryPlacesCardSaid :=
  Claim7.holds_tied_plain_at .later [] [.data] true Rows.binaryPlacesCard.stood.harness true
    over (fun _ h => by cases h) (by kernel_rfl) (fun _ h => by cases h) binaryPlaces_row_tie rfl ⟨rfl, rfl⟩ (by kernel_rfl) rfl
    (fun f fn hf hfn => by
      obtain rfl : f = 4 := Option.some.inj ((show Tryd.prog.funcNamed "soroban/sorobanlaw05.BinaryPlaces" = some 4 by kernel_rfl).symm.trans hf) |>.symm
      obtain rfl : fn = Tryd.f4 := (Option.some.inj (Tryd.func4.symm.trans hfn)).symm
      exact ⟨by kernel_rfl, fun j t ht => by
        rw [Tryd.params4] at ht
        have hm : t ∈ [5, 28] := by simpa using Array.mem_of_getElem? ht
        have hall : ([5, 28].all fun u => !Tryd.prog.wantsStandIn u) = true := by kernel_rfl
        exact (show Tryd.prog.wantsStandIn t = false by simpa using List.all_eq_true.1 hall t hm)⟩)
    (by kernel_rfl)
end Go.Proofs.YtacnkcojhlbkoaaDoor.binaryPlaces
namespace Go.Proofs.YtacnkcojhlbkoaaDoor
/-- The tied card, under a short name, for the claim. -/
theorem binaryPlaces_holds : Rows.BinaryPlacesCardSaid := binaryPlaces.card
end Go.Proofs.YtacnkcojhlbkoaaDoor
