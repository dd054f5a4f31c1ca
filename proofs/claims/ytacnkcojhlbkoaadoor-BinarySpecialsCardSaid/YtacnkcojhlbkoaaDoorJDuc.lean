/- What the law BinarySpecials asks of numbers alone: NaNs and their payloads. The law BinarySpecials: for every input that its guards let in it answers true: the row, and the tied card (the one listed variable is a table of math/bits, tied to the program's text). -/
import Derived.Test.YtacnkcojhlbkoaaDoorJD19
import Derived.Test.YtacnkcojhlbkoaaDoorJDub
import Derived.Test.YtacnkcojhlbkoaaDoorCards
import Derived.Test.YtacnkcojhlbkoaaDoorTie
import Derived.WalkKit
import Derived.ProofKit
import Derived.OpenShut
import Derived.ShutString
import Derived.ChangeOld
import Derived.Below
import Derived.SizedLaws
import Derived.LaidMore
import Derived.Lib.LaidTab
import Derived.Stop.Joined
import Derived.SevenTiedAt
set_option linter.unusedSimpArgs false
set_option linter.unusedVariables false
set_option linter.unnecessarySimpa false
namespace Go.Proofs.YtacnkcojhlbkoaaDoor
open Go.RowKit Go.Proofs.YtacnkcojhlbkoaaDoorW.PrintWords Go.Proofs.YtacnkcojhlbkoaaDoorW.PrintLast Go.Proofs.YtacnkcojhlbkoaaDoorW.PrintMore Go.Proofs.YtacnkcojhlbkoaaDoor.NL
set_option maxRecDepth 100000
set_option exponentiation.threshold 130

theorem sp_light (k : Nat) {a0 f : Int} {a1 a2 : Bool} {l3 l4 : List Int} (e1 : sorobanlaw05_which.f a0 = some f) (hl : light2 l3 l4 = some false) : XBinarySpecials.sorobanlaw05_BinarySpecials.f (k + 3) a0 a1 a2 l3 l4 = some true := by
  have c6 : sorobanlaw05_sanity.f = some true := rfl
  simp only [XBinarySpecials.sorobanlaw05_BinarySpecials.f, e1, hl, c6, Option.bind_some, Bool.false_eq_true, if_false]
theorem sp_no (k : Nat) {a0 f cl n er D E L H W s1 s2 s5 : Int} {a1 a2 s3 : Bool} {l3 l4 s4 : List Int} (e1 : sorobanlaw05_which.f a0 = some f) (hl : light2 l3 l4 = some true) (hc : cl = if a1 = true then 4 else 3) (hS : binary_Special.f f cl a2 l3 = some (s1, s2, s3, s4, s5, 1)) (hF : binary_Format.f f = some (D, E, L, H, W, 0)) (hB : nat_Bits.f l3 = some (n, er))
    (hno : er ≠ 0 ∨ ¬ n ≤ wrap64 (D - 2) ∨ (¬ n > 0 ∧ a1 = true)) : XBinarySpecials.sorobanlaw05_BinarySpecials.f (k + 3) a0 a1 a2 l3 l4 = some true := by
  have c6 : sorobanlaw05_sanity.f = some true := rfl
  have key : ∀ s, XBinarySpecials.sorobanlaw05_BinarySpecials.j1 (k + 2) a2 l3 l4 f cl 1 false s1 s2 s3 s4 s5 = s → s = some true := by
    intro s hs
    rw [← hs]
    simp only [XBinarySpecials.sorobanlaw05_BinarySpecials.j1, c6, Option.bind_some, Bool.false_eq_true, if_false, if_true, beq_self_eq_true]
  have kj := key _ rfl
  have h0 : XBinarySpecials.sorobanlaw05_BinarySpecials.j0 (k + 3) a1 a2 l3 l4 f cl = some true := by
    simp only [XBinarySpecials.sorobanlaw05_BinarySpecials.j0, hS, hF, hB, Option.bind_some, if_true]
    by_cases h1 : er = 0
    · rw [if_pos h1]
      by_cases h2 : n ≤ wrap64 (D - 2)
      · rw [if_pos h2]
        obtain ⟨h3, h4⟩ := (hno.resolve_left (fun h => h h1)).resolve_left (fun h => h h2)
        subst h4
        rw [if_neg h3]
        exact kj
      · rw [if_neg h2]; exact kj
    · rw [if_neg h1]; exact kj
  cases a1 with
  | true =>
    rw [if_pos rfl] at hc
    subst hc
    simp only [XBinarySpecials.sorobanlaw05_BinarySpecials.f, e1, hl, Option.bind_some, if_true]
    exact h0
  | false =>
    rw [if_neg (by simp)] at hc
    subst hc
    simp only [XBinarySpecials.sorobanlaw05_BinarySpecials.f, e1, hl, Option.bind_some, if_true, Bool.false_eq_true, if_false]
    exact h0
theorem sp_yes (k : Nat) {a0 f cl n D E L H W mh ml o1 o2 o5 oe p q pe : Int} {a1 a2 o3 t : Bool} {l3 l4 o4 : List Int} (e1 : sorobanlaw05_which.f a0 = some f) (hl : light2 l3 l4 = some true) (hc : cl = if a1 = true then 4 else 3) (hS : binary_Special.f f cl a2 l3 = some (f, cl, a2, l3, 0, 0)) (hF : binary_Format.f f = some (D, E, L, H, W, 0)) (hB : nat_Bits.f l3 = some (n, 0))
    (h2 : n ≤ wrap64 (D - 2)) (h3 : n > 0 ∨ a1 = false) (hE : binary_Encode.f f cl a2 l3 0 = some (mh, ml, 0)) (hD : binary_Decode.f f mh ml = some (f, cl, a2, l3, 0, 0)) (h7 : sorobanref05_Same.f f cl a2 l3 0 f cl a2 l3 0 = some true)
    (hO : binary_Special.f f cl a2 l4 = some (o1, o2, o3, o4, o5, oe)) (hP : binary_Encode.f o1 o2 o3 o4 o5 = some (p, q, pe)) (h8 : sorobanref01_Same.f l3 l4 = some t) (hq : oe = 0 → pe = 0 ∧ ((mh == p && (ml == q)) == t) = true) : XBinarySpecials.sorobanlaw05_BinarySpecials.f (k + 3) a0 a1 a2 l3 l4 = some true := by
  have c6 : sorobanlaw05_sanity.f = some true := rfl
  have k2 : XBinarySpecials.sorobanlaw05_BinarySpecials.j2 (k + 1) a2 l3 l4 f cl false mh ml = some true := by
    simp only [XBinarySpecials.sorobanlaw05_BinarySpecials.j2, hO, hP, c6, Option.bind_some, Bool.false_eq_true, if_false, if_true]
    by_cases h : oe = 0
    · obtain ⟨g1, g2⟩ := hq h
      rw [if_pos h, if_pos g1, h8]
      simp only [Option.bind_some, g2]
    · rw [if_neg h]
  have k1 : XBinarySpecials.sorobanlaw05_BinarySpecials.j1 (k + 2) a2 l3 l4 f cl 0 true f cl a2 l3 0 = some true := by
    simp only [XBinarySpecials.sorobanlaw05_BinarySpecials.j1, hE, hD, h7, Option.bind_some, if_true, Bool.not_true]
    exact k2
  have h0 : XBinarySpecials.sorobanlaw05_BinarySpecials.j0 (k + 3) a1 a2 l3 l4 f cl = some true := by
    simp only [XBinarySpecials.sorobanlaw05_BinarySpecials.j0, hS, hF, hB, Option.bind_some, if_true]
    rw [if_pos h2]
    by_cases h : n > 0
    · rw [if_pos h]; exact k1
    · rw [if_neg h, h3.resolve_left h]; exact k1
  cases a1 with
  | true =>
    rw [if_pos rfl] at hc
    subst hc
    simp only [XBinarySpecials.sorobanlaw05_BinarySpecials.f, e1, hl, Option.bind_some, if_true]
    exact h0
  | false =>
    rw [if_neg (by simp)] at hc
    subst hc
    simp only [XBinarySpecials.sorobanlaw05_BinarySpecials.f, e1, hl, Option.bind_some, if_true, Bool.false_eq_true, if_false]
    exact h0
theorem special_f {f cl : Int} {ng : Bool} {l : List Int} (hl : Lim l) (hn : l.length ≤ 1100) : binary_Special.f f cl ng l = some (specialR f cl ng l) := by
  unfold binary_Special.f
  rw [u32L_mk hl, decide_eq_true (by omega)]; rfl
theorem nan_has {f cl : Int} {l : List Int} (hc : cl = 3 ∨ cl = 4) : hasB f cl l 0 = (okN l && (decide ((blen (val l) : Int) ≤ fmD f - 2) && (decide ((0 : Int) < (blen (val l) : Nat)) || decide (cl = 3)))) := by
  unfold hasB fits
  rcases hc with rfl | rfl
  · simp
  · simp [Bool.and_comm]
theorem binarySpecials_pure (k : Nat) (a0 : Int) (a1 a2 : Bool) (l3 l4 : List Int) (h0 : 0 ≤ a0 ∧ a0 ≤ 255) (h3 : Lim l3) (h4 : Lim l4) (m3 : l3.length ≤ maxLen) (m4 : l4.length ≤ maxLen) : XBinarySpecials.sorobanlaw05_BinarySpecials.f (k + 3) a0 a1 a2 l3 l4 = some true := by
  obtain ⟨f, e1, hf⟩ := which_f h0
  have hl : light2 l3 l4 = some (decide (l3.length ≤ 1100 ∧ l4.length ≤ 1100)) := by
    unfold light2
    have : maxLen = 9223372036854775807 := rfl
    rw [if_pos ⟨by omega, by omega⟩]
  by_cases hs : l3.length ≤ 1100 ∧ l4.length ≤ 1100
  · rw [decide_eq_true hs] at hl
    obtain ⟨cl, hc⟩ : ∃ cl : Int, cl = if a1 = true then 4 else 3 := ⟨_, rfl⟩
    have hc34 : cl = 3 ∨ cl = 4 := by cases a1 <;> simp at hc <;> omega
    obtain ⟨d1, d2⟩ := D_bd2 f
    have hF : binary_Format.f f = some (fmD f, fmE f, fmL f, fmH f, fmW f, 0) := by unfold binary_Format.f formatR; rw [if_pos hf]
    have hw : wrap64 (fmD f - 2) = fmD f - 2 := by unfold wrap64; omega
    have hS := special_f (f := f) (cl := cl) (ng := a2) h3 hs.1
    have hO := special_f (f := f) (cl := cl) (ng := a2) h4 hs.2
    have hB : nat_Bits.f l3 = some (natBits l3) := by unfold nat_Bits.f; rw [if_pos (u32L_mk h3)]
    unfold natBits at hB
    unfold specialR at hS
    by_cases hh : hasB f cl l3 0 = true
    · have hh2 := hh
      rw [if_pos ⟨hf, by omega, hh⟩] at hS
      rw [nan_has hc34] at hh2
      simp only [Bool.and_eq_true, Bool.or_eq_true, decide_eq_true_eq] at hh2
      obtain ⟨ho, g1, g2⟩ := hh2
      rw [if_pos ho] at hB
      have hx : val l3 < W128 := Nat.lt_of_lt_of_le (lt_blen _) (Nat.le_trans (Nat.pow_le_pow_right (by omega) (show blen (val l3) ≤ 128 by omega)) (by decide))
      have e3 : ofN (val l3) = l3 := ofN_val h3 (okN_iff.1 ho).2
      have hfit : fits (fmD f) (fmL f) (fmH f) cl (blen (val l3)) 0 = true := by rw [← hasB_ofN hx, e3]; exact hh
      obtain ⟨p1, p2, p3⟩ := dec_pack (ng := a2) hf hfit
      have hE := encode_f (ng := a2) hf hx hfit
      have hD := decode_f hf p3
      rw [p1, p2] at hD
      rw [e3] at hE hD
      have h7 : sorobanref05_Same.f f cl a2 l3 0 f cl a2 l3 0 = some true := by
        unfold sorobanref05_Same.f
        rw [if_pos (by omega), decide_eq_true ⟨rfl, rfl, rfl, rfl, rfl⟩]
      have h8 : sorobanref01_Same.f l3 l4 = some (decide (l3 = l4)) := by unfold sorobanref01_Same.f; rw [if_pos (by omega)]
      have g3 : ((blen (val l3) : Nat) : Int) > 0 ∨ a1 = false := by
        rcases g2 with g2 | g2
        · exact .inl g2
        · cases a1 with
          | false => exact .inr rfl
          | true => simp at hc; omega
      unfold specialR at hO
      by_cases hk : hasB f cl l4 0 = true
      · have hk2 := hk
        rw [if_pos ⟨hf, by omega, hk⟩] at hO
        rw [nan_has hc34] at hk2
        simp only [Bool.and_eq_true, Bool.or_eq_true, decide_eq_true_eq] at hk2
        obtain ⟨ho4, q1, q2⟩ := hk2
        have hx4 : val l4 < W128 := Nat.lt_of_lt_of_le (lt_blen _) (Nat.le_trans (Nat.pow_le_pow_right (by omega) (show blen (val l4) ≤ 128 by omega)) (by decide))
        have e4 : ofN (val l4) = l4 := ofN_val h4 (okN_iff.1 ho4).2
        have hfit4 : fits (fmD f) (fmL f) (fmH f) cl (blen (val l4)) 0 = true := by rw [← hasB_ofN hx4, e4]; exact hk
        obtain ⟨r1, r2, r3⟩ := dec_pack (ng := a2) hf hfit4
        have hE4 := encode_f (ng := a2) hf hx4 hfit4
        rw [e4] at hE4
        refine sp_yes k e1 hl hc hS hF hB (by rw [hw]; exact g1) g3 hE hD h7 hO hE4 h8 (fun _ => ⟨rfl, ?_⟩)
        rw [words_inj, beq_iff_eq, decide_eq_decide]
        constructor
        · intro h
          rw [h, r1] at p1
          have : val l4 = val l3 := congrArg (fun t : Int × Nat × Int => t.2.1) p1
          rw [← e3, ← e4, this]
        · intro h; rw [h]
      · rw [if_neg (fun h => hk h.2.2)] at hO
        obtain ⟨x, hx0⟩ : ∃ x, binary_Encode.f 0 0 false [] 0 = some x := by
          unfold binary_Encode.f
          rw [if_pos (show u32L [] = true from rfl)]
          exact ⟨_, rfl⟩
        obtain ⟨p, q, pe⟩ := x
        exact sp_yes k e1 hl hc hS hF hB (by rw [hw]; exact g1) g3 hE hD h7 hO hx0 h8 (fun h => absurd h (by decide))
    · rw [if_neg (fun h => hh h.2.2)] at hS
      refine sp_no k e1 hl hc hS hF (n := if okN l3 then ((blen (val l3) : Nat) : Int) else 0) (er := if okN l3 then 0 else 1) (by rw [hB]; cases okN l3 <;> rfl) ?_
      rw [nan_has hc34] at hh
      rw [hw]
      cases ho : okN l3 with
      | false => exact .inl (by decide)
      | true =>
        rw [ho] at hh
        simp only [Bool.true_and, Bool.and_eq_true, Bool.or_eq_true, decide_eq_true_eq] at hh
        simp only [if_true]
        by_cases g1 : ((blen (val l3) : Nat) : Int) ≤ fmD f - 2
        · right; right
          refine ⟨fun h => hh ⟨g1, .inl h⟩, ?_⟩
          cases a1 with
          | true => rfl
          | false => simp at hc; exact absurd ⟨g1, .inr hc⟩ hh
        · exact .inr (.inl g1)
  · rw [decide_eq_false hs] at hl
    exact sp_light k e1 hl
/-- The law's walk: it answers true. -/
theorem binarySpecials_walk (a0 : Int) (a1 a2 : Bool) (A3 : Option Addr) (c3 : Nat) (l3 : List Int) (A4 : Option Addr) (c4 : Nat) (l4 : List Int) (W : World) (w0 : (Lit.int .u8 a0).wf = true) (hR3 : Kd.C (Kd.int .u32) W A3 l3.length l3) (hC3 : l3.length ≤ c3) (hL3 : Lim l3) (m3 : l3.length ≤ maxLen) (hR4 : Kd.C (Kd.int .u32) W A4 l4.length l4) (hC4 : l4.length ≤ c4) (hL4 : Lim l4) (m4 : l4.length ≤ maxLen) (hT : Tab W) :
    Calls Tryd.prog 6 #[.int .u8 a0, .bool a1, .bool a2, .slice A3 l3.length c3, .slice A4 l4.length c4] W fun e w' => e = .returned (.bool true) ∧ Below W.heap.size W w' := by
  simp [Lit.wf, IntKind.min, IntKind.max, IntKind.signed, IntKind.bits] at w0
  exact XBinarySpecials.sorobanlaw05_BinarySpecials.calls 3 a0 a1 a2 A3 c3 l3 A4 c4 l4 true W hR3 hC3 hR4 hC4 (binarySpecials_pure 0 a0 a1 a2 l3 l4 (by omega) hL3 hL4 m3 m4) hT
end Go.Proofs.YtacnkcojhlbkoaaDoor

set_option linter.unusedSimpArgs false
set_option linter.unusedVariables false
set_option linter.unnecessarySimpa false
namespace Go.Proofs.YtacnkcojhlbkoaaDoor.binarySpecials
open Go.ChangeShapes Go.WideShapes Go.ChangeAt Go.RowKit Go.Proofs.YtacnkcojhlbkoaaDoor Go.Proofs.YtacnkcojhlbkoaaDoorW.PrintWords Go.Proofs.YtacnkcojhlbkoaaDoorW.PrintLast Go.Proofs.YtacnkcojhlbkoaaDoorW.PrintMore Go.Proofs.YtacnkcojhlbkoaaDoor.NL
set_option maxRecDepth 100000
theorem own : ownKnob Tryd.prog.godebug = none := by kernel_rfl
theorem laidOut : laidOutB Tryd.prog = true := by kernel_rfl
theorem gTab : Tryd.prog.globalNamed "math/bits.deBruijn32tab" = some 0 := by kernel_rfl
theorem tTab : (Tryd.prog.globals[0]?).map (·.type) = some 164 := by kernel_rfl
theorem door_met (os : Os) (args : Array Value) : laidMetH Tryd.prog [("math/bits.deBruijn32tab", Rows.laid_math_bits_deBruijn32tab)] ((World.doorLaid Tryd.prog 14 os).forCall (fun _ _ => 0) ⟨#[], args, []⟩).memory :=
  laidMetH_of_parts3 (fuel := 8) (laidMet_of_run' 8 (by kernel_rfl) (by kernel_rfl)) (by kernel_rfl) (by kernel_rfl)
theorem tab_of {W : World} (h : laidMetH Tryd.prog [("math/bits.deBruijn32tab", Rows.laid_math_bits_deBruijn32tab)] W) : Tab W := by
  rw [MakeChecks.laidMetH_plain _ _ _ (by kernel_rfl)] at h
  have hT := Lib.tabIs_of_head (k := .u8) (zs := Lib.deBruijn32tab.map Int.ofNat) gTab tTab Tryd.underlying164 Tryd.underlying5 (by kernel_rfl) (by kernel_rfl) h
  intro j hj
  have h1 := hT.cell gTab j (by simpa using hj)
  rw [h1]
  congr 2
  rw [List.getD_eq_getElem?_getD, List.getElem?_map, List.getD_eq_getElem?_getD]
  cases Lib.deBruijn32tab[j]? <;> rfl
set_option maxHeartbeats 4000000 in
theorem lifted (os : Os) (started : os.Started) (H : Type) (enc : TypeId × Value → H) :
    ReturnsInHanded {} Tryd.checked os 6 .any (fun w args => (Rows.binarySpecialsSpec.pre enc Tryd.prog Tryd.f6 [] false w args ∧ laidMetH Tryd.prog [("math/bits.deBruijn32tab", Rows.laid_math_bits_deBruijn32tab)] w) ∧ sizedMet enc Tryd.prog Tryd.f6 (OpenSpec.ofChange Rows.binarySpecialsSpec) false w args)
      (Rows.binarySpecialsSpec.post enc Tryd.prog Tryd.f6 false true false false) := by
  refine returnsInHanded_of_change_and (C := Tryd.checked) (X := fun w _ => laidMetH Tryd.prog [("math/bits.deBruijn32tab", Rows.laid_math_bits_deBruijn32tab)] w) (fun _ _ _ hh h => h.of_heap hh) own started (by kernel_rfl) Tryd.func6
    (ChangeSpec.witness_shaped (enc := enc) (C := Tryd.checked) (os := os) (X := fun w _ => laidMetH Tryd.prog [("math/bits.deBruijn32tab", Rows.laid_math_bits_deBruijn32tab)] w) false (World.doorLaid Tryd.prog 14 os) #[.int .u8 0, .bool false, .bool false, .slice none 0 0, .slice none 0 0] 8 rfl (World.shaped_of_RefB (by kernel_rfl) (by kernel_rfl)) (by kernel_rfl) (by kernel_rfl) (by kernel_rfl) (door_met os _)) ?_
  intro W base args ds gs before hval0 hW _ hszq hL _
  have hval : ∀ (j : Nat) t v, Tryd.f6.params[j]? = some t → args[j]? = some v → Value.okWide Tryd.prog W .any base t v := hval0
  have hW' := hW
  obtain ⟨p, q, hA0, hV, rfl, hfz, hnd⟩ := hW
  have hA : DataW.TrodAll enc Tryd.prog W 0 (fun _ => true) true Tryd.f6.params.toList args.toList ds p := hA0
  rw [Tryd.params6] at hA hval
  obtain ⟨v0, vs0, d0, ds0, p0, q0, hargs, rfl, rfl, h0, r0⟩ := trodAll_cons hA
  obtain ⟨v1, vs1, d1, ds1, p1, q1, rfl, rfl, rfl, h1, r1⟩ := trodAll_cons r0
  obtain ⟨v2, vs2, d2, ds2, p2, q2, rfl, rfl, rfl, h2, r2⟩ := trodAll_cons r1
  obtain ⟨v3, vs3, d3, ds3, p3, q3, rfl, rfl, rfl, h3, r3⟩ := trodAll_cons r2
  obtain ⟨v4, vs4, d4, ds4, p4, q4, rfl, rfl, rfl, h4, r4⟩ := trodAll_cons r3
  obtain ⟨rfl, rfl, rfl⟩ := trodAll_nil r4
  obtain rfl : args = #[v0, v1, v2, v3, v4] := by cases args; simp_all
  obtain ⟨rfl, rfl⟩ := trodVars_none hV
  obtain ⟨a0, rfl, rfl, rfl, w0⟩ := open_int Tryd.underlying5 (hval 0 5 v0 rfl rfl) h0
  obtain ⟨a1, rfl, rfl, rfl⟩ := open_bool Tryd.underlying4 (hval 1 4 v1 rfl rfl) h1
  obtain ⟨a2, rfl, rfl, rfl⟩ := open_bool Tryd.underlying4 (hval 2 4 v2 rfl rfl) h2
  obtain ⟨a3, len3, cap3, rfl⟩ := okWide_slice Tryd.underlying23 (hval 3 23 v3 rfl rfl)
  have k3 := h3
  have lt3 : ∀ x ∈ p3, x.block < W.heap.size := by obtain ⟨m, hm⟩ := k3; exact DataW.trod_lt m _ _ _ hm
  obtain ⟨z3, w3⟩ : ∃ zs, IsRow .u32 W a3 len3 cap3 zs := by
    obtain ⟨fuel, hf⟩ := h3
    rcases open_ints Tryd.underlying23 Tryd.underlying77 (by kernel_rfl) hf with ⟨hcs, _⟩ | ⟨x, l, c, zs, hcs, _, hl, hm, hz, _, hcell, hwz⟩
    · simp [Value.cells] at hcs
      obtain ⟨rfl, rfl, rfl⟩ := hcs
      exact ⟨[], .inl ⟨rfl, rfl, rfl, rfl⟩⟩
    · simp [Value.cells] at hcs
      obtain ⟨rfl, rfl, rfl⟩ := hcs
      exact ⟨zs, .inr ⟨_, rfl, hl, hm, by simpa using hz, hcell, hwz⟩⟩
  obtain ⟨l3, rfl, hR3, hC3, hL3, hM3⟩ := nat_row w3
  obtain ⟨a4, len4, cap4, rfl⟩ := okWide_slice Tryd.underlying23 (hval 4 23 v4 rfl rfl)
  have k4 := h4
  have lt4 : ∀ x ∈ p4, x.block < W.heap.size := by obtain ⟨m, hm⟩ := k4; exact DataW.trod_lt m _ _ _ hm
  obtain ⟨z4, w4⟩ : ∃ zs, IsRow .u32 W a4 len4 cap4 zs := by
    obtain ⟨fuel, hf⟩ := h4
    rcases open_ints Tryd.underlying23 Tryd.underlying77 (by kernel_rfl) hf with ⟨hcs, _⟩ | ⟨x, l, c, zs, hcs, _, hl, hm, hz, _, hcell, hwz⟩
    · simp [Value.cells] at hcs
      obtain ⟨rfl, rfl, rfl⟩ := hcs
      exact ⟨[], .inl ⟨rfl, rfl, rfl, rfl⟩⟩
    · simp [Value.cells] at hcs
      obtain ⟨rfl, rfl, rfl⟩ := hcs
      exact ⟨zs, .inr ⟨_, rfl, hl, hm, by simpa using hz, hcell, hwz⟩⟩
  obtain ⟨l4, rfl, hR4, hC4, hL4, hM4⟩ := nat_row w4
  clear hA0 hval0
  have hT := tab_of hL
  refine (binarySpecials_walk a0 a1 a2 a3 cap3 l3 a4 cap4 l4 W w0 hR3 hC3 hL3 hM3 hR4 hC4 hL4 hM4 hT).mono fun e W' ⟨he, bel⟩ => ?_
  subst he
  exact ⟨_, rfl, _, _, _, [], _, [], hW', trodAll_mk1 (shut_bool Tryd.underlying4 _), (trodAll_cons_mk (shut_int Tryd.underlying5 w0) (trodAll_cons_mk (shut_bool Tryd.underlying4 a1) (trodAll_cons_mk (shut_bool Tryd.underlying4 a2) (trodAll_cons_mk (Below.trod laidOut (by kernel_rfl) (of_decide_eq_true (by kernel_rfl)) k3 bel lt3) (trodAll_cons_mk (Below.trod laidOut (by kernel_rfl) (of_decide_eq_true (by kernel_rfl)) k4 bel lt4) trodAll_mk0))))), rfl, bel.frame _, fun h => by cases h⟩
theorem over : Rows.binarySpecialsRow.holds Tryd.pinned (OpenSpec.ofChange Rows.binarySpecialsSpec) :=
  OpenClaim.holds_of_wide 6 Tryd.f6 rfl rfl rfl rfl rfl rfl rfl ⟨rfl, rfl, rfl, rfl, rfl⟩ rfl rfl rfl rfl rfl (by kernel_rfl) Tryd.func6 (by kernel_rfl)
    (of_decide_eq_true (by kernel_rfl)) (by unfold Func.isWrapper; first | (rw [if_pos (by decide +kernel)]; kernel_rfl) | (rw [if_neg (by decide +kernel)]; exact ⟨rfl, rfl⟩))
    (fun os started H enc _ => lifted os started H enc)
theorem card : Rows.BinarySpecialsCardSaid :=
  Claim7.holds_tied_plain_at .later [] [.data] true Rows.binarySpecialsCard.stood.harness true
    over (fun _ h => by cases h) (by kernel_rfl) (fun _ h => by cases h) binarySpecials_row_tie rfl ⟨rfl, rfl⟩ (by kernel_rfl) rfl
    (fun f fn hf hfn => by
      obtain rfl : f = 6 := Option.some.inj ((show Tryd.prog.funcNamed "soroban/sorobanlaw05.BinarySpecials" = some 6 by kernel_rfl).symm.trans hf) |>.symm
      obtain rfl : fn = Tryd.f6 := (Option.some.inj (Tryd.func6.symm.trans hfn)).symm
      exact ⟨by kernel_rfl, fun j t ht => by
        rw [Tryd.params6] at ht
        have hm : t ∈ [5, 4, 4, 23, 23] := by simpa using Array.mem_of_getElem? ht
        have hall : ([5, 4, 4, 23, 23].all fun u => !Tryd.prog.wantsStandIn u) = true := by kernel_rfl
        exact (show Tryd.prog.wantsStandIn t = false by simpa using List.all_eq_true.1 hall t hm)⟩)
    (by kernel_rfl)
end Go.Proofs.YtacnkcojhlbkoaaDoor.binarySpecials
namespace Go.Proofs.YtacnkcojhlbkoaaDoor
/-- The tied card, under a short name, for the claim. -/
theorem binarySpecials_holds : Rows.BinarySpecialsCardSaid := binarySpecials.card
end Go.Proofs.YtacnkcojhlbkoaaDoor
