/- What the law BinaryRemakes asks of numbers alone: Make of a datum's value is the datum. The law BinaryRemakes: for every input that its guards let in it answers true: the row, and the tied card (the one listed variable is a table of math/bits, tied to the program's text). -/
import Derived.Test.YtacnkcojhlbkoaaDoorJD19
import Derived.Test.YtacnkcojhlbkoaaDoorJDyb
import Derived.Test.YtacnkcojhlbkoaaDoorCards
import Derived.Test.YtacnkcojhlbkoaaDoorTie
import Derived.WalkKit
import Derived.ProofKit
import Derived.OpenShut
import Derived.ShutString
import Derived.ChangeOld
import Derived.Below
import Derived.SizedLaws
import Derived.LaidMore
import Derived.Lib.LaidTab
import Derived.Stop.Joined
import Derived.SevenTiedAt
set_option linter.unusedSimpArgs false
set_option linter.unusedVariables false
set_option linter.unnecessarySimpa false
namespace Go.Proofs.YtacnkcojhlbkoaaDoor
open Go.RowKit Go.Proofs.YtacnkcojhlbkoaaDoorW.PrintWords Go.Proofs.YtacnkcojhlbkoaaDoorW.PrintLast Go.Proofs.YtacnkcojhlbkoaaDoorW.PrintMore Go.Proofs.YtacnkcojhlbkoaaDoor.NL
set_option maxRecDepth 100000
set_option exponentiation.threshold 33000

theorem long_len {x k : Nat} (h : x < 2 ^ k) (hk : k ≤ 32768) : (ofN x).length ≤ 1024 := by
  refine len_ofN_le (k := 1024) (Nat.lt_of_lt_of_le h ?_)
  rw [show (4294967296 : Nat) = 2 ^ 32 from rfl, ← Nat.pow_mul]
  exact Nat.pow_le_pow_right (by omega) (by omega)
theorem long_ok {x k : Nat} (h : x < 2 ^ k) (hk : k ≤ 32768) : okN (ofN x) = true := okN_iff.2 ⟨long_len h hk, top_ofN x⟩
theorem fits_fin {f ex : Int} {n : Nat} (hh : fits (fmD f) (fmL f) (fmH f) 1 (n : Nat) ex = true) : (n : Int) ≤ fmD f ∧ fmL f ≤ ex ∧ ex ≤ fmH f ∧ (ex = fmL f ∨ (n : Int) = fmD f) := by
  unfold fits at hh
  simp only [if_true, Bool.and_eq_true, Bool.or_eq_true, decide_eq_true_eq] at hh
  obtain ⟨⟨⟨h1, h2⟩, h3⟩, h4⟩ := hh
  exact ⟨h1, h2, h3, h4⟩
theorem make_remake {f ex : Int} {o z k : Nat} {ng : Bool} (hf : isFm f = true) (ho : o % 2 = 1) (hh : fits (fmD f) (fmL f) (fmH f) 1 (blen (o * 2 ^ z) : Nat) ex = true) (hk : k ≤ 2000) :
    binary_Make.f f ng (ofN (o * 2 ^ k)) (ex + z - k) = some (f, 1, ng, ofN (o * 2 ^ z), ex, 0) := by
  obtain ⟨g1, g2, g3, g4⟩ := fits_fin hh
  have h0 : o ≠ 0 := by omega
  have hb1 : blen (o * 2 ^ z) = blen o + z := blen_mul_pow h0 z
  have hb2 : blen (o * 2 ^ k) = blen o + k := blen_mul_pow h0 k
  have hpos := blen_pos h0
  obtain ⟨d1, d2⟩ := D_bd2 f
  have hne : o * 2 ^ k ≠ 0 := by have := Nat.two_pow_pos k; exact Nat.mul_ne_zero h0 (by omega)
  have hlt : o * 2 ^ k < 2 ^ (blen o + k) := by rw [← hb2]; exact lt_blen _
  have hq : makeQ f (ex + z - k) (blen (o * 2 ^ k)) = ex := by unfold makeQ; rw [hb2]; omega
  have c1 : makeC1 f (ex + z - k) = true := by
    unfold makeC1
    simp only [Bool.and_eq_true, decide_eq_true_eq]; omega
  have c2 : makeC2 f (ex + z - k) (ofN (o * 2 ^ k)) = true := by
    unfold makeC2
    rw [val_ofN, hq, tz_of ho]
    simp only [Bool.and_eq_true, decide_eq_true_eq]; omega
  unfold binary_Make.f makeR
  rw [u32L_ofN, if_pos rfl, hf, long_ok hlt (by omega), val_ofN, c1, c2, hq, if_neg (by simp), if_neg hne, if_neg (by simp)]
  congr 5
  by_cases hc : ex ≤ ex + z - k
  · rw [if_pos hc, Nat.mul_assoc, ← Nat.pow_add]
    congr 3; omega
  · rw [if_neg hc]
    have e : o * 2 ^ k = o * 2 ^ z * 2 ^ (k - z) := by rw [Nat.mul_assoc, ← Nat.pow_add]; congr 2; omega
    have e2 : (ex - (ex + z - k)).toNat = k - z := by omega
    rw [e2, e, Nat.mul_div_cancel _ (Nat.two_pow_pos _)]
theorem shl_f {o k : Nat} (h0 : o < 2 ^ 200) (hne : o ≠ 0) (hk : k ≤ 2000) : nat_Shl.f (ofN o) (k : Nat) = some (ofN (o * 2 ^ k), 0) := by
  unfold nat_Shl.f natShl numOut
  have hlt : o * 2 ^ k < 2 ^ (200 + k) := by rw [Nat.pow_add]; exact Nat.mul_lt_mul_of_pos_right h0 (Nat.two_pow_pos _)
  have t1 : decide ((0 : Int) ≤ (k : Nat)) = true := decide_eq_true (by omega)
  rw [u32L_ofN, if_pos rfl, long_ok h0 (by omega), t1]
  simp only [Bool.and_self, if_true]
  rw [if_neg (fun h => hne (ofN_nil.1 h)), if_pos (by omega), val_ofN, Int.toNat_natCast, if_pos (long_len hlt (by omega))]

theorem remakes_abs (k : Nat) {a0 hi lo a2 f nh nl cl ex ve sh : Int} {ng vn : Bool} {co vc lc : List Int} (e1 : sorobanlaw05_which.f a0 = some f) (e2 : sorobanlaw05_cut.f f hi lo = some (nh, nl)) (c0 : binary_Decode.f f nh nl = some (f, cl, ng, co, ex, 0)) (c1 : binary_Value.f f cl ng co ex = some (vn, vc, ve, 0)) (hn : ((vc.length : Int) == 0) = false) (hs : Int.tmod (wrap64 a2) 2000 = sh)
    (c2 : nat_Shl.f vc sh = some (lc, 0)) (c3 : binary_Make.f f vn vc ve = some (f, cl, ng, co, ex, 0)) (c4 : binary_Make.f f vn lc (wrap64 (ve - sh)) = some (f, cl, ng, co, ex, 0)) (c7 : sorobanref05_Same.f f cl ng co ex f cl ng co ex = some true) :
    XBinaryRemakes.sorobanlaw05_BinaryRemakes.f (k + 1) a0 hi lo a2 = some true := by
  have c6 : sorobanlaw05_sanity.f = some true := rfl
  simp only [XBinaryRemakes.sorobanlaw05_BinaryRemakes.f, XBinaryRemakes.sorobanlaw05_BinaryRemakes.j0, e1, e2, c0, c1, hn, hs, c2, c3, c4, c6, c7, Option.bind_some, if_true, Bool.false_eq_true, if_false]
theorem remakes_none (k : Nat) {a0 hi lo a2 f nh nl cl ex ve er : Int} {ng vn : Bool} {co vc : List Int} (e1 : sorobanlaw05_which.f a0 = some f) (e2 : sorobanlaw05_cut.f f hi lo = some (nh, nl)) (c0 : binary_Decode.f f nh nl = some (f, cl, ng, co, ex, 0)) (c1 : binary_Value.f f cl ng co ex = some (vn, vc, ve, er)) (hn : er ≠ 0 ∨ ((vc.length : Int) == 0) = true) (hc : cl = 1 → ((co.length : Int) == 0) = true) :
    XBinaryRemakes.sorobanlaw05_BinaryRemakes.f (k + 1) a0 hi lo a2 = some true := by
  have c6 : sorobanlaw05_sanity.f = some true := rfl
  by_cases he : er = 0
  · subst he
    have hn := hn.resolve_left (fun h => h rfl)
    by_cases h1 : cl = 1
    · simp only [XBinaryRemakes.sorobanlaw05_BinaryRemakes.f, XBinaryRemakes.sorobanlaw05_BinaryRemakes.j0, e1, e2, c0, c1, hn, c6, Option.bind_some, if_true, if_pos h1, hc h1]
    · simp only [XBinaryRemakes.sorobanlaw05_BinaryRemakes.f, XBinaryRemakes.sorobanlaw05_BinaryRemakes.j0, e1, e2, c0, c1, hn, c6, Option.bind_some, if_true, if_neg h1]
  · by_cases h1 : cl = 1
    · simp only [XBinaryRemakes.sorobanlaw05_BinaryRemakes.f, XBinaryRemakes.sorobanlaw05_BinaryRemakes.j0, e1, e2, c0, c1, c6, Option.bind_some, if_true, if_pos h1, if_neg he, hc h1]
    · simp only [XBinaryRemakes.sorobanlaw05_BinaryRemakes.f, XBinaryRemakes.sorobanlaw05_BinaryRemakes.j0, e1, e2, c0, c1, c6, Option.bind_some, if_true, if_neg h1, if_neg he]
theorem binaryRemakes_pure (k : Nat) (a0 hi lo a2 : Int) (h0 : 0 ≤ a0 ∧ a0 ≤ 255) (h1 : u64B hi = true) (h2 : u64B lo = true) (h3 : 0 ≤ a2 ∧ a2 ≤ 65535) : XBinaryRemakes.sorobanlaw05_BinaryRemakes.f (k + 1) a0 hi lo a2 = some true := by
  obtain ⟨f, e1, hf⟩ := which_f h0
  obtain ⟨N, hN, e2⟩ := cut_f hf h1 h2
  have hx := dec_128 hf N
  have hh := (dec_ok hf N).1
  have hx2 := (dec_ok hf N).2
  have c0 := decode_f hf hN
  have hl := ofN_len hx
  have hok := datOk_f hf hx hh
  generalize decNeg f N = ng at *
  generalize (decN f N).1 = cl at *
  generalize (decN f N).2.1 = x at *
  generalize (decN f N).2.2 = ex at *
  have hv : binary_Value.f f cl ng (ofN x) ex = some (if cl ≠ 1 then (false, [], 0, 5) else if x = 0 then (false, [], 0, 0) else (ng, ofN (x / 2 ^ tz x), ex + (tz x : Nat), 0)) := by
    unfold binary_Value.f valueR
    rw [u32L_ofN, if_pos rfl, hok, if_neg (by simp), val_ofN]
  by_cases h1 : cl = 1
  · subst h1
    rw [if_neg (by simp)] at hv
    by_cases hz : x = 0
    · rw [if_pos hz] at hv
      exact remakes_none k e1 e2 c0 hv (.inr rfl) (fun _ => by rw [hz, ofN_zero]; rfl)
    · rw [if_neg hz] at hv
      obtain ⟨o, ho, hxo⟩ := tz_spec hz
      generalize tz x = z at *
      subst hxo
      rw [Nat.mul_div_cancel _ (Nat.two_pow_pos _)] at hv
      obtain ⟨s, hs⟩ : ∃ s : Nat, a2 % 2000 = (s : Int) := ⟨(a2 % 2000).toNat, by omega⟩
      have hsl : s ≤ 2000 := by omega
      obtain ⟨g1, g2, g3, g4⟩ := fits_fin hh
      obtain ⟨d1, d2⟩ := D_bd2 f
      obtain ⟨l1, l2⟩ := fmL_bd f
      obtain ⟨m1, m2⟩ := fmH_bd f
      have h0 : o ≠ 0 := by omega
      have hb1 : blen (o * 2 ^ z) = blen o + z := blen_mul_pow h0 z
      have ho2 : o < 2 ^ 200 := Nat.lt_of_lt_of_le (lt_blen o) (Nat.pow_le_pow_right (by omega) (by omega))
      have m0 := make_remake (ng := ng) (k := 0) hf ho hh (by omega)
      rw [Nat.pow_zero, Nat.mul_one] at m0
      have m2' := make_remake (ng := ng) (k := s) hf ho hh hsl
      refine remakes_abs k e1 e2 c0 hv ?_ ?_ (shl_f ho2 h0 hsl) ?_ ?_ ?_
      · have : (ofN o).length ≠ 0 := fun h => h0 (ofN_nil.1 (List.length_eq_zero_iff.1 h))
        simp; exact fun h => h0 (ofN_nil.1 h)
      · have e : wrap64 a2 = a2 := by unfold wrap64; omega
        rw [e, Int.tmod_eq_emod_of_nonneg h3.1, hs]
      · have e : ex + (z : Int) - ((0 : Nat) : Int) = ex + z := by omega
        rw [e] at m0; exact m0
      · have e : wrap64 (ex + (z : Int) - (s : Int)) = ex + z - s := by unfold wrap64; omega
        rw [e]; exact m2'
      · unfold sorobanref05_Same.f
        rw [if_pos (by omega), decide_eq_true ⟨rfl, rfl, rfl, rfl, rfl⟩]
  · rw [if_pos h1] at hv
    exact remakes_none k e1 e2 c0 hv (.inl (by decide)) (fun h => absurd h h1)
/-- The law's walk: it answers true. -/
theorem binaryRemakes_walk (a0 a1_0 a1_1 a2 : Int) (W : World) (w0 : (Lit.int .u8 a0).wf = true) (w1 : (Lit.int .u64 a1_0).wf = true) (w2 : (Lit.int .u64 a1_1).wf = true) (w3 : (Lit.int .u16 a2).wf = true) (hT : Tab W) :
    Calls Tryd.prog 7 #[.int .u8 a0, .agg #[.int .u64 a1_0, .int .u64 a1_1], .int .u16 a2] W fun e w' => e = .returned (.bool true) ∧ Below W.heap.size W w' := by
  simp [Lit.wf, IntKind.min, IntKind.max, IntKind.signed, IntKind.bits] at w0 w1 w2 w3
  exact XBinaryRemakes.sorobanlaw05_BinaryRemakes.calls 1 a0 a1_0 a1_1 a2 true W (binaryRemakes_pure 0 a0 a1_0 a1_1 a2 (by omega) (by simp only [u64B, decide_eq_true_eq]; omega) (by simp only [u64B, decide_eq_true_eq]; omega) (by omega)) hT
end Go.Proofs.YtacnkcojhlbkoaaDoor

set_option linter.unusedSimpArgs false
set_option linter.unusedVariables false
set_option linter.unnecessarySimpa false
namespace Go.Proofs.YtacnkcojhlbkoaaDoor.binaryRemakes
open Go.ChangeShapes Go.WideShapes Go.ChangeAt Go.RowKit Go.Proofs.YtacnkcojhlbkoaaDoor Go.Proofs.YtacnkcojhlbkoaaDoorW.PrintWords Go.Proofs.YtacnkcojhlbkoaaDoorW.PrintLast Go.Proofs.YtacnkcojhlbkoaaDoorW.PrintMore Go.Proofs.YtacnkcojhlbkoaaDoor.NL
set_option maxRecDepth 100000
theorem own : ownKnob Tryd.prog.godebug = none := by kernel_rfl
theorem laidOut : laidOutB Tryd.prog = true := by kernel_rfl
theorem gTab : Tryd.prog.globalNamed "math/bits.deBruijn32tab" = some 0 := by kernel_rfl
theorem tTab : (Tryd.prog.globals[0]?).map (·.type) = some 164 := by kernel_rfl
theorem door_met (os : Os) (args : Array Value) : laidMetH Tryd.prog [("math/bits.deBruijn32tab", Rows.laid_math_bits_deBruijn32tab)] ((World.doorLaid Tryd.prog 14 os).forCall (fun _ _ => 0) ⟨#[], args, []⟩).memory :=
  laidMetH_of_parts3 (fuel := 8) (laidMet_of_run' 8 (by kernel_rfl) (by kernel_rfl)) (by kernel_rfl) (by kernel_rfl)
theorem tab_of {W : World} (h : laidMetH Tryd.prog [("math/bits.deBruijn32tab", Rows.laid_math_bits_deBruijn32tab)] W) : Tab W := by
  rw [MakeChecks.laidMetH_plain _ _ _ (by kernel_rfl)] at h
  have hT := Lib.tabIs_of_head (k := .u8) (zs := Lib.deBruijn32tab.map Int.ofNat) gTab tTab Tryd.underlying164 Tryd.underlying5 (by kernel_rfl) (by kernel_rfl) h
  intro j hj
  have h1 := hT.cell gTab j (by simpa using hj)
  rw [h1]
  congr 2
  rw [List.getD_eq_getElem?_getD, List.getElem?_map, List.getD_eq_getElem?_getD]
  cases Lib.deBruijn32tab[j]? <;> rfl
theorem open_raw {H : Type} {enc : TypeId × Value → H} {W : World} {base b0 : Nat} {sp : Nat → Bool} {held : Bool} {v : Value} {d : DataW H} {p : List MemPlace} (hv : Value.okWide Tryd.prog W .any b0 28 v) (hd : DataW.Trod enc Tryd.prog W base sp held 28 v d p) :
    ∃ a b : Int, v = .agg #[.int .u64 a, .int .u64 b] ∧ (Lit.int .u64 a).wf = true ∧ (Lit.int .u64 b).wf = true := by
  obtain ⟨cs, rfl, hsz⟩ := okWide_struct Tryd.underlying28 hv
  have hc : Tryd.prog.cellsOf 28 = 2 := by kernel_rfl
  have hc1 : Tryd.prog.cellsOf 26 = 1 := by kernel_rfl
  rw [hc] at hsz
  obtain ⟨l⟩ := cs
  obtain ⟨c0, c1, rfl⟩ : ∃ c0 c1, l = [c0, c1] := by
    match l, hsz with
    | [c0, c1], _ => exact ⟨c0, c1, rfl⟩
  obtain ⟨fuel, hf⟩ := hd
  obtain ⟨y0, y1, m, -, -, hy0, hy1⟩ := trod_struct2 Tryd.underlying28 hf
  obtain ⟨a, e0, -, wa⟩ := DataW.trod_int Tryd.underlying26 hy0
  obtain ⟨b, e1, -, wb⟩ := DataW.trod_int Tryd.underlying26 hy1
  rw [hc1] at e0 e1
  simp [Value.cells] at e0 e1
  subst e0 e1
  exact ⟨a, b, rfl, wa, wb⟩
set_option maxHeartbeats 4000000 in
theorem lifted (os : Os) (started : os.Started) (H : Type) (enc : TypeId × Value → H) :
    ReturnsInHanded {} Tryd.checked os 7 .any (fun w args => (Rows.binaryRemakesSpec.pre enc Tryd.prog Tryd.f7 [] false w args ∧ laidMetH Tryd.prog [("math/bits.deBruijn32tab", Rows.laid_math_bits_deBruijn32tab)] w) ∧ sizedMet enc Tryd.prog Tryd.f7 (OpenSpec.ofChange Rows.binaryRemakesSpec) false w args)
      (Rows.binaryRemakesSpec.post enc Tryd.prog Tryd.f7 false true false false) := by
  refine returnsInHanded_of_change_and (C := Tryd.checked) (X := fun w _ => laidMetH Tryd.prog [("math/bits.deBruijn32tab", Rows.laid_math_bits_deBruijn32tab)] w) (fun _ _ _ hh h => h.of_heap hh) own started (by kernel_rfl) Tryd.func7
    (ChangeSpec.witness_shaped (enc := enc) (C := Tryd.checked) (os := os) (X := fun w _ => laidMetH Tryd.prog [("math/bits.deBruijn32tab", Rows.laid_math_bits_deBruijn32tab)] w) false (World.doorLaid Tryd.prog 14 os) #[.int .u8 0, .agg #[.int .u64 0, .int .u64 0], .int .u16 0] 8 rfl (World.shaped_of_RefB (by kernel_rfl) (by kernel_rfl)) (by kernel_rfl) (by kernel_rfl) (by kernel_rfl) (door_met os _)) ?_
  intro W base args ds gs before hval0 hW _ hszq hL _
  have hval : ∀ (j : Nat) t v, Tryd.f7.params[j]? = some t → args[j]? = some v → Value.okWide Tryd.prog W .any base t v := hval0
  have hW' := hW
  obtain ⟨p, q, hA0, hV, rfl, hfz, hnd⟩ := hW
  have hA : DataW.TrodAll enc Tryd.prog W 0 (fun _ => true) true Tryd.f7.params.toList args.toList ds p := hA0
  rw [Tryd.params7] at hA hval
  obtain ⟨v0, vs0, d0, ds0, p0, q0, hargs, rfl, rfl, h0, r0⟩ := trodAll_cons hA
  obtain ⟨v1, vs1, d1, ds1, p1, q1, rfl, rfl, rfl, h1, r1⟩ := trodAll_cons r0
  obtain ⟨v2, vs2, d2, ds2, p2, q2, rfl, rfl, rfl, h2, r2⟩ := trodAll_cons r1
  obtain ⟨rfl, rfl, rfl⟩ := trodAll_nil r2
  obtain rfl : args = #[v0, v1, v2] := by cases args; simp_all
  obtain ⟨rfl, rfl⟩ := trodVars_none hV
  obtain ⟨a0, rfl, rfl, rfl, w0⟩ := open_int Tryd.underlying5 (hval 0 5 v0 rfl rfl) h0
  have k1 := h1
  have lt1 : ∀ x ∈ p1, x.block < W.heap.size := by obtain ⟨m, hm⟩ := k1; exact DataW.trod_lt m _ _ _ hm
  obtain ⟨a1_0, a1_1, rfl, w1_0, w1_1⟩ := open_raw (hval 1 28 v1 rfl rfl) h1
  obtain ⟨a2, rfl, rfl, rfl, w2⟩ := open_int Tryd.underlying63 (hval 2 63 v2 rfl rfl) h2
  clear hA0 hval0
  have hT := tab_of hL
  refine (binaryRemakes_walk a0 a1_0 a1_1 a2 W w0 w1_0 w1_1 w2 hT).mono fun e W' ⟨he, bel⟩ => ?_
  subst he
  exact ⟨_, rfl, _, _, _, [], _, [], hW', trodAll_mk1 (shut_bool Tryd.underlying4 _), (trodAll_cons_mk (shut_int Tryd.underlying5 w0) (trodAll_cons_mk (Below.trod laidOut (by kernel_rfl) (of_decide_eq_true (by kernel_rfl)) k1 bel lt1) (trodAll_cons_mk (shut_int Tryd.underlying63 w2) trodAll_mk0))), rfl, bel.frame _, fun h => by cases h⟩
theorem over : Rows.binaryRemakesRow.holds Tryd.pinned (OpenSpec.ofChange Rows.binaryRemakesSpec) :=
  OpenClaim.holds_of_wide 7 Tryd.f7 rfl rfl rfl rfl rfl rfl rfl ⟨rfl, rfl, rfl, rfl, rfl⟩ rfl rfl rfl rfl rfl (by kernel_rfl) Tryd.func7 (by kernel_rfl)
    (of_decide_eq_true (by kernel_rfl)) (by unfold Func.isWrapper; first | (rw [if_pos (by decide +kernel)]; kernel_rfl) | (rw [if_neg (by decide +kernel)]; exact ⟨rfl, rfl⟩))
    (fun os started H enc _ => lifted os started H enc)
theorem card : Rows.BinaryRemakesCardSaid :=
  Claim7.holds_tied_plain_at .later [] [.data] true Rows.binaryRemakesCard.stood.harness true
    over (fun _ h => by cases h) (by kernel_rfl) (fun _ h => by cases h) binaryRemakes_row_tie rfl ⟨rfl, rfl⟩ (by kernel_rfl) rfl
    (fun f fn hf hfn => by
      obtain rfl : f = 7 := Option.some.inj ((show Tryd.prog.funcNamed "soroban/sorobanlaw05.BinaryRemakes" = some 7 by kernel_rfl).symm.trans hf) |>.symm
      obtain rfl : fn = Tryd.f7 := (Option.some.inj (Tryd.func7.symm.trans hfn)).symm
      exact ⟨by kernel_rfl, fun j t ht => by
        rw [Tryd.params7] at ht
        have hm : t ∈ [5, 28, 63] := by simpa using Array.mem_of_getElem? ht
        have hall : ([5, 28, 63].all fun u => !Tryd.prog.wantsStandIn u) = true := by kernel_rfl
        exact (show Tryd.prog.wantsStandIn t = false by simpa using List.all_eq_true.1 hall t hm)⟩)
    (by kernel_rfl)
end Go.Proofs.YtacnkcojhlbkoaaDoor.binaryRemakes
namespace Go.Proofs.YtacnkcojhlbkoaaDoor
/-- The tied card, under a short name, for the claim. -/
theorem binaryRemakes_holds : Rows.BinaryRemakesCardSaid := binaryRemakes.card
end Go.Proofs.YtacnkcojhlbkoaaDoor
