/- What the law DecimalTens asks of numbers alone: three digits in ten bits, counted. The law DecimalTens: for every input that its guards let in it answers true: the row, and the tied card (the one listed variable is the program's table of decimal formats, tied to the program's text). -/
import Derived.Test.YtiplbpfdkcddlaaDoorJDxa
import Derived.Test.YtiplbpfdkcddlaaDoorCards
import Derived.Test.YtiplbpfdkcddlaaDoorTie
import Derived.WalkKit
import Derived.ProofKit
import Derived.OpenShut
import Derived.ShutString
import Derived.ChangeOld
import Derived.Below
import Derived.SizedLaws
import Derived.LaidMore
import Derived.Lib.LaidTab
import Derived.Stop.Joined
import Derived.SevenTiedAt
set_option linter.unusedSimpArgs false
set_option linter.unusedVariables false
set_option linter.unnecessarySimpa false
namespace Go.Proofs.YtiplbpfdkcddlaaDoor
open Go.RowKit Go.Proofs.YtiplbpfdkcddlaaDoorW.PrintWords Go.Proofs.YtiplbpfdkcddlaaDoorW.PrintLast Go.Proofs.YtiplbpfdkcddlaaDoorW.PrintMore Go.Proofs.YtiplbpfdkcddlaaDoor.NL
set_option maxRecDepth 100000

theorem packR_ok {n : Nat} (h : n < 1000) : packR (n : Int) = (((pkd n : Nat) : Int), 0) := by
  unfold packR; rw [if_pos (by omega), Int.toNat_natCast]
theorem unpackR_ok {b : Nat} (h : b < 1024) : unpackR (b : Int) = (((unpk b : Nat) : Int), decide (pkd (unpk b) = b), 0) := by
  unfold unpackR; rw [if_pos (by omega), Int.toNat_natCast]
theorem means_ok {v : Nat} (h : v < 1024) : XDecimalTens.sorobanlaw06_means.f (v : Int) = some (true, decide (pkd (unpk v) = v)) := by
  unfold XDecimalTens.sorobanlaw06_means.f decimal_Unpack.f decimal_Pack.f
  obtain ⟨h1, h2, h3⟩ := unpk_le h
  simp only [Option.bind_some, unpackR_ok h, packR_ok (show unpk v < 1000 by omega), if_true]
  rw [if_pos (show ((unpk v : Nat) : Int) ≥ 0 by omega), if_pos (show ((unpk v : Nat) : Int) ≤ 999 by omega)]
  have e : (((pkd (unpk v) : Nat) : Int) == (v : Int)) = decide (pkd (unpk v) = v) := by
    by_cases h9 : pkd (unpk v) = v
    · rw [decide_eq_true h9, h9]; exact beq_self_eq_true _
    · rw [decide_eq_false h9]; exact beq_eq_false_iff_ne.mpr (by omega)
  rw [e, beq_self_eq_true]
/-- How many of the first bits are not those that Pack returns. -/
def oddN (v : Nat) : Nat := ((List.range v).filter (fun b => decide (pkd (unpk b) ≠ b))).length
theorem oddN_succ (v : Nat) : oddN (v + 1) = oddN v + (if pkd (unpk v) = v then 0 else 1) := by
  unfold oddN
  rw [List.range_succ, List.filter_append, List.length_append]
  by_cases h : pkd (unpk v) = v <;> simp [h]
theorem oddN_le (v : Nat) : oddN v ≤ v := by
  unfold oddN
  have := List.length_filter_le (fun b => decide (pkd (unpk b) ≠ b)) (List.range v)
  simpa using this
theorem w64' {n : Int} (h : -9223372036854775808 ≤ n) (h2 : n < 9223372036854775808) : wrap64 n = n := by unfold wrap64; omega
theorem tens_j3 (k : Nat) {n : Nat} (h : n < 1024) : XDecimalTens.sorobanlaw06_DecimalTens.j3 (k + 1) (n : Int) true false = some true := by
  simp only [XDecimalTens.sorobanlaw06_DecimalTens.j3]
  rw [if_neg (by decide)]
  by_cases h9 : n < 1000
  · obtain ⟨p1, p2⟩ := pkd_ok h9
    unfold decimal_Pack.f decimal_Unpack.f
    rw [if_neg (by omega)]
    simp only [Option.bind_some, packR_ok h9, unpackR_ok (show pkd n < 1024 by omega), if_true, p1, decide_true]
  · rw [if_pos (by omega)]
theorem tens_loop : ∀ (t v : Nat), v + t = 1024 → XDecimalTens.sorobanlaw06_DecimalTens.l0 (2 * t + 3) 0 true (oddN v : Nat) (v : Nat) = some true := by
  intro t
  induction t with
  | zero =>
    intro v hv
    obtain rfl : v = 1024 := by omega
    have e : oddN 1024 = 24 := tab_odd
    rw [e]
    show XDecimalTens.sorobanlaw06_DecimalTens.l0 (2 + 1) 0 true _ _ = _
    simp only [XDecimalTens.sorobanlaw06_DecimalTens.l0]
    rw [if_pos trivial]
    simp only [XDecimalTens.sorobanlaw06_DecimalTens.j2]
    rw [if_neg (by decide), if_pos trivial]
    exact tens_j3 0 (n := 0) (by decide)
  | succ t ih =>
    intro v hv
    have hm := means_ok (show v < 1024 by omega)
    have hle := oddN_le v
    have ho := oddN_succ v
    have hi := ih (v + 1) (by omega)
    show XDecimalTens.sorobanlaw06_DecimalTens.l0 ((2 * t + 3 + 1) + 1) 0 true _ _ = _
    simp only [XDecimalTens.sorobanlaw06_DecimalTens.l0]
    rw [if_pos trivial, decide_eq_true (show ((v : Nat) : Int) < 1024 by omega)]
    simp only [XDecimalTens.sorobanlaw06_DecimalTens.j2]
    rw [if_pos trivial, hm]
    simp only [Option.bind_some, if_true]
    rw [w64' (n := (v : Int) + 1) (by omega) (by omega), show (v : Int) + 1 = ((v + 1 : Nat) : Int) by omega]
    by_cases h : pkd (unpk v) = v
    · rw [if_pos h] at ho
      rw [if_pos (decide_eq_true h)]
      rw [ho] at hi
      exact hi
    · rw [if_neg h] at ho
      rw [if_neg (by simpa using h), w64' (by omega) (by omega), show ((oddN v : Nat) : Int) + 1 = ((oddN v + 1 : Nat) : Int) by omega]
      rw [ho] at hi
      exact hi
theorem tens_zero (K : Nat) (h : XDecimalTens.sorobanlaw06_DecimalTens.l0 K 0 true 0 0 = some true) : XDecimalTens.sorobanlaw06_DecimalTens.f (K + 1) 0 = some true := by
  show (if (0 : Int) < 0 then XDecimalTens.sorobanlaw06_DecimalTens.j0 (K + 1) 0 true true else XDecimalTens.sorobanlaw06_DecimalTens.j0 (K + 1) 0 true (decide ((0 : Int) > 1023))) = _
  rw [if_neg (by decide), show decide ((0 : Int) > 1023) = false from rfl]
  simp only [XDecimalTens.sorobanlaw06_DecimalTens.j0]
  have hm := means_ok (v := 0) (by decide)
  rw [if_neg (by decide), show ((0 : Int)) = ((0 : Nat) : Int) from rfl, hm]
  exact h
theorem decimalTens_pure (a0 : Int) : ∃ k, XDecimalTens.sorobanlaw06_DecimalTens.f k a0 = some true := by
  have f0 : ∀ k, XDecimalTens.sorobanlaw06_DecimalTens.f k a0 = (if a0 < 0 then XDecimalTens.sorobanlaw06_DecimalTens.j0 k a0 true true else XDecimalTens.sorobanlaw06_DecimalTens.j0 k a0 true (decide (a0 > 1023))) := fun k => rfl
  by_cases h1 : a0 < 0
  · refine ⟨1, ?_⟩
    rw [f0, if_pos h1]; simp only [XDecimalTens.sorobanlaw06_DecimalTens.j0]; rw [if_pos trivial]
  · by_cases h2 : a0 > 1023
    · refine ⟨1, ?_⟩
      rw [f0, if_neg h1, decide_eq_true h2]; simp only [XDecimalTens.sorobanlaw06_DecimalTens.j0]; rw [if_pos trivial]
    · obtain ⟨n, rfl⟩ := Int.eq_ofNat_of_zero_le (show 0 ≤ a0 by omega)
      have hn : n < 1024 := by omega
      by_cases h0 : n = 0
      · subst h0
        have h := tens_loop 1024 0 (by omega)
        rw [show oddN 0 = 0 from rfl, show ((0 : Nat) : Int) = 0 from rfl] at h
        exact ⟨_, tens_zero _ h⟩
      · refine ⟨10 + 1, ?_⟩
        rw [f0, if_neg h1, decide_eq_false h2]
        simp only [XDecimalTens.sorobanlaw06_DecimalTens.j0]
        have hm := means_ok hn
        have e : XDecimalTens.sorobanlaw06_DecimalTens.l0 (9 + 1) (n : Int) true 0 0 = some true := by
          simp only [XDecimalTens.sorobanlaw06_DecimalTens.l0]
          rw [if_neg (by omega)]
          show XDecimalTens.sorobanlaw06_DecimalTens.j2 (8 + 1) (n : Int) true 0 0 false = _
          simp only [XDecimalTens.sorobanlaw06_DecimalTens.j2]
          rw [if_neg (by decide), if_neg (by omega)]
          exact tens_j3 7 hn
        show (if false = true then some true else (XDecimalTens.sorobanlaw06_means.f (n : Int)).bind _) = _
        rw [hm]
        exact e
/-- The law's walk: it answers true. -/
theorem decimalTens_walk (a0 : Int) (W : World) (w0 : (Lit.int .i64 a0).wf = true) (hT : Tab W) :
    Calls Tryd.prog 3 #[.int .i64 a0] W fun e w' => e = .returned (.bool true) ∧ Below W.heap.size W w' := by
  obtain ⟨k, hk⟩ := decimalTens_pure a0
  exact XDecimalTens.sorobanlaw06_DecimalTens.calls k a0 true W hk hT
end Go.Proofs.YtiplbpfdkcddlaaDoor

set_option linter.unusedSimpArgs false
set_option linter.unusedVariables false
set_option linter.unnecessarySimpa false
namespace Go.Proofs.YtiplbpfdkcddlaaDoor.decimalTens
open Go.ChangeShapes Go.WideShapes Go.ChangeAt Go.RowKit Go.Proofs.YtiplbpfdkcddlaaDoor Go.Proofs.YtiplbpfdkcddlaaDoorW.PrintWords Go.Proofs.YtiplbpfdkcddlaaDoorW.PrintLast Go.Proofs.YtiplbpfdkcddlaaDoorW.PrintMore Go.Proofs.YtiplbpfdkcddlaaDoor.NL
set_option maxRecDepth 100000
theorem own : ownKnob Tryd.prog.godebug = none := by kernel_rfl
theorem laidOut : laidOutB Tryd.prog = true := by kernel_rfl
theorem gTab : Tryd.prog.globalNamed "soroban/decimal.formats" = some 0 := by kernel_rfl
theorem tTab : (Tryd.prog.globals[0]?).map (·.type) = some 85 := by kernel_rfl
theorem door_met (os : Os) (args : Array Value) : laidMetH Tryd.prog [("soroban/decimal.formats", Rows.laid_soroban_decimal_formats)] ((World.doorLaid Tryd.prog 14 os).forCall (fun _ _ => 0) ⟨#[], args, []⟩).memory :=
  laidMetH_of_parts3 (fuel := 8) (laidMet_of_run' 8 (by kernel_rfl) (by kernel_rfl)) (by kernel_rfl) (by kernel_rfl)
theorem row_of {H : Type} {enc : TypeId × Value → H} {W : World} {base : Nat} {sp : Nat → Bool} {held : Bool} {fuel : Nat} {cs : List Value} {p : List MemPlace} {a b c d e : Int}
    (h : DataW.trod enc Tryd.prog W base sp held fuel 55 cs = some (.agg [.lit (.int .i64 a), .lit (.int .i64 b), .lit (.int .i64 c), .lit (.int .i64 d), .lit (.int .i64 e)], p)) : cs = [.int .i64 a, .int .i64 b, .int .i64 c, .int .i64 d, .int .i64 e] := by
  obtain ⟨xs, n, -, hx, hlen, hl, hf⟩ := DataW.trod_struct Tryd.underlying55 h
  have hc : Tryd.prog.cellsOf 55 = 5 := by kernel_rfl
  have hc1 : Tryd.prog.cellsOf 3 = 1 := by kernel_rfl
  rw [hc] at hlen
  obtain ⟨c0, c1, c2, c3, c4, rfl⟩ : ∃ c0 c1 c2 c3 c4, cs = [c0, c1, c2, c3, c4] := by
    match cs, hlen with
    | [c0, c1, c2, c3, c4], _ => exact ⟨c0, c1, c2, c3, c4, rfl⟩
  obtain ⟨x0, x1, x2, x3, x4, rfl⟩ : ∃ x0 x1 x2 x3 x4, xs = [x0, x1, x2, x3, x4] := by
    match xs, hl with
    | [x0, x1, x2, x3, x4], _ => exact ⟨x0, x1, x2, x3, x4, rfl⟩
  obtain ⟨z0, e0, y0, -⟩ := DataW.trod_int Tryd.underlying3 (hf 0 _ rfl)
  obtain ⟨z1, e1, y1, -⟩ := DataW.trod_int Tryd.underlying3 (hf 1 _ rfl)
  obtain ⟨z2, e2, y2, -⟩ := DataW.trod_int Tryd.underlying3 (hf 2 _ rfl)
  obtain ⟨z3, e3, y3, -⟩ := DataW.trod_int Tryd.underlying3 (hf 3 _ rfl)
  obtain ⟨z4, e4, y4, -⟩ := DataW.trod_int Tryd.underlying3 (hf 4 _ rfl)
  simp [hc1] at e0 e1 e2 e3 e4
  subst e0 e1 e2 e3 e4
  simp [y0, y1, y2, y3, y4] at hx
  obtain ⟨⟨rfl, rfl, rfl, rfl, rfl⟩, -⟩ := hx
  rfl
theorem tab_of {W : World} (h : laidMetH Tryd.prog [("soroban/decimal.formats", Rows.laid_soroban_decimal_formats)] W) : Tab W := by
  rw [MakeChecks.laidMetH_plain _ _ _ (by kernel_rfl)] at h
  obtain ⟨ps, ⟨g', t', cs, fuel, p, q, hg', ht', hvar, hd, _, _⟩, _⟩ := h
  obtain rfl := Option.some.inj (gTab.symm.trans hg')
  obtain rfl := Option.some.inj (tTab.symm.trans ht')
  have hc : Tryd.prog.cellsOf 55 = 5 := by kernel_rfl
  have hct : Tryd.prog.cellsOf 85 = 15 := by kernel_rfl
  have hcs : cs.toList = fmts.map (Value.int .i64) := by
    cases fuel with
    | zero => simp [DataW.trod] at hd
    | succ fuel =>
      simp only [DataW.trod, Tryd.underlying85, hc, hct] at hd
      split at hd
      · rename_i hl
        obtain ⟨xs, hm, hx⟩ := Option.map_eq_some_iff.1 hd
        have hxl : xs.length = 3 := by simpa using Lib.mapM_length hm
        obtain ⟨x0, x1, x2, rfl⟩ : ∃ x0 x1 x2, xs = [x0, x1, x2] := by
          match xs, hxl with
          | [x0, x1, x2], _ => exact ⟨x0, x1, x2, rfl⟩
        obtain ⟨b0, hb0, hf0⟩ := Lib.mapM_at hm 0 0 rfl
        obtain ⟨b1, hb1, hf1⟩ := Lib.mapM_at hm 1 1 rfl
        obtain ⟨b2, hb2, hf2⟩ := Lib.mapM_at hm 2 2 rfl
        have hd0 := congrArg Prod.fst hx
        simp [Rows.laid_soroban_decimal_formats] at hd0
        obtain ⟨d0, d1, d2⟩ := hd0
        obtain rfl : x0 = b0 := by simpa using hb0
        obtain rfl : x1 = b1 := by simpa using hb1
        obtain rfl : x2 = b2 := by simpa using hb2
        obtain ⟨x0, q0⟩ := x0
        obtain ⟨x1, q1⟩ := x1
        obtain ⟨x2, q2⟩ := x2
        dsimp only at d0 d1 d2
        subst d0 d1 d2
        have r0 := row_of hf0
        have r1 := row_of hf1
        have r2 := row_of hf2
        have e : cs.toList = ((cs.toList.drop (0 * 5)).take 5) ++ ((cs.toList.drop (1 * 5)).take 5) ++ ((cs.toList.drop (2 * 5)).take 5) := by
          have hl2 : cs.toList.length = 15 := by simpa using hl
          generalize cs.toList = l at hl2
          match l, hl2 with
          | [a0, a1, a2, a3, a4, a5, a6, a7, a8, a9, a10, a11, a12, a13, a14], _ => rfl
        rw [e, r0, r1, r2]; rfl
      · cases hd
  have hcell : ∀ j, j < 15 → W.cell? ⟨0, j, none⟩ = some (.int .i64 (fmts.getD j 0)) := fun j hj => by
    rw [World.var?_cell gTab hvar j, ← Array.getElem?_toList, hcs, List.getElem?_map, List.getD_eq_getElem?_getD]
    have hl : j < fmts.length := hj
    rw [List.getElem?_eq_getElem hl]; rfl
  exact ⟨by simpa using World.block_lt_of_cell? _ _ (hcell 0 (by decide)), hcell⟩
set_option maxHeartbeats 4000000 in
theorem lifted (os : Os) (started : os.Started) (H : Type) (enc : TypeId × Value → H) :
    ReturnsInHanded {} Tryd.checked os 3 .any (fun w args => (Rows.decimalTensSpec.pre enc Tryd.prog Tryd.f3 [] false w args ∧ laidMetH Tryd.prog [("soroban/decimal.formats", Rows.laid_soroban_decimal_formats)] w) ∧ sizedMet enc Tryd.prog Tryd.f3 (OpenSpec.ofChange Rows.decimalTensSpec) false w args)
      (Rows.decimalTensSpec.post enc Tryd.prog Tryd.f3 false true false false) := by
  refine returnsInHanded_of_change_and (C := Tryd.checked) (X := fun w _ => laidMetH Tryd.prog [("soroban/decimal.formats", Rows.laid_soroban_decimal_formats)] w) (fun _ _ _ hh h => h.of_heap hh) own started (by kernel_rfl) Tryd.func3
    (ChangeSpec.witness_shaped (enc := enc) (C := Tryd.checked) (os := os) (X := fun w _ => laidMetH Tryd.prog [("soroban/decimal.formats", Rows.laid_soroban_decimal_formats)] w) false (World.doorLaid Tryd.prog 14 os) #[.int .i64 0] 8 rfl (World.shaped_of_RefB (by kernel_rfl) (by kernel_rfl)) (by kernel_rfl) (by kernel_rfl) (by kernel_rfl) (door_met os _)) ?_
  intro W base args ds gs before hval0 hW _ hszq hL _
  have hval : ∀ (j : Nat) t v, Tryd.f3.params[j]? = some t → args[j]? = some v → Value.okWide Tryd.prog W .any base t v := hval0
  have hW' := hW
  obtain ⟨p, q, hA0, hV, rfl, hfz, hnd⟩ := hW
  have hA : DataW.TrodAll enc Tryd.prog W 0 (fun _ => true) true Tryd.f3.params.toList args.toList ds p := hA0
  rw [Tryd.params3] at hA hval
  obtain ⟨v0, vs0, d0, ds0, p0, q0, hargs, rfl, rfl, h0, r0⟩ := trodAll_cons hA
  obtain ⟨rfl, rfl, rfl⟩ := trodAll_nil r0
  obtain rfl : args = #[v0] := by cases args; simp_all
  obtain ⟨rfl, rfl⟩ := trodVars_none hV
  obtain ⟨a0, rfl, rfl, rfl, w0⟩ := open_int Tryd.underlying3 (hval 0 3 v0 rfl rfl) h0
  clear hA0 hval0
  have hT := tab_of hL
  refine (decimalTens_walk a0 W w0 hT).mono fun e W' ⟨he, bel⟩ => ?_
  subst he
  exact ⟨_, rfl, _, _, _, [], _, [], hW', trodAll_mk1 (shut_bool Tryd.underlying4 _), (trodAll_cons_mk (shut_int Tryd.underlying3 w0) trodAll_mk0), rfl, bel.frame _, fun h => by cases h⟩
theorem over : Rows.decimalTensRow.holds Tryd.pinned (OpenSpec.ofChange Rows.decimalTensSpec) :=
  OpenClaim.holds_of_wide 3 Tryd.f3 rfl rfl rfl rfl rfl rfl rfl ⟨rfl, rfl, rfl, rfl, rfl⟩ rfl rfl rfl rfl rfl (by kernel_rfl) Tryd.func3 (by kernel_rfl)
    (of_decide_eq_true (by kernel_rfl)) (by unfold Func.isWrapper; first | (rw [if_pos (by decide +kernel)]; kernel_rfl) | (rw [if_neg (by decide +kernel)]; exact ⟨rfl, rfl⟩))
    (fun os started H enc _ => lifted os started H enc)
theorem card : Rows.DecimalTensCardSaid :=
  Claim7.holds_tied_plain_at .later [] [.data] true Rows.decimalTensCard.stood.harness true
    over (fun _ h => by cases h) (by kernel_rfl) (fun _ h => by cases h) decimalTens_row_tie rfl ⟨rfl, rfl⟩ (by kernel_rfl) rfl
    (fun f fn hf hfn => by
      obtain rfl : f = 3 := Option.some.inj ((show Tryd.prog.funcNamed "soroban/sorobanlaw06.DecimalTens" = some 3 by kernel_rfl).symm.trans hf) |>.symm
      obtain rfl : fn = Tryd.f3 := (Option.some.inj (Tryd.func3.symm.trans hfn)).symm
      exact ⟨by kernel_rfl, fun j t ht => by
        rw [Tryd.params3] at ht
        have hm : t ∈ [3] := by simpa using Array.mem_of_getElem? ht
        have hall : ([3].all fun u => !Tryd.prog.wantsStandIn u) = true := by kernel_rfl
        exact (show Tryd.prog.wantsStandIn t = false by simpa using List.all_eq_true.1 hall t hm)⟩)
    (by kernel_rfl)
end Go.Proofs.YtiplbpfdkcddlaaDoor.decimalTens
namespace Go.Proofs.YtiplbpfdkcddlaaDoor
/-- The tied card, under a short name, for the claim. -/
theorem decimalTens_holds : Rows.DecimalTensCardSaid := decimalTens.card
end Go.Proofs.YtiplbpfdkcddlaaDoor
