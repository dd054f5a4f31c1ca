/- The law DecimalBack: for every input that its guards let in it answers true: the row, and the tied card (the one listed variable is the program's table of decimal formats, tied to the program's text). -/
import Derived.Test.YtiplbpfdkcddlaaDoorCards
import Derived.Test.YtiplbpfdkcddlaaDoorTie
import Derived.Test.YtiplbpfdkcddlaaDoorJDya
import Derived.WalkKit
import Derived.ProofKit
import Derived.OpenShut
import Derived.ShutString
import Derived.ChangeOld
import Derived.Below
import Derived.SizedLaws
import Derived.LaidMore
import Derived.Lib.LaidTab
import Derived.Stop.Joined
import Derived.SevenTiedAt
set_option linter.unusedSimpArgs false
set_option linter.unusedVariables false
set_option linter.unnecessarySimpa false
namespace Go.Proofs.YtiplbpfdkcddlaaDoor.decimalBack
open Go.ChangeShapes Go.WideShapes Go.ChangeAt Go.RowKit Go.Proofs.YtiplbpfdkcddlaaDoor Go.Proofs.YtiplbpfdkcddlaaDoorW.PrintWords Go.Proofs.YtiplbpfdkcddlaaDoorW.PrintLast Go.Proofs.YtiplbpfdkcddlaaDoorW.PrintMore Go.Proofs.YtiplbpfdkcddlaaDoor.NL
set_option maxRecDepth 100000
theorem own : ownKnob Tryd.prog.godebug = none := by kernel_rfl
theorem laidOut : laidOutB Tryd.prog = true := by kernel_rfl
theorem gTab : Tryd.prog.globalNamed "soroban/decimal.formats" = some 0 := by kernel_rfl
theorem tTab : (Tryd.prog.globals[0]?).map (·.type) = some 85 := by kernel_rfl
theorem door_met (os : Os) (args : Array Value) : laidMetH Tryd.prog [("soroban/decimal.formats", Rows.laid_soroban_decimal_formats)] ((World.doorLaid Tryd.prog 14 os).forCall (fun _ _ => 0) ⟨#[], args, []⟩).memory :=
  laidMetH_of_parts3 (fuel := 8) (laidMet_of_run' 8 (by kernel_rfl) (by kernel_rfl)) (by kernel_rfl) (by kernel_rfl)
theorem row_of {H : Type} {enc : TypeId × Value → H} {W : World} {base : Nat} {sp : Nat → Bool} {held : Bool} {fuel : Nat} {cs : List Value} {p : List MemPlace} {a b c d e : Int}
    (h : DataW.trod enc Tryd.prog W base sp held fuel 55 cs = some (.agg [.lit (.int .i64 a), .lit (.int .i64 b), .lit (.int .i64 c), .lit (.int .i64 d), .lit (.int .i64 e)], p)) : cs = [.int .i64 a, .int .i64 b, .int .i64 c, .int .i64 d, .int .i64 e] := by
  obtain ⟨xs, n, -, hx, hlen, hl, hf⟩ := DataW.trod_struct Tryd.underlying55 h
  have hc : Tryd.prog.cellsOf 55 = 5 := by kernel_rfl
  have hc1 : Tryd.prog.cellsOf 3 = 1 := by kernel_rfl
  rw [hc] at hlen
  obtain ⟨c0, c1, c2, c3, c4, rfl⟩ : ∃ c0 c1 c2 c3 c4, cs = [c0, c1, c2, c3, c4] := by
    match cs, hlen with
    | [c0, c1, c2, c3, c4], _ => exact ⟨c0, c1, c2, c3, c4, rfl⟩
  obtain ⟨x0, x1, x2, x3, x4, rfl⟩ : ∃ x0 x1 x2 x3 x4, xs = [x0, x1, x2, x3, x4] := by
    match xs, hl with
    | [x0, x1, x2, x3, x4], _ => exact ⟨x0, x1, x2, x3, x4, rfl⟩
  obtain ⟨z0, e0, y0, -⟩ := DataW.trod_int Tryd.underlying3 (hf 0 _ rfl)
  obtain ⟨z1, e1, y1, -⟩ := DataW.trod_int Tryd.underlying3 (hf 1 _ rfl)
  obtain ⟨z2, e2, y2, -⟩ := DataW.trod_int Tryd.underlying3 (hf 2 _ rfl)
  obtain ⟨z3, e3, y3, -⟩ := DataW.trod_int Tryd.underlying3 (hf 3 _ rfl)
  obtain ⟨z4, e4, y4, -⟩ := DataW.trod_int Tryd.underlying3 (hf 4 _ rfl)
  simp [hc1] at e0 e1 e2 e3 e4
  subst e0 e1 e2 e3 e4
  simp [y0, y1, y2, y3, y4] at hx
  obtain ⟨⟨rfl, rfl, rfl, rfl, rfl⟩, -⟩ := hx
  rfl
theorem tab_of {W : World} (h : laidMetH Tryd.prog [("soroban/decimal.formats", Rows.laid_soroban_decimal_formats)] W) : Tab W := by
  rw [MakeChecks.laidMetH_plain _ _ _ (by kernel_rfl)] at h
  obtain ⟨ps, ⟨g', t', cs, fuel, p, q, hg', ht', hvar, hd, _, _⟩, _⟩ := h
  obtain rfl := Option.some.inj (gTab.symm.trans hg')
  obtain rfl := Option.some.inj (tTab.symm.trans ht')
  have hc : Tryd.prog.cellsOf 55 = 5 := by kernel_rfl
  have hct : Tryd.prog.cellsOf 85 = 15 := by kernel_rfl
  have hcs : cs.toList = fmts.map (Value.int .i64) := by
    cases fuel with
    | zero => simp [DataW.trod] at hd
    | succ fuel =>
      simp only [DataW.trod, Tryd.underlying85, hc, hct] at hd
      split at hd
      · rename_i hl
        obtain ⟨xs, hm, hx⟩ := Option.map_eq_some_iff.1 hd
        have hxl : xs.length = 3 := by simpa using Lib.mapM_length hm
        obtain ⟨x0, x1, x2, rfl⟩ : ∃ x0 x1 x2, xs = [x0, x1, x2] := by
          match xs, hxl with
          | [x0, x1, x2], _ => exact ⟨x0, x1, x2, rfl⟩
        obtain ⟨b0, hb0, hf0⟩ := Lib.mapM_at hm 0 0 rfl
        obtain ⟨b1, hb1, hf1⟩ := Lib.mapM_at hm 1 1 rfl
        obtain ⟨b2, hb2, hf2⟩ := Lib.mapM_at hm 2 2 rfl
        have hd0 := congrArg Prod.fst hx
        simp [Rows.laid_soroban_decimal_formats] at hd0
        obtain ⟨d0, d1, d2⟩ := hd0
        obtain rfl : x0 = b0 := by simpa using hb0
        obtain rfl : x1 = b1 := by simpa using hb1
        obtain rfl : x2 = b2 := by simpa using hb2
        obtain ⟨x0, q0⟩ := x0
        obtain ⟨x1, q1⟩ := x1
        obtain ⟨x2, q2⟩ := x2
        dsimp only at d0 d1 d2
        subst d0 d1 d2
        have r0 := row_of hf0
        have r1 := row_of hf1
        have r2 := row_of hf2
        have e : cs.toList = ((cs.toList.drop (0 * 5)).take 5) ++ ((cs.toList.drop (1 * 5)).take 5) ++ ((cs.toList.drop (2 * 5)).take 5) := by
          have hl2 : cs.toList.length = 15 := by simpa using hl
          generalize cs.toList = l at hl2
          match l, hl2 with
          | [a0, a1, a2, a3, a4, a5, a6, a7, a8, a9, a10, a11, a12, a13, a14], _ => rfl
        rw [e, r0, r1, r2]; rfl
      · cases hd
  have hcell : ∀ j, j < 15 → W.cell? ⟨0, j, none⟩ = some (.int .i64 (fmts.getD j 0)) := fun j hj => by
    rw [World.var?_cell gTab hvar j, ← Array.getElem?_toList, hcs, List.getElem?_map, List.getD_eq_getElem?_getD]
    have hl : j < fmts.length := hj
    rw [List.getElem?_eq_getElem hl]; rfl
  exact ⟨by simpa using World.block_lt_of_cell? _ _ (hcell 0 (by decide)), hcell⟩
theorem open_raw {H : Type} {enc : TypeId × Value → H} {W : World} {base b0 : Nat} {sp : Nat → Bool} {held : Bool} {v : Value} {d : DataW H} {p : List MemPlace} (hv : Value.okWide Tryd.prog W .any b0 37 v) (hd : DataW.Trod enc Tryd.prog W base sp held 37 v d p) :
    ∃ a b : Int, v = .agg #[.int .u64 a, .int .u64 b] ∧ (Lit.int .u64 a).wf = true ∧ (Lit.int .u64 b).wf = true := by
  obtain ⟨cs, rfl, hsz⟩ := okWide_struct Tryd.underlying37 hv
  have hc : Tryd.prog.cellsOf 37 = 2 := by kernel_rfl
  have hc1 : Tryd.prog.cellsOf 35 = 1 := by kernel_rfl
  rw [hc] at hsz
  obtain ⟨l⟩ := cs
  obtain ⟨c0, c1, rfl⟩ : ∃ c0 c1, l = [c0, c1] := by
    match l, hsz with
    | [c0, c1], _ => exact ⟨c0, c1, rfl⟩
  obtain ⟨fuel, hf⟩ := hd
  obtain ⟨y0, y1, m, -, -, hy0, hy1⟩ := trod_struct2 Tryd.underlying37 hf
  obtain ⟨a, e0, -, wa⟩ := DataW.trod_int Tryd.underlying35 hy0
  obtain ⟨b, e1, -, wb⟩ := DataW.trod_int Tryd.underlying35 hy1
  rw [hc1] at e0 e1
  simp [Value.cells] at e0 e1
  subst e0 e1
  exact ⟨a, b, rfl, wa, wb⟩
theorem open_datum {H : Type} {enc : TypeId × Value → H} {W : World} {base b0 : Nat} {held : Bool} {v : Value} {d : DataW H} {p : List MemPlace} (hv : Value.okWide Tryd.prog W .any b0 34 v) (hd : DataW.Trod enc Tryd.prog W base (fun _ => true) held 34 v d p) :
    ∃ (f cl : Int) (ng : Bool) (A : Option Addr) (n c : Nat) (ex : Int) (z : List Int), v = .agg #[.int .i64 f, .int .i64 cl, .bool ng, .slice A n c, .int .i64 ex] ∧ IsRow .u32 W A n c z := by
  obtain ⟨cs, rfl, hsz⟩ := okWide_struct Tryd.underlying34 hv
  have hc : Tryd.prog.cellsOf 34 = 5 := by kernel_rfl
  have hc1 : Tryd.prog.cellsOf 3 = 1 := by kernel_rfl
  have hc2 : Tryd.prog.cellsOf 4 = 1 := by kernel_rfl
  have hc3 : Tryd.prog.cellsOf 32 = 1 := by kernel_rfl
  rw [hc] at hsz
  obtain ⟨l⟩ := cs
  obtain ⟨c0, c1, c2, c3, c4, rfl⟩ : ∃ c0 c1 c2 c3 c4, l = [c0, c1, c2, c3, c4] := by
    match l, hsz with
    | [c0, c1, c2, c3, c4], _ => exact ⟨c0, c1, c2, c3, c4, rfl⟩
  obtain ⟨fuel, hf⟩ := hd
  obtain ⟨xs, n, _, -, _, hlen, hf⟩ := DataW.trod_struct Tryd.underlying34 hf
  have g0 := hf 0 _ rfl
  have g1 := hf 1 _ rfl
  have g2 := hf 2 _ rfl
  have g3 := hf 3 _ rfl
  have g4 := hf 4 _ rfl
  obtain ⟨x0, x1, x2, x3, x4, rfl⟩ : ∃ x0 x1 x2 x3 x4, xs = [x0, x1, x2, x3, x4] := by
    match xs, hlen with
    | [x0, x1, x2, x3, x4], _ => exact ⟨x0, x1, x2, x3, x4, rfl⟩
  obtain ⟨f, e0, -, -⟩ := DataW.trod_int Tryd.underlying3 g0
  obtain ⟨cl, e1, -, -⟩ := DataW.trod_int Tryd.underlying3 g1
  obtain ⟨ng, e2, -⟩ := DataW.trod_bool Tryd.underlying4 g2
  obtain ⟨ex, e4, -, -⟩ := DataW.trod_int Tryd.underlying3 g4
  simp [Value.cells, hc1, hc2] at e0 e1 e2 e4
  subst e0 e1 e2 e4
  rcases open_ints Tryd.underlying32 Tryd.underlying46 (by kernel_rfl) g3 with ⟨hcs, _⟩ | ⟨x, l, c, zs, hcs, _, hl, hm, hz, _, hcell, hwz⟩
  · simp [Value.cells, hc3] at hcs
    subst hcs
    exact ⟨f, cl, ng, none, 0, 0, ex, [], rfl, .inl ⟨rfl, rfl, rfl, rfl⟩⟩
  · simp [Value.cells, hc3] at hcs
    subst hcs
    exact ⟨f, cl, ng, some x, l, c, ex, zs, rfl, .inr ⟨_, rfl, hl, hm, by simpa using hz, hcell, hwz⟩⟩
set_option maxHeartbeats 4000000 in
theorem lifted (os : Os) (started : os.Started) (H : Type) (enc : TypeId × Value → H) :
    ReturnsInHanded {} Tryd.checked os 4 .any (fun w args => (Rows.decimalBackSpec.pre enc Tryd.prog Tryd.f4 [] false w args ∧ laidMetH Tryd.prog [("soroban/decimal.formats", Rows.laid_soroban_decimal_formats)] w) ∧ sizedMet enc Tryd.prog Tryd.f4 (OpenSpec.ofChange Rows.decimalBackSpec) false w args)
      (Rows.decimalBackSpec.post enc Tryd.prog Tryd.f4 false true false false) := by
  refine returnsInHanded_of_change_and (C := Tryd.checked) (X := fun w _ => laidMetH Tryd.prog [("soroban/decimal.formats", Rows.laid_soroban_decimal_formats)] w) (fun _ _ _ hh h => h.of_heap hh) own started (by kernel_rfl) Tryd.func4
    (ChangeSpec.witness_shaped (enc := enc) (C := Tryd.checked) (os := os) (X := fun w _ => laidMetH Tryd.prog [("soroban/decimal.formats", Rows.laid_soroban_decimal_formats)] w) false (World.doorLaid Tryd.prog 14 os) #[.agg #[.int .i64 0, .int .i64 0, .bool false, .slice none 0 0, .int .i64 0], .int .i64 0, .int .i64 0, .agg #[.int .u64 0, .int .u64 0]] 8 rfl (World.shaped_of_RefB (by kernel_rfl) (by kernel_rfl)) (by kernel_rfl) (by kernel_rfl) (by kernel_rfl) (door_met os _)) ?_
  intro W base args ds gs before hval0 hW _ hszq hL _
  have hval : ∀ (j : Nat) t v, Tryd.f4.params[j]? = some t → args[j]? = some v → Value.okWide Tryd.prog W .any base t v := hval0
  have hW' := hW
  obtain ⟨p, q, hA0, hV, rfl, hfz, hnd⟩ := hW
  have hA : DataW.TrodAll enc Tryd.prog W 0 (fun _ => true) true Tryd.f4.params.toList args.toList ds p := hA0
  rw [Tryd.params4] at hA hval
  obtain ⟨v0, vs0, d0, ds0, p0, q0, hargs, rfl, rfl, h0, r0⟩ := trodAll_cons hA
  obtain ⟨v1, vs1, d1, ds1, p1, q1, rfl, rfl, rfl, h1, r1⟩ := trodAll_cons r0
  obtain ⟨v2, vs2, d2, ds2, p2, q2, rfl, rfl, rfl, h2, r2⟩ := trodAll_cons r1
  obtain ⟨v3, vs3, d3, ds3, p3, q3, rfl, rfl, rfl, h3, r3⟩ := trodAll_cons r2
  obtain ⟨rfl, rfl, rfl⟩ := trodAll_nil r3
  obtain rfl : args = #[v0, v1, v2, v3] := by cases args; simp_all
  obtain ⟨rfl, rfl⟩ := trodVars_none hV
  have k0 := h0
  have lt0 : ∀ x ∈ p0, x.block < W.heap.size := by obtain ⟨m, hm⟩ := k0; exact DataW.trod_lt m _ _ _ hm
  obtain ⟨a0f, a0cl, a0ng, a0, len0, cap0, a0ex, z0, rfl, w0⟩ := open_datum (hval 0 34 v0 rfl rfl) h0
  obtain ⟨l0, rfl, hR0, hC0, hL0, hM0⟩ := nat_row w0
  obtain ⟨a1, rfl, rfl, rfl, w1⟩ := open_int Tryd.underlying3 (hval 1 3 v1 rfl rfl) h1
  obtain ⟨a2, rfl, rfl, rfl, w2⟩ := open_int Tryd.underlying3 (hval 2 3 v2 rfl rfl) h2
  have k3 := h3
  have lt3 : ∀ x ∈ p3, x.block < W.heap.size := by obtain ⟨m, hm⟩ := k3; exact DataW.trod_lt m _ _ _ hm
  obtain ⟨a3_0, a3_1, rfl, w3_0, w3_1⟩ := open_raw (hval 3 37 v3 rfl rfl) h3
  clear hA0 hval0
  have hT := tab_of hL
  refine (decimalBack_walk a0f a0cl a0ng a0 cap0 l0 a0ex a1 a2 a3_0 a3_1 W hR0 hC0 hL0 hM0 w1 w2 w3_0 w3_1 hT).mono fun e W' ⟨he, bel⟩ => ?_
  subst he
  exact ⟨_, rfl, _, _, _, [], _, [], hW', trodAll_mk1 (shut_bool Tryd.underlying4 _), (trodAll_cons_mk (Below.trod laidOut (by kernel_rfl) (of_decide_eq_true (by kernel_rfl)) k0 bel lt0) (trodAll_cons_mk (shut_int Tryd.underlying3 w1) (trodAll_cons_mk (shut_int Tryd.underlying3 w2) (trodAll_cons_mk (Below.trod laidOut (by kernel_rfl) (of_decide_eq_true (by kernel_rfl)) k3 bel lt3) trodAll_mk0)))), rfl, bel.frame _, fun h => by cases h⟩
theorem over : Rows.decimalBackRow.holds Tryd.pinned (OpenSpec.ofChange Rows.decimalBackSpec) :=
  OpenClaim.holds_of_wide 4 Tryd.f4 rfl rfl rfl rfl rfl rfl rfl ⟨rfl, rfl, rfl, rfl, rfl⟩ rfl rfl rfl rfl rfl (by kernel_rfl) Tryd.func4 (by kernel_rfl)
    (of_decide_eq_true (by kernel_rfl)) (by unfold Func.isWrapper; first | (rw [if_pos (by decide +kernel)]; kernel_rfl) | (rw [if_neg (by decide +kernel)]; exact ⟨rfl, rfl⟩))
    (fun os started H enc _ => lifted os started H enc)
theorem card : Rows.DecimalBackCardSaid :=
  Claim7.holds_tied_plain_at .later [] [.data] true Rows.decimalBackCard.stood.harness true
    over (fun _ h => by cases h) (by kernel_rfl) (fun _ h => by cases h) decimalBack_row_tie rfl ⟨rfl, rfl⟩ (by kernel_rfl) rfl
    (fun f fn hf hfn => by
      obtain rfl : f = 4 := Option.some.inj ((show Tryd.prog.funcNamed "soroban/sorobanlaw06.DecimalBack" = some 4 by kernel_rfl).symm.trans hf) |>.symm
      obtain rfl : fn = Tryd.f4 := (Option.some.inj (Tryd.func4.symm.trans hfn)).symm
      exact ⟨by kernel_rfl, fun j t ht => by
        rw [Tryd.params4] at ht
        have hm : t ∈ [34, 3, 3, 37] := by simpa using Array.mem_of_getElem? ht
        have hall : ([34, 3, 3, 37].all fun u => !Tryd.prog.wantsStandIn u) = true := by kernel_rfl
        exact (show Tryd.prog.wantsStandIn t = false by simpa using List.all_eq_true.1 hall t hm)⟩)
    (by kernel_rfl)
end Go.Proofs.YtiplbpfdkcddlaaDoor.decimalBack
namespace Go.Proofs.YtiplbpfdkcddlaaDoor
/-- The tied card, under a short name, for the claim. -/
theorem decimalBack_holds : Rows.DecimalBackCardSaid := decimalBack.card
end Go.Proofs.YtiplbpfdkcddlaaDoor
