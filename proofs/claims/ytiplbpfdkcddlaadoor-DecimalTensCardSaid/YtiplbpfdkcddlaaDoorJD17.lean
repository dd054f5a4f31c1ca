/- decimal.Cohort: what it returns. decimal.Cohort: its walk, and what it returns. Written by this session's own program (wip/tools/xprint.sh) for the law Same: what the law's functions compute, and that the machine does so, given the contracts of the program's functions. Written by this session's own program (wip/tools/xprint.sh) for the law Same: what the law's functions compute, and that the machine does so, given the contracts of the program's functions. Written by this session's own program (wip/tools/xprint.sh) for the law Equal: what the law's functions compute, and that the machine does so, given the contracts of the program's functions. -/
import Derived.Test.YtiplbpfdkcddlaaDoorJD13
import Derived.Test.YtiplbpfdkcddlaaDoorJD12
import Derived.Test.YtiplbpfdkcddlaaDoorProg
import Derived.Below
import Derived.Deep.Draws
import Derived.Deep.AppendLies
import Derived.Maps.AppendAt
import Derived.OwnWalk
import Derived.Laws.BytesArg
import Derived.Laws.MakeOwn
import Derived.Laws.OwnMore
import Derived.Deep.OwnRows
import Derived.Tactics
import Derived.Lib.ConvBytes
import Derived.Laws.Slices
import Derived.WalkKit
import Derived.KernelRfl
import Derived.RowKit3
import Derived.Deep.LoopGhost
import Derived.Deep.QuietTactic
import Derived.BigQuiet
import Derived.WideLaws
import Derived.Deep.DeepCutAuto
import Derived.Deep.CutBlock
import Derived.Deep.RegionHeld3
import Derived.Laws.Rows
import Derived.Lib.AppendStr
import Derived.ArgAppend
import Derived.Laws.IdiomCopy
import Derived.OrdersHeld
import Derived.Laws.BitsLemmas
import Derived.RowKit
import Derived.Test.YtiplbpfdkcddlaaDoorJD0
import Derived.Test.YtiplbpfdkcddlaaDoorJD1
import Derived.Test.YtiplbpfdkcddlaaDoorJD2
set_option linter.unusedSimpArgs false
set_option linter.unusedVariables false
set_option linter.unnecessarySimpa false
namespace Go.Proofs.YtiplbpfdkcddlaaDoor
open Go.RowKit Go.Proofs.YtiplbpfdkcddlaaDoorW.PrintWords Go.Proofs.YtiplbpfdkcddlaaDoorW.PrintLast Go.Proofs.YtiplbpfdkcddlaaDoorW.PrintMore Go.Proofs.YtiplbpfdkcddlaaDoor.NL
set_option maxRecDepth 100000
set_option exponentiation.threshold 33000

/-- The error of a datum that is wanted to be finite. -/
def finE (f cl : Int) (l : List Int) (ex : Int) : Int := if decOk f cl l ex then (if cl = 1 then 0 else 7) else 1
set_option maxHeartbeats 2000000 in
theorem dfinite_any {f cl ex : Int} {ng : Bool} {A : Option Addr} {n c : Nat} {l : List Int} (w : World) (hT : Tab w) (hA : Kd.C (Kd.int .u32) w A n l) (la : Lim l) (hc : n ≤ c) :
    Calls Tryd.prog 28 #[dV f cl ng A n c ex] w fun r w' => r = .returned (.int .i64 (finE f cl l ex)) ∧ Below w.heap.size w w' := by
  have HCk := Lib.hid fun w' (hb : Below w.heap.size w w') => dcheck_any (f := f) (cl := cl) (ng := ng) (ex := ex) w' (hT.below hb) (Kd.C_below hA hb) la hc
  clear hT hA
  unfold finE
  cases hd : decOk f cl l ex with
  | false =>
    simp only [hd, Bool.false_eq_true, if_false] at HCk ⊢
    go_enter Tryd.func28, Tryd.ntmps28
    go_wp2_with (first | fail | (go_at_call 13; (with_reducible refine (HCk.out _ bel).mono ?_); rintro r w1 ⟨rfl, b1⟩; obtain ⟨hc1, hf1⟩ := bcell b1; have hz1 := below_size b1; (try simp at hz1); have zz1_0 : w.heap.size < w1.heap.size := (by omega)))
    go_ret
    exact ⟨rfl, bel⟩
  | true =>
    simp only [hd, if_true] at HCk ⊢
    by_cases h1 : cl = 1
    · subst h1
      rw [if_pos rfl]
      go_enter Tryd.func28, Tryd.ntmps28
      go_wp2_with (first | fail | (go_at_call 13; (with_reducible refine (HCk.out _ bel).mono ?_); rintro r w1 ⟨rfl, b1⟩; obtain ⟨hc1, hf1⟩ := bcell b1; have hz1 := below_size b1; (try simp at hz1); have zz1_0 : w.heap.size < w1.heap.size := (by omega)))
      go_ret
      exact ⟨rfl, bel⟩
    · have t1 : (cl == 1) = false := beq_eq_false_iff_ne.mpr h1
      have t2 : (cl != 1) = true := by simpa using h1
      rw [if_neg h1]
      go_enter Tryd.func28, Tryd.ntmps28
      go_wp2_with (first | fail | (go_at_call 13; (with_reducible refine (HCk.out _ bel).mono ?_); rintro r w1 ⟨rfl, b1⟩; obtain ⟨hc1, hf1⟩ := bcell b1; have hz1 := below_size b1; (try simp at hz1); have zz1_0 : w.heap.size < w1.heap.size := (by omega)))
      go_ret
      exact ⟨rfl, bel⟩
/-- An iterator that was made: a function with the datum and the format. -/
def ItV (fn : Nat) (f cl : Int) (ng : Bool) (A : Option Addr) (n c : Nat) (ex : Int) (w : World) (r : Ending) (w' : World) : Prop :=
  ∃ gd gf : Nat, r = .returned (.func (.func fn) #[] #[.pointer (some ⟨gd, 0, none⟩), .pointer (some ⟨gf, 0, none⟩)]) ∧ BlkIs w' gd 34 (· = #[.int .i64 f, .int .i64 cl, .bool ng, .slice A n c, .int .i64 ex]) ∧ BlkIs w' gf 55 (· = #[.int .i64 (dP f), .int .i64 (dL f), .int .i64 (dH f), .int .i64 (dW f), .int .i64 (dT f)]) ∧ w.heap.size ≤ gd ∧ w.heap.size ≤ gf ∧ Below w.heap.size w w'
set_option maxHeartbeats 2000000 in
theorem longer_any {f cl ex : Int} {ng : Bool} {A : Option Addr} {n c : Nat} (w : World) (hf : isDec f = true) (hT : Tab w) :
    Calls Tryd.prog 29 #[dV f cl ng A n c ex] w (ItV 35 f cl ng A n c ex w) := by
  have HFo := Lib.hid fun w' (hb : Below w.heap.size w w') => formatOf_ok w' hf (hT.below hb)
  clear hT
  go_enter Tryd.func29, Tryd.ntmps29
  go_wp2_with (first | fail | (go_at_call 19; (with_reducible refine (HFo.out _ bel).mono ?_); rintro r w1 ⟨rfl, b1⟩; obtain ⟨hc1, hf1⟩ := bcell b1; have hz1 := below_size b1; (try simp at hz1); have zz1_0 : w.heap.size < w1.heap.size := (by omega)))
  go_ret
  exact ⟨_, _, rfl, blk0, blk0, (by first | omega | (simp; done) | (simp; omega)), (by first | omega | (simp; done) | (simp; omega)), bel⟩
set_option maxHeartbeats 2000000 in
theorem shorter_any {f cl ex : Int} {ng : Bool} {A : Option Addr} {n c : Nat} (w : World) (hf : isDec f = true) (hT : Tab w) :
    Calls Tryd.prog 30 #[dV f cl ng A n c ex] w (ItV 37 f cl ng A n c ex w) := by
  have HFo := Lib.hid fun w' (hb : Below w.heap.size w w') => formatOf_ok w' hf (hT.below hb)
  clear hT
  go_enter Tryd.func30, Tryd.ntmps30
  go_wp2_with (first | fail | (go_at_call 19; (with_reducible refine (HFo.out _ bel).mono ?_); rintro r w1 ⟨rfl, b1⟩; obtain ⟨hc1, hf1⟩ := bcell b1; have hz1 := below_size b1; (try simp at hz1); have zz1_0 : w.heap.size < w1.heap.size := (by omega)))
  go_ret
  exact ⟨_, _, rfl, blk0, blk0, (by first | omega | (simp; done) | (simp; omega)), (by first | omega | (simp; done) | (simp; omega)), bel⟩
/-- Between two rounds: one box holds what was yielded last. -/
structure CohJ (W1 : World) (p : Nat) (x : Int) (rec : Loop) (W : World) : Prop where
  hp : One W p 3 (.int .i64 x)
  hk : ∀ k, k < W1.heap.size → k ≠ p → W.heap[k]? = W1.heap[k]?
  hD : W.heap[W1.heap.size]? = some (.deferred (some []))
  hL : W.heap[W1.heap.size + 1]? = some (.loop rec)
  os : W.os = W1.os
  tape : W.tape = W1.tape
  output : W.output = W1.output
  lt : p < W1.heap.size
theorem CohJ.sz {W1 W : World} {p : Nat} {x : Int} {rec : Loop} (j : CohJ W1 p x rec W) : W1.heap.size + 1 < W.heap.size := blk_lt j.hL
theorem CohJ.below {W1 W W' : World} {p : Nat} {x : Int} {rec : Loop} (j : CohJ W1 p x rec W) (hb : Below W.heap.size W W') : CohJ W1 p x rec W' :=
  ⟨blk_below j.hp hb, fun k h1 h2 => (hb.block k (by have := j.sz; omega)).trans (j.hk k h1 h2), blk_below j.hD hb, blk_below j.hL hb, hb.os.trans j.os, hb.tape.trans j.tape, hb.output.trans j.output, j.lt⟩
theorem CohJ.cell {W1 W : World} {p b o : Nat} {x : Int} {rec : Loop} {v : Value} (j : CohJ W1 p x rec W) (h : W1.cell? ⟨b, o, none⟩ = some v) (hb : b ≠ p) : W.cell? ⟨b, o, none⟩ = some v := by
  have hlt : b < W1.heap.size := by simpa using World.block_lt_of_cell? _ _ h
  simp only [World.cell?] at h ⊢
  rw [j.hk b hlt hb]; exact h
/-- Elements of numbers stay: the box holds an int. -/
theorem CohJ.keeps {W1 W : World} {p : Nat} {x y : Int} {rec : Loop} (j : CohJ W1 p x rec W) (h : One W1 p 3 (.int .i64 y)) : KeepsU W1 W := fun b o u hu => by
  by_cases hb : b = p
  · subst hb
    exfalso
    by_cases ho : o = 0
    · subst ho
      have : W1.cell? ⟨b, 0, none⟩ = some (.int .i64 y) := by simpa using blk_cell h 0
      rw [this] at hu; cases hu
    · have hh : W1.heap[b]? = some (.cells #[.int .i64 y] 3 (0, 0)) := h
      simp [World.cell?, hh] at hu
      cases o with
      | zero => exact ho rfl
      | succ o => simp at hu
  · exact j.cell hu hb
theorem CohJ.bel {w0 W1 W : World} {p : Nat} {x : Int} {rec : Loop} (j : CohJ W1 p x rec W) (h : Below w0.heap.size w0 W1) (hp : w0.heap.size ≤ p) : Below w0.heap.size w0 W :=
  ⟨j.os.trans h.os, j.tape.trans h.tape, j.output.trans h.output, by have := j.sz; have := h.size; omega, fun k hk => (j.hk k (by have := h.size; omega) (by omega)).trans (h.block k hk)⟩
/-- One round: the box takes the exponent. -/
theorem coh_round {W1 W : World} {p D : Nat} {x y : Int} {fn : FuncId} {tmps : Array Value} {ps : Array Tmp} {assign body : Code} {args : Array Value} {rec : LoopState → Loop} (hrec : rec = fun st => loopRec fn tmps ps assign body D st) (hs : args.size = ps.size) (j : CohJ W1 p x (rec .ready) W) (a₁ : Act)
    (hassign : ∀ K : Act → World → Prop, K a₁ W → assign.wpIn (Fence.wide.inRound (W1.heap.size + 1)) 0 Tryd.prog (Exit.then K (fun _ _ _ => False)) { tmps := (ps.zip args).foldl (fun t (p, v) => t.setIfInBounds p v) tmps, defers := [] } W)
    (hbody : ∀ (W2 : World), W2.cell? ⟨p, 0, none⟩ = some (.int .i64 x) → W2.frozen? ⟨p, 0, none⟩ = false → p < W2.heap.size → ∀ Q : Exit → Act → World → Prop, (∀ a, Q .normal a (W2.setCell ⟨p, 0, none⟩ (.int .i64 y))) → body.wpIn (Fence.wide.inRound (W1.heap.size + 1)) 0 Tryd.prog Q a₁ W2) :
    YieldAt Fence.wide 0 Tryd.prog (W1.heap.size + 1) args W fun e W' => e = .returned (.bool true) ∧ CohJ W1 p y (rec .ready) W' ∧ KeepsU W W' := by
  refine yield_round hrec j.hL hs a₁ hassign ?_
  have hne : p ≠ W1.heap.size + 1 := by have := j.lt; omega
  have hne2 : p ≠ W1.heap.size := by have := j.lt; omega
  have h2 : One (W.putObj (W1.heap.size + 1) (.loop (rec .busy))) p 3 (.int .i64 x) := blk_putObj j.hp hne
  have hL2 : (W.putObj (W1.heap.size + 1) (.loop (rec .busy))).heap[W1.heap.size + 1]? = some (.loop (rec .busy)) := World.putObj_heap_same (blk_lt j.hL)
  have c2 : (W.putObj (W1.heap.size + 1) (.loop (rec .busy))).cell? ⟨p, 0, none⟩ = some (.int .i64 x) := by simpa using blk_cell h2 0
  refine hbody _ c2 (blk_frozen h2 0) (blk_lt h2) _ (fun a => ⟨rfl, obj_set hL2 (Ne.symm hne), ⟨⟨blk_putObj (blk_put h2 0 _ rfl) hne, fun k h3 h4 => ?_, ?_, ?_, j.os, j.tape, j.output, j.lt⟩, ?_⟩⟩)
  · rw [World.putObj_heap_other (by omega), Below.heap_setCell _ _ _ _ h4, World.putObj_heap_other (by omega)]
    exact j.hk k h3 h4
  · exact blk_putObj (obj_set (blk_putObj j.hD (by omega)) (Ne.symm hne2)) (by omega)
  · exact World.putObj_heap_same (by have := blk_lt hL2; simpa [World.setCell] using this)
  · exact KeepsU.trans (KeepsU.put j.hL) (KeepsU.trans (KeepsU.set c2) (KeepsU.put (obj_set hL2 (Ne.symm hne))))
end Go.Proofs.YtiplbpfdkcddlaaDoor

set_option linter.unusedSimpArgs false
set_option linter.unusedVariables false
set_option linter.unnecessarySimpa false
namespace Go.Proofs.YtiplbpfdkcddlaaDoor
open Go.RowKit Go.Proofs.YtiplbpfdkcddlaaDoorW.PrintWords Go.Proofs.YtiplbpfdkcddlaaDoorW.PrintLast Go.Proofs.YtiplbpfdkcddlaaDoorW.PrintMore Go.Proofs.YtiplbpfdkcddlaaDoor.NL
set_option maxRecDepth 100000
set_option exponentiation.threshold 33000

/-- How many data have one zero more each. -/
def kLong (L : Int) (B : Nat) : Nat → Nat → Int → Nat
  | 0, _, _ => 0
  | n + 1, C, ex => if L ≤ ex ∧ C < B then 1 + kLong L B n (C * 10) (ex - 1) else 0
/-- How many data have one zero less each. -/
def kShort (H : Int) : Nat → Nat → Int → Nat
  | 0, _, _ => 0
  | n + 1, C, ex => if ex ≤ H then 1 + (if C % 10 = 0 then kShort H n (C / 10) (ex + 1) else 0) else 0
theorem kLong_ok (L : Int) (B : Nat) : ∀ (n C : Nat) (ex : Int), ex - L < n → (∀ i, i < kLong L B n C ex → L ≤ ex - (i : Int) ∧ C * 10 ^ i < B) ∧ ¬ (L ≤ ex - (kLong L B n C ex : Int) ∧ C * 10 ^ (kLong L B n C ex) < B) ∧ kLong L B n C ex ≤ n := by
  intro n
  induction n with
  | zero =>
    intro C ex h
    show (∀ i, i < 0 → _) ∧ ¬ (L ≤ ex - ((0 : Nat) : Int) ∧ _) ∧ 0 ≤ 0
    exact ⟨fun i hi => by omega, fun h2 => by omega, Nat.le_refl _⟩
  | succ n ih =>
    intro C ex h
    by_cases hc : L ≤ ex ∧ C < B
    · have e : kLong L B (n + 1) C ex = 1 + kLong L B n (C * 10) (ex - 1) := by show (if L ≤ ex ∧ C < B then _ else _) = _; rw [if_pos hc]
      obtain ⟨h1, h2, h3⟩ := ih (C * 10) (ex - 1) (by omega)
      rw [e]
      refine ⟨fun i hi => ?_, ?_, by omega⟩
      · cases i with
        | zero => simpa using hc
        | succ i =>
          have := h1 i (by omega)
          rw [Nat.pow_succ, Nat.mul_comm (10 ^ i), ← Nat.mul_assoc]
          exact ⟨by omega, this.2⟩
      · rw [Nat.add_comm 1, Nat.pow_succ, Nat.mul_comm (10 ^ _), ← Nat.mul_assoc]
        intro h4
        exact h2 ⟨by omega, h4.2⟩
    · have e : kLong L B (n + 1) C ex = 0 := by show (if L ≤ ex ∧ C < B then _ else _) = _; rw [if_neg hc]
      rw [e]
      exact ⟨fun i hi => by omega, by simpa using hc, by omega⟩
theorem kShort_ok (H : Int) : ∀ (n C : Nat) (ex : Int), H - ex < n → (∀ i : Nat, i < kShort H n C ex → ex + (i : Int) ≤ H) ∧ (∀ i, i + 1 < kShort H n C ex → C / 10 ^ i % 10 = 0) ∧ ((¬ (ex + (kShort H n C ex : Int) ≤ H) ∧ (0 < kShort H n C ex → C / 10 ^ (kShort H n C ex - 1) % 10 = 0)) ∨ (0 < kShort H n C ex ∧ C / 10 ^ (kShort H n C ex - 1) % 10 ≠ 0)) ∧ kShort H n C ex ≤ n := by
  intro n
  induction n with
  | zero =>
    intro C ex h
    show (∀ i : Nat, i < 0 → _) ∧ (∀ i, i + 1 < 0 → _) ∧ ((¬ (ex + ((0 : Nat) : Int) ≤ H) ∧ (0 < 0 → _)) ∨ _) ∧ 0 ≤ 0
    exact ⟨fun i hi => by omega, fun i hi => by omega, .inl ⟨by omega, fun h => by omega⟩, Nat.le_refl _⟩
  | succ n ih =>
    intro C ex h
    by_cases hc : ex ≤ H
    · by_cases h0 : C % 10 = 0
      · have e : kShort H (n + 1) C ex = 1 + kShort H n (C / 10) (ex + 1) := by show (if ex ≤ H then _ else _) = _; rw [if_pos hc, if_pos h0]
        obtain ⟨h1, h2, h3, h4⟩ := ih (C / 10) (ex + 1) (by omega)
        have hd : ∀ i, C / 10 ^ (i + 1) = C / 10 / 10 ^ i := fun i => by rw [Nat.div_div_eq_div_mul, Nat.pow_succ, Nat.mul_comm]
        rw [e]
        refine ⟨fun i hi => ?_, fun i hi => ?_, ?_, by omega⟩
        · cases i with
          | zero => simpa using hc
          | succ i => have := h1 i (by omega); omega
        · cases i with
          | zero => simpa using h0
          | succ i => rw [hd]; exact h2 i (by omega)
        · rcases h3 with ⟨h5, h6⟩ | ⟨h5, h6⟩
          · refine .inl ⟨by omega, fun _ => ?_⟩
            rcases Nat.eq_zero_or_pos (kShort H n (C / 10) (ex + 1)) with hz | hz
            · rw [hz]; simpa using h0
            · have := h6 hz
              rw [show 1 + kShort H n (C / 10) (ex + 1) - 1 = (kShort H n (C / 10) (ex + 1) - 1) + 1 by omega, hd]; exact this
          · refine .inr ⟨by omega, ?_⟩
            rw [show 1 + kShort H n (C / 10) (ex + 1) - 1 = (kShort H n (C / 10) (ex + 1) - 1) + 1 by omega, hd]; exact h6
      · have e : kShort H (n + 1) C ex = 1 := by show (if ex ≤ H then _ else _) = _; rw [if_pos hc, if_neg h0]
        rw [e]
        exact ⟨fun i hi => by have : i = 0 := by omega
                              subst this; simpa using hc, fun i hi => by omega, .inr ⟨by omega, by simpa using h0⟩, by omega⟩
    · have e : kShort H (n + 1) C ex = 0 := by show (if ex ≤ H then _ else _) = _; rw [if_neg hc]
      rw [e]
      exact ⟨fun i hi => by omega, fun i hi => by omega, .inl ⟨by omega, fun h => by omega⟩, by omega⟩
/-- What a box holds behind so many rounds. -/
def lastX (s : Int) (ex : Int) (i : Nat) : Int := if i = 0 then 0 else ex + s * ((i : Int) - 1)
theorem lastX_succ (s ex : Int) (i : Nat) : lastX s ex (i + 1) = ex + s * (i : Int) := by
  unfold lastX; rw [if_neg (by omega)]; congr 1; congr 1; omega
set_option maxHeartbeats 8000000 in
theorem coh_core {f cl ex : Int} {ng : Bool} {A : Option Addr} {n c C K1 K2 : Nat} (w : World) (hA : Kd.C (Kd.int .u32) w A n (ofN C)) (hc : n ≤ c)
    (HFin : Hid (∀ w', Below w.heap.size w w' → Calls Tryd.prog 28 #[dV f cl ng A n c ex] w' fun r w'' => r = .returned (.int .i64 0) ∧ Below w'.heap.size w' w''))
    (HLo : Hid (∀ w', Below w.heap.size w w' → Calls Tryd.prog 29 #[dV f cl ng A n c ex] w' (ItV 35 f cl ng A n c ex w')))
    (HSh : Hid (∀ w', Below w.heap.size w w' → Calls Tryd.prog 30 #[dV f cl ng A n c ex] w' (ItV 37 f cl ng A n c ex w')))
    (HL1 : Hid (∀ (Lb gd gf : Nat) (J : Nat → World → Prop), (∀ i W, J i W → W.cell? ⟨gd, 3, none⟩ = some (.slice A n c) ∧ W.cell? ⟨gd, 4, none⟩ = some (.int .i64 ex) ∧ W.cell? ⟨gf, 0, none⟩ = some (.int .i64 (dP f)) ∧ W.cell? ⟨gf, 1, none⟩ = some (.int .i64 (dL f)) ∧ Kd.C (Kd.int .u32) W A n (ofN C)) →
      (∀ i W W', J i W → Below W.heap.size W W' → J i W') →
      (∀ i B m d W, i < K1 → J i W → Kd.C (Kd.int .u32) W B m (ofN (C * 10 ^ i)) → m ≤ d → YieldAt Fence.wide 0 Tryd.prog Lb #[.slice B m d, .int .i64 (ex - (i : Int))] W fun e W' => e = .returned (.bool true) ∧ J (i + 1) W' ∧ KeepsU W W') →
      ∀ W, J 0 W → Calls Tryd.prog 35 #[.func (.yield Lb) #[] #[], .pointer (some ⟨gd, 0, none⟩), .pointer (some ⟨gf, 0, none⟩)] W (ItPost (J K1))))
    (HS1 : Hid (∀ (Lb gd gf : Nat) (J : Nat → World → Prop), (∀ i W, J i W → W.cell? ⟨gd, 3, none⟩ = some (.slice A n c) ∧ W.cell? ⟨gd, 4, none⟩ = some (.int .i64 ex) ∧ W.cell? ⟨gf, 2, none⟩ = some (.int .i64 (dH f)) ∧ Kd.C (Kd.int .u32) W A n (ofN C)) →
      (∀ i W W', J i W → Below W.heap.size W W' → J i W') →
      (∀ i B m d W, i < K2 → J i W → Kd.C (Kd.int .u32) W B m (ofN (C / 10 ^ i)) → m ≤ d → YieldAt Fence.wide 0 Tryd.prog Lb #[.slice B m d, .int .i64 (ex + (i : Int))] W fun e W' => e = .returned (.bool true) ∧ J (i + 1) W' ∧ KeepsU W W') →
      ∀ W, J 0 W → Calls Tryd.prog 37 #[.func (.yield Lb) #[] #[], .pointer (some ⟨gd, 0, none⟩), .pointer (some ⟨gf, 0, none⟩)] W (ItPost (J K2)))) :
    Calls Tryd.prog 14 #[dV f cl ng A n c ex] w fun r w' => r = .returned (.tuple #[.int .i64 (lastX (-1) ex K1), .int .i64 (lastX 1 ex K2), .int .i64 0]) ∧ Below w.heap.size w w' := by
  have HC := Lib.hid hA
  clear hA
  refine calls_of_wp_dm Tryd.func14 rfl ?_
  simp only [Tryd.ntmps14, List.size_toArray, List.length_cons, List.length_nil, Nat.reduceAdd, Nat.reduceSub, Array.replicate_succ, Array.replicate_zero, List.push_toArray, List.append_toArray, List.nil_append, List.cons_append]
  go_wp2_with (first | fail | (go_at_call 28; (with_reducible refine (HFin.out _ bel).mono ?_); rintro r w1 ⟨rfl, b1⟩; obtain ⟨hc1, hf1⟩ := bcell b1; have hz1 := below_size b1; (try simp at hz1); have zz1_0 : w.heap.size < w1.heap.size := (by omega); have zz1_1 : w.heap.size + 1 < w1.heap.size := (by omega); have zz1_2 : w.heap.size + 1 + 1 < w1.heap.size := (by omega)) | (go_at_call 29; (with_reducible refine (HLo.out _ bel).mono ?_); rintro r w2 ⟨gd, gf, rfl, hbd, hbf, hgd, hgf, b2⟩; obtain ⟨hc2, hf2⟩ := bcell b2; have hz2 := below_size b2; (try simp at hz2)))
  have hd2 : BlkIs w2 w.heap.size 34 (· = #[.int .i64 f, .int .i64 cl, .bool ng, .slice A n c, .int .i64 ex]) := blk0
  have hp2 : One w2 (w.heap.size + 1) 3 (.int .i64 0) := BlkIs.one blk0
  have hq2 : One w2 (w.heap.size + 1 + 1) 3 (.int .i64 0) := BlkIs.one blk0
  have hb2 : Below w.heap.size w w2 := bel
  obtain ⟨csd, hbd, rfl⟩ := hbd
  obtain ⟨csf, hbf, rfl⟩ := hbf
  have HD2 := Lib.hid hd2
  have HP2 := Lib.hid hp2
  have HQ2 := Lib.hid hq2
  have HB2 := Lib.hid hb2
  have e3 : w2.cell? ⟨gd, 3, none⟩ = some (.slice A n c) := by simpa using blk_cell hbd 3
  have e4 : w2.cell? ⟨gd, 4, none⟩ = some (.int .i64 ex) := by simpa using blk_cell hbd 4
  have g0 : w2.cell? ⟨gf, 0, none⟩ = some (.int .i64 (dP f)) := by simpa using blk_cell hbf 0
  have g1 : w2.cell? ⟨gf, 1, none⟩ = some (.int .i64 (dL f)) := by simpa using blk_cell hbf 1
  have hC2 := Lib.hid (Kd.C_below HC.out hb2)
  have zp := blk_lt hp2
  refine wp_rangeFunc2 (gf := 35) (lb := #[.pointer (some ⟨gd, 0, none⟩), .pointer (some ⟨gf, 0, none⟩)]) rfl (fun _ _ => rfl) ?_
  intro fn rec hrec
  have h0 : CohJ w2 (w.heap.size + 1) (lastX (-1) ex 0) (rec .ready) ((w2.alloc (.deferred (some []))).alloc (.loop (rec .ready))) :=
    ⟨blk_alloc (blk_alloc hp2 _) _, fun k h1 _ => (below_alloc (below_alloc (Below.refl w2.heap.size w2) _) _).block k h1, blk_alloc (blk_new' _ rfl) _, blk_new' _ (by simp), rfl, rfl, rfl, zp⟩
  refine (HL1.out (w2.heap.size + 1) gd gf (fun i W => CohJ w2 (w.heap.size + 1) (lastX (-1) ex i) (rec .ready) W) (fun i W j => ⟨j.cell e3 (by omega), j.cell e4 (by omega), j.cell g0 (by omega), j.cell g1 (by omega), C_keeps hC2.out (j.keeps HP2.out)⟩) (fun i W W' j hb => j.below hb) ?hY _ h0).mono ?_
  case hY =>
    intro i B m d W hi j hCi hmd
    have e : lastX (-1) ex (i + 1) = ex - (i : Int) := by rw [lastX_succ]; omega
    rw [e]
    refine coh_round hrec rfl j ?act1 ?ha ?hb
    case ha =>
      intro K hK
      gi_wp2_with (rw [Oper.semAt_eq _ _ _ (fun c h => by cases h)]; go_simp; try go_bits)
      exact hK
    case hb =>
      intro W2 k1 k2 k3 Q hQ
      clear e
      gi_wp2_with (rw [Oper.semAt_eq _ _ _ (fun c h => by cases h)]; go_simp; try go_bits)
      exact hQ _
  rintro e w3 ⟨rfl, j3⟩
  refine .inl ⟨_, rfl, j3.hL, ?_⟩
  have hz3 := j3.sz
  obtain ⟨W4, hW4⟩ : ∃ W4, w3.putObj (w2.heap.size + 1) (.loop (rec .exhausted)) = W4 := ⟨_, rfl⟩
  have hsz4 : W4.heap.size = w3.heap.size := by rw [← hW4]; simp
  have o4 : ∀ (k : Nat) (o : Obj), k ≠ w.heap.size + 1 → w2.heap[k]? = some o → W4.heap[k]? = some o := fun k o h1 h2 => by
    have h3 := blk_lt h2
    rw [← hW4, World.putObj_heap_other (by omega), j3.hk k h3 h1]; exact h2
  obtain ⟨csd2, hdk2, hde2⟩ := HD2.out
  have hd4 : BlkIs W4 w.heap.size 34 (· = #[.int .i64 f, .int .i64 cl, .bool ng, .slice A n c, .int .i64 ex]) := ⟨csd2, o4 _ _ (by omega) hdk2, hde2⟩
  have hp4 : One W4 (w.heap.size + 1) 3 (.int .i64 (lastX (-1) ex K1)) := by rw [← hW4]; exact blk_putObj j3.hp (by omega)
  have hq4 : One W4 (w.heap.size + 1 + 1) 3 (.int .i64 0) := o4 _ _ (by omega) HQ2.out
  have hD4 : W4.heap[w2.heap.size]? = some (.deferred (some [])) := by rw [← hW4]; exact blk_putObj j3.hD (by omega)
  have hb4 : Below w.heap.size w W4 := by rw [← hW4]; exact below_putObj (j3.bel HB2.out (by omega)) (by omega)
  have HD4 := Lib.hid hD4
  have HB4 := Lib.hid hb4
  have HP4 := Lib.hid hp4
  have HQ4 := Lib.hid hq4
  have hC4 := Lib.hid (Kd.C_below HC.out hb4)
  have hlow : w2.heap.size + 1 < W4.heap.size := by omega
  have zp4 : w.heap.size + 1 < w2.heap.size := zp
  have zq4 : w.heap.size + 1 + 1 < w2.heap.size := blk_lt HQ2.out
  rw [hW4]
  obtain ⟨cs4, hbk4, rfl⟩ := hd4
  have f4_0 : W4.cell? ⟨w.heap.size, 0, none⟩ = some (.int .i64 f) := by simpa using blk_cell hbk4 0
  have f4_1 : W4.cell? ⟨w.heap.size, 1, none⟩ = some (.int .i64 cl) := by simpa using blk_cell hbk4 1
  have f4_2 : W4.cell? ⟨w.heap.size, 2, none⟩ = some (.bool ng) := by simpa using blk_cell hbk4 2
  have f4_3 : W4.cell? ⟨w.heap.size, 3, none⟩ = some (.slice A n c) := by simpa using blk_cell hbk4 3
  have f4_4 : W4.cell? ⟨w.heap.size, 4, none⟩ = some (.int .i64 ex) := by simpa using blk_cell hbk4 4
  clear h0 hW4 hrec j3 hz3 hsz4 o4 hdk2 hde2 hbd hbf e3 e4 g0 g1 hc1 hf1 hc2 hf2 hp4 hq4 hD4 hd2 hp2 hq2 hb2
  go_wp2_with (first | fail | (go_at_call 30; (with_reducible refine (HSh.out _ bel).mono ?_); rintro r w5 ⟨gd', gf', rfl, hbd, hbf, hgd', hgf', b5⟩; obtain ⟨hc5, hf5⟩ := bcell b5; have hz5 := below_size b5; (try simp at hz5)))
  have hp5 : One w5 (w.heap.size + 1) 3 (.int .i64 (lastX (-1) ex K1)) := blk_below HP4.out b5
  have hq5 : One w5 (w.heap.size + 1 + 1) 3 (.int .i64 0) := blk_below HQ4.out b5
  have hD5 : w5.heap[w2.heap.size]? = some (.deferred (some [])) := blk_below HD4.out b5
  have hb5 : Below w.heap.size w w5 := bel
  obtain ⟨csd, hbd, rfl⟩ := hbd
  obtain ⟨csf, hbf, rfl⟩ := hbf
  have HP5 := Lib.hid hp5
  have HQ5 := Lib.hid hq5
  have HD5 := Lib.hid hD5
  have HB5 := Lib.hid hb5
  have e3 : w5.cell? ⟨gd', 3, none⟩ = some (.slice A n c) := by simpa using blk_cell hbd 3
  have e4 : w5.cell? ⟨gd', 4, none⟩ = some (.int .i64 ex) := by simpa using blk_cell hbd 4
  have g2 : w5.cell? ⟨gf', 2, none⟩ = some (.int .i64 (dH f)) := by simpa using blk_cell hbf 2
  have hC5 := Lib.hid (Kd.C_below HC.out hb5)
  have zq := blk_lt hq5
  refine wp_rangeFunc2 (gf := 37) (lb := #[.pointer (some ⟨gd', 0, none⟩), .pointer (some ⟨gf', 0, none⟩)]) rfl (fun _ _ => rfl) ?_
  intro fn rec hrec
  have h0 : CohJ w5 (w.heap.size + 1 + 1) (lastX 1 ex 0) (rec .ready) ((w5.alloc (.deferred (some []))).alloc (.loop (rec .ready))) :=
    ⟨blk_alloc (blk_alloc hq5 _) _, fun k h1 _ => (below_alloc (below_alloc (Below.refl w5.heap.size w5) _) _).block k h1, blk_alloc (blk_new' _ rfl) _, blk_new' _ (by simp), rfl, rfl, rfl, zq⟩
  refine (HS1.out (w5.heap.size + 1) gd' gf' (fun i W => CohJ w5 (w.heap.size + 1 + 1) (lastX 1 ex i) (rec .ready) W) (fun i W j => ⟨j.cell e3 (by omega), j.cell e4 (by omega), j.cell g2 (by omega), C_keeps hC5.out (j.keeps HQ5.out)⟩) (fun i W W' j hb => j.below hb) ?hY2 _ h0).mono ?_
  case hY2 =>
    intro i B m d W hi j hCi hmd
    have e : lastX 1 ex (i + 1) = ex + (i : Int) := by rw [lastX_succ]; omega
    rw [e]
    refine coh_round hrec rfl j ?act2 ?ha2 ?hb2
    case ha2 =>
      intro K hK
      gi_wp2_with (rw [Oper.semAt_eq _ _ _ (fun c h => by cases h)]; go_simp; try go_bits)
      exact hK
    case hb2 =>
      intro W2 k1 k2 k3 Q hQ
      clear e
      gi_wp2_with (rw [Oper.semAt_eq _ _ _ (fun c h => by cases h)]; go_simp; try go_bits)
      exact hQ _
  rintro e w6 ⟨rfl, j6⟩
  refine .inl ⟨_, rfl, j6.hL, ?_⟩
  have hz6 := j6.sz
  obtain ⟨W7, hW7⟩ : ∃ W7, w6.putObj (w5.heap.size + 1) (.loop (rec .exhausted)) = W7 := ⟨_, rfl⟩
  have o7 : ∀ (k : Nat) (o : Obj), k ≠ w.heap.size + 1 + 1 → w5.heap[k]? = some o → W7.heap[k]? = some o := fun k o h1 h2 => by
    have h3 := blk_lt h2
    rw [← hW7, World.putObj_heap_other (by omega), j6.hk k h3 h1]; exact h2
  have hp7 : One W7 (w.heap.size + 1) 3 (.int .i64 (lastX (-1) ex K1)) := o7 _ _ (by omega) HP5.out
  have hq7 : One W7 (w.heap.size + 1 + 1) 3 (.int .i64 (lastX 1 ex K2)) := by rw [← hW7]; exact blk_putObj j6.hp (by omega)
  have hE7 : W7.heap[w2.heap.size]? = some (.deferred (some [])) := o7 _ _ (by omega) HD5.out
  have hD7 : W7.heap[w5.heap.size]? = some (.deferred (some [])) := by rw [← hW7]; exact blk_putObj j6.hD (by omega)
  have hb7 : Below w.heap.size w W7 := by rw [← hW7]; exact below_putObj (j6.bel HB5.out (by omega)) (by omega)
  have HE7 := Lib.hid hE7
  have HD7 := Lib.hid hD7
  have HP7 := Lib.hid hp7
  have HQ7 := Lib.hid hq7
  rw [hW7]
  have c1 : W7.cell? ⟨w.heap.size + 1, 0, none⟩ = some (.int .i64 (lastX (-1) ex K1)) := by simpa using blk_cell hp7 0
  have c2 : W7.cell? ⟨w.heap.size + 1 + 1, 0, none⟩ = some (.int .i64 (lastX 1 ex K2)) := by simpa using blk_cell hq7 0
  have c3 : W7.frozen? ⟨w.heap.size + 1, 0, none⟩ = false := blk_frozen hp7 0
  have c4 : W7.frozen? ⟨w.heap.size + 1 + 1, 0, none⟩ = false := blk_frozen hq7 0
  have zd : w2.heap.size < w5.heap.size := by omega
  clear h0 hW7 hrec j6 hz6 o7 hp7 hq7 hE7 hD7 hbd hbf e3 e4 g2 hc5 hf5 hp5 hq5 hD5 hb5 f4_0 f4_1 f4_2 f4_3 f4_4 hbk4
  generalize hx : lastX (-1) ex K1 = x at *
  generalize hy : lastX 1 ex K2 = y at *
  have HX := Lib.hid hx
  have HY := Lib.hid hy
  clear hx hy
  go_wp2_with fail
  go_region
  go_wp2_with fail
  rw [HX.out, HY.out]
  obtain ⟨W8, hW8⟩ : ∃ W8, ((W7.setCell ⟨w.heap.size + 1, 0, none⟩ (.int .i64 x)).setCell ⟨w.heap.size + 1 + 1, 0, none⟩ (.int .i64 y)).drew = W8 := ⟨_, rfl⟩
  have p8 : One W8 (w.heap.size + 1) 3 (.int .i64 x) := by
    rw [← hW8]
    exact (show One ((W7.setCell ⟨w.heap.size + 1, 0, none⟩ (.int .i64 x)).setCell ⟨w.heap.size + 1 + 1, 0, none⟩ (.int .i64 y)) (w.heap.size + 1) 3 (.int .i64 x) from obj_set (blk_put HP7.out 0 _ rfl) (by omega))
  have q8 : One W8 (w.heap.size + 1 + 1) 3 (.int .i64 y) := by
    rw [← hW8]
    exact (show One ((W7.setCell ⟨w.heap.size + 1, 0, none⟩ (.int .i64 x)).setCell ⟨w.heap.size + 1 + 1, 0, none⟩ (.int .i64 y)) (w.heap.size + 1 + 1) 3 (.int .i64 y) from blk_put (obj_set HQ7.out (by omega)) 0 _ rfl)
  have d8 : W8.heap[w5.heap.size]? = some (.deferred (some [])) := by
    rw [← hW8]
    exact (show ((W7.setCell ⟨w.heap.size + 1, 0, none⟩ (.int .i64 x)).setCell ⟨w.heap.size + 1 + 1, 0, none⟩ (.int .i64 y)).heap[w5.heap.size]? = _ from obj_set (obj_set HD7.out (by omega)) (by omega))
  have e8 : W8.heap[w2.heap.size]? = some (.deferred (some [])) := by
    rw [← hW8]
    exact (show ((W7.setCell ⟨w.heap.size + 1, 0, none⟩ (.int .i64 x)).setCell ⟨w.heap.size + 1 + 1, 0, none⟩ (.int .i64 y)).heap[w2.heap.size]? = _ from obj_set (obj_set HE7.out (by omega)) (by omega))
  have b8 : Below w.heap.size w W8 := by rw [← hW8]; exact bel
  rw [hW8]
  clear hW8 c1 c2 c3 c4
  refine leavesM_mark (by simp) (run_takeDeferred d8) ?_
  refine leavesM_mark (by simp) (run_takeDeferred (blk_putObj e8 (by omega))) ?_
  exact ⟨.tuple #[.int .i64 x, .int .i64 y, .int .i64 0], rresults (rs := [.cell 2 3, .cell 3 3, .tmp 4]) rfl (by simp) (.cell (w.heap.size + 1) rfl (load_one (t := 3) ⟨_, blk_putObj (blk_putObj p8 (by omega)) (by omega), rfl⟩ (by kernel_rfl)) (.cell (w.heap.size + 1 + 1) rfl (load_one (t := 3) ⟨_, blk_putObj (blk_putObj q8 (by omega)) (by omega), rfl⟩ (by kernel_rfl)) (.tmp (by rfl) .nil))), rfl, below_putObj (below_putObj b8 (by omega)) (by omega)⟩
/-- What Cohort returns. -/
def cohLo (f : Int) (C : Nat) (ex : Int) : Int := lastX (-1) ex (kLong (dL f) (10 ^ (pN f + 1)) 20000 C ex)
def cohHi (f : Int) (C : Nat) (ex : Int) : Int := lastX 1 ex (kShort (dH f) 20000 C ex)
def cohR (f cl : Int) (l : List Int) (ex : Int) : Int × Int × Int := if finE f cl l ex = 0 then (cohLo f (val l) ex, cohHi f (val l) ex, 0) else (0, 0, finE f cl l ex)
theorem fin_zero {f cl ex : Int} {l : List Int} (h : finE f cl l ex = 0) : isDec f = true ∧ okN l = true ∧ cl = 1 ∧ val l < 10 ^ (pN f + 1) ∧ dL f ≤ ex ∧ ex ≤ dH f := by
  unfold finE at h
  split at h
  · rename_i hd
    split at h
    · rename_i h1
      unfold decOk at hd
      rw [if_pos h1] at hd
      simp only [Bool.and_eq_true, decide_eq_true_eq] at hd
      exact ⟨hd.1, hd.2.1, h1, hd.2.2.1, hd.2.2.2.1, hd.2.2.2.2⟩
    · omega
  · omega
theorem dec_range {f : Int} (hf : isDec f = true) : -6176 ≤ dL f ∧ dH f ≤ 6111 ∧ 10 ^ (pN f + 1) ≤ 10 ^ 34 := by
  rcases dec_cases hf with rfl | rfl | rfl <;> decide +kernel
set_option maxHeartbeats 2000000 in
theorem dcoh_err {f cl ex er : Int} {ng : Bool} {A : Option Addr} {n c : Nat} (w : World) (he : (er != 0) = true)
    (HFin : Hid (∀ w', Below w.heap.size w w' → Calls Tryd.prog 28 #[dV f cl ng A n c ex] w' fun r w'' => r = .returned (.int .i64 er) ∧ Below w'.heap.size w' w'')) :
    Calls Tryd.prog 14 #[dV f cl ng A n c ex] w fun r w' => r = .returned (.tuple #[.int .i64 0, .int .i64 0, .int .i64 er]) ∧ Below w.heap.size w w' := by
  go_enter Tryd.func14, Tryd.ntmps14
  go_wp2_with (first | fail | (go_at_call 28; (with_reducible refine (HFin.out _ bel).mono ?_); rintro r w1 ⟨rfl, b1⟩; obtain ⟨hc1, hf1⟩ := bcell b1; have hz1 := below_size b1; (try simp at hz1); have zz1_0 : w.heap.size < w1.heap.size := (by omega); have zz1_1 : w.heap.size + 1 < w1.heap.size := (by omega); have zz1_2 : w.heap.size + 1 + 1 < w1.heap.size := (by omega)))
  exact bodyPost_ret (v := .tuple #[.int .i64 0, .int .i64 0, .int .i64 er]) (by simp [results, Tryd.results14, go_sem, *]) rfl ⟨rfl, bel⟩
theorem dcohort_any {f cl ex : Int} {ng : Bool} {A : Option Addr} {n c : Nat} {l : List Int} (w : World) (hT : Tab w) (hA : Kd.C (Kd.int .u32) w A n l) (la : Lim l) (hc : n ≤ c) :
    Calls Tryd.prog 14 #[dV f cl ng A n c ex] w fun r w' => r = .returned (.tuple #[.int .i64 (cohR f cl l ex).1, .int .i64 (cohR f cl l ex).2.1, .int .i64 (cohR f cl l ex).2.2]) ∧ Below w.heap.size w w' := by
  have HFin := Lib.hid fun w' (hb : Below w.heap.size w w') => dfinite_any (f := f) (cl := cl) (ng := ng) (ex := ex) w' (hT.below hb) (Kd.C_below hA hb) la hc
  unfold cohR
  by_cases h0 : finE f cl l ex = 0
  · rw [if_pos h0]
    rw [h0] at HFin
    obtain ⟨hf, hok, rfl, hv, e1, e2⟩ := fin_zero h0
    obtain ⟨r1, r2, r3⟩ := dec_range hf
    obtain ⟨n1, n2, n3, n4, n5, n6, n7, n8, n9, n10, n11⟩ := dec_nums hf
    have hl : l = ofN (val l) := (ofN_val la (okN_iff.1 hok).2).symm
    have hb : val l < 2 ^ 200 := Nat.lt_trans hv (Nat.lt_of_le_of_lt r3 (by decide +kernel))
    have hC2 := hA
    rw [hl] at hC2
    generalize val l = C at *
    obtain ⟨k1, k2, k3⟩ := kLong_ok (dL f) (10 ^ (pN f + 1)) 20000 C ex (by omega)
    obtain ⟨q1, q2, q3, q4⟩ := kShort_ok (dH f) 20000 C ex (by omega)
    exact coh_core w hC2 hc HFin (Lib.hid fun w' hb => longer_any w' hf (hT.below hb)) (Lib.hid fun w' hb => shorter_any w' hf (hT.below hb))
      (Lib.hid fun Lb gd gf J g1 g2 g3 W g4 => long_it (Pn := pN f + 1) hc (by rw [n3]; omega) (by omega) J (by omega) (by omega) k1 k2 hb g1 g2 g3 W g4)
      (Lib.hid fun Lb gd gf J g1 g2 g3 W g4 => short_it hc J (by omega) (by omega) q1 q2 q3 hb g1 g2 g3 W g4)
  · rw [if_neg h0]
    exact dcoh_err w (by simpa using h0) HFin
end Go.Proofs.YtiplbpfdkcddlaaDoor

namespace Go.Proofs.YtiplbpfdkcddlaaDoor.XSame
open Go.RowKit Go.Proofs.YtiplbpfdkcddlaaDoorW.PrintWords Go.Proofs.YtiplbpfdkcddlaaDoorW.PrintLast Go.Proofs.YtiplbpfdkcddlaaDoorW.PrintMore
attribute [local go_sem] max2_int min2_int max_two min_two max_three min_three max_four min_four   -- for this text's walks alone
set_option linter.unusedVariables false
set_option linter.unusedSimpArgs false

def errW : Option Int → Value
  | none => .nilIface
  | some c => .iface 0 (.int .i64 c)
theorem errW_none : errW none = .nilIface := rfl
theorem errW_some (c : Int) : errW (some c) = .iface 0 (.int .i64 c) := rfl

-- the values' own types

end Go.Proofs.YtiplbpfdkcddlaaDoor.XSame

namespace Go.Proofs.YtiplbpfdkcddlaaDoor.XSame
open Go.RowKit Go.Proofs.YtiplbpfdkcddlaaDoorW.PrintWords Go.Proofs.YtiplbpfdkcddlaaDoorW.PrintLast Go.Proofs.YtiplbpfdkcddlaaDoorW.PrintMore
attribute [local go_sem] max2_int min2_int max_two min_two max_three min_three max_four min_four   -- for this text's walks alone
set_option linter.unusedVariables false
set_option linter.unusedSimpArgs false

/-! ### sorobanref01_Same: function 15 -/
def sorobanref01_Same.l0 : Nat → List Int → List Int → Int → Option (Bool)
  | 0, _, _, _ => none
  | k + 1, x0, x1, x5 => if x5 < (x0.length : Int) then (if 0 ≤ x5 then (if x5 < (x1.length : Int) then (if (rd x0 x5) = (rd x1 x5) then (sorobanref01_Same.l0 k x0 x1 (wrap64 (x5 + 1))) else (some false)) else (none)) else (none)) else (some true)
def sorobanref01_Same.f (k : Nat) (l0 : List Int) (l1 : List Int) : Option (Bool) := if (l0.length : Int) = (l1.length : Int) then (sorobanref01_Same.l0 k l0 l1 0) else (some false)
theorem sorobanref01_Same.mono_l : ∀ k, (∀ y0 y1 y2, LeO (sorobanref01_Same.l0 k y0 y1 y2) (sorobanref01_Same.l0 (k + 1) y0 y1 y2))
  | 0 => fun _ _ _ r h => by simp [sorobanref01_Same.l0] at h
  | k + 1 => by
    have ih0 := sorobanref01_Same.mono_l k
    · intro y0 y1 y2
      unfold sorobanref01_Same.l0
      repeat' first
      | (with_reducible exact ih0 _ _ _)
      | (with_reducible exact LeO.refl _)
      | (with_reducible exact LeO.none _)
      | (with_reducible refine LeO.ite ?_ ?_)
      | (with_reducible refine LeO.bind ?_ (fun _ => ?_))
      | exact ih0 _ _ _
      | exact LeO.none _
      | refine LeO.ite ?_ ?_
      | refine LeO.bind ?_ (fun _ => ?_)
theorem sorobanref01_Same.mono : ∀ a0 a1 k, LeO (sorobanref01_Same.f k a0 a1) (sorobanref01_Same.f (k + 1) a0 a1) := by
  intro a0 a1 k
  have ih0 := sorobanref01_Same.mono_l k
  unfold sorobanref01_Same.f
  repeat' first
      | (with_reducible exact ih0 _ _ _)
      | (with_reducible exact LeO.refl _)
      | (with_reducible exact LeO.none _)
      | (with_reducible refine LeO.ite ?_ ?_)
      | (with_reducible refine LeO.bind ?_ (fun _ => ?_))
      | exact ih0 _ _ _
      | exact LeO.none _
      | refine LeO.ite ?_ ?_
      | refine LeO.bind ?_ (fun _ => ?_)
set_option maxHeartbeats 8000000 in
set_option maxRecDepth 100000 in
theorem sorobanref01_Same.calls (k : Nat) (A0 : Option Addr) (c0 : Nat) (l0 : List Int) (A1 : Option Addr) (c1 : Nat) (l1 : List Int) (r : Bool) (w : World) (hr0 : Kd.C (Kd.int .u32) w A0 l0.length l0) (hc0 : l0.length ≤ c0) (hr1 : Kd.C (Kd.int .u32) w A1 l1.length l1) (hc1 : l1.length ≤ c1) (h : sorobanref01_Same.f k l0 l1 = some r) :
    Calls Tryd.prog 15 #[.slice A0 l0.length c0, .slice A1 l1.length c1] w fun e w' => e = .returned (.bool r) ∧ Drawn0 w w' := by
  have HR0 := Aside0.mk hr0
  have HC0 := Aside0.mk hc0
  clear hr0 hc0
  have HR1 := Aside0.mk hr1
  have HC1 := Aside0.mk hc1
  clear hr1 hc1
  have H : (if (l0.length : Int) = (l1.length : Int) then (sorobanref01_Same.l0 k l0 l1 0) else (some false)) = some r := h
  clear h
  by_cases c3 : (l0.length : Int) = (l1.length : Int)
  · rw [if_pos c3] at H
    have c3b0 : ((l0.length : Int) == (l1.length : Int)) = true := beq_iff_eq.mpr c3
    have c3b1 : ((l0.length : Int) != (l1.length : Int)) = false := bne_eq_false_iff_eq.mpr c3
    have c3b2 : (l0.length == l1.length) = true := by first | simpa using c3 | (simp at c3 ⊢; omega)
    clear c3
    have H' := Aside0.mk H
    clear H
    go_enter Tryd.func15, Tryd.ntmps15
    go_wp2
    repeat (go_quiet (fail); try go_wp2)
    go_loopg [5] k (fun kq v5 w' => ∃ (x5_1 : Int), v5 = .int .i64 x5_1 ∧ Aside0 (sorobanref01_Same.l0 kq l0 l1 x5_1 = some r) ∧ Aside0 (kq ≤ k) ∧ Drawn0 w w')
    case atStart => exact ⟨(0), (by first | rfl | (simp; done) | (simp [*]; done) | (simp; omega)), H', ⟨Nat.le_refl _⟩, by repeat (first | exact Drawn0.refl _ | apply Drawn0.step)⟩
    case round =>
      clear H'
      try clear c1
      try clear p2
      try clear c3
      try clear c3b0
      try clear c3b1
      try clear c3b2
      obtain ⟨x5_1, rfl, HA, HK1, ⟨m1, rfl⟩⟩ := hrel
      cases gk with
      | zero => exact absurd HA.out (by simp [sorobanref01_Same.l0])
      | succ k1 =>
        have H := HA.out
        clear HA
        simp only [sorobanref01_Same.l0] at H
        by_cases c4 : x5_1 < (l0.length : Int)
        · rw [if_pos c4] at H
          have c4b0 : decide (x5_1 < (l0.length : Int)) = true := decide_eq_true c4
          clear c4
          by_cases c5 : 0 ≤ x5_1
          · rw [if_pos c5] at H
            have c5b0 : decide (0 ≤ x5_1) = true := decide_eq_true c5
            clear c5
            by_cases c6 : x5_1 < (l1.length : Int)
            · rw [if_pos c6] at H
              have c6b0 : decide (x5_1 < (l1.length : Int)) = true := decide_eq_true c6
              clear c6
              by_cases c7 : (rd l0 x5_1) = (rd l1 x5_1)
              · rw [if_pos c7] at H
                have c7b0 : ((rd l0 x5_1) == (rd l1 x5_1)) = true := beq_iff_eq.mpr c7
                have c7b1 : ((rd l0 x5_1) != (rd l1 x5_1)) = false := bne_eq_false_iff_eq.mpr c7
                clear c7
                have H' := Aside0.mk H
                clear H
                have p101 : 0 ≤ (x5_1 : Int) := of_decide_eq_true (by first | (with_reducible assumption) | assumption)
                have q101 : x5_1 < (l0.length : Int) := of_decide_eq_true (by first | (with_reducible assumption) | assumption)
                obtain ⟨ad101, e101, hx101_0⟩ := Kd.at_int HR0.out x5_1 p101 q101
                cases e101
                replace p101 := eq_true p101
                replace q101 := eq_true q101
                have p102 : 0 ≤ (x5_1 : Int) := of_decide_eq_true (by first | (with_reducible assumption) | assumption)
                have q102 : x5_1 < (l1.length : Int) := of_decide_eq_true (by first | (with_reducible assumption) | assumption)
                obtain ⟨ad102, e102, hx102_0⟩ := Kd.at_int HR1.out x5_1 p102 q102
                cases e102
                replace p102 := eq_true p102
                replace q102 := eq_true q102
                go_wp2
                repeat (go_quiet (fail); try go_wp2)
                go_roundg k1
                case measure => have := HK1.out; omega
                case rel => exact ⟨(wrap64 (x5_1 + 1)), (by first | rfl | (simp; done) | (simp [*]; done) | (simp; omega)), H', ⟨by have := HK1.out; omega⟩, by repeat (first | exact Drawn0.refl _ | apply Drawn0.step)⟩
              · rw [if_neg c7] at H
                have c7b0 : ((rd l0 x5_1) == (rd l1 x5_1)) = false := beq_eq_false_iff_ne.mpr c7
                have c7b1 : ((rd l0 x5_1) != (rd l1 x5_1)) = true := bne_iff_ne.mpr c7
                obtain rfl := Option.some.inj H
                have p101 : 0 ≤ (x5_1 : Int) := of_decide_eq_true (by first | (with_reducible assumption) | assumption)
                have q101 : x5_1 < (l0.length : Int) := of_decide_eq_true (by first | (with_reducible assumption) | assumption)
                obtain ⟨ad101, e101, hx101_0⟩ := Kd.at_int HR0.out x5_1 p101 q101
                cases e101
                replace p101 := eq_true p101
                replace q101 := eq_true q101
                have p102 : 0 ≤ (x5_1 : Int) := of_decide_eq_true (by first | (with_reducible assumption) | assumption)
                have q102 : x5_1 < (l1.length : Int) := of_decide_eq_true (by first | (with_reducible assumption) | assumption)
                obtain ⟨ad102, e102, hx102_0⟩ := Kd.at_int HR1.out x5_1 p102 q102
                cases e102
                replace p102 := eq_true p102
                replace q102 := eq_true q102
                go_wp2
                repeat (go_quiet (fail); try go_wp2)
                go_ret
                exact ⟨by first | rfl | (simp; done) | (simp [*]; done), by repeat (first | exact Drawn0.refl _ | apply Drawn0.step)⟩
            · rw [if_neg c6] at H
              exact absurd H (by simp)
          · rw [if_neg c5] at H
            exact absurd H (by simp)
        · rw [if_neg c4] at H
          have c4b0 : decide (x5_1 < (l0.length : Int)) = false := decide_eq_false c4
          clear c4
          obtain rfl := Option.some.inj H
          go_wp2
          repeat (go_quiet (fail); try go_wp2)
          go_ret
          exact ⟨by first | rfl | (simp; done) | (simp [*]; done), by repeat (first | exact Drawn0.refl _ | apply Drawn0.step)⟩
  · rw [if_neg c3] at H
    have c3b0 : ((l0.length : Int) == (l1.length : Int)) = false := beq_eq_false_iff_ne.mpr c3
    have c3b1 : ((l0.length : Int) != (l1.length : Int)) = true := bne_iff_ne.mpr c3
    have c3b2 : (l0.length == l1.length) = false := by first | simpa using c3 | (simp at c3 ⊢; omega)
    obtain rfl := Option.some.inj H
    go_enter Tryd.func15, Tryd.ntmps15
    go_wp2
    repeat (go_quiet (fail); try go_wp2)
    go_ret
    exact ⟨by first | rfl | (simp; done) | (simp [*]; done), by repeat (first | exact Drawn0.refl _ | apply Drawn0.step)⟩

/-- THE ONE PURE STATEMENT of sorobanref01_Same: yours. -/
def sorobanref01_Same.Pure : Prop := ∀ (l0 : List Int) (l1 : List Int), l0.length ≤ maxLen → l0.length * 4 ≤ 140737488351232 → (∀ x ∈ l0, (Lit.int .u32 x).wf = true) → l1.length ≤ maxLen → l1.length * 4 ≤ 140737488351232 → (∀ x ∈ l1, (Lit.int .u32 x).wf = true) → ∃ k, sorobanref01_Same.f k l0 l1 = some true
theorem sorobanref01_Same.walk (P : sorobanref01_Same.Pure) (a0 : Option Addr) (len0 cap0 : Nat) (z0 : List Int) (a1 : Option Addr) (len1 cap1 : Nat) (z1 : List Int) (w : World) (w0 : (a0 = none ∧ len0 = 0 ∧ cap0 = 0 ∧ z0 = []) ∨ ∃ x, a0 = some x ∧ len0 ≤ cap0 ∧ cap0 ≤ maxLen ∧ z0.length = cap0 ∧ (∀ i, i < z0.length → w.cell? (x.add i) = some (.int .u32 (z0.getD i 0))) ∧ ∀ n ∈ z0, (Lit.int .u32 n).wf = true) (y0 : len0 * 4 ≤ 140737488351232) (w1 : (a1 = none ∧ len1 = 0 ∧ cap1 = 0 ∧ z1 = []) ∨ ∃ x, a1 = some x ∧ len1 ≤ cap1 ∧ cap1 ≤ maxLen ∧ z1.length = cap1 ∧ (∀ i, i < z1.length → w.cell? (x.add i) = some (.int .u32 (z1.getD i 0))) ∧ ∀ n ∈ z1, (Lit.int .u32 n).wf = true) (y1 : len1 * 4 ≤ 140737488351232) :
    Calls Tryd.prog 15 #[.slice a0 len0 cap0, .slice a1 len1 cap1] w fun e w' => e = .returned (.bool true) ∧ Below w.heap.size w w' := by
  obtain ⟨l0, rfl, hr0, hm0, hw0, hc0⟩ := ReadsInt.ofRowC w0
  obtain ⟨l1, rfl, hr1, hm1, hw1, hc1⟩ := ReadsInt.ofRowC w1
  obtain ⟨k, h⟩ := P l0 l1 hm0 y0 hw0 hm1 y1 hw1
  refine (sorobanref01_Same.calls k _ _ l0 _ _ l1 true w (Kd.C_of_reads (d := (0 : Int)) (h1 := fun _ => rfl) hr0) hc0 (Kd.C_of_reads (d := (0 : Int)) (h1 := fun _ => rfl) hr1) hc1 h).mono ?_
  rintro e w' ⟨rfl, hd⟩
  exact ⟨rfl, hd.below⟩

end Go.Proofs.YtiplbpfdkcddlaaDoor.XSame

namespace Go.Proofs.YtiplbpfdkcddlaaDoor.XEqual
open Go.RowKit Go.Proofs.YtiplbpfdkcddlaaDoorW.PrintWords Go.Proofs.YtiplbpfdkcddlaaDoorW.PrintLast Go.Proofs.YtiplbpfdkcddlaaDoorW.PrintMore
attribute [local go_sem] max2_int min2_int max_two min_two max_three min_three max_four min_four   -- for this text's walks alone
set_option linter.unusedVariables false
set_option linter.unusedSimpArgs false

def errW : Option Int → Value
  | none => .nilIface
  | some c => .iface 0 (.int .i64 c)
theorem errW_none : errW none = .nilIface := rfl
theorem errW_some (c : Int) : errW (some c) = .iface 0 (.int .i64 c) := rfl

-- the values' own types

end Go.Proofs.YtiplbpfdkcddlaaDoor.XEqual
