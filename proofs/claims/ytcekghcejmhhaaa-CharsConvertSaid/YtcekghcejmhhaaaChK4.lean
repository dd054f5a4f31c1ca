/- Joined: GenRange, CharsO, GenYield, CharsP, CharsQ: contracts of functions of the program, and plain laws. -/
import Derived.Test.YtcekghcejmhhaaaChK1
import Derived.RangeFuncLeaves
import Derived.RangeFuncOwn
import Derived.TacticsIn
import Derived.BigFrameIn
import Derived.LoopIn
import Derived.Test.YtcekghcejmhhaaaChK3
import Derived.OwnWalkIn
import Derived.RangeFuncBox
import Derived.Deep.RegionHeld3
import Derived.Deep.DeepCutAuto
import Derived.BigQuiet
set_option linter.unusedSimpArgs false
set_option linter.unusedVariables false
set_option linter.unnecessarySimpa false
/- General: a function that defers and ranges over a function ('for x := range seq'), in the plain calculus; the iterator may panic. Over any program. -/
namespace Go.Proofs.Ytcekghcejmhhaaa
open Go.RowKit Go.Proofs.YtcekghcejmhhaaaW.PrintWords Go.Proofs.YtcekghcejmhhaaaW.PrintLast Go.Proofs.YtcekghcejmhhaaaW.PrintMore

section
variable {P : Program}
/-- On the way out: deferred calls, and marks of ranges over functions in whose rounds nothing was deferred. -/
def LeavesM (P : Program) (fn : Func) (tmps : Array Value) (R : Ending → World → Prop) : List Deferred → FrameMode → World → Prop
  | [], u, w => Leaves P fn tmps R [] u w
  | d :: ds, u, w => u ≠ .run ∧
      ((∃ r w', d.target = .collected r ∧ (Instr.takeDeferred r).run P w = .ok [] w' ∧ LeavesM P fn tmps R ds u w') ∨
       (∃ fv cap f args, d.target = .fn fv cap ∧ (invoke d.target d.args).run P w = .ok (.enter f args) w ∧
        CallsD P f args u w fun
          | .returned _, u', w' => LeavesM P fn tmps R ds (settle u') w'
          | .panicked chain, u', w' => LeavesM P fn tmps R ds (raised u' chain) w'
          | .outgrown, _, w' => R .outgrown w'))

theorem leavesM_mark {fn : Func} {tmps : Array Value} {R : Ending → World → Prop} {ds : List Deferred} {u : FrameMode} {w w' : World} {r : Nat} {args : Array Value} (hu : u ≠ .run) (ht : (Instr.takeDeferred r).run P w = .ok [] w') (h : LeavesM P fn tmps R ds u w') :
    LeavesM P fn tmps R ({ target := .collected r, args } :: ds) u w := ⟨hu, .inl ⟨r, w', rfl, ht, h⟩⟩
theorem leavesM_cons {fn : Func} {tmps : Array Value} {R : Ending → World → Prop} {fv : Fn} {cap dargs : Array Value} {ds : List Deferred} {u : FrameMode}
    {w : World} {f : FuncId} {args : Array Value} (hu : u ≠ .run) (hi : (invoke (.fn fv cap) dargs).run P w = .ok (.enter f args) w)
    (h : CallsD P f args u w fun
      | .returned _, u', w' => LeavesM P fn tmps R ds (settle u') w'
      | .panicked chain, u', w' => LeavesM P fn tmps R ds (raised u' chain) w'
      | .outgrown, _, w' => R .outgrown w') :
    LeavesM P fn tmps R ({ target := .fn fv cap, args := dargs } :: ds) u w :=
  ⟨hu, .inr ⟨fv, cap, f, args, rfl, hi, h⟩⟩

theorem leavesM_steps {fn : Func} {tmps : Array Value} {R : Ending → World → Prop} : ∀ (ds : List Deferred) (u : FrameMode) (w : World) (fr : Frame) (cs : List Frame),
    fr.mode = u → fr.defers = ds → fr.tmps = tmps → P.funcs[fr.fn]? = some fn → fr.kind = .normal → LeavesM P fn tmps R ds u w →
    ∃ e w' fr', R e w' ∧ Comes P (lone fr cs w) (lone fr' cs w') e ∧ fr'.fn = fr.fn ∧ fr'.leaving P w' e
  | [], u, w, fr, cs, hu, hd, ht, hf, hk, h => leaves_steps [] u w fr cs hu hd ht hf hk h
  | d :: ds, u, w, fr, cs, hu, hd, ht, hf, hk, h => by
    obtain ⟨hrun, h⟩ := h
    rcases h with ⟨r, w', htar, htake, hrest⟩ | ⟨fv, cap, f, args, htar, hinv, hcall⟩
    · obtain ⟨e', w'', fr', hR', hs', hfn', hl'⟩ := leavesM_steps ds u w' { fr with defers := [] ++ ds } cs hu rfl ht hf hk hrest
      exact ⟨e', w'', fr', hR', Comes.of_steps (.one (step_collected (cs := cs) (hu ▸ hrun) hd htar htake)) hs', hfn', hl'⟩
    · have h1 := step_defer (cs := cs) (hu ▸ hrun) hd htar hinv
      obtain ⟨e, u', w', frX, hR, hsteps, hkX, hgo⟩ := hcall { fr with defers := ds } cs hu
      cases e with
      | returned v =>
        have h2 := step_going_returned (c := { { fr with defers := ds } with mode := u' }) (cs := cs) hkX hgo
        obtain ⟨e', w'', fr', hR', hs', hfn', hl'⟩ := leavesM_steps ds (settle u') w' { { { fr with defers := ds } with mode := u' } with mode := settle u' } cs rfl rfl ht hf hk hR
        exact ⟨e', w'', fr', hR', Comes.of_steps (.head h1 (Steps.trans hsteps (.one h2))) hs', hfn', hl'⟩
      | panicked chain =>
        have h2 := step_going_panicked (c := { { fr with defers := ds } with mode := u' }) (cs := cs) hgo
        obtain ⟨e', w'', fr', hR', hs', hfn', hl'⟩ := leavesM_steps ds (raised u' chain) w' { { { fr with defers := ds } with mode := u' } with mode := raised u' chain } cs rfl rfl ht hf hk hR
        exact ⟨e', w'', fr', hR', Comes.of_steps (.head h1 (Steps.trans hsteps (.one h2))) hs', hfn', hl'⟩
      | outgrown => exact ⟨.outgrown, w', fr, hR, Outgrown.of_steps (.one h1) hsteps, rfl, trivial⟩

/-- What the body of such a function must come to. -/
def bodyPostDM (P : Program) (fn : Func) (R : Ending → World → Prop) : Exit → Act → World → Prop
  | .normal, a, w | .ret, a, w => LeavesM P fn a.tmps R a.defers .returning w
  | .panic chain, a, w => LeavesM P fn a.tmps R a.defers (.panicking chain) w
  | .outgrown, _, w => R .outgrown w
  | _, _, _ => False

theorem calls_of_wp_dm {f : FuncId} {fn : Func} {c : Code} {args : Array Value} {w : World} {R : Ending → World → Prop}
    (hf : P.funcs[f]? = some fn) (hb : fn.body = some c)
    (h : c.wp P (bodyPostDM P fn R) { tmps := args ++ Array.replicate (fn.ntmps - args.size) undef, defers := [] } w) : Calls P f args w R := by
  intro cs
  obtain ⟨b, hbd⟩ : ∃ b : Frame, b = { (default : Frame) with fn := f, kind := .normal } := ⟨_, rfl⟩
  have henter : Frame.enter P f args .normal = b.at { tmps := args ++ Array.replicate (fn.ntmps - args.size) undef, defers := [] } [.code c] := by
    simp [Frame.enter, Frame.at, hf, hb, hbd]
  have hbf : b.fn = f := by rw [hbd]
  have hbk : b.kind = .normal := by rw [hbd]
  obtain ⟨e, a', w', hq, harr⟩ := h b [] cs
  rw [← henter] at harr
  have out : ∀ (u : FrameMode) (todo : List Item), LeavesM P fn a'.tmps R a'.defers u w' → Steps P (lone (Frame.enter P f args .normal) cs w) (lone { b.at a' todo with mode := u } cs w') →
      ∃ e w'' fr, R e w'' ∧ Comes P (lone (Frame.enter P f args .normal) cs w) (lone fr cs w'') e ∧ fr.fn = f ∧ fr.leaving P w'' e := by
    intro u todo hl hs
    obtain ⟨e', w'', fr', hR, hs', hfn, hlv⟩ := leavesM_steps a'.defers u w' { b.at a' todo with mode := u } cs rfl rfl rfl (by show P.funcs[b.fn]? = _; rw [hbf]; exact hf) hbk hl
    exact ⟨e', w'', fr', hR, Comes.of_steps hs hs', hfn.trans hbf, hlv⟩
  cases e with
  | normal => exact out .returning [] hq (Steps.trans harr (.one step_end))
  | ret =>
    obtain ⟨todo, hs⟩ := harr
    exact out .returning todo hq hs
  | panic chain =>
    obtain ⟨todo, hs⟩ := harr
    exact out (.panicking chain) todo hq hs
  | exit id => exact hq.elim
  | goto l => exact hq.elim
  | outgrown => exact ⟨.outgrown, w', b, hq, harr.resolve_left (by rw [hbk]; simp), hbf, trivial⟩

/-- The record of a range over a function, ready | pending a jump. -/
def loopRec (fn : FuncId) (tmps : Array Value) (ps : Array Tmp) (assign body : Code) (D : Nat) (st : LoopState) : Loop := { state := st, pending := none, fn, tmps, params := ps, assign, body, defers := D }

/-- A range over a function none of whose rounds is left early: the iterator is called with yield; it returns with the record ready, or panics. -/
theorem wp_rangeFunc {g : Operand} {ps : Array Tmp} {assign body : Code} {Q : Exit → Act → World → Prop} {a : Act} {w : World} {gf : Nat} {lb : Array Value}
    (hg : a.eval g = .func (.func gf) #[] lb) (eg : ∀ args w, (callFunc gf args).run P w = .ok (.enter gf args) w)
    (h : ∀ fn : FuncId, Calls P gf (#[.func (.yield (w.heap.size + 1)) #[] #[]] ++ lb) ((w.alloc (.deferred (some []))).alloc (.loop (loopRec fn a.tmps ps assign body w.heap.size .ready))) fun e w3 =>
      (∃ v, e = .returned v ∧ w3.heap[w.heap.size + 1]? = some (.loop (loopRec fn a.tmps ps assign body w.heap.size .ready)) ∧
        Q .normal { a with defers := { target := .collected w.heap.size, args := #[] } :: a.defers } (w3.putObj (w.heap.size + 1) (.loop (loopRec fn a.tmps ps assign body w.heap.size .exhausted)))) ∨
      (∃ chain, e = .panicked chain ∧ Q (.panic chain) { a with defers := { target := .collected w.heap.size, args := #[] } :: a.defers } w3)) :
    (Code.rangeFunc g ps assign body).wp P Q a w := by
  refine wpIn_wide (n := 0) |>.1 (wpIn_rangeFunc fun fn _ => ?_)
  have he := run_enterLoop_outer (P := P) (w := w) fn a.tmps ps assign body
  have hfn := h fn
  obtain ⟨W1, hW1⟩ : ∃ W1, (w.alloc (.deferred (some []))).alloc (.loop (loopRec fn a.tmps ps assign body w.heap.size .ready)) = W1 := ⟨_, rfl⟩
  rw [hW1] at hfn
  refine ⟨w.heap.size + 1, [{ target := .collected w.heap.size, args := #[] }], W1, { target := .fn (.func gf) lb, args := #[.func (.yield (w.heap.size + 1)) #[] #[]] }, W1, gf,
    #[.func (.yield (w.heap.size + 1)) #[] #[]] ++ lb, W1, by rw [← hW1]; exact he, ?_, fun _ _ => trivial, ?_, fun hd => by simp [Fence.wide] at hd, ?_⟩
  · simp only [resolve, hg]
    simp [go_sem]
  · simp [invoke, go_sem, eg]
  · refine callsIn_wide.2 (hfn.mono ?_)
    rintro e w3 (⟨v, rfl, hl, hq⟩ | ⟨chain, rfl, hq⟩)
    · exact ⟨none, _, run_endLoop hl (by simp [loopRec]), hq⟩
    · exact hq
end
end Go.Proofs.Ytcekghcejmhhaaa

namespace Go.Proofs.Ytcekghcejmhhaaa
open Go.RowKit Go.Proofs.YtcekghcejmhhaaaW.PrintWords Go.Proofs.YtcekghcejmhhaaaW.PrintLast Go.Proofs.YtcekghcejmhhaaaW.PrintMore
set_option maxRecDepth 100000

theorem nextS_14 {n s : Int} {t : List Int} : nextS n s (14 :: t) = nextS (n + 1) 1 t := by cases t <;> simp [nextS]
theorem nextS_15 {n s : Int} {t : List Int} : nextS n s (15 :: t) = nextS (n + 1) 0 t := by cases t <;> simp [nextS]
theorem nextS_st : ∀ (b : List Int) (n s : Int), (s = 0 ∨ s = 1) → (nextS n s b).st = 0 ∨ (nextS n s b).st = 1
  | [], n, s, _ => .inl rfl
  | x :: t, n, s, hs => by
    by_cases h1 : x = 14
    · subst h1; rw [nextS_14]; exact nextS_st t _ _ (.inr rfl)
    · by_cases h2 : x = 15
      · subst h2; rw [nextS_15]; exact nextS_st t _ _ (.inl rfl)
      · rw [nextS_other h1 h2]
        split
        · split <;> simp [Step.bad]
        · split
          · simp [Step.bad]
          · split
            · simp [Step.part]
            · split <;> simp [Step.bad]

theorem nextS_bytes : ∀ (b : List Int) (n s : Int), (nextS n s b).kind = 1 → n + 1 ≤ (nextS n s b).bytes ∧ (nextS n s b).bytes ≤ n + b.length
  | [], n, s, h => by simp [nextS, Step.part] at h
  | x :: t, n, s, h => by
    by_cases h1 : x = 14
    · subst h1; rw [nextS_14] at h ⊢
      have := nextS_bytes t _ _ h
      simp only [List.length_cons]; omega
    · by_cases h2 : x = 15
      · subst h2; rw [nextS_15] at h ⊢
        have := nextS_bytes t _ _ h
        simp only [List.length_cons]; omega
      · rw [nextS_other h1 h2] at h ⊢
        split at h
        · rename_i h3
          rw [if_pos h3]
          split at h
          · simp [Step.bad] at h
          · rename_i h4
            rw [if_neg h4]; simp only [List.length_cons]; omega
        · rename_i h3
          rw [if_neg h3]
          split at h
          · simp [Step.bad] at h
          · rename_i h4
            rw [if_neg h4]
            cases t with
            | nil => simp [Step.part] at h
            | cons y t' =>
              simp only at h ⊢
              split at h
              · simp [Step.bad] at h
              · rename_i h5
                rw [if_neg h5]; simp only [List.length_cons]; omega

theorem restS_bytes (n : Int) : ∀ (r : Nat) (c lo hi : Int) (t : List Int), (restS n r c lo hi t).kind = 1 → (restS n r c lo hi t).bytes = n ∧ r ≤ t.length
  | 0, c, lo, hi, t, _ => ⟨rfl, Nat.zero_le _⟩
  | r + 1, c, lo, hi, [], h => by simp [restS, Step.part] at h
  | r + 1, c, lo, hi, x :: t, h => by
    rw [restS] at h ⊢
    split at h
    · simp [Step.bad] at h
    · rename_i h1
      rw [if_neg h1]
      split at h
      · simp [Step.bad] at h
      · rename_i h2
        rw [if_neg h2]
        have := restS_bytes n r _ _ _ t h
        simp only [List.length_cons]; omega

def BytesOk (S : Step) (m : Nat) : Prop := S.kind = 1 → 1 ≤ S.bytes ∧ S.bytes ≤ m
theorem BytesOk.ite {c : Prop} [Decidable c] {a b : Step} {m : Nat} (h1 : BytesOk a m) (h2 : BytesOk b m) : BytesOk (if c then a else b) m := by split <;> assumption
theorem BytesOk.rest {n : Int} {r : Nat} {c lo hi : Int} {t : List Int} (hn : n = r + 1) : BytesOk (restS n r c lo hi t) (t.length + 1) := fun h => by
  have := restS_bytes n r c lo hi t h
  omega
theorem BytesOk.bad {m : Nat} : BytesOk .bad m := fun h => by simp [Step.bad] at h
theorem nextU_bytes (b : List Int) : BytesOk (nextU b) b.length := by
  cases b with
  | nil => intro h; simp [nextU, Step.part] at h
  | cons x t =>
    rw [nextU]
    simp only [List.length_cons]
    refine .ite (fun _ => ⟨by simp, by simp; omega⟩) ?_
    repeat' (first | exact BytesOk.bad | exact BytesOk.rest rfl | refine BytesOk.ite ?_ ?_)
theorem nextC_bytes {enc s : Int} {b : List Int} (h : (nextC enc s b).kind = 1) : 1 ≤ (nextC enc s b).bytes ∧ (nextC enc s b).bytes ≤ b.length := by
  unfold nextC at h ⊢
  split at h
  · rename_i h1
    rw [if_pos h1]
    cases b with
    | nil => simp [nextO, Step.part] at h
    | cons x t => simp [nextO]; omega
  · rename_i h1
    rw [if_neg h1]
    split at h
    · rename_i h2; rw [if_pos h2]; exact nextU_bytes b h
    · rename_i h2; rw [if_neg h2]; have := nextS_bytes b 0 s h; omega
theorem nextC_st3 {s : Int} {b : List Int} (hs : s = 0 ∨ s = 1) : (nextC 3 s b).st = 0 ∨ (nextC 3 s b).st = 1 := nextS_st b 0 s hs

/-- One step of reading. -/
theorem decodeLoop_step {enc st : Int} {f : Nat} {at_ : Int} {b : List Int} (h1 : passedC enc b = false) (h2 : (nextC enc st b).kind = 1) :
    decodeLoop enc (f + 1) st at_ b = ((at_, (nextC enc st b).ch) :: (decodeLoop enc f (nextC enc st b).st (at_ + (nextC enc st b).bytes) (b.drop (nextC enc st b).bytes.toNat)).1, (decodeLoop enc f (nextC enc st b).st (at_ + (nextC enc st b).bytes) (b.drop (nextC enc st b).bytes.toNat)).2) := by
  rw [decodeLoop, if_neg (by rw [h1]; simp), if_pos h2]
theorem decodeLoop_stop {enc st : Int} {f : Nat} {at_ : Int} {b : List Int} (h1 : passedC enc b = true) : decodeLoop enc f st at_ b = ([], none) := by
  cases f with
  | zero => rfl
  | succ f => rw [decodeLoop, if_pos h1]
theorem decodeLoop_fail {enc st : Int} {f : Nat} {at_ : Int} {b : List Int} (h1 : passedC enc b = false) (h2 : ¬ (nextC enc st b).kind = 1) : decodeLoop enc (f + 1) st at_ b = ([], some at_) := by
  rw [decodeLoop, if_neg (by rw [h1]; simp), if_neg h2]
theorem passedC_nil (enc : Int) : passedC enc [] = true := by unfold passedC; split <;> rfl

/-- The iterator's loop, after some characters. -/
def IterRel (enc : Int) (xs : List Int) (J : List (Int × Int) → World → Prop) (w : World) (vs va : Value) : Prop :=
  ∃ (k f : Nat) (st : Int) (pre : List (Int × Int)), k ≤ xs.length ∧ xs.length - k ≤ f ∧ pre.length ≤ k ∧ va = .int .i64 k ∧ vs = .int .i64 st ∧ (enc = 3 → st = 0 ∨ st = 1) ∧ J pre w ∧
    decodeLoop enc xs.length 0 0 xs = (pre ++ (decodeLoop enc f st k (xs.drop k)).1, (decodeLoop enc f st k (xs.drop k)).2)
end Go.Proofs.Ytcekghcejmhhaaa

/- General: one round of a range over a function, in the plain calculus' fence. Over any program. -/
namespace Go.Proofs.Ytcekghcejmhhaaa
open Go.RowKit Go.Proofs.YtcekghcejmhhaaaW.PrintWords Go.Proofs.YtcekghcejmhhaaaW.PrintLast Go.Proofs.YtcekghcejmhhaaaW.PrintMore

section
variable {P : Program}
theorem loopRec_busy (fn : FuncId) (tmps : Array Value) (ps : Array Tmp) (assign body : Code) (D : Nat) (st st' : LoopState) : { loopRec fn tmps ps assign body D st with state := st' } = loopRec fn tmps ps assign body D st' := rfl

/-- One round that is not left early. -/
theorem yield_round {L D : Nat} {fn : FuncId} {tmps : Array Value} {ps : Array Tmp} {assign body : Code} {args : Array Value} {W : World} {R : World → Prop} {rec : LoopState → Loop}
    (hrec : rec = fun st => loopRec fn tmps ps assign body D st) (hl : W.heap[L]? = some (.loop (rec .ready))) (hs : args.size = ps.size) (a₁ : Act)
    (hassign : ∀ K : Act → World → Prop, K a₁ W → assign.wpIn (Fence.wide.inRound L) 0 P (Exit.then K (fun _ _ _ => False)) { tmps := (ps.zip args).foldl (fun t (p, v) => t.setIfInBounds p v) tmps, defers := [] } W)
    (hbody : body.wpIn (Fence.wide.inRound L) 0 P (fun e _ W3 => e = .normal ∧ W3.heap[L]? = some (.loop (rec .busy)) ∧ R (W3.putObj L (.loop (rec .ready)))) a₁
      (W.putObj L (.loop (rec .busy)))) :
    YieldAt Fence.wide 0 P L args W fun e W' => e = .returned (.bool true) ∧ R W' := by
  subst hrec
  have hy := run_yield (P := P) (args := args) hl hs
  refine ⟨fn, _, assign, body, hy, roundIn_of_wpIn trivial (hassign _ ⟨_, run_beginRound hl rfl, ?_⟩)⟩
  refine wpIn_mono hbody ?_
  rintro e a3 W3 ⟨rfl, h3, hr⟩
  have hre := run_endRound (P := P) none h3
  exact ⟨_, _, hre, rfl, hr⟩

theorem wp_rangeFunc2 {g : Operand} {ps : Array Tmp} {assign body : Code} {Q : Exit → Act → World → Prop} {a : Act} {w : World} {gf : Nat} {lb : Array Value}
    (hg : a.eval g = .func (.func gf) #[] lb) (eg : ∀ args w, (callFunc gf args).run P w = .ok (.enter gf args) w)
    (h : ∀ (fn : FuncId) (rec : LoopState → Loop) (_ : rec = fun st => loopRec fn a.tmps ps assign body w.heap.size st), Calls P gf (#[.func (.yield (w.heap.size + 1)) #[] #[]] ++ lb) ((w.alloc (.deferred (some []))).alloc (.loop (rec .ready))) fun e w3 =>
      (∃ v, e = .returned v ∧ w3.heap[w.heap.size + 1]? = some (.loop (rec .ready)) ∧
        Q .normal { a with defers := { target := .collected w.heap.size, args := #[] } :: a.defers } (w3.putObj (w.heap.size + 1) (.loop (rec .exhausted)))) ∨
      (∃ chain, e = .panicked chain ∧ Q (.panic chain) { a with defers := { target := .collected w.heap.size, args := #[] } :: a.defers } w3)) :
    (Code.rangeFunc g ps assign body).wp P Q a w := wp_rangeFunc hg eg fun fn => h fn _ rfl
end

theorem OwnI.snoc {k : IntKind} {e : TypeId} {base : Nat} {w w' : World} {v' : Value} {xs : List Int} {inner : List Value} {ok : Nat → Prop} {x : Int} (hr : Reps ((Kd.int k).M w base ok) (Kd.int k).sz xs inner)
    (h : w'.ownsRow base e 1 v' (xs.length + 1) (inner ++ [.int k x])) : OwnI k e base w' v' (xs ++ [x]) :=
  ⟨fun _ _ => trivial, inner ++ [.int k x], by rw [List.length_append]; exact h, by
    have h1 : Reps ((Kd.int k).M w' base fun j => (fun _ => True) j ∧ some j ≠ v'.ownBlock) (Kd.int k).sz xs inner := hr.imp_ (fun p c hp => hp)
    exact Reps.snoc (c := [.int k x]) h1 (show [Value.int k x] = [Value.int k x] from rfl) rfl⟩

/-- Blocks ahead of n are as they were. -/
structure Old (n : Nat) (W W' : World) : Prop where
  os : W'.os = W.os
  tape : W'.tape = W.tape
  output : W'.output = W.output
  size : W.heap.size ≤ W'.heap.size
  block : ∀ k, k < n → k < W.heap.size → W'.heap[k]? = W.heap[k]?

/-- Blocks of cells of another type than these. -/
def KeepsT (t : TypeId) (W W' : World) : Prop := ∀ (g : Nat) (cs : Array Value), W.heap[g]? = some (Obj.cells cs t (0, 0)) → W'.heap[g]? = some (Obj.cells cs t (0, 0))
theorem KeepsT.trans {t : TypeId} {A B C : World} (h : KeepsT t A B) (k : KeepsT t B C) : KeepsT t A C := fun g cs hg => k g cs (h g cs hg)
theorem KeepsT.putObj {t : TypeId} {W : World} {L : Nat} {o : Obj} (o' : Obj) (h : W.heap[L]? = some o) (ho : o.isCells = false) : KeepsT t W (W.putObj L o') := fun g cs hg => by
  rw [World.putObj_heap_other (by rintro rfl; rw [h] at hg; cases hg; cases ho)]; exact hg
theorem KeepsT.alloc {t : TypeId} {W : World} (o : Obj) : KeepsT t W (W.alloc o) := fun g cs hg => blk_alloc hg o
theorem KeepsT.setCell {t t' : TypeId} {W : World} {p : Nat} {v u : Value} (h : One W p t' v) (ht : t ≠ t') : KeepsT t W (W.setCell ⟨p, 0, none⟩ u) := fun g cs hg => by
  rw [Below.heap_setCell _ _ _ _ (by rintro rfl; rw [show W.heap[_]? = _ from h] at hg; simp at hg; exact ht hg.2.symm)]; exact hg
theorem KeepsT.grown {t e : TypeId} {W W' : World} {base size k : Nat} {v : Value} {xs : List Value} (hg : W.grownBy W' v.ownBlock) (hr : W.ownsRow base e size v k xs) (ht : t ≠ e) : KeepsT t W W' := fun g cs h => by
  refine (hg.block g (Array.getElem?_eq_some_iff.1 h).1 ?_).trans h
  intro he
  rcases hr.2 with ⟨rfl, _⟩ | ⟨g', cap, cur, rfl, _, hgb, _⟩
  · simp [Value.ownBlock] at he
  · have : g = g' := by simpa [Value.ownBlock] using he
    subst this
    rw [h] at hgb; simp at hgb; exact ht hgb.2
theorem KeepsT.below {t : TypeId} {W W' : World} (h : Below W.heap.size W W') : KeepsT t W W' := fun g cs hg => blk_below hg h

theorem obj_set {w : World} {g p : Nat} {o : Obj} {u : Value} (h : w.heap[g]? = some o) (hne : g ≠ p) : (w.setCell ⟨p, 0, none⟩ u).heap[g]? = some o := (Below.heap_setCell _ _ _ _ hne).trans h
theorem blk_putObj {w : World} {g L : Nat} {o o' : Obj} (h : w.heap[g]? = some o) (hne : g ≠ L) : (w.putObj L o').heap[g]? = some o := (World.putObj_heap_other hne).trans h
theorem below_putObj {w w1 : World} {L : Nat} {o : Obj} (h : Below w.heap.size w w1) (hL : w.heap.size ≤ L) : Below w.heap.size w (w1.putObj L o) :=
  ⟨h.os, h.tape, h.output, by simpa using h.size, fun k hk => (World.putObj_heap_other (by omega)).trans (h.block k hk)⟩
theorem OwnI.putObj {k : IntKind} {e : TypeId} {base : Nat} {w : World} {v : Value} {xs : List Int} {L : Nat} {o : Obj} (h : OwnI k e base w v xs) (hL : L < base) : OwnI k e base (w.putObj L o) v xs :=
  Kd.R_mono (Kd.R_step (Kd.R_bound h) (fun j hj _ => World.putObj_heap_other (by have := hj.2.1; omega))) (fun _ _ => trivial)
theorem OwnI.grown {k : IntKind} {e : TypeId} {base : Nat} {w w1 : World} {v : Value} {xs : List Int} (h : OwnI k e base w v xs) {n : Nat} (hg : ∀ j, base ≤ j → j < w.heap.size → w1.heap[j]? = w.heap[j]?) (_ : n = n) : OwnI k e base w1 v xs :=
  Kd.R_mono (Kd.R_step (Kd.R_bound h) (fun j hj hlt => hg j hj.2.1 hlt)) (fun _ _ => trivial)
theorem cell_one_new' (w : World) (x : Value) (t : TypeId) : ∀ j u, [x][j]? = some u → (w.alloc (.cells #[x] t)).cell? ((⟨w.heap.size, 0, none⟩ : Addr).add j) = some u := by
  intro j u hj
  cases j with
  | zero =>
    simp at hj
    subst hj
    simp [Addr.add]
  | succ j => simp at hj
/-- A row's own block lies behind its base. -/
theorem own_base_le {w : World} {base : Nat} {e : TypeId} {size k : Nat} {v : Value} {xs : List Value} (h : w.ownsRow base e size v k xs) {g : Nat} (hg : v.ownBlock = some g) : base ≤ g := own_base h g hg
end Go.Proofs.Ytcekghcejmhhaaa

namespace Go.Proofs.Ytcekghcejmhhaaa
open Go.RowKit Go.Proofs.YtcekghcejmhhaaaW.PrintWords Go.Proofs.YtcekghcejmhhaaaW.PrintLast Go.Proofs.YtcekghcejmhhaaaW.PrintMore
set_option maxRecDepth 100000


theorem Byt.drop {xs : List Int} (h : Byt xs) (k : Nat) : Byt (xs.drop k) := fun i => by
  have := h (k + i)
  simpa [List.getD_eq_getElem?_getD] using this
theorem nil_next_1 (w : World) : (nilAhead 231 100 (.agg #[]) "soroban/chars.next").run Try.prog w = .ok (some false) w := by kernel_rfl
theorem nil_next_2 (w : World) : (nilAhead 231 101 (.agg #[]) "soroban/chars.next").run Try.prog w = .ok (some false) w := by kernel_rfl
theorem nil_next_3 (w : World) : (nilAhead 231 102 (.agg #[]) "soroban/chars.next").run Try.prog w = .ok (some false) w := by kernel_rfl
def IterPost (enc : Int) (xs : List Int) (J : List (Int × Int) → World → Prop) (e : Ending) (W : World) : Prop :=
  J (decodeLoop enc xs.length 0 0 xs).1 W ∧ (((decodeLoop enc xs.length 0 0 xs).2 = none ∧ e = .returned (.tuple #[])) ∨ ∃ a, (decodeLoop enc xs.length 0 0 xs).2 = some a ∧ e = .panicked (failed 15 a))


def StepAt (S : Step) (w0 : World) (v6 : Value) (w : World) : Prop :=
  ∃ g : Nat, v6 = .pointer (some ⟨g, 0, none⟩) ∧ BlkIs w g 45 (· = #[.int .i64 S.kind, .int .u32 S.ch, .int .i64 S.bytes, .int .i64 S.st]) ∧ Below w0.heap.size w0 w

set_option maxHeartbeats 4000000 in
theorem iter_1 (A : Option Addr) (c : Nat) (xs : List Int) (hm : xs.length ≤ 1000000000) (hc : xs.length ≤ c) (hx : Byt xs) (L gx gb : Nat) (J : List (Int × Int) → World → Prop)
    (hJ : ∀ pre W, J pre W → One W gx 79 (.iface 100 (.agg #[])) ∧ One W gb 24 (.slice A xs.length c) ∧ Kd.C (Kd.int .u8) W A xs.length xs)
    (hJb : ∀ pre W W', J pre W → Below W.heap.size W W' → J pre W')
    (hY : ∀ pre (x : Int × Int) W, J pre W → pre.length < xs.length → YieldAt Fence.wide 0 Try.prog L #[.int .i64 x.1, .int .u32 x.2] W fun e W' => e = .returned (.bool true) ∧ J (pre ++ [x]) W' ∧ KeepsT 45 W W')
    (W : World) (h0 : J [] W) :
    Calls Try.prog 50 #[.func (.yield L) #[] #[], .pointer (some ⟨gx, 0, none⟩), .pointer (some ⟨gb, 0, none⟩)] W (IterPost 1 xs J) := by
  have HST : Hid (IterRel 1 xs J W (.int .i64 0) (.int .i64 0)) := Lib.hid ⟨0, xs.length, 0, [], Nat.zero_le _, by omega, Nat.le_refl _, rfl, rfl, fun _ => .inl rfl, h0, by simp⟩
  have m1 := meth_next_1
  have m2 := nil_next_1
  have HJ := Lib.hid hJ
  have HJB := Lib.hid hJb
  have HY := Lib.hid hY
  clear hJ hJb hY h0
  go_enter Try.func50, Try.ntmps50
  go_wp2
  go_loopw [4, 5] (fun vs va wr => IterRel 1 xs J wr vs va) (fun _ va _ => xs.length - (intOf va).toNat)
  case atStart => exact HST.out
  case round =>
    obtain ⟨k, f, st, pre, hk, hf, hpk, rfl, rfl, hst, hj, hr⟩ := hrel
    have HK := Lib.hid hk
    have HF := Lib.hid hf
    have HPK := Lib.hid hpk
    have HS := Lib.hid hst
    have HJ0 := Lib.hid hj
    have HR := Lib.hid hr
    obtain ⟨hgx, hgb, hC⟩ := HJ.out _ _ hj
    have HGX := Lib.hid hgx
    have HGB := Lib.hid hgb
    have HC := Lib.hid hC
    have cx : wr.cell? ⟨gx, 0, none⟩ = some (.iface 100 (.agg #[])) := by simpa using blk_cell hgx 0
    have cb : wr.cell? ⟨gb, 0, none⟩ = some (.slice A xs.length c) := by simpa using blk_cell hgb 0
    have lx := blk_lt hgx
    have lb := blk_lt hgb
    obtain ⟨A', hsl, hC', hcc⟩ := drop_int (P := Try.prog) 24 5 Try.underlying24 (by kernel_rfl) A c xs k hk hc
    have HC' : Hid (∀ w, Below wr.heap.size wr w → Kd.C (Kd.int .u8) w A' (xs.length - k) (xs.drop k)) := Lib.hid (fun w hb => hC' _ _ (C_of_below hC hb))
    clear hk hf hpk hst hj hr hgx hgb hC hC'
    by_cases hp : passedC 1 (xs.drop k) = true
    · have HP := Lib.hid hp
      clear hp
      go_wp2
      go_region_held3 (fun w' => w'.cell? ⟨gx, 0, none⟩ = some (.iface 100 (.agg #[])) ∧ w'.cell? ⟨gb, 0, none⟩ = some (.slice A xs.length c)) (first | (go_keep; done) | (go_split_ands; refine ⟨?_, ?_⟩ <;> (rw [hc1 _ _ (by simp; omega)]; assumption))) ((go_at_call 51; refine (passed_1 A' (xs.length - k) _ (xs.drop k) _ (HC'.out _ bel)).mono ?_; rintro e w1 ⟨rfl, hb1⟩; obtain ⟨hc1, hf1⟩ := bcell hb1))
      rename_i hHeld
      clear hHeld
      have hpt : (Value.bool !passedC 1 (xs.drop k)) = .bool false := by rw [HP.out]; rfl
      rw [hpt, HP.out]
      go_wp2
      have he : decodeLoop 1 xs.length 0 0 xs = (pre, none) := by rw [HR.out, decodeLoop_stop HP.out]; simp
      go_end0
      exact ⟨by rw [he]; exact HJB.out _ _ _ HJ0.out bel, .inl ⟨by rw [he], rfl⟩⟩
    · have hp2 : passedC 1 (xs.drop k) = false := by simpa using hp
      have HP := Lib.hid hp2
      clear hp hp2
      have hkn : k < xs.length := by
        rcases Nat.lt_or_ge k xs.length with h | h
        · exact h
        · have := HP.out
          rw [List.drop_eq_nil_of_le h, passedC_nil] at this
          simp at this
      go_wp2
      go_region_held3 (fun w' => w'.cell? ⟨gx, 0, none⟩ = some (.iface 100 (.agg #[])) ∧ w'.cell? ⟨gb, 0, none⟩ = some (.slice A xs.length c)) (first | (go_keep; done) | (go_split_ands; refine ⟨?_, ?_⟩ <;> (rw [hc1 _ _ (by simp; omega)]; assumption))) ((go_at_call 51; refine (passed_1 A' (xs.length - k) _ (xs.drop k) _ (HC'.out _ bel)).mono ?_; rintro e w1 ⟨rfl, hb1⟩; obtain ⟨hc1, hf1⟩ := bcell hb1))
      rename_i hHeld
      have hpt : (Value.bool !passedC 1 (xs.drop k)) = .bool true := by rw [HP.out]; rfl
      rw [hpt, HP.out]
      obtain ⟨cx1, cb1⟩ := hHeld
      have hz1 := below_size hb1
      simp at hz1
      have lx1 : gx < w1.heap.size := by omega
      have lb1 : gb < w1.heap.size := by omega
      clear cx cb
      go_wp2
      go_cut [6] (fun s6 wx => StepAt (nextC 1 st (xs.drop k)) wr s6 wx)
      case first =>
        go_region_held3 (fun w' => w'.cell? ⟨gx, 0, none⟩ = some (.iface 100 (.agg #[])) ∧ w'.cell? ⟨gb, 0, none⟩ = some (.slice A xs.length c)) (first | (go_keep; done) | (go_split_ands; refine ⟨?_, ?_⟩ <;> (rw [hc2 _ _ (by simp; omega)]; first | assumption | (simp; done))) | (go_split_ands; refine ⟨?_, ?_⟩ <;> ((repeat rw [World.cell?_setCell_far _ _ _ _ (by simp; omega)]); assumption)) | (go_split_ands; refine ⟨?_, ?_⟩ <;> (rw [World.cell?_alloc_past _ _ _ (by first | assumption | (simp; omega))]; assumption))) ((with_reducible show Calls Try.prog 69 #[_, _, _] _ _; refine (octets_next' _ A' (xs.length - k) _ (xs.drop k) _ (HC'.out _ bel) ?hbx).mono ?_; (case hbx => exact hx.drop k); rintro e w2 ⟨rfl, hb2⟩; obtain ⟨hc2, hf2⟩ := bcell hb2; have hz2 := below_size hb2; simp at hz2; have lx2 : gx < w2.heap.size := (by omega); have lb2 : gb < w2.heap.size := (by omega); have cx2 : w2.cell? ⟨gx, 0, none⟩ = some (.iface 100 (.agg #[])) := (by go_split_ands; rw [hc2 _ _ (by simp; omega)]; first | assumption | (simp; assumption)); have cb2 : w2.cell? ⟨gb, 0, none⟩ = some (.slice A xs.length c) := (by go_split_ands; rw [hc2 _ _ (by simp; omega)]; first | assumption | (simp; assumption))))
        all_goals (rename_i hHeld; clear hHeld; go_wp2_with fail; go_meet; exact ⟨_, rfl, blk0, bel⟩)
      case rest =>
        obtain ⟨g, rfl, ⟨_, hstep, rfl⟩, hb3⟩ := hcut
        have hj3 := HJB.out _ _ _ HJ0.out hb3
        clear cx1 cb1 lx1 lb1 hz1 hb1 hc1 hf1 hpt
        have d0 : wc.cell? ⟨g, 0, none⟩ = some (.int .i64 (nextC 1 st (xs.drop k)).kind) := by simpa using blk_cell hstep 0
        have d1 : wc.cell? ⟨g, 1, none⟩ = some (.int .u32 (nextC 1 st (xs.drop k)).ch) := by simpa using blk_cell hstep 1
        have HJ3 := Lib.hid hj3
        have HSTEP := Lib.hid hstep
        clear hj3 hstep
        obtain ⟨f', hf'⟩ : ∃ f', f = f' + 1 := ⟨f - 1, by have := HF.out; omega⟩
        have HF' := Lib.hid hf'
        clear hf'
        by_cases hkind : (nextC 1 st (xs.drop k)).kind = 1
        · have HKD := Lib.hid hkind
          clear hkind
          have hkb : ((nextC 1 st (xs.drop k)).kind == 1) = true := by have := HKD.out; simp [this]
          obtain ⟨fn, tm, asg, bd, hy, hR⟩ := HY.out pre ((k : Int), (nextC 1 st (xs.drop k)).ch) wc HJ3.out (by have := HPK.out; omega)
          dsimp only at hy
          go_upto_region 4 with (go_at_call 41; (with_reducible refine (need_true _ _ _).mono ?_); rintro e w5 ⟨rfl, rfl⟩)
          refine (wpIn_wide (n := 0)).1 ?_
          gi_wp2
          refine ⟨rfl, hR.mono ?_⟩
          rintro e W5 ⟨rfl, hj5, hkeep⟩
          have hs5 := hkeep _ _ HSTEP.out
          have e2 : W5.cell? ⟨g, 2, none⟩ = some (.int .i64 (nextC 1 st (xs.drop k)).bytes) := by simpa using blk_cell hs5 2
          have e3 : W5.cell? ⟨g, 3, none⟩ = some (.int .i64 (nextC 1 st (xs.drop k)).st) := by simpa using blk_cell hs5 3
          have HJ5 := Lib.hid hj5
          clear hj5 hkeep hs5 hR hy
          have hbb := nextC_bytes HKD.out
          rw [List.length_drop] at hbb
          have HBB := Lib.hid hbb
          clear hbb
          have hadd : IntKind.i64.wrap ((k : Int) + (nextC 1 st (xs.drop k)).bytes) = (k : Int) + (nextC 1 st (xs.drop k)).bytes := by
            have := HBB.out
            have := HK.out
            exact IntWalk.i64_in _ (by omega)
          gi_wp2
          go_wp2
          go_quiet (fail)
          go_wp2
          obtain ⟨hb0, hb1⟩ := HBB.out
          have hk0 := HK.out
          have hf0 := HF.out
          have hf1 := HF'.out
          have hp0 := HPK.out
          have hkt : ((k + (nextC 1 st (xs.drop k)).bytes.toNat : Nat) : Int) = (k : Int) + (nextC 1 st (xs.drop k)).bytes := by omega
          refine ⟨⟨k + (nextC 1 st (xs.drop k)).bytes.toNat, f', (nextC 1 st (xs.drop k)).st, pre ++ [((k : Int), (nextC 1 st (xs.drop k)).ch)], by omega, by omega, by simp; omega, by rw [hkt], rfl, fun h => by first | exact nextC_st3 (HS.out (by first | exact h | trivial)) | (simp at h), ?_, ?_⟩, ?_⟩
          · exact HJB.out _ _ _ HJ5.out bel
          · rw [HR.out, hf1, decodeLoop_step HP.out HKD.out, List.drop_drop, hkt, List.append_assoc]
            rfl
          · show (_ : Nat) < _
            simp only [intOf]
            omega
        · have hkb : ((nextC 1 st (xs.drop k)).kind == 1) = false := by simpa using hkind
          have HKD := Lib.hid hkind
          clear hkind
          go_wp2_with (go_at_call 41; (with_reducible refine (need_false _ _ _).mono ?_); rintro e w1 ⟨rfl, rfl⟩)
          have he : decodeLoop 1 xs.length 0 0 xs = (pre, some (k : Int)) := by
            rw [HR.out, HF'.out, decodeLoop_fail HP.out HKD.out]; simp
          exact ⟨rfl, by rw [he]; exact HJB.out _ _ _ HJ3.out bel, .inr ⟨(k : Int), by rw [he], rfl⟩⟩
end Go.Proofs.Ytcekghcejmhhaaa

namespace Go.Proofs.Ytcekghcejmhhaaa
open Go.RowKit Go.Proofs.YtcekghcejmhhaaaW.PrintWords Go.Proofs.YtcekghcejmhhaaaW.PrintLast Go.Proofs.YtcekghcejmhhaaaW.PrintMore
set_option maxRecDepth 100000

set_option maxHeartbeats 4000000 in
theorem iter_2 (A : Option Addr) (c : Nat) (xs : List Int) (hm : xs.length ≤ 1000000000) (hc : xs.length ≤ c) (hx : Byt xs) (L gx gb : Nat) (J : List (Int × Int) → World → Prop)
    (hJ : ∀ pre W, J pre W → One W gx 79 (.iface 101 (.agg #[])) ∧ One W gb 24 (.slice A xs.length c) ∧ Kd.C (Kd.int .u8) W A xs.length xs)
    (hJb : ∀ pre W W', J pre W → Below W.heap.size W W' → J pre W')
    (hY : ∀ pre (x : Int × Int) W, J pre W → pre.length < xs.length → YieldAt Fence.wide 0 Try.prog L #[.int .i64 x.1, .int .u32 x.2] W fun e W' => e = .returned (.bool true) ∧ J (pre ++ [x]) W' ∧ KeepsT 45 W W')
    (W : World) (h0 : J [] W) :
    Calls Try.prog 50 #[.func (.yield L) #[] #[], .pointer (some ⟨gx, 0, none⟩), .pointer (some ⟨gb, 0, none⟩)] W (IterPost 2 xs J) := by
  have HST : Hid (IterRel 2 xs J W (.int .i64 0) (.int .i64 0)) := Lib.hid ⟨0, xs.length, 0, [], Nat.zero_le _, by omega, Nat.le_refl _, rfl, rfl, fun _ => .inl rfl, h0, by simp⟩
  have m1 := meth_next_2
  have m2 := nil_next_2
  have HJ := Lib.hid hJ
  have HJB := Lib.hid hJb
  have HY := Lib.hid hY
  clear hJ hJb hY h0
  go_enter Try.func50, Try.ntmps50
  go_wp2
  go_loopw [4, 5] (fun vs va wr => IterRel 2 xs J wr vs va) (fun _ va _ => xs.length - (intOf va).toNat)
  case atStart => exact HST.out
  case round =>
    obtain ⟨k, f, st, pre, hk, hf, hpk, rfl, rfl, hst, hj, hr⟩ := hrel
    have HK := Lib.hid hk
    have HF := Lib.hid hf
    have HPK := Lib.hid hpk
    have HS := Lib.hid hst
    have HJ0 := Lib.hid hj
    have HR := Lib.hid hr
    obtain ⟨hgx, hgb, hC⟩ := HJ.out _ _ hj
    have HGX := Lib.hid hgx
    have HGB := Lib.hid hgb
    have HC := Lib.hid hC
    have cx : wr.cell? ⟨gx, 0, none⟩ = some (.iface 101 (.agg #[])) := by simpa using blk_cell hgx 0
    have cb : wr.cell? ⟨gb, 0, none⟩ = some (.slice A xs.length c) := by simpa using blk_cell hgb 0
    have lx := blk_lt hgx
    have lb := blk_lt hgb
    obtain ⟨A', hsl, hC', hcc⟩ := drop_int (P := Try.prog) 24 5 Try.underlying24 (by kernel_rfl) A c xs k hk hc
    have HC' : Hid (∀ w, Below wr.heap.size wr w → Kd.C (Kd.int .u8) w A' (xs.length - k) (xs.drop k)) := Lib.hid (fun w hb => hC' _ _ (C_of_below hC hb))
    clear hk hf hpk hst hj hr hgx hgb hC hC'
    by_cases hp : passedC 2 (xs.drop k) = true
    · have HP := Lib.hid hp
      clear hp
      go_wp2
      go_region_held3 (fun w' => w'.cell? ⟨gx, 0, none⟩ = some (.iface 101 (.agg #[])) ∧ w'.cell? ⟨gb, 0, none⟩ = some (.slice A xs.length c)) (first | (go_keep; done) | (go_split_ands; refine ⟨?_, ?_⟩ <;> (rw [hc1 _ _ (by simp; omega)]; assumption))) ((go_at_call 51; refine (passed_2 A' (xs.length - k) _ (xs.drop k) _ (HC'.out _ bel)).mono ?_; rintro e w1 ⟨rfl, hb1⟩; obtain ⟨hc1, hf1⟩ := bcell hb1))
      rename_i hHeld
      clear hHeld
      have hpt : (Value.bool !passedC 2 (xs.drop k)) = .bool false := by rw [HP.out]; rfl
      rw [hpt, HP.out]
      go_wp2
      have he : decodeLoop 2 xs.length 0 0 xs = (pre, none) := by rw [HR.out, decodeLoop_stop HP.out]; simp
      go_end0
      exact ⟨by rw [he]; exact HJB.out _ _ _ HJ0.out bel, .inl ⟨by rw [he], rfl⟩⟩
    · have hp2 : passedC 2 (xs.drop k) = false := by simpa using hp
      have HP := Lib.hid hp2
      clear hp hp2
      have hkn : k < xs.length := by
        rcases Nat.lt_or_ge k xs.length with h | h
        · exact h
        · have := HP.out
          rw [List.drop_eq_nil_of_le h, passedC_nil] at this
          simp at this
      go_wp2
      go_region_held3 (fun w' => w'.cell? ⟨gx, 0, none⟩ = some (.iface 101 (.agg #[])) ∧ w'.cell? ⟨gb, 0, none⟩ = some (.slice A xs.length c)) (first | (go_keep; done) | (go_split_ands; refine ⟨?_, ?_⟩ <;> (rw [hc1 _ _ (by simp; omega)]; assumption))) ((go_at_call 51; refine (passed_2 A' (xs.length - k) _ (xs.drop k) _ (HC'.out _ bel)).mono ?_; rintro e w1 ⟨rfl, hb1⟩; obtain ⟨hc1, hf1⟩ := bcell hb1))
      rename_i hHeld
      have hpt : (Value.bool !passedC 2 (xs.drop k)) = .bool true := by rw [HP.out]; rfl
      rw [hpt, HP.out]
      obtain ⟨cx1, cb1⟩ := hHeld
      have hz1 := below_size hb1
      simp at hz1
      have lx1 : gx < w1.heap.size := by omega
      have lb1 : gb < w1.heap.size := by omega
      clear cx cb
      go_wp2
      go_cut [6] (fun s6 wx => StepAt (nextC 2 st (xs.drop k)) wr s6 wx)
      case first =>
        go_region_held3 (fun w' => w'.cell? ⟨gx, 0, none⟩ = some (.iface 101 (.agg #[])) ∧ w'.cell? ⟨gb, 0, none⟩ = some (.slice A xs.length c)) (first | (go_keep; done) | (go_split_ands; refine ⟨?_, ?_⟩ <;> (rw [hc2 _ _ (by simp; omega)]; first | assumption | (simp; done))) | (go_split_ands; refine ⟨?_, ?_⟩ <;> ((repeat rw [World.cell?_setCell_far _ _ _ _ (by simp; omega)]); assumption)) | (go_split_ands; refine ⟨?_, ?_⟩ <;> (rw [World.cell?_alloc_past _ _ _ (by first | assumption | (simp; omega))]; assumption))) ((with_reducible show Calls Try.prog 75 #[_, _, _] _ _; refine (utf8_next' _ A' (xs.length - k) _ (xs.drop k) _ (HC'.out _ bel) ?hbx).mono ?_; (case hbx => exact hx.drop k); rintro e w2 ⟨rfl, hb2⟩; obtain ⟨hc2, hf2⟩ := bcell hb2; have hz2 := below_size hb2; simp at hz2; have lx2 : gx < w2.heap.size := (by omega); have lb2 : gb < w2.heap.size := (by omega); have cx2 : w2.cell? ⟨gx, 0, none⟩ = some (.iface 101 (.agg #[])) := (by go_split_ands; rw [hc2 _ _ (by simp; omega)]; first | assumption | (simp; assumption)); have cb2 : w2.cell? ⟨gb, 0, none⟩ = some (.slice A xs.length c) := (by go_split_ands; rw [hc2 _ _ (by simp; omega)]; first | assumption | (simp; assumption))))
        all_goals (rename_i hHeld; clear hHeld; go_wp2_with fail; go_meet; exact ⟨_, rfl, blk0, bel⟩)
      case rest =>
        obtain ⟨g, rfl, ⟨_, hstep, rfl⟩, hb3⟩ := hcut
        have hj3 := HJB.out _ _ _ HJ0.out hb3
        clear cx1 cb1 lx1 lb1 hz1 hb1 hc1 hf1 hpt
        have d0 : wc.cell? ⟨g, 0, none⟩ = some (.int .i64 (nextC 2 st (xs.drop k)).kind) := by simpa using blk_cell hstep 0
        have d1 : wc.cell? ⟨g, 1, none⟩ = some (.int .u32 (nextC 2 st (xs.drop k)).ch) := by simpa using blk_cell hstep 1
        have HJ3 := Lib.hid hj3
        have HSTEP := Lib.hid hstep
        clear hj3 hstep
        obtain ⟨f', hf'⟩ : ∃ f', f = f' + 1 := ⟨f - 1, by have := HF.out; omega⟩
        have HF' := Lib.hid hf'
        clear hf'
        by_cases hkind : (nextC 2 st (xs.drop k)).kind = 1
        · have HKD := Lib.hid hkind
          clear hkind
          have hkb : ((nextC 2 st (xs.drop k)).kind == 1) = true := by have := HKD.out; simp [this]
          obtain ⟨fn, tm, asg, bd, hy, hR⟩ := HY.out pre ((k : Int), (nextC 2 st (xs.drop k)).ch) wc HJ3.out (by have := HPK.out; omega)
          dsimp only at hy
          go_upto_region 4 with (go_at_call 41; (with_reducible refine (need_true _ _ _).mono ?_); rintro e w5 ⟨rfl, rfl⟩)
          refine (wpIn_wide (n := 0)).1 ?_
          gi_wp2
          refine ⟨rfl, hR.mono ?_⟩
          rintro e W5 ⟨rfl, hj5, hkeep⟩
          have hs5 := hkeep _ _ HSTEP.out
          have e2 : W5.cell? ⟨g, 2, none⟩ = some (.int .i64 (nextC 2 st (xs.drop k)).bytes) := by simpa using blk_cell hs5 2
          have e3 : W5.cell? ⟨g, 3, none⟩ = some (.int .i64 (nextC 2 st (xs.drop k)).st) := by simpa using blk_cell hs5 3
          have HJ5 := Lib.hid hj5
          clear hj5 hkeep hs5 hR hy
          have hbb := nextC_bytes HKD.out
          rw [List.length_drop] at hbb
          have HBB := Lib.hid hbb
          clear hbb
          have hadd : IntKind.i64.wrap ((k : Int) + (nextC 2 st (xs.drop k)).bytes) = (k : Int) + (nextC 2 st (xs.drop k)).bytes := by
            have := HBB.out
            have := HK.out
            exact IntWalk.i64_in _ (by omega)
          gi_wp2
          go_wp2
          go_quiet (fail)
          go_wp2
          obtain ⟨hb0, hb1⟩ := HBB.out
          have hk0 := HK.out
          have hf0 := HF.out
          have hf1 := HF'.out
          have hp0 := HPK.out
          have hkt : ((k + (nextC 2 st (xs.drop k)).bytes.toNat : Nat) : Int) = (k : Int) + (nextC 2 st (xs.drop k)).bytes := by omega
          refine ⟨⟨k + (nextC 2 st (xs.drop k)).bytes.toNat, f', (nextC 2 st (xs.drop k)).st, pre ++ [((k : Int), (nextC 2 st (xs.drop k)).ch)], by omega, by omega, by simp; omega, by rw [hkt], rfl, fun h => by first | exact nextC_st3 (HS.out (by first | exact h | trivial)) | (simp at h), ?_, ?_⟩, ?_⟩
          · exact HJB.out _ _ _ HJ5.out bel
          · rw [HR.out, hf1, decodeLoop_step HP.out HKD.out, List.drop_drop, hkt, List.append_assoc]
            rfl
          · show (_ : Nat) < _
            simp only [intOf]
            omega
        · have hkb : ((nextC 2 st (xs.drop k)).kind == 1) = false := by simpa using hkind
          have HKD := Lib.hid hkind
          clear hkind
          go_wp2_with (go_at_call 41; (with_reducible refine (need_false _ _ _).mono ?_); rintro e w1 ⟨rfl, rfl⟩)
          have he : decodeLoop 2 xs.length 0 0 xs = (pre, some (k : Int)) := by
            rw [HR.out, HF'.out, decodeLoop_fail HP.out HKD.out]; simp
          exact ⟨rfl, by rw [he]; exact HJB.out _ _ _ HJ3.out bel, .inr ⟨(k : Int), by rw [he], rfl⟩⟩

set_option maxHeartbeats 4000000 in
theorem iter_3 (A : Option Addr) (c : Nat) (xs : List Int) (hm : xs.length ≤ 1000000000) (hc : xs.length ≤ c) (hx : Byt xs) (L gx gb : Nat) (J : List (Int × Int) → World → Prop)
    (hJ : ∀ pre W, J pre W → One W gx 79 (.iface 102 (.agg #[])) ∧ One W gb 24 (.slice A xs.length c) ∧ Kd.C (Kd.int .u8) W A xs.length xs)
    (hJb : ∀ pre W W', J pre W → Below W.heap.size W W' → J pre W')
    (hY : ∀ pre (x : Int × Int) W, J pre W → pre.length < xs.length → YieldAt Fence.wide 0 Try.prog L #[.int .i64 x.1, .int .u32 x.2] W fun e W' => e = .returned (.bool true) ∧ J (pre ++ [x]) W' ∧ KeepsT 45 W W')
    (W : World) (h0 : J [] W) :
    Calls Try.prog 50 #[.func (.yield L) #[] #[], .pointer (some ⟨gx, 0, none⟩), .pointer (some ⟨gb, 0, none⟩)] W (IterPost 3 xs J) := by
  have HST : Hid (IterRel 3 xs J W (.int .i64 0) (.int .i64 0)) := Lib.hid ⟨0, xs.length, 0, [], Nat.zero_le _, by omega, Nat.le_refl _, rfl, rfl, fun _ => .inl rfl, h0, by simp⟩
  have m1 := meth_next_3
  have m2 := nil_next_3
  have HJ := Lib.hid hJ
  have HJB := Lib.hid hJb
  have HY := Lib.hid hY
  clear hJ hJb hY h0
  go_enter Try.func50, Try.ntmps50
  go_wp2
  go_loopw [4, 5] (fun vs va wr => IterRel 3 xs J wr vs va) (fun _ va _ => xs.length - (intOf va).toNat)
  case atStart => exact HST.out
  case round =>
    obtain ⟨k, f, st, pre, hk, hf, hpk, rfl, rfl, hst, hj, hr⟩ := hrel
    have HK := Lib.hid hk
    have HF := Lib.hid hf
    have HPK := Lib.hid hpk
    have HS := Lib.hid hst
    have HJ0 := Lib.hid hj
    have HR := Lib.hid hr
    obtain ⟨hgx, hgb, hC⟩ := HJ.out _ _ hj
    have HGX := Lib.hid hgx
    have HGB := Lib.hid hgb
    have HC := Lib.hid hC
    have cx : wr.cell? ⟨gx, 0, none⟩ = some (.iface 102 (.agg #[])) := by simpa using blk_cell hgx 0
    have cb : wr.cell? ⟨gb, 0, none⟩ = some (.slice A xs.length c) := by simpa using blk_cell hgb 0
    have lx := blk_lt hgx
    have lb := blk_lt hgb
    obtain ⟨A', hsl, hC', hcc⟩ := drop_int (P := Try.prog) 24 5 Try.underlying24 (by kernel_rfl) A c xs k hk hc
    have HC' : Hid (∀ w, Below wr.heap.size wr w → Kd.C (Kd.int .u8) w A' (xs.length - k) (xs.drop k)) := Lib.hid (fun w hb => hC' _ _ (C_of_below hC hb))
    clear hk hf hpk hst hj hr hgx hgb hC hC'
    by_cases hp : passedC 3 (xs.drop k) = true
    · have HP := Lib.hid hp
      clear hp
      go_wp2
      go_region_held3 (fun w' => w'.cell? ⟨gx, 0, none⟩ = some (.iface 102 (.agg #[])) ∧ w'.cell? ⟨gb, 0, none⟩ = some (.slice A xs.length c)) (first | (go_keep; done) | (go_split_ands; refine ⟨?_, ?_⟩ <;> (rw [hc1 _ _ (by simp; omega)]; assumption))) ((go_at_call 51; refine (passed_3 A' (xs.length - k) _ (xs.drop k) _ (HC'.out _ bel)).mono ?_; rintro e w1 ⟨rfl, hb1⟩; obtain ⟨hc1, hf1⟩ := bcell hb1))
      rename_i hHeld
      clear hHeld
      have hpt : (Value.bool !passedC 3 (xs.drop k)) = .bool false := by rw [HP.out]; rfl
      rw [hpt, HP.out]
      go_wp2
      have he : decodeLoop 3 xs.length 0 0 xs = (pre, none) := by rw [HR.out, decodeLoop_stop HP.out]; simp
      go_end0
      exact ⟨by rw [he]; exact HJB.out _ _ _ HJ0.out bel, .inl ⟨by rw [he], rfl⟩⟩
    · have hp2 : passedC 3 (xs.drop k) = false := by simpa using hp
      have HP := Lib.hid hp2
      clear hp hp2
      have hkn : k < xs.length := by
        rcases Nat.lt_or_ge k xs.length with h | h
        · exact h
        · have := HP.out
          rw [List.drop_eq_nil_of_le h, passedC_nil] at this
          simp at this
      go_wp2
      go_region_held3 (fun w' => w'.cell? ⟨gx, 0, none⟩ = some (.iface 102 (.agg #[])) ∧ w'.cell? ⟨gb, 0, none⟩ = some (.slice A xs.length c)) (first | (go_keep; done) | (go_split_ands; refine ⟨?_, ?_⟩ <;> (rw [hc1 _ _ (by simp; omega)]; assumption))) ((go_at_call 51; refine (passed_3 A' (xs.length - k) _ (xs.drop k) _ (HC'.out _ bel)).mono ?_; rintro e w1 ⟨rfl, hb1⟩; obtain ⟨hc1, hf1⟩ := bcell hb1))
      rename_i hHeld
      have hpt : (Value.bool !passedC 3 (xs.drop k)) = .bool true := by rw [HP.out]; rfl
      rw [hpt, HP.out]
      obtain ⟨cx1, cb1⟩ := hHeld
      have hz1 := below_size hb1
      simp at hz1
      have lx1 : gx < w1.heap.size := by omega
      have lb1 : gb < w1.heap.size := by omega
      clear cx cb
      go_wp2
      go_cut [6] (fun s6 wx => StepAt (nextC 3 st (xs.drop k)) wr s6 wx)
      case first =>
        go_region_held3 (fun w' => w'.cell? ⟨gx, 0, none⟩ = some (.iface 102 (.agg #[])) ∧ w'.cell? ⟨gb, 0, none⟩ = some (.slice A xs.length c)) (first | (go_keep; done) | (go_split_ands; refine ⟨?_, ?_⟩ <;> (rw [hc2 _ _ (by simp; omega)]; first | assumption | (simp; done))) | (go_split_ands; refine ⟨?_, ?_⟩ <;> ((repeat rw [World.cell?_setCell_far _ _ _ _ (by simp; omega)]); assumption)) | (go_split_ands; refine ⟨?_, ?_⟩ <;> (rw [World.cell?_alloc_past _ _ _ (by first | assumption | (simp; omega))]; assumption))) ((with_reducible show Calls Try.prog 82 #[_, _, _] _ _; refine (shift_next' _ (HS.out (by first | rfl | trivial)) A' (xs.length - k) _ (xs.drop k) _ (HC'.out _ bel) ?hbx).mono ?_; (case hbx => exact hx.drop k); rintro e w2 ⟨rfl, hb2⟩; obtain ⟨hc2, hf2⟩ := bcell hb2; have hz2 := below_size hb2; simp at hz2; have lx2 : gx < w2.heap.size := (by omega); have lb2 : gb < w2.heap.size := (by omega); have cx2 : w2.cell? ⟨gx, 0, none⟩ = some (.iface 102 (.agg #[])) := (by go_split_ands; rw [hc2 _ _ (by simp; omega)]; first | assumption | (simp; assumption)); have cb2 : w2.cell? ⟨gb, 0, none⟩ = some (.slice A xs.length c) := (by go_split_ands; rw [hc2 _ _ (by simp; omega)]; first | assumption | (simp; assumption))))
        all_goals (rename_i hHeld; clear hHeld; go_wp2_with fail; go_meet; exact ⟨_, rfl, blk0, bel⟩)
      case rest =>
        obtain ⟨g, rfl, ⟨_, hstep, rfl⟩, hb3⟩ := hcut
        have hj3 := HJB.out _ _ _ HJ0.out hb3
        clear cx1 cb1 lx1 lb1 hz1 hb1 hc1 hf1 hpt
        have d0 : wc.cell? ⟨g, 0, none⟩ = some (.int .i64 (nextC 3 st (xs.drop k)).kind) := by simpa using blk_cell hstep 0
        have d1 : wc.cell? ⟨g, 1, none⟩ = some (.int .u32 (nextC 3 st (xs.drop k)).ch) := by simpa using blk_cell hstep 1
        have HJ3 := Lib.hid hj3
        have HSTEP := Lib.hid hstep
        clear hj3 hstep
        obtain ⟨f', hf'⟩ : ∃ f', f = f' + 1 := ⟨f - 1, by have := HF.out; omega⟩
        have HF' := Lib.hid hf'
        clear hf'
        by_cases hkind : (nextC 3 st (xs.drop k)).kind = 1
        · have HKD := Lib.hid hkind
          clear hkind
          have hkb : ((nextC 3 st (xs.drop k)).kind == 1) = true := by have := HKD.out; simp [this]
          obtain ⟨fn, tm, asg, bd, hy, hR⟩ := HY.out pre ((k : Int), (nextC 3 st (xs.drop k)).ch) wc HJ3.out (by have := HPK.out; omega)
          dsimp only at hy
          go_upto_region 4 with (go_at_call 41; (with_reducible refine (need_true _ _ _).mono ?_); rintro e w5 ⟨rfl, rfl⟩)
          refine (wpIn_wide (n := 0)).1 ?_
          gi_wp2
          refine ⟨rfl, hR.mono ?_⟩
          rintro e W5 ⟨rfl, hj5, hkeep⟩
          have hs5 := hkeep _ _ HSTEP.out
          have e2 : W5.cell? ⟨g, 2, none⟩ = some (.int .i64 (nextC 3 st (xs.drop k)).bytes) := by simpa using blk_cell hs5 2
          have e3 : W5.cell? ⟨g, 3, none⟩ = some (.int .i64 (nextC 3 st (xs.drop k)).st) := by simpa using blk_cell hs5 3
          have HJ5 := Lib.hid hj5
          clear hj5 hkeep hs5 hR hy
          have hbb := nextC_bytes HKD.out
          rw [List.length_drop] at hbb
          have HBB := Lib.hid hbb
          clear hbb
          have hadd : IntKind.i64.wrap ((k : Int) + (nextC 3 st (xs.drop k)).bytes) = (k : Int) + (nextC 3 st (xs.drop k)).bytes := by
            have := HBB.out
            have := HK.out
            exact IntWalk.i64_in _ (by omega)
          gi_wp2
          go_wp2
          go_quiet (fail)
          go_wp2
          obtain ⟨hb0, hb1⟩ := HBB.out
          have hk0 := HK.out
          have hf0 := HF.out
          have hf1 := HF'.out
          have hp0 := HPK.out
          have hkt : ((k + (nextC 3 st (xs.drop k)).bytes.toNat : Nat) : Int) = (k : Int) + (nextC 3 st (xs.drop k)).bytes := by omega
          refine ⟨⟨k + (nextC 3 st (xs.drop k)).bytes.toNat, f', (nextC 3 st (xs.drop k)).st, pre ++ [((k : Int), (nextC 3 st (xs.drop k)).ch)], by omega, by omega, by simp; omega, by rw [hkt], rfl, fun h => by first | exact nextC_st3 (HS.out (by first | exact h | trivial)) | (simp at h), ?_, ?_⟩, ?_⟩
          · exact HJB.out _ _ _ HJ5.out bel
          · rw [HR.out, hf1, decodeLoop_step HP.out HKD.out, List.drop_drop, hkt, List.append_assoc]
            rfl
          · show (_ : Nat) < _
            simp only [intOf]
            omega
        · have hkb : ((nextC 3 st (xs.drop k)).kind == 1) = false := by simpa using hkind
          have HKD := Lib.hid hkind
          clear hkind
          go_wp2_with (go_at_call 41; (with_reducible refine (need_false _ _ _).mono ?_); rintro e w1 ⟨rfl, rfl⟩)
          have he : decodeLoop 3 xs.length 0 0 xs = (pre, some (k : Int)) := by
            rw [HR.out, HF'.out, decodeLoop_fail HP.out HKD.out]; simp
          exact ⟨rfl, by rw [he]; exact HJB.out _ _ _ HJ3.out bel, .inr ⟨(k : Int), by rw [he], rfl⟩⟩

end Go.Proofs.Ytcekghcejmhhaaa
