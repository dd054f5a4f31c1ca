/- General: one round of a range over a function, in the plain calculus' fence. Over any program. -/
import Derived.Test.YtcekghcejmhhaaaGenRange
import Derived.OwnWalkIn
import Derived.RangeFuncBox
set_option linter.unusedSimpArgs false
set_option linter.unusedVariables false
set_option linter.unnecessarySimpa false
namespace Go.Proofs.Ytcekghcejmhhaaa
open Go.RowKit Go.Proofs.YtcekghcejmhhaaaW.PrintWords Go.Proofs.YtcekghcejmhhaaaW.PrintLast Go.Proofs.YtcekghcejmhhaaaW.PrintMore

section
variable {P : Program}
theorem loopRec_busy (fn : FuncId) (tmps : Array Value) (ps : Array Tmp) (assign body : Code) (D : Nat) (st st' : LoopState) : { loopRec fn tmps ps assign body D st with state := st' } = loopRec fn tmps ps assign body D st' := rfl

/-- One round that is not left early. -/
theorem yield_round {L D : Nat} {fn : FuncId} {tmps : Array Value} {ps : Array Tmp} {assign body : Code} {args : Array Value} {W : World} {R : World → Prop} {rec : LoopState → Loop}
    (hrec : rec = fun st => loopRec fn tmps ps assign body D st) (hl : W.heap[L]? = some (.loop (rec .ready))) (hs : args.size = ps.size) (a₁ : Act)
    (hassign : ∀ K : Act → World → Prop, K a₁ W → assign.wpIn (Fence.wide.inRound L) 0 P (Exit.then K (fun _ _ _ => False)) { tmps := (ps.zip args).foldl (fun t (p, v) => t.setIfInBounds p v) tmps, defers := [] } W)
    (hbody : body.wpIn (Fence.wide.inRound L) 0 P (fun e _ W3 => e = .normal ∧ W3.heap[L]? = some (.loop (rec .busy)) ∧ R (W3.putObj L (.loop (rec .ready)))) a₁
      (W.putObj L (.loop (rec .busy)))) :
    YieldAt Fence.wide 0 P L args W fun e W' => e = .returned (.bool true) ∧ R W' := by
  subst hrec
  have hy := run_yield (P := P) (args := args) hl hs
  refine ⟨fn, _, assign, body, hy, roundIn_of_wpIn trivial (hassign _ ⟨_, run_beginRound hl rfl, ?_⟩)⟩
  refine wpIn_mono hbody ?_
  rintro e a3 W3 ⟨rfl, h3, hr⟩
  have hre := run_endRound (P := P) none h3
  exact ⟨_, _, hre, rfl, hr⟩

theorem wp_rangeFunc2 {g : Operand} {ps : Array Tmp} {assign body : Code} {Q : Exit → Act → World → Prop} {a : Act} {w : World} {gf : Nat} {lb : Array Value}
    (hg : a.eval g = .func (.func gf) #[] lb) (eg : ∀ args w, (callFunc gf args).run P w = .ok (.enter gf args) w)
    (h : ∀ (fn : FuncId) (rec : LoopState → Loop) (_ : rec = fun st => loopRec fn a.tmps ps assign body w.heap.size st), Calls P gf (#[.func (.yield (w.heap.size + 1)) #[] #[]] ++ lb) ((w.alloc (.deferred (some []))).alloc (.loop (rec .ready))) fun e w3 =>
      (∃ v, e = .returned v ∧ w3.heap[w.heap.size + 1]? = some (.loop (rec .ready)) ∧
        Q .normal { a with defers := { target := .collected w.heap.size, args := #[] } :: a.defers } (w3.putObj (w.heap.size + 1) (.loop (rec .exhausted)))) ∨
      (∃ chain, e = .panicked chain ∧ Q (.panic chain) { a with defers := { target := .collected w.heap.size, args := #[] } :: a.defers } w3)) :
    (Code.rangeFunc g ps assign body).wp P Q a w := wp_rangeFunc hg eg fun fn => h fn _ rfl
end

theorem OwnI.snoc {k : IntKind} {e : TypeId} {base : Nat} {w w' : World} {v' : Value} {xs : List Int} {inner : List Value} {ok : Nat → Prop} {x : Int} (hr : Reps ((Kd.int k).M w base ok) (Kd.int k).sz xs inner)
    (h : w'.ownsRow base e 1 v' (xs.length + 1) (inner ++ [.int k x])) : OwnI k e base w' v' (xs ++ [x]) :=
  ⟨fun _ _ => trivial, inner ++ [.int k x], by rw [List.length_append]; exact h, by
    have h1 : Reps ((Kd.int k).M w' base fun j => (fun _ => True) j ∧ some j ≠ v'.ownBlock) (Kd.int k).sz xs inner := hr.imp_ (fun p c hp => hp)
    exact Reps.snoc (c := [.int k x]) h1 (show [Value.int k x] = [Value.int k x] from rfl) rfl⟩

/-- Blocks ahead of n are as they were. -/
structure Old (n : Nat) (W W' : World) : Prop where
  os : W'.os = W.os
  tape : W'.tape = W.tape
  output : W'.output = W.output
  size : W.heap.size ≤ W'.heap.size
  block : ∀ k, k < n → k < W.heap.size → W'.heap[k]? = W.heap[k]?

/-- Blocks of cells of another type than these. -/
def KeepsT (t : TypeId) (W W' : World) : Prop := ∀ (g : Nat) (cs : Array Value), W.heap[g]? = some (Obj.cells cs t (0, 0)) → W'.heap[g]? = some (Obj.cells cs t (0, 0))
theorem KeepsT.trans {t : TypeId} {A B C : World} (h : KeepsT t A B) (k : KeepsT t B C) : KeepsT t A C := fun g cs hg => k g cs (h g cs hg)
theorem KeepsT.putObj {t : TypeId} {W : World} {L : Nat} {o : Obj} (o' : Obj) (h : W.heap[L]? = some o) (ho : o.isCells = false) : KeepsT t W (W.putObj L o') := fun g cs hg => by
  rw [World.putObj_heap_other (by rintro rfl; rw [h] at hg; cases hg; cases ho)]; exact hg
theorem KeepsT.alloc {t : TypeId} {W : World} (o : Obj) : KeepsT t W (W.alloc o) := fun g cs hg => blk_alloc hg o
theorem KeepsT.setCell {t t' : TypeId} {W : World} {p : Nat} {v u : Value} (h : One W p t' v) (ht : t ≠ t') : KeepsT t W (W.setCell ⟨p, 0, none⟩ u) := fun g cs hg => by
  rw [Below.heap_setCell _ _ _ _ (by rintro rfl; rw [show W.heap[_]? = _ from h] at hg; simp at hg; exact ht hg.2.symm)]; exact hg
theorem KeepsT.grown {t e : TypeId} {W W' : World} {base size k : Nat} {v : Value} {xs : List Value} (hg : W.grownBy W' v.ownBlock) (hr : W.ownsRow base e size v k xs) (ht : t ≠ e) : KeepsT t W W' := fun g cs h => by
  refine (hg.block g (Array.getElem?_eq_some_iff.1 h).1 ?_).trans h
  intro he
  rcases hr.2 with ⟨rfl, _⟩ | ⟨g', cap, cur, rfl, _, hgb, _⟩
  · simp [Value.ownBlock] at he
  · have : g = g' := by simpa [Value.ownBlock] using he
    subst this
    rw [h] at hgb; simp at hgb; exact ht hgb.2
theorem KeepsT.below {t : TypeId} {W W' : World} (h : Below W.heap.size W W') : KeepsT t W W' := fun g cs hg => blk_below hg h

theorem obj_set {w : World} {g p : Nat} {o : Obj} {u : Value} (h : w.heap[g]? = some o) (hne : g ≠ p) : (w.setCell ⟨p, 0, none⟩ u).heap[g]? = some o := (Below.heap_setCell _ _ _ _ hne).trans h
theorem blk_putObj {w : World} {g L : Nat} {o o' : Obj} (h : w.heap[g]? = some o) (hne : g ≠ L) : (w.putObj L o').heap[g]? = some o := (World.putObj_heap_other hne).trans h
theorem below_putObj {w w1 : World} {L : Nat} {o : Obj} (h : Below w.heap.size w w1) (hL : w.heap.size ≤ L) : Below w.heap.size w (w1.putObj L o) :=
  ⟨h.os, h.tape, h.output, by simpa using h.size, fun k hk => (World.putObj_heap_other (by omega)).trans (h.block k hk)⟩
theorem OwnI.putObj {k : IntKind} {e : TypeId} {base : Nat} {w : World} {v : Value} {xs : List Int} {L : Nat} {o : Obj} (h : OwnI k e base w v xs) (hL : L < base) : OwnI k e base (w.putObj L o) v xs :=
  Kd.R_mono (Kd.R_step (Kd.R_bound h) (fun j hj _ => World.putObj_heap_other (by have := hj.2.1; omega))) (fun _ _ => trivial)
theorem OwnI.grown {k : IntKind} {e : TypeId} {base : Nat} {w w1 : World} {v : Value} {xs : List Int} (h : OwnI k e base w v xs) {n : Nat} (hg : ∀ j, base ≤ j → j < w.heap.size → w1.heap[j]? = w.heap[j]?) (_ : n = n) : OwnI k e base w1 v xs :=
  Kd.R_mono (Kd.R_step (Kd.R_bound h) (fun j hj hlt => hg j hj.2.1 hlt)) (fun _ _ => trivial)
theorem cell_one_new' (w : World) (x : Value) (t : TypeId) : ∀ j u, [x][j]? = some u → (w.alloc (.cells #[x] t)).cell? ((⟨w.heap.size, 0, none⟩ : Addr).add j) = some u := by
  intro j u hj
  cases j with
  | zero =>
    simp at hj
    subst hj
    simp [Addr.add]
  | succ j => simp at hj
/-- A row's own block lies behind its base. -/
theorem own_base_le {w : World} {base : Nat} {e : TypeId} {size k : Nat} {v : Value} {xs : List Value} (h : w.ownsRow base e size v k xs) {g : Nat} (hg : v.ownBlock = some g) : base ≤ g := own_base h g hg
end Go.Proofs.Ytcekghcejmhhaaa
