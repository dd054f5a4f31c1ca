/- General lemmas, over any program: what a call's result variables hold; blocks through stores, allocations and calls. -/
import Derived.Test.YtcekghcejmhhaaaWMore
import Derived.Lib.Hide
import Derived.Defers
import Derived.Deep.WholeRow
set_option linter.unusedSimpArgs false
set_option linter.unusedVariables false
set_option linter.unnecessarySimpa false
namespace Go.Proofs.Ytcekghcejmhhaaa
open Go.RowKit Go.Proofs.YtcekghcejmhhaaaW.PrintWords Go.Proofs.YtcekghcejmhhaaaW.PrintLast Go.Proofs.YtcekghcejmhhaaaW.PrintMore

theorem bcell {W w1 : World} (hb : Below W.heap.size W w1) : (∀ b o, b < W.heap.size → w1.cell? ⟨b, o, none⟩ = W.cell? ⟨b, o, none⟩) ∧ (∀ b o, b < W.heap.size → w1.frozen? ⟨b, o, none⟩ = W.frozen? ⟨b, o, none⟩) :=
  ⟨fun b o h => hb.cell (p := ⟨b, o, none⟩) h, fun b o h => hb.frozen (p := ⟨b, o, none⟩) h⟩

/-- A list of whole numbers that is read, opened: where it lies. -/
theorem open_C {k : IntKind} {w : World} {A : Option Addr} {n : Nat} {xs : List Int} (h : Kd.C (Kd.int k) w A n xs) (hn : 0 < n) :
    ∃ b off, A = some ⟨b, off, none⟩ ∧ b < w.heap.size ∧ ∀ i, i < n → w.cell? ⟨b, off + i, none⟩ = some (.int k (xs.getD i 0)) := by
  obtain ⟨hl, _, hd⟩ := h
  obtain ⟨ad, rfl, hc⟩ := hd hn
  have key : ∀ i, i < n → w.cell? (ad.add i) = some (.int k (xs.getD i 0)) := by
    intro i hi
    have hlt : i < xs.length := by omega
    obtain ⟨c, hc1, hc2, hc3⟩ := hc i xs[i] (List.getElem?_eq_getElem hlt)
    have hc2' : c = [.int k xs[i]] := hc2
    have h3 := hc3 0 (.int k xs[i]) (by rw [hc2']; rfl)
    have e1 : i * (Kd.int k).sz + 0 = i := by show i * 1 + 0 = i; omega
    rw [e1] at h3
    rw [h3, List.getD_eq_getElem?_getD, List.getElem?_eq_getElem hlt]; rfl
  have h0 := key 0 hn
  obtain ⟨b, off, spot⟩ := ad
  have hs : spot = none := by
    cases spot with
    | none => rfl
    | some s => simp [Addr.add, World.cell?] at h0; split at h0 <;> simp at h0
  subst hs
  refine ⟨b, off, rfl, ?_, ?_⟩
  · have := World.block_lt_of_cell? w _ h0
    simpa [Addr.add] using this
  · intro i hi
    have := key i hi
    have e : (⟨b, off, none⟩ : Addr).add i = ⟨b, off + i, none⟩ := by unfold Addr.add; split <;> simp_all
    rwa [e] at this

/-- A row of whole numbers of the call's own. -/
abbrev OwnI (k : IntKind) (e : TypeId) (base : Nat) (w : World) (v : Value) (xs : List Int) : Prop := Kd.R (Kd.int k) e w base (fun _ => True) v xs

theorem R_fresh {k : IntKind} {e : TypeId} {base : Nat} (W : World) (g : Nat) (hg : g = W.heap.size) (xs : List Int) (cs : Array Value) (hcs : cs = (nums k xs).toArray) (n : Nat) (hn : n = xs.length) (hb : base ≤ W.heap.size) (hm : xs.length ≤ 9223372036854775807) :
    OwnI k e base (W.alloc (.cells cs e)) (.slice (some ⟨g, 0, none⟩) n n) xs := by
  subst hn
  subst hg
  refine ⟨fun _ _ => trivial, nums k xs, ?_, ?_⟩
  · have h2 := World.ownsRow_lit (base := base) (e := e) (size := 1) W cs xs.length hb (by simpa [maxLen] using hm) (by simp [hcs, nums])
    have h3 : (W.alloc (.cells cs e)).ownsRow base e 1 (.slice (some ⟨W.heap.size, 0, none⟩) xs.length xs.length) xs.length (nums k xs) := by simpa [hcs] using h2
    exact h3
  · exact Kd.reps_scalar (enc := Value.int k) xs

theorem own_lt_size {k : IntKind} {e : TypeId} {base : Nat} {w : World} {v : Value} {xs : List Int} (h : OwnI k e base w v xs) {g : Nat} (hg : v.ownBlock = some g) : g < w.heap.size := by
  obtain ⟨inner, ho⟩ := Kd.R_own h
  exact own_lt ho g hg
/-- A list of whole numbers that was just made, read while other blocks are written. -/
theorem fresh_src {k : IntKind} {e : TypeId} (W : World) (g : Nat) (hg : g = W.heap.size) (xs : List Int) (cs : Array Value) (hcs : cs = (nums k xs).toArray) (hm : xs.length ≤ 9223372036854775807) {S : Nat → Prop} (hS : ¬ S g) :
    ∀ W', Kept (W.alloc (.cells cs e)) W' S → Kd.C (Kd.int k) W' (some ⟨g, 0, none⟩) xs.length xs := by
  have h := R_fresh (k := k) (e := e) (base := g) W g hg xs cs hcs xs.length rfl (by omega) hm
  have h2 : Kd.R (Kd.int k) e (W.alloc (.cells cs e)) g (fun j => j = g) (.slice (some ⟨g, 0, none⟩) xs.length xs.length) xs := ⟨fun j hj => by simpa [Value.ownBlock] using hj.symm, by
    obtain ⟨_, inner, h3, h4⟩ := h
    exact ⟨inner, h3, h4⟩⟩
  exact Kd.C_kept_own h2 (fun j hj => by subst hj; exact hS)
/-- A row of one's own is read while other blocks are written. -/
theorem own_src {k : IntKind} {e : TypeId} {base : Nat} {w : World} {A : Option Addr} {n c : Nat} {xs : List Int} (h : OwnI k e base w (.slice A n c) xs) {S : Nat → Prop} (hS : ∀ j, base ≤ j → ¬ S j) :
    ∀ W', Kept w W' S → Kd.C (Kd.int k) W' A n xs :=
  Kd.C_kept_own (Kd.R_bound h) (fun j hj => hS j hj.2.1)
theorem C_of_below {w w' : World} {A : Option Addr} {n : Nat} {xs : List Int} {k : IntKind} (h : Kd.C (Kd.int k) w A n xs) (hb : Below w.heap.size w w') : Kd.C (Kd.int k) w' A n xs := Kd.C_below h hb

/-- What has turned: blocks of S alone, and new ones. -/
structure Chg (w w' : World) (S : Nat → Prop) : Prop where
  os : w'.os = w.os
  tape : w'.tape = w.tape
  output : w'.output = w.output
  size : w.heap.size ≤ w'.heap.size
  block : ∀ k, k < w.heap.size → ¬ S k → w'.heap[k]? = w.heap[k]?

theorem Chg.of_below {w w' : World} {S : Nat → Prop} (h : Below w.heap.size w w') : Chg w w' S := ⟨h.os, h.tape, h.output, h.size, fun k hk _ => h.block k hk⟩
theorem Chg.setCell {w w' : World} {S : Nat → Prop} (h : Chg w w' S) {p : Addr} (hp : S p.block) (u : Value) : Chg w (w'.setCell p u) S :=
  ⟨h.os, h.tape, h.output, by simpa [World.setCell] using h.size, fun k hk hn => by rw [Below.heap_setCell _ _ _ _ (by rintro rfl; exact hn hp)]; exact h.block k hk hn⟩
/-- What a call does to new blocks is nothing to the world before. -/
theorem below_chg {w W w2 : World} {S : Nat → Prop} (h : Below w.heap.size w W) (k : Chg W w2 S) (hS : ∀ i, S i → w.heap.size ≤ i) : Below w.heap.size w w2 :=
  ⟨k.os.trans h.os, k.tape.trans h.tape, k.output.trans h.output, Nat.le_trans h.size k.size, fun i hi => (k.block i (Nat.lt_of_lt_of_le hi h.size) (fun hs => by have := hS i hs; omega)).trans (h.block i hi)⟩
theorem blk_chg {w w1 : World} {g : Nat} {o : Obj} {S : Nat → Prop} (h : w.heap[g]? = some o) (hk : Chg w w1 S) (hn : ¬ S g) : w1.heap[g]? = some o := (hk.block g (blk_lt h) hn).trans h
theorem blk_new' {w : World} {g : Nat} (o : Obj) (hg : g = w.heap.size) : (w.alloc o).heap[g]? = some o := by subst hg; exact blk_new w o

/-- A block of one cell, not frozen. -/
abbrev One (w : World) (g : Nat) (t : TypeId) (v : Value) : Prop := w.heap[g]? = some (.cells #[v] t (0, 0))

section
variable {P : Program}
/-- xs[m:] -/
theorem drop_int (t e : TypeId) (ht : P.underlying t = some (.slice e)) (hsz : (P.info? e).map (·.size) = some 1) (A : Option Addr) (c : Nat) (xs : List Int) (m : Nat) (hm : m ≤ xs.length) (hc : xs.length ≤ c) :
    ∃ A' : Option Addr, (∀ W : World, (Instr.slice t (.slice A xs.length c) (some (.int .i64 m)) none none).run P W = .ok (.slice A' (xs.length - m) (c - m)) W) ∧
      (∀ (k : IntKind) (w : World), Kd.C (Kd.int k) w A xs.length xs → Kd.C (Kd.int k) w A' (xs.length - m) (xs.drop m)) ∧ xs.length - m ≤ c - m := by
  obtain ⟨i, hi, hs⟩ := Option.map_eq_some_iff.1 hsz
  have hel : P.elem t = e := by simp [Program.elem, ht]
  refine ⟨if c = m then A else A.map (·.add (m * 1)), fun W => ?_, fun k w h => ?_, by omega⟩
  · rw [run_slice_l W t A xs.length c (by rw [hel]; exact ht) .i64 m (by omega) (by omega), hel]
    by_cases hcm : c = m
    · have : xs.length = m := by omega
      simp [sizeOf, typeInfo, hi, hs, sliced, Result.andThen, hcm, this]
    · by_cases hlm : xs.length = m
      · simp [sizeOf, typeInfo, hi, hs, sliced, Result.andThen, hcm, hlm]
      · simp [sizeOf, typeInfo, hi, hs, sliced, Result.andThen, hcm, hlm]
  · have := Kd.C_drop h hm hc
    rw [List.length_drop] at this
    exact this
end

/-- A block of cells of a type, not frozen, of which something holds. -/
def BlkIs (w : World) (g : Nat) (t : TypeId) (f : Array Value → Prop) : Prop := ∃ c, w.heap[g]? = some (.cells c t (0, 0)) ∧ f c
section
variable {w w1 : World} {g : Nat} {t : TypeId} {f : Array Value → Prop}
theorem BlkIs.of {c : Array Value} (h : w.heap[g]? = some (.cells c t (0, 0))) (hf : f c) : BlkIs w g t f := ⟨c, h, hf⟩
theorem BlkIs.set {i : Nat} {u : Value} (h : BlkIs w g t (fun c => f (c.setIfInBounds i u))) : BlkIs (w.setCell ⟨g, i, none⟩ u) g t f := by
  obtain ⟨c, hc, hf⟩ := h
  exact ⟨_, blk_set hc i u, hf⟩
theorem BlkIs.far {p : Addr} {u : Value} (h : BlkIs w g t f) (hp : g ≠ p.block) : BlkIs (w.setCell p u) g t f := by
  obtain ⟨c, hc, hf⟩ := h
  exact ⟨_, blk_far hc hp u, hf⟩
theorem BlkIs.alloc {o : Obj} (h : BlkIs w g t f) : BlkIs (w.alloc o) g t f := by
  obtain ⟨c, hc, hf⟩ := h
  exact ⟨_, blk_alloc hc o, hf⟩
theorem BlkIs.drew (h : BlkIs w g t f) : BlkIs w.drew g t f := h
theorem BlkIs.drewN {n : Nat} (h : BlkIs w g t f) : BlkIs (w.drewN n) g t f := h
theorem BlkIs.new {c : Array Value} (hg : g = w.heap.size) (hf : f c) : BlkIs (w.alloc (.cells c t)) g t f := ⟨c, blk_new' _ hg, hf⟩
theorem BlkIs.below (h : BlkIs w g t f) (hb : Below w.heap.size w w1) : BlkIs w1 g t f := by
  obtain ⟨c, hc, hf⟩ := h
  exact ⟨_, blk_below hc hb, hf⟩
theorem BlkIs.chg {S : Nat → Prop} (h : BlkIs w g t f) (hb : Chg w w1 S) (hn : ¬ S g) : BlkIs w1 g t f := by
  obtain ⟨c, hc, hf⟩ := h
  exact ⟨_, blk_chg hc hb hn, hf⟩
theorem BlkIs.one {v : Value} (h : BlkIs w g t (· = #[v])) : One w g t v := by
  obtain ⟨c, hc, rfl⟩ := h
  exact hc
end
section
variable {P : Program}
theorem run_loadVar_scalar (w : World) (g : Nat) (t ty : TypeId) (v : Value) (fr : Nat × Nat) (hg : w.heap[g]? = some (.cells #[v] t fr)) (hd : (match P.underlying ty with | some (.struct _) | some (.array _ _) | none => false | _ => true) = true) :
    (loadVar ty ⟨g, 0, none⟩).run P w = .ok v w := by
  have hc : w.cell? ⟨g, 0, none⟩ = some v := by rw [cell_of_row w g 0 _ t fr hg]; rfl
  have hi : (isAgg ty).run P w = .ok false w := by
    unfold isAgg
    cases hu : P.underlying ty with
    | none => simp [hu] at hd
    | some d =>
      simp only [Sem.run_bind, run_underlying hu, Result.andThen_ok]
      cases d <;> first | rfl | (simp [hu] at hd)
  unfold loadVar
  simp [hi, hc]

theorem load_agg {w : World} {g : Nat} {t ty : TypeId} {cs : Array Value} {d : TypeDesc} (h : BlkIs w g t (· = cs))
    (hu : P.underlying ty = some d) (hd : (match d with | .struct _ | .array _ _ => true | _ => false) = true) (hi : (P.info? ty).map (·.size) = some cs.size) : (loadVar ty ⟨g, 0, none⟩).run P w = .ok (.agg cs) w := by
  obtain ⟨c, hc, rfl⟩ := h
  exact run_loadVar_row w g t ty c (0, 0) d hc hu hd hi
theorem load_one {w : World} {g : Nat} {t ty : TypeId} {v : Value} (h : BlkIs w g t (· = #[v]))
    (hd : (match P.underlying ty with | some (.struct _) | some (.array _ _) | none => false | _ => true) = true) : (loadVar ty ⟨g, 0, none⟩).run P w = .ok v w := by
  obtain ⟨c, hc, rfl⟩ := h
  exact run_loadVar_scalar w g t ty v (0, 0) hc hd

inductive RVals (P : Program) (tmps : Array Value) (w : World) : List ResultVar → List Value → Prop where
  | nil : RVals P tmps w [] []
  | tmp {u : Tmp} {v : Value} {rs : List ResultVar} {vs : List Value} (hv : tmps.getD u undef = v) (h : RVals P tmps w rs vs) : RVals P tmps w (.tmp u :: rs) (v :: vs)
  | cell {p : Tmp} {ty : TypeId} {v : Value} {rs : List ResultVar} {vs : List Value} (g : Nat) (hp : tmps.getD p undef = .pointer (some ⟨g, 0, none⟩)) (hl : (loadVar ty ⟨g, 0, none⟩).run P w = .ok v w)
      (h : RVals P tmps w rs vs) : RVals P tmps w (.cell p ty :: rs) (v :: vs)

variable {tmps : Array Value} {w : World}
theorem rvals_run {rs : List ResultVar} {vs : List Value} (hv : RVals P tmps w rs vs) (f : ResultVar → Sem Value) (hf : ∀ u, f (.tmp u) = pure (tmps.getD u undef)) (hc : ∀ a t, f (.cell a t) = (do loadVar t (← asAddr (tmps.getD a undef)))) :
    (rs.mapM f).run P w = .ok vs w := by
  induction hv with
  | nil => simp
  | tmp hv h ih => simp [List.mapM_cons, hf, ih]; simpa using hv
  | cell g hp hl h ih =>
    rw [List.mapM_cons, hc, hp]
    simp [asAddr, hl, ih]
theorem rresults {fn : Func} {rs : List ResultVar} {vs : List Value} (h : fn.results = rs.toArray) (hl : vs.length ≠ 1) (hv : RVals P tmps w rs vs) : (results fn tmps).run P w = .ok (.tuple vs.toArray) w := by
  unfold results
  rw [h, List.mapM_toArray]
  simp only [Sem.run_bind, Sem.run_map]
  rw [rvals_run hv]
  · simp [hl]
  · intro u; rfl
  · intro a t; rfl
theorem rresult1 {fn : Func} {r : ResultVar} {v : Value} (h : fn.results = #[r]) (hv : RVals P tmps w [r] [v]) : (results fn tmps).run P w = .ok v w := by
  unfold results
  rw [show fn.results = [r].toArray from h, List.mapM_toArray]
  simp only [Sem.run_bind, Sem.run_map]
  rw [rvals_run hv]
  · simp
  · intro u; rfl
  · intro a t; rfl
end
end Go.Proofs.Ytcekghcejmhhaaa
