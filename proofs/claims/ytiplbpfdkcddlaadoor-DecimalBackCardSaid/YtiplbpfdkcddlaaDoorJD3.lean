/- General lemmas, over any program: what a call's result variables hold; blocks through stores, allocations and calls. Sums and differences of numbers, element by element. slices.Clone at numbers: a row of its own with the same elements. nat's inner functions: at, trim, of, add, sub: what they compute, as numbers. -/
import Derived.Test.YtiplbpfdkcddlaaDoorJD1
import Derived.Lib.Hide
import Derived.Defers
import Derived.Deep.WholeRow
import Derived.Test.YtiplbpfdkcddlaaDoorProg
import Derived.WalkKit
import Derived.WalkSpells
import Derived.WalkLawsBesides
import Derived.Outline
import Derived.BigQuiet
import Derived.Deep.QuietTactic
import Derived.Deep.RegionHeld3
set_option linter.unusedSimpArgs false
set_option linter.unusedVariables false
set_option linter.unnecessarySimpa false
namespace Go.Proofs.YtiplbpfdkcddlaaDoor
open Go.RowKit Go.Proofs.YtiplbpfdkcddlaaDoorW.PrintWords Go.Proofs.YtiplbpfdkcddlaaDoorW.PrintLast Go.Proofs.YtiplbpfdkcddlaaDoorW.PrintMore

theorem bcell {W w1 : World} (hb : Below W.heap.size W w1) : (∀ b o, b < W.heap.size → w1.cell? ⟨b, o, none⟩ = W.cell? ⟨b, o, none⟩) ∧ (∀ b o, b < W.heap.size → w1.frozen? ⟨b, o, none⟩ = W.frozen? ⟨b, o, none⟩) :=
  ⟨fun b o h => hb.cell (p := ⟨b, o, none⟩) h, fun b o h => hb.frozen (p := ⟨b, o, none⟩) h⟩

/-- A list of whole numbers that is read, opened: where it lies. -/
theorem open_C {k : IntKind} {w : World} {A : Option Addr} {n : Nat} {xs : List Int} (h : Kd.C (Kd.int k) w A n xs) (hn : 0 < n) :
    ∃ b off, A = some ⟨b, off, none⟩ ∧ b < w.heap.size ∧ ∀ i, i < n → w.cell? ⟨b, off + i, none⟩ = some (.int k (xs.getD i 0)) := by
  obtain ⟨hl, _, hd⟩ := h
  obtain ⟨ad, rfl, hc⟩ := hd hn
  have key : ∀ i, i < n → w.cell? (ad.add i) = some (.int k (xs.getD i 0)) := by
    intro i hi
    have hlt : i < xs.length := by omega
    obtain ⟨c, hc1, hc2, hc3⟩ := hc i xs[i] (List.getElem?_eq_getElem hlt)
    have hc2' : c = [.int k xs[i]] := hc2
    have h3 := hc3 0 (.int k xs[i]) (by rw [hc2']; rfl)
    have e1 : i * (Kd.int k).sz + 0 = i := by show i * 1 + 0 = i; omega
    rw [e1] at h3
    rw [h3, List.getD_eq_getElem?_getD, List.getElem?_eq_getElem hlt]; rfl
  have h0 := key 0 hn
  obtain ⟨b, off, spot⟩ := ad
  have hs : spot = none := by
    cases spot with
    | none => rfl
    | some s => simp [Addr.add, World.cell?] at h0; split at h0 <;> simp at h0
  subst hs
  refine ⟨b, off, rfl, ?_, ?_⟩
  · have := World.block_lt_of_cell? w _ h0
    simpa [Addr.add] using this
  · intro i hi
    have := key i hi
    have e : (⟨b, off, none⟩ : Addr).add i = ⟨b, off + i, none⟩ := by unfold Addr.add; split <;> simp_all
    rwa [e] at this

/-- A row of whole numbers of the call's own. -/
abbrev OwnI (k : IntKind) (e : TypeId) (base : Nat) (w : World) (v : Value) (xs : List Int) : Prop := Kd.R (Kd.int k) e w base (fun _ => True) v xs

theorem R_fresh {k : IntKind} {e : TypeId} {base : Nat} (W : World) (g : Nat) (hg : g = W.heap.size) (xs : List Int) (cs : Array Value) (hcs : cs = (nums k xs).toArray) (n : Nat) (hn : n = xs.length) (hb : base ≤ W.heap.size) (hm : xs.length ≤ 9223372036854775807) :
    OwnI k e base (W.alloc (.cells cs e)) (.slice (some ⟨g, 0, none⟩) n n) xs := by
  subst hn
  subst hg
  refine ⟨fun _ _ => trivial, nums k xs, ?_, ?_⟩
  · have h2 := World.ownsRow_lit (base := base) (e := e) (size := 1) W cs xs.length hb (by simpa [maxLen] using hm) (by simp [hcs, nums])
    have h3 : (W.alloc (.cells cs e)).ownsRow base e 1 (.slice (some ⟨W.heap.size, 0, none⟩) xs.length xs.length) xs.length (nums k xs) := by simpa [hcs] using h2
    exact h3
  · exact Kd.reps_scalar (enc := Value.int k) xs

theorem own_lt_size {k : IntKind} {e : TypeId} {base : Nat} {w : World} {v : Value} {xs : List Int} (h : OwnI k e base w v xs) {g : Nat} (hg : v.ownBlock = some g) : g < w.heap.size := by
  obtain ⟨inner, ho⟩ := Kd.R_own h
  exact own_lt ho g hg
/-- A list of whole numbers that was just made, read while other blocks are written. -/
theorem fresh_src {k : IntKind} {e : TypeId} (W : World) (g : Nat) (hg : g = W.heap.size) (xs : List Int) (cs : Array Value) (hcs : cs = (nums k xs).toArray) (hm : xs.length ≤ 9223372036854775807) {S : Nat → Prop} (hS : ¬ S g) :
    ∀ W', Kept (W.alloc (.cells cs e)) W' S → Kd.C (Kd.int k) W' (some ⟨g, 0, none⟩) xs.length xs := by
  have h := R_fresh (k := k) (e := e) (base := g) W g hg xs cs hcs xs.length rfl (by omega) hm
  have h2 : Kd.R (Kd.int k) e (W.alloc (.cells cs e)) g (fun j => j = g) (.slice (some ⟨g, 0, none⟩) xs.length xs.length) xs := ⟨fun j hj => by simpa [Value.ownBlock] using hj.symm, by
    obtain ⟨_, inner, h3, h4⟩ := h
    exact ⟨inner, h3, h4⟩⟩
  exact Kd.C_kept_own h2 (fun j hj => by subst hj; exact hS)
/-- A row of one's own is read while other blocks are written. -/
theorem own_src {k : IntKind} {e : TypeId} {base : Nat} {w : World} {A : Option Addr} {n c : Nat} {xs : List Int} (h : OwnI k e base w (.slice A n c) xs) {S : Nat → Prop} (hS : ∀ j, base ≤ j → ¬ S j) :
    ∀ W', Kept w W' S → Kd.C (Kd.int k) W' A n xs :=
  Kd.C_kept_own (Kd.R_bound h) (fun j hj => hS j hj.2.1)
theorem C_of_below {w w' : World} {A : Option Addr} {n : Nat} {xs : List Int} {k : IntKind} (h : Kd.C (Kd.int k) w A n xs) (hb : Below w.heap.size w w') : Kd.C (Kd.int k) w' A n xs := Kd.C_below h hb

/-- What has turned: blocks of S alone, and new ones. -/
structure Chg (w w' : World) (S : Nat → Prop) : Prop where
  os : w'.os = w.os
  tape : w'.tape = w.tape
  output : w'.output = w.output
  size : w.heap.size ≤ w'.heap.size
  block : ∀ k, k < w.heap.size → ¬ S k → w'.heap[k]? = w.heap[k]?

theorem Chg.of_below {w w' : World} {S : Nat → Prop} (h : Below w.heap.size w w') : Chg w w' S := ⟨h.os, h.tape, h.output, h.size, fun k hk _ => h.block k hk⟩
theorem Chg.setCell {w w' : World} {S : Nat → Prop} (h : Chg w w' S) {p : Addr} (hp : S p.block) (u : Value) : Chg w (w'.setCell p u) S :=
  ⟨h.os, h.tape, h.output, by simpa [World.setCell] using h.size, fun k hk hn => by rw [Below.heap_setCell _ _ _ _ (by rintro rfl; exact hn hp)]; exact h.block k hk hn⟩
/-- What a call does to new blocks is nothing to the world before. -/
theorem below_chg {w W w2 : World} {S : Nat → Prop} (h : Below w.heap.size w W) (k : Chg W w2 S) (hS : ∀ i, S i → w.heap.size ≤ i) : Below w.heap.size w w2 :=
  ⟨k.os.trans h.os, k.tape.trans h.tape, k.output.trans h.output, Nat.le_trans h.size k.size, fun i hi => (k.block i (Nat.lt_of_lt_of_le hi h.size) (fun hs => by have := hS i hs; omega)).trans (h.block i hi)⟩
theorem blk_chg {w w1 : World} {g : Nat} {o : Obj} {S : Nat → Prop} (h : w.heap[g]? = some o) (hk : Chg w w1 S) (hn : ¬ S g) : w1.heap[g]? = some o := (hk.block g (blk_lt h) hn).trans h
theorem blk_new' {w : World} {g : Nat} (o : Obj) (hg : g = w.heap.size) : (w.alloc o).heap[g]? = some o := by subst hg; exact blk_new w o

/-- A block of one cell, not frozen. -/
abbrev One (w : World) (g : Nat) (t : TypeId) (v : Value) : Prop := w.heap[g]? = some (.cells #[v] t (0, 0))

section
variable {P : Program}
/-- xs[m:] -/
theorem drop_int (t e : TypeId) (ht : P.underlying t = some (.slice e)) (hsz : (P.info? e).map (·.size) = some 1) (A : Option Addr) (c : Nat) (xs : List Int) (m : Nat) (hm : m ≤ xs.length) (hc : xs.length ≤ c) :
    ∃ A' : Option Addr, (∀ W : World, (Instr.slice t (.slice A xs.length c) (some (.int .i64 m)) none none).run P W = .ok (.slice A' (xs.length - m) (c - m)) W) ∧
      (∀ (k : IntKind) (w : World), Kd.C (Kd.int k) w A xs.length xs → Kd.C (Kd.int k) w A' (xs.length - m) (xs.drop m)) ∧ xs.length - m ≤ c - m := by
  obtain ⟨i, hi, hs⟩ := Option.map_eq_some_iff.1 hsz
  have hel : P.elem t = e := by simp [Program.elem, ht]
  refine ⟨if c = m then A else A.map (·.add (m * 1)), fun W => ?_, fun k w h => ?_, by omega⟩
  · rw [run_slice_l W t A xs.length c (by rw [hel]; exact ht) .i64 m (by omega) (by omega), hel]
    by_cases hcm : c = m
    · have : xs.length = m := by omega
      simp [sizeOf, typeInfo, hi, hs, sliced, Result.andThen, hcm, this]
    · by_cases hlm : xs.length = m
      · simp [sizeOf, typeInfo, hi, hs, sliced, Result.andThen, hcm, hlm]
      · simp [sizeOf, typeInfo, hi, hs, sliced, Result.andThen, hcm, hlm]
  · have := Kd.C_drop h hm hc
    rw [List.length_drop] at this
    exact this
end

/-- A block of cells of a type, not frozen, of which something holds. -/
def BlkIs (w : World) (g : Nat) (t : TypeId) (f : Array Value → Prop) : Prop := ∃ c, w.heap[g]? = some (.cells c t (0, 0)) ∧ f c
section
variable {w w1 : World} {g : Nat} {t : TypeId} {f : Array Value → Prop}
theorem BlkIs.of {c : Array Value} (h : w.heap[g]? = some (.cells c t (0, 0))) (hf : f c) : BlkIs w g t f := ⟨c, h, hf⟩
theorem BlkIs.set {i : Nat} {u : Value} (h : BlkIs w g t (fun c => f (c.setIfInBounds i u))) : BlkIs (w.setCell ⟨g, i, none⟩ u) g t f := by
  obtain ⟨c, hc, hf⟩ := h
  exact ⟨_, blk_set hc i u, hf⟩
theorem BlkIs.far {p : Addr} {u : Value} (h : BlkIs w g t f) (hp : g ≠ p.block) : BlkIs (w.setCell p u) g t f := by
  obtain ⟨c, hc, hf⟩ := h
  exact ⟨_, blk_far hc hp u, hf⟩
theorem BlkIs.alloc {o : Obj} (h : BlkIs w g t f) : BlkIs (w.alloc o) g t f := by
  obtain ⟨c, hc, hf⟩ := h
  exact ⟨_, blk_alloc hc o, hf⟩
theorem BlkIs.drew (h : BlkIs w g t f) : BlkIs w.drew g t f := h
theorem BlkIs.drewN {n : Nat} (h : BlkIs w g t f) : BlkIs (w.drewN n) g t f := h
theorem BlkIs.new {c : Array Value} (hg : g = w.heap.size) (hf : f c) : BlkIs (w.alloc (.cells c t)) g t f := ⟨c, blk_new' _ hg, hf⟩
theorem BlkIs.below (h : BlkIs w g t f) (hb : Below w.heap.size w w1) : BlkIs w1 g t f := by
  obtain ⟨c, hc, hf⟩ := h
  exact ⟨_, blk_below hc hb, hf⟩
theorem BlkIs.chg {S : Nat → Prop} (h : BlkIs w g t f) (hb : Chg w w1 S) (hn : ¬ S g) : BlkIs w1 g t f := by
  obtain ⟨c, hc, hf⟩ := h
  exact ⟨_, blk_chg hc hb hn, hf⟩
theorem BlkIs.one {v : Value} (h : BlkIs w g t (· = #[v])) : One w g t v := by
  obtain ⟨c, hc, rfl⟩ := h
  exact hc
end
section
variable {P : Program}
theorem run_loadVar_scalar (w : World) (g : Nat) (t ty : TypeId) (v : Value) (fr : Nat × Nat) (hg : w.heap[g]? = some (.cells #[v] t fr)) (hd : (match P.underlying ty with | some (.struct _) | some (.array _ _) | none => false | _ => true) = true) :
    (loadVar ty ⟨g, 0, none⟩).run P w = .ok v w := by
  have hc : w.cell? ⟨g, 0, none⟩ = some v := by rw [cell_of_row w g 0 _ t fr hg]; rfl
  have hi : (isAgg ty).run P w = .ok false w := by
    unfold isAgg
    cases hu : P.underlying ty with
    | none => simp [hu] at hd
    | some d =>
      simp only [Sem.run_bind, run_underlying hu, Result.andThen_ok]
      cases d <;> first | rfl | (simp [hu] at hd)
  unfold loadVar
  simp [hi, hc]

theorem load_agg {w : World} {g : Nat} {t ty : TypeId} {cs : Array Value} {d : TypeDesc} (h : BlkIs w g t (· = cs))
    (hu : P.underlying ty = some d) (hd : (match d with | .struct _ | .array _ _ => true | _ => false) = true) (hi : (P.info? ty).map (·.size) = some cs.size) : (loadVar ty ⟨g, 0, none⟩).run P w = .ok (.agg cs) w := by
  obtain ⟨c, hc, rfl⟩ := h
  exact run_loadVar_row w g t ty c (0, 0) d hc hu hd hi
theorem load_one {w : World} {g : Nat} {t ty : TypeId} {v : Value} (h : BlkIs w g t (· = #[v]))
    (hd : (match P.underlying ty with | some (.struct _) | some (.array _ _) | none => false | _ => true) = true) : (loadVar ty ⟨g, 0, none⟩).run P w = .ok v w := by
  obtain ⟨c, hc, rfl⟩ := h
  exact run_loadVar_scalar w g t ty v (0, 0) hc hd

inductive RVals (P : Program) (tmps : Array Value) (w : World) : List ResultVar → List Value → Prop where
  | nil : RVals P tmps w [] []
  | tmp {u : Tmp} {v : Value} {rs : List ResultVar} {vs : List Value} (hv : tmps.getD u undef = v) (h : RVals P tmps w rs vs) : RVals P tmps w (.tmp u :: rs) (v :: vs)
  | cell {p : Tmp} {ty : TypeId} {v : Value} {rs : List ResultVar} {vs : List Value} (g : Nat) (hp : tmps.getD p undef = .pointer (some ⟨g, 0, none⟩)) (hl : (loadVar ty ⟨g, 0, none⟩).run P w = .ok v w)
      (h : RVals P tmps w rs vs) : RVals P tmps w (.cell p ty :: rs) (v :: vs)

variable {tmps : Array Value} {w : World}
theorem rvals_run {rs : List ResultVar} {vs : List Value} (hv : RVals P tmps w rs vs) (f : ResultVar → Sem Value) (hf : ∀ u, f (.tmp u) = pure (tmps.getD u undef)) (hc : ∀ a t, f (.cell a t) = (do loadVar t (← asAddr (tmps.getD a undef)))) :
    (rs.mapM f).run P w = .ok vs w := by
  induction hv with
  | nil => simp
  | tmp hv h ih => simp [List.mapM_cons, hf, ih]; simpa using hv
  | cell g hp hl h ih =>
    rw [List.mapM_cons, hc, hp]
    simp [asAddr, hl, ih]
theorem rresults {fn : Func} {rs : List ResultVar} {vs : List Value} (h : fn.results = rs.toArray) (hl : vs.length ≠ 1) (hv : RVals P tmps w rs vs) : (results fn tmps).run P w = .ok (.tuple vs.toArray) w := by
  unfold results
  rw [h, List.mapM_toArray]
  simp only [Sem.run_bind, Sem.run_map]
  rw [rvals_run hv]
  · simp [hl]
  · intro u; rfl
  · intro a t; rfl
theorem rresult1 {fn : Func} {r : ResultVar} {v : Value} (h : fn.results = #[r]) (hv : RVals P tmps w [r] [v]) : (results fn tmps).run P w = .ok v w := by
  unfold results
  rw [show fn.results = [r].toArray from h, List.mapM_toArray]
  simp only [Sem.run_bind, Sem.run_map]
  rw [rvals_run hv]
  · simp
  · intro u; rfl
  · intro a t; rfl
end
/-- What holds of the world and its blocks, found by stepping back (a tactic as the argument's default). -/
theorem bel {n : Nat} {w w' : World} (h : Below n w w' := by repeat (first | with_reducible assumption | with_reducible exact Below.refl _ _ | with_reducible refine below_alloc ?_ _ | with_reducible refine pw_below_drewN ?_ _ | with_reducible refine below_drew1 ?_ | ((with_reducible refine below_set ?_ ?hle); (case hle => first | (simp; done) | omega | (simp; omega))) | with_reducible refine below_step ?_ (by assumption))) : Below n w w' := h
theorem blk0 {w : World} {g : Nat} {t : TypeId} {f : Array Value → Prop} (h : BlkIs w g t f := by repeat (first | with_reducible assumption | ((with_reducible refine BlkIs.new ?hg ?hf); (case hg => (simp; done)); (case hf => first | rfl | (simp; done))) | with_reducible refine BlkIs.alloc ?_ | with_reducible refine BlkIs.drewN ?_ | with_reducible refine BlkIs.drew ?_ | with_reducible refine BlkIs.set ?_ | ((with_reducible refine BlkIs.far ?_ ?hne); (case hne => first | (simp; done) | omega | (simp; omega))) | with_reducible refine BlkIs.below ?_ (by assumption) | ((with_reducible refine BlkIs.chg ?_ (by assumption) ?hnn); (case hnn => first | (simp; done) | omega | (simp; omega) | (intro hs; have := hs.1; omega))) | ((with_reducible refine BlkIs.of (by assumption) ?hf); (case hf => first | rfl | (simp; done))))) : BlkIs w g t f := h
end Go.Proofs.YtiplbpfdkcddlaaDoor

set_option linter.unusedSimpArgs false
set_option linter.unusedVariables false
set_option linter.unnecessarySimpa false
/- Natural numbers as lists of elements to the base 2^32, the least one first. No Go here. -/

namespace Go.Proofs.YtiplbpfdkcddlaaDoor.NL

def B : Nat := 4294967296
/-- The number that elements are. -/
def val : List Int → Nat
  | [] => 0
  | x :: t => x.toNat + 4294967296 * val t
/-- The elements of a number, no 0 at the end. -/
def ofN (n : Nat) : List Int := if h : n = 0 then [] else ((n % 4294967296 : Nat) : Int) :: ofN (n / 4294967296)
termination_by n
decreasing_by omega

def Lim (l : List Int) : Prop := ∀ x ∈ l, 0 ≤ x ∧ x < 4294967296
def Top (l : List Int) : Prop := l.getLast? ≠ some 0

theorem ofN_zero : ofN 0 = [] := by rw [ofN]; rfl
theorem ofN_pos {n : Nat} (h : n ≠ 0) : ofN n = ((n % 4294967296 : Nat) : Int) :: ofN (n / 4294967296) := by rw [ofN, dif_neg h]
theorem val_ofN (n : Nat) : val (ofN n) = n := by
  induction n using Nat.strongRecOn with
  | _ n ih =>
    by_cases h : n = 0
    · subst h; rw [ofN_zero]; rfl
    · rw [ofN_pos h, val, ih _ (by omega)]; omega
theorem lim_ofN (n : Nat) : Lim (ofN n) := by
  induction n using Nat.strongRecOn with
  | _ n ih =>
    by_cases h : n = 0
    · subst h; rw [ofN_zero]; intro x hx; cases hx
    · rw [ofN_pos h]
      intro x hx
      rcases List.mem_cons.1 hx with rfl | hx
      · omega
      · exact ih _ (by omega) x hx
theorem ofN_nil {n : Nat} : ofN n = [] ↔ n = 0 := by
  constructor
  · intro h
    have := val_ofN n
    rw [h] at this
    exact this.symm
  · rintro rfl; exact ofN_zero
theorem top_ofN (n : Nat) : Top (ofN n) := by
  induction n using Nat.strongRecOn with
  | _ n ih =>
    by_cases h : n = 0
    · subst h; rw [ofN_zero]; unfold Top; simp
    · rw [ofN_pos h]
      unfold Top
      rw [List.getLast?_cons]
      by_cases h2 : n / 4294967296 = 0
      · rw [ofN_nil.2 h2]; simp; omega
      · have := ih (n / 4294967296) (by omega)
        unfold Top at this
        cases hq : (ofN (n / 4294967296)).getLast? with
        | none => rw [List.getLast?_eq_none_iff] at hq; exact absurd (ofN_nil.1 hq) h2
        | some y => rw [hq] at this; simpa using this
theorem Lim.tail {x : Int} {t : List Int} (h : Lim (x :: t)) : Lim t := fun y hy => h y (List.mem_cons_of_mem _ hy)
theorem Lim.head {x : Int} {t : List Int} (h : Lim (x :: t)) : 0 ≤ x ∧ x < 4294967296 := h x (List.mem_cons_self ..)
theorem Lim.cons {x : Int} {t : List Int} (h0 : 0 ≤ x ∧ x < 4294967296) (h : Lim t) : Lim (x :: t) := fun y hy => by
  rcases List.mem_cons.1 hy with rfl | hy
  · exact h0
  · exact h y hy
theorem Lim.append {a b : List Int} (h : Lim a) (k : Lim b) : Lim (a ++ b) := fun y hy => by
  rcases List.mem_append.1 hy with hy | hy
  · exact h y hy
  · exact k y hy
theorem Top.tail {x : Int} {t : List Int} (h : Top (x :: t)) (_ht : t ≠ []) : Top t := by
  unfold Top at *
  rw [List.getLast?_cons] at h
  cases hq : t.getLast? with
  | none => simp
  | some y => rw [hq] at h; simpa using h
theorem val_pos : ∀ {l : List Int}, Lim l → Top l → l ≠ [] → 0 < val l
  | [], _, _, h => absurd rfl h
  | x :: t, hl, ht, _ => by
    rw [val]
    by_cases h : t = []
    · subst h
      have h0 := hl.head
      have : x ≠ 0 := by intro hx; apply ht; subst hx; rfl
      omega
    · have := val_pos hl.tail (ht.tail h) h
      omega
theorem ofN_val : ∀ {l : List Int}, Lim l → Top l → ofN (val l) = l
  | [], _, _ => ofN_zero
  | x :: t, hl, ht => by
    have h0 := hl.head
    have hp : val (x :: t) ≠ 0 := by have := val_pos hl ht (by simp); omega
    rw [ofN_pos hp, val]
    have e1 : (x.toNat + 4294967296 * val t) % 4294967296 = x.toNat := by omega
    have e2 : (x.toNat + 4294967296 * val t) / 4294967296 = val t := by omega
    rw [e1, e2]
    by_cases h : t = []
    · subst h; rw [show val [] = 0 from rfl, ofN_zero, Int.toNat_of_nonneg h0.1]
    · rw [ofN_val hl.tail (ht.tail h), Int.toNat_of_nonneg h0.1]
/-- Zeros at the end do not matter. -/
theorem val_append : ∀ (a b : List Int), val (a ++ b) = val a + 4294967296 ^ a.length * val b
  | [], b => by simp [val]
  | x :: t, b => by
    rw [List.cons_append, val, val, val_append t b, List.length_cons, Nat.pow_succ]
    rw [Nat.mul_add, ← Nat.mul_assoc, Nat.mul_comm (4294967296 ^ t.length)]
    omega
theorem val_lt : ∀ {l : List Int}, Lim l → val l < 4294967296 ^ l.length
  | [], _ => by simp [val]
  | x :: t, h => by
    have h0 := h.head
    have := val_lt h.tail
    rw [val, List.length_cons, Nat.pow_succ]
    omega
theorem val_top : ∀ {l : List Int}, Lim l → Top l → l ≠ [] → 4294967296 ^ (l.length - 1) ≤ val l
  | [], _, _, h => absurd rfl h
  | x :: t, hl, ht, _ => by
    by_cases h : t = []
    · subst h
      have := val_pos hl ht (by simp)
      simpa using Nat.succ_le_of_lt this
    · have := val_top hl.tail (ht.tail h) h
      obtain ⟨k, hk⟩ : ∃ k, t.length = k + 1 := ⟨t.length - 1, by have := List.length_pos_iff.2 h; omega⟩
      rw [val, List.length_cons]
      rw [hk] at this ⊢
      simp only [Nat.add_sub_cancel] at this ⊢
      rw [Nat.pow_succ]
      omega
theorem len_ofN_le {n k : Nat} (h : n < 4294967296 ^ k) : (ofN n).length ≤ k := by
  rcases Nat.lt_or_ge k (ofN n).length with h2 | h2
  · have hne : ofN n ≠ [] := by intro hh; rw [hh] at h2; simp at h2
    have := val_top (lim_ofN n) (top_ofN n) hne
    rw [val_ofN] at this
    have h3 : 4294967296 ^ k ≤ 4294967296 ^ ((ofN n).length - 1) := Nat.pow_le_pow_right (by omega) (by omega)
    omega
  · exact h2
theorem lt_of_len {n k : Nat} (h : (ofN n).length ≤ k) : n < 4294967296 ^ k := by
  have h1 := val_lt (lim_ofN n)
  rw [val_ofN] at h1
  exact Nat.lt_of_lt_of_le h1 (Nat.pow_le_pow_right (by omega) h)
/-- Zeros at the end dropped. -/
def trimL (l : List Int) : List Int := ofN (val l)
theorem trimL_zero {l : List Int} : trimL (l ++ [0]) = trimL l := by
  unfold trimL
  rw [val_append]; simp [val]
theorem trimL_self {l : List Int} (h : Lim l) (t : Top l) : trimL l = l := ofN_val h t
theorem val_inj {a b : List Int} (ha : Lim a) (ta : Top a) (hb : Lim b) (tb : Top b) (h : val a = val b) : a = b := by
  rw [← ofN_val ha ta, ← ofN_val hb tb, h]
theorem ofN_inj {a b : Nat} (h : ofN a = ofN b) : a = b := by rw [← val_ofN a, ← val_ofN b, h]
/-- An element by its number. -/
theorem val_get : ∀ (l : List Int) (i : Nat), Lim l → i < l.length → (l.getD i 0) = ((val l / 4294967296 ^ i % 4294967296 : Nat) : Int)
  | x :: t, 0, h, _ => by
    have h0 := h.head
    simp only [List.getD_cons_zero, val, Nat.pow_zero, Nat.div_one]
    omega
  | x :: t, i + 1, h, hi => by
    have h0 := h.head
    rw [List.getD_cons_succ, val_get t i h.tail (by simpa using hi), val, Nat.pow_succ, Nat.mul_comm (4294967296 ^ i), ← Nat.div_div_eq_div_mul]
    congr 3
    omega
end Go.Proofs.YtiplbpfdkcddlaaDoor.NL

set_option linter.unusedSimpArgs false
set_option linter.unusedVariables false
set_option linter.unnecessarySimpa false
namespace Go.Proofs.YtiplbpfdkcddlaaDoor.NL

abbrev W (k : Nat) : Nat := 4294967296 ^ k
theorem W_pos (k : Nat) : 0 < W k := Nat.pow_pos (by omega)
theorem W_succ (k : Nat) : W (k + 1) = 4294967296 * W k := by show 4294967296 ^ (k + 1) = _; rw [Nat.pow_succ, Nat.mul_comm]
theorem W_add (a b : Nat) : W (a + b) = W a * W b := Nat.pow_add ..
theorem W_le {a b : Nat} (h : a ≤ b) : W a ≤ W b := Nat.pow_le_pow_right (by omega) h
theorem W_zero : W 0 = 1 := rfl

theorem take_all {a : List Int} {k : Nat} (h : a.length ≤ k) : a.take k = a := List.take_of_length_le h
theorem val_take_succ (a : List Int) (k : Nat) : val (a.take (k + 1)) = val (a.take k) + W k * (a.getD k 0).toNat := by
  by_cases h : k < a.length
  · rw [List.take_succ_eq_append_getElem h, val_append, List.getD_eq_getElem?_getD, List.getElem?_eq_getElem h, List.length_take, Nat.min_eq_left (by omega)]
    simp [val]
  · rw [take_all (k := k) (by omega), take_all (by omega), List.getD_eq_getElem?_getD, List.getElem?_eq_none (by omega)]
    simp
theorem take_set (a : List Int) (k : Nat) (x : Int) : (a.set k x).take k = a.take k := by
  apply List.ext_getElem
  · simp
  · intro i h1 h2
    simp only [List.length_take] at h1 h2
    simp only [List.getElem_take]
    rw [List.getElem_set_ne (by omega)]
theorem getD_set (a : List Int) (k : Nat) (x : Int) (h : k < a.length) : (a.set k x).getD k 0 = x := by
  rw [List.getD_eq_getElem?_getD, List.getElem?_eq_getElem (by simpa using h)]
  simp
theorem lim_set {a : List Int} (la : Lim a) {k : Nat} {x : Int} (h : 0 ≤ x ∧ x < 4294967296) : Lim (a.set k x) := fun y hy => by
  rcases List.mem_or_eq_of_mem_set hy with hy | rfl
  · exact la y hy
  · exact h
theorem lim_zeros (n : Nat) : Lim (List.replicate n 0) := fun y hy => by
  rw [List.mem_replicate] at hy
  omega
theorem lim_getD {a : List Int} (la : Lim a) (i : Nat) : 0 ≤ a.getD i 0 ∧ a.getD i 0 < 4294967296 := by
  by_cases h : i < a.length
  · rw [List.getD_eq_getElem?_getD, List.getElem?_eq_getElem h]; exact la _ (List.getElem_mem _)
  · rw [List.getD_eq_getElem?_getD, List.getElem?_eq_none (by omega)]; simp

/-- What has been added, k elements long. -/
def AddAt (a b : List Int) (k : Nat) (cy : Int) (ys : List Int) : Prop := 0 ≤ cy ∧ cy < 2 ∧ Lim ys ∧ val (ys.take k) + W k * cy.toNat = val (a.take k) + val (b.take k)
theorem AddAt.start (a b : List Int) (N : Nat) : AddAt a b 0 0 (List.replicate N 0) := ⟨by omega, by omega, lim_zeros N, by simp [val]⟩
theorem AddAt.step {a b ys : List Int} {k : Nat} {cy : Int} (la : Lim a) (lb : Lim b) (h : AddAt a b k cy ys) (hk : k < ys.length) :
    AddAt a b (k + 1) ((cy + (a.getD k 0 + b.getD k 0)) / 4294967296) (ys.set k ((cy + (a.getD k 0 + b.getD k 0)) % 4294967296)) := by
  obtain ⟨h0, h1, h2, h3⟩ := h
  have ha := lim_getD la k
  have hb := lim_getD lb k
  refine ⟨by omega, by omega, lim_set h2 (by omega), ?_⟩
  rw [val_take_succ, val_take_succ a, val_take_succ b, take_set, getD_set _ _ _ hk, W_succ]
  generalize a.getD k 0 = x at *
  generalize b.getD k 0 = y at *
  have e : ((cy + (x + y)) % 4294967296).toNat + 4294967296 * ((cy + (x + y)) / 4294967296).toNat = cy.toNat + x.toNat + y.toNat := by omega
  generalize ((cy + (x + y)) % 4294967296).toNat = u at *
  generalize ((cy + (x + y)) / 4294967296).toNat = v at *
  have e2 : W k * u + 4294967296 * W k * v = W k * (u + 4294967296 * v) := by rw [Nat.mul_add]; congr 1; rw [Nat.mul_comm 4294967296, Nat.mul_assoc]
  rw [e] at e2
  rw [Nat.mul_add, Nat.mul_add] at e2
  omega
theorem AddAt.done {a b ys : List Int} {cy : Int} {N : Nat} (la : Lim a) (lb : Lim b) (h : AddAt a b N cy ys) (hy : ys.length = N) (ha : a.length < N) (hb : b.length < N) : val ys = val a + val b := by
  obtain ⟨h0, h1, h2, h3⟩ := h
  rw [take_all (by omega), take_all (by omega), take_all (by omega)] at h3
  have v1 : val a < W a.length := val_lt la
  have v2 : val b < W b.length := val_lt lb
  obtain ⟨m, rfl⟩ : ∃ m, N = m + 1 := ⟨N - 1, by omega⟩
  have e1 := W_le (show a.length ≤ m by omega)
  have e2 := W_le (show b.length ≤ m by omega)
  rw [W_succ] at h3
  have : cy.toNat = 0 := by
    rcases Nat.eq_zero_or_pos cy.toNat with h | h
    · exact h
    · exfalso
      have h5 : 4294967296 * W m * 1 ≤ 4294967296 * W m * cy.toNat := Nat.mul_le_mul_left _ h
      omega
  rw [this] at h3
  omega
/-- What has been taken off. -/
def SubAt (a b : List Int) (k : Nat) (bo : Int) (ys : List Int) : Prop := 0 ≤ bo ∧ bo < 2 ∧ Lim ys ∧ val (ys.take k) + val (b.take k) = val (a.take k) + W k * bo.toNat
theorem SubAt.start (a b : List Int) (N : Nat) : SubAt a b 0 0 (List.replicate N 0) := ⟨by omega, by omega, lim_zeros N, by simp [val]⟩
/-- One element less another one, less what was borrowed, as 64 bits. -/
def subX (x y bo : Int) : Int := if x - y - bo < 0 then x - y - bo + 18446744073709551616 else x - y - bo
theorem SubAt.step {a b ys : List Int} {k : Nat} {bo : Int} (la : Lim a) (lb : Lim b) (h : SubAt a b k bo ys) (hk : k < ys.length) :
    SubAt a b (k + 1) (subX (a.getD k 0) (b.getD k 0) bo / 9223372036854775808) (ys.set k (subX (a.getD k 0) (b.getD k 0) bo % 4294967296)) := by
  obtain ⟨h0, h1, h2, h3⟩ := h
  have ha := lim_getD la k
  have hb := lim_getD lb k
  have hx : 0 ≤ subX (a.getD k 0) (b.getD k 0) bo ∧ subX (a.getD k 0) (b.getD k 0) bo < 18446744073709551616 := by unfold subX; split <;> omega
  refine ⟨by omega, by omega, lim_set h2 (by omega), ?_⟩
  rw [val_take_succ, val_take_succ a, val_take_succ b, take_set, getD_set _ _ _ hk, W_succ]
  generalize a.getD k 0 = x at *
  generalize b.getD k 0 = y at *
  have e : (subX x y bo % 4294967296).toNat + y.toNat + bo.toNat = x.toNat + 4294967296 * (subX x y bo / 9223372036854775808).toNat := by unfold subX; split <;> omega
  generalize (subX x y bo % 4294967296).toNat = u at *
  generalize (subX x y bo / 9223372036854775808).toNat = v at *
  have e2 : W k * (u + y.toNat + bo.toNat) = W k * (x.toNat + 4294967296 * v) := by rw [e]
  rw [Nat.mul_add, Nat.mul_add, Nat.mul_add] at e2
  have e3 : W k * (4294967296 * v) = 4294967296 * W k * v := by rw [Nat.mul_comm 4294967296 (W k), Nat.mul_assoc]
  omega
theorem SubAt.done {a b ys : List Int} {bo : Int} {N : Nat} (h : SubAt a b N bo ys) (hy : ys.length = N) (ha : a.length = N) (hb : b.length ≤ N) (hle : val b ≤ val a) : val ys = val a - val b := by
  obtain ⟨h0, h1, h2, h3⟩ := h
  rw [take_all (by omega), take_all (by omega), take_all (by omega)] at h3
  have v1 := val_lt h2
  rw [hy] at v1
  have : bo.toNat = 0 := by
    rcases Nat.eq_zero_or_pos bo.toNat with h | h
    · exact h
    · exfalso
      have h5 : W N * 1 ≤ W N * bo.toNat := Nat.mul_le_mul_left _ h
      have v1 : val ys < W N := v1
      omega
  rw [this] at h3
  omega
end Go.Proofs.YtiplbpfdkcddlaaDoor.NL

set_option linter.unusedSimpArgs false
set_option linter.unusedVariables false
set_option linter.unnecessarySimpa false
namespace Go.Proofs.YtiplbpfdkcddlaaDoor
open Go.RowKit Go.Proofs.YtiplbpfdkcddlaaDoorW.PrintWords Go.Proofs.YtiplbpfdkcddlaaDoorW.PrintLast Go.Proofs.YtiplbpfdkcddlaaDoorW.PrintMore
set_option maxRecDepth 100000

theorem infoU32 : (Tryd.prog.info? 46).map (fun i => (i.zero, i.size, i.bytes)) = some (some (.int .u32 0), 1, 4) := by kernel_rfl

/-- A row of its own, new. -/
def NewRow (w : World) (xs : List Int) (e : Ending) (w' : World) : Prop := ∃ v, e = .returned v ∧ Kd.R (Kd.int .u32) 46 w' w.heap.size (fun _ => True) v xs ∧ Below w.heap.size w w'

set_option maxHeartbeats 1000000 in
theorem clone_limbs (A : Option Addr) (n c : Nat) (xs : List Int) (w : World) (hC : Kd.C (Kd.int .u32) w A n xs) (hn : n ≤ 35184372088832) :
    Calls Tryd.prog 73 #[.slice A n c] w (NewRow w xs) := by
  have hl : xs.length = n := hC.1
  have HL := Lib.hid hl
  have HC := Lib.hid hC
  clear hl hC
  have hnil := Lib.run_eql_slice_nil (P := Tryd.prog) (t := 95) (e := 46) (h := Tryd.underlying95)
  by_cases hA : A = none
  · subst hA
    have h0 : xs = [] := by
      have h1 := HC.out.2.2
      have h2 := HL.out
      rcases Nat.eq_zero_or_pos n with h3 | h3
      · exact List.eq_nil_of_length_eq_zero (by omega)
      · obtain ⟨ad, h, _⟩ := h1 h3; cases h
    subst h0
    go_enter Tryd.func73, Tryd.ntmps73
    go_wp2
    go_ret
    exact ⟨_, rfl, Kd.R_nil _ _ _ _ _, Below.refl _ _⟩
  · obtain ⟨ad, rfl⟩ : ∃ ad, A = some ad := by cases A with | none => exact absurd rfl hA | some a => exact ⟨a, rfl⟩
    clear hA
    go_enter Tryd.func73, Tryd.ntmps73
    go_wp2_with (at_builtin; refine Kd.R_append_rows (Kd.int .u32) (w0 := w) w.heap.size rfl (.tmp 5) (.tmp 6) 95 46 (.int .u32 0) 4 rfl Tryd.underlying95 infoU32 rfl (by decide) (by omega) _ [] xs (some ad) n c (fun _ => True) (fun _ => False) rfl rfl (R_fresh w w.heap.size rfl [] #[] rfl 0 rfl (Nat.le_refl _) (by simp)) (Kd.C_below HC.out bel) (fun _ _ h => h) (fun _ h => h.elim) (fun _ _ => trivial) bel (by simp) (by simp; omega) ?_; intro v1 w1 hv hb _ _; obtain ⟨A1, c1, rfl⟩ := Kd.R_slice hv)
    go_ret
    exact ⟨_, rfl, hv, hb⟩

set_option maxHeartbeats 1000000 in
theorem clone_nat (A : Option Addr) (n c : Nat) (xs : List Int) (w : World) (hC : Kd.C (Kd.int .u32) w A n xs) (hn : n ≤ 35184372088832) :
    Calls Tryd.prog 20 #[.slice A n c] w (NewRow w xs) := by
  have hl : xs.length = n := hC.1
  have HL := Lib.hid hl
  have HC := Lib.hid hC
  clear hl hC
  have hnil := Lib.run_eql_slice_nil (P := Tryd.prog) (t := 32) (e := 46) (h := Tryd.underlying32)
  by_cases hA : A = none
  · subst hA
    have h0 : xs = [] := by
      have h1 := HC.out.2.2
      have h2 := HL.out
      rcases Nat.eq_zero_or_pos n with h3 | h3
      · exact List.eq_nil_of_length_eq_zero (by omega)
      · obtain ⟨ad, h, _⟩ := h1 h3; cases h
    subst h0
    go_enter Tryd.func20, Tryd.ntmps20
    go_wp2
    go_ret
    exact ⟨_, rfl, Kd.R_nil _ _ _ _ _, Below.refl _ _⟩
  · obtain ⟨ad, rfl⟩ : ∃ ad, A = some ad := by cases A with | none => exact absurd rfl hA | some a => exact ⟨a, rfl⟩
    clear hA
    go_enter Tryd.func20, Tryd.ntmps20
    go_wp2_with (at_builtin; refine Kd.R_append_rows (Kd.int .u32) (w0 := w) w.heap.size rfl (.tmp 5) (.tmp 6) 32 46 (.int .u32 0) 4 rfl Tryd.underlying32 infoU32 rfl (by decide) (by omega) _ [] xs (some ad) n c (fun _ => True) (fun _ => False) rfl rfl (R_fresh w w.heap.size rfl [] #[] rfl 0 rfl (Nat.le_refl _) (by simp)) (Kd.C_below HC.out bel) (fun _ _ h => h) (fun _ h => h.elim) (fun _ _ => trivial) bel (by simp) (by simp; omega) ?_; intro v1 w1 hv hb _ _; obtain ⟨A1, c1, rfl⟩ := Kd.R_slice hv)
    go_ret
    exact ⟨_, rfl, hv, hb⟩
end Go.Proofs.YtiplbpfdkcddlaaDoor

set_option linter.unusedSimpArgs false
set_option linter.unusedVariables false
set_option linter.unnecessarySimpa false
namespace Go.Proofs.YtiplbpfdkcddlaaDoor
open Go.RowKit Go.Proofs.YtiplbpfdkcddlaaDoorW.PrintWords Go.Proofs.YtiplbpfdkcddlaaDoorW.PrintLast Go.Proofs.YtiplbpfdkcddlaaDoorW.PrintMore Go.Proofs.YtiplbpfdkcddlaaDoor.NL
set_option maxRecDepth 100000

/-- A row that reads as the elements of a number comes back. -/
def Gives (N : Nat) (w : World) (e : Ending) (w' : World) : Prop := ∃ (A : Option Addr) (n c : Nat), e = .returned (.slice A n c) ∧ Hid (n ≤ c ∧ Kd.C (Kd.int .u32) w' A n (ofN N)) ∧ Below w.heap.size w w'

set_option maxHeartbeats 1000000 in
theorem at_any (A : Option Addr) (n c : Nat) (a : List Int) (i : Nat) (w : World) (hC : Kd.C (Kd.int .u32) w A n a) (la : Lim a) (hn : n ≤ 9223372036854775807) (hi : i ≤ 9223372036854775807) :
    Calls Tryd.prog 83 #[.slice A n c, .int .i64 i] w fun e w' => e = .returned (.int .u64 (a.getD i 0)) ∧ w = w' := by
  have hl : a.length = n := hC.1
  by_cases h : i < n
  · obtain ⟨b, off, rfl, hlt, hcs⟩ := open_C hC (by omega)
    have hcell := hcs i h
    have hx : 0 ≤ a.getD i 0 ∧ a.getD i 0 < 4294967296 := la _ (by rw [List.getD_eq_getElem?_getD, List.getElem?_eq_getElem (by omega)]; exact List.getElem_mem _)
    obtain ⟨x0, x1⟩ := hx
    clear hcs hC
    have HL := Lib.hid hl
    clear hl
    generalize a.getD i 0 = x at *
    go_enter Tryd.func83, Tryd.ntmps83
    go_wp2
    go_ret
    exact ⟨rfl, rfl⟩
  · have hx : a.getD i 0 = 0 := by rw [List.getD_eq_getElem?_getD, List.getElem?_eq_none (by omega)]; rfl
    rw [hx]
    have HL := Lib.hid hl
    clear hl hC hx
    have hd : n ≤ i := by omega
    go_enter Tryd.func83, Tryd.ntmps83
    go_wp2
    go_ret
    exact ⟨rfl, rfl⟩

theorem C_head {w : World} {A : Option Addr} {n k : Nat} {a : List Int} (h : Kd.C (Kd.int .u32) w A n a) (hk : k ≤ n) : Kd.C (Kd.int .u32) w A k (a.take k) := by
  have hl : a.length = n := h.1
  subst hl
  have := Kd.C_take h hk
  rwa [List.length_take, Nat.min_eq_left hk] at this
theorem elem_lim {a : List Int} (la : Lim a) {i : Nat} (h : i < a.length) : 0 ≤ a.getD i 0 ∧ a.getD i 0 < 4294967296 := la _ (by rw [List.getD_eq_getElem?_getD, List.getElem?_eq_getElem h]; exact List.getElem_mem _)
def TrimRel (A : Option Addr) (c : Nat) (a : List Int) (v : Value) : Prop := ∃ k, v = .slice A k c ∧ k ≤ a.length ∧ val (a.take k) = val a
theorem TrimRel.step {A : Option Addr} {c : Nat} {a : List Int} {k : Nat} (hk : k + 1 ≤ a.length) (hv : val (a.take (k + 1)) = val a) (h0 : a.getD k 0 = 0) : TrimRel A c a (.slice A k c) := by
  refine ⟨k, rfl, by omega, ?_⟩
  rw [List.take_succ_eq_append_getElem (by omega), val_append] at hv
  have : a[k] = 0 := by rw [List.getD_eq_getElem?_getD, List.getElem?_eq_getElem (by omega)] at h0; exact h0
  rw [this] at hv
  simpa [val] using hv
theorem trim_end {a : List Int} {k : Nat} (la : Lim a) (hk : k ≤ a.length) (hv : val (a.take k) = val a) (h : k = 0 ∨ ∃ j, k = j + 1 ∧ a.getD j 0 ≠ 0) : a.take k = ofN (val a) := by
  rw [← hv]
  refine (ofN_val (fun x hx => la x (List.mem_of_mem_take hx)) ?_).symm
  rcases h with rfl | ⟨j, rfl, hj⟩
  · simp [Top]
  · unfold Top
    rw [List.take_succ_eq_append_getElem (by omega), List.getLast?_append]
    rw [List.getD_eq_getElem?_getD, List.getElem?_eq_getElem (by omega)] at hj
    simpa using hj

set_option maxHeartbeats 2000000 in
/-- Zeros at the end are dropped: the same row, shorter. -/
theorem trim_any (A : Option Addr) (n c : Nat) (a : List Int) (w : World) (hC : Kd.C (Kd.int .u32) w A n a) (la : Lim a) (hn : n ≤ 9223372036854775807) (hc : n ≤ c) :
    Calls Tryd.prog 81 #[.slice A n c] w fun e w' => ∃ k, e = .returned (.slice A k c) ∧ Hid (k ≤ n ∧ a.take k = ofN (val a)) ∧ w = w' := by
  have hl : a.length = n := hC.1
  have HL := Lib.hid hl
  have HC := Lib.hid hC
  clear hC hl
  go_enter Tryd.func81, Tryd.ntmps81
  go_wp2
  go_loop [0] (fun v => TrimRel A c a v) (fun v => match v with | .slice _ k _ => k | _ => 0)
  case atStart => exact ⟨n, rfl, by rw [HL.out]; exact Nat.le_refl _, by rw [List.take_of_length_le (by rw [HL.out]; exact Nat.le_refl _)]⟩
  case round =>
    obtain ⟨k, rfl, hk, hv⟩ := hrel
    rw [HL.out] at hk
    have HV := Lib.hid hv
    clear hv
    rcases Nat.eq_zero_or_pos k with rfl | hpos
    · go_wp2
      go_ret
      exact ⟨0, rfl, Lib.hid ⟨by omega, trim_end la (by omega) HV.out (.inl rfl)⟩, rfl⟩
    · obtain ⟨j, rfl⟩ : ∃ j, k = j + 1 := ⟨k - 1, by omega⟩
      obtain ⟨b, off, rfl, hlt, hcs⟩ := open_C HC.out (by omega)
      have hcell := hcs j (by omega)
      obtain ⟨x0, x1⟩ := elem_lim la (i := j) (by rw [HL.out]; omega)
      have HX : Hid (∃ y, y = a.getD j 0) := Lib.hid ⟨_, rfl⟩
      obtain ⟨x, hx⟩ : ∃ x, a.getD j 0 = x := ⟨_, rfl⟩
      rw [hx] at hcell x0 x1
      have HX := Lib.hid hx
      clear hcs hx
      have hj1 : ((j : Int) + 1 - 1) = (j : Int) := by omega
      by_cases h0 : x = 0
      · subst h0
        go_wp2
        go_round
        case rel => exact TrimRel.step (by rw [HL.out]; omega) HV.out HX.out
        case measure => simp
      · have t0 : (x == 0) = false := by simpa using h0
        have HN := Lib.hid h0
        clear h0
        go_wp2
        go_ret
        exact ⟨j + 1, rfl, Lib.hid ⟨hk, trim_end la (by rw [HL.out]; omega) HV.out (.inr ⟨j, rfl, by rw [HX.out]; exact HN.out⟩)⟩, rfl⟩

attribute [local go_sem] max2_int min2_int max_two min_two
theorem R_C {w : World} {base : Nat} {A : Option Addr} {n c : Nat} {xs : List Int} {ok : Nat → Prop} (h : Kd.R (Kd.int .u32) 46 w base ok (.slice A n c) xs) : Kd.C (Kd.int .u32) w A n xs ∧ n ≤ c := by
  obtain ⟨A', c', e, h1, h2⟩ := Kd.R_reads h
  injection e with e1 e2 e3
  subst e1; subst e3
  rw [e2]
  exact ⟨h2, h1⟩
/-- A row of its own, opened. -/
theorem own_open {w : World} {base n c : Nat} {A : Option Addr} {xs : List Int} {ok : Nat → Prop} (h : Kd.R (Kd.int .u32) 46 w base ok (.slice A n c) xs) (hn : 0 < n) :
    ∃ g, A = some ⟨g, 0, none⟩ ∧ base ≤ g ∧ g < w.heap.size ∧ (∀ i, i < n → w.cell? ⟨g, i, none⟩ = some (.int .u32 (xs.getD i 0))) ∧ (∀ i, w.frozen? ⟨g, i, none⟩ = false) := by
  obtain ⟨inner, ho⟩ := Kd.R_own h
  obtain ⟨hC, _⟩ := R_C h
  obtain ⟨b, off, rfl, hlt, hcs⟩ := open_C hC hn
  rcases ho.2 with ⟨hv, _⟩ | ⟨g, cap, cur, hv, hg, hh, _⟩
  · cases hv
  · injection hv with e1 e2 e3
    injection e1 with e1
    injection e1 with e1 e4
    subst e1; subst e4
    exact ⟨_, rfl, hg, hlt, fun i hi => by simpa using hcs i hi, fun i => blk_frozen hh i⟩

set_option maxHeartbeats 2000000 in
theorem of_any (x : Int) (w : World) (x0 : 0 ≤ x) (x1 : x < 18446744073709551616) :
    Calls Tryd.prog 85 #[.int .u64 x] w (Gives x.toNat w) := by
  have HV : Hid (val [x % 4294967296, x / 4294967296] = x.toNat) := Lib.hid (by simp [val]; omega)
  have HLm : Hid (Lim [x % 4294967296, x / 4294967296]) := Lib.hid (by intro y hy; simp at hy; omega)
  have HB : Hid (Kd.C (Kd.int .u32) (w.alloc (.cells #[.int .u32 (x % 4294967296), .int .u32 (x / 4294967296)] 46)) (some ⟨w.heap.size, 0, none⟩) 2 [x % 4294967296, x / 4294967296]) :=
    Lib.hid (R_C (R_fresh (base := w.heap.size) w w.heap.size rfl [x % 4294967296, x / 4294967296] _ rfl 2 rfl (Nat.le_refl _) (by simp))).1
  go_enter Tryd.func85, Tryd.ntmps85
  go_wp2_with (go_at_call 81; (with_reducible refine (trim_any _ _ _ [x % 4294967296, x / 4294967296] _ HB.out HLm.out (by omega) (by omega)).mono ?_); rintro e w1 ⟨k, rfl, hk, rfl⟩)
  go_ret
  exact ⟨_, k, 2, rfl, Lib.hid ⟨by have := hk.out.1; omega, by have := C_head HB.out hk.out.1; rw [hk.out.2, HV.out] at this; exact this⟩, bel⟩

def AddRel (a b : List Int) (N : Nat) (w0 : World) (A : Option Addr) (c : Nat) (vc vi : Value) (wr : World) : Prop :=
  ∃ (k : Nat) (cy : Int) (ys : List Int), k ≤ N ∧ vi = .int .i64 k ∧ vc = .int .u64 cy ∧ ys.length = N ∧ OwnI .u32 46 w0.heap.size wr (.slice A N c) ys ∧ Below w0.heap.size w0 wr ∧ AddAt a b k cy ys

/-- A row of zeros of its own. -/
theorem make_row {P : Program} {ops : Array Oper} {rest : List Oper} {o : Oper} {a : Act} {Q : Exit → Act → World → Prop} {W w0 : World} (hp : P = Tryd.prog) (hgd : o.guard = none) (N : Tmp) (hd : o.dst = some N) (x y : Operand) (ho : o.op = .makeSlice 95 x y) (n : Nat)
    (hx : a.eval x = .int .i64 n) (hy : a.eval y = .int .i64 n) (hl : n ≤ 70368744177664) (HB : Below w0.heap.size w0 W)
    (h : ∀ A c w1, OwnI .u32 46 w0.heap.size w1 (.slice A n c) (List.replicate n 0) → Below w0.heap.size w0 w1 → Below W.heap.size W w1 → wpList P ops Q rest (a.put o.dst (.slice A n c)) w1) : wpList P ops Q (o :: rest) a W := by
  subst hp
  refine Kd.R_make (Kd.int .u32) (w0 := W) W.heap.size 46 hgd hd 95 x y ho n hx hy Tryd.underlying95 (.int .u32 0) 4 infoU32 rfl (by decide) (by omega) 0 (ok := fun _ => True) (okp := fun _ => True) rfl (fun _ h => h) trivial (by omega) (by simp; omega) (Below.refl _ _) (Nat.le_refl _) ?_
  intro v1 w1 hr hb _ _
  obtain ⟨A, c, e⟩ := Kd.R_slice hr
  simp only [Int.toNat_natCast, List.length_replicate] at hr e
  subst e
  exact h A c w1 (Kd.R_lower hr HB.size) (below_step HB hb) hb

set_option maxHeartbeats 4000000 in
theorem add_any (A B : Option Addr) (n m c d : Nat) (a b : List Int) (w : World) (hA : Kd.C (Kd.int .u32) w A n a) (hB : Kd.C (Kd.int .u32) w B m b) (la : Lim a) (lb : Lim b) (hn : n ≤ 1000000000) (hm : m ≤ 1000000000) :
    Calls Tryd.prog 69 #[.slice A n c, .slice B m d] w (Gives (val a + val b) w) := by
  have ha : a.length = n := hA.1
  have hb : b.length = m := hB.1
  obtain ⟨L, hL⟩ : ∃ L, max n m = L := ⟨_, rfl⟩
  have hL1 : n ≤ L ∧ m ≤ L ∧ L ≤ 1000000000 := by omega
  obtain ⟨l1, l2, l3⟩ := hL1
  have hmax : (if n < m then (m : Int) else (n : Int)) = (L : Int) := by split <;> omega
  have HA := Lib.hid hA
  have HB := Lib.hid hB
  have HLA := Lib.hid ha
  have HLB := Lib.hid hb
  clear hA hB ha hb hL
  go_enter Tryd.func69, Tryd.ntmps69
  go_wp2_with ((with_reducible refine gate_dst (N := 14) rfl ?_); refine make_row (w0 := w) rfl rfl 14 rfl _ _ rfl (L + 1) rfl rfl (by omega) bel ?_; intro A5 c5 w5 hr5 hb5 _)
  clear hmax
  have HR5 := Lib.hid hr5
  clear hr5
  go_loopw [6, 17] (fun vc vi wr => AddRel a b (L + 1) w A5 c5 vc vi wr) (fun _ vi _ => L + 1 - (intOf vi).toNat)
  case atStart => exact ⟨0, 0, _, by omega, rfl, rfl, by simp, HR5.out, hb5, AddAt.start a b _⟩
  case round =>
    obtain ⟨k, cy, ys, hk, rfl, rfl, hy, hown, hbw, hadd⟩ := hrel
    have HY := Lib.hid hy
    have HO := Lib.hid hown
    have HD := Lib.hid hadd
    obtain ⟨c0, c1, -, -⟩ := hadd
    clear hy hown
    by_cases hlt : k < L + 1
    · obtain ⟨g, rfl, hg0, hg1, hgc, hgf⟩ := own_open HO.out (by omega)
      have hcell := hgc k hlt
      have hfr := hgf k
      obtain ⟨x0, x1⟩ := lim_getD la k
      obtain ⟨y0, y1⟩ := lim_getD lb k
      clear hgc hgf
      obtain ⟨x, hx⟩ : ∃ x, a.getD k 0 = x := ⟨_, rfl⟩
      obtain ⟨y, hy⟩ : ∃ y, b.getD k 0 = y := ⟨_, rfl⟩
      have ata : ∀ w', Below wr.heap.size wr w' → Calls Tryd.prog 83 #[.slice A n c, .int .i64 k] w' fun e w'' => e = .returned (.int .u64 x) ∧ w' = w'' := fun w' hb' => by
        have := at_any A n c a k w' (Kd.C_below HA.out (below_step hbw hb')) la (by omega) (by omega)
        rwa [hx] at this
      have atb : ∀ w', Below wr.heap.size wr w' → Calls Tryd.prog 83 #[.slice B m d, .int .i64 k] w' fun e w'' => e = .returned (.int .u64 y) ∧ w' = w'' := fun w' hb' => by
        have := at_any B m d b k w' (Kd.C_below HB.out (below_step hbw hb')) lb (by omega) (by omega)
        rwa [hy] at this
      have HAT := Lib.hid ata
      have HBT := Lib.hid atb
      have HS : Hid (AddAt a b (k + 1) ((cy + (x + y)) / 4294967296) (ys.set k ((cy + (x + y)) % 4294967296))) := Lib.hid (by
        have := AddAt.step la lb HD.out (by rw [HY.out]; exact hlt)
        rwa [hx, hy] at this)
      rw [hx] at x0 x1
      rw [hy] at y0 y1
      clear hx hy ata atb
      go_wp2_with (first | (go_at_call 83; (with_reducible refine (HAT.out _ bel).mono ?_); rintro e w3 ⟨rfl, rfl⟩) | (go_at_call 83; (with_reducible refine (HBT.out _ bel).mono ?_); rintro e w3 ⟨rfl, rfl⟩))
      go_roundw
      case rel => exact ⟨k + 1, _, _, by omega, by simp, rfl, by simp [HY.out], Kd.R_putn HO.out (k : Int) _, bel, HS.out⟩
      case measure => simp [intOf]; omega
    · obtain rfl : k = L + 1 := by omega
      have hv := AddAt.done la lb HD.out HY.out (by have := HLA.out; omega) (by have := HLB.out; omega)
      have HV := Lib.hid hv
      clear hv
      obtain ⟨hC, hcc⟩ := R_C HO.out
      have HC := Lib.hid hC
      have ly := HD.out.2.2.1
      clear hC
      go_wp2_with (go_at_call 81; (with_reducible refine (trim_any _ _ _ ys _ HC.out ly (by omega) hcc).mono ?_); rintro e w1 ⟨k, rfl, hk, rfl⟩)
      go_ret
      exact ⟨_, k, c5, rfl, Lib.hid ⟨by have := hk.out.1; omega, by have := C_head HC.out hk.out.1; rw [hk.out.2, HV.out] at this; exact this⟩, bel⟩

theorem wrap_sub {x y bo : Int} (x0 : 0 ≤ x) (x1 : x < 4294967296) (y0 : 0 ≤ y) (y1 : y < 4294967296) (c0 : 0 ≤ bo) (c1 : bo < 2) : IntKind.u64.wrap (IntKind.u64.wrap (x - y) - bo) = subX x y bo := by
  rw [IntKind.wrap_u64, IntKind.wrap_u64]
  unfold subX
  split <;> omega
def SubRel (a b : List Int) (N : Nat) (w0 : World) (A : Option Addr) (c : Nat) (vc vi : Value) (wr : World) : Prop :=
  ∃ (k : Nat) (cy : Int) (ys : List Int), k ≤ N ∧ vi = .int .i64 k ∧ vc = .int .u64 cy ∧ ys.length = N ∧ OwnI .u32 46 w0.heap.size wr (.slice A N c) ys ∧ Below w0.heap.size w0 wr ∧ SubAt a b k cy ys

set_option maxHeartbeats 4000000 in
theorem sub_any (A B : Option Addr) (n m c d : Nat) (a b : List Int) (w : World) (hA : Kd.C (Kd.int .u32) w A n a) (hB : Kd.C (Kd.int .u32) w B m b) (la : Lim a) (lb : Lim b) (hn : n ≤ 1000000000) (hm : m ≤ n) (hle : val b ≤ val a) :
    Calls Tryd.prog 77 #[.slice A n c, .slice B m d] w (Gives (val a - val b) w) := by
  have ha : a.length = n := hA.1
  have hb : b.length = m := hB.1
  have HA := Lib.hid hA
  have HB := Lib.hid hB
  have HLA := Lib.hid ha
  have HLB := Lib.hid hb
  have HLE := Lib.hid hle
  clear hA hB ha hb hle
  go_enter Tryd.func77, Tryd.ntmps77
  go_wp2_with ((with_reducible refine gate_dst (N := 11) rfl ?_); refine make_row (w0 := w) rfl rfl 11 rfl _ _ rfl n rfl rfl (by omega) bel ?_; intro A5 c5 w5 hr5 hb5 _)
  have HR5 := Lib.hid hr5
  clear hr5
  go_loopw [6, 14] (fun vc vi wr => SubRel a b n w A5 c5 vc vi wr) (fun _ vi _ => n - (intOf vi).toNat)
  case atStart => exact ⟨0, 0, _, by omega, rfl, rfl, by simp, HR5.out, hb5, SubAt.start a b _⟩
  case round =>
    obtain ⟨k, cy, ys, hk, rfl, rfl, hy, hown, hbw, hadd⟩ := hrel
    have HY := Lib.hid hy
    have HO := Lib.hid hown
    have HD := Lib.hid hadd
    have ly := HD.out.2.2.1
    obtain ⟨c0, c1, -, -⟩ := hadd
    clear hy hown
    by_cases hlt : k < n
    · obtain ⟨g, rfl, hg0, hg1, hgc, hgf⟩ := own_open HO.out (by omega)
      have hcell := hgc k hlt
      have hfr := hgf k
      obtain ⟨x0, x1⟩ := lim_getD la k
      obtain ⟨y0, y1⟩ := lim_getD lb k
      clear hgc hgf
      obtain ⟨x, hx⟩ : ∃ x, a.getD k 0 = x := ⟨_, rfl⟩
      obtain ⟨y, hy⟩ : ∃ y, b.getD k 0 = y := ⟨_, rfl⟩
      have ata : ∀ w', Below wr.heap.size wr w' → Calls Tryd.prog 83 #[.slice A n c, .int .i64 k] w' fun e w'' => e = .returned (.int .u64 x) ∧ w' = w'' := fun w' hb' => by
        have := at_any A n c a k w' (Kd.C_below HA.out (below_step hbw hb')) la (by omega) (by omega)
        rwa [hx] at this
      have atb : ∀ w', Below wr.heap.size wr w' → Calls Tryd.prog 83 #[.slice B m d, .int .i64 k] w' fun e w'' => e = .returned (.int .u64 y) ∧ w' = w'' := fun w' hb' => by
        have := at_any B m d b k w' (Kd.C_below HB.out (below_step hbw hb')) lb (by omega) (by omega)
        rwa [hy] at this
      have HAT := Lib.hid ata
      have HBT := Lib.hid atb
      have HS : Hid (SubAt a b (k + 1) (subX x y cy / 9223372036854775808) (ys.set k (subX x y cy % 4294967296))) := Lib.hid (by
        have := SubAt.step la lb HD.out (by rw [HY.out]; exact hlt)
        rwa [hx, hy] at this)
      rw [hx] at x0 x1
      rw [hy] at y0 y1
      clear hx hy ata atb
      go_wp2_with (first | (go_at_call 83; (with_reducible refine (HAT.out _ bel).mono ?_); rintro e w3 ⟨rfl, rfl⟩) | (go_at_call 83; (with_reducible refine (HBT.out _ bel).mono ?_); rintro e w3 ⟨rfl, rfl⟩))
      rw [wrap_sub x0 x1 y0 y1 c0 c1]
      go_roundw
      case rel => exact ⟨k + 1, _, _, by omega, by simp, rfl, by simp [HY.out], Kd.R_putn HO.out (k : Int) _, bel, HS.out⟩
      case measure => simp [intOf]; omega
    · obtain rfl : k = n := by omega
      have hv := SubAt.done HD.out HY.out HLA.out (by have := HLB.out; omega) HLE.out
      have HV := Lib.hid hv
      clear hv
      obtain ⟨hC, hcc⟩ := R_C HO.out
      have HC := Lib.hid hC
      clear hC
      go_wp2_with (go_at_call 81; (with_reducible refine (trim_any _ _ _ ys _ HC.out ly (by omega) hcc).mono ?_); rintro e w1 ⟨k, rfl, hk, rfl⟩)
      go_ret
      exact ⟨_, k, c5, rfl, Lib.hid ⟨by have := hk.out.1; omega, by have := C_head HC.out hk.out.1; rw [hk.out.2, HV.out] at this; exact this⟩, bel⟩
end Go.Proofs.YtiplbpfdkcddlaaDoor
