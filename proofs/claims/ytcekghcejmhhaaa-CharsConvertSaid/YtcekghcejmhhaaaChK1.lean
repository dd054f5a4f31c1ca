/- Joined: CharsA, Gen, CharsB, CharsSpec, CharsI, CharsD, CharsW: contracts of functions of the program, and plain laws. -/
import Derived.Test.YtcekghcejmhhaaaProg
import Derived.WalkKit
import Derived.WalkSpells
import Derived.WalkLawsBesides
import Derived.Test.YtcekghcejmhhaaaWMore
import Derived.Lib.Hide
import Derived.Defers
import Derived.Deep.WholeRow
import Derived.BigQuiet
import Derived.Deep.QuietTactic
import Derived.Deep.RegionHeld3
import Derived.Test.YtcekghcejmhhaaaXBasex1
import Derived.StillTailTactics
set_option linter.unusedSimpArgs false
set_option linter.unusedVariables false
set_option linter.unnecessarySimpa false
namespace Go.Proofs.Ytcekghcejmhhaaa
open Go.RowKit

set_option maxHeartbeats 400000 in
theorem need_true (e a : Int) (w : World) :
    Calls Try.prog 41 #[.bool true, .int .i64 e, .int .i64 a] w fun r w' => r = .returned (.tuple #[]) ∧ w = w' := by
  go_enter Try.func41, Try.ntmps41
  go_wp2
  go_end0
  exact ⟨rfl, rfl⟩

set_option maxHeartbeats 400000 in
theorem need_false (e a : Int) (w : World) :
    Calls Try.prog 41 #[.bool false, .int .i64 e, .int .i64 a] w fun r w' => r = .panicked [{ v := .iface 97 (.agg #[.int .i64 e, .int .i64 a]), recovered := false }] ∧ w = w' := by
  go_enter Try.func41, Try.ntmps41
  go_wp2
  exact ⟨rfl, rfl, rfl⟩

end Go.Proofs.Ytcekghcejmhhaaa

/- General lemmas, over any program: what a call's result variables hold; blocks through stores, allocations and calls. -/
namespace Go.Proofs.Ytcekghcejmhhaaa
open Go.RowKit Go.Proofs.YtcekghcejmhhaaaW.PrintWords Go.Proofs.YtcekghcejmhhaaaW.PrintLast Go.Proofs.YtcekghcejmhhaaaW.PrintMore

theorem bcell {W w1 : World} (hb : Below W.heap.size W w1) : (∀ b o, b < W.heap.size → w1.cell? ⟨b, o, none⟩ = W.cell? ⟨b, o, none⟩) ∧ (∀ b o, b < W.heap.size → w1.frozen? ⟨b, o, none⟩ = W.frozen? ⟨b, o, none⟩) :=
  ⟨fun b o h => hb.cell (p := ⟨b, o, none⟩) h, fun b o h => hb.frozen (p := ⟨b, o, none⟩) h⟩

/-- A list of whole numbers that is read, opened: where it lies. -/
theorem open_C {k : IntKind} {w : World} {A : Option Addr} {n : Nat} {xs : List Int} (h : Kd.C (Kd.int k) w A n xs) (hn : 0 < n) :
    ∃ b off, A = some ⟨b, off, none⟩ ∧ b < w.heap.size ∧ ∀ i, i < n → w.cell? ⟨b, off + i, none⟩ = some (.int k (xs.getD i 0)) := by
  obtain ⟨hl, _, hd⟩ := h
  obtain ⟨ad, rfl, hc⟩ := hd hn
  have key : ∀ i, i < n → w.cell? (ad.add i) = some (.int k (xs.getD i 0)) := by
    intro i hi
    have hlt : i < xs.length := by omega
    obtain ⟨c, hc1, hc2, hc3⟩ := hc i xs[i] (List.getElem?_eq_getElem hlt)
    have hc2' : c = [.int k xs[i]] := hc2
    have h3 := hc3 0 (.int k xs[i]) (by rw [hc2']; rfl)
    have e1 : i * (Kd.int k).sz + 0 = i := by show i * 1 + 0 = i; omega
    rw [e1] at h3
    rw [h3, List.getD_eq_getElem?_getD, List.getElem?_eq_getElem hlt]; rfl
  have h0 := key 0 hn
  obtain ⟨b, off, spot⟩ := ad
  have hs : spot = none := by
    cases spot with
    | none => rfl
    | some s => simp [Addr.add, World.cell?] at h0; split at h0 <;> simp at h0
  subst hs
  refine ⟨b, off, rfl, ?_, ?_⟩
  · have := World.block_lt_of_cell? w _ h0
    simpa [Addr.add] using this
  · intro i hi
    have := key i hi
    have e : (⟨b, off, none⟩ : Addr).add i = ⟨b, off + i, none⟩ := by unfold Addr.add; split <;> simp_all
    rwa [e] at this

/-- A row of whole numbers of the call's own. -/
abbrev OwnI (k : IntKind) (e : TypeId) (base : Nat) (w : World) (v : Value) (xs : List Int) : Prop := Kd.R (Kd.int k) e w base (fun _ => True) v xs

theorem R_fresh {k : IntKind} {e : TypeId} {base : Nat} (W : World) (g : Nat) (hg : g = W.heap.size) (xs : List Int) (cs : Array Value) (hcs : cs = (nums k xs).toArray) (n : Nat) (hn : n = xs.length) (hb : base ≤ W.heap.size) (hm : xs.length ≤ 9223372036854775807) :
    OwnI k e base (W.alloc (.cells cs e)) (.slice (some ⟨g, 0, none⟩) n n) xs := by
  subst hn
  subst hg
  refine ⟨fun _ _ => trivial, nums k xs, ?_, ?_⟩
  · have h2 := World.ownsRow_lit (base := base) (e := e) (size := 1) W cs xs.length hb (by simpa [maxLen] using hm) (by simp [hcs, nums])
    have h3 : (W.alloc (.cells cs e)).ownsRow base e 1 (.slice (some ⟨W.heap.size, 0, none⟩) xs.length xs.length) xs.length (nums k xs) := by simpa [hcs] using h2
    exact h3
  · exact Kd.reps_scalar (enc := Value.int k) xs

theorem own_lt_size {k : IntKind} {e : TypeId} {base : Nat} {w : World} {v : Value} {xs : List Int} (h : OwnI k e base w v xs) {g : Nat} (hg : v.ownBlock = some g) : g < w.heap.size := by
  obtain ⟨inner, ho⟩ := Kd.R_own h
  exact own_lt ho g hg
/-- A list of whole numbers that was just made, read while other blocks are written. -/
theorem fresh_src {k : IntKind} {e : TypeId} (W : World) (g : Nat) (hg : g = W.heap.size) (xs : List Int) (cs : Array Value) (hcs : cs = (nums k xs).toArray) (hm : xs.length ≤ 9223372036854775807) {S : Nat → Prop} (hS : ¬ S g) :
    ∀ W', Kept (W.alloc (.cells cs e)) W' S → Kd.C (Kd.int k) W' (some ⟨g, 0, none⟩) xs.length xs := by
  have h := R_fresh (k := k) (e := e) (base := g) W g hg xs cs hcs xs.length rfl (by omega) hm
  have h2 : Kd.R (Kd.int k) e (W.alloc (.cells cs e)) g (fun j => j = g) (.slice (some ⟨g, 0, none⟩) xs.length xs.length) xs := ⟨fun j hj => by simpa [Value.ownBlock] using hj.symm, by
    obtain ⟨_, inner, h3, h4⟩ := h
    exact ⟨inner, h3, h4⟩⟩
  exact Kd.C_kept_own h2 (fun j hj => by subst hj; exact hS)
/-- A row of one's own is read while other blocks are written. -/
theorem own_src {k : IntKind} {e : TypeId} {base : Nat} {w : World} {A : Option Addr} {n c : Nat} {xs : List Int} (h : OwnI k e base w (.slice A n c) xs) {S : Nat → Prop} (hS : ∀ j, base ≤ j → ¬ S j) :
    ∀ W', Kept w W' S → Kd.C (Kd.int k) W' A n xs :=
  Kd.C_kept_own (Kd.R_bound h) (fun j hj => hS j hj.2.1)
theorem C_of_below {w w' : World} {A : Option Addr} {n : Nat} {xs : List Int} {k : IntKind} (h : Kd.C (Kd.int k) w A n xs) (hb : Below w.heap.size w w') : Kd.C (Kd.int k) w' A n xs := Kd.C_below h hb

/-- What has turned: blocks of S alone, and new ones. -/
structure Chg (w w' : World) (S : Nat → Prop) : Prop where
  os : w'.os = w.os
  tape : w'.tape = w.tape
  output : w'.output = w.output
  size : w.heap.size ≤ w'.heap.size
  block : ∀ k, k < w.heap.size → ¬ S k → w'.heap[k]? = w.heap[k]?

theorem Chg.of_below {w w' : World} {S : Nat → Prop} (h : Below w.heap.size w w') : Chg w w' S := ⟨h.os, h.tape, h.output, h.size, fun k hk _ => h.block k hk⟩
theorem Chg.setCell {w w' : World} {S : Nat → Prop} (h : Chg w w' S) {p : Addr} (hp : S p.block) (u : Value) : Chg w (w'.setCell p u) S :=
  ⟨h.os, h.tape, h.output, by simpa [World.setCell] using h.size, fun k hk hn => by rw [Below.heap_setCell _ _ _ _ (by rintro rfl; exact hn hp)]; exact h.block k hk hn⟩
/-- What a call does to new blocks is nothing to the world before. -/
theorem below_chg {w W w2 : World} {S : Nat → Prop} (h : Below w.heap.size w W) (k : Chg W w2 S) (hS : ∀ i, S i → w.heap.size ≤ i) : Below w.heap.size w w2 :=
  ⟨k.os.trans h.os, k.tape.trans h.tape, k.output.trans h.output, Nat.le_trans h.size k.size, fun i hi => (k.block i (Nat.lt_of_lt_of_le hi h.size) (fun hs => by have := hS i hs; omega)).trans (h.block i hi)⟩
theorem blk_chg {w w1 : World} {g : Nat} {o : Obj} {S : Nat → Prop} (h : w.heap[g]? = some o) (hk : Chg w w1 S) (hn : ¬ S g) : w1.heap[g]? = some o := (hk.block g (blk_lt h) hn).trans h
theorem blk_new' {w : World} {g : Nat} (o : Obj) (hg : g = w.heap.size) : (w.alloc o).heap[g]? = some o := by subst hg; exact blk_new w o

/-- A block of one cell, not frozen. -/
abbrev One (w : World) (g : Nat) (t : TypeId) (v : Value) : Prop := w.heap[g]? = some (.cells #[v] t (0, 0))

section
variable {P : Program}
/-- xs[m:] -/
theorem drop_int (t e : TypeId) (ht : P.underlying t = some (.slice e)) (hsz : (P.info? e).map (·.size) = some 1) (A : Option Addr) (c : Nat) (xs : List Int) (m : Nat) (hm : m ≤ xs.length) (hc : xs.length ≤ c) :
    ∃ A' : Option Addr, (∀ W : World, (Instr.slice t (.slice A xs.length c) (some (.int .i64 m)) none none).run P W = .ok (.slice A' (xs.length - m) (c - m)) W) ∧
      (∀ (k : IntKind) (w : World), Kd.C (Kd.int k) w A xs.length xs → Kd.C (Kd.int k) w A' (xs.length - m) (xs.drop m)) ∧ xs.length - m ≤ c - m := by
  obtain ⟨i, hi, hs⟩ := Option.map_eq_some_iff.1 hsz
  have hel : P.elem t = e := by simp [Program.elem, ht]
  refine ⟨if c = m then A else A.map (·.add (m * 1)), fun W => ?_, fun k w h => ?_, by omega⟩
  · rw [run_slice_l W t A xs.length c (by rw [hel]; exact ht) .i64 m (by omega) (by omega), hel]
    by_cases hcm : c = m
    · have : xs.length = m := by omega
      simp [sizeOf, typeInfo, hi, hs, sliced, Result.andThen, hcm, this]
    · by_cases hlm : xs.length = m
      · simp [sizeOf, typeInfo, hi, hs, sliced, Result.andThen, hcm, hlm]
      · simp [sizeOf, typeInfo, hi, hs, sliced, Result.andThen, hcm, hlm]
  · have := Kd.C_drop h hm hc
    rw [List.length_drop] at this
    exact this
end

/-- A block of cells of a type, not frozen, of which something holds. -/
def BlkIs (w : World) (g : Nat) (t : TypeId) (f : Array Value → Prop) : Prop := ∃ c, w.heap[g]? = some (.cells c t (0, 0)) ∧ f c
section
variable {w w1 : World} {g : Nat} {t : TypeId} {f : Array Value → Prop}
theorem BlkIs.of {c : Array Value} (h : w.heap[g]? = some (.cells c t (0, 0))) (hf : f c) : BlkIs w g t f := ⟨c, h, hf⟩
theorem BlkIs.set {i : Nat} {u : Value} (h : BlkIs w g t (fun c => f (c.setIfInBounds i u))) : BlkIs (w.setCell ⟨g, i, none⟩ u) g t f := by
  obtain ⟨c, hc, hf⟩ := h
  exact ⟨_, blk_set hc i u, hf⟩
theorem BlkIs.far {p : Addr} {u : Value} (h : BlkIs w g t f) (hp : g ≠ p.block) : BlkIs (w.setCell p u) g t f := by
  obtain ⟨c, hc, hf⟩ := h
  exact ⟨_, blk_far hc hp u, hf⟩
theorem BlkIs.alloc {o : Obj} (h : BlkIs w g t f) : BlkIs (w.alloc o) g t f := by
  obtain ⟨c, hc, hf⟩ := h
  exact ⟨_, blk_alloc hc o, hf⟩
theorem BlkIs.drew (h : BlkIs w g t f) : BlkIs w.drew g t f := h
theorem BlkIs.drewN {n : Nat} (h : BlkIs w g t f) : BlkIs (w.drewN n) g t f := h
theorem BlkIs.new {c : Array Value} (hg : g = w.heap.size) (hf : f c) : BlkIs (w.alloc (.cells c t)) g t f := ⟨c, blk_new' _ hg, hf⟩
theorem BlkIs.below (h : BlkIs w g t f) (hb : Below w.heap.size w w1) : BlkIs w1 g t f := by
  obtain ⟨c, hc, hf⟩ := h
  exact ⟨_, blk_below hc hb, hf⟩
theorem BlkIs.chg {S : Nat → Prop} (h : BlkIs w g t f) (hb : Chg w w1 S) (hn : ¬ S g) : BlkIs w1 g t f := by
  obtain ⟨c, hc, hf⟩ := h
  exact ⟨_, blk_chg hc hb hn, hf⟩
theorem BlkIs.one {v : Value} (h : BlkIs w g t (· = #[v])) : One w g t v := by
  obtain ⟨c, hc, rfl⟩ := h
  exact hc
end
section
variable {P : Program}
theorem run_loadVar_scalar (w : World) (g : Nat) (t ty : TypeId) (v : Value) (fr : Nat × Nat) (hg : w.heap[g]? = some (.cells #[v] t fr)) (hd : (match P.underlying ty with | some (.struct _) | some (.array _ _) | none => false | _ => true) = true) :
    (loadVar ty ⟨g, 0, none⟩).run P w = .ok v w := by
  have hc : w.cell? ⟨g, 0, none⟩ = some v := by rw [cell_of_row w g 0 _ t fr hg]; rfl
  have hi : (isAgg ty).run P w = .ok false w := by
    unfold isAgg
    cases hu : P.underlying ty with
    | none => simp [hu] at hd
    | some d =>
      simp only [Sem.run_bind, run_underlying hu, Result.andThen_ok]
      cases d <;> first | rfl | (simp [hu] at hd)
  unfold loadVar
  simp [hi, hc]

theorem load_agg {w : World} {g : Nat} {t ty : TypeId} {cs : Array Value} {d : TypeDesc} (h : BlkIs w g t (· = cs))
    (hu : P.underlying ty = some d) (hd : (match d with | .struct _ | .array _ _ => true | _ => false) = true) (hi : (P.info? ty).map (·.size) = some cs.size) : (loadVar ty ⟨g, 0, none⟩).run P w = .ok (.agg cs) w := by
  obtain ⟨c, hc, rfl⟩ := h
  exact run_loadVar_row w g t ty c (0, 0) d hc hu hd hi
theorem load_one {w : World} {g : Nat} {t ty : TypeId} {v : Value} (h : BlkIs w g t (· = #[v]))
    (hd : (match P.underlying ty with | some (.struct _) | some (.array _ _) | none => false | _ => true) = true) : (loadVar ty ⟨g, 0, none⟩).run P w = .ok v w := by
  obtain ⟨c, hc, rfl⟩ := h
  exact run_loadVar_scalar w g t ty v (0, 0) hc hd

inductive RVals (P : Program) (tmps : Array Value) (w : World) : List ResultVar → List Value → Prop where
  | nil : RVals P tmps w [] []
  | tmp {u : Tmp} {v : Value} {rs : List ResultVar} {vs : List Value} (hv : tmps.getD u undef = v) (h : RVals P tmps w rs vs) : RVals P tmps w (.tmp u :: rs) (v :: vs)
  | cell {p : Tmp} {ty : TypeId} {v : Value} {rs : List ResultVar} {vs : List Value} (g : Nat) (hp : tmps.getD p undef = .pointer (some ⟨g, 0, none⟩)) (hl : (loadVar ty ⟨g, 0, none⟩).run P w = .ok v w)
      (h : RVals P tmps w rs vs) : RVals P tmps w (.cell p ty :: rs) (v :: vs)

variable {tmps : Array Value} {w : World}
theorem rvals_run {rs : List ResultVar} {vs : List Value} (hv : RVals P tmps w rs vs) (f : ResultVar → Sem Value) (hf : ∀ u, f (.tmp u) = pure (tmps.getD u undef)) (hc : ∀ a t, f (.cell a t) = (do loadVar t (← asAddr (tmps.getD a undef)))) :
    (rs.mapM f).run P w = .ok vs w := by
  induction hv with
  | nil => simp
  | tmp hv h ih => simp [List.mapM_cons, hf, ih]; simpa using hv
  | cell g hp hl h ih =>
    rw [List.mapM_cons, hc, hp]
    simp [asAddr, hl, ih]
theorem rresults {fn : Func} {rs : List ResultVar} {vs : List Value} (h : fn.results = rs.toArray) (hl : vs.length ≠ 1) (hv : RVals P tmps w rs vs) : (results fn tmps).run P w = .ok (.tuple vs.toArray) w := by
  unfold results
  rw [h, List.mapM_toArray]
  simp only [Sem.run_bind, Sem.run_map]
  rw [rvals_run hv]
  · simp [hl]
  · intro u; rfl
  · intro a t; rfl
theorem rresult1 {fn : Func} {r : ResultVar} {v : Value} (h : fn.results = #[r]) (hv : RVals P tmps w [r] [v]) : (results fn tmps).run P w = .ok v w := by
  unfold results
  rw [show fn.results = [r].toArray from h, List.mapM_toArray]
  simp only [Sem.run_bind, Sem.run_map]
  rw [rvals_run hv]
  · simp
  · intro u; rfl
  · intro a t; rfl
end
/-- What holds of the world and its blocks, found by stepping back (a tactic as the argument's default). -/
theorem bel {n : Nat} {w w' : World} (h : Below n w w' := by repeat (first | with_reducible assumption | with_reducible exact Below.refl _ _ | with_reducible refine below_alloc ?_ _ | with_reducible refine pw_below_drewN ?_ _ | with_reducible refine below_drew1 ?_ | ((with_reducible refine below_set ?_ ?hle); (case hle => first | (simp; done) | omega | (simp; omega))) | with_reducible refine below_step ?_ (by assumption))) : Below n w w' := h
theorem blk0 {w : World} {g : Nat} {t : TypeId} {f : Array Value → Prop} (h : BlkIs w g t f := by repeat (first | with_reducible assumption | ((with_reducible refine BlkIs.new ?hg ?hf); (case hg => (simp; done)); (case hf => first | rfl | (simp; done))) | with_reducible refine BlkIs.alloc ?_ | with_reducible refine BlkIs.drewN ?_ | with_reducible refine BlkIs.drew ?_ | with_reducible refine BlkIs.set ?_ | ((with_reducible refine BlkIs.far ?_ ?hne); (case hne => first | (simp; done) | omega | (simp; omega))) | with_reducible refine BlkIs.below ?_ (by assumption) | ((with_reducible refine BlkIs.chg ?_ (by assumption) ?hnn); (case hnn => first | (simp; done) | omega | (simp; omega) | (intro hs; have := hs.1; omega))) | ((with_reducible refine BlkIs.of (by assumption) ?hf); (case hf => first | rfl | (simp; done))))) : BlkIs w g t f := h
end Go.Proofs.Ytcekghcejmhhaaa

namespace Go.Proofs.Ytcekghcejmhhaaa
open Go.RowKit Go.Proofs.YtcekghcejmhhaaaW.PrintWords Go.Proofs.YtcekghcejmhhaaaW.PrintLast Go.Proofs.YtcekghcejmhhaaaW.PrintMore

@[go_sem] abbrev stepV (k c b s : Int) : Value := .agg #[.int .i64 k, .int .u32 c, .int .i64 b, .int .i64 s]

set_option maxHeartbeats 400000 in
theorem not_any (k : Int) (w : World) :
    Calls Try.prog 72 #[.int .i64 k] w fun r w' => r = .returned (stepV k 0 0 0) ∧ Below w.heap.size w w' := by
  go_enter Try.func72, Try.ntmps72
  go_wp2
  exact bodyPost_ret (v := stepV k 0 0 0) (by simp [results, Try.results72, go_sem]) rfl ⟨rfl, bel⟩

set_option maxHeartbeats 400000 in
theorem whole_any (c b s : Int) (w : World) :
    Calls Try.prog 73 #[.int .u32 c, .int .i64 b, .int .i64 s] w fun r w' => r = .returned (stepV 1 c b s) ∧ Below w.heap.size w w' := by
  go_enter Try.func73, Try.ntmps73
  go_wp2
  exact bodyPost_ret (v := stepV 1 c b s) (by simp [results, Try.results73, go_sem]) rfl ⟨rfl, bel⟩

set_option maxHeartbeats 400000 in
theorem octets_next_nil (s : Int) (A : Option Addr) (c : Nat) (w : World) :
    Calls Try.prog 69 #[.agg #[], .int .i64 s, .slice A 0 c] w fun r w' => r = .returned (stepV 3 0 0 0) ∧ Below w.heap.size w w' := by
  go_enter Try.func69, Try.ntmps69
  go_wp2_with (go_at_call 72; refine (not_any _ _).mono ?_; rintro e w1 ⟨rfl, hb⟩; obtain ⟨hc, hf⟩ := bcell hb)
  have hz := below_size hb
  simp at hz
  exact bodyPost_ret (v := stepV 3 0 0 0) (by simp [results, Try.results69, go_sem, hc, hz]) rfl ⟨rfl, bel⟩

set_option maxHeartbeats 400000 in
theorem octets_next_cons (s : Int) (b off : Nat) (n : Nat) (c : Nat) (x : Int) (w : World) (hx : w.cell? ⟨b, off, none⟩ = some (.int .u8 x)) (hlt : b < w.heap.size) (h0 : 0 ≤ x) (h1 : x ≤ 255):
    Calls Try.prog 69 #[.agg #[], .int .i64 s, .slice (some ⟨b, off, none⟩) (n + 1) c] w fun r w' => r = .returned (stepV 1 x 1 0) ∧ Below w.heap.size w w' := by
  have t0 : ((n : Int) + 1 == 0) = false := by simp; omega
  go_enter Try.func69, Try.ntmps69
  go_wp2_with (go_at_call 73; refine (whole_any _ _ _ _).mono ?_; rintro e w1 ⟨rfl, hb⟩; obtain ⟨hc, hf⟩ := bcell hb)
  have hz := below_size hb
  simp at hz
  exact bodyPost_ret (v := stepV 1 x 1 0) (by simp [results, Try.results69, go_sem, hc, hz]) rfl ⟨rfl, bel⟩
end Go.Proofs.Ytcekghcejmhhaaa

/-! The plain functions of the layer 'chars': what each computes, on lists of whole numbers. No Go here. -/
namespace Go.Proofs.Ytcekghcejmhhaaa

/-- What stands at the beginning of bytes. -/
structure Step where
  kind : Int
  ch : Int
  bytes : Int
  st : Int
deriving DecidableEq

def Step.part : Step := ⟨3, 0, 0, 0⟩
def Step.bad : Step := ⟨2, 0, 0, 0⟩

/-- The bytes behind the first one, r of them still to come, c so far. -/
def restS (n : Int) : Nat → Int → Int → Int → List Int → Step
  | 0, c, _, _, _ => ⟨1, c, n, 0⟩
  | r + 1, c, lo, hi, t =>
    match t with
    | [] => .part
    | x :: t' => if x < lo then .bad else if hi < x then .bad else restS n r (c * 64 + x % 64) 128 191 t'

def nextO : List Int → Step
  | [] => .part
  | x :: _ => ⟨1, x, 1, 0⟩

def nextU : List Int → Step
  | [] => .part
  | x :: t =>
    if x < 128 then ⟨1, x, 1, 0⟩
    else if 194 ≤ x ∧ x ≤ 223 then restS 2 1 (x % 32) 128 191 t
    else if 224 ≤ x ∧ x ≤ 224 then restS 3 2 (x % 16) 160 191 t
    else if 225 ≤ x ∧ x ≤ 236 then restS 3 2 (x % 16) 128 191 t
    else if 237 ≤ x ∧ x ≤ 237 then restS 3 2 (x % 16) 128 159 t
    else if 238 ≤ x ∧ x ≤ 239 then restS 3 2 (x % 16) 128 191 t
    else if 240 ≤ x ∧ x ≤ 240 then restS 4 3 (x % 8) 144 191 t
    else if 241 ≤ x ∧ x ≤ 243 then restS 4 3 (x % 8) 128 191 t
    else if 244 ≤ x ∧ x ≤ 244 then restS 4 3 (x % 8) 128 143 t
    else .bad

def good (x : Int) : Bool := decide (33 ≤ x) && decide (x < 127)

/-- Behind n shifts, in a state. -/
def nextS : Int → Int → List Int → Step
  | _, _, [] => .part
  | n, s, x :: t =>
    if x = 14 then nextS (n + 1) 1 t
    else if x = 15 then nextS (n + 1) 0 t
    else if s = 0 then (if 127 < x then .bad else ⟨1, x, n + 1, 0⟩)
    else if good x = false then .bad
    else match t with
      | [] => .part
      | y :: _ => if good y = false then .bad else ⟨1, 19968 + 94 * (x - 33) + (y - 33), n + 2, 1⟩

def nextC (enc st : Int) (b : List Int) : Step :=
  if enc = 1 then nextO b else if enc = 2 then nextU b else nextS 0 st b

def hasC (enc c : Int) : Bool :=
  if enc = 1 then decide (c < 256)
  else if enc = 2 then decide (c < 55296 ∨ 57343 < c ∧ c ≤ 1114111)
  else decide (c ≤ 127 ∧ c ≠ 14 ∧ c ≠ 15 ∨ 19968 ≤ c ∧ c ≤ 28803)

def turnC (f t : Int) : List Int := if f = t then [] else if t = 1 then [14] else [15]

def putC (enc st c : Int) : List Int × Int :=
  if enc = 1 then ([c % 256], 0)
  else if enc = 2 then
    (if c < 128 then [c % 256] else if c < 2048 then [192 + c / 64, 128 + c % 64]
     else if c < 65536 then [224 + c / 4096, 128 + c / 64 % 64, 128 + c % 64]
     else [240 + c / 262144, 128 + c / 4096 % 64, 128 + c / 64 % 64, 128 + c % 64], 0)
  else if c ≤ 127 then (turnC st 0 ++ [c % 256], 0)
  else (turnC st 1 ++ [33 + (c - 19968) / 94, 33 + (c - 19968) % 94], 1)

def statesC (enc : Int) : Int := if enc = 3 then 2 else 1
def encOk (enc : Int) : Prop := 1 ≤ enc ∧ enc ≤ 3
instance (enc : Int) : Decidable (encOk enc) := inferInstanceAs (Decidable (_ ∧ _))

/-- Shifts alone, or nothing. -/
def passedC (enc : Int) (b : List Int) : Bool := if enc = 3 then b.all (fun x => decide (x = 14 ∨ x = 15)) else b.isEmpty

/-- The characters of bytes and where each begins; or the offset of the first error. -/
def decodeLoop (enc : Int) : Nat → Int → Int → List Int → List (Int × Int) × Option Int
  | 0, _, _, _ => ([], none)
  | k + 1, st, at_, b =>
    if passedC enc b then ([], none)
    else
      let s := nextC enc st b
      if s.kind = 1 then
        let r := decodeLoop enc k s.st (at_ + s.bytes) (b.drop s.bytes.toNat)
        ((at_, s.ch) :: r.1, r.2)
      else ([], some at_)

/-- List, error, place. -/
def decodeC (enc : Int) (b : List Int) : List Int × Int × Int :=
  if ¬ encOk enc then ([], 1, 0)
  else if 20000 < b.length then ([], 2, 0)
  else
    let r := decodeLoop enc b.length 0 0 b
    match r.2 with
    | none => (r.1.map (·.2), 0, 0)
    | some a => ([], 15, a)

/-- The bytes of characters from place i on, in a state. -/
def encLoop (enc : Int) : Int → Int → List Int → List Int × Int × Option Int
  | st, _, [] => ([], st, none)
  | st, i, c :: l =>
    if hasC enc c then
      let p := putC enc st c
      let r := encLoop enc p.2 (i + 1) l
      (p.1 ++ r.1, r.2)
    else ([], st, some i)

def encodedC (enc : Int) (l : List Int) : List Int × Int × Int :=
  let r := encLoop enc 0 0 l
  match r.2.2 with
  | some i => ([], 15, i)
  | none => if 20000 < (r.1 ++ turnC r.2.1 0).length then ([], 2, 0) else (r.1 ++ turnC r.2.1 0, 0, 0)

def encodeC (enc : Int) (l : List Int) : List Int × Int × Int :=
  if ¬ encOk enc then ([], 1, 0) else if 20000 < l.length then ([], 2, 0) else encodedC enc l

/-- As many characters as have room: bytes, their number, error. -/
def fitLoop (enc most : Int) : Int → List Int → List Int → Nat → List Int → List Int × Int × Int
  | _, _, bb, k, [] => (bb, k, 0)
  | st, lg, bb, k, c :: t =>
    if hasC enc c then
      let p := putC enc st c
      if most < ((lg ++ p.1) ++ turnC p.2 0).length then (bb, k, 0)
      else fitLoop enc most p.2 (lg ++ p.1) ((lg ++ p.1) ++ turnC p.2 0) (k + 1) t
    else ([], 0, 15)

def fitC (enc : Int) (l : List Int) (most : Int) : List Int × Int × Int :=
  if ¬ encOk enc then ([], 0, 1) else if 20000 < l.length then ([], 0, 2) else if most < 0 then ([], 0, 1) else fitLoop enc most 0 [] [] 0 l
end Go.Proofs.Ytcekghcejmhhaaa

namespace Go.Proofs.Ytcekghcejmhhaaa
open Go.RowKit Go.Proofs.YtcekghcejmhhaaaW.PrintWords Go.Proofs.YtcekghcejmhhaaaW.PrintLast Go.Proofs.YtcekghcejmhhaaaW.PrintMore

set_option maxRecDepth 100000 in
set_option maxHeartbeats 1000000 in
theorem caught_panic (p q : Nat) (e a e0 a0 : Int) (older : List PanicEntry) (w : World) (hp : One w p 25 (.int .i64 e0)) (hq : One w q 3 (.int .i64 a0)) (hne : p ≠ q) :
    CallsD Try.prog 36 #[.pointer (some ⟨p, 0, none⟩), .pointer (some ⟨q, 0, none⟩)] (.panicking ({ v := .iface 97 (.agg #[.int .i64 e, .int .i64 a]), recovered := false } :: older)) w fun r u' w' =>
      r = .returned (.tuple #[]) ∧ u' = .panicking ({ v := .iface 97 (.agg #[.int .i64 e, .int .i64 a]), recovered := true } :: older) ∧
      Chg w w' (fun k => k = p ∨ k = q) ∧ One w' p 25 (.int .i64 e) ∧ One w' q 3 (.int .i64 a) := by
  have c1 := blk_cell hp 0
  have c2 := blk_cell hq 0
  have f1 := blk_frozen hp 0
  have f2 := blk_frozen hq 0
  simp only [List.getElem?_toArray, List.getElem?_cons_zero] at c1 c2
  have hltp := blk_lt hp
  have hltq := blk_lt hq
  have hta : ∀ w, (Instr.typeAssert (.iface 97 (.agg #[.int .i64 e, .int .i64 a])) 20 97 true).run Try.prog w = .ok (.tuple #[.agg #[.int .i64 e, .int .i64 a], .bool true]) w := fun _ => by kernel_rfl
  have HP := Lib.hid hp
  have HQ := Lib.hid hq
  have HNE := Lib.hid hne
  clear hp hq
  refine callsD_of_wpS Try.func36 rfl fun c₀ cs hu => ?_
  apply wpS_seq
  apply wpS_region
  simp [wpOpsS, go_sem, recoverD, hu, Try.ntmps36, Exit.thenS]
  simp only [List.size_toArray, List.length_cons, List.length_nil, Nat.reduceAdd, Nat.reduceSub, Array.replicate_succ, Array.replicate_zero, List.push_toArray, List.append_toArray, List.nil_append, List.cons_append, List.setIfInBounds_toArray, List.set_cons_zero, List.set_cons_succ]
  refine wpS_of_wp ?_
  have HU := Lib.hid hu
  clear hu
  generalize hcs : (({ fn := c₀.fn, tmps := c₀.tmps, todo := c₀.todo, defers := c₀.defers, mode := FrameMode.panicking ({ v := Value.iface 97 (Value.agg #[Value.int IntKind.i64 e, Value.int IntKind.i64 a]), recovered := true } :: older), kind := c₀.kind, roundOf := c₀.roundOf } : Frame) :: cs) = cs1
  have HCS := Lib.hid hcs
  clear hcs
  go_wp2
  go_region
  refine ⟨rfl, _, HCS.out.symm, .tuple #[], by simp [results, Try.results36], rfl, rfl, ?_, ?_, ?_⟩
  · refine ⟨rfl, rfl, rfl, by simp [World.setCell], fun k hk hn => ?_⟩
    show (((w.setCell ⟨p, 0, none⟩ (.int .i64 e)).setCell ⟨q, 0, none⟩ (.int .i64 a)).alloc _).heap[k]? = _
    rw [Below.heap_alloc _ _ _ (by simpa [World.setCell] using hk), Below.heap_setCell _ _ _ _ (fun h => hn (.inr h)), Below.heap_setCell _ _ _ _ (fun h => hn (.inl h))]
  · exact blk_drew (blk_alloc (blk_far (blk_put HP.out 0 _ rfl) (p := ⟨q, 0, none⟩) HNE.out _) _)
  · exact blk_drew (blk_alloc (blk_put (blk_far HQ.out (p := ⟨p, 0, none⟩) HNE.out.symm _) 0 _ rfl) _)

theorem caught_idle (p q : Nat) (w : World) : CallsD Try.prog 36 #[.pointer (some ⟨p, 0, none⟩), .pointer (some ⟨q, 0, none⟩)] .returning w fun r u' w' => r = .returned (.tuple #[]) ∧ u' = .returning ∧ w = w' := by
  refine callsD_of_wpS Try.func36 rfl fun c₀ cs hu => ?_
  apply wpS_seq
  apply wpS_region
  simp [wpOpsS, go_sem, recoverD, hu, Try.ntmps36, Exit.thenS]
  simp only [List.size_toArray, List.length_cons, List.length_nil, Nat.reduceAdd, Nat.reduceSub, Array.replicate_succ, Array.replicate_zero, List.push_toArray, List.append_toArray, List.nil_append, List.cons_append, List.setIfInBounds_toArray, List.set_cons_zero, List.set_cons_succ]
  refine wpS_of_wp ?_
  have HU := Lib.hid hu
  clear hu
  go_wp2
  refine ⟨rfl, .returning, ?_, .tuple #[], by simp [results, Try.results36], rfl, rfl, rfl⟩
  have hu := HU.out
  cases c₀
  simp_all
end Go.Proofs.Ytcekghcejmhhaaa

namespace Go.Proofs.Ytcekghcejmhhaaa
open Go.RowKit Go.Proofs.YtcekghcejmhhaaaW.PrintWords Go.Proofs.YtcekghcejmhhaaaW.PrintLast Go.Proofs.YtcekghcejmhhaaaW.PrintMore

set_option maxHeartbeats 400000 in
theorem octets_states (w : World) : Calls Try.prog 71 #[.agg #[]] w fun r w' => r = .returned (.int .i64 1) ∧ Below w.heap.size w w' := by
  go_enter Try.func71, Try.ntmps71
  go_wp2
  go_ret
  exact ⟨rfl, bel⟩
set_option maxHeartbeats 400000 in
theorem utf8_states (w : World) : Calls Try.prog 77 #[.agg #[]] w fun r w' => r = .returned (.int .i64 1) ∧ Below w.heap.size w w' := by
  go_enter Try.func77, Try.ntmps77
  go_wp2
  go_ret
  exact ⟨rfl, bel⟩
set_option maxHeartbeats 400000 in
theorem shift_states (w : World) : Calls Try.prog 84 #[.agg #[]] w fun r w' => r = .returned (.int .i64 2) ∧ Below w.heap.size w w' := by
  go_enter Try.func84, Try.ntmps84
  go_wp2
  go_ret
  exact ⟨rfl, bel⟩
set_option maxHeartbeats 400000 in
theorem octets_has (c : Int) (w : World) : Calls Try.prog 68 #[.agg #[], .int .u32 c] w fun r w' => r = .returned (.bool (hasC 1 c)) ∧ Below w.heap.size w w' := by
  go_enter Try.func68, Try.ntmps68
  go_wp2
  go_ret
  exact ⟨by simp [hasC], bel⟩
set_option maxHeartbeats 400000 in
theorem utf8_has (c : Int) (w : World) : Calls Try.prog 74 #[.agg #[], .int .u32 c] w fun r w' => r = .returned (.bool (hasC 2 c)) ∧ Below w.heap.size w w' := by
  by_cases h1 : c < 55296
  all_goals by_cases h2 : 57343 < c
  all_goals by_cases h3 : c ≤ 1114111
  all_goals try omega
  all_goals
    have H : Hid (hasC 2 c = decide (c < 55296 ∨ 57343 < c ∧ c ≤ 1114111)) := by simp [hasC, Hid]
    go_enter Try.func74, Try.ntmps74
    go_wp2
    go_ret
    exact ⟨by rw [H.out]; simp [h1, h2, h3] <;> omega, bel⟩
set_option maxHeartbeats 1000000 in
theorem shift_has (c : Int) (w : World) : Calls Try.prog 81 #[.agg #[], .int .u32 c] w fun r w' => r = .returned (.bool (hasC 3 c)) ∧ Below w.heap.size w w' := by
  have H : Hid (hasC 3 c = decide (c ≤ 127 ∧ c ≠ 14 ∧ c ≠ 15 ∨ 19968 ≤ c ∧ c ≤ 28803)) := by simp [hasC, Hid]
  by_cases h1 : c ≤ 127
  · by_cases h2 : c = 14
    · subst h2
      go_enter Try.func81, Try.ntmps81
      go_wp2
      go_ret
      exact ⟨by rw [H.out]; simp, bel⟩
    · by_cases h3 : c = 15
      · subst h3
        go_enter Try.func81, Try.ntmps81
        go_wp2
        go_ret
        exact ⟨by rw [H.out]; simp, bel⟩
      · have t1 : (c != 14) = true := by simp [h2]
        have t2 : (c != 15) = true := by simp [h3]
        go_enter Try.func81, Try.ntmps81
        go_wp2
        go_ret
        exact ⟨by rw [H.out]; simp [h1, h2, h3], bel⟩
  · by_cases h4 : 19968 ≤ c
    · go_enter Try.func81, Try.ntmps81
      go_wp2
      go_ret
      exact ⟨by rw [H.out]; exact congrArg (fun b => Ending.returned (.bool b)) (decide_eq_decide.2 (by omega)), bel⟩
    · go_enter Try.func81, Try.ntmps81
      go_wp2
      go_ret
      exact ⟨by rw [H.out]; simp; omega, bel⟩

theorem turn_f (a b : Int) : XBase.chars_turn.f a b = some (turnC a b) := by
  unfold XBase.chars_turn.f turnC
  by_cases h1 : a = b
  · simp [h1]
  · by_cases h2 : b = 1
    · subst h2; rw [if_neg h1, if_pos rfl, if_neg h1, if_pos rfl]
    · rw [if_neg h1, if_neg h2, if_neg h1, if_neg h2]

theorem turn_any (a b : Int) (w : World) : Calls Try.prog 43 #[.int .i64 a, .int .i64 b] w fun r w' => ∃ v, r = .returned v ∧ OwnI .u8 5 w.heap.size w' v (turnC a b) ∧ Below w.heap.size w w' :=
  XBase.chars_turn.calls a b _ w (turn_f a b)

set_option maxHeartbeats 400000 in
theorem octets_put (s c : Int) (w : World) : Calls Try.prog 70 #[.agg #[], .int .i64 s, .int .u32 c] w fun r w' => ∃ v, r = .returned (.tuple #[v, .int .i64 (putC 1 s c).2]) ∧ OwnI .u8 5 w.heap.size w' v (putC 1 s c).1 ∧ Below w.heap.size w w' := by
  go_enter Try.func70, Try.ntmps70
  go_wp2
  go_ret2
  refine ⟨_, rfl, ?_, bel⟩
  exact R_fresh (k := .u8) _ (w.heap.size + 1) (by simp) [c % 256] _ (by simp [nums]) _ (by simp) (by simp) (by simp)
end Go.Proofs.Ytcekghcejmhhaaa

namespace Go.Proofs.Ytcekghcejmhhaaa
open Go.RowKit Go.Proofs.YtcekghcejmhhaaaW.PrintWords Go.Proofs.YtcekghcejmhhaaaW.PrintLast Go.Proofs.YtcekghcejmhhaaaW.PrintMore
set_option maxRecDepth 100000

theorem which_ok (x : Int) (h0 : 0 ≤ x) (h1 : x < 256) (w : World) : Calls Try.prog 19 #[.int .u8 x] w fun r w' => r = .returned (.int .i64 (1 + x % 3)) ∧ w = w' := by
  have e1 : IntKind.i64.wrap x = x := IntWalk.i64_in _ (by omega)
  have e2 : IntKind.i64.wrap (1 + x % 3) = 1 + x % 3 := IntWalk.i64_in _ (by omega)
  have e3 : x.tmod 3 = x % 3 := Int.tmod_eq_emod_of_nonneg h0
  have e4 : IntKind.i64.wrap (x % 3) = x % 3 := IntWalk.i64_in _ (by omega)
  go_enter Try.func19, Try.ntmps19
  go_wp2
  go_ret
  exact ⟨rfl, rfl⟩

set_option maxHeartbeats 2000000 in
theorem characters_eq (A : Option Addr) (n c : Nat) (xs : List Int) (B : Option Addr) (m d : Nat) (ys : List Int) (w : World) (hC : Kd.C (Kd.int .u32) w A n xs) (hD : Kd.C (Kd.int .u32) w B m ys) (hm : n ≤ 1000000000) :
    Calls Try.prog 21 #[.slice A n c, .slice B m d] w fun r w' => r = .returned (.bool (decide (xs = ys))) ∧ Below w.heap.size w w' := by
  have hl : xs.length = n := hC.1
  have hl2 : ys.length = m := hD.1
  have HC := Lib.hid hC
  have HD := Lib.hid hD
  by_cases hnm : n = m
  · subst hnm
    have HL := Lib.hid hl
    have HL2 := Lib.hid hl2
    clear hl hl2 hC hD
    go_enter Try.func21, Try.ntmps21
    go_wp2
    go_loopw [5] (fun vi wr => ∃ k : Nat, vi = .int .i64 k ∧ k ≤ n ∧ xs.take k = ys.take k ∧ Below w.heap.size w wr) (fun vi _ => n - (intOf vi).toNat)
    case atStart => exact ⟨0, rfl, by omega, by simp, Below.refl _ _⟩
    case round =>
      obtain ⟨k, rfl, hk, hr, hb⟩ := hrel
      have HR := Lib.hid hr
      clear hr
      by_cases hkn : k < n
      · obtain ⟨b1, o1, rfl, hlt1, hcs1⟩ := open_C (C_of_below HC.out hb) (by omega)
        obtain ⟨b2, o2, rfl, hlt2, hcs2⟩ := open_C (C_of_below HD.out hb) (by omega)
        have k1 := hcs1 k hkn
        have k2 := hcs2 k hkn
        have hX : xs.take (k + 1) = xs.take k ++ [xs.getD k 0] := by
          have := HL.out
          rw [List.take_succ_eq_append_getElem (by omega), List.getD_eq_getElem?_getD, List.getElem?_eq_getElem (by omega)]; rfl
        have hY : ys.take (k + 1) = ys.take k ++ [ys.getD k 0] := by
          have := HL2.out
          rw [List.take_succ_eq_append_getElem (by omega), List.getD_eq_getElem?_getD, List.getElem?_eq_getElem (by omega)]; rfl
        have HXX := Lib.hid hX
        have HYY := Lib.hid hY
        clear hcs1 hcs2 hX hY
        generalize xs.getD k 0 = x at *
        generalize ys.getD k 0 = y at *
        by_cases hxy : x = y
        · subst hxy
          go_wp2
          go_quiet (fail)
          go_wp2
          exact ⟨⟨k + 1, by push_cast; rfl, by omega, by rw [HXX.out, HYY.out, HR.out], pw_below_drewN hb _⟩, by simp only [intOf]; omega⟩
        · have hd : (x == y) = false := by simpa using hxy
          go_wp2
          go_quiet (fail)
          go_wp2
          go_ret
          have hne : xs ≠ ys := by
            rintro rfl
            have := HXX.out.symm.trans HYY.out
            exact hxy (by simpa using this)
          exact ⟨by simp [hne], pw_below_drewN hb _⟩
      · go_wp2
        go_ret
        have he : xs = ys := by
          have := HR.out
          rwa [List.take_of_length_le (by have := HL.out; omega), List.take_of_length_le (by have := HL2.out; omega)] at this
        exact ⟨by simp [he], hb⟩
  · have hd : ((n : Int) == (m : Int)) = false := by simp; omega
    have hne : xs ≠ ys := by rintro rfl; omega
    go_enter Try.func21, Try.ntmps21
    go_wp2
    go_ret
    exact ⟨by simp [hne], Below.refl _ _⟩
end Go.Proofs.Ytcekghcejmhhaaa
