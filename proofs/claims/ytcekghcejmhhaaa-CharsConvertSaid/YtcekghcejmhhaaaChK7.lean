/- Joined: ConvA, ConvB, CharsExtC: contracts of functions of the program, and plain laws. -/
import Derived.Test.YtcekghcejmhhaaaChK6
import Derived.OrdersIn
import Derived.RangeFuncCalls
import Derived.Test.YtcekghcejmhhaaaCharsExt
set_option linter.unusedSimpArgs false
set_option linter.unusedVariables false
set_option linter.unnecessarySimpa false
/- General: a region that draws its order, within a round of a range over a function; and what 'Convert' does last. -/
namespace Go.Proofs.Ytcekghcejmhhaaa
open Go.RowKit Go.Proofs.YtcekghcejmhhaaaW.PrintWords Go.Proofs.YtcekghcejmhhaaaW.PrintLast Go.Proofs.YtcekghcejmhhaaaW.PrintMore
set_option maxRecDepth 100000

section
variable {P : Program} {ops : Array Oper} {Q : Exit → Act → World → Prop} {md : Region.Mode} {L n : Nat}
/-- Operations that are no 'defer' and run to no round. -/
def calmOp (o : Oper) : Prop := (∀ c, o.op ≠ .defer c)
theorem oper_in {o : Oper} (hd : ∀ c, o.op ≠ .defer c) {a : Act} {w : World} {K : Act → World → Prop} (h : o.wp P a w K Q) : o.wpIn (Fence.wide.inRound L) n P a w K Q := by
  unfold Oper.wp at h
  unfold Oper.wpIn
  refine ⟨fun _ _ => trivial, ?_⟩
  rw [Oper.semAt_eq _ _ _ hd]
  generalize (execOp a.eval o).run P w = r at h
  cases r with
  | halt x w' => cases x <;> first | exact h | exact h.elim
  | ok x w' =>
    cases x with
    | value v => exact h
    | skip => exact h
    | defer d => exact h
    | enter f args => rw [Oper.uponIn_enter]; rw [Oper.upon_enter] at h; exact ⟨fun hh => (by cases hh), CallsIn.inRound L (callsIn_wide.2 h)⟩
    | row row args => rw [Oper.uponIn_row]; rw [Oper.upon_row] at h; exact ⟨fun hh => (by cases hh), fun c cs _ => (let ⟨v, w'', r, s⟩ := h c cs; ⟨v, w'', r, stepsIn_wide.2 s⟩)⟩
    | _ => exact h.elim
theorem op_in (hd : ∀ (i : Nat) (o : Oper) c, ops[i]? = some o → o.op ≠ .defer c) (hq : ¬ LetsOut Q) {i : Nat} {a : Act} {w : World} {K : Act → World → Prop} (h : wpOp P ops Q i K a w) : wpOpIn (Fence.wide.inRound L) n P ops Q i K a w := by
  unfold wpOp at h
  unfold wpOpIn
  cases ho : ops[i]? with
  | none => rw [ho] at h; exact h
  | some o =>
    rw [ho] at h
    dsimp only at h ⊢
    split
    · rename_i hw
      rw [if_pos hw] at h
      exact oper_in (fun c => hd i o c ho) (h.resolve_right fun hh => hq hh.2)
    · rename_i hw
      rw [if_neg hw] at h
      exact ⟨fun _ _ => trivial, h⟩
theorem any_in (hd : ∀ (i : Nat) (o : Oper) c, ops[i]? = some o → o.op ≠ .defer c) (hq : ¬ LetsOut Q) : ∀ (fuel : Nat) (listed : Array Bool) (a : Act) (w : World), wpAny P md ops Q fuel listed a w → wpAnyIn (Fence.wide.inRound L) n P md ops Q fuel listed a w
  | 0, _, _, _, h => h
  | fuel + 1, _, _, _, h => ⟨h.1, fun i hi => op_in hd hq (wpOp_mono (fun a' w' h' => any_in hd hq fuel _ a' w' h') (h.2 i hi))⟩
/-- The walk of such a region starts here. -/
theorem start_in {S : World → Prop} {ds : List Nat} {id : Nat} {a : Act} {w : World} {m : Nat} (l : Array Bool) (hm : P.follows .mixedOrders = true) (hd : ∀ (i : Nat) (o : Oper) c, ops[i]? = some o → o.op ≠ .defer c) (hq : ¬ LetsOut Q) (hn : ops.size = m) (hl : Array.replicate m false = l)
    (h : wpAnyLast P .any ops Q S ds m l a w.drew) : (Code.region id ops true).wpIn (Fence.wide.inRound L) n P Q a w := by
  subst hn
  subst hl
  exact wpIn_region_any hm (any_in hd hq _ _ _ _ (wpAny_of_last _ _ _ _ h))
end

/-- Converted bytes, error, place. -/
def convertC (fr tt : Int) (b : List Int) : List Int × Int × Int :=
  if ¬ encOk fr then ([], 1, 0)
  else if ¬ encOk tt then ([], 1, 0)
  else if 20000 < b.length then ([], 2, 0)
  else
    let r := decodeLoop fr b.length 0 0 b
    match r.2 with
    | some a => ([], 15, a)
    | none =>
      let q := encodedC tt (r.1.map (·.2))
      if q.2.1 = 15 then ([], 15, (r.1.map (·.1)).getD q.2.2.toNat 0) else q

theorem encLoop_at (enc : Int) : ∀ (l : List Int) (st i j : Int), (encLoop enc st i l).2.2 = some j → i ≤ j ∧ j < i + l.length
  | [], st, i, j, h => by simp [encLoop] at h
  | c :: l, st, i, j, h => by
    unfold encLoop at h
    split at h
    · have := encLoop_at enc l _ _ _ h
      simp only [List.length_cons]
      omega
    · simp at h
      subst h
      simp only [List.length_cons]
      omega
theorem decodeLoop_len (enc : Int) : ∀ (f : Nat) (st a : Int) (b : List Int), (decodeLoop enc f st a b).1.length ≤ f
  | 0, _, _, _ => by simp [decodeLoop]
  | f + 1, st, a, b => by
    rw [decodeLoop_unfold]
    split
    · simp
    · split
      · simp only [List.length_cons]
        have := decodeLoop_len enc f (nextC enc st b).st (a + (nextC enc st b).bytes) (b.drop (nextC enc st b).bytes.toNat)
        omega
      · simp
theorem encodedC_at {enc : Int} {l : List Int} (h : (encodedC enc l).2.1 = 15) : ∃ k : Nat, (encodedC enc l).2.2 = k ∧ k < l.length := by
  unfold encodedC at h ⊢
  dsimp only at h ⊢
  cases hh : (encLoop enc 0 0 l).2.2 with
  | none => rw [hh] at h; dsimp only at h; split at h <;> simp at h
  | some j =>
    have := encLoop_at enc l 0 0 j hh
    exact ⟨j.toNat, by dsimp only; omega, by omega⟩

/-- What 'Convert' does last: nothing, where there is another error, or none. -/
theorem conv_idle (pe pb pa : Nat) (u : FrameMode) (w : World) (e : Int) (h0 : ¬ e = 15) (he : One w pe 25 (.int .i64 e)) :
    CallsD Try.prog 48 #[.pointer (some ⟨pe, 0, none⟩), .pointer (some ⟨pb, 0, none⟩), .pointer (some ⟨pa, 0, none⟩)] u w fun r u' w' => u' = u ∧ r = .returned (.tuple #[]) ∧ w = w' := by
  have c1 : w.cell? ⟨pe, 0, none⟩ = some (.int .i64 e) := by simpa using blk_cell he 0
  have hd : (e == 15) = false := by simpa using h0
  clear he
  go_enter_d Try.func48, Try.ntmps48
  go_wp2
  go_end0
  exact ⟨rfl, rfl⟩
theorem conv_nil (pe pb pa : Nat) (u : FrameMode) (w : World) (he : One w pe 25 (.int .i64 15)) (hb : One w pb 55 (.slice none 0 0)) :
    CallsD Try.prog 48 #[.pointer (some ⟨pe, 0, none⟩), .pointer (some ⟨pb, 0, none⟩), .pointer (some ⟨pa, 0, none⟩)] u w fun r u' w' => u' = u ∧ r = .returned (.tuple #[]) ∧ w = w' := by
  have c1 : w.cell? ⟨pe, 0, none⟩ = some (.int .i64 15) := by simpa using blk_cell he 0
  have c2 : w.cell? ⟨pb, 0, none⟩ = some (.slice none 0 0) := by simpa using blk_cell hb 0
  clear he hb
  go_enter_d Try.func48, Try.ntmps48
  go_wp2
  go_end0
  exact ⟨rfl, rfl⟩
theorem conv_set (pe pb pa : Nat) (u : FrameMode) (w : World) (g off n c k : Nat) (x : Int) (he : One w pe 25 (.int .i64 15)) (hb : One w pb 55 (.slice (some ⟨g, off, none⟩) n c)) (ha : One w pa 3 (.int .i64 k)) (hk : k < n) (hk2 : n ≤ 20000)
    (hx : w.cell? ⟨g, off + k, none⟩ = some (.int .i64 x)) :
    CallsD Try.prog 48 #[.pointer (some ⟨pe, 0, none⟩), .pointer (some ⟨pb, 0, none⟩), .pointer (some ⟨pa, 0, none⟩)] u w fun r u' w' => u' = u ∧ r = .returned (.tuple #[]) ∧
      Chg w w' (fun j => j = pa) ∧ BlkIs w' pa 3 (· = #[.int .i64 x]) := by
  have c1 : w.cell? ⟨pe, 0, none⟩ = some (.int .i64 15) := by simpa using blk_cell he 0
  have c2 : w.cell? ⟨pb, 0, none⟩ = some (.slice (some ⟨g, off, none⟩) n c) := by simpa using blk_cell hb 0
  have c3 : w.cell? ⟨pa, 0, none⟩ = some (.int .i64 k) := by simpa using blk_cell ha 0
  have f3 := blk_frozen ha 0
  have k1 : (k : Int) < n := by omega
  have HA := Lib.hid ha
  clear he hb ha
  go_enter_d Try.func48, Try.ntmps48
  go_wp2
  go_end0
  exact ⟨rfl, ⟨rfl, rfl, rfl, by simp [World.setCell], fun j hj hj2 => by rw [Below.heap_setCell _ _ _ _ hj2]⟩, ⟨_, blk_put HA.out 0 _ rfl, rfl⟩⟩
end Go.Proofs.Ytcekghcejmhhaaa

/- The walk of chars.Convert (printed by wip/tools/genConv.py). -/
namespace Go.Proofs.Ytcekghcejmhhaaa
open Go.RowKit Go.Proofs.YtcekghcejmhhaaaW.PrintWords Go.Proofs.YtcekghcejmhhaaaW.PrintLast Go.Proofs.YtcekghcejmhhaaaW.PrintMore
set_option maxRecDepth 100000

/-- Two rows of the call's own behind B, and everything ahead of it as it was. -/
structure CR (w0 : World) (B : Nat) (W2 : World) (v u : Value) (xs ys : List Int) (W : World) : Prop where
  o1 : OwnI .u32 43 B W v xs
  o2 : OwnI .i64 3 B W u ys
  old : ∀ (j : Nat) (o : Obj), j < B → W2.heap[j]? = some o → W.heap[j]? = some o
  bel : Below w0.heap.size w0 W
  kt : KeepsT 45 W2 W
  sz : B ≤ W.heap.size
section
variable {w0 W2 W w1 : World} {B : Nat} {v u v1 : Value} {xs ys xs' : List Int}
theorem CR.alloc (h : CR w0 B W2 v u xs ys W) (o : Obj) : CR w0 B W2 v u xs ys (W.alloc o) :=
  ⟨OwnI.alloc h.o1, OwnI.alloc h.o2, fun j o' hj ho => blk_alloc (h.old j o' hj ho) _, below_alloc h.bel _, KeepsT.trans h.kt (KeepsT.alloc _), by have := h.sz; simp; omega⟩
theorem CR.drew (h : CR w0 B W2 v u xs ys W) : CR w0 B W2 v u xs ys W.drew := ⟨h.o1.drew, h.o2.drew, h.old, ⟨h.bel.os, h.bel.tape, h.bel.output, h.bel.size, h.bel.block⟩, h.kt, h.sz⟩
theorem below_two (h : Below w0.heap.size w0 W) (hB : w0.heap.size ≤ B) (hb : Below B W w1) : Below w0.heap.size w0 w1 :=
  ⟨hb.os.trans h.os, hb.tape.trans h.tape, hb.output.trans h.output, Nat.le_trans h.size hb.size, fun k hk => (hb.block k (by omega)).trans (h.block k hk)⟩
theorem CR.grow1 (h : CR w0 B W2 v u xs ys W) (hB : w0.heap.size ≤ B) (r : OwnI .u32 43 B w1 v1 xs') (hb : Below B W w1) (hg : W.grownBy w1 v.ownBlock) : CR w0 B W2 v1 u xs' ys w1 ∧ KeepsT 3 W w1 := by
  obtain ⟨_, inner, hrow, _⟩ := id h.o1
  exact ⟨⟨r, Kd.R_over h.o2 h.o1 (by decide) hg, fun j o hj ho => (hb.block j hj).trans (h.old j o hj ho), below_two h.bel hB hb, KeepsT.trans h.kt (KeepsT.grown hg hrow (by decide)), Nat.le_trans h.sz hb.size⟩, KeepsT.grown hg hrow (by decide)⟩
theorem CR.grow2 (h : CR w0 B W2 v u xs ys W) (hB : w0.heap.size ≤ B) (r : OwnI .i64 3 B w1 v1 xs') (hb : Below B W w1) (hg : W.grownBy w1 u.ownBlock) : CR w0 B W2 v v1 xs xs' w1 := by
  obtain ⟨_, inner, hrow, _⟩ := id h.o2
  exact ⟨Kd.R_over h.o1 h.o2 (by decide) hg, r, fun j o hj ho => (hb.block j hj).trans (h.old j o hj ho), below_two h.bel hB hb, KeepsT.trans h.kt (KeepsT.grown hg hrow (by decide)), Nat.le_trans h.sz hb.size⟩
end
theorem one_C {k : IntKind} {W : World} {g e : Nat} {x : Int} (h : One W g e (.int k x)) : Kd.C (Kd.int k) W (some ⟨g, 0, none⟩) 1 [x] :=
  ⟨rfl, by decide, fun _ => ⟨_, rfl, fun j y hy => by
    cases j with
    | zero =>
      simp at hy
      subst hy
      refine ⟨[.int k x], rfl, rfl, fun i u hu => ?_⟩
      cases i with
      | zero => simp at hu; subst hu; simpa [Addr.add] using blk_cell h 0
      | succ i => simp at hu
    | succ j => simp at hy⟩⟩

def ConvPost (fr tt : Int) (l : List Int) (w : World) (r : Ending) (w' : World) : Prop :=
  ∃ v, r = .returned (.tuple #[v, .int .i64 (convertC fr tt l).2.1, .int .i64 (convertC fr tt l).2.2]) ∧ OwnI .u8 5 w.heap.size w' v (convertC fr tt l).1 ∧ Below w.heap.size w w'

/-- Between two rounds of 'Convert'. -/
structure ConvJ (w0 : World) (h : Nat) (ev bv : Value) (rec : Loop) (pre : List (Int × Int)) (W : World) : Prop where
  b3 : ∃ v, One W (h + 1 + 1 + 1) 22 v ∧ OwnI .u32 43 (h + 1 + 1 + 1 + 1 + 1 + 1 + 1 + 1 + 1) W v (pre.map (·.2))
  b4 : ∃ v, One W (h + 1 + 1 + 1 + 1) 55 v ∧ OwnI .i64 3 (h + 1 + 1 + 1 + 1 + 1 + 1 + 1 + 1 + 1) W v (pre.map (·.1))
  he : One W h 25 (.int .i64 0)
  ha : One W (h + 1) 3 (.int .i64 0)
  hg : One W (h + 1 + 1) 55 (.slice none 0 0)
  hx : One W (h + 1 + 1 + 1 + 1 + 1) 79 ev
  hb : One W (h + 1 + 1 + 1 + 1 + 1 + 1) 24 bv
  hD : W.heap[h + 1 + 1 + 1 + 1 + 1 + 1 + 1]? = some (.deferred (some []))
  hL : W.heap[h + 1 + 1 + 1 + 1 + 1 + 1 + 1 + 1]? = some (.loop rec)
  bel : Below w0.heap.size w0 W

theorem ConvJ.below {w0 : World} {h : Nat} {ev bv : Value} {rec : Loop} {pre : List (Int × Int)} {W W' : World} (j : ConvJ w0 h ev bv rec pre W) (hb : Below W.heap.size W W') : ConvJ w0 h ev bv rec pre W' := by
  obtain ⟨v, h1, h2⟩ := j.b3
  obtain ⟨u, k1, k2⟩ := j.b4
  exact ⟨⟨v, blk_below h1 hb, OwnI.below h2 hb⟩, ⟨u, blk_below k1 hb, OwnI.below k2 hb⟩, blk_below j.he hb, blk_below j.ha hb, blk_below j.hg hb, blk_below j.hx hb, blk_below j.hb hb, blk_below j.hD hb, blk_below j.hL hb, below_step j.bel hb⟩
theorem info_int : (Try.prog.info? 3).map (fun i => (i.zero, i.size, i.bytes)) = some (some (.int .i64 0), 1, 8) := by kernel_rfl

set_option maxHeartbeats 8000000 in
theorem conv_1 (fr tt : Int) (h : encOk fr) (h2 : encOk tt) (A : Option Addr) (n c : Nat) (l : List Int) (w : World) (hn : n ≤ 20000) (hnc : n ≤ c) (hC : Kd.C (Kd.int .u8) w A n l) (hx : Byt l) :
    Calls Try.prog 27 #[.int .i64 fr, .int .i64 tt, .slice A n c] w (ConvPost fr tt l w) := by
  have hl : l.length = n := hC.1
  subst hl
  have HC := Lib.hid hC
  have H := Lib.hid h
  have H2 := Lib.hid h2
  clear hC h h2
  have hn2 : (l.length : Int) ≤ 20000 := by omega
  refine calls_of_wp_dm Try.func27 rfl ?_
  simp only [Try.ntmps27, List.size_toArray, List.length_cons, List.length_nil, Nat.reduceAdd, Nat.reduceSub, Array.replicate_succ, Array.replicate_zero, List.push_toArray, List.append_toArray, List.nil_append, List.cons_append]
  go_wp2_with (first | (go_at_call_of 37 (Value.int IntKind.i64 fr); (with_reducible refine (of_ok _ H.out _).mono ?_); rintro e w1 ⟨rfl, rfl⟩) | (go_at_call_of 37 (Value.int IntKind.i64 tt); (with_reducible refine (of_ok _ H2.out _).mono ?_); rintro e w1 ⟨rfl, rfl⟩) | (go_at_call 38; (with_reducible refine (few_ok _ hn2 _).mono ?_); rintro e w1 ⟨rfl, rfl⟩) | (go_at_call 45; (with_reducible refine (characters_any _ ?hone _ _ _ _).mono ?_); (case hone => unfold encV; split <;> (try split) <;> rfl); rintro e w1 ⟨rfl, rfl⟩))
  obtain ⟨W0, hW0⟩ : ∃ W0, (((((((w.alloc (Obj.cells #[.int .i64 0] 25)).alloc (Obj.cells #[.int .i64 0] 3)).alloc (Obj.cells #[.slice none 0 0] 55)).alloc (Obj.cells #[.slice none 0 0] 22)).alloc (Obj.cells #[.slice none 0 0] 55)).alloc (Obj.cells #[encV fr] 79)).alloc (Obj.cells #[.slice A l.length c] 24)) = W0 := ⟨_, rfl⟩
  have hs0 : W0.heap.size = w.heap.size + 1 + 1 + 1 + 1 + 1 + 1 + 1 := by rw [← hW0]; simp
  refine wp_rangeFunc2 (gf := 50) (lb := #[.pointer (some ⟨w.heap.size + 1 + 1 + 1 + 1 + 1, 0, none⟩), .pointer (some ⟨w.heap.size + 1 + 1 + 1 + 1 + 1 + 1, 0, none⟩)]) rfl (fun _ _ => rfl) ?_
  rw [hW0, hs0]
  intro fn rec hrec
  have h0 : ConvJ w w.heap.size (encV fr) (.slice A l.length c) (rec .ready) [] ((W0.alloc (.deferred (some []))).alloc (.loop (rec .ready))) := by
    have b0 : One W0 (w.heap.size) 25 (.int .i64 0) := by rw [← hW0]; exact BlkIs.one blk0
    have b1 : One W0 (w.heap.size + 1) 3 (.int .i64 0) := by rw [← hW0]; exact BlkIs.one blk0
    have b2 : One W0 (w.heap.size + 1 + 1) 55 (.slice none 0 0) := by rw [← hW0]; exact BlkIs.one blk0
    have b3 : One W0 (w.heap.size + 1 + 1 + 1) 22 (.slice none 0 0) := by rw [← hW0]; exact BlkIs.one blk0
    have b4 : One W0 (w.heap.size + 1 + 1 + 1 + 1) 55 (.slice none 0 0) := by rw [← hW0]; exact BlkIs.one blk0
    have b5 : One W0 (w.heap.size + 1 + 1 + 1 + 1 + 1) 79 (encV fr) := by rw [← hW0]; exact BlkIs.one blk0
    have b6 : One W0 (w.heap.size + 1 + 1 + 1 + 1 + 1 + 1) 24 (.slice A l.length c) := by rw [← hW0]; exact BlkIs.one blk0
    have bb : Below w.heap.size w W0 := by rw [← hW0]; exact bel
    exact ⟨⟨_, blk_alloc (blk_alloc b3 _) _, Kd.R_nil _ _ _ _ _⟩, ⟨_, blk_alloc (blk_alloc b4 _) _, Kd.R_nil _ _ _ _ _⟩, blk_alloc (blk_alloc b0 _) _, blk_alloc (blk_alloc b1 _) _, blk_alloc (blk_alloc b2 _) _, blk_alloc (blk_alloc b5 _) _, blk_alloc (blk_alloc b6 _) _, blk_alloc (blk_new' _ hs0.symm) _, blk_new' _ (by simp [hs0]), below_alloc (below_alloc bb _) _⟩
  refine (iter_any fr H.out A c l (by omega) hnc hx (w.heap.size + 1 + 1 + 1 + 1 + 1 + 1 + 1 + 1) (w.heap.size + 1 + 1 + 1 + 1 + 1) (w.heap.size + 1 + 1 + 1 + 1 + 1 + 1) (ConvJ w w.heap.size (encV fr) (.slice A l.length c) (rec .ready)) (fun pre W j => ⟨j.hx, j.hb, C_of_below HC.out j.bel⟩) (fun pre W W' j hb => j.below hb) ?hY _ h0).mono ?_
  case hY =>
    clear h0 hW0
    rintro pre x W hj hlen
    obtain ⟨v, hb3, hv⟩ := hj.b3
    obtain ⟨u, hb4, hu⟩ := hj.b4
    refine yield_round hrec hj.hL rfl ?act1 ?ha ?hb
    case ha =>
      intro K hK
      gi_wp2_with (rw [Oper.semAt_eq _ _ _ (fun c h => by cases h)]; go_simp; try go_bits)
      exact hK
    case hb =>
      have HJ := Lib.hid hj
      have HREC := Lib.hid hrec
      have HX := Lib.hid hlen
      have hLlt := blk_lt hj.hL
      obtain ⟨W2, hW2⟩ : ∃ W2, W.putObj (w.heap.size + 1 + 1 + 1 + 1 + 1 + 1 + 1 + 1) (.loop (rec .busy)) = W2 := ⟨_, rfl⟩
      have hz2 : W2.heap.size = W.heap.size := by rw [← hW2]; simp
      have B3 : Hid (One W2 (w.heap.size + 1 + 1 + 1) 22 v) := Lib.hid (by rw [← hW2]; exact blk_putObj hb3 (by omega))
      have B4 : Hid (One W2 (w.heap.size + 1 + 1 + 1 + 1) 55 u) := Lib.hid (by rw [← hW2]; exact blk_putObj hb4 (by omega))
      have hL2 : W2.heap[w.heap.size + 1 + 1 + 1 + 1 + 1 + 1 + 1 + 1]? = some (.loop (rec .busy)) := by rw [← hW2]; exact World.putObj_heap_same hLlt
      obtain ⟨B, hB⟩ : ∃ B, B = w.heap.size + 1 + 1 + 1 + 1 + 1 + 1 + 1 + 1 + 1 := ⟨_, rfl⟩
      have hb3lt : w.heap.size + 1 + 1 + 1 < B := by omega
      have hb4lt : w.heap.size + 1 + 1 + 1 + 1 < B := by omega
      have hwB : w.heap.size ≤ B := by omega
      obtain ⟨xs, hxs⟩ : ∃ xs, xs = pre.map (·.2) := ⟨_, rfl⟩
      obtain ⟨ys, hys⟩ : ∃ ys, ys = pre.map (·.1) := ⟨_, rfl⟩
      have hxl : xs.length ≤ 20000 := by rw [hxs, List.length_map]; have := HX.out; omega
      have hyl : ys.length ≤ 20000 := by rw [hys, List.length_map]; have := HX.out; omega
      have hcr : CR w B W2 v u xs ys W2 := ⟨by rw [hB, hxs, ← hW2]; exact OwnI.putObj hv (by omega), by rw [hB, hys, ← hW2]; exact OwnI.putObj hu (by omega), fun _ _ _ h => h, by rw [← hW2]; exact below_putObj hj.bel (by omega), fun _ _ h => h, by omega⟩
      rw [hW2]
      have HW2 := Lib.hid hW2
      have HXS := Lib.hid hxs
      have HYS := Lib.hid hys
      have HB := Lib.hid hB
      have HL2 := Lib.hid hL2
      have XL := Lib.hid hxl
      have YL := Lib.hid hyl
      obtain ⟨Av, cv, rfl⟩ := Kd.R_slice hcr.o1
      obtain ⟨Au, cu, rfl⟩ := Kd.R_slice hcr.o2
      have HCR := Lib.hid hcr
      clear hj hrec hlen hW2 hxs hys hB hL2 hxl hyl hv hu hb3 hb4 hcr
      refine wpIn_block ?_
      refine start_in (m := 10) (S := fun W' => ∀ (j : Nat) (o : Obj), j < B → W2.heap[j]? = some o → W'.heap[j]? = some o) (ds := [8, 9]) #[false, false, false, false, false, false, false, false, false, false] (by kernel_rfl) ?hdf ?hlo rfl rfl ?_
      case hdf =>
        intro i o cl hi
        rcases i with _ | _ | _ | _ | _ | _ | _ | _ | _ | _ | i <;> first | (cases hi; intro hh; cases hh) | (simp at hi)
      case hlo =>
        rintro ⟨a', w', hh⟩
        cases hh.1
      have hS0 : ∀ (j : Nat) (o : Obj), j < B → W2.heap[j]? = some o → W2.drew.heap[j]? = some o := fun _ _ _ h => h
      replace HCR := Lib.hid HCR.out.drew
      generalize W2.drew = Wd at hS0 HCR ⊢
      refine pure_ (i := 1) (N := some 30) (v := ?_) (a' := ?_) #[false, true, false, false, false, false, false, false, false, false] rfl rfl (by kernel_rfl) (fun _ _ _ h => h) (Or.inl ⟨by rfl, ?_⟩) ?_ ?_
      rotate_left
      · intro w'
        go_simp
        with_reducible rfl
      rotate_left
      · simp only [Act.put, List.setIfInBounds_toArray, List.set_cons_zero, List.set_cons_succ]
        rfl
      refine pure_ (i := 5) (N := some 34) (v := ?_) (a' := ?_) #[false, true, false, false, false, true, false, false, false, false] rfl rfl (by kernel_rfl) (fun _ _ _ h => h) (Or.inl ⟨by rfl, ?_⟩) ?_ ?_
      rotate_left
      · intro w'
        go_simp
        with_reducible rfl
      rotate_left
      · simp only [Act.put, List.setIfInBounds_toArray, List.set_cons_zero, List.set_cons_succ]
        rfl
      refine take_ (i := 0) (N := some 29) (v := ?_) (a' := ?_) #[true, true, false, false, false, true, false, false, false, false] rfl rfl (by kernel_rfl) (fun _ _ _ h => h) (Or.inl ⟨by rfl, ?_⟩) hS0 ?_ ?_
      rotate_left
      · intro w' hs'; have hs1 := blk_cell (hs' _ _ hb3lt B3.out) 0; have hs2 := blk_cell (hs' _ _ hb4lt B4.out) 0; simp at hs1 hs2
        go_simp
        with_reducible rfl
      rotate_left
      · simp only [Act.put, List.setIfInBounds_toArray, List.set_cons_zero, List.set_cons_succ]
        rfl
      refine take_ (i := 4) (N := some 33) (v := ?_) (a' := ?_) #[true, true, false, false, true, true, false, false, false, false] rfl rfl (by kernel_rfl) (fun _ _ _ h => h) (Or.inl ⟨by rfl, ?_⟩) hS0 ?_ ?_
      rotate_left
      · intro w' hs'; have hs1 := blk_cell (hs' _ _ hb3lt B3.out) 0; have hs2 := blk_cell (hs' _ _ hb4lt B4.out) 0; simp at hs1 hs2
        go_simp
        with_reducible rfl
      rotate_left
      · simp only [Act.put, List.setIfInBounds_toArray, List.set_cons_zero, List.set_cons_succ]
        rfl
      refine join_ (σ := Nat × Nat × Value) 3 #[true, true, true, true, true, true, true, false, false, false] (fun s => [(31, .slice (some ⟨s.1, 0, none⟩) 1 1), (32, s.2.2), (35, .slice (some ⟨s.2.1, 0, none⟩) 1 1)]) (fun s W' => CR w B W2 s.2.2 (.slice Au ys.length cu) (xs ++ [x.2]) ys W' ∧ One W' s.2.1 3 (.int .i64 x.1)) ?hcont ?horders
      case hcont =>
        rintro ⟨g1, g2, v1⟩ W5 ⟨hcr5, hg2⟩
        have HCR5 := Lib.hid hcr5
        obtain ⟨A1, c1, e1⟩ := Kd.R_slice hcr5.o1
        dsimp only at e1
        subst e1
        clear hcr5
        dsimp only
        refine norm_ (a' := ?_) ?_ ?_
        rotate_left
        · simp only [putAll, Act.put, List.setIfInBounds_toArray, List.set_cons_zero, List.set_cons_succ]
          rfl
        refine one_ (i := 7) (N := some 36) #[true, true, true, true, true, true, true, true, false, false] rfl rfl (by kernel_rfl) (by decide) (fun K hK => ?_)
        refine Kd.R_append_rows_step (Kd.int .i64) (w0 := W5) B (by rfl) (.tmp 33) (.tmp 35) 55 3 (.int .i64 0) 8 rfl Try.underlying55 info_int rfl (by decide) (by omega) (.slice Au ys.length cu) ys [x.1] (some ⟨g2, 0, none⟩) 1 1 (fun _ => True) (fun _ => False) rfl rfl HCR5.out.o2 (one_C hg2) (fun _ _ h => h) (fun _ h => h.elim) (fun _ _ => trivial) (Below.refl _ _) HCR5.out.sz (by have := YL.out; omega) ?_
        intro u' W6 r6 hb6 hg6 _
        have hcr6 := HCR5.out.grow2 hwB r6 hb6 hg6
        obtain ⟨A2, c2, e2⟩ := Kd.R_slice hcr6.o2
        subst e2
        have HCR6 := Lib.hid hcr6
        have hS6 := hcr6.old
        clear r6 hb6 hg6 hcr6 hg2 HCR5
        refine hK.out _ _ hS6 (fun _ => ?_)
        clear hK K
        refine norm_ (a' := ?_) ?_ ?_
        rotate_left
        · show Act.put _ (some 36) _ = _
          simp only [Act.put, List.setIfInBounds_toArray, List.set_cons_zero, List.set_cons_succ]
          rfl
        have hB3 : One W6 (w.heap.size + 1 + 1 + 1) 22 (.slice Av xs.length cv) := hS6 _ _ hb3lt B3.out
        have hB4 : One W6 (w.heap.size + 1 + 1 + 1 + 1) 55 (.slice Au ys.length cu) := hS6 _ _ hb4lt B4.out
        refine last_ (i := 8) (N := none) #[true, true, true, true, true, true, true, true, true, false] rfl rfl (by kernel_rfl) (by decide) (fun K hK => ?_)
        have f8 := blk_frozen hB3 0
        (have ck3 : World.cell? W6 ⟨w.heap.size + 1 + 1 + 1, 0, none⟩ = some (.slice Av xs.length cv) := (by simpa using blk_cell hB3 0)); have fk3 := blk_frozen hB3 0
        refine skip_ (w1 := ?_) (by rfl) rfl ?_ ?_
        rotate_left
        · go_simp
          rfl
        refine hK.out _ _ ?_
        clear hK K
        have f9 := blk_frozen hB4 0
        (have ck4 : World.cell? W6 ⟨w.heap.size + 1 + 1 + 1 + 1, 0, none⟩ = some (.slice Au ys.length cu) := (by simpa using blk_cell hB4 0)); have fk4 := blk_frozen hB4 0
        refine last_ (i := 9) (N := none) #[true, true, true, true, true, true, true, true, true, true] rfl rfl (by kernel_rfl) (by decide) (fun K hK => ?_)
        refine skip_ (w1 := ?_) (by rfl) rfl ?_ ?_
        rotate_left
        · go_simp
          rfl
        refine hK.out _ _ ?_
        clear hK K
        refine done_ (by kernel_rfl) ?_
        have hj := HJ.out
        have hB := HB.out
        subst hB
        have fin : ∀ (j : Nat) (o : Obj), j < w.heap.size + 1 + 1 + 1 + 1 + 1 + 1 + 1 + 1 → j ≠ w.heap.size + 1 + 1 + 1 → j ≠ w.heap.size + 1 + 1 + 1 + 1 → W.heap[j]? = some o → (((W6.setCell ⟨w.heap.size + 1 + 1 + 1, 0, none⟩ (.slice A1 (xs.length + 1) c1)).setCell ⟨w.heap.size + 1 + 1 + 1 + 1, 0, none⟩ (.slice A2 (ys.length + 1) c2)).putObj (w.heap.size + 1 + 1 + 1 + 1 + 1 + 1 + 1 + 1) (.loop (rec .ready))).heap[j]? = some o := fun j o h1 h3 h4 ho =>
          blk_putObj (obj_set (obj_set (hS6 _ _ (by omega) (by rw [← HW2.out]; exact blk_putObj ho (by omega))) h3) h4) (by omega)
        have hL7 : ((W6.setCell ⟨w.heap.size + 1 + 1 + 1, 0, none⟩ (.slice A1 (xs.length + 1) c1)).setCell ⟨w.heap.size + 1 + 1 + 1 + 1, 0, none⟩ (.slice A2 (ys.length + 1) c2)).heap[w.heap.size + 1 + 1 + 1 + 1 + 1 + 1 + 1 + 1]? = some (.loop (rec .busy)) := obj_set (obj_set (hS6 _ _ (by omega) HL2.out) (by omega)) (by omega)
        have r1 := HCR6.out.o1
        have r2 := HCR6.out.o2
        rw [show (xs ++ [x.2]).length = xs.length + 1 from by simp] at r1
        rw [show (ys ++ [x.1]).length = ys.length + 1 from by simp] at r2
        refine ⟨rfl, hL7, ⟨⟨_, blk_putObj (obj_set (blk_put hB3 0 _ rfl) (by omega)) (by omega), ?_⟩, ⟨_, blk_putObj (blk_put (obj_set hB4 (by omega)) 0 _ rfl) (by omega), ?_⟩, fin _ _ (by omega) (by omega) (by omega) hj.he, fin _ _ (by omega) (by omega) (by omega) hj.ha, fin _ _ (by omega) (by omega) (by omega) hj.hg, fin _ _ (by omega) (by omega) (by omega) hj.hx, fin _ _ (by omega) (by omega) (by omega) hj.hb, fin _ _ (by omega) (by omega) (by omega) hj.hD, World.putObj_heap_same (by have := blk_lt hL7; exact this), ?_⟩, ?_⟩
        · rw [List.map_append, ← HXS.out]
          exact OwnI.putObj (OwnI.set (OwnI.set r1 (by dsimp only; omega)) (by dsimp only; omega)) (by omega)
        · rw [List.map_append, ← HYS.out]
          exact OwnI.putObj (OwnI.set (OwnI.set r2 (by dsimp only; omega)) (by dsimp only; omega)) (by omega)
        · exact below_putObj (below_set (below_set HCR6.out.bel (by omega)) (by omega)) (by omega)
        · refine KeepsT.trans (B := W2) (by rw [← HW2.out]; exact KeepsT.putObj _ hj.hL rfl) (KeepsT.trans HCR6.out.kt (KeepsT.trans (KeepsT.setCell hB3 (by decide)) (KeepsT.trans (KeepsT.setCell (obj_set hB4 (by omega)) (by decide)) (KeepsT.putObj _ hL7 rfl))))
      case horders =>
        intro hcont
        have HCT := Lib.hid hcont
        clear hcont
        refine two_ (i := 2) (j := 6) (Ni := some 31) (Nj := some 35) #[true, true, true, false, true, true, false, false, false, false] #[true, true, false, false, true, true, true, false, false, false] rfl rfl rfl rfl (by kernel_rfl) (by decide) (by decide) (fun K hK => ?_) (fun K hK => ?_)
        · refine value_ (v := .slice (some ⟨Wd.heap.size, 0, none⟩) 1 1) (w1 := Wd.alloc (Obj.cells #[.int .u32 x.2] 43)) (by rfl) rfl ?_ ?_
          · go_simp
            all_goals rfl
          have HCRW3 := Lib.hid (HCR.out.alloc (Obj.cells #[.int .u32 x.2] 43))
          have NBW3 : Hid (One (Wd.alloc (Obj.cells #[.int .u32 x.2] 43)) Wd.heap.size 43 (.int .u32 x.2)) := Lib.hid (blk_new _ _)
          refine hK.out _ _ HCRW3.out.old (fun _ => ?_)
          clear hK K
          generalize hqW3 : Wd.alloc (Obj.cells #[.int .u32 x.2] 43) = W3 at HCRW3 NBW3 ⊢
          refine norm_ (a' := ?_) ?_ ?_
          rotate_left
          · show Act.put _ (some 31) _ = _
            simp only [Act.put, List.setIfInBounds_toArray, List.set_cons_zero, List.set_cons_succ]
            rfl
          refine two_ (i := 3) (j := 6) (Ni := some 32) (Nj := some 35) #[true, true, true, true, true, true, false, false, false, false] #[true, true, true, false, true, true, true, false, false, false] rfl rfl rfl rfl (by kernel_rfl) (by decide) (by decide) (fun K hK => ?_) (fun K hK => ?_)
          · refine Kd.R_append_rows_step (Kd.int .u32) (w0 := W3) B (by rfl) (.tmp 29) (.tmp 31) 22 43 (.int .u32 0) 4 rfl Try.underlying22 info_u32 rfl (by decide) (by omega) (.slice Av xs.length cv) xs [x.2] (some ⟨Wd.heap.size, 0, none⟩) 1 1 (fun _ => True) (fun _ => False) rfl rfl HCRW3.out.o1 (one_C NBW3.out) (fun _ _ h => h) (fun _ h => h.elim) (fun _ _ => trivial) (Below.refl _ _) HCRW3.out.sz (by have := XL.out; omega) ?_
            intro v1 W4 r hb hg _
            have hcr := HCRW3.out.grow1 hwB r hb hg
            have HCRW4 := Lib.hid hcr.1
            have KT := Lib.hid hcr.2
            clear r hb hg hcr
            refine hK.out _ _ HCRW4.out.old (fun _ => ?_)
            clear hK K
            refine norm_ (a' := ?_) ?_ ?_
            rotate_left
            · show Act.put _ (some 32) _ = _
              simp only [Act.put, List.setIfInBounds_toArray, List.set_cons_zero, List.set_cons_succ]
              rfl
            refine one_ (i := 6) (N := some 35) #[true, true, true, true, true, true, true, false, false, false] rfl rfl (by kernel_rfl) (by decide) (fun K hK => ?_)
            refine value_ (v := .slice (some ⟨W4.heap.size, 0, none⟩) 1 1) (w1 := W4.alloc (Obj.cells #[.int .i64 x.1] 3)) (by rfl) rfl ?_ ?_
            · go_simp
              all_goals rfl
            have HCRW5 := Lib.hid (HCRW4.out.alloc (Obj.cells #[.int .i64 x.1] 3))
            have NBW5 : Hid (One (W4.alloc (Obj.cells #[.int .i64 x.1] 3)) W4.heap.size 3 (.int .i64 x.1)) := Lib.hid (blk_new _ _)
            refine hK.out _ _ HCRW5.out.old (fun _ => ?_)
            clear hK K
            refine norm_ ?_ (HCT.out (Wd.heap.size, W4.heap.size, v1) _ ⟨HCRW5.out, NBW5.out⟩)
            simp only [putAll, Act.put, List.setIfInBounds_toArray, List.set_cons_zero, List.set_cons_succ]
          · refine value_ (v := .slice (some ⟨W3.heap.size, 0, none⟩) 1 1) (w1 := W3.alloc (Obj.cells #[.int .i64 x.1] 3)) (by rfl) rfl ?_ ?_
            · go_simp
              all_goals rfl
            have HCRW4 := Lib.hid (HCRW3.out.alloc (Obj.cells #[.int .i64 x.1] 3))
            have NBW4 : Hid (One (W3.alloc (Obj.cells #[.int .i64 x.1] 3)) W3.heap.size 3 (.int .i64 x.1)) := Lib.hid (blk_new _ _)
            refine hK.out _ _ HCRW4.out.old (fun _ => ?_)
            clear hK K
            have NB3 := Lib.hid (blk_alloc NBW3.out (Obj.cells #[.int .i64 x.1] 3))
            generalize hqW4 : W3.alloc (Obj.cells #[.int .i64 x.1] 3) = W4 at HCRW4 NBW4 NB3 ⊢
            refine norm_ (a' := ?_) ?_ ?_
            rotate_left
            · show Act.put _ (some 35) _ = _
              simp only [Act.put, List.setIfInBounds_toArray, List.set_cons_zero, List.set_cons_succ]
              rfl
            refine one_ (i := 3) (N := some 32) #[true, true, true, true, true, true, true, false, false, false] rfl rfl (by kernel_rfl) (by decide) (fun K hK => ?_)
            refine Kd.R_append_rows_step (Kd.int .u32) (w0 := W4) B (by rfl) (.tmp 29) (.tmp 31) 22 43 (.int .u32 0) 4 rfl Try.underlying22 info_u32 rfl (by decide) (by omega) (.slice Av xs.length cv) xs [x.2] (some ⟨Wd.heap.size, 0, none⟩) 1 1 (fun _ => True) (fun _ => False) rfl rfl HCRW4.out.o1 (one_C NB3.out) (fun _ _ h => h) (fun _ h => h.elim) (fun _ _ => trivial) (Below.refl _ _) HCRW4.out.sz (by have := XL.out; omega) ?_
            intro v1 W5 r hb hg _
            have hcr := HCRW4.out.grow1 hwB r hb hg
            have HCRW5 := Lib.hid hcr.1
            have KT := Lib.hid hcr.2
            clear r hb hg hcr
            refine hK.out _ _ HCRW5.out.old (fun _ => ?_)
            clear hK K
            refine norm_ (a' := ?_) ?_ ?_
            rotate_left
            · show Act.put _ (some 32) _ = _
              simp only [Act.put, List.setIfInBounds_toArray, List.set_cons_zero, List.set_cons_succ]
              rfl
            refine norm_ ?_ (HCT.out (Wd.heap.size, W3.heap.size, v1) _ ⟨HCRW5.out, KT.out _ _ NBW4.out⟩)
            simp only [putAll, Act.put, List.setIfInBounds_toArray, List.set_cons_zero, List.set_cons_succ]
        · refine value_ (v := .slice (some ⟨Wd.heap.size, 0, none⟩) 1 1) (w1 := Wd.alloc (Obj.cells #[.int .i64 x.1] 3)) (by rfl) rfl ?_ ?_
          · go_simp
            all_goals rfl
          have HCRW3 := Lib.hid (HCR.out.alloc (Obj.cells #[.int .i64 x.1] 3))
          have NBW3 : Hid (One (Wd.alloc (Obj.cells #[.int .i64 x.1] 3)) Wd.heap.size 3 (.int .i64 x.1)) := Lib.hid (blk_new _ _)
          refine hK.out _ _ HCRW3.out.old (fun _ => ?_)
          clear hK K
          generalize hqW3 : Wd.alloc (Obj.cells #[.int .i64 x.1] 3) = W3 at HCRW3 NBW3 ⊢
          refine norm_ (a' := ?_) ?_ ?_
          rotate_left
          · show Act.put _ (some 35) _ = _
            simp only [Act.put, List.setIfInBounds_toArray, List.set_cons_zero, List.set_cons_succ]
            rfl
          refine one_ (i := 2) (N := some 31) #[true, true, true, false, true, true, true, false, false, false] rfl rfl (by kernel_rfl) (by decide) (fun K hK => ?_)
          refine value_ (v := .slice (some ⟨W3.heap.size, 0, none⟩) 1 1) (w1 := W3.alloc (Obj.cells #[.int .u32 x.2] 43)) (by rfl) rfl ?_ ?_
          · go_simp
            all_goals rfl
          have HCRW4 := Lib.hid (HCRW3.out.alloc (Obj.cells #[.int .u32 x.2] 43))
          have NBW4 : Hid (One (W3.alloc (Obj.cells #[.int .u32 x.2] 43)) W3.heap.size 43 (.int .u32 x.2)) := Lib.hid (blk_new _ _)
          refine hK.out _ _ HCRW4.out.old (fun _ => ?_)
          clear hK K
          have NB3 := Lib.hid (blk_alloc NBW3.out (Obj.cells #[.int .u32 x.2] 43))
          generalize hqW4 : W3.alloc (Obj.cells #[.int .u32 x.2] 43) = W4 at HCRW4 NBW4 NB3 ⊢
          refine norm_ (a' := ?_) ?_ ?_
          rotate_left
          · show Act.put _ (some 31) _ = _
            simp only [Act.put, List.setIfInBounds_toArray, List.set_cons_zero, List.set_cons_succ]
            rfl
          refine one_ (i := 3) (N := some 32) #[true, true, true, true, true, true, true, false, false, false] rfl rfl (by kernel_rfl) (by decide) (fun K hK => ?_)
          refine Kd.R_append_rows_step (Kd.int .u32) (w0 := W4) B (by rfl) (.tmp 29) (.tmp 31) 22 43 (.int .u32 0) 4 rfl Try.underlying22 info_u32 rfl (by decide) (by omega) (.slice Av xs.length cv) xs [x.2] (some ⟨W3.heap.size, 0, none⟩) 1 1 (fun _ => True) (fun _ => False) rfl rfl HCRW4.out.o1 (one_C NBW4.out) (fun _ _ h => h) (fun _ h => h.elim) (fun _ _ => trivial) (Below.refl _ _) HCRW4.out.sz (by have := XL.out; omega) ?_
          intro v1 W5 r hb hg _
          have hcr := HCRW4.out.grow1 hwB r hb hg
          have HCRW5 := Lib.hid hcr.1
          have KT := Lib.hid hcr.2
          clear r hb hg hcr
          refine hK.out _ _ HCRW5.out.old (fun _ => ?_)
          clear hK K
          refine norm_ (a' := ?_) ?_ ?_
          rotate_left
          · show Act.put _ (some 32) _ = _
            simp only [Act.put, List.setIfInBounds_toArray, List.set_cons_zero, List.set_cons_succ]
            rfl
          refine norm_ ?_ (HCT.out (W3.heap.size, Wd.heap.size, v1) _ ⟨HCRW5.out, KT.out _ _ NB3.out⟩)
          simp only [putAll, Act.put, List.setIfInBounds_toArray, List.set_cons_zero, List.set_cons_succ]
  rintro e w3 ⟨hj, (⟨hn0, rfl⟩ | ⟨a, ha, rfl⟩)⟩
  · refine .inl ⟨_, rfl, hj.hL, ?_⟩
    obtain ⟨v, hb3, hv⟩ := hj.b3
    obtain ⟨u, hb4, hu⟩ := hj.b4
    have HJ := Lib.hid hj
    have HN := Lib.hid hn0
    have hz3 := hj.bel.size
    have hLl := blk_lt hj.hL
    obtain ⟨W4, hW4⟩ : ∃ W4, w3.putObj (w.heap.size + 1 + 1 + 1 + 1 + 1 + 1 + 1 + 1) (.loop (rec .exhausted)) = W4 := ⟨_, rfl⟩
    have he4 : One W4 (w.heap.size) 25 (.int .i64 0) := by rw [← hW4]; exact blk_putObj hj.he (by omega)
    have ha4 : One W4 (w.heap.size + 1) 3 (.int .i64 0) := by rw [← hW4]; exact blk_putObj hj.ha (by omega)
    have hg4 : One W4 (w.heap.size + 1 + 1) 55 (.slice none 0 0) := by rw [← hW4]; exact blk_putObj hj.hg (by omega)
    have hb34 : One W4 (w.heap.size + 1 + 1 + 1) 22 v := by rw [← hW4]; exact blk_putObj hb3 (by omega)
    have hb44 : One W4 (w.heap.size + 1 + 1 + 1 + 1) 55 u := by rw [← hW4]; exact blk_putObj hb4 (by omega)
    have hD4 : W4.heap[w.heap.size + 1 + 1 + 1 + 1 + 1 + 1 + 1]? = some (.deferred (some [])) := by rw [← hW4]; exact blk_putObj hj.hD (by omega)
    have hv4 : OwnI .u32 43 (w.heap.size + 1 + 1 + 1 + 1 + 1 + 1 + 1 + 1 + 1) W4 v ((decodeLoop fr l.length 0 0 l).1.map (·.2)) := by rw [← hW4]; exact OwnI.putObj hv (by omega)
    have hu4 : OwnI .i64 3 (w.heap.size + 1 + 1 + 1 + 1 + 1 + 1 + 1 + 1 + 1) W4 u ((decodeLoop fr l.length 0 0 l).1.map (·.1)) := by rw [← hW4]; exact OwnI.putObj hu (by omega)
    have hbl4 : Below w.heap.size w W4 := by rw [← hW4]; exact below_putObj hj.bel (by omega)
    have hz4 : w.heap.size + 1 + 1 + 1 + 1 + 1 + 1 + 1 + 1 < W4.heap.size := by rw [← hW4]; simpa using hLl
    rw [hW4]
    clear h0 hW0 hrec hj hn0 hb3 hb4 hv hu hW4 hs0
    obtain ⟨xs, hxs⟩ : ∃ xs, xs = (decodeLoop fr l.length 0 0 l).1.map (·.2) := ⟨_, rfl⟩
    obtain ⟨ys, hys⟩ : ∃ ys, ys = (decodeLoop fr l.length 0 0 l).1.map (·.1) := ⟨_, rfl⟩
    have hxu : U32s xs := by
      have h1 := decode_u32 H.out hx.mem
      unfold decodeC at h1
      rw [if_neg (by simpa using H.out), if_neg (by omega)] at h1
      simp only [HN.out] at h1
      rw [hxs]; exact h1
    have hxy : xs.length = ys.length := by rw [hxs, hys, List.length_map, List.length_map]
    have hxn : xs.length ≤ 20000 := by
      rw [hxs, List.length_map]
      exact Nat.le_trans (decodeLoop_len fr _ _ _ _) hn
    have hE : convertC fr tt l = if (encodedC tt xs).2.1 = 15 then ([], 15, ys.getD (encodedC tt xs).2.2.toNat 0) else encodedC tt xs := by
      unfold convertC
      rw [if_neg (by simpa using H.out), if_neg (by simpa using H2.out), if_neg (by omega)]
      simp only [HN.out, ← hxs, ← hys]
    rw [← hxs] at hv4
    rw [← hys] at hu4
    obtain ⟨Av, cv, rfl⟩ := Kd.R_slice hv4
    obtain ⟨Au, cu, rfl⟩ := Kd.R_slice hu4
    have HE := Lib.hid hE
    have HV4 := Lib.hid hv4
    have HU4 := Lib.hid hu4
    have HB4 := Lib.hid hbl4
    have HXY := Lib.hid hxy
    have HXN := Lib.hid hxn
    have HXU := Lib.hid hxu
    have HG4 := Lib.hid hg4
    clear hxs hys hv4 hu4 hbl4 hE hxy hxn hxu
    (have cb4 : World.cell? W4 ⟨w.heap.size + 1 + 1 + 1, 0, none⟩ = some (.slice Av xs.length cv) := (by simpa using blk_cell hb34 0)); have fb4 := blk_frozen hb34 0
    (have co4 : World.cell? W4 ⟨w.heap.size + 1 + 1 + 1 + 1, 0, none⟩ = some (.slice Au ys.length cu) := (by simpa using blk_cell hb44 0)); have fo4 := blk_frozen hb44 0
    (have ce4 : World.cell? W4 ⟨w.heap.size, 0, none⟩ = some (.int .i64 0) := (by simpa using blk_cell he4 0)); have fe4 := blk_frozen he4 0
    (have ca4 : World.cell? W4 ⟨w.heap.size + 1, 0, none⟩ = some (.int .i64 0) := (by simpa using blk_cell ha4 0)); have fa4 := blk_frozen ha4 0
    (have cg4 : World.cell? W4 ⟨w.heap.size + 1 + 1, 0, none⟩ = some (.slice none 0 0) := (by simpa using blk_cell hg4 0)); have fg4 := blk_frozen hg4 0
    by_cases h0 : (encodedC tt xs).2.1 = 0
    · have H0 := Lib.hid h0
      clear h0
      have hC4 : Kd.C (Kd.int .u32) (W4.setCell ⟨w.heap.size + 1 + 1, 0, none⟩ (.slice Au ys.length cu)) Av xs.length xs := (Kd.R_reads' (OwnI.set HV4.out (by dsimp only; omega))).2.2
      have HC4 := Lib.hid hC4
      clear hC4
      go_wp2_with (go_at_call 39; (with_reducible refine (encoded_ok _ H2.out _ _ _ xs _ HXN.out HC4.out HXU.out H0.out).mono ?_); rintro e w5 ⟨v5, rfl, hv5, hb5⟩; have hz5 := below_size hb5; simp at hz5; have HV5 := Lib.hid hv5; have HB5 := Lib.hid hb5; have he5 : One w5 (w.heap.size) 25 (.int .i64 0) := blk_below (obj_set he4 (by omega)) hb5; have ha5 : One w5 (w.heap.size + 1) 3 (.int .i64 0) := blk_below (obj_set ha4 (by omega)) hb5; clear hv5 hb5; ((have ce5 : World.cell? w5 ⟨w.heap.size, 0, none⟩ = some (.int .i64 0) := (by simpa using blk_cell he5 0)); have fe5 := blk_frozen he5 0); ((have ca5 : World.cell? w5 ⟨w.heap.size + 1, 0, none⟩ = some (.int .i64 0) := (by simpa using blk_cell ha5 0)); have fa5 := blk_frozen ha5 0))
      have he6 : One ((w5.setCell ⟨w.heap.size, 0, none⟩ (.int .i64 0)).setCell ⟨w.heap.size + 1, 0, none⟩ (.int .i64 0)) (w.heap.size) 25 (.int .i64 0) := obj_set (blk_put he5 0 _ rfl) (by omega)
      have ha6 : One ((w5.setCell ⟨w.heap.size, 0, none⟩ (.int .i64 0)).setCell ⟨w.heap.size + 1, 0, none⟩ (.int .i64 0)) (w.heap.size + 1) 3 (.int .i64 0) := blk_put (obj_set ha5 (by omega)) 0 _ rfl
      have hd6 : ((w5.setCell ⟨w.heap.size, 0, none⟩ (.int .i64 0)).setCell ⟨w.heap.size + 1, 0, none⟩ (.int .i64 0)).heap[w.heap.size + 1 + 1 + 1 + 1 + 1 + 1 + 1]? = some (.deferred (some [])) := obj_set (obj_set (blk_below (obj_set hD4 (by omega)) HB5.out) (by omega)) (by omega)
      have hv6 := OwnI.set (p := ⟨w.heap.size + 1, 0, none⟩) (u := .int .i64 0) (OwnI.set (p := ⟨w.heap.size, 0, none⟩) (u := .int .i64 0) HV5.out (by simp; omega)) (by simp; omega)
      have hbl6 : Below w.heap.size w ((w5.setCell ⟨w.heap.size, 0, none⟩ (.int .i64 0)).setCell ⟨w.heap.size + 1, 0, none⟩ (.int .i64 0)) := below_set (below_set (below_step (below_set HB4.out (by omega)) HB5.out) (by omega)) (by omega)
      generalize ((w5.setCell ⟨w.heap.size, 0, none⟩ (.int .i64 0)).setCell ⟨w.heap.size + 1, 0, none⟩ (.int .i64 0)) = W6 at he6 ha6 hd6 hv6 hbl6 ⊢
      refine leavesM_mark (by simp) (run_takeDeferred hd6) ?_
      refine leavesM_cons (f := 36) (args := #[.pointer (some ⟨w.heap.size, 0, none⟩), .pointer (some ⟨w.heap.size + 1, 0, none⟩)]) (by simp [settle]) (by simp [go_sem]) ?_
      refine (caught_idle _ _ _).mono ?_
      rintro e u' w'' ⟨rfl, rfl, rfl⟩
      refine leavesM_cons (f := 48) (args := #[.pointer (some ⟨w.heap.size, 0, none⟩), .pointer (some ⟨w.heap.size + 1 + 1, 0, none⟩), .pointer (some ⟨w.heap.size + 1, 0, none⟩)]) (by simp [settle]) (by simp [go_sem]) ?_
      refine (conv_idle _ _ _ _ _ 0 (by decide) (blk_putObj he6 (by omega))).mono ?_
      rintro e u' w'' ⟨rfl, rfl, rfl⟩
      have hE0 : convertC fr tt l = encodedC tt xs := by rw [HE.out, if_neg (by rw [H0.out]; decide)]
      exact ⟨.tuple #[v5, .int .i64 0, .int .i64 0], rresults (rs := [.tmp 6, .cell 7 25, .cell 8 3]) rfl (by simp) (.tmp (by rfl) (.cell (w.heap.size) rfl (load_one (t := 25) ⟨_, blk_putObj he6 (by omega), rfl⟩ (by kernel_rfl)) (.cell (w.heap.size + 1) rfl (load_one (t := 3) ⟨_, blk_putObj ha6 (by omega), rfl⟩ (by kernel_rfl)) .nil))), v5, by rw [hE0, H0.out, encodedC_ok_at H0.out], by rw [hE0]; exact OwnI.lower (OwnI.putObj hv6 (by simp; omega)) (by simp; omega), below_putObj hbl6 (by omega)⟩
    · have H0 := Lib.hid h0
      clear h0
      have hC4 : Kd.C (Kd.int .u32) (W4.setCell ⟨w.heap.size + 1 + 1, 0, none⟩ (.slice Au ys.length cu)) Av xs.length xs := (Kd.R_reads' (OwnI.set HV4.out (by dsimp only; omega))).2.2
      have HC4 := Lib.hid hC4
      clear hC4
      go_wp2_with (go_at_call 39; (with_reducible refine (encoded_bad _ H2.out _ _ _ xs _ HXN.out HC4.out HXU.out H0.out).mono ?_); rintro e w5 ⟨rfl, hb5⟩; have HB5 := Lib.hid hb5; clear hb5)
      have hb5 := HB5.out
      have he5 : One w5 (w.heap.size) 25 (.int .i64 0) := blk_below (obj_set he4 (by omega)) hb5
      have ha5 : One w5 (w.heap.size + 1) 3 (.int .i64 0) := blk_below (obj_set ha4 (by omega)) hb5
      have hg5 : One w5 (w.heap.size + 1 + 1) 55 (.slice Au ys.length cu) := blk_below (blk_put HG4.out 0 _ rfl) hb5
      have hd5 : w5.heap[w.heap.size + 1 + 1 + 1 + 1 + 1 + 1 + 1]? = some (.deferred (some [])) := blk_below (obj_set hD4 (by omega)) hb5
      have hu5 : OwnI .i64 3 (w.heap.size + 1 + 1 + 1 + 1 + 1 + 1 + 1 + 1 + 1) w5 (.slice Au ys.length cu) ys := OwnI.below (OwnI.set HU4.out (by dsimp only; omega)) hb5
      have hbl5 : Below w.heap.size w w5 := below_step (below_set HB4.out (by omega)) hb5
      refine leavesM_mark (by simp) (run_takeDeferred hd5) ?_
      refine leavesM_cons (f := 36) (args := #[.pointer (some ⟨w.heap.size, 0, none⟩), .pointer (some ⟨w.heap.size + 1, 0, none⟩)]) (by simp [settle]) (by simp [go_sem]) ?_
      refine (caught_panic (w.heap.size) (w.heap.size + 1) (encodedC tt xs).2.1 (encodedC tt xs).2.2 0 0 [] _ (blk_putObj he5 (by omega)) (blk_putObj ha5 (by omega)) (by omega)).mono ?_
      rintro e u' w'' ⟨rfl, rfl, hch, hp, hq⟩
      refine leavesM_cons (f := 48) (args := #[.pointer (some ⟨w.heap.size, 0, none⟩), .pointer (some ⟨w.heap.size + 1 + 1, 0, none⟩), .pointer (some ⟨w.heap.size + 1, 0, none⟩)]) (by simp [settle]) (by simp [go_sem]) ?_
      by_cases h15 : (encodedC tt xs).2.1 = 15
      · obtain ⟨k, hk, hkl⟩ := encodedC_at h15
        have hE0 : convertC fr tt l = ([], 15, ys.getD k 0) := by rw [HE.out, if_pos h15, hk]; rfl
        have hyl : k < ys.length := by have := HXY.out; omega
        have hyn : ys.length ≤ 20000 := by have := HXY.out; have := HXN.out; omega
        have hu6 := OwnI.chg (OwnI.putObj (L := w.heap.size + 1 + 1 + 1 + 1 + 1 + 1 + 1) (o := .deferred none) hu5 (by omega)) hch (fun j hj => by omega)
        obtain ⟨b, off, hA, hlt, hcs⟩ := open_C (Kd.R_reads' hu6).2.2 (by omega)
        subst hA
        rw [h15] at hp
        rw [hk] at hq
        refine (conv_set _ _ _ _ _ b off ys.length cu k (ys.getD k 0) hp (blk_chg (blk_putObj hg5 (by omega)) hch (by omega)) hq hyl hyn (hcs k hyl)).mono ?_
        rintro e u' w8 ⟨rfl, rfl, hch8, q1⟩
        exact ⟨.tuple #[.slice none 0 0, .int .i64 15, .int .i64 (ys.getD k 0)], rresults (rs := [.tmp 6, .cell 7 25, .cell 8 3]) rfl (by simp) (.tmp (by rfl) (.cell (w.heap.size) rfl (load_one (t := 25) ⟨_, blk_chg hp hch8 (by omega), rfl⟩ (by kernel_rfl)) (.cell (w.heap.size + 1) rfl (load_one (t := 3) q1 (by kernel_rfl)) .nil))), _, by rw [hE0], by rw [hE0]; exact Kd.R_nil _ _ _ _ _, below_chg (below_chg (below_putObj hbl5 (by omega)) hch (by omega)) hch8 (by omega)⟩
      · have hE0 : convertC fr tt l = encodedC tt xs := by rw [HE.out, if_neg h15]
        refine (conv_idle _ _ _ _ _ _ h15 hp).mono ?_
        rintro e u' w8 ⟨rfl, rfl, rfl⟩
        exact ⟨.tuple #[.slice none 0 0, .int .i64 (encodedC tt xs).2.1, .int .i64 (encodedC tt xs).2.2], rresults (rs := [.tmp 6, .cell 7 25, .cell 8 3]) rfl (by simp) (.tmp (by rfl) (.cell (w.heap.size) rfl (load_one (t := 25) ⟨_, hp, rfl⟩ (by kernel_rfl)) (.cell (w.heap.size + 1) rfl (load_one (t := 3) ⟨_, hq, rfl⟩ (by kernel_rfl)) .nil))), _, by rw [hE0], by rw [hE0, encodedC_bad_nil H0.out]; exact Kd.R_nil _ _ _ _ _, below_chg (below_putObj hbl5 (by omega)) hch (by omega)⟩
  · refine .inr ⟨_, rfl, ?_⟩
    refine leavesM_mark (by simp) (run_takeDeferred hj.hD) ?_
    refine leavesM_cons (f := 36) (args := #[.pointer (some ⟨w.heap.size, 0, none⟩), .pointer (some ⟨w.heap.size + 1, 0, none⟩)]) (by simp [settle]) (by simp [go_sem]) ?_
    refine (caught_panic (w.heap.size) (w.heap.size + 1) 15 a 0 0 [] _ (blk_putObj hj.he (by omega)) (blk_putObj hj.ha (by omega)) (by omega)).mono ?_
    rintro e u' w'' ⟨rfl, rfl, hch, hp, hq⟩
    refine leavesM_cons (f := 48) (args := #[.pointer (some ⟨w.heap.size, 0, none⟩), .pointer (some ⟨w.heap.size + 1 + 1, 0, none⟩), .pointer (some ⟨w.heap.size + 1, 0, none⟩)]) (by simp [settle]) (by simp [go_sem]) ?_
    refine (conv_nil _ _ _ _ _ hp (blk_chg (blk_putObj hj.hg (by omega)) hch (by omega))).mono ?_
    rintro e u' w4 ⟨rfl, rfl, rfl⟩
    have hE : convertC fr tt l = ([], 15, a) := by
      unfold convertC
      rw [if_neg (by simpa using H.out), if_neg (by simpa using H2.out), if_neg (by omega)]
      simp only [ha]
    exact ⟨.tuple #[.slice none 0 0, .int .i64 15, .int .i64 a], rresults (rs := [.tmp 6, .cell 7 25, .cell 8 3]) rfl (by simp) (.tmp (by rfl) (.cell (w.heap.size) rfl (load_one (t := 25) ⟨_, hp, rfl⟩ (by kernel_rfl)) (.cell (w.heap.size + 1) rfl (load_one (t := 3) ⟨_, hq, rfl⟩ (by kernel_rfl)) .nil))), _, by rw [hE], by rw [hE]; exact Kd.R_nil _ _ _ _ _, below_chg (below_putObj hj.bel (by omega)) hch (by omega)⟩

set_option maxHeartbeats 4000000 in
theorem Convert_any (fr tt : Int) (A : Option Addr) (n c : Nat) (l : List Int) (w : World) (hnc : n ≤ c) (hC : Kd.C (Kd.int .u8) w A n l) (hx : Byt l) :
    Calls Try.prog 27 #[.int .i64 fr, .int .i64 tt, .slice A n c] w (ConvPost fr tt l w) := by
  have hl : l.length = n := hC.1
  by_cases h : encOk fr
  · by_cases h2 : encOk tt
    · by_cases hn : n ≤ 20000
      · exact conv_1 fr tt h h2 A n c l w hn hnc hC hx
      · have HE : Hid (convertC fr tt l = ([], 2, 0)) := Lib.hid (by unfold convertC; rw [if_neg (by simpa using h), if_neg (by simpa using h2), if_pos (by omega)])
        have H := Lib.hid h
        have H2 := Lib.hid h2
        have hn2 : 20000 < (n : Int) := by omega
        clear h h2 hl hC hx hn
        go_enter_defers Try.func27, Try.ntmps27
        go_wp2_with (first | (go_at_call_of 37 (Value.int IntKind.i64 fr); (with_reducible refine (of_ok _ H.out _).mono ?_); rintro e w1 ⟨rfl, rfl⟩) | (go_at_call_of 37 (Value.int IntKind.i64 tt); (with_reducible refine (of_ok _ H2.out _).mono ?_); rintro e w1 ⟨rfl, rfl⟩) | (go_at_call 38; (with_reducible refine (few_no _ hn2 _).mono ?_); rintro e w1 ⟨rfl, rfl⟩))
        refine leaves_cons (f := 36) (args := #[.pointer (some ⟨w.heap.size, 0, none⟩), .pointer (some ⟨w.heap.size + 1, 0, none⟩)]) (by simp [settle]) (by simp [go_sem]) ?_
        refine (caught_panic (w.heap.size) (w.heap.size + 1) 2 0 0 0 [] _ (BlkIs.one blk0) (BlkIs.one blk0) (by omega)).mono ?_
        rintro e u' w'' ⟨rfl, rfl, hch, hp, hq⟩
        refine leaves_cons (f := 48) (args := #[.pointer (some ⟨w.heap.size, 0, none⟩), .pointer (some ⟨w.heap.size + 1 + 1, 0, none⟩), .pointer (some ⟨w.heap.size + 1, 0, none⟩)]) (by simp [settle]) (by simp [go_sem]) ?_
        refine (conv_idle _ _ _ _ _ 2 (by decide) hp).mono ?_
        rintro e u' w4 ⟨rfl, rfl, rfl⟩
        exact ⟨.tuple #[.slice none 0 0, .int .i64 2, .int .i64 0], rresults (rs := [.tmp 6, .cell 7 25, .cell 8 3]) rfl (by simp) (.tmp (by rfl) (.cell (w.heap.size) rfl (load_one (t := 25) ⟨_, hp, rfl⟩ (by kernel_rfl)) (.cell (w.heap.size + 1) rfl (load_one (t := 3) ⟨_, hq, rfl⟩ (by kernel_rfl)) .nil))), _, by rw [HE.out], by rw [HE.out]; exact Kd.R_nil _ _ _ _ _, below_chg bel hch (by omega)⟩
    · have HE : Hid (convertC fr tt l = ([], 1, 0)) := Lib.hid (by unfold convertC; rw [if_neg (by simpa using h), if_pos h2])
      have H := Lib.hid h
      have H2 := Lib.hid h2
      have hne : ¬ fr = tt := fun hh => H2.out (hh ▸ H.out)
      clear h h2 hl hC hx
      go_enter_defers Try.func27, Try.ntmps27
      go_wp2_with (first | (go_at_call_of 37 (Value.int IntKind.i64 fr); (with_reducible refine (of_ok _ H.out _).mono ?_); rintro e w1 ⟨rfl, rfl⟩) | (go_at_call_of 37 (Value.int IntKind.i64 tt); (with_reducible refine (of_no _ H2.out _).mono ?_); rintro e w1 ⟨rfl, rfl⟩))
      refine leaves_cons (f := 36) (args := #[.pointer (some ⟨w.heap.size, 0, none⟩), .pointer (some ⟨w.heap.size + 1, 0, none⟩)]) (by simp [settle]) (by simp [go_sem]) ?_
      refine (caught_panic (w.heap.size) (w.heap.size + 1) 1 0 0 0 [] _ (BlkIs.one blk0) (BlkIs.one blk0) (by omega)).mono ?_
      rintro e u' w'' ⟨rfl, rfl, hch, hp, hq⟩
      refine leaves_cons (f := 48) (args := #[.pointer (some ⟨w.heap.size, 0, none⟩), .pointer (some ⟨w.heap.size + 1 + 1, 0, none⟩), .pointer (some ⟨w.heap.size + 1, 0, none⟩)]) (by simp [settle]) (by simp [go_sem]) ?_
      refine (conv_idle _ _ _ _ _ 1 (by decide) hp).mono ?_
      rintro e u' w4 ⟨rfl, rfl, rfl⟩
      exact ⟨.tuple #[.slice none 0 0, .int .i64 1, .int .i64 0], rresults (rs := [.tmp 6, .cell 7 25, .cell 8 3]) rfl (by simp) (.tmp (by rfl) (.cell (w.heap.size) rfl (load_one (t := 25) ⟨_, hp, rfl⟩ (by kernel_rfl)) (.cell (w.heap.size + 1) rfl (load_one (t := 3) ⟨_, hq, rfl⟩ (by kernel_rfl)) .nil))), _, by rw [HE.out], by rw [HE.out]; exact Kd.R_nil _ _ _ _ _, below_chg bel hch (by omega)⟩
  · have HE : Hid (convertC fr tt l = ([], 1, 0)) := Lib.hid (by unfold convertC; rw [if_pos h])
    have H := Lib.hid h
    clear h hl hC hx
    go_enter_defers Try.func27, Try.ntmps27
    go_wp2_with (first | (go_at_call_of 37 (Value.int IntKind.i64 fr); (with_reducible refine (of_no _ H.out _).mono ?_); rintro e w1 ⟨rfl, rfl⟩))
    refine leaves_cons (f := 36) (args := #[.pointer (some ⟨w.heap.size, 0, none⟩), .pointer (some ⟨w.heap.size + 1, 0, none⟩)]) (by simp [settle]) (by simp [go_sem]) ?_
    refine (caught_panic (w.heap.size) (w.heap.size + 1) 1 0 0 0 [] _ (BlkIs.one blk0) (BlkIs.one blk0) (by omega)).mono ?_
    rintro e u' w'' ⟨rfl, rfl, hch, hp, hq⟩
    refine leaves_cons (f := 48) (args := #[.pointer (some ⟨w.heap.size, 0, none⟩), .pointer (some ⟨w.heap.size + 1 + 1, 0, none⟩), .pointer (some ⟨w.heap.size + 1, 0, none⟩)]) (by simp [settle]) (by simp [go_sem]) ?_
    refine (conv_idle _ _ _ _ _ 1 (by decide) hp).mono ?_
    rintro e u' w4 ⟨rfl, rfl, rfl⟩
    exact ⟨.tuple #[.slice none 0 0, .int .i64 1, .int .i64 0], rresults (rs := [.tmp 6, .cell 7 25, .cell 8 3]) rfl (by simp) (.tmp (by rfl) (.cell (w.heap.size) rfl (load_one (t := 25) ⟨_, hp, rfl⟩ (by kernel_rfl)) (.cell (w.heap.size + 1) rfl (load_one (t := 3) ⟨_, hq, rfl⟩ (by kernel_rfl)) .nil))), _, by rw [HE.out], by rw [HE.out]; exact Kd.R_nil _ _ _ _ _, below_chg bel hch (by omega)⟩
end Go.Proofs.Ytcekghcejmhhaaa

/- The contract of chars.Convert, in the form that the printed walks ask for. -/
namespace Go.Proofs.Ytcekghcejmhhaaa
open Go.RowKit Go.Proofs.YtcekghcejmhhaaaW.PrintWords Go.Proofs.YtcekghcejmhhaaaW.PrintLast Go.Proofs.YtcekghcejmhhaaaW.PrintMore

def chars_Convert.f (a0 a1 : Int) (l2 : List Int) : Option (List Int × Int × Int) := if bytB l2 then some (convertC a0 a1 l2) else none
theorem chars_Convert.calls (a0 a1 : Int) (A2 : Option Addr) (c2 : Nat) (l2 : List Int) (r1 : List Int) (r2 r3 : Int) (w : World) (hr2 : Kd.C (Kd.int .u8) w A2 l2.length l2) (hc2 : l2.length ≤ c2) (h : chars_Convert.f a0 a1 l2 = some (r1, r2, r3)) :
    Calls Try.prog 27 #[.int .i64 a0, .int .i64 a1, .slice A2 l2.length c2] w fun e w' => ∃ v0_ : Value, e = .returned (.tuple #[v0_, .int .i64 r2, .int .i64 r3]) ∧ Kd.R (Kd.int .u8) 5 w' w.heap.size (fun _ => True) v0_ r1 ∧ Below w.heap.size w w' := by
  unfold chars_Convert.f at h
  split at h
  · rename_i hb
    simp only [Option.some.injEq] at h
    have := Convert_any a0 a1 A2 _ c2 l2 w hc2 hr2 (bytB_of hb)
    unfold ConvPost at this
    rw [h] at this
    exact this
  · cases h
end Go.Proofs.Ytcekghcejmhhaaa
