/- General: a region that draws its order, within a round of a range over a function; and what 'Convert' does last. -/
import Derived.Test.YtcekghcejmhhaaaChK6
import Derived.OrdersIn
import Derived.RangeFuncCalls
set_option linter.unusedSimpArgs false
set_option linter.unusedVariables false
set_option linter.unnecessarySimpa false
namespace Go.Proofs.Ytcekghcejmhhaaa
open Go.RowKit Go.Proofs.YtcekghcejmhhaaaW.PrintWords Go.Proofs.YtcekghcejmhhaaaW.PrintLast Go.Proofs.YtcekghcejmhhaaaW.PrintMore
set_option maxRecDepth 100000

section
variable {P : Program} {ops : Array Oper} {Q : Exit → Act → World → Prop} {md : Region.Mode} {L n : Nat}
/-- Operations that are no 'defer' and run to no round. -/
def calmOp (o : Oper) : Prop := (∀ c, o.op ≠ .defer c)
theorem oper_in {o : Oper} (hd : ∀ c, o.op ≠ .defer c) {a : Act} {w : World} {K : Act → World → Prop} (h : o.wp P a w K Q) : o.wpIn (Fence.wide.inRound L) n P a w K Q := by
  unfold Oper.wp at h
  unfold Oper.wpIn
  refine ⟨fun _ _ => trivial, ?_⟩
  rw [Oper.semAt_eq _ _ _ hd]
  generalize (execOp a.eval o).run P w = r at h
  cases r with
  | halt x w' => cases x <;> first | exact h | exact h.elim
  | ok x w' =>
    cases x with
    | value v => exact h
    | skip => exact h
    | defer d => exact h
    | enter f args => rw [Oper.uponIn_enter]; rw [Oper.upon_enter] at h; exact ⟨fun hh => (by cases hh), CallsIn.inRound L (callsIn_wide.2 h)⟩
    | row row args => rw [Oper.uponIn_row]; rw [Oper.upon_row] at h; exact ⟨fun hh => (by cases hh), fun c cs _ => (let ⟨v, w'', r, s⟩ := h c cs; ⟨v, w'', r, stepsIn_wide.2 s⟩)⟩
    | _ => exact h.elim
theorem op_in (hd : ∀ (i : Nat) (o : Oper) c, ops[i]? = some o → o.op ≠ .defer c) (hq : ¬ LetsOut Q) {i : Nat} {a : Act} {w : World} {K : Act → World → Prop} (h : wpOp P ops Q i K a w) : wpOpIn (Fence.wide.inRound L) n P ops Q i K a w := by
  unfold wpOp at h
  unfold wpOpIn
  cases ho : ops[i]? with
  | none => rw [ho] at h; exact h
  | some o =>
    rw [ho] at h
    dsimp only at h ⊢
    split
    · rename_i hw
      rw [if_pos hw] at h
      exact oper_in (fun c => hd i o c ho) (h.resolve_right fun hh => hq hh.2)
    · rename_i hw
      rw [if_neg hw] at h
      exact ⟨fun _ _ => trivial, h⟩
theorem any_in (hd : ∀ (i : Nat) (o : Oper) c, ops[i]? = some o → o.op ≠ .defer c) (hq : ¬ LetsOut Q) : ∀ (fuel : Nat) (listed : Array Bool) (a : Act) (w : World), wpAny P md ops Q fuel listed a w → wpAnyIn (Fence.wide.inRound L) n P md ops Q fuel listed a w
  | 0, _, _, _, h => h
  | fuel + 1, _, _, _, h => ⟨h.1, fun i hi => op_in hd hq (wpOp_mono (fun a' w' h' => any_in hd hq fuel _ a' w' h') (h.2 i hi))⟩
/-- The walk of such a region starts here. -/
theorem start_in {S : World → Prop} {ds : List Nat} {id : Nat} {a : Act} {w : World} {m : Nat} (l : Array Bool) (hm : P.follows .mixedOrders = true) (hd : ∀ (i : Nat) (o : Oper) c, ops[i]? = some o → o.op ≠ .defer c) (hq : ¬ LetsOut Q) (hn : ops.size = m) (hl : Array.replicate m false = l)
    (h : wpAnyLast P .any ops Q S ds m l a w.drew) : (Code.region id ops true).wpIn (Fence.wide.inRound L) n P Q a w := by
  subst hn
  subst hl
  exact wpIn_region_any hm (any_in hd hq _ _ _ _ (wpAny_of_last _ _ _ _ h))
end

/-- Converted bytes, error, place. -/
def convertC (fr tt : Int) (b : List Int) : List Int × Int × Int :=
  if ¬ encOk fr then ([], 1, 0)
  else if ¬ encOk tt then ([], 1, 0)
  else if 20000 < b.length then ([], 2, 0)
  else
    let r := decodeLoop fr b.length 0 0 b
    match r.2 with
    | some a => ([], 15, a)
    | none =>
      let q := encodedC tt (r.1.map (·.2))
      if q.2.1 = 15 then ([], 15, (r.1.map (·.1)).getD q.2.2.toNat 0) else q

theorem encLoop_at (enc : Int) : ∀ (l : List Int) (st i j : Int), (encLoop enc st i l).2.2 = some j → i ≤ j ∧ j < i + l.length
  | [], st, i, j, h => by simp [encLoop] at h
  | c :: l, st, i, j, h => by
    unfold encLoop at h
    split at h
    · have := encLoop_at enc l _ _ _ h
      simp only [List.length_cons]
      omega
    · simp at h
      subst h
      simp only [List.length_cons]
      omega
theorem decodeLoop_len (enc : Int) : ∀ (f : Nat) (st a : Int) (b : List Int), (decodeLoop enc f st a b).1.length ≤ f
  | 0, _, _, _ => by simp [decodeLoop]
  | f + 1, st, a, b => by
    rw [decodeLoop_unfold]
    split
    · simp
    · split
      · simp only [List.length_cons]
        have := decodeLoop_len enc f (nextC enc st b).st (a + (nextC enc st b).bytes) (b.drop (nextC enc st b).bytes.toNat)
        omega
      · simp
theorem encodedC_at {enc : Int} {l : List Int} (h : (encodedC enc l).2.1 = 15) : ∃ k : Nat, (encodedC enc l).2.2 = k ∧ k < l.length := by
  unfold encodedC at h ⊢
  dsimp only at h ⊢
  cases hh : (encLoop enc 0 0 l).2.2 with
  | none => rw [hh] at h; dsimp only at h; split at h <;> simp at h
  | some j =>
    have := encLoop_at enc l 0 0 j hh
    exact ⟨j.toNat, by dsimp only; omega, by omega⟩

/-- What 'Convert' does last: nothing, where there is another error, or none. -/
theorem conv_idle (pe pb pa : Nat) (u : FrameMode) (w : World) (e : Int) (h0 : ¬ e = 15) (he : One w pe 25 (.int .i64 e)) :
    CallsD Try.prog 48 #[.pointer (some ⟨pe, 0, none⟩), .pointer (some ⟨pb, 0, none⟩), .pointer (some ⟨pa, 0, none⟩)] u w fun r u' w' => u' = u ∧ r = .returned (.tuple #[]) ∧ w = w' := by
  have c1 : w.cell? ⟨pe, 0, none⟩ = some (.int .i64 e) := by simpa using blk_cell he 0
  have hd : (e == 15) = false := by simpa using h0
  clear he
  go_enter_d Try.func48, Try.ntmps48
  go_wp2
  go_end0
  exact ⟨rfl, rfl⟩
theorem conv_nil (pe pb pa : Nat) (u : FrameMode) (w : World) (he : One w pe 25 (.int .i64 15)) (hb : One w pb 55 (.slice none 0 0)) :
    CallsD Try.prog 48 #[.pointer (some ⟨pe, 0, none⟩), .pointer (some ⟨pb, 0, none⟩), .pointer (some ⟨pa, 0, none⟩)] u w fun r u' w' => u' = u ∧ r = .returned (.tuple #[]) ∧ w = w' := by
  have c1 : w.cell? ⟨pe, 0, none⟩ = some (.int .i64 15) := by simpa using blk_cell he 0
  have c2 : w.cell? ⟨pb, 0, none⟩ = some (.slice none 0 0) := by simpa using blk_cell hb 0
  clear he hb
  go_enter_d Try.func48, Try.ntmps48
  go_wp2
  go_end0
  exact ⟨rfl, rfl⟩
theorem conv_set (pe pb pa : Nat) (u : FrameMode) (w : World) (g off n c k : Nat) (x : Int) (he : One w pe 25 (.int .i64 15)) (hb : One w pb 55 (.slice (some ⟨g, off, none⟩) n c)) (ha : One w pa 3 (.int .i64 k)) (hk : k < n) (hk2 : n ≤ 20000)
    (hx : w.cell? ⟨g, off + k, none⟩ = some (.int .i64 x)) :
    CallsD Try.prog 48 #[.pointer (some ⟨pe, 0, none⟩), .pointer (some ⟨pb, 0, none⟩), .pointer (some ⟨pa, 0, none⟩)] u w fun r u' w' => u' = u ∧ r = .returned (.tuple #[]) ∧
      Chg w w' (fun j => j = pa) ∧ BlkIs w' pa 3 (· = #[.int .i64 x]) := by
  have c1 : w.cell? ⟨pe, 0, none⟩ = some (.int .i64 15) := by simpa using blk_cell he 0
  have c2 : w.cell? ⟨pb, 0, none⟩ = some (.slice (some ⟨g, off, none⟩) n c) := by simpa using blk_cell hb 0
  have c3 : w.cell? ⟨pa, 0, none⟩ = some (.int .i64 k) := by simpa using blk_cell ha 0
  have f3 := blk_frozen ha 0
  have k1 : (k : Int) < n := by omega
  have HA := Lib.hid ha
  clear he hb ha
  go_enter_d Try.func48, Try.ntmps48
  go_wp2
  go_end0
  exact ⟨rfl, ⟨rfl, rfl, rfl, by simp [World.setCell], fun j hj hj2 => by rw [Below.heap_setCell _ _ _ _ hj2]⟩, ⟨_, blk_put HA.out 0 _ rfl, rfl⟩⟩
end Go.Proofs.Ytcekghcejmhhaaa
