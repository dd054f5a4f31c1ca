import Derived.Test.YtcekghcejmhhaaaCharsB
import Derived.Test.YtcekghcejmhhaaaCharsSpec
import Derived.Deep.RegionHeld3
set_option linter.unusedSimpArgs false
set_option linter.unusedVariables false
set_option linter.unnecessarySimpa false
namespace Go.Proofs.Ytcekghcejmhhaaa
open Go.RowKit Go.Proofs.YtcekghcejmhhaaaW.PrintWords Go.Proofs.YtcekghcejmhhaaaW.PrintLast Go.Proofs.YtcekghcejmhhaaaW.PrintMore

set_option maxRecDepth 100000 in
set_option maxHeartbeats 1000000 in
theorem caught_panic (p q : Nat) (e a e0 a0 : Int) (older : List PanicEntry) (w : World) (hp : One w p 25 (.int .i64 e0)) (hq : One w q 3 (.int .i64 a0)) (hne : p ≠ q) :
    CallsD Try.prog 36 #[.pointer (some ⟨p, 0, none⟩), .pointer (some ⟨q, 0, none⟩)] (.panicking ({ v := .iface 97 (.agg #[.int .i64 e, .int .i64 a]), recovered := false } :: older)) w fun r u' w' =>
      r = .returned (.tuple #[]) ∧ u' = .panicking ({ v := .iface 97 (.agg #[.int .i64 e, .int .i64 a]), recovered := true } :: older) ∧
      Chg w w' (fun k => k = p ∨ k = q) ∧ One w' p 25 (.int .i64 e) ∧ One w' q 3 (.int .i64 a) := by
  have c1 := blk_cell hp 0
  have c2 := blk_cell hq 0
  have f1 := blk_frozen hp 0
  have f2 := blk_frozen hq 0
  simp only [List.getElem?_toArray, List.getElem?_cons_zero] at c1 c2
  have hltp := blk_lt hp
  have hltq := blk_lt hq
  have hta : ∀ w, (Instr.typeAssert (.iface 97 (.agg #[.int .i64 e, .int .i64 a])) 20 97 true).run Try.prog w = .ok (.tuple #[.agg #[.int .i64 e, .int .i64 a], .bool true]) w := fun _ => by kernel_rfl
  have HP := Lib.hid hp
  have HQ := Lib.hid hq
  have HNE := Lib.hid hne
  clear hp hq
  refine callsD_of_wpS Try.func36 rfl fun c₀ cs hu => ?_
  apply wpS_seq
  apply wpS_region
  simp [wpOpsS, go_sem, recoverD, hu, Try.ntmps36, Exit.thenS]
  simp only [List.size_toArray, List.length_cons, List.length_nil, Nat.reduceAdd, Nat.reduceSub, Array.replicate_succ, Array.replicate_zero, List.push_toArray, List.append_toArray, List.nil_append, List.cons_append, List.setIfInBounds_toArray, List.set_cons_zero, List.set_cons_succ]
  refine wpS_of_wp ?_
  have HU := Lib.hid hu
  clear hu
  generalize hcs : (({ fn := c₀.fn, tmps := c₀.tmps, todo := c₀.todo, defers := c₀.defers, mode := FrameMode.panicking ({ v := Value.iface 97 (Value.agg #[Value.int IntKind.i64 e, Value.int IntKind.i64 a]), recovered := true } :: older), kind := c₀.kind, roundOf := c₀.roundOf } : Frame) :: cs) = cs1
  have HCS := Lib.hid hcs
  clear hcs
  go_wp2
  go_region
  refine ⟨rfl, _, HCS.out.symm, .tuple #[], by simp [results, Try.results36], rfl, rfl, ?_, ?_, ?_⟩
  · refine ⟨rfl, rfl, rfl, by simp [World.setCell], fun k hk hn => ?_⟩
    show (((w.setCell ⟨p, 0, none⟩ (.int .i64 e)).setCell ⟨q, 0, none⟩ (.int .i64 a)).alloc _).heap[k]? = _
    rw [Below.heap_alloc _ _ _ (by simpa [World.setCell] using hk), Below.heap_setCell _ _ _ _ (fun h => hn (.inr h)), Below.heap_setCell _ _ _ _ (fun h => hn (.inl h))]
  · exact blk_drew (blk_alloc (blk_far (blk_put HP.out 0 _ rfl) (p := ⟨q, 0, none⟩) HNE.out _) _)
  · exact blk_drew (blk_alloc (blk_put (blk_far HQ.out (p := ⟨p, 0, none⟩) HNE.out.symm _) 0 _ rfl) _)

theorem caught_idle (p q : Nat) (w : World) : CallsD Try.prog 36 #[.pointer (some ⟨p, 0, none⟩), .pointer (some ⟨q, 0, none⟩)] .returning w fun r u' w' => r = .returned (.tuple #[]) ∧ u' = .returning ∧ w = w' := by
  refine callsD_of_wpS Try.func36 rfl fun c₀ cs hu => ?_
  apply wpS_seq
  apply wpS_region
  simp [wpOpsS, go_sem, recoverD, hu, Try.ntmps36, Exit.thenS]
  simp only [List.size_toArray, List.length_cons, List.length_nil, Nat.reduceAdd, Nat.reduceSub, Array.replicate_succ, Array.replicate_zero, List.push_toArray, List.append_toArray, List.nil_append, List.cons_append, List.setIfInBounds_toArray, List.set_cons_zero, List.set_cons_succ]
  refine wpS_of_wp ?_
  have HU := Lib.hid hu
  clear hu
  go_wp2
  refine ⟨rfl, .returning, ?_, .tuple #[], by simp [results, Try.results36], rfl, rfl, rfl⟩
  have hu := HU.out
  cases c₀
  simp_all
end Go.Proofs.Ytcekghcejmhhaaa
