import Derived.Test.YtcekghcejmhhaaaCharsC
import Derived.Deep.WholeRow
import Derived.Deep.CutBlock
import Derived.Great.BuildSlice
set_option linter.unusedSimpArgs false
set_option linter.unusedVariables false
set_option linter.unnecessarySimpa false
namespace Go.Proofs.Ytcekghcejmhhaaa
open Go.RowKit Go.Proofs.YtcekghcejmhhaaaW.PrintWords Go.Proofs.YtcekghcejmhhaaaW.PrintLast Go.Proofs.YtcekghcejmhhaaaW.PrintMore

theorem rest_2 (f t s e : Int) (b off n c : Nat) (xs : List Int) (w : World) (hC : ∀ i, i < n → w.cell? ⟨b, off + i, none⟩ = some (.int .u8 (xs.getD i 0))) (hlt : b < w.heap.size) (hn : 0 < n)
    (hl : xs.length = n) (hx : ∀ i, 0 ≤ xs.getD i 0 ∧ xs.getD i 0 ≤ 255) (hm : n ≤ 9223372036854775807) (S : Step) (hS : restS 2 1 (xs.getD 0 0 % 32) s e (xs.drop 1) = S) :
    Calls Try.prog 79 #[leadV f t 2 s e, .slice (some ⟨b, off, none⟩) n c] w fun r w' => r = .returned S.val ∧ Below w.heap.size w w' :=
  rest_any 2 (.inl rfl) f t s e b off n c xs w hC hlt hn hl hx hm S hS
theorem rest_3 (f t s e : Int) (b off n c : Nat) (xs : List Int) (w : World) (hC : ∀ i, i < n → w.cell? ⟨b, off + i, none⟩ = some (.int .u8 (xs.getD i 0))) (hlt : b < w.heap.size) (hn : 0 < n)
    (hl : xs.length = n) (hx : ∀ i, 0 ≤ xs.getD i 0 ∧ xs.getD i 0 ≤ 255) (hm : n ≤ 9223372036854775807) (S : Step) (hS : restS 3 2 (xs.getD 0 0 % 16) s e (xs.drop 1) = S) :
    Calls Try.prog 79 #[leadV f t 3 s e, .slice (some ⟨b, off, none⟩) n c] w fun r w' => r = .returned S.val ∧ Below w.heap.size w w' :=
  rest_any 3 (.inr (.inl rfl)) f t s e b off n c xs w hC hlt hn hl hx hm S hS
theorem rest_4 (f t s e : Int) (b off n c : Nat) (xs : List Int) (w : World) (hC : ∀ i, i < n → w.cell? ⟨b, off + i, none⟩ = some (.int .u8 (xs.getD i 0))) (hlt : b < w.heap.size) (hn : 0 < n)
    (hl : xs.length = n) (hx : ∀ i, 0 ≤ xs.getD i 0 ∧ xs.getD i 0 ≤ 255) (hm : n ≤ 9223372036854775807) (S : Step) (hS : restS 4 3 (xs.getD 0 0 % 8) s e (xs.drop 1) = S) :
    Calls Try.prog 79 #[leadV f t 4 s e, .slice (some ⟨b, off, none⟩) n c] w fun r w' => r = .returned S.val ∧ Below w.heap.size w w' :=
  rest_any 4 (.inr (.inr rfl)) f t s e b off n c xs w hC hlt hn hl hx hm S hS

def leadCells : List (List Value) := [
  [.int .u8 194, .int .u8 223, .int .i64 2, .int .u8 128, .int .u8 191],
  [.int .u8 224, .int .u8 224, .int .i64 3, .int .u8 160, .int .u8 191],
  [.int .u8 225, .int .u8 236, .int .i64 3, .int .u8 128, .int .u8 191],
  [.int .u8 237, .int .u8 237, .int .i64 3, .int .u8 128, .int .u8 159],
  [.int .u8 238, .int .u8 239, .int .i64 3, .int .u8 128, .int .u8 191],
  [.int .u8 240, .int .u8 240, .int .i64 4, .int .u8 144, .int .u8 191],
  [.int .u8 241, .int .u8 243, .int .i64 4, .int .u8 128, .int .u8 191],
  [.int .u8 244, .int .u8 244, .int .i64 4, .int .u8 128, .int .u8 143]]
def leadsA : Array Value := leadCells.flatten.toArray

theorem leadsA_one : leadsA.all (·.oneCell') = true := by kernel_rfl
theorem leadsA_info : (Try.prog.info? 126).map (·.size) = some leadsA.size := by kernel_rfl
theorem leadsA_eq : (Array.mk [Value.int .u8 194, .int .u8 223, .int .i64 2, .int .u8 128, .int .u8 191,
  .int .u8 224, .int .u8 224, .int .i64 3, .int .u8 160, .int .u8 191,
  .int .u8 225, .int .u8 236, .int .i64 3, .int .u8 128, .int .u8 191,
  .int .u8 237, .int .u8 237, .int .i64 3, .int .u8 128, .int .u8 159,
  .int .u8 238, .int .u8 239, .int .i64 3, .int .u8 128, .int .u8 191,
  .int .u8 240, .int .u8 240, .int .i64 4, .int .u8 144, .int .u8 191,
  .int .u8 241, .int .u8 243, .int .i64 4, .int .u8 128, .int .u8 191,
  .int .u8 244, .int .u8 244, .int .i64 4, .int .u8 128, .int .u8 143]) = leadsA := rfl

set_option maxRecDepth 100000 in
set_option maxHeartbeats 1000000 in
theorem leads_any (w : World) : Calls Try.prog 78 #[] w fun r w' => r = .returned (.agg leadsA) ∧ Below w.heap.size w w' := by
  go_enter Try.func78, Try.ntmps78
  go_upto_region 1 with (fail)
  apply wp_region_lit
  refine wpList_buildTo rfl 125 _ rfl (some 1) rfl #[.int .u8 194, .int .u8 223, .int .i64 2, .int .u8 128, .int .u8 191] (by as_aux_lemma => kernel_rfl) ?_
  refine wpList_buildTo rfl 125 _ rfl (some 2) rfl #[.int .u8 224, .int .u8 224, .int .i64 3, .int .u8 160, .int .u8 191] (by as_aux_lemma => kernel_rfl) ?_
  refine wpList_buildTo rfl 125 _ rfl (some 3) rfl #[.int .u8 225, .int .u8 236, .int .i64 3, .int .u8 128, .int .u8 191] (by as_aux_lemma => kernel_rfl) ?_
  refine wpList_buildTo rfl 125 _ rfl (some 4) rfl #[.int .u8 237, .int .u8 237, .int .i64 3, .int .u8 128, .int .u8 159] (by as_aux_lemma => kernel_rfl) ?_
  refine wpList_buildTo rfl 125 _ rfl (some 5) rfl #[.int .u8 238, .int .u8 239, .int .i64 3, .int .u8 128, .int .u8 191] (by as_aux_lemma => kernel_rfl) ?_
  refine wpList_buildTo rfl 125 _ rfl (some 6) rfl #[.int .u8 240, .int .u8 240, .int .i64 4, .int .u8 144, .int .u8 191] (by as_aux_lemma => kernel_rfl) ?_
  refine wpList_buildTo rfl 125 _ rfl (some 7) rfl #[.int .u8 241, .int .u8 243, .int .i64 4, .int .u8 128, .int .u8 191] (by as_aux_lemma => kernel_rfl) ?_
  refine wpList_buildTo rfl 125 _ rfl (some 8) rfl #[.int .u8 244, .int .u8 244, .int .i64 4, .int .u8 128, .int .u8 143] (by as_aux_lemma => kernel_rfl) ?_
  refine wpList_buildTo rfl 126 _ rfl (some 9) rfl leadsA (by as_aux_lemma => kernel_rfl) ?_
  refine wpList_store_rowTo rfl 126 (.tmp 0) (.tmp 9) rfl rfl w.heap.size leadsA (by as_aux_lemma => kernel_rfl) (by as_aux_lemma => kernel_rfl) 126 _ (heap_alloc_new w _) leadsA_info (by as_aux_lemma => kernel_rfl) leadsA_one ?_
  rw [World.setRow_alloc_new]
  apply wpList_nil
  simp only [Exit.then]
  go_at_K
  go_wp2
  exact bodyPost_ret (results_cell_row rfl _ _ w.heap.size 126 leadsA (0, 0) _ (by as_aux_lemma => kernel_rfl) (heap_alloc_new w _) Try.underlying126 rfl leadsA_info) rfl ⟨rfl, (by repeat (first | with_reducible assumption | with_reducible exact Below.refl _ _ | with_reducible refine below_alloc ?_ _ | with_reducible refine pw_below_drewN ?_ _ | with_reducible refine below_drew1 ?_ | ((with_reducible refine below_set ?_ ?hle); (case hle => first | (simp; done) | omega | (simp; omega))) | with_reducible refine below_step ?_ (by assumption)))⟩
end Go.Proofs.Ytcekghcejmhhaaa
