import Derived.Test.YtcekghcejmhhaaaCharsU
import Derived.Test.YtcekghcejmhhaaaCharsT
set_option linter.unusedSimpArgs false
set_option linter.unusedVariables false
set_option linter.unnecessarySimpa false
namespace Go.Proofs.Ytcekghcejmhhaaa
open Go.RowKit Go.Proofs.YtcekghcejmhhaaaW.PrintWords Go.Proofs.YtcekghcejmhhaaaW.PrintLast Go.Proofs.YtcekghcejmhhaaaW.PrintMore
set_option maxRecDepth 100000

theorem fresh_C {k : IntKind} {e : TypeId} (W : World) (g : Nat) (hg : g = W.heap.size) (xs : List Int) (cs : Array Value) (hcs : cs = (nums k xs).toArray) (n : Nat) (hn : n = xs.length) (hm : xs.length ≤ 9223372036854775807) :
    Kd.C (Kd.int k) (W.alloc (.cells cs e)) (some ⟨g, 0, none⟩) n xs := by
  subst hn
  exact fresh_src (e := e) W g hg xs cs hcs hm (S := fun _ => False) (by simp) _ (Kept.refl _ _)
theorem Byt.of {xs : List Int} (h : ∀ x ∈ xs, 0 ≤ x ∧ x ≤ 255) : Byt xs := fun i => by
  rw [List.getD_eq_getElem?_getD]
  by_cases hi : i < xs.length
  · rw [List.getElem?_eq_getElem hi]; exact h _ (List.getElem_mem hi)
  · rw [List.getElem?_eq_none (by omega)]; simp
theorem U32s.of {xs : List Int} (h : ∀ x ∈ xs, 0 ≤ x ∧ x < 4294967296) : U32s xs := fun i => by
  rw [List.getD_eq_getElem?_getD]
  by_cases hi : i < xs.length
  · rw [List.getElem?_eq_getElem hi]; exact h _ (List.getElem_mem hi)
  · rw [List.getElem?_eq_none (by omega)]; simp

theorem Next_lit (enc s : Int) (xs : List Int) (S : Step) (hS : nextC enc s xs = S) (A : Option Addr) (n c : Nat) (w : World) (h : encOk enc) (hs : stOk enc s) (hn : n ≤ 20000) (hC : Kd.C (Kd.int .u8) w A n xs) (hx : Byt xs) :
    Calls Try.prog 22 #[.int .i64 enc, .int .i64 s, .slice A n c] w fun r w' => r = .returned (.tuple #[stepV S.kind S.ch S.bytes S.st, .int .i64 0]) ∧ Below w.heap.size w w' := by
  subst hS
  exact Next_ok enc s A n c xs w h hs hn hC hx
theorem Encode_lit (enc : Int) (l b : List Int) (e a : Int) (hE : encodeC enc l = (b, e, a)) (A : Option Addr) (n c : Nat) (w : World) (hC : Kd.C (Kd.int .u32) w A n l) (hx : U32s l) :
    Calls Try.prog 14 #[.int .i64 enc, .slice A n c] w fun r w' => ∃ A' c', r = .returned (.tuple #[.slice A' b.length c', .int .i64 e, .int .i64 a]) ∧ Kd.C (Kd.int .u8) w' A' b.length b ∧ Below w.heap.size w w' :=
  (Encode_any enc A n c l w hC hx).mono fun r w' ⟨v, hr, hv, hb⟩ => by
    rw [hE] at hr hv
    obtain ⟨A', c', rfl, _, h⟩ := Kd.R_reads hv
    exact ⟨A', c', hr, h, hb⟩
theorem Fit_lit (enc most : Int) (l b : List Int) (e a : Int) (hE : fitC enc l most = (b, a, e)) (A : Option Addr) (n c : Nat) (w : World) (hC : Kd.C (Kd.int .u32) w A n l) (hx : U32s l) :
    Calls Try.prog 15 #[.int .i64 enc, .slice A n c, .int .i64 most] w fun r w' => ∃ A' c', r = .returned (.tuple #[.slice A' b.length c', .int .i64 a, .int .i64 e]) ∧ Kd.C (Kd.int .u8) w' A' b.length b ∧ Below w.heap.size w w' :=
  (Fit_any enc most A n c l w hC hx).mono fun r w' ⟨v, hr, hv, hb⟩ => by
    rw [hE] at hr hv
    obtain ⟨A', c', rfl, _, h⟩ := Kd.R_reads hv
    exact ⟨A', c', hr, h, hb⟩
theorem Decode_lit (enc : Int) (l b : List Int) (e a : Int) (hE : decodeC enc l = (b, e, a)) (A : Option Addr) (n c : Nat) (w : World) (hnc : n ≤ c) (hC : Kd.C (Kd.int .u8) w A n l) (hx : Byt l) :
    Calls Try.prog 20 #[.int .i64 enc, .slice A n c] w fun r w' => ∃ A' c', r = .returned (.tuple #[.slice A' b.length c', .int .i64 e, .int .i64 a]) ∧ Kd.C (Kd.int .u32) w' A' b.length b ∧ b.length ≤ c' ∧ Below w.heap.size w w' :=
  (Decode_any enc A n c l w hnc hC hx).mono fun r w' ⟨v, hr, hv, hb⟩ => by
    rw [hE] at hr hv
    obtain ⟨A', c', rfl, h0, h⟩ := Kd.R_reads hv
    exact ⟨A', c', hr, h, h0, hb⟩

set_option maxHeartbeats 4000000 in
theorem sanity_ok (w : World) : Calls Try.prog 13 #[] w fun r w' => r = .returned (.bool true) ∧ Below w.heap.size w w' := by
  go_enter Try.func13, Try.ntmps13
  go_upto_region 5 with (first
    | ((with_reducible show Calls Try.prog 22 #[.int .i64 2, .int .i64 0, .slice _ 3 _] _ _); refine (Next_lit 2 0 [195, 169, 120] ⟨1, 233, 2, 0⟩ (by decide) _ 3 _ _ (by decide) (by decide) (by decide) ?hC (Byt.of (by decide))).mono ?_; (case hC => exact fresh_C _ _ (by first | rfl | (simp; done)) _ _ rfl _ rfl (by decide)); rintro e w1 ⟨rfl, hb1⟩; obtain ⟨hc1, hf1⟩ := bcell hb1; have hz1 := below_size hb1; simp at hz1)
    | ((with_reducible show Calls Try.prog 22 #[.int .i64 3, .int .i64 0, .slice _ 4 _] _ _); refine (Next_lit 3 0 [14, 33, 34, 65] ⟨1, 19969, 3, 1⟩ (by decide) _ 4 _ _ (by decide) (by decide) (by decide) ?hC (Byt.of (by decide))).mono ?_; (case hC => exact fresh_C _ _ (by first | rfl | (simp; done)) _ _ rfl _ rfl (by decide)); rintro e w2 ⟨rfl, hb2⟩; obtain ⟨hc2, hf2⟩ := bcell hb2; have hz2 := below_size hb2; simp at hz2)
    | ((with_reducible show Calls Try.prog 22 #[.int .i64 2, .int .i64 0, .slice _ 2 _] _ _); refine (Next_lit 2 0 [237, 160] ⟨2, 0, 0, 0⟩ (by decide) _ 2 _ _ (by decide) (by decide) (by decide) ?hC (Byt.of (by decide))).mono ?_; (case hC => exact fresh_C _ _ (by first | rfl | (simp; done)) _ _ rfl _ rfl (by decide)); rintro e w3 ⟨rfl, hb3⟩; obtain ⟨hc3, hf3⟩ := bcell hb3; have hz3 := below_size hb3; simp at hz3)
    | ((with_reducible show Calls Try.prog 22 #[.int .i64 3, .int .i64 1, .slice _ 1 _] _ _); refine (Next_lit 3 1 [33] ⟨3, 0, 0, 0⟩ (by decide) _ 1 _ _ (by decide) (by decide) (by decide) ?hC (Byt.of (by decide))).mono ?_; (case hC => exact fresh_C _ _ (by first | rfl | (simp; done)) _ _ rfl _ rfl (by decide)); rintro e w4 ⟨rfl, hb4⟩; obtain ⟨hc4, hf4⟩ := bcell hb4; have hz4 := below_size hb4; simp at hz4))
  obtain ⟨W5, hW5⟩ : ∃ W5, w4.alloc (Obj.cells #[.int .i64 3, .int .u32 0, .int .i64 0, .int .i64 0] 45) = W5 := ⟨_, rfl⟩
  have k1 : W5.heap[w1.heap.size]? = some (.cells #[.int .i64 1, .int .u32 233, .int .i64 2, .int .i64 0] 45 (0, 0)) := by
    have q : BlkIs W5 w1.heap.size 45 (· = #[.int .i64 1, .int .u32 233, .int .i64 2, .int .i64 0]) := by rw [← hW5]; exact (by repeat (first | with_reducible assumption | ((with_reducible refine BlkIs.new ?hg ?hf); (case hg => (simp; done)); (case hf => first | rfl | (simp; done))) | with_reducible refine BlkIs.alloc ?_ | with_reducible refine BlkIs.drewN ?_ | with_reducible refine BlkIs.drew ?_ | with_reducible refine BlkIs.set ?_ | ((with_reducible refine BlkIs.far ?_ ?hne); (case hne => first | (simp; done) | omega | (simp; omega))) | with_reducible refine BlkIs.below ?_ (by assumption) | ((with_reducible refine BlkIs.chg ?_ (by assumption) ?hnn); (case hnn => first | (simp; done) | omega | (simp; omega) | (intro hs; have := hs.1; omega))) | ((with_reducible refine BlkIs.of (by assumption) ?hf); (case hf => first | rfl | (simp; done)))))
    obtain ⟨_, q1, rfl⟩ := q
    exact q1
  have k2 : W5.heap[w2.heap.size]? = some (.cells #[.int .i64 1, .int .u32 19969, .int .i64 3, .int .i64 1] 45 (0, 0)) := by
    have q : BlkIs W5 w2.heap.size 45 (· = #[.int .i64 1, .int .u32 19969, .int .i64 3, .int .i64 1]) := by rw [← hW5]; exact (by repeat (first | with_reducible assumption | ((with_reducible refine BlkIs.new ?hg ?hf); (case hg => (simp; done)); (case hf => first | rfl | (simp; done))) | with_reducible refine BlkIs.alloc ?_ | with_reducible refine BlkIs.drewN ?_ | with_reducible refine BlkIs.drew ?_ | with_reducible refine BlkIs.set ?_ | ((with_reducible refine BlkIs.far ?_ ?hne); (case hne => first | (simp; done) | omega | (simp; omega))) | with_reducible refine BlkIs.below ?_ (by assumption) | ((with_reducible refine BlkIs.chg ?_ (by assumption) ?hnn); (case hnn => first | (simp; done) | omega | (simp; omega) | (intro hs; have := hs.1; omega))) | ((with_reducible refine BlkIs.of (by assumption) ?hf); (case hf => first | rfl | (simp; done)))))
    obtain ⟨_, q1, rfl⟩ := q
    exact q1
  have k3 : W5.heap[w3.heap.size]? = some (.cells #[.int .i64 2, .int .u32 0, .int .i64 0, .int .i64 0] 45 (0, 0)) := by
    have q : BlkIs W5 w3.heap.size 45 (· = #[.int .i64 2, .int .u32 0, .int .i64 0, .int .i64 0]) := by rw [← hW5]; exact (by repeat (first | with_reducible assumption | ((with_reducible refine BlkIs.new ?hg ?hf); (case hg => (simp; done)); (case hf => first | rfl | (simp; done))) | with_reducible refine BlkIs.alloc ?_ | with_reducible refine BlkIs.drewN ?_ | with_reducible refine BlkIs.drew ?_ | with_reducible refine BlkIs.set ?_ | ((with_reducible refine BlkIs.far ?_ ?hne); (case hne => first | (simp; done) | omega | (simp; omega))) | with_reducible refine BlkIs.below ?_ (by assumption) | ((with_reducible refine BlkIs.chg ?_ (by assumption) ?hnn); (case hnn => first | (simp; done) | omega | (simp; omega) | (intro hs; have := hs.1; omega))) | ((with_reducible refine BlkIs.of (by assumption) ?hf); (case hf => first | rfl | (simp; done)))))
    obtain ⟨_, q1, rfl⟩ := q
    exact q1
  have k4 : W5.heap[w4.heap.size]? = some (.cells #[.int .i64 3, .int .u32 0, .int .i64 0, .int .i64 0] 45 (0, 0)) := by
    have q : BlkIs W5 w4.heap.size 45 (· = #[.int .i64 3, .int .u32 0, .int .i64 0, .int .i64 0]) := by rw [← hW5]; exact (by repeat (first | with_reducible assumption | ((with_reducible refine BlkIs.new ?hg ?hf); (case hg => (simp; done)); (case hf => first | rfl | (simp; done))) | with_reducible refine BlkIs.alloc ?_ | with_reducible refine BlkIs.drewN ?_ | with_reducible refine BlkIs.drew ?_ | with_reducible refine BlkIs.set ?_ | ((with_reducible refine BlkIs.far ?_ ?hne); (case hne => first | (simp; done) | omega | (simp; omega))) | with_reducible refine BlkIs.below ?_ (by assumption) | ((with_reducible refine BlkIs.chg ?_ (by assumption) ?hnn); (case hnn => first | (simp; done) | omega | (simp; omega) | (intro hs; have := hs.1; omega))) | ((with_reducible refine BlkIs.of (by assumption) ?hf); (case hf => first | rfl | (simp; done)))))
    obtain ⟨_, q1, rfl⟩ := q
    exact q1
  have hb5 : Below w.heap.size w W5 := by rw [← hW5]; exact (by repeat (first | with_reducible assumption | with_reducible exact Below.refl _ _ | with_reducible refine below_alloc ?_ _ | with_reducible refine pw_below_drewN ?_ _ | with_reducible refine below_drew1 ?_ | ((with_reducible refine below_set ?_ ?hle); (case hle => first | (simp; done) | omega | (simp; omega))) | with_reducible refine below_step ?_ (by assumption)))
  rw [hW5]
  clear hW5 hb1 hb2 hb3 hb4 hz1 hz2 hz3 hz4
  have hL5 := blk_lt k4
  generalize w1.heap.size = g1 at *
  generalize w2.heap.size = g2 at *
  generalize w3.heap.size = g3 at *
  generalize w4.heap.size = g4 at *
  have c10 : W5.cell? ⟨g1, 0, none⟩ = some (.int .i64 1) := by simpa using blk_cell k1 0
  have c11 : W5.cell? ⟨g1, 1, none⟩ = some (.int .u32 233) := by simpa using blk_cell k1 1
  have c12 : W5.cell? ⟨g1, 2, none⟩ = some (.int .i64 2) := by simpa using blk_cell k1 2
  have c13 : W5.cell? ⟨g1, 3, none⟩ = some (.int .i64 0) := by simpa using blk_cell k1 3
  have c20 : W5.cell? ⟨g2, 0, none⟩ = some (.int .i64 1) := by simpa using blk_cell k2 0
  have c21 : W5.cell? ⟨g2, 1, none⟩ = some (.int .u32 19969) := by simpa using blk_cell k2 1
  have c22 : W5.cell? ⟨g2, 2, none⟩ = some (.int .i64 3) := by simpa using blk_cell k2 2
  have c23 : W5.cell? ⟨g2, 3, none⟩ = some (.int .i64 1) := by simpa using blk_cell k2 3
  have c30 : W5.cell? ⟨g3, 0, none⟩ = some (.int .i64 2) := by simpa using blk_cell k3 0
  have c31 : W5.cell? ⟨g3, 1, none⟩ = some (.int .u32 0) := by simpa using blk_cell k3 1
  have c32 : W5.cell? ⟨g3, 2, none⟩ = some (.int .i64 0) := by simpa using blk_cell k3 2
  have c33 : W5.cell? ⟨g3, 3, none⟩ = some (.int .i64 0) := by simpa using blk_cell k3 3
  have c40 : W5.cell? ⟨g4, 0, none⟩ = some (.int .i64 3) := by simpa using blk_cell k4 0
  have c41 : W5.cell? ⟨g4, 1, none⟩ = some (.int .u32 0) := by simpa using blk_cell k4 1
  have c42 : W5.cell? ⟨g4, 2, none⟩ = some (.int .i64 0) := by simpa using blk_cell k4 2
  have c43 : W5.cell? ⟨g4, 3, none⟩ = some (.int .i64 0) := by simpa using blk_cell k4 3
  clear k1 k2 k3 k4
  go_upto_region 10 with (first
    | (go_at_call 14; refine (Encode_lit 3 [65, 19969, 65] [65, 14, 33, 34, 15, 65] 0 0 (by decide) _ 3 _ _ ?hC (U32s.of (by decide))).mono ?_; (case hC => exact fresh_C _ _ (by first | rfl | (simp; done)) _ _ rfl _ rfl (by decide)); rintro e w6 ⟨A6, c6, rfl, hC6, hb6⟩; have HC6 := Lib.hid hC6; clear hC6)
    | (go_at_call 15; refine (Fit_lit 3 4 [19969, 65] [14, 33, 34, 15] 0 1 (by decide) _ 2 _ _ ?hC (U32s.of (by decide))).mono ?_; (case hC => exact fresh_C _ _ (by first | rfl | (simp; done)) _ _ rfl _ rfl (by decide)); rintro e w7 ⟨A7, c7, rfl, hC7, hb7⟩; have HC7 := Lib.hid hC7; clear hC7)
    | (go_at_call 20; refine (Decode_lit 3 [65, 15, 14] [65] 0 0 (by decide) _ 3 _ _ (by decide) ?hC (Byt.of (by decide))).mono ?_; (case hC => exact fresh_C _ _ (by first | rfl | (simp; done)) _ _ rfl _ rfl (by decide)); rintro e w8 ⟨A8, c8, rfl, hC8, hc8, hb8⟩; have HC8 := Lib.hid hC8; clear hC8))
  have hC6 : Kd.C (Kd.int .u8) w8 A6 6 [65, 14, 33, 34, 15, 65] := Kd.C_below HC6.out (below_step (below_alloc (below_step (below_alloc (Below.refl _ _) _) hb7) _) hb8)
  have hC7 : Kd.C (Kd.int .u8) w8 A7 4 [14, 33, 34, 15] := Kd.C_below HC7.out (below_step (below_alloc (Below.refl _ _) _) hb8)
  obtain ⟨b8, o8, rfl, hlt8, hcs8⟩ := open_C HC8.out (by decide)
  have d8 : w8.cell? ⟨b8, o8, none⟩ = some (.int .u32 65) := by simpa using hcs8 0 (by decide)
  have r6 : (convert 24 9 (.slice A6 6 c6)).run Try.prog w8 = .ok (.string ⟨#[65, 14, 33, 34, 15, 65]⟩) w8 := Kd.C_string Try.underlying24 (by kernel_rfl) (by kernel_rfl) hC6
  have r7 : (convert 24 9 (.slice A7 4 c7)).run Try.prog w8 = .ok (.string ⟨#[14, 33, 34, 15]⟩) w8 := Kd.C_string Try.underlying24 (by kernel_rfl) (by kernel_rfl) hC7
  have hb9 : Below w.heap.size w w8 := (by repeat (first | with_reducible assumption | with_reducible exact Below.refl _ _ | with_reducible refine below_alloc ?_ _ | with_reducible refine pw_below_drewN ?_ _ | with_reducible refine below_drew1 ?_ | ((with_reducible refine below_set ?_ ?hle); (case hle => first | (simp; done) | omega | (simp; omega))) | with_reducible refine below_step ?_ (by assumption)))
  clear hcs8 hb6 hb7 hb8
  go_wp2
  go_ret
  exact ⟨rfl, hb9⟩
end Go.Proofs.Ytcekghcejmhhaaa
