/- Joined: CharsR, CharsS, CharsT, CharsU, CharsV: contracts of functions of the program, and plain laws. -/
import Derived.Test.YtcekghcejmhhaaaChK3
import Derived.Test.YtcekghcejmhhaaaChK4
set_option linter.unusedSimpArgs false
set_option linter.unusedVariables false
set_option linter.unnecessarySimpa false
namespace Go.Proofs.Ytcekghcejmhhaaa
open Go.RowKit Go.Proofs.YtcekghcejmhhaaaW.PrintWords Go.Proofs.YtcekghcejmhhaaaW.PrintLast Go.Proofs.YtcekghcejmhhaaaW.PrintMore
set_option maxRecDepth 100000

section
variable {k : IntKind} {e : TypeId} {base : Nat} {w w1 : World} {v : Value} {xs : List Int}
theorem OwnI.set {p : Addr} {u : Value} (h : OwnI k e base w v xs) (hp : p.block < base) : OwnI k e base (w.setCell p u) v xs :=
  Kd.R_mono (Kd.R_far (Kd.R_bound h) (fun j hj => by have := hj.2.1; omega) u) (fun _ _ => trivial)
theorem OwnI.drewN {n : Nat} (h : OwnI k e base w v xs) : OwnI k e base (w.drewN n) v xs := Kd.R_drewN h n
theorem OwnI.drew (h : OwnI k e base w v xs) : OwnI k e base w.drew v xs := Kd.R_drewN h 1
theorem OwnI.below (h : OwnI k e base w v xs) (hb : Below w.heap.size w w1) : OwnI k e base w1 v xs := Kd.R_below h hb
theorem OwnI.alloc {o : Obj} (h : OwnI k e base w v xs) : OwnI k e base (w.alloc o) v xs := Kd.R_below h (below_alloc (Below.refl _ _) _)
theorem OwnI.chg {S : Nat → Prop} (h : OwnI k e base w v xs) (hc : Chg w w1 S) (hS : ∀ j, S j → j < base) : OwnI k e base w1 v xs :=
  Kd.R_mono (Kd.R_step (Kd.R_bound h) (fun j hj hlt => hc.block j hlt (fun hs => by have := hS j hs; have := hj.2.1; omega))) (fun _ _ => trivial)
theorem OwnI.lower {base' : Nat} (h : OwnI k e base w v xs) (hb : base' ≤ base) : OwnI k e base' w v xs := Kd.R_lower h hb
end

theorem own0 {k : IntKind} {e : TypeId} {base : Nat} {w : World} {v : Value} {xs : List Int} (h : OwnI k e base w v xs := by repeat (first | with_reducible assumption | ((with_reducible refine OwnI.set ?_ ?hlt); (case hlt => first | (simp; done) | omega | (simp; omega))) | with_reducible refine OwnI.drewN ?_ | with_reducible refine OwnI.drew ?_ | with_reducible refine OwnI.alloc ?_ | with_reducible refine OwnI.below ?_ (by assumption))) : OwnI k e base w v xs := h
theorem encoded_any (enc : Int) (h : encOk enc) (A : Option Addr) (n c : Nat) (l : List Int) (w : World) (hn : n ≤ 20000) (hC : Kd.C (Kd.int .u32) w A n l) (hx : U32s l) :
    Calls Try.prog 39 #[encV enc, .slice A n c] w (EncPost enc l w) := by
  rcases enc_cases h with rfl | rfl | rfl
  · exact encoded_1 1 rfl A n c l w hn hC hx
  · exact encoded_2 2 rfl A n c l w hn hC hx
  · exact encoded_3 3 rfl A n c l w hn hC hx
theorem encoded_ok (enc : Int) (h : encOk enc) (A : Option Addr) (n c : Nat) (l : List Int) (w : World) (hn : n ≤ 20000) (hC : Kd.C (Kd.int .u32) w A n l) (hx : U32s l) (h0 : (encodedC enc l).2.1 = 0) :
    Calls Try.prog 39 #[encV enc, .slice A n c] w fun r w' => ∃ v, r = .returned v ∧ OwnI .u8 5 w.heap.size w' v (encodedC enc l).1 ∧ Below w.heap.size w w' :=
  (encoded_any enc h A n c l w hn hC hx).mono fun r w' ⟨hb, hh⟩ => by
    rcases hh with ⟨_, v, rfl, hv⟩ | ⟨h1, _⟩
    · exact ⟨v, rfl, hv, hb⟩
    · exact absurd h0 h1
theorem encoded_bad (enc : Int) (h : encOk enc) (A : Option Addr) (n c : Nat) (l : List Int) (w : World) (hn : n ≤ 20000) (hC : Kd.C (Kd.int .u32) w A n l) (hx : U32s l) (h0 : ¬ (encodedC enc l).2.1 = 0) :
    Calls Try.prog 39 #[encV enc, .slice A n c] w fun r w' => r = .panicked (failed (encodedC enc l).2.1 (encodedC enc l).2.2) ∧ Below w.heap.size w w' :=
  (encoded_any enc h A n c l w hn hC hx).mono fun r w' ⟨hb, hh⟩ => by
    rcases hh with ⟨h1, _⟩ | ⟨_, h1⟩
    · exact absurd h1 h0
    · exact ⟨h1, hb⟩

theorem encodedC_ok_at {enc : Int} {l : List Int} (h : (encodedC enc l).2.1 = 0) : (encodedC enc l).2.2 = 0 := by
  unfold encodedC at h ⊢
  dsimp only at h ⊢
  split at h
  · simp at h
  · split <;> rfl
theorem encodedC_bad_nil {enc : Int} {l : List Int} (h : ¬ (encodedC enc l).2.1 = 0) : (encodedC enc l).1 = [] := by
  unfold encodedC at h ⊢
  dsimp only at h ⊢
  split
  · rfl
  · rename_i h1
    split
    · rfl
    · rename_i h2; exfalso; apply h; simp only [h1, if_neg h2]

def EncodePost (enc : Int) (l : List Int) (w : World) (r : Ending) (w' : World) : Prop :=
  ∃ v, r = .returned (.tuple #[v, .int .i64 (encodeC enc l).2.1, .int .i64 (encodeC enc l).2.2]) ∧ OwnI .u8 5 w.heap.size w' v (encodeC enc l).1 ∧ Below w.heap.size w w'

set_option maxHeartbeats 4000000 in
theorem Encode_any (enc : Int) (A : Option Addr) (n c : Nat) (l : List Int) (w : World) (hC : Kd.C (Kd.int .u32) w A n l) (hx : U32s l) :
    Calls Try.prog 14 #[.int .i64 enc, .slice A n c] w (EncodePost enc l w) := by
  have hl : l.length = n := hC.1
  have HL := Lib.hid hl
  have HC := Lib.hid hC
  clear hl hC
  by_cases h : encOk enc
  · have H := Lib.hid h
    clear h
    by_cases hn : n ≤ 20000
    · have HN := Lib.hid hn
      have hn2 : (n : Int) ≤ 20000 := by omega
      have hE : encodeC enc l = encodedC enc l := by
        unfold encodeC
        rw [if_neg (by simpa using H.out), if_neg (by have := HL.out; omega)]
      have HE := Lib.hid hE
      clear hn hE
      by_cases h0 : (encodedC enc l).2.1 = 0
      · have H0 := Lib.hid h0
        clear h0
        go_enter_defers Try.func14, Try.ntmps14
        go_wp2_with (first | (go_at_call 37; (with_reducible refine (of_ok _ H.out _).mono ?_); rintro e w1 ⟨rfl, rfl⟩) | (go_at_call 38; (with_reducible refine (few_ok _ hn2 _).mono ?_); rintro e w1 ⟨rfl, rfl⟩) | (go_at_call 39; (with_reducible refine (encoded_ok _ H.out _ _ _ l _ HN.out (C_of_below HC.out bel) hx H0.out).mono ?_); rintro e w2 ⟨v2, rfl, hv2, hb2⟩; have hz2 := below_size hb2; simp at hz2; have HV2 := Lib.hid hv2; clear hv2; have y0 : w.heap.size < w2.heap.size := (by omega); have y1 : w.heap.size + 1 < w2.heap.size := (by omega); obtain ⟨hc2, hf2⟩ := bcell hb2))
        refine leaves_cons (f := 36) (args := #[.pointer (some ⟨w.heap.size, 0, none⟩), .pointer (some ⟨w.heap.size + 1, 0, none⟩)]) (by simp) (by simp [go_sem]) ?_
        refine (caught_idle _ _ _).mono ?_
        rintro e u' w'' ⟨rfl, rfl, rfl⟩
        exact ⟨.tuple #[v2, .int .i64 0, .int .i64 0], rresults (rs := [.tmp 4, .cell 5 25, .cell 6 3]) rfl (by simp) (.tmp (by rfl) (.cell w.heap.size rfl (load_one (t := 25) blk0 (by kernel_rfl)) (.cell (w.heap.size + 1) rfl (load_one (t := 3) blk0 (by kernel_rfl)) .nil))), v2, by rw [HE.out, H0.out, encodedC_ok_at H0.out], by rw [HE.out]; exact OwnI.lower (OwnI.set (OwnI.set HV2.out (by first | (simp; done) | (simp; omega))) (by first | (simp; done) | (simp; omega))) (by simp; omega), bel⟩
      · have H0 := Lib.hid h0
        clear h0
        go_enter_defers Try.func14, Try.ntmps14
        go_wp2_with (first | (go_at_call 37; (with_reducible refine (of_ok _ H.out _).mono ?_); rintro e w1 ⟨rfl, rfl⟩) | (go_at_call 38; (with_reducible refine (few_ok _ hn2 _).mono ?_); rintro e w1 ⟨rfl, rfl⟩) | (go_at_call 39; (with_reducible refine (encoded_bad _ H.out _ _ _ l _ HN.out (C_of_below HC.out bel) hx H0.out).mono ?_); rintro e w2 ⟨rfl, hb2⟩; have hz2 := below_size hb2; simp at hz2))
        refine leaves_cons (f := 36) (args := #[.pointer (some ⟨w.heap.size, 0, none⟩), .pointer (some ⟨w.heap.size + 1, 0, none⟩)]) (by simp) (by simp [go_sem]) ?_
        refine (caught_panic (w.heap.size) (w.heap.size + 1) (encodedC enc l).2.1 (encodedC enc l).2.2 0 0 [] _ (BlkIs.one blk0) (BlkIs.one blk0) (by omega)).mono ?_
        rintro e u' w'' ⟨rfl, rfl, hch, hp, hq⟩
        have hp' : BlkIs w'' w.heap.size 25 (· = #[.int .i64 (encodedC enc l).2.1]) := ⟨_, hp, rfl⟩
        have hq' : BlkIs w'' (w.heap.size + 1) 3 (· = #[.int .i64 (encodedC enc l).2.2]) := ⟨_, hq, rfl⟩
        refine ⟨.tuple #[.slice none 0 0, .int .i64 (encodedC enc l).2.1, .int .i64 (encodedC enc l).2.2], rresults (rs := [.tmp 4, .cell 5 25, .cell 6 3]) rfl (by simp) (.tmp (by rfl) (.cell w.heap.size rfl (load_one (t := 25) hp' (by kernel_rfl)) (.cell (w.heap.size + 1) rfl (load_one (t := 3) hq' (by kernel_rfl)) .nil))), _, by rw [HE.out], by rw [HE.out, encodedC_bad_nil H0.out]; exact Kd.R_nil _ _ _ _ _, below_chg bel hch (by omega)⟩
    · have hn2 : 20000 < (n : Int) := by omega
      have hE : encodeC enc l = ([], 2, 0) := by
        unfold encodeC
        rw [if_neg (by simpa using H.out), if_pos (by have := HL.out; omega)]
      have HE := Lib.hid hE
      clear hn hE
      go_enter_defers Try.func14, Try.ntmps14
      go_wp2_with (first | (go_at_call 37; (with_reducible refine (of_ok _ H.out _).mono ?_); rintro e w1 ⟨rfl, rfl⟩) | (go_at_call 38; (with_reducible refine (few_no _ hn2 _).mono ?_); rintro e w1 ⟨rfl, rfl⟩))
      refine leaves_cons (f := 36) (args := #[.pointer (some ⟨w.heap.size, 0, none⟩), .pointer (some ⟨w.heap.size + 1, 0, none⟩)]) (by simp) (by simp [go_sem]) ?_
      refine (caught_panic (w.heap.size) (w.heap.size + 1) 2 0 0 0 [] _ (BlkIs.one blk0) (BlkIs.one blk0) (by omega)).mono ?_
      rintro e u' w'' ⟨rfl, rfl, hch, hp, hq⟩
      have hp' : BlkIs w'' w.heap.size 25 (· = #[.int .i64 2]) := ⟨_, hp, rfl⟩
      have hq' : BlkIs w'' (w.heap.size + 1) 3 (· = #[.int .i64 0]) := ⟨_, hq, rfl⟩
      refine ⟨.tuple #[.slice none 0 0, .int .i64 2, .int .i64 0], rresults (rs := [.tmp 4, .cell 5 25, .cell 6 3]) rfl (by simp) (.tmp (by rfl) (.cell w.heap.size rfl (load_one (t := 25) hp' (by kernel_rfl)) (.cell (w.heap.size + 1) rfl (load_one (t := 3) hq' (by kernel_rfl)) .nil))), _, by rw [HE.out], by rw [HE.out]; exact Kd.R_nil _ _ _ _ _, below_chg bel hch (by omega)⟩
  · have hE : encodeC enc l = ([], 1, 0) := by
      unfold encodeC
      rw [if_pos h]
    have HE := Lib.hid hE
    have H := Lib.hid h
    clear h hE
    go_enter_defers Try.func14, Try.ntmps14
    go_wp2_with (go_at_call 37; (with_reducible refine (of_no _ H.out _).mono ?_); rintro e w1 ⟨rfl, rfl⟩)
    refine leaves_cons (f := 36) (args := #[.pointer (some ⟨w.heap.size, 0, none⟩), .pointer (some ⟨w.heap.size + 1, 0, none⟩)]) (by simp) (by simp [go_sem]) ?_
    refine (caught_panic (w.heap.size) (w.heap.size + 1) 1 0 0 0 [] _ (BlkIs.one blk0) (BlkIs.one blk0) (by omega)).mono ?_
    rintro e u' w'' ⟨rfl, rfl, hch, hp, hq⟩
    have hp' : BlkIs w'' w.heap.size 25 (· = #[.int .i64 1]) := ⟨_, hp, rfl⟩
    have hq' : BlkIs w'' (w.heap.size + 1) 3 (· = #[.int .i64 0]) := ⟨_, hq, rfl⟩
    refine ⟨.tuple #[.slice none 0 0, .int .i64 1, .int .i64 0], rresults (rs := [.tmp 4, .cell 5 25, .cell 6 3]) rfl (by simp) (.tmp (by rfl) (.cell w.heap.size rfl (load_one (t := 25) hp' (by kernel_rfl)) (.cell (w.heap.size + 1) rfl (load_one (t := 3) hq' (by kernel_rfl)) .nil))), _, by rw [HE.out], by rw [HE.out]; exact Kd.R_nil _ _ _ _ _, below_chg bel hch (by omega)⟩
end Go.Proofs.Ytcekghcejmhhaaa

namespace Go.Proofs.Ytcekghcejmhhaaa
open Go.RowKit Go.Proofs.YtcekghcejmhhaaaW.PrintWords Go.Proofs.YtcekghcejmhhaaaW.PrintLast Go.Proofs.YtcekghcejmhhaaaW.PrintMore
set_option maxRecDepth 100000

theorem chg_below_drewN {w w1 : World} {S : Nat → Prop} {n : Nat} (h : Chg w w1 S) : Chg w (w1.drewN n) S := ⟨h.os, h.tape, h.output, h.size, h.block⟩

/-- 'joined', and what it leaves alone. -/
theorem joined_kept {w0 w : World} {base : Nat} {v : Value} {xs : List Int} {A : Option Addr} {c : Nat} {ys : List Int} (hB : Below w0.heap.size w0 w) (hb0 : base ≤ w.heap.size) (hle : w0.heap.size ≤ base) (ho : OwnI .u8 5 base w v xs)
    (hC : ∀ W, Kept w W (fun k => v.ownBlock = some k) → Kd.C (Kd.int .u8) W A ys.length ys) (hc : ys.length ≤ c) (hl : xs.length + ys.length < 140737488355328) :
    Calls Try.prog 42 #[v, .slice A ys.length c] w fun r w' => ∃ v', r = .returned v' ∧ OwnI .u8 5 base w' v' (xs ++ ys) ∧ Chg w w' (fun k => base ≤ k ∧ v.ownBlock = some k) ∧ Below w0.heap.size w0 w' ∧
      (∀ g, v'.ownBlock = some g → v.ownBlock = some g ∨ w.heap.size ≤ g) := by
  have hR : Kd.R (Kd.int .u8) 5 w w0.heap.size (fun k => v.ownBlock = some k) v xs := ⟨fun k hk => hk, by
    obtain ⟨_, inner, h1, h2⟩ := OwnI.lower ho hle
    exact ⟨inner, h1, h2⟩⟩
  refine (XBase.chars_joined.calls (fun k => v.ownBlock = some k) v xs A c ys (xs ++ ys) w0 w hB hR hC hc (by unfold XBase.chars_joined.f; rw [if_pos hl])).mono ?_
  rintro e w' ⟨v', he, hr, hb, hk⟩
  have hown : ∀ g, v.ownBlock = some g → base ≤ g := fun g hg => by
    obtain ⟨inner, h⟩ := Kd.R_own ho
    exact (own_base h) g hg
  have hv' : ∀ g, v'.ownBlock = some g → v.ownBlock = some g ∨ w.heap.size ≤ g := fun g hg => hr.1 g hg
  refine ⟨v', he, ?_, ⟨hb.os.trans hB.os.symm, hb.tape.trans hB.tape.symm, hb.output.trans hB.output.symm, hk.1, fun i hi hn => hk.2 i hi (fun hs => hn ⟨hown i hs, hs⟩)⟩, hb, hv'⟩
  have h3 : OwnI .u8 5 w0.heap.size w' v' (xs ++ ys) := Kd.R_mono hr (fun _ _ => trivial)
  exact Kd.R_raise (by intros; assumption) h3 (fun k hk => by rcases hv' k hk with h | h; exact hown k h; omega)

/-- What 'Fit' does last. -/
theorem fit_last_idle (pe pb pn : Nat) (u : FrameMode) (w : World) (he : One w pe 25 (.int .i64 0)) :
    CallsD Try.prog 40 #[.pointer (some ⟨pe, 0, none⟩), .pointer (some ⟨pb, 0, none⟩), .pointer (some ⟨pn, 0, none⟩)] u w fun e u' w' => u' = u ∧ e = .returned (.tuple #[]) ∧ w = w' := by
  have c1 : w.cell? ⟨pe, 0, none⟩ = some (.int .i64 0) := by simpa using blk_cell he 0
  go_enter_d Try.func40, Try.ntmps40
  go_wp2
  go_end0
  exact ⟨rfl, rfl⟩
theorem fit_last (pe pb pn : Nat) (u : FrameMode) (w : World) (ev bv nv : Value) (e : Int) (h0 : ¬ e = 0) (he : One w pe 25 (.int .i64 e)) (hb : One w pb 24 bv) (hn : One w pn 3 nv) (h1 : pb ≠ pn) (h2 : pe ≠ pb) (h3 : pe ≠ pn) :
    CallsD Try.prog 40 #[.pointer (some ⟨pe, 0, none⟩), .pointer (some ⟨pb, 0, none⟩), .pointer (some ⟨pn, 0, none⟩)] u w fun r u' w' => u' = u ∧ r = .returned (.tuple #[]) ∧
      Chg w w' (fun k => k = pb ∨ k = pn) ∧ BlkIs w' pb 24 (· = #[.slice none 0 0]) ∧ BlkIs w' pn 3 (· = #[.int .i64 0]) ∧ BlkIs w' pe 25 (· = #[.int .i64 e]) := by
  have c1 : w.cell? ⟨pe, 0, none⟩ = some (.int .i64 e) := by simpa using blk_cell he 0
  have c2 : w.cell? ⟨pb, 0, none⟩ = some bv := by simpa using blk_cell hb 0
  have c3 : w.cell? ⟨pn, 0, none⟩ = some nv := by simpa using blk_cell hn 0
  have f2 := blk_frozen hb 0
  have f3 := blk_frozen hn 0
  have hd : (e == 0) = false := by simpa using h0
  have HE := Lib.hid he
  have HB := Lib.hid hb
  have HN := Lib.hid hn
  clear he hb hn
  go_enter_d Try.func40, Try.ntmps40
  go_wp2
  go_end0
  exact ⟨rfl, ⟨rfl, rfl, rfl, by simp [World.setCell], fun k hk hk2 => by rw [Below.heap_setCell _ _ _ _ (fun h => hk2 (.inr h)), Below.heap_setCell _ _ _ _ (fun h => hk2 (.inl h))]⟩,
    ⟨_, blk_far (blk_put HB.out 0 _ rfl) h1 _, rfl⟩, ⟨_, blk_put (blk_far HN.out h1.symm _) 0 _ rfl, rfl⟩, ⟨_, blk_far (blk_far HE.out h2 _) h3 _, rfl⟩⟩

/-- The loop of 'Fit', after k characters. -/
def FitRel (enc most : Int) (l : List Int) (w0 w : World) (vl vs vi : Value) : Prop :=
  ∃ (k : Nat) (st : Int) (lg bb : List Int) (vb : Value), k ≤ l.length ∧ vi = .int .i64 k ∧ vs = .int .i64 st ∧ OwnI .u8 5 (w0.heap.size + 1 + 1 + 1 + 1) w vl lg ∧ OwnI .u8 5 (w0.heap.size + 1 + 1 + 1 + 1) w vb bb ∧ (∀ g, vl.ownBlock = some g → ¬ vb.ownBlock = some g) ∧
    One w w0.heap.size 24 vb ∧ One w (w0.heap.size + 1) 3 (.int .i64 k) ∧ One w (w0.heap.size + 1 + 1) 25 (.int .i64 0) ∧ One w (w0.heap.size + 1 + 1 + 1) 3 (.int .i64 0) ∧ Below w0.heap.size w0 w ∧
    lg.length ≤ 4 * k ∧ bb.length ≤ 4 * k + 1 ∧ fitLoop enc most 0 [] [] 0 l = fitLoop enc most st lg bb k (l.drop k)

theorem fitLoop_no {enc most st : Int} {lg bb : List Int} {k : Nat} {c : Int} {t : List Int} (h : ¬ hasC enc c = true) : fitLoop enc most st lg bb k (c :: t) = ([], 0, 15) := by rw [fitLoop, if_neg h]
theorem fitLoop_full {enc most st : Int} {lg bb : List Int} {k : Nat} {c : Int} {t : List Int} (h : hasC enc c = true) (h2 : most < ((lg ++ (putC enc st c).1) ++ turnC (putC enc st c).2 0).length) :
    fitLoop enc most st lg bb k (c :: t) = (bb, (k : Int), 0) := by rw [fitLoop, if_pos h]; dsimp only; rw [if_pos h2]
theorem fitLoop_more {enc most st : Int} {lg bb : List Int} {k : Nat} {c : Int} {t : List Int} (h : hasC enc c = true) (h2 : ¬ most < ((lg ++ (putC enc st c).1) ++ turnC (putC enc st c).2 0).length) :
    fitLoop enc most st lg bb k (c :: t) = fitLoop enc most (putC enc st c).2 (lg ++ (putC enc st c).1) ((lg ++ (putC enc st c).1) ++ turnC (putC enc st c).2 0) (k + 1) t := by rw [fitLoop, if_pos h]; dsimp only; rw [if_neg h2]

def FitPost (enc : Int) (l : List Int) (most : Int) (w : World) (r : Ending) (w' : World) : Prop :=
  ∃ v, r = .returned (.tuple #[v, .int .i64 (fitC enc l most).2.1, .int .i64 (fitC enc l most).2.2]) ∧ OwnI .u8 5 w.heap.size w' v (fitC enc l most).1 ∧ Below w.heap.size w w'

set_option maxHeartbeats 4000000 in
theorem fit_1 (enc most : Int) (h : enc = 1) (A : Option Addr) (n c : Nat) (l : List Int) (w : World) (hn : n ≤ 20000) (hmost : 0 ≤ most) (hC : Kd.C (Kd.int .u32) w A n l) (hx : U32s l) :
    Calls Try.prog 15 #[.int .i64 enc, .slice A n c, .int .i64 most] w (FitPost enc l most w) := by
  have hl : l.length = n := hC.1
  have HL := Lib.hid hl
  have HC := Lib.hid hC
  have HX := Lib.hid hx
  subst h
  have hok : encOk 1 := by decide
  have HF : Hid (fitC 1 l most = fitLoop 1 most 0 [] [] 0 l) := Lib.hid (by unfold fitC; rw [if_neg (by simpa using hok), if_neg (by omega), if_neg (by omega)])
  clear hl hC hx
  have hn2 : (n : Int) ≤ 20000 := by omega
  have m1 := meth_has_1
  have m2 := meth_put_1
  go_enter_defers Try.func15, Try.ntmps15
  go_wp2_with (first | (go_at_call 37; (with_reducible refine (of_ok _ hok _).mono ?_); rintro e w1 ⟨rfl, rfl⟩; simp only [encV_1, encV_2, encV_3]) | (go_at_call 38; (with_reducible refine (few_ok _ hn2 _).mono ?_); rintro e w1 ⟨rfl, rfl⟩) | (go_at_call 41; (with_reducible refine (need_true _ _ _).mono ?_); rintro e w3 ⟨rfl, rfl⟩))
  go_loopw [11, 12, 29] (fun vs vl vi wr => FitRel 1 most l w wr vl vs vi) (fun _ _ vi _ => n - (intOf vi).toNat)
  case atStart =>
    exact ⟨0, 0, [], [], .slice none 0 0, Nat.zero_le _, rfl, rfl, Kd.R_nil _ _ _ _ _, Kd.R_nil _ _ _ _ _, by simp [Value.ownBlock], BlkIs.one blk0, BlkIs.one blk0, BlkIs.one blk0, BlkIs.one blk0, bel, by simp, by simp, by simp⟩
  case round =>
    obtain ⟨k, st, lg, bb, vb, hk, rfl, rfl, hlg, hbb, hne, ob, on, oe, oa, hbw, hll, hbl, hr⟩ := hrel
    obtain ⟨Ab, cbb, rfl⟩ := Kd.R_slice hbb
    have HR := Lib.hid hr
    have HLG := Lib.hid hlg
    have HBB := Lib.hid hbb
    have HNE := Lib.hid hne
    have HLK := Lib.hid hk
    have OB := Lib.hid ob
    have ON := Lib.hid on
    have OE := Lib.hid oe
    have OA := Lib.hid oa
    have HBW := Lib.hid hbw
    have hsz := below_size hbw
    have hsa := blk_lt oa
    clear hr hlg hbb hne hk
    by_cases hkn : k < n
    · obtain ⟨b, off, rfl, hlt, hcs⟩ := open_C (C_of_below HC.out hbw) (by omega)
      have hcell := hcs k hkn
      clear hcs hbw ob on oe oa
      obtain ⟨xa, xb⟩ := HX.out k
      have hR2 : l.drop k = l.getD k 0 :: l.drop (k + 1) := by
        have := HL.out
        rw [List.drop_eq_getElem_cons (by omega), List.getD_eq_getElem?_getD, List.getElem?_eq_getElem (by omega)]; rfl
      have HR2 := Lib.hid hR2
      clear hR2
      generalize l.getD k 0 = x at *
      by_cases hh : hasC 1 x = true
      · have HH := Lib.hid hh
        go_wp2_with (first | (go_at_call 41; (with_reducible refine (need_true _ _ _).mono ?_); rintro e w3 ⟨rfl, rfl⟩) | (with_reducible show Calls Try.prog 68 #[_, _] _ _; (with_reducible refine (octets_has _ _).mono ?_); rintro e w1 ⟨rfl, hb⟩; obtain ⟨hc, hf⟩ := bcell hb) | (with_reducible show Calls Try.prog 74 #[_, _] _ _; (with_reducible refine (utf8_has _ _).mono ?_); rintro e w1 ⟨rfl, hb⟩; obtain ⟨hc, hf⟩ := bcell hb) | (with_reducible show Calls Try.prog 81 #[_, _] _ _; (with_reducible refine (shift_has _ _).mono ?_); rintro e w1 ⟨rfl, hb⟩; obtain ⟨hc, hf⟩ := bcell hb) | (with_reducible show Calls Try.prog 70 #[_, _, _] _ _; refine (octets_put' _ _ _ xa HH.out).mono ?_; rintro e w2 ⟨v2, rfl, hv2, hb2⟩; obtain ⟨A2, c2, rfl, hle2, _⟩ := Kd.R_reads hv2) | (with_reducible show Calls Try.prog 76 #[_, _, _] _ _; refine (utf8_put' _ _ _ xa HH.out).mono ?_; rintro e w2 ⟨v2, rfl, hv2, hb2⟩; obtain ⟨A2, c2, rfl, hle2, _⟩ := Kd.R_reads hv2) | (with_reducible show Calls Try.prog 83 #[_, _, _] _ _; refine (shift_put _ _ _ xa HH.out).mono ?_; rintro e w2 ⟨v2, rfl, hv2, hb2⟩; obtain ⟨A2, c2, rfl, hle2, _⟩ := Kd.R_reads hv2))
        have hz1 := below_size hb
        have hz2 := below_size hb2
        have hpl := putC_len 1 st x
        refine (joined_kept (w0 := w) (base := w.heap.size + 1 + 1 + 1 + 1) (xs := lg) (ys := (putC 1 st x).1) (below_step (below_step HBW.out hb) hb2) (by omega) (by omega) (Kd.R_below HLG.out (below_step hb hb2)) (own_src hv2 (fun j hj he => by have := own_lt_size HLG.out he; omega)) hle2 (by omega)).mono ?_
        rintro e w4 ⟨v4, rfl, hv4, hch4, hb4, hown4⟩
        have HB4 := Lib.hid hb4
        clear hb4
        have ob4 : One w4 w.heap.size 24 (.slice Ab bb.length cbb) := by have := OB.out; exact BlkIs.one blk0
        have on4 : One w4 (w.heap.size + 1) 3 (.int .i64 k) := by have := ON.out; exact BlkIs.one blk0
        have oe4 : One w4 (w.heap.size + 1 + 1) 25 (.int .i64 0) := by have := OE.out; exact BlkIs.one blk0
        have oa4 : One w4 (w.heap.size + 1 + 1 + 1) 3 (.int .i64 0) := by have := OA.out; exact BlkIs.one blk0
        have HBB4 : Hid (OwnI .u8 5 (w.heap.size + 1 + 1 + 1 + 1) w4 (.slice Ab bb.length cbb) bb) := Lib.hid (Kd.R_mono (Kd.R_step (Kd.R_bound (Kd.R_tight rfl (Kd.R_below HBB.out (below_step hb hb2)))) (fun j hj hlt => hch4.block j hlt (fun hs => HNE.out j hs.2 hj.1.symm))) (fun _ _ => trivial))
        have hz4 := hch4.size
        have HCH4 := Lib.hid hch4
        have HV4 := Lib.hid hv4
        have HOWN4 := Lib.hid hown4
        clear hv4 hch4 hown4
        have hlen4 : (lg ++ (putC 1 st x).1).length ≤ 4 * (k + 1) := by rw [List.length_append]; omega
        have hlen5 := turnC_len (putC 1 st x).2 0
        have hlap : (((lg ++ (putC 1 st x).1) ++ turnC (putC 1 st x).2 0).length : Nat) = (lg ++ (putC 1 st x).1).length + (turnC (putC 1 st x).2 0).length := List.length_append
        have HLAP := Lib.hid hlap
        clear hlap
        obtain ⟨A4, c4, rfl, hle4, _⟩ := Kd.R_reads HV4.out
        obtain ⟨la, hla⟩ : ∃ la, la = (lg ++ (putC 1 st x).1).length := ⟨_, rfl⟩
        obtain ⟨lb, hlb⟩ : ∃ lb, lb = (turnC (putC 1 st x).2 0).length := ⟨_, rfl⟩
        rw [← hla] at hle4 hlen4 ⊢
        rw [← hlb] at hlen5
        have HLA := Lib.hid hla
        have HLB := Lib.hid hlb
        clear hla hlb
        have hadd : IntKind.i64.wrap ((la : Int) + (lb : Int)) = (la : Int) + (lb : Int) := IntWalk.i64_in _ (by omega)
        by_cases hfit : most < (la : Int) + (lb : Int)
        · have HFT := Lib.hid hfit
          clear hlen4 hlen5
          go_wp2_with (go_at_call 43; (with_reducible refine (turn_any _ _ _).mono ?_); rintro e w5 ⟨v5, rfl, hv5, hb5⟩; obtain ⟨A5, c5, rfl, hle5, _⟩ := Kd.R_reads hv5; rw [← HLB.out] at hle5 ⊢; obtain ⟨cb5, fb5⟩ := bcell hb5)
          have ob5 := blk_below ob4 hb5
          have on5 := blk_below on4 hb5
          have oe5 := blk_below oe4 hb5
          have oa5 := blk_below oa4 hb5
          (have cb5 : World.cell? w5 ⟨w.heap.size, 0, none⟩ = some (.slice Ab bb.length cbb) := (by simpa using blk_cell ob5 0)); have fb5 := blk_frozen ob5 0
          (have cn5 : World.cell? w5 ⟨w.heap.size + 1, 0, none⟩ = some (.int .i64 k) := (by simpa using blk_cell on5 0)); have fn5 := blk_frozen on5 0
          (have ce5 : World.cell? w5 ⟨w.heap.size + 1 + 1, 0, none⟩ = some (.int .i64 0) := (by simpa using blk_cell oe5 0)); have fe5 := blk_frozen oe5 0
          go_region
          go_wp2
          have ob6 := ob5
          have HBB5 := Lib.hid (OwnI.below HBB4.out hb5)
          have HB5 := Lib.hid (below_step HB4.out hb5)
          refine leaves_cons (f := 36) (args := #[.pointer (some ⟨w.heap.size + 1 + 1, 0, none⟩), .pointer (some ⟨w.heap.size + 1 + 1 + 1, 0, none⟩)]) (by simp [settle]) (by simp [go_sem]) ?_
          refine (caught_idle _ _ _).mono ?_
          rintro e u' w'' ⟨rfl, rfl, rfl⟩
          refine leaves_cons (f := 40) (args := #[.pointer (some ⟨w.heap.size + 1 + 1, 0, none⟩), .pointer (some ⟨w.heap.size, 0, none⟩), .pointer (some ⟨w.heap.size + 1, 0, none⟩)]) (by simp [settle]) (by simp [go_sem]) ?_
          refine (fit_last_idle _ _ _ _ _ (BlkIs.one blk0)).mono ?_
          rintro e u' w'' ⟨rfl, rfl, rfl⟩
          have he : fitC 1 l most = (bb, (k : Int), 0) := by
            rw [HF.out, HR.out, HR2.out, fitLoop_full HH.out (by have := HFT.out; rw [HLAP.out, ← HLA.out, ← HLB.out]; omega)]
          exact ⟨.tuple #[.slice Ab bb.length cbb, .int .i64 k, .int .i64 0], rresults (rs := [.cell 6 24, .cell 7 3, .cell 8 25]) rfl (by simp) (.cell w.heap.size rfl (load_one (t := 24) blk0 (by kernel_rfl)) (.cell (w.heap.size + 1) rfl (load_one (t := 3) blk0 (by kernel_rfl)) (.cell (w.heap.size + 1 + 1) rfl (load_one (t := 25) blk0 (by kernel_rfl)) .nil))), _, by rw [he], by rw [he]; exact OwnI.lower (base := w.heap.size + 1 + 1 + 1 + 1) (by have := HBB5.out; exact own0) (by omega), by have := HB5.out; exact bel⟩
        · have HFT := Lib.hid hfit
          have HLN := Lib.hid (And.intro hlen4 hlen5)
          clear hlen4 hlen5
          go_wp2_with (go_at_call 43; (with_reducible refine (turn_any _ _ _).mono ?_); rintro e w5 ⟨v5, rfl, hv5, hb5⟩; obtain ⟨A5, c5, rfl, hle5, _⟩ := Kd.R_reads hv5; rw [← HLB.out] at hle5 ⊢; obtain ⟨cb5, fb5⟩ := bcell hb5)
          obtain ⟨hlen4, hlen5⟩ := HLN.out
          have ob5 := blk_below ob4 hb5
          have on5 := blk_below on4 hb5
          have oe5 := blk_below oe4 hb5
          have oa5 := blk_below oa4 hb5
          have hz5 := below_size hb5
          have hj1 := joined_any (w0 := w5) (w := w5) (xs := []) (ys := lg ++ (putC 1 st x).1) (A := A4) (c := c4) (Below.refl _ _) (Kd.R_nil _ _ _ _ _) (own_src (OwnI.below HV4.out hb5) (S := fun k => (Value.slice none 0 0).ownBlock = some k) (fun j _ => by simp [Value.ownBlock])) (by rw [← HLA.out]; exact hle4) (by first | (simp; done) | (simp; omega))
          rw [← HLA.out] at hj1
          refine hj1.mono ?_
          rintro e w6 ⟨v6, rfl, hv6, hb6⟩
          clear hj1
          have hz6 := below_size hb6
          rw [List.nil_append] at hv6
          obtain ⟨A6, c6, rfl⟩ := Kd.R_slice hv6
          rw [← HLA.out] at hv6 ⊢
          have hsrc : ∀ W, Kept w6 W (fun k => (Value.slice A6 la c6).ownBlock = some k) → Kd.C (Kd.int .u8) W A5 (turnC (putC 1 st x).2 0).length (turnC (putC 1 st x).2 0) := Kd.C_kept_own (Kd.R_below (Kd.R_bound hv5) hb6) (fun j hj he => by
            obtain ⟨inner, ho⟩ := Kd.R_own hv6
            have := own_base ho j he
            have := hj.2.2.1
            omega)
          have HV6 := Lib.hid hv6
          have HSRC := Lib.hid hsrc
          have HB5 := Lib.hid (below_step HB4.out hb5)
          have HV5 := Lib.hid (OwnI.below HV4.out hb5)
          clear hv6 hsrc hv5
          go_wp2_with fail
          have hj2 := joined_any (w0 := w5) (w := w6) (v := .slice A6 la c6) (xs := lg ++ (putC 1 st x).1) (ys := turnC (putC 1 st x).2 0) (A := A5) (c := c5) hb6 HV6.out HSRC.out (by rw [← HLB.out]; exact hle5) (by rw [← HLA.out, ← HLB.out]; omega)
          rw [← HLB.out] at hj2
          refine hj2.mono ?_
          rintro e w7 ⟨v7, rfl, hv7, hb7⟩
          clear hj2
          have ob7 := blk_below ob5 hb7
          have on7 := blk_below on5 hb7
          have oe7 := blk_below oe5 hb7
          have oa7 := blk_below oa5 hb7
          obtain ⟨A7, c7, rfl⟩ := Kd.R_slice hv7
          obtain ⟨lc, hlc⟩ : ∃ lc, lc = (lg ++ (putC 1 st x).1 ++ turnC (putC 1 st x).2 0).length := ⟨_, rfl⟩
          rw [← hlc] at hv7 ⊢
          have HLC := Lib.hid hlc
          have HV7 := Lib.hid hv7
          clear hv7 hlc
          (have cb7 : World.cell? w7 ⟨w.heap.size, 0, none⟩ = some (.slice Ab bb.length cbb) := (by simpa using blk_cell ob7 0)); have fb7 := blk_frozen ob7 0
          (have cn7 : World.cell? w7 ⟨w.heap.size + 1, 0, none⟩ = some (.int .i64 k) := (by simpa using blk_cell on7 0)); have fn7 := blk_frozen on7 0
          go_wp2
          have hz7 := below_size hb7
          have hv5 := HV5.out
          rw [← HLA.out] at hv5
          refine ⟨⟨k + 1, (putC 1 st x).2, lg ++ (putC 1 st x).1, lg ++ (putC 1 st x).1 ++ turnC (putC 1 st x).2 0, .slice A7 lc c7, by have := HL.out; omega, by push_cast; rfl, rfl, ?_, ?_, ?_, BlkIs.one blk0, ?_, BlkIs.one blk0, BlkIs.one blk0, ?_, ?_, ?_, ?_⟩, ?_⟩
          · exact OwnI.set (OwnI.set (OwnI.below hv5 hb7) (by first | (simp; done) | (simp; omega))) (by first | (simp; done) | (simp; omega))
          · exact OwnI.lower (OwnI.set (OwnI.set HV7.out (by first | (simp; done) | (simp; omega))) (by first | (simp; done) | (simp; omega))) (by omega)
          · intro g hg hg2
            have h1 := own_lt_size hv5 hg
            obtain ⟨inner, ho⟩ := Kd.R_own HV7.out
            have h2 := own_base ho g hg2
            omega
          · have : One (((w7.setCell ⟨w.heap.size, 0, none⟩ (.slice A7 lc c7)).setCell ⟨w.heap.size + 1, 0, none⟩ (.int .i64 (k + 1)))) (w.heap.size + 1) 3 (.int .i64 (k + 1)) := BlkIs.one blk0
            simpa using this
          · have := HB5.out; exact bel
          · rw [← HLA.out]; omega
          · rw [← HLC.out, HLC.out, HLAP.out, ← HLA.out, ← HLB.out]; omega
          · rw [HR.out, HR2.out, fitLoop_more HH.out (by have := HFT.out; rw [HLAP.out, ← HLA.out, ← HLB.out]; omega)]
          · simp only [intOf]; omega
      · have hh2 : hasC 1 x = false := by simpa using hh
        have HH := Lib.hid hh
        clear hh
        go_wp2_with (first | (go_at_call 41; (with_reducible refine (need_false _ _ _).mono ?_); rintro e w3 ⟨rfl, rfl⟩) | (with_reducible show Calls Try.prog 68 #[_, _] _ _; (with_reducible refine (octets_has _ _).mono ?_); rintro e w1 ⟨rfl, hb⟩; obtain ⟨hc, hf⟩ := bcell hb) | (with_reducible show Calls Try.prog 74 #[_, _] _ _; (with_reducible refine (utf8_has _ _).mono ?_); rintro e w1 ⟨rfl, hb⟩; obtain ⟨hc, hf⟩ := bcell hb) | (with_reducible show Calls Try.prog 81 #[_, _] _ _; (with_reducible refine (shift_has _ _).mono ?_); rintro e w1 ⟨rfl, hb⟩; obtain ⟨hc, hf⟩ := bcell hb))
        have hzb := below_size hb
        have HB1 := Lib.hid (below_step HBW.out hb)
        have ob1 := blk_below OB.out hb
        have on1 := blk_below ON.out hb
        have oe1 := blk_below OE.out hb
        have oa1 := blk_below OA.out hb
        refine leaves_cons (f := 36) (args := #[.pointer (some ⟨w.heap.size + 1 + 1, 0, none⟩), .pointer (some ⟨w.heap.size + 1 + 1 + 1, 0, none⟩)]) (by simp [settle]) (by simp [go_sem]) ?_
        refine (caught_panic (w.heap.size + 1 + 1) (w.heap.size + 1 + 1 + 1) 15 0 0 0 [] _ oe1 oa1 (by omega)).mono ?_
        rintro e u' w'' ⟨rfl, rfl, hch, hp, hq⟩
        refine leaves_cons (f := 40) (args := #[.pointer (some ⟨w.heap.size + 1 + 1, 0, none⟩), .pointer (some ⟨w.heap.size, 0, none⟩), .pointer (some ⟨w.heap.size + 1, 0, none⟩)]) (by simp [settle]) (by simp [go_sem]) ?_
        refine (fit_last _ _ _ _ _ (.int .i64 15) _ _ 15 (by decide) hp (blk_chg ob1 hch (by first | (simp; done) | (simp; omega))) (blk_chg on1 hch (by first | (simp; done) | (simp; omega))) (by omega) (by omega) (by omega)).mono ?_
        rintro e u' w4 ⟨rfl, rfl, hch4, q1, q2, q3⟩
        have he : fitC 1 l most = ([], 0, 15) := by
          rw [HF.out, HR.out, HR2.out, fitLoop_no HH.out]
        exact ⟨.tuple #[.slice none 0 0, .int .i64 0, .int .i64 15], rresults (rs := [.cell 6 24, .cell 7 3, .cell 8 25]) rfl (by simp) (.cell w.heap.size rfl (load_one (t := 24) q1 (by kernel_rfl)) (.cell (w.heap.size + 1) rfl (load_one (t := 3) q2 (by kernel_rfl)) (.cell (w.heap.size + 1 + 1) rfl (load_one (t := 25) q3 (by kernel_rfl)) .nil))), _, by rw [he], by rw [he]; exact Kd.R_nil _ _ _ _ _, below_chg (below_chg HB1.out hch (by omega)) hch4 (by omega)⟩
    · have hkk : l.length ≤ k := by have := HL.out; omega
      have HKK := Lib.hid hkk
      have ob5 := OB.out
      have on5 := ON.out
      have oe5 := OE.out
      (have cb5 : World.cell? wr ⟨w.heap.size, 0, none⟩ = some (.slice Ab bb.length cbb) := (by simpa using blk_cell ob5 0)); have fb5 := blk_frozen ob5 0
      (have cn5 : World.cell? wr ⟨w.heap.size + 1, 0, none⟩ = some (.int .i64 k) := (by simpa using blk_cell on5 0)); have fn5 := blk_frozen on5 0
      (have ce5 : World.cell? wr ⟨w.heap.size + 1 + 1, 0, none⟩ = some (.int .i64 0) := (by simpa using blk_cell oe5 0)); have fe5 := blk_frozen oe5 0
      clear hkk ob on oe oa hbw
      go_wp2
      go_region
      go_wp2
      have HBB5 := HBB
      have HB5 := HBW
      refine leaves_cons (f := 36) (args := #[.pointer (some ⟨w.heap.size + 1 + 1, 0, none⟩), .pointer (some ⟨w.heap.size + 1 + 1 + 1, 0, none⟩)]) (by simp [settle]) (by simp [go_sem]) ?_
      refine (caught_idle _ _ _).mono ?_
      rintro e u' w'' ⟨rfl, rfl, rfl⟩
      refine leaves_cons (f := 40) (args := #[.pointer (some ⟨w.heap.size + 1 + 1, 0, none⟩), .pointer (some ⟨w.heap.size, 0, none⟩), .pointer (some ⟨w.heap.size + 1, 0, none⟩)]) (by simp [settle]) (by simp [go_sem]) ?_
      refine (fit_last_idle _ _ _ _ _ (BlkIs.one blk0)).mono ?_
      rintro e u' w'' ⟨rfl, rfl, rfl⟩
      have he : fitC 1 l most = (bb, (k : Int), 0) := by
        rw [HF.out, HR.out, List.drop_eq_nil_of_le HKK.out]; rfl
      exact ⟨.tuple #[.slice Ab bb.length cbb, .int .i64 k, .int .i64 0], rresults (rs := [.cell 6 24, .cell 7 3, .cell 8 25]) rfl (by simp) (.cell w.heap.size rfl (load_one (t := 24) blk0 (by kernel_rfl)) (.cell (w.heap.size + 1) rfl (load_one (t := 3) blk0 (by kernel_rfl)) (.cell (w.heap.size + 1 + 1) rfl (load_one (t := 25) blk0 (by kernel_rfl)) .nil))), _, by rw [he], by rw [he]; exact OwnI.lower (base := w.heap.size + 1 + 1 + 1 + 1) (by have := HBB5.out; exact own0) (by omega), by have := HB5.out; exact bel⟩
end Go.Proofs.Ytcekghcejmhhaaa

namespace Go.Proofs.Ytcekghcejmhhaaa
open Go.RowKit Go.Proofs.YtcekghcejmhhaaaW.PrintWords Go.Proofs.YtcekghcejmhhaaaW.PrintLast Go.Proofs.YtcekghcejmhhaaaW.PrintMore
set_option maxRecDepth 100000

set_option maxHeartbeats 4000000 in
theorem fit_2 (enc most : Int) (h : enc = 2) (A : Option Addr) (n c : Nat) (l : List Int) (w : World) (hn : n ≤ 20000) (hmost : 0 ≤ most) (hC : Kd.C (Kd.int .u32) w A n l) (hx : U32s l) :
    Calls Try.prog 15 #[.int .i64 enc, .slice A n c, .int .i64 most] w (FitPost enc l most w) := by
  have hl : l.length = n := hC.1
  have HL := Lib.hid hl
  have HC := Lib.hid hC
  have HX := Lib.hid hx
  subst h
  have hok : encOk 2 := by decide
  have HF : Hid (fitC 2 l most = fitLoop 2 most 0 [] [] 0 l) := Lib.hid (by unfold fitC; rw [if_neg (by simpa using hok), if_neg (by omega), if_neg (by omega)])
  clear hl hC hx
  have hn2 : (n : Int) ≤ 20000 := by omega
  have m1 := meth_has_2
  have m2 := meth_put_2
  go_enter_defers Try.func15, Try.ntmps15
  go_wp2_with (first | (go_at_call 37; (with_reducible refine (of_ok _ hok _).mono ?_); rintro e w1 ⟨rfl, rfl⟩; simp only [encV_1, encV_2, encV_3]) | (go_at_call 38; (with_reducible refine (few_ok _ hn2 _).mono ?_); rintro e w1 ⟨rfl, rfl⟩) | (go_at_call 41; (with_reducible refine (need_true _ _ _).mono ?_); rintro e w3 ⟨rfl, rfl⟩))
  go_loopw [11, 12, 29] (fun vs vl vi wr => FitRel 2 most l w wr vl vs vi) (fun _ _ vi _ => n - (intOf vi).toNat)
  case atStart =>
    exact ⟨0, 0, [], [], .slice none 0 0, Nat.zero_le _, rfl, rfl, Kd.R_nil _ _ _ _ _, Kd.R_nil _ _ _ _ _, by simp [Value.ownBlock], BlkIs.one blk0, BlkIs.one blk0, BlkIs.one blk0, BlkIs.one blk0, bel, by simp, by simp, by simp⟩
  case round =>
    obtain ⟨k, st, lg, bb, vb, hk, rfl, rfl, hlg, hbb, hne, ob, on, oe, oa, hbw, hll, hbl, hr⟩ := hrel
    obtain ⟨Ab, cbb, rfl⟩ := Kd.R_slice hbb
    have HR := Lib.hid hr
    have HLG := Lib.hid hlg
    have HBB := Lib.hid hbb
    have HNE := Lib.hid hne
    have HLK := Lib.hid hk
    have OB := Lib.hid ob
    have ON := Lib.hid on
    have OE := Lib.hid oe
    have OA := Lib.hid oa
    have HBW := Lib.hid hbw
    have hsz := below_size hbw
    have hsa := blk_lt oa
    clear hr hlg hbb hne hk
    by_cases hkn : k < n
    · obtain ⟨b, off, rfl, hlt, hcs⟩ := open_C (C_of_below HC.out hbw) (by omega)
      have hcell := hcs k hkn
      clear hcs hbw ob on oe oa
      obtain ⟨xa, xb⟩ := HX.out k
      have hR2 : l.drop k = l.getD k 0 :: l.drop (k + 1) := by
        have := HL.out
        rw [List.drop_eq_getElem_cons (by omega), List.getD_eq_getElem?_getD, List.getElem?_eq_getElem (by omega)]; rfl
      have HR2 := Lib.hid hR2
      clear hR2
      generalize l.getD k 0 = x at *
      by_cases hh : hasC 2 x = true
      · have HH := Lib.hid hh
        go_wp2_with (first | (go_at_call 41; (with_reducible refine (need_true _ _ _).mono ?_); rintro e w3 ⟨rfl, rfl⟩) | (with_reducible show Calls Try.prog 68 #[_, _] _ _; (with_reducible refine (octets_has _ _).mono ?_); rintro e w1 ⟨rfl, hb⟩; obtain ⟨hc, hf⟩ := bcell hb) | (with_reducible show Calls Try.prog 74 #[_, _] _ _; (with_reducible refine (utf8_has _ _).mono ?_); rintro e w1 ⟨rfl, hb⟩; obtain ⟨hc, hf⟩ := bcell hb) | (with_reducible show Calls Try.prog 81 #[_, _] _ _; (with_reducible refine (shift_has _ _).mono ?_); rintro e w1 ⟨rfl, hb⟩; obtain ⟨hc, hf⟩ := bcell hb) | (with_reducible show Calls Try.prog 70 #[_, _, _] _ _; refine (octets_put' _ _ _ xa HH.out).mono ?_; rintro e w2 ⟨v2, rfl, hv2, hb2⟩; obtain ⟨A2, c2, rfl, hle2, _⟩ := Kd.R_reads hv2) | (with_reducible show Calls Try.prog 76 #[_, _, _] _ _; refine (utf8_put' _ _ _ xa HH.out).mono ?_; rintro e w2 ⟨v2, rfl, hv2, hb2⟩; obtain ⟨A2, c2, rfl, hle2, _⟩ := Kd.R_reads hv2) | (with_reducible show Calls Try.prog 83 #[_, _, _] _ _; refine (shift_put _ _ _ xa HH.out).mono ?_; rintro e w2 ⟨v2, rfl, hv2, hb2⟩; obtain ⟨A2, c2, rfl, hle2, _⟩ := Kd.R_reads hv2))
        have hz1 := below_size hb
        have hz2 := below_size hb2
        have hpl := putC_len 2 st x
        refine (joined_kept (w0 := w) (base := w.heap.size + 1 + 1 + 1 + 1) (xs := lg) (ys := (putC 2 st x).1) (below_step (below_step HBW.out hb) hb2) (by omega) (by omega) (Kd.R_below HLG.out (below_step hb hb2)) (own_src hv2 (fun j hj he => by have := own_lt_size HLG.out he; omega)) hle2 (by omega)).mono ?_
        rintro e w4 ⟨v4, rfl, hv4, hch4, hb4, hown4⟩
        have HB4 := Lib.hid hb4
        clear hb4
        have ob4 : One w4 w.heap.size 24 (.slice Ab bb.length cbb) := by have := OB.out; exact BlkIs.one blk0
        have on4 : One w4 (w.heap.size + 1) 3 (.int .i64 k) := by have := ON.out; exact BlkIs.one blk0
        have oe4 : One w4 (w.heap.size + 1 + 1) 25 (.int .i64 0) := by have := OE.out; exact BlkIs.one blk0
        have oa4 : One w4 (w.heap.size + 1 + 1 + 1) 3 (.int .i64 0) := by have := OA.out; exact BlkIs.one blk0
        have HBB4 : Hid (OwnI .u8 5 (w.heap.size + 1 + 1 + 1 + 1) w4 (.slice Ab bb.length cbb) bb) := Lib.hid (Kd.R_mono (Kd.R_step (Kd.R_bound (Kd.R_tight rfl (Kd.R_below HBB.out (below_step hb hb2)))) (fun j hj hlt => hch4.block j hlt (fun hs => HNE.out j hs.2 hj.1.symm))) (fun _ _ => trivial))
        have hz4 := hch4.size
        have HCH4 := Lib.hid hch4
        have HV4 := Lib.hid hv4
        have HOWN4 := Lib.hid hown4
        clear hv4 hch4 hown4
        have hlen4 : (lg ++ (putC 2 st x).1).length ≤ 4 * (k + 1) := by rw [List.length_append]; omega
        have hlen5 := turnC_len (putC 2 st x).2 0
        have hlap : (((lg ++ (putC 2 st x).1) ++ turnC (putC 2 st x).2 0).length : Nat) = (lg ++ (putC 2 st x).1).length + (turnC (putC 2 st x).2 0).length := List.length_append
        have HLAP := Lib.hid hlap
        clear hlap
        obtain ⟨A4, c4, rfl, hle4, _⟩ := Kd.R_reads HV4.out
        obtain ⟨la, hla⟩ : ∃ la, la = (lg ++ (putC 2 st x).1).length := ⟨_, rfl⟩
        obtain ⟨lb, hlb⟩ : ∃ lb, lb = (turnC (putC 2 st x).2 0).length := ⟨_, rfl⟩
        rw [← hla] at hle4 hlen4 ⊢
        rw [← hlb] at hlen5
        have HLA := Lib.hid hla
        have HLB := Lib.hid hlb
        clear hla hlb
        have hadd : IntKind.i64.wrap ((la : Int) + (lb : Int)) = (la : Int) + (lb : Int) := IntWalk.i64_in _ (by omega)
        by_cases hfit : most < (la : Int) + (lb : Int)
        · have HFT := Lib.hid hfit
          clear hlen4 hlen5
          go_wp2_with (go_at_call 43; (with_reducible refine (turn_any _ _ _).mono ?_); rintro e w5 ⟨v5, rfl, hv5, hb5⟩; obtain ⟨A5, c5, rfl, hle5, _⟩ := Kd.R_reads hv5; rw [← HLB.out] at hle5 ⊢; obtain ⟨cb5, fb5⟩ := bcell hb5)
          have ob5 := blk_below ob4 hb5
          have on5 := blk_below on4 hb5
          have oe5 := blk_below oe4 hb5
          have oa5 := blk_below oa4 hb5
          (have cb5 : World.cell? w5 ⟨w.heap.size, 0, none⟩ = some (.slice Ab bb.length cbb) := (by simpa using blk_cell ob5 0)); have fb5 := blk_frozen ob5 0
          (have cn5 : World.cell? w5 ⟨w.heap.size + 1, 0, none⟩ = some (.int .i64 k) := (by simpa using blk_cell on5 0)); have fn5 := blk_frozen on5 0
          (have ce5 : World.cell? w5 ⟨w.heap.size + 1 + 1, 0, none⟩ = some (.int .i64 0) := (by simpa using blk_cell oe5 0)); have fe5 := blk_frozen oe5 0
          go_region
          go_wp2
          have ob6 := ob5
          have HBB5 := Lib.hid (OwnI.below HBB4.out hb5)
          have HB5 := Lib.hid (below_step HB4.out hb5)
          refine leaves_cons (f := 36) (args := #[.pointer (some ⟨w.heap.size + 1 + 1, 0, none⟩), .pointer (some ⟨w.heap.size + 1 + 1 + 1, 0, none⟩)]) (by simp [settle]) (by simp [go_sem]) ?_
          refine (caught_idle _ _ _).mono ?_
          rintro e u' w'' ⟨rfl, rfl, rfl⟩
          refine leaves_cons (f := 40) (args := #[.pointer (some ⟨w.heap.size + 1 + 1, 0, none⟩), .pointer (some ⟨w.heap.size, 0, none⟩), .pointer (some ⟨w.heap.size + 1, 0, none⟩)]) (by simp [settle]) (by simp [go_sem]) ?_
          refine (fit_last_idle _ _ _ _ _ (BlkIs.one blk0)).mono ?_
          rintro e u' w'' ⟨rfl, rfl, rfl⟩
          have he : fitC 2 l most = (bb, (k : Int), 0) := by
            rw [HF.out, HR.out, HR2.out, fitLoop_full HH.out (by have := HFT.out; rw [HLAP.out, ← HLA.out, ← HLB.out]; omega)]
          exact ⟨.tuple #[.slice Ab bb.length cbb, .int .i64 k, .int .i64 0], rresults (rs := [.cell 6 24, .cell 7 3, .cell 8 25]) rfl (by simp) (.cell w.heap.size rfl (load_one (t := 24) blk0 (by kernel_rfl)) (.cell (w.heap.size + 1) rfl (load_one (t := 3) blk0 (by kernel_rfl)) (.cell (w.heap.size + 1 + 1) rfl (load_one (t := 25) blk0 (by kernel_rfl)) .nil))), _, by rw [he], by rw [he]; exact OwnI.lower (base := w.heap.size + 1 + 1 + 1 + 1) (by have := HBB5.out; exact own0) (by omega), by have := HB5.out; exact bel⟩
        · have HFT := Lib.hid hfit
          have HLN := Lib.hid (And.intro hlen4 hlen5)
          clear hlen4 hlen5
          go_wp2_with (go_at_call 43; (with_reducible refine (turn_any _ _ _).mono ?_); rintro e w5 ⟨v5, rfl, hv5, hb5⟩; obtain ⟨A5, c5, rfl, hle5, _⟩ := Kd.R_reads hv5; rw [← HLB.out] at hle5 ⊢; obtain ⟨cb5, fb5⟩ := bcell hb5)
          obtain ⟨hlen4, hlen5⟩ := HLN.out
          have ob5 := blk_below ob4 hb5
          have on5 := blk_below on4 hb5
          have oe5 := blk_below oe4 hb5
          have oa5 := blk_below oa4 hb5
          have hz5 := below_size hb5
          have hj1 := joined_any (w0 := w5) (w := w5) (xs := []) (ys := lg ++ (putC 2 st x).1) (A := A4) (c := c4) (Below.refl _ _) (Kd.R_nil _ _ _ _ _) (own_src (OwnI.below HV4.out hb5) (S := fun k => (Value.slice none 0 0).ownBlock = some k) (fun j _ => by simp [Value.ownBlock])) (by rw [← HLA.out]; exact hle4) (by first | (simp; done) | (simp; omega))
          rw [← HLA.out] at hj1
          refine hj1.mono ?_
          rintro e w6 ⟨v6, rfl, hv6, hb6⟩
          clear hj1
          have hz6 := below_size hb6
          rw [List.nil_append] at hv6
          obtain ⟨A6, c6, rfl⟩ := Kd.R_slice hv6
          rw [← HLA.out] at hv6 ⊢
          have hsrc : ∀ W, Kept w6 W (fun k => (Value.slice A6 la c6).ownBlock = some k) → Kd.C (Kd.int .u8) W A5 (turnC (putC 2 st x).2 0).length (turnC (putC 2 st x).2 0) := Kd.C_kept_own (Kd.R_below (Kd.R_bound hv5) hb6) (fun j hj he => by
            obtain ⟨inner, ho⟩ := Kd.R_own hv6
            have := own_base ho j he
            have := hj.2.2.1
            omega)
          have HV6 := Lib.hid hv6
          have HSRC := Lib.hid hsrc
          have HB5 := Lib.hid (below_step HB4.out hb5)
          have HV5 := Lib.hid (OwnI.below HV4.out hb5)
          clear hv6 hsrc hv5
          go_wp2_with fail
          have hj2 := joined_any (w0 := w5) (w := w6) (v := .slice A6 la c6) (xs := lg ++ (putC 2 st x).1) (ys := turnC (putC 2 st x).2 0) (A := A5) (c := c5) hb6 HV6.out HSRC.out (by rw [← HLB.out]; exact hle5) (by rw [← HLA.out, ← HLB.out]; omega)
          rw [← HLB.out] at hj2
          refine hj2.mono ?_
          rintro e w7 ⟨v7, rfl, hv7, hb7⟩
          clear hj2
          have ob7 := blk_below ob5 hb7
          have on7 := blk_below on5 hb7
          have oe7 := blk_below oe5 hb7
          have oa7 := blk_below oa5 hb7
          obtain ⟨A7, c7, rfl⟩ := Kd.R_slice hv7
          obtain ⟨lc, hlc⟩ : ∃ lc, lc = (lg ++ (putC 2 st x).1 ++ turnC (putC 2 st x).2 0).length := ⟨_, rfl⟩
          rw [← hlc] at hv7 ⊢
          have HLC := Lib.hid hlc
          have HV7 := Lib.hid hv7
          clear hv7 hlc
          (have cb7 : World.cell? w7 ⟨w.heap.size, 0, none⟩ = some (.slice Ab bb.length cbb) := (by simpa using blk_cell ob7 0)); have fb7 := blk_frozen ob7 0
          (have cn7 : World.cell? w7 ⟨w.heap.size + 1, 0, none⟩ = some (.int .i64 k) := (by simpa using blk_cell on7 0)); have fn7 := blk_frozen on7 0
          go_wp2
          have hz7 := below_size hb7
          have hv5 := HV5.out
          rw [← HLA.out] at hv5
          refine ⟨⟨k + 1, (putC 2 st x).2, lg ++ (putC 2 st x).1, lg ++ (putC 2 st x).1 ++ turnC (putC 2 st x).2 0, .slice A7 lc c7, by have := HL.out; omega, by push_cast; rfl, rfl, ?_, ?_, ?_, BlkIs.one blk0, ?_, BlkIs.one blk0, BlkIs.one blk0, ?_, ?_, ?_, ?_⟩, ?_⟩
          · exact OwnI.set (OwnI.set (OwnI.below hv5 hb7) (by first | (simp; done) | (simp; omega))) (by first | (simp; done) | (simp; omega))
          · exact OwnI.lower (OwnI.set (OwnI.set HV7.out (by first | (simp; done) | (simp; omega))) (by first | (simp; done) | (simp; omega))) (by omega)
          · intro g hg hg2
            have h1 := own_lt_size hv5 hg
            obtain ⟨inner, ho⟩ := Kd.R_own HV7.out
            have h2 := own_base ho g hg2
            omega
          · have : One (((w7.setCell ⟨w.heap.size, 0, none⟩ (.slice A7 lc c7)).setCell ⟨w.heap.size + 1, 0, none⟩ (.int .i64 (k + 1)))) (w.heap.size + 1) 3 (.int .i64 (k + 1)) := BlkIs.one blk0
            simpa using this
          · have := HB5.out; exact bel
          · rw [← HLA.out]; omega
          · rw [← HLC.out, HLC.out, HLAP.out, ← HLA.out, ← HLB.out]; omega
          · rw [HR.out, HR2.out, fitLoop_more HH.out (by have := HFT.out; rw [HLAP.out, ← HLA.out, ← HLB.out]; omega)]
          · simp only [intOf]; omega
      · have hh2 : hasC 2 x = false := by simpa using hh
        have HH := Lib.hid hh
        clear hh
        go_wp2_with (first | (go_at_call 41; (with_reducible refine (need_false _ _ _).mono ?_); rintro e w3 ⟨rfl, rfl⟩) | (with_reducible show Calls Try.prog 68 #[_, _] _ _; (with_reducible refine (octets_has _ _).mono ?_); rintro e w1 ⟨rfl, hb⟩; obtain ⟨hc, hf⟩ := bcell hb) | (with_reducible show Calls Try.prog 74 #[_, _] _ _; (with_reducible refine (utf8_has _ _).mono ?_); rintro e w1 ⟨rfl, hb⟩; obtain ⟨hc, hf⟩ := bcell hb) | (with_reducible show Calls Try.prog 81 #[_, _] _ _; (with_reducible refine (shift_has _ _).mono ?_); rintro e w1 ⟨rfl, hb⟩; obtain ⟨hc, hf⟩ := bcell hb))
        have hzb := below_size hb
        have HB1 := Lib.hid (below_step HBW.out hb)
        have ob1 := blk_below OB.out hb
        have on1 := blk_below ON.out hb
        have oe1 := blk_below OE.out hb
        have oa1 := blk_below OA.out hb
        refine leaves_cons (f := 36) (args := #[.pointer (some ⟨w.heap.size + 1 + 1, 0, none⟩), .pointer (some ⟨w.heap.size + 1 + 1 + 1, 0, none⟩)]) (by simp [settle]) (by simp [go_sem]) ?_
        refine (caught_panic (w.heap.size + 1 + 1) (w.heap.size + 1 + 1 + 1) 15 0 0 0 [] _ oe1 oa1 (by omega)).mono ?_
        rintro e u' w'' ⟨rfl, rfl, hch, hp, hq⟩
        refine leaves_cons (f := 40) (args := #[.pointer (some ⟨w.heap.size + 1 + 1, 0, none⟩), .pointer (some ⟨w.heap.size, 0, none⟩), .pointer (some ⟨w.heap.size + 1, 0, none⟩)]) (by simp [settle]) (by simp [go_sem]) ?_
        refine (fit_last _ _ _ _ _ (.int .i64 15) _ _ 15 (by decide) hp (blk_chg ob1 hch (by first | (simp; done) | (simp; omega))) (blk_chg on1 hch (by first | (simp; done) | (simp; omega))) (by omega) (by omega) (by omega)).mono ?_
        rintro e u' w4 ⟨rfl, rfl, hch4, q1, q2, q3⟩
        have he : fitC 2 l most = ([], 0, 15) := by
          rw [HF.out, HR.out, HR2.out, fitLoop_no HH.out]
        exact ⟨.tuple #[.slice none 0 0, .int .i64 0, .int .i64 15], rresults (rs := [.cell 6 24, .cell 7 3, .cell 8 25]) rfl (by simp) (.cell w.heap.size rfl (load_one (t := 24) q1 (by kernel_rfl)) (.cell (w.heap.size + 1) rfl (load_one (t := 3) q2 (by kernel_rfl)) (.cell (w.heap.size + 1 + 1) rfl (load_one (t := 25) q3 (by kernel_rfl)) .nil))), _, by rw [he], by rw [he]; exact Kd.R_nil _ _ _ _ _, below_chg (below_chg HB1.out hch (by omega)) hch4 (by omega)⟩
    · have hkk : l.length ≤ k := by have := HL.out; omega
      have HKK := Lib.hid hkk
      have ob5 := OB.out
      have on5 := ON.out
      have oe5 := OE.out
      (have cb5 : World.cell? wr ⟨w.heap.size, 0, none⟩ = some (.slice Ab bb.length cbb) := (by simpa using blk_cell ob5 0)); have fb5 := blk_frozen ob5 0
      (have cn5 : World.cell? wr ⟨w.heap.size + 1, 0, none⟩ = some (.int .i64 k) := (by simpa using blk_cell on5 0)); have fn5 := blk_frozen on5 0
      (have ce5 : World.cell? wr ⟨w.heap.size + 1 + 1, 0, none⟩ = some (.int .i64 0) := (by simpa using blk_cell oe5 0)); have fe5 := blk_frozen oe5 0
      clear hkk ob on oe oa hbw
      go_wp2
      go_region
      go_wp2
      have HBB5 := HBB
      have HB5 := HBW
      refine leaves_cons (f := 36) (args := #[.pointer (some ⟨w.heap.size + 1 + 1, 0, none⟩), .pointer (some ⟨w.heap.size + 1 + 1 + 1, 0, none⟩)]) (by simp [settle]) (by simp [go_sem]) ?_
      refine (caught_idle _ _ _).mono ?_
      rintro e u' w'' ⟨rfl, rfl, rfl⟩
      refine leaves_cons (f := 40) (args := #[.pointer (some ⟨w.heap.size + 1 + 1, 0, none⟩), .pointer (some ⟨w.heap.size, 0, none⟩), .pointer (some ⟨w.heap.size + 1, 0, none⟩)]) (by simp [settle]) (by simp [go_sem]) ?_
      refine (fit_last_idle _ _ _ _ _ (BlkIs.one blk0)).mono ?_
      rintro e u' w'' ⟨rfl, rfl, rfl⟩
      have he : fitC 2 l most = (bb, (k : Int), 0) := by
        rw [HF.out, HR.out, List.drop_eq_nil_of_le HKK.out]; rfl
      exact ⟨.tuple #[.slice Ab bb.length cbb, .int .i64 k, .int .i64 0], rresults (rs := [.cell 6 24, .cell 7 3, .cell 8 25]) rfl (by simp) (.cell w.heap.size rfl (load_one (t := 24) blk0 (by kernel_rfl)) (.cell (w.heap.size + 1) rfl (load_one (t := 3) blk0 (by kernel_rfl)) (.cell (w.heap.size + 1 + 1) rfl (load_one (t := 25) blk0 (by kernel_rfl)) .nil))), _, by rw [he], by rw [he]; exact OwnI.lower (base := w.heap.size + 1 + 1 + 1 + 1) (by have := HBB5.out; exact own0) (by omega), by have := HB5.out; exact bel⟩

set_option maxHeartbeats 4000000 in
theorem fit_3 (enc most : Int) (h : enc = 3) (A : Option Addr) (n c : Nat) (l : List Int) (w : World) (hn : n ≤ 20000) (hmost : 0 ≤ most) (hC : Kd.C (Kd.int .u32) w A n l) (hx : U32s l) :
    Calls Try.prog 15 #[.int .i64 enc, .slice A n c, .int .i64 most] w (FitPost enc l most w) := by
  have hl : l.length = n := hC.1
  have HL := Lib.hid hl
  have HC := Lib.hid hC
  have HX := Lib.hid hx
  subst h
  have hok : encOk 3 := by decide
  have HF : Hid (fitC 3 l most = fitLoop 3 most 0 [] [] 0 l) := Lib.hid (by unfold fitC; rw [if_neg (by simpa using hok), if_neg (by omega), if_neg (by omega)])
  clear hl hC hx
  have hn2 : (n : Int) ≤ 20000 := by omega
  have m1 := meth_has_3
  have m2 := meth_put_3
  go_enter_defers Try.func15, Try.ntmps15
  go_wp2_with (first | (go_at_call 37; (with_reducible refine (of_ok _ hok _).mono ?_); rintro e w1 ⟨rfl, rfl⟩; simp only [encV_1, encV_2, encV_3]) | (go_at_call 38; (with_reducible refine (few_ok _ hn2 _).mono ?_); rintro e w1 ⟨rfl, rfl⟩) | (go_at_call 41; (with_reducible refine (need_true _ _ _).mono ?_); rintro e w3 ⟨rfl, rfl⟩))
  go_loopw [11, 12, 29] (fun vs vl vi wr => FitRel 3 most l w wr vl vs vi) (fun _ _ vi _ => n - (intOf vi).toNat)
  case atStart =>
    exact ⟨0, 0, [], [], .slice none 0 0, Nat.zero_le _, rfl, rfl, Kd.R_nil _ _ _ _ _, Kd.R_nil _ _ _ _ _, by simp [Value.ownBlock], BlkIs.one blk0, BlkIs.one blk0, BlkIs.one blk0, BlkIs.one blk0, bel, by simp, by simp, by simp⟩
  case round =>
    obtain ⟨k, st, lg, bb, vb, hk, rfl, rfl, hlg, hbb, hne, ob, on, oe, oa, hbw, hll, hbl, hr⟩ := hrel
    obtain ⟨Ab, cbb, rfl⟩ := Kd.R_slice hbb
    have HR := Lib.hid hr
    have HLG := Lib.hid hlg
    have HBB := Lib.hid hbb
    have HNE := Lib.hid hne
    have HLK := Lib.hid hk
    have OB := Lib.hid ob
    have ON := Lib.hid on
    have OE := Lib.hid oe
    have OA := Lib.hid oa
    have HBW := Lib.hid hbw
    have hsz := below_size hbw
    have hsa := blk_lt oa
    clear hr hlg hbb hne hk
    by_cases hkn : k < n
    · obtain ⟨b, off, rfl, hlt, hcs⟩ := open_C (C_of_below HC.out hbw) (by omega)
      have hcell := hcs k hkn
      clear hcs hbw ob on oe oa
      obtain ⟨xa, xb⟩ := HX.out k
      have hR2 : l.drop k = l.getD k 0 :: l.drop (k + 1) := by
        have := HL.out
        rw [List.drop_eq_getElem_cons (by omega), List.getD_eq_getElem?_getD, List.getElem?_eq_getElem (by omega)]; rfl
      have HR2 := Lib.hid hR2
      clear hR2
      generalize l.getD k 0 = x at *
      by_cases hh : hasC 3 x = true
      · have HH := Lib.hid hh
        go_wp2_with (first | (go_at_call 41; (with_reducible refine (need_true _ _ _).mono ?_); rintro e w3 ⟨rfl, rfl⟩) | (with_reducible show Calls Try.prog 68 #[_, _] _ _; (with_reducible refine (octets_has _ _).mono ?_); rintro e w1 ⟨rfl, hb⟩; obtain ⟨hc, hf⟩ := bcell hb) | (with_reducible show Calls Try.prog 74 #[_, _] _ _; (with_reducible refine (utf8_has _ _).mono ?_); rintro e w1 ⟨rfl, hb⟩; obtain ⟨hc, hf⟩ := bcell hb) | (with_reducible show Calls Try.prog 81 #[_, _] _ _; (with_reducible refine (shift_has _ _).mono ?_); rintro e w1 ⟨rfl, hb⟩; obtain ⟨hc, hf⟩ := bcell hb) | (with_reducible show Calls Try.prog 70 #[_, _, _] _ _; refine (octets_put' _ _ _ xa HH.out).mono ?_; rintro e w2 ⟨v2, rfl, hv2, hb2⟩; obtain ⟨A2, c2, rfl, hle2, _⟩ := Kd.R_reads hv2) | (with_reducible show Calls Try.prog 76 #[_, _, _] _ _; refine (utf8_put' _ _ _ xa HH.out).mono ?_; rintro e w2 ⟨v2, rfl, hv2, hb2⟩; obtain ⟨A2, c2, rfl, hle2, _⟩ := Kd.R_reads hv2) | (with_reducible show Calls Try.prog 83 #[_, _, _] _ _; refine (shift_put _ _ _ xa HH.out).mono ?_; rintro e w2 ⟨v2, rfl, hv2, hb2⟩; obtain ⟨A2, c2, rfl, hle2, _⟩ := Kd.R_reads hv2))
        have hz1 := below_size hb
        have hz2 := below_size hb2
        have hpl := putC_len 3 st x
        refine (joined_kept (w0 := w) (base := w.heap.size + 1 + 1 + 1 + 1) (xs := lg) (ys := (putC 3 st x).1) (below_step (below_step HBW.out hb) hb2) (by omega) (by omega) (Kd.R_below HLG.out (below_step hb hb2)) (own_src hv2 (fun j hj he => by have := own_lt_size HLG.out he; omega)) hle2 (by omega)).mono ?_
        rintro e w4 ⟨v4, rfl, hv4, hch4, hb4, hown4⟩
        have HB4 := Lib.hid hb4
        clear hb4
        have ob4 : One w4 w.heap.size 24 (.slice Ab bb.length cbb) := by have := OB.out; exact BlkIs.one blk0
        have on4 : One w4 (w.heap.size + 1) 3 (.int .i64 k) := by have := ON.out; exact BlkIs.one blk0
        have oe4 : One w4 (w.heap.size + 1 + 1) 25 (.int .i64 0) := by have := OE.out; exact BlkIs.one blk0
        have oa4 : One w4 (w.heap.size + 1 + 1 + 1) 3 (.int .i64 0) := by have := OA.out; exact BlkIs.one blk0
        have HBB4 : Hid (OwnI .u8 5 (w.heap.size + 1 + 1 + 1 + 1) w4 (.slice Ab bb.length cbb) bb) := Lib.hid (Kd.R_mono (Kd.R_step (Kd.R_bound (Kd.R_tight rfl (Kd.R_below HBB.out (below_step hb hb2)))) (fun j hj hlt => hch4.block j hlt (fun hs => HNE.out j hs.2 hj.1.symm))) (fun _ _ => trivial))
        have hz4 := hch4.size
        have HCH4 := Lib.hid hch4
        have HV4 := Lib.hid hv4
        have HOWN4 := Lib.hid hown4
        clear hv4 hch4 hown4
        have hlen4 : (lg ++ (putC 3 st x).1).length ≤ 4 * (k + 1) := by rw [List.length_append]; omega
        have hlen5 := turnC_len (putC 3 st x).2 0
        have hlap : (((lg ++ (putC 3 st x).1) ++ turnC (putC 3 st x).2 0).length : Nat) = (lg ++ (putC 3 st x).1).length + (turnC (putC 3 st x).2 0).length := List.length_append
        have HLAP := Lib.hid hlap
        clear hlap
        obtain ⟨A4, c4, rfl, hle4, _⟩ := Kd.R_reads HV4.out
        obtain ⟨la, hla⟩ : ∃ la, la = (lg ++ (putC 3 st x).1).length := ⟨_, rfl⟩
        obtain ⟨lb, hlb⟩ : ∃ lb, lb = (turnC (putC 3 st x).2 0).length := ⟨_, rfl⟩
        rw [← hla] at hle4 hlen4 ⊢
        rw [← hlb] at hlen5
        have HLA := Lib.hid hla
        have HLB := Lib.hid hlb
        clear hla hlb
        have hadd : IntKind.i64.wrap ((la : Int) + (lb : Int)) = (la : Int) + (lb : Int) := IntWalk.i64_in _ (by omega)
        by_cases hfit : most < (la : Int) + (lb : Int)
        · have HFT := Lib.hid hfit
          clear hlen4 hlen5
          go_wp2_with (go_at_call 43; (with_reducible refine (turn_any _ _ _).mono ?_); rintro e w5 ⟨v5, rfl, hv5, hb5⟩; obtain ⟨A5, c5, rfl, hle5, _⟩ := Kd.R_reads hv5; rw [← HLB.out] at hle5 ⊢; obtain ⟨cb5, fb5⟩ := bcell hb5)
          have ob5 := blk_below ob4 hb5
          have on5 := blk_below on4 hb5
          have oe5 := blk_below oe4 hb5
          have oa5 := blk_below oa4 hb5
          (have cb5 : World.cell? w5 ⟨w.heap.size, 0, none⟩ = some (.slice Ab bb.length cbb) := (by simpa using blk_cell ob5 0)); have fb5 := blk_frozen ob5 0
          (have cn5 : World.cell? w5 ⟨w.heap.size + 1, 0, none⟩ = some (.int .i64 k) := (by simpa using blk_cell on5 0)); have fn5 := blk_frozen on5 0
          (have ce5 : World.cell? w5 ⟨w.heap.size + 1 + 1, 0, none⟩ = some (.int .i64 0) := (by simpa using blk_cell oe5 0)); have fe5 := blk_frozen oe5 0
          go_region
          go_wp2
          have ob6 := ob5
          have HBB5 := Lib.hid (OwnI.below HBB4.out hb5)
          have HB5 := Lib.hid (below_step HB4.out hb5)
          refine leaves_cons (f := 36) (args := #[.pointer (some ⟨w.heap.size + 1 + 1, 0, none⟩), .pointer (some ⟨w.heap.size + 1 + 1 + 1, 0, none⟩)]) (by simp [settle]) (by simp [go_sem]) ?_
          refine (caught_idle _ _ _).mono ?_
          rintro e u' w'' ⟨rfl, rfl, rfl⟩
          refine leaves_cons (f := 40) (args := #[.pointer (some ⟨w.heap.size + 1 + 1, 0, none⟩), .pointer (some ⟨w.heap.size, 0, none⟩), .pointer (some ⟨w.heap.size + 1, 0, none⟩)]) (by simp [settle]) (by simp [go_sem]) ?_
          refine (fit_last_idle _ _ _ _ _ (BlkIs.one blk0)).mono ?_
          rintro e u' w'' ⟨rfl, rfl, rfl⟩
          have he : fitC 3 l most = (bb, (k : Int), 0) := by
            rw [HF.out, HR.out, HR2.out, fitLoop_full HH.out (by have := HFT.out; rw [HLAP.out, ← HLA.out, ← HLB.out]; omega)]
          exact ⟨.tuple #[.slice Ab bb.length cbb, .int .i64 k, .int .i64 0], rresults (rs := [.cell 6 24, .cell 7 3, .cell 8 25]) rfl (by simp) (.cell w.heap.size rfl (load_one (t := 24) blk0 (by kernel_rfl)) (.cell (w.heap.size + 1) rfl (load_one (t := 3) blk0 (by kernel_rfl)) (.cell (w.heap.size + 1 + 1) rfl (load_one (t := 25) blk0 (by kernel_rfl)) .nil))), _, by rw [he], by rw [he]; exact OwnI.lower (base := w.heap.size + 1 + 1 + 1 + 1) (by have := HBB5.out; exact own0) (by omega), by have := HB5.out; exact bel⟩
        · have HFT := Lib.hid hfit
          have HLN := Lib.hid (And.intro hlen4 hlen5)
          clear hlen4 hlen5
          go_wp2_with (go_at_call 43; (with_reducible refine (turn_any _ _ _).mono ?_); rintro e w5 ⟨v5, rfl, hv5, hb5⟩; obtain ⟨A5, c5, rfl, hle5, _⟩ := Kd.R_reads hv5; rw [← HLB.out] at hle5 ⊢; obtain ⟨cb5, fb5⟩ := bcell hb5)
          obtain ⟨hlen4, hlen5⟩ := HLN.out
          have ob5 := blk_below ob4 hb5
          have on5 := blk_below on4 hb5
          have oe5 := blk_below oe4 hb5
          have oa5 := blk_below oa4 hb5
          have hz5 := below_size hb5
          have hj1 := joined_any (w0 := w5) (w := w5) (xs := []) (ys := lg ++ (putC 3 st x).1) (A := A4) (c := c4) (Below.refl _ _) (Kd.R_nil _ _ _ _ _) (own_src (OwnI.below HV4.out hb5) (S := fun k => (Value.slice none 0 0).ownBlock = some k) (fun j _ => by simp [Value.ownBlock])) (by rw [← HLA.out]; exact hle4) (by first | (simp; done) | (simp; omega))
          rw [← HLA.out] at hj1
          refine hj1.mono ?_
          rintro e w6 ⟨v6, rfl, hv6, hb6⟩
          clear hj1
          have hz6 := below_size hb6
          rw [List.nil_append] at hv6
          obtain ⟨A6, c6, rfl⟩ := Kd.R_slice hv6
          rw [← HLA.out] at hv6 ⊢
          have hsrc : ∀ W, Kept w6 W (fun k => (Value.slice A6 la c6).ownBlock = some k) → Kd.C (Kd.int .u8) W A5 (turnC (putC 3 st x).2 0).length (turnC (putC 3 st x).2 0) := Kd.C_kept_own (Kd.R_below (Kd.R_bound hv5) hb6) (fun j hj he => by
            obtain ⟨inner, ho⟩ := Kd.R_own hv6
            have := own_base ho j he
            have := hj.2.2.1
            omega)
          have HV6 := Lib.hid hv6
          have HSRC := Lib.hid hsrc
          have HB5 := Lib.hid (below_step HB4.out hb5)
          have HV5 := Lib.hid (OwnI.below HV4.out hb5)
          clear hv6 hsrc hv5
          go_wp2_with fail
          have hj2 := joined_any (w0 := w5) (w := w6) (v := .slice A6 la c6) (xs := lg ++ (putC 3 st x).1) (ys := turnC (putC 3 st x).2 0) (A := A5) (c := c5) hb6 HV6.out HSRC.out (by rw [← HLB.out]; exact hle5) (by rw [← HLA.out, ← HLB.out]; omega)
          rw [← HLB.out] at hj2
          refine hj2.mono ?_
          rintro e w7 ⟨v7, rfl, hv7, hb7⟩
          clear hj2
          have ob7 := blk_below ob5 hb7
          have on7 := blk_below on5 hb7
          have oe7 := blk_below oe5 hb7
          have oa7 := blk_below oa5 hb7
          obtain ⟨A7, c7, rfl⟩ := Kd.R_slice hv7
          obtain ⟨lc, hlc⟩ : ∃ lc, lc = (lg ++ (putC 3 st x).1 ++ turnC (putC 3 st x).2 0).length := ⟨_, rfl⟩
          rw [← hlc] at hv7 ⊢
          have HLC := Lib.hid hlc
          have HV7 := Lib.hid hv7
          clear hv7 hlc
          (have cb7 : World.cell? w7 ⟨w.heap.size, 0, none⟩ = some (.slice Ab bb.length cbb) := (by simpa using blk_cell ob7 0)); have fb7 := blk_frozen ob7 0
          (have cn7 : World.cell? w7 ⟨w.heap.size + 1, 0, none⟩ = some (.int .i64 k) := (by simpa using blk_cell on7 0)); have fn7 := blk_frozen on7 0
          go_wp2
          have hz7 := below_size hb7
          have hv5 := HV5.out
          rw [← HLA.out] at hv5
          refine ⟨⟨k + 1, (putC 3 st x).2, lg ++ (putC 3 st x).1, lg ++ (putC 3 st x).1 ++ turnC (putC 3 st x).2 0, .slice A7 lc c7, by have := HL.out; omega, by push_cast; rfl, rfl, ?_, ?_, ?_, BlkIs.one blk0, ?_, BlkIs.one blk0, BlkIs.one blk0, ?_, ?_, ?_, ?_⟩, ?_⟩
          · exact OwnI.set (OwnI.set (OwnI.below hv5 hb7) (by first | (simp; done) | (simp; omega))) (by first | (simp; done) | (simp; omega))
          · exact OwnI.lower (OwnI.set (OwnI.set HV7.out (by first | (simp; done) | (simp; omega))) (by first | (simp; done) | (simp; omega))) (by omega)
          · intro g hg hg2
            have h1 := own_lt_size hv5 hg
            obtain ⟨inner, ho⟩ := Kd.R_own HV7.out
            have h2 := own_base ho g hg2
            omega
          · have : One (((w7.setCell ⟨w.heap.size, 0, none⟩ (.slice A7 lc c7)).setCell ⟨w.heap.size + 1, 0, none⟩ (.int .i64 (k + 1)))) (w.heap.size + 1) 3 (.int .i64 (k + 1)) := BlkIs.one blk0
            simpa using this
          · have := HB5.out; exact bel
          · rw [← HLA.out]; omega
          · rw [← HLC.out, HLC.out, HLAP.out, ← HLA.out, ← HLB.out]; omega
          · rw [HR.out, HR2.out, fitLoop_more HH.out (by have := HFT.out; rw [HLAP.out, ← HLA.out, ← HLB.out]; omega)]
          · simp only [intOf]; omega
      · have hh2 : hasC 3 x = false := by simpa using hh
        have HH := Lib.hid hh
        clear hh
        go_wp2_with (first | (go_at_call 41; (with_reducible refine (need_false _ _ _).mono ?_); rintro e w3 ⟨rfl, rfl⟩) | (with_reducible show Calls Try.prog 68 #[_, _] _ _; (with_reducible refine (octets_has _ _).mono ?_); rintro e w1 ⟨rfl, hb⟩; obtain ⟨hc, hf⟩ := bcell hb) | (with_reducible show Calls Try.prog 74 #[_, _] _ _; (with_reducible refine (utf8_has _ _).mono ?_); rintro e w1 ⟨rfl, hb⟩; obtain ⟨hc, hf⟩ := bcell hb) | (with_reducible show Calls Try.prog 81 #[_, _] _ _; (with_reducible refine (shift_has _ _).mono ?_); rintro e w1 ⟨rfl, hb⟩; obtain ⟨hc, hf⟩ := bcell hb))
        have hzb := below_size hb
        have HB1 := Lib.hid (below_step HBW.out hb)
        have ob1 := blk_below OB.out hb
        have on1 := blk_below ON.out hb
        have oe1 := blk_below OE.out hb
        have oa1 := blk_below OA.out hb
        refine leaves_cons (f := 36) (args := #[.pointer (some ⟨w.heap.size + 1 + 1, 0, none⟩), .pointer (some ⟨w.heap.size + 1 + 1 + 1, 0, none⟩)]) (by simp [settle]) (by simp [go_sem]) ?_
        refine (caught_panic (w.heap.size + 1 + 1) (w.heap.size + 1 + 1 + 1) 15 0 0 0 [] _ oe1 oa1 (by omega)).mono ?_
        rintro e u' w'' ⟨rfl, rfl, hch, hp, hq⟩
        refine leaves_cons (f := 40) (args := #[.pointer (some ⟨w.heap.size + 1 + 1, 0, none⟩), .pointer (some ⟨w.heap.size, 0, none⟩), .pointer (some ⟨w.heap.size + 1, 0, none⟩)]) (by simp [settle]) (by simp [go_sem]) ?_
        refine (fit_last _ _ _ _ _ (.int .i64 15) _ _ 15 (by decide) hp (blk_chg ob1 hch (by first | (simp; done) | (simp; omega))) (blk_chg on1 hch (by first | (simp; done) | (simp; omega))) (by omega) (by omega) (by omega)).mono ?_
        rintro e u' w4 ⟨rfl, rfl, hch4, q1, q2, q3⟩
        have he : fitC 3 l most = ([], 0, 15) := by
          rw [HF.out, HR.out, HR2.out, fitLoop_no HH.out]
        exact ⟨.tuple #[.slice none 0 0, .int .i64 0, .int .i64 15], rresults (rs := [.cell 6 24, .cell 7 3, .cell 8 25]) rfl (by simp) (.cell w.heap.size rfl (load_one (t := 24) q1 (by kernel_rfl)) (.cell (w.heap.size + 1) rfl (load_one (t := 3) q2 (by kernel_rfl)) (.cell (w.heap.size + 1 + 1) rfl (load_one (t := 25) q3 (by kernel_rfl)) .nil))), _, by rw [he], by rw [he]; exact Kd.R_nil _ _ _ _ _, below_chg (below_chg HB1.out hch (by omega)) hch4 (by omega)⟩
    · have hkk : l.length ≤ k := by have := HL.out; omega
      have HKK := Lib.hid hkk
      have ob5 := OB.out
      have on5 := ON.out
      have oe5 := OE.out
      (have cb5 : World.cell? wr ⟨w.heap.size, 0, none⟩ = some (.slice Ab bb.length cbb) := (by simpa using blk_cell ob5 0)); have fb5 := blk_frozen ob5 0
      (have cn5 : World.cell? wr ⟨w.heap.size + 1, 0, none⟩ = some (.int .i64 k) := (by simpa using blk_cell on5 0)); have fn5 := blk_frozen on5 0
      (have ce5 : World.cell? wr ⟨w.heap.size + 1 + 1, 0, none⟩ = some (.int .i64 0) := (by simpa using blk_cell oe5 0)); have fe5 := blk_frozen oe5 0
      clear hkk ob on oe oa hbw
      go_wp2
      go_region
      go_wp2
      have HBB5 := HBB
      have HB5 := HBW
      refine leaves_cons (f := 36) (args := #[.pointer (some ⟨w.heap.size + 1 + 1, 0, none⟩), .pointer (some ⟨w.heap.size + 1 + 1 + 1, 0, none⟩)]) (by simp [settle]) (by simp [go_sem]) ?_
      refine (caught_idle _ _ _).mono ?_
      rintro e u' w'' ⟨rfl, rfl, rfl⟩
      refine leaves_cons (f := 40) (args := #[.pointer (some ⟨w.heap.size + 1 + 1, 0, none⟩), .pointer (some ⟨w.heap.size, 0, none⟩), .pointer (some ⟨w.heap.size + 1, 0, none⟩)]) (by simp [settle]) (by simp [go_sem]) ?_
      refine (fit_last_idle _ _ _ _ _ (BlkIs.one blk0)).mono ?_
      rintro e u' w'' ⟨rfl, rfl, rfl⟩
      have he : fitC 3 l most = (bb, (k : Int), 0) := by
        rw [HF.out, HR.out, List.drop_eq_nil_of_le HKK.out]; rfl
      exact ⟨.tuple #[.slice Ab bb.length cbb, .int .i64 k, .int .i64 0], rresults (rs := [.cell 6 24, .cell 7 3, .cell 8 25]) rfl (by simp) (.cell w.heap.size rfl (load_one (t := 24) blk0 (by kernel_rfl)) (.cell (w.heap.size + 1) rfl (load_one (t := 3) blk0 (by kernel_rfl)) (.cell (w.heap.size + 1 + 1) rfl (load_one (t := 25) blk0 (by kernel_rfl)) .nil))), _, by rw [he], by rw [he]; exact OwnI.lower (base := w.heap.size + 1 + 1 + 1 + 1) (by have := HBB5.out; exact own0) (by omega), by have := HB5.out; exact bel⟩

set_option maxHeartbeats 4000000 in
theorem Fit_any (enc most : Int) (A : Option Addr) (n c : Nat) (l : List Int) (w : World) (hC : Kd.C (Kd.int .u32) w A n l) (hx : U32s l) :
    Calls Try.prog 15 #[.int .i64 enc, .slice A n c, .int .i64 most] w (FitPost enc l most w) := by
  have hl : l.length = n := hC.1
  by_cases h : encOk enc
  · by_cases hn : n ≤ 20000
    · by_cases hmost : 0 ≤ most
      · rcases enc_cases h with h1 | h2 | h3
        · exact fit_1 enc most h1 A n c l w hn hmost hC hx
        · exact fit_2 enc most h2 A n c l w hn hmost hC hx
        · exact fit_3 enc most h3 A n c l w hn hmost hC hx
      · have HE : Hid (fitC enc l most = ([], 0, 1)) := Lib.hid (by unfold fitC; rw [if_neg (by simpa using h), if_neg (by omega), if_pos (by omega)])
        have H := Lib.hid h
        have hn2 : (n : Int) ≤ 20000 := by omega
        have hd : decide (0 ≤ most) = false := by simp; omega
        have hmost : most < 0 := by omega
        clear h hl hC hx hn
        go_enter_defers Try.func15, Try.ntmps15
        go_wp2_with (first | (go_at_call 37; (with_reducible refine (of_ok _ H.out _).mono ?_); rintro e w1 ⟨rfl, rfl⟩) | (go_at_call 38; (with_reducible refine (few_ok _ hn2 _).mono ?_); rintro e w1 ⟨rfl, rfl⟩) | (go_at_call 41; (with_reducible refine (need_false _ _ _).mono ?_); rintro e w3 ⟨rfl, rfl⟩))
        refine leaves_cons (f := 36) (args := #[.pointer (some ⟨w.heap.size + 1 + 1, 0, none⟩), .pointer (some ⟨w.heap.size + 1 + 1 + 1, 0, none⟩)]) (by simp [settle]) (by simp [go_sem]) ?_
        refine (caught_panic (w.heap.size + 1 + 1) (w.heap.size + 1 + 1 + 1) 1 0 0 0 [] _ (BlkIs.one blk0) (BlkIs.one blk0) (by omega)).mono ?_
        rintro e u' w'' ⟨rfl, rfl, hch, hp, hq⟩
        refine leaves_cons (f := 40) (args := #[.pointer (some ⟨w.heap.size + 1 + 1, 0, none⟩), .pointer (some ⟨w.heap.size, 0, none⟩), .pointer (some ⟨w.heap.size + 1, 0, none⟩)]) (by simp [settle]) (by simp [go_sem]) ?_
        refine (fit_last _ _ _ _ _ (.int .i64 1) (.slice none 0 0) (.int .i64 0) 1 (by decide) hp (blk_chg (BlkIs.one blk0) hch (by first | (simp; done) | (simp; omega))) (blk_chg (BlkIs.one blk0) hch (by first | (simp; done) | (simp; omega))) (by omega) (by omega) (by omega)).mono ?_
        rintro e u' w4 ⟨rfl, rfl, hch4, q1, q2, q3⟩
        exact ⟨.tuple #[.slice none 0 0, .int .i64 0, .int .i64 1], rresults (rs := [.cell 6 24, .cell 7 3, .cell 8 25]) rfl (by simp) (.cell w.heap.size rfl (load_one (t := 24) q1 (by kernel_rfl)) (.cell (w.heap.size + 1) rfl (load_one (t := 3) q2 (by kernel_rfl)) (.cell (w.heap.size + 1 + 1) rfl (load_one (t := 25) q3 (by kernel_rfl)) .nil))), _, by rw [HE.out], by rw [HE.out]; exact Kd.R_nil _ _ _ _ _, below_chg (below_chg bel hch (by omega)) hch4 (by omega)⟩
    · have HE : Hid (fitC enc l most = ([], 0, 2)) := Lib.hid (by unfold fitC; rw [if_neg (by simpa using h), if_pos (by omega)])
      have H := Lib.hid h
      have hn2 : 20000 < (n : Int) := by omega
      clear h hl hC hx hn
      go_enter_defers Try.func15, Try.ntmps15
      go_wp2_with (first | (go_at_call 37; (with_reducible refine (of_ok _ H.out _).mono ?_); rintro e w1 ⟨rfl, rfl⟩) | (go_at_call 38; (with_reducible refine (few_no _ hn2 _).mono ?_); rintro e w1 ⟨rfl, rfl⟩))
      refine leaves_cons (f := 36) (args := #[.pointer (some ⟨w.heap.size + 1 + 1, 0, none⟩), .pointer (some ⟨w.heap.size + 1 + 1 + 1, 0, none⟩)]) (by simp [settle]) (by simp [go_sem]) ?_
      refine (caught_panic (w.heap.size + 1 + 1) (w.heap.size + 1 + 1 + 1) 2 0 0 0 [] _ (BlkIs.one blk0) (BlkIs.one blk0) (by omega)).mono ?_
      rintro e u' w'' ⟨rfl, rfl, hch, hp, hq⟩
      refine leaves_cons (f := 40) (args := #[.pointer (some ⟨w.heap.size + 1 + 1, 0, none⟩), .pointer (some ⟨w.heap.size, 0, none⟩), .pointer (some ⟨w.heap.size + 1, 0, none⟩)]) (by simp [settle]) (by simp [go_sem]) ?_
      refine (fit_last _ _ _ _ _ (.int .i64 2) (.slice none 0 0) (.int .i64 0) 2 (by decide) hp (blk_chg (BlkIs.one blk0) hch (by first | (simp; done) | (simp; omega))) (blk_chg (BlkIs.one blk0) hch (by first | (simp; done) | (simp; omega))) (by omega) (by omega) (by omega)).mono ?_
      rintro e u' w4 ⟨rfl, rfl, hch4, q1, q2, q3⟩
      exact ⟨.tuple #[.slice none 0 0, .int .i64 0, .int .i64 2], rresults (rs := [.cell 6 24, .cell 7 3, .cell 8 25]) rfl (by simp) (.cell w.heap.size rfl (load_one (t := 24) q1 (by kernel_rfl)) (.cell (w.heap.size + 1) rfl (load_one (t := 3) q2 (by kernel_rfl)) (.cell (w.heap.size + 1 + 1) rfl (load_one (t := 25) q3 (by kernel_rfl)) .nil))), _, by rw [HE.out], by rw [HE.out]; exact Kd.R_nil _ _ _ _ _, below_chg (below_chg bel hch (by omega)) hch4 (by omega)⟩
  · have HE : Hid (fitC enc l most = ([], 0, 1)) := Lib.hid (by unfold fitC; rw [if_pos h])
    have H := Lib.hid h
    clear h hl hC hx
    go_enter_defers Try.func15, Try.ntmps15
    go_wp2_with (go_at_call 37; (with_reducible refine (of_no _ H.out _).mono ?_); rintro e w1 ⟨rfl, rfl⟩)
    refine leaves_cons (f := 36) (args := #[.pointer (some ⟨w.heap.size + 1 + 1, 0, none⟩), .pointer (some ⟨w.heap.size + 1 + 1 + 1, 0, none⟩)]) (by simp [settle]) (by simp [go_sem]) ?_
    refine (caught_panic (w.heap.size + 1 + 1) (w.heap.size + 1 + 1 + 1) 1 0 0 0 [] _ (BlkIs.one blk0) (BlkIs.one blk0) (by omega)).mono ?_
    rintro e u' w'' ⟨rfl, rfl, hch, hp, hq⟩
    refine leaves_cons (f := 40) (args := #[.pointer (some ⟨w.heap.size + 1 + 1, 0, none⟩), .pointer (some ⟨w.heap.size, 0, none⟩), .pointer (some ⟨w.heap.size + 1, 0, none⟩)]) (by simp [settle]) (by simp [go_sem]) ?_
    refine (fit_last _ _ _ _ _ (.int .i64 1) (.slice none 0 0) (.int .i64 0) 1 (by decide) hp (blk_chg (BlkIs.one blk0) hch (by first | (simp; done) | (simp; omega))) (blk_chg (BlkIs.one blk0) hch (by first | (simp; done) | (simp; omega))) (by omega) (by omega) (by omega)).mono ?_
    rintro e u' w4 ⟨rfl, rfl, hch4, q1, q2, q3⟩
    exact ⟨.tuple #[.slice none 0 0, .int .i64 0, .int .i64 1], rresults (rs := [.cell 6 24, .cell 7 3, .cell 8 25]) rfl (by simp) (.cell w.heap.size rfl (load_one (t := 24) q1 (by kernel_rfl)) (.cell (w.heap.size + 1) rfl (load_one (t := 3) q2 (by kernel_rfl)) (.cell (w.heap.size + 1 + 1) rfl (load_one (t := 25) q3 (by kernel_rfl)) .nil))), _, by rw [HE.out], by rw [HE.out]; exact Kd.R_nil _ _ _ _ _, below_chg (below_chg bel hch (by omega)) hch4 (by omega)⟩
end Go.Proofs.Ytcekghcejmhhaaa

namespace Go.Proofs.Ytcekghcejmhhaaa
open Go.RowKit Go.Proofs.YtcekghcejmhhaaaW.PrintWords Go.Proofs.YtcekghcejmhhaaaW.PrintLast Go.Proofs.YtcekghcejmhhaaaW.PrintMore
set_option maxRecDepth 100000

theorem iter_any (enc : Int) (h : encOk enc) (A : Option Addr) (c : Nat) (xs : List Int) (hm : xs.length ≤ 1000000000) (hc : xs.length ≤ c) (hx : Byt xs) (L gx gb : Nat) (J : List (Int × Int) → World → Prop)
    (hJ : ∀ pre W, J pre W → One W gx 79 (encV enc) ∧ One W gb 24 (.slice A xs.length c) ∧ Kd.C (Kd.int .u8) W A xs.length xs)
    (hJb : ∀ pre W W', J pre W → Below W.heap.size W W' → J pre W')
    (hY : ∀ pre (x : Int × Int) W, J pre W → pre.length < xs.length → YieldAt Fence.wide 0 Try.prog L #[.int .i64 x.1, .int .u32 x.2] W fun e W' => e = .returned (.bool true) ∧ J (pre ++ [x]) W' ∧ KeepsT 45 W W')
    (W : World) (h0 : J [] W) :
    Calls Try.prog 50 #[.func (.yield L) #[] #[], .pointer (some ⟨gx, 0, none⟩), .pointer (some ⟨gb, 0, none⟩)] W (IterPost enc xs J) := by
  rcases enc_cases h with rfl | rfl | rfl
  · exact iter_1 A c xs hm hc hx L gx gb J hJ hJb hY W h0
  · exact iter_2 A c xs hm hc hx L gx gb J hJ hJb hY W h0
  · exact iter_3 A c xs hm hc hx L gx gb J hJ hJb hY W h0

/-- What 'Decode' does last. -/
theorem dec_last_idle (pe pb : Nat) (u : FrameMode) (w : World) (he : One w pe 25 (.int .i64 0)) :
    CallsD Try.prog 44 #[.pointer (some ⟨pe, 0, none⟩), .pointer (some ⟨pb, 0, none⟩)] u w fun e u' w' => u' = u ∧ e = .returned (.tuple #[]) ∧ w = w' := by
  have c1 : w.cell? ⟨pe, 0, none⟩ = some (.int .i64 0) := by simpa using blk_cell he 0
  go_enter_d Try.func44, Try.ntmps44
  go_wp2
  go_end0
  exact ⟨rfl, rfl⟩
theorem dec_last (pe pb : Nat) (u : FrameMode) (w : World) (bv : Value) (e : Int) (h0 : ¬ e = 0) (he : One w pe 25 (.int .i64 e)) (hb : One w pb 22 bv) (h2 : pe ≠ pb) :
    CallsD Try.prog 44 #[.pointer (some ⟨pe, 0, none⟩), .pointer (some ⟨pb, 0, none⟩)] u w fun r u' w' => u' = u ∧ r = .returned (.tuple #[]) ∧
      Chg w w' (fun k => k = pb) ∧ BlkIs w' pb 22 (· = #[.slice none 0 0]) ∧ BlkIs w' pe 25 (· = #[.int .i64 e]) := by
  have c1 : w.cell? ⟨pe, 0, none⟩ = some (.int .i64 e) := by simpa using blk_cell he 0
  have c2 : w.cell? ⟨pb, 0, none⟩ = some bv := by simpa using blk_cell hb 0
  have f2 := blk_frozen hb 0
  have hd : (e == 0) = false := by simpa using h0
  have HE := Lib.hid he
  have HB := Lib.hid hb
  clear he hb
  go_enter_d Try.func44, Try.ntmps44
  go_wp2
  go_end0
  exact ⟨rfl, ⟨rfl, rfl, rfl, by simp [World.setCell], fun k hk hk2 => by rw [Below.heap_setCell _ _ _ _ hk2]⟩,
    ⟨_, blk_put HB.out 0 _ rfl, rfl⟩, ⟨_, blk_far HE.out h2 _, rfl⟩⟩

def DecPost (enc : Int) (l : List Int) (w : World) (r : Ending) (w' : World) : Prop :=
  ∃ v, r = .returned (.tuple #[v, .int .i64 (decodeC enc l).2.1, .int .i64 (decodeC enc l).2.2]) ∧ OwnI .u32 43 w.heap.size w' v (decodeC enc l).1 ∧ Below w.heap.size w w'

/-- Between two rounds of 'Decode'. -/
structure DecJ (w0 : World) (h : Nat) (ev bv : Value) (rec : Loop) (pre : List (Int × Int)) (W : World) : Prop where
  box : ∃ v, One W h 22 v ∧ OwnI .u32 43 (h + 1 + 1 + 1 + 1 + 1 + 1 + 1) W v (pre.map (·.2))
  he : One W (h + 1) 25 (.int .i64 0)
  ha : One W (h + 1 + 1) 3 (.int .i64 0)
  hx : One W (h + 1 + 1 + 1) 79 ev
  hb : One W (h + 1 + 1 + 1 + 1) 24 bv
  hD : W.heap[h + 1 + 1 + 1 + 1 + 1]? = some (.deferred (some []))
  hL : W.heap[h + 1 + 1 + 1 + 1 + 1 + 1]? = some (.loop rec)
  bel : Below w0.heap.size w0 W

theorem DecJ.below {w0 : World} {h : Nat} {ev bv : Value} {rec : Loop} {pre : List (Int × Int)} {W W' : World} (j : DecJ w0 h ev bv rec pre W) (hb : Below W.heap.size W W') : DecJ w0 h ev bv rec pre W' := by
  obtain ⟨v, h1, h2⟩ := j.box
  exact ⟨⟨v, blk_below h1 hb, OwnI.below h2 hb⟩, blk_below j.he hb, blk_below j.ha hb, blk_below j.hx hb, blk_below j.hb hb, blk_below j.hD hb, blk_below j.hL hb, below_step j.bel hb⟩

theorem info_u32 : (Try.prog.info? 43).map (fun i => (i.zero, i.size, i.bytes)) = some (some (.int .u32 0), 1, 4) := by kernel_rfl
set_option maxHeartbeats 4000000 in
theorem dec_1 (enc : Int) (h : encOk enc) (A : Option Addr) (n c : Nat) (l : List Int) (w : World) (hn : n ≤ 20000) (hnc : n ≤ c) (hC : Kd.C (Kd.int .u8) w A n l) (hx : Byt l) :
    Calls Try.prog 20 #[.int .i64 enc, .slice A n c] w (DecPost enc l w) := by
  have hl : l.length = n := hC.1
  subst hl
  have HC := Lib.hid hC
  have H := Lib.hid h
  clear hC h
  have hn2 : (l.length : Int) ≤ 20000 := by omega
  refine calls_of_wp_dm Try.func20 rfl ?_
  simp only [Try.ntmps20, List.size_toArray, List.length_cons, List.length_nil, Nat.reduceAdd, Nat.reduceSub, Array.replicate_succ, Array.replicate_zero, List.push_toArray, List.append_toArray, List.nil_append, List.cons_append]
  go_wp2_with (first | (go_at_call 37; (with_reducible refine (of_ok _ H.out _).mono ?_); rintro e w1 ⟨rfl, rfl⟩) | (go_at_call 38; (with_reducible refine (few_ok _ hn2 _).mono ?_); rintro e w1 ⟨rfl, rfl⟩) | (go_at_call 45; (with_reducible refine (characters_any _ ?hone _ _ _ _).mono ?_); (case hone => unfold encV; split <;> (try split) <;> rfl); rintro e w1 ⟨rfl, rfl⟩))
  obtain ⟨W0, hW0⟩ : ∃ W0, ((((w.alloc (Obj.cells #[.slice none 0 0] 22)).alloc (Obj.cells #[.int .i64 0] 25)).alloc (Obj.cells #[.int .i64 0] 3)).alloc (Obj.cells #[encV enc] 79)).alloc (Obj.cells #[.slice A l.length c] 24) = W0 := ⟨_, rfl⟩
  have hs0 : W0.heap.size = w.heap.size + 1 + 1 + 1 + 1 + 1 := by rw [← hW0]; simp
  refine wp_rangeFunc2 (gf := 50) (lb := #[.pointer (some ⟨w.heap.size + 1 + 1 + 1, 0, none⟩), .pointer (some ⟨w.heap.size + 1 + 1 + 1 + 1, 0, none⟩)]) rfl (fun _ _ => rfl) ?_
  rw [hW0, hs0]
  intro fn rec hrec
  have h0 : DecJ w w.heap.size (encV enc) (.slice A l.length c) (rec .ready) [] ((W0.alloc (.deferred (some []))).alloc (.loop (rec .ready))) := by
    have b0 : One W0 w.heap.size 22 (.slice none 0 0) := by rw [← hW0]; exact BlkIs.one blk0
    have b1 : One W0 (w.heap.size + 1) 25 (.int .i64 0) := by rw [← hW0]; exact BlkIs.one blk0
    have b2 : One W0 (w.heap.size + 1 + 1) 3 (.int .i64 0) := by rw [← hW0]; exact BlkIs.one blk0
    have b3 : One W0 (w.heap.size + 1 + 1 + 1) 79 (encV enc) := by rw [← hW0]; exact BlkIs.one blk0
    have b4 : One W0 (w.heap.size + 1 + 1 + 1 + 1) 24 (.slice A l.length c) := by rw [← hW0]; exact BlkIs.one blk0
    have bb : Below w.heap.size w W0 := by rw [← hW0]; exact bel
    exact ⟨⟨_, blk_alloc (blk_alloc b0 _) _, Kd.R_nil _ _ _ _ _⟩, blk_alloc (blk_alloc b1 _) _, blk_alloc (blk_alloc b2 _) _, blk_alloc (blk_alloc b3 _) _, blk_alloc (blk_alloc b4 _) _, blk_alloc (blk_new' _ hs0.symm) _, blk_new' _ (by simp [hs0]), below_alloc (below_alloc bb _) _⟩
  refine (iter_any enc H.out A c l (by omega) hnc hx (w.heap.size + 1 + 1 + 1 + 1 + 1 + 1) (w.heap.size + 1 + 1 + 1) (w.heap.size + 1 + 1 + 1 + 1) (DecJ w w.heap.size (encV enc) (.slice A l.length c) (rec .ready)) (fun pre W j => ⟨j.hx, j.hb, C_of_below HC.out j.bel⟩) (fun pre W W' j hb => j.below hb) ?hY _ h0).mono ?_
  case hY =>
    clear h0 hW0
    rintro pre x W hj hlen
    obtain ⟨v, hbox, hv⟩ := hj.box
    refine yield_round hrec hj.hL rfl ?act1 ?ha ?hb
    case ha =>
      intro K hK
      gi_wp2_with (rw [Oper.semAt_eq _ _ _ (fun c h => by cases h)]; go_simp; try go_bits)
      exact hK
    case hb =>
      have HJ := Lib.hid hj
      have HREC := Lib.hid hrec
      have HX := Lib.hid hlen
      have hLlt := blk_lt hj.hL
      obtain ⟨W2, hW2⟩ : ∃ W2, W.putObj (w.heap.size + 1 + 1 + 1 + 1 + 1 + 1) (.loop (rec .busy)) = W2 := ⟨_, rfl⟩
      have hbox2 : One W2 w.heap.size 22 v := by rw [← hW2]; exact blk_putObj hbox (by omega)
      have hv2 : OwnI .u32 43 (w.heap.size + 1 + 1 + 1 + 1 + 1 + 1 + 1) W2 v (pre.map (·.2)) := by rw [← hW2]; exact OwnI.putObj hv (by omega)
      have hL2 : W2.heap[w.heap.size + 1 + 1 + 1 + 1 + 1 + 1]? = some (.loop (rec .busy)) := by rw [← hW2]; exact World.putObj_heap_same hLlt
      have hz2 : W2.heap.size = W.heap.size := by rw [← hW2]; simp
      rw [hW2]
      have HW2 := Lib.hid hW2
      clear hj hrec hlen hW2
      obtain ⟨i0, hi, q0, q1, q2⟩ := info_parts info_u32
      obtain ⟨ys, hys⟩ : ∃ ys, ys = pre.map (·.2) := ⟨_, rfl⟩
      have hlen : ys.length < l.length := by rw [hys, List.length_map]; exact HX.out
      rw [← hys] at hv2
      obtain ⟨Av, cv, rfl⟩ := Kd.R_slice hv2
      have HYS := Lib.hid hys
      have HZ2 := Lib.hid hz2
      have hLs : w.heap.size + 1 + 1 + 1 + 1 + 1 + 1 < W2.heap.size := by omega
      clear hys hz2 hbox
      have HV2 := Lib.hid hv2
      obtain ⟨_, inner, hrow, hreps⟩ := hv2
      have HREPS := Lib.hid hreps
      clear hreps hv
      (have cb2 : World.cell? W2 ⟨w.heap.size, 0, none⟩ = some (.slice Av ys.length cv) := (by simpa using blk_cell hbox2 0)); have fb2 := blk_frozen hbox2 0
      gi_wp2_with (first
        | (gi_at_builtin; refine wpListIn_append_own _ rfl _ _ 22 rfl (w.heap.size + 1 + 1 + 1 + 1 + 1 + 1 + 1) 43 i0 (.int .u32 0) 1 4 Try.underlying22 hi q0 q1 q2 rfl (by decide) _ _ _ rfl (World.ownsRow.alloc hrow _) ⟨W2.heap.size, 0, none⟩ 1 1 [.int .u32 x.2] rfl rfl (cell_one_new' _ _ _) (by simp [Value.oneCell']) (by simp [maxLen]; omega) (by omega) (by simp; omega) ?_; intro v' w3 hown' hg3 hnil3; obtain ⟨g', cap', rfl⟩ := ownsRow_succ hown'; have HG3 := Lib.hid hg3; have HOWN := Lib.hid hown'; have hbox3 : One w3 w.heap.size 22 (.slice Av ys.length cv) := (hg3.block _ (by simp; omega) (fun he => by have := own_base_le hrow he.symm; omega)).trans (blk_alloc hbox2 _); (have cb3 : World.cell? w3 ⟨w.heap.size, 0, none⟩ = some (.slice Av ys.length cv) := (by simpa using blk_cell hbox3 0)); have fb3 := blk_frozen hbox3 0; clear hg3 hown' hnil3; go_frame)
        | (rw [Oper.semAt_eq _ _ _ (fun c h => by cases h)]; go_simp; try go_bits))
      have hj := HJ.out
      have hg3 := HG3.out
      have hW2 := HW2.out
      have old : ∀ (j : Nat) (o : Obj), j < w.heap.size + 1 + 1 + 1 + 1 + 1 + 1 + 1 → W2.heap[j]? = some o → w3.heap[j]? = some o := fun j o hjl ho =>
        (hg3.block j (by have := blk_lt ho; simp; omega) (fun he => by have := own_base_le hrow he.symm; omega)).trans (blk_alloc ho _)
      have fin : ∀ (j : Nat) (o : Obj), j < w.heap.size + 1 + 1 + 1 + 1 + 1 + 1 → j ≠ w.heap.size → W.heap[j]? = some o → ((w3.setCell ⟨w.heap.size, 0, none⟩ (.slice (some ⟨g', 0, none⟩) (ys.length + 1) cap')).putObj (w.heap.size + 1 + 1 + 1 + 1 + 1 + 1) (.loop (rec .ready))).heap[j]? = some o := fun j o h1 h2 ho =>
        blk_putObj (obj_set (old j o (by omega) (by rw [← hW2]; exact blk_putObj ho (by omega))) h2) (by omega)
      have hL3 : w3.heap[w.heap.size + 1 + 1 + 1 + 1 + 1 + 1]? = some (.loop (rec .busy)) := old _ _ (by omega) hL2
      have hv3 : OwnI .u32 43 (w.heap.size + 1 + 1 + 1 + 1 + 1 + 1 + 1) w3 (.slice (some ⟨g', 0, none⟩) (ys.length + 1) cap') (ys ++ [x.2]) := OwnI.snoc HREPS.out HOWN.out
      have hz3 : W2.heap.size ≤ w3.heap.size := by have := hg3.size; simp at this; omega
      refine ⟨obj_set hL3 (by omega), ⟨⟨_, blk_putObj (blk_put hbox3 0 _ rfl) (by omega), ?_⟩, fin _ _ (by omega) (by omega) hj.he, fin _ _ (by omega) (by omega) hj.ha, fin _ _ (by omega) (by omega) hj.hx, fin _ _ (by omega) (by omega) hj.hb, fin _ _ (by omega) (by omega) hj.hD, World.putObj_heap_same (by have := blk_lt hL3; simpa [World.setCell] using this), ?_⟩, ?_⟩
      · rw [List.map_append, ← HYS.out]
        exact OwnI.putObj (OwnI.set hv3 (by simp; omega)) (by omega)
      · refine below_putObj (below_set ?_ (by simp)) (by omega)
        refine Below.grown (w := W2.alloc (.cells #[.int .u32 x.2] 43)) ?_ hg3 (by simp; have := HZ2.out; have := hj.bel.size; omega) (fun k e => by have := own_base_le hrow e; omega)
        refine below_alloc ?_ _
        rw [← hW2]
        exact below_putObj hj.bel (by omega)
      · refine KeepsT.trans (B := W2) (by rw [← hW2]; exact KeepsT.putObj _ hj.hL rfl) (KeepsT.trans (KeepsT.alloc _) (KeepsT.trans (KeepsT.grown hg3 (World.ownsRow.alloc hrow _) (by decide)) (KeepsT.trans (KeepsT.setCell hbox3 (by decide)) (KeepsT.putObj _ (obj_set hL3 (by omega)) rfl))))
  rintro e w3 ⟨hj, (⟨hn0, rfl⟩ | ⟨a, ha, rfl⟩)⟩
  · refine .inl ⟨_, rfl, hj.hL, ?_⟩
    obtain ⟨v, hbox, hv⟩ := hj.box
    have HJ := Lib.hid hj
    have HN := Lib.hid hn0
    have hz3 := hj.bel.size
    have hLl := blk_lt hj.hL
    obtain ⟨W4, hW4⟩ : ∃ W4, w3.putObj (w.heap.size + 1 + 1 + 1 + 1 + 1 + 1) (.loop (rec .exhausted)) = W4 := ⟨_, rfl⟩
    have hbox4 : One W4 w.heap.size 22 v := by rw [← hW4]; exact blk_putObj hbox (by omega)
    have he4 : One W4 (w.heap.size + 1) 25 (.int .i64 0) := by rw [← hW4]; exact blk_putObj hj.he (by omega)
    have ha4 : One W4 (w.heap.size + 1 + 1) 3 (.int .i64 0) := by rw [← hW4]; exact blk_putObj hj.ha (by omega)
    have hD4 : W4.heap[w.heap.size + 1 + 1 + 1 + 1 + 1]? = some (.deferred (some [])) := by rw [← hW4]; exact blk_putObj hj.hD (by omega)
    have hv4 : OwnI .u32 43 (w.heap.size + 1 + 1 + 1 + 1 + 1 + 1 + 1) W4 v ((decodeLoop enc l.length 0 0 l).1.map (·.2)) := by rw [← hW4]; exact OwnI.putObj hv (by omega)
    have hb4 : Below w.heap.size w W4 := by rw [← hW4]; exact below_putObj hj.bel (by omega)
    have hz4 : w.heap.size + 1 + 1 + 1 + 1 + 1 + 1 < W4.heap.size := by rw [← hW4]; simpa using hLl
    rw [hW4]
    clear h0 hW0 hrec hj hn0 hbox hv hW4 hs0
    obtain ⟨ys, hys⟩ : ∃ ys, ys = (decodeLoop enc l.length 0 0 l).1.map (·.2) := ⟨_, rfl⟩
    rw [← hys] at hv4
    obtain ⟨Av, cv, rfl⟩ := Kd.R_slice hv4
    have HYS := Lib.hid hys
    have HV4 := Lib.hid hv4
    have HB4 := Lib.hid hb4
    clear hys hv4 hb4
    (have cb4 : World.cell? W4 ⟨w.heap.size, 0, none⟩ = some (.slice Av ys.length cv) := (by simpa using blk_cell hbox4 0)); have fb4 := blk_frozen hbox4 0
    (have ce4 : World.cell? W4 ⟨w.heap.size + 1, 0, none⟩ = some (.int .i64 0) := (by simpa using blk_cell he4 0)); have fe4 := blk_frozen he4 0
    (have ca4 : World.cell? W4 ⟨w.heap.size + 1 + 1, 0, none⟩ = some (.int .i64 0) := (by simpa using blk_cell ha4 0)); have fa4 := blk_frozen ha4 0
    go_wp2
    have b6 : One (((W4.setCell ⟨w.heap.size, 0, none⟩ (.slice Av ys.length cv)).setCell ⟨w.heap.size + 1, 0, none⟩ (.int .i64 0)).setCell ⟨w.heap.size + 1 + 1, 0, none⟩ (.int .i64 0)) w.heap.size 22 (.slice Av ys.length cv) := BlkIs.one blk0
    have e6 : One (((W4.setCell ⟨w.heap.size, 0, none⟩ (.slice Av ys.length cv)).setCell ⟨w.heap.size + 1, 0, none⟩ (.int .i64 0)).setCell ⟨w.heap.size + 1 + 1, 0, none⟩ (.int .i64 0)) (w.heap.size + 1) 25 (.int .i64 0) := BlkIs.one blk0
    have a6 : One (((W4.setCell ⟨w.heap.size, 0, none⟩ (.slice Av ys.length cv)).setCell ⟨w.heap.size + 1, 0, none⟩ (.int .i64 0)).setCell ⟨w.heap.size + 1 + 1, 0, none⟩ (.int .i64 0)) (w.heap.size + 1 + 1) 3 (.int .i64 0) := BlkIs.one blk0
    have d6 := obj_set (u := .int .i64 0) (p := w.heap.size + 1 + 1) (obj_set (u := .int .i64 0) (p := w.heap.size + 1) (obj_set (u := .slice Av ys.length cv) (p := w.heap.size) hD4 (by omega)) (by omega)) (by omega)
    have v6 : OwnI .u32 43 (w.heap.size + 1 + 1 + 1 + 1 + 1 + 1 + 1) (((W4.setCell ⟨w.heap.size, 0, none⟩ (.slice Av ys.length cv)).setCell ⟨w.heap.size + 1, 0, none⟩ (.int .i64 0)).setCell ⟨w.heap.size + 1 + 1, 0, none⟩ (.int .i64 0)) (.slice Av ys.length cv) ys :=
      OwnI.set (OwnI.set (OwnI.set HV4.out (by first | (simp; done) | (simp; omega))) (by first | (simp; done) | (simp; omega))) (by first | (simp; done) | (simp; omega))
    have w6 : Below w.heap.size w (((W4.setCell ⟨w.heap.size, 0, none⟩ (.slice Av ys.length cv)).setCell ⟨w.heap.size + 1, 0, none⟩ (.int .i64 0)).setCell ⟨w.heap.size + 1 + 1, 0, none⟩ (.int .i64 0)) := by have := HB4.out; exact bel
    generalize (((W4.setCell ⟨w.heap.size, 0, none⟩ (.slice Av ys.length cv)).setCell ⟨w.heap.size + 1, 0, none⟩ (.int .i64 0)).setCell ⟨w.heap.size + 1 + 1, 0, none⟩ (.int .i64 0)) = W6 at b6 e6 a6 d6 v6 w6 ⊢
    refine leavesM_mark (by simp) (run_takeDeferred d6) ?_
    refine leavesM_cons (f := 36) (args := #[.pointer (some ⟨w.heap.size + 1, 0, none⟩), .pointer (some ⟨w.heap.size + 1 + 1, 0, none⟩)]) (by simp [settle]) (by simp [go_sem]) ?_
    refine (caught_idle _ _ _).mono ?_
    rintro e u' w'' ⟨rfl, rfl, rfl⟩
    refine leavesM_cons (f := 44) (args := #[.pointer (some ⟨w.heap.size + 1, 0, none⟩), .pointer (some ⟨w.heap.size, 0, none⟩)]) (by simp [settle]) (by simp [go_sem]) ?_
    refine (dec_last_idle _ _ _ _ (blk_putObj e6 (by omega))).mono ?_
    rintro e u' w'' ⟨rfl, rfl, rfl⟩
    have hE : decodeC enc l = (ys, 0, 0) := by
      unfold decodeC
      rw [if_neg (by simpa using H.out), if_neg (by omega)]
      simp only [HN.out, HYS.out]
    exact ⟨.tuple #[.slice Av ys.length cv, .int .i64 0, .int .i64 0], rresults (rs := [.cell 4 22, .cell 5 25, .cell 6 3]) rfl (by simp) (.cell w.heap.size rfl (load_one (t := 22) ⟨_, blk_putObj b6 (by omega), rfl⟩ (by kernel_rfl)) (.cell (w.heap.size + 1) rfl (load_one (t := 25) ⟨_, blk_putObj e6 (by omega), rfl⟩ (by kernel_rfl)) (.cell (w.heap.size + 1 + 1) rfl (load_one (t := 3) ⟨_, blk_putObj a6 (by omega), rfl⟩ (by kernel_rfl)) .nil))), _, by rw [hE], by rw [hE]; exact OwnI.lower (OwnI.putObj v6 (by omega)) (by omega), below_putObj w6 (by omega)⟩
  · refine .inr ⟨_, rfl, ?_⟩
    obtain ⟨v, hbox, hv⟩ := hj.box
    refine leavesM_mark (by simp) (run_takeDeferred hj.hD) ?_
    refine leavesM_cons (f := 36) (args := #[.pointer (some ⟨w.heap.size + 1, 0, none⟩), .pointer (some ⟨w.heap.size + 1 + 1, 0, none⟩)]) (by simp [settle]) (by simp [go_sem]) ?_
    refine (caught_panic (w.heap.size + 1) (w.heap.size + 1 + 1) 15 a 0 0 [] _ (blk_putObj hj.he (by omega)) (blk_putObj hj.ha (by omega)) (by omega)).mono ?_
    rintro e u' w'' ⟨rfl, rfl, hch, hp, hq⟩
    refine leavesM_cons (f := 44) (args := #[.pointer (some ⟨w.heap.size + 1, 0, none⟩), .pointer (some ⟨w.heap.size, 0, none⟩)]) (by simp [settle]) (by simp [go_sem]) ?_
    refine (dec_last _ _ _ _ v 15 (by decide) hp (blk_chg (blk_putObj hbox (by omega)) hch (by omega)) (by omega)).mono ?_
    rintro e u' w4 ⟨rfl, rfl, hch4, q1, q2⟩
    have hE : decodeC enc l = ([], 15, a) := by
      unfold decodeC
      rw [if_neg (by simpa using H.out), if_neg (by omega)]
      simp only [ha]
    exact ⟨.tuple #[.slice none 0 0, .int .i64 15, .int .i64 a], rresults (rs := [.cell 4 22, .cell 5 25, .cell 6 3]) rfl (by simp) (.cell w.heap.size rfl (load_one (t := 22) q1 (by kernel_rfl)) (.cell (w.heap.size + 1) rfl (load_one (t := 25) q2 (by kernel_rfl)) (.cell (w.heap.size + 1 + 1) rfl (load_one (t := 3) ⟨_, blk_chg hq hch4 (by omega), rfl⟩ (by kernel_rfl)) .nil))), _, by rw [hE], by rw [hE]; exact Kd.R_nil _ _ _ _ _, below_chg (below_chg (below_putObj hj.bel (by omega)) hch (by omega)) hch4 (by omega)⟩

set_option maxHeartbeats 4000000 in
theorem Decode_any (enc : Int) (A : Option Addr) (n c : Nat) (l : List Int) (w : World) (hnc : n ≤ c) (hC : Kd.C (Kd.int .u8) w A n l) (hx : Byt l) :
    Calls Try.prog 20 #[.int .i64 enc, .slice A n c] w (DecPost enc l w) := by
  have hl : l.length = n := hC.1
  by_cases h : encOk enc
  · by_cases hn : n ≤ 20000
    · exact dec_1 enc h A n c l w hn hnc hC hx
    · have HE : Hid (decodeC enc l = ([], 2, 0)) := Lib.hid (by unfold decodeC; rw [if_neg (by simpa using h), if_pos (by omega)])
      have H := Lib.hid h
      have hn2 : 20000 < (n : Int) := by omega
      clear h hl hC hx hn
      go_enter_defers Try.func20, Try.ntmps20
      go_wp2_with (first | (go_at_call 37; (with_reducible refine (of_ok _ H.out _).mono ?_); rintro e w1 ⟨rfl, rfl⟩) | (go_at_call 38; (with_reducible refine (few_no _ hn2 _).mono ?_); rintro e w1 ⟨rfl, rfl⟩))
      refine leaves_cons (f := 36) (args := #[.pointer (some ⟨w.heap.size + 1, 0, none⟩), .pointer (some ⟨w.heap.size + 1 + 1, 0, none⟩)]) (by simp [settle]) (by simp [go_sem]) ?_
      refine (caught_panic (w.heap.size + 1) (w.heap.size + 1 + 1) 2 0 0 0 [] _ (BlkIs.one blk0) (BlkIs.one blk0) (by omega)).mono ?_
      rintro e u' w'' ⟨rfl, rfl, hch, hp, hq⟩
      refine leaves_cons (f := 44) (args := #[.pointer (some ⟨w.heap.size + 1, 0, none⟩), .pointer (some ⟨w.heap.size, 0, none⟩)]) (by simp [settle]) (by simp [go_sem]) ?_
      refine (dec_last _ _ _ _ (.slice none 0 0) 2 (by decide) hp (blk_chg (BlkIs.one blk0) hch (by omega)) (by omega)).mono ?_
      rintro e u' w4 ⟨rfl, rfl, hch4, q1, q2⟩
      exact ⟨.tuple #[.slice none 0 0, .int .i64 2, .int .i64 0], rresults (rs := [.cell 4 22, .cell 5 25, .cell 6 3]) rfl (by simp) (.cell w.heap.size rfl (load_one (t := 22) q1 (by kernel_rfl)) (.cell (w.heap.size + 1) rfl (load_one (t := 25) q2 (by kernel_rfl)) (.cell (w.heap.size + 1 + 1) rfl (load_one (t := 3) ⟨_, blk_chg hq hch4 (by omega), rfl⟩ (by kernel_rfl)) .nil))), _, by rw [HE.out], by rw [HE.out]; exact Kd.R_nil _ _ _ _ _, below_chg (below_chg bel hch (by omega)) hch4 (by omega)⟩
  · have HE : Hid (decodeC enc l = ([], 1, 0)) := Lib.hid (by unfold decodeC; rw [if_pos h])
    have H := Lib.hid h
    clear h hl hC hx
    go_enter_defers Try.func20, Try.ntmps20
    go_wp2_with (go_at_call 37; (with_reducible refine (of_no _ H.out _).mono ?_); rintro e w1 ⟨rfl, rfl⟩)
    refine leaves_cons (f := 36) (args := #[.pointer (some ⟨w.heap.size + 1, 0, none⟩), .pointer (some ⟨w.heap.size + 1 + 1, 0, none⟩)]) (by simp [settle]) (by simp [go_sem]) ?_
    refine (caught_panic (w.heap.size + 1) (w.heap.size + 1 + 1) 1 0 0 0 [] _ (BlkIs.one blk0) (BlkIs.one blk0) (by omega)).mono ?_
    rintro e u' w'' ⟨rfl, rfl, hch, hp, hq⟩
    refine leaves_cons (f := 44) (args := #[.pointer (some ⟨w.heap.size + 1, 0, none⟩), .pointer (some ⟨w.heap.size, 0, none⟩)]) (by simp [settle]) (by simp [go_sem]) ?_
    refine (dec_last _ _ _ _ (.slice none 0 0) 1 (by decide) hp (blk_chg (BlkIs.one blk0) hch (by omega)) (by omega)).mono ?_
    rintro e u' w4 ⟨rfl, rfl, hch4, q1, q2⟩
    exact ⟨.tuple #[.slice none 0 0, .int .i64 1, .int .i64 0], rresults (rs := [.cell 4 22, .cell 5 25, .cell 6 3]) rfl (by simp) (.cell w.heap.size rfl (load_one (t := 22) q1 (by kernel_rfl)) (.cell (w.heap.size + 1) rfl (load_one (t := 25) q2 (by kernel_rfl)) (.cell (w.heap.size + 1 + 1) rfl (load_one (t := 3) ⟨_, blk_chg hq hch4 (by omega), rfl⟩ (by kernel_rfl)) .nil))), _, by rw [HE.out], by rw [HE.out]; exact Kd.R_nil _ _ _ _ _, below_chg (below_chg bel hch (by omega)) hch4 (by omega)⟩

set_option maxHeartbeats 4000000 in
theorem Count_any (enc : Int) (A : Option Addr) (n c : Nat) (l : List Int) (w : World) (hnc : n ≤ c) (hC : Kd.C (Kd.int .u8) w A n l) (hx : Byt l) :
    Calls Try.prog 25 #[.int .i64 enc, .slice A n c] w fun r w' => r = .returned (.tuple #[.int .i64 (decodeC enc l).1.length, .int .i64 (decodeC enc l).2.1, .int .i64 (decodeC enc l).2.2]) ∧ Below w.heap.size w w' := by
  have HC := Lib.hid hC
  clear hC
  go_enter Try.func25, Try.ntmps25
  go_wp2_with (go_at_call 20; (with_reducible refine (Decode_any enc A n c l _ hnc HC.out hx).mono ?_); rintro e w1 ⟨v, rfl, hv, hb⟩; obtain ⟨A1, c1, rfl⟩ := Kd.R_slice hv)
  exact bodyPost_ret (v := .tuple #[.int .i64 (decodeC enc l).1.length, .int .i64 (decodeC enc l).2.1, .int .i64 (decodeC enc l).2.2]) (by simp [results, Try.results25, go_sem]) rfl ⟨rfl, hb⟩
end Go.Proofs.Ytcekghcejmhhaaa

namespace Go.Proofs.Ytcekghcejmhhaaa
open Go.RowKit Go.Proofs.YtcekghcejmhhaaaW.PrintWords Go.Proofs.YtcekghcejmhhaaaW.PrintLast Go.Proofs.YtcekghcejmhhaaaW.PrintMore
set_option maxRecDepth 100000

theorem fresh_C {k : IntKind} {e : TypeId} (W : World) (g : Nat) (hg : g = W.heap.size) (xs : List Int) (cs : Array Value) (hcs : cs = (nums k xs).toArray) (n : Nat) (hn : n = xs.length) (hm : xs.length ≤ 9223372036854775807) :
    Kd.C (Kd.int k) (W.alloc (.cells cs e)) (some ⟨g, 0, none⟩) n xs := by
  subst hn
  exact fresh_src (e := e) W g hg xs cs hcs hm (S := fun _ => False) (by simp) _ (Kept.refl _ _)
theorem Byt.of {xs : List Int} (h : ∀ x ∈ xs, 0 ≤ x ∧ x ≤ 255) : Byt xs := fun i => by
  rw [List.getD_eq_getElem?_getD]
  by_cases hi : i < xs.length
  · rw [List.getElem?_eq_getElem hi]; exact h _ (List.getElem_mem hi)
  · rw [List.getElem?_eq_none (by omega)]; simp
theorem U32s.of {xs : List Int} (h : ∀ x ∈ xs, 0 ≤ x ∧ x < 4294967296) : U32s xs := fun i => by
  rw [List.getD_eq_getElem?_getD]
  by_cases hi : i < xs.length
  · rw [List.getElem?_eq_getElem hi]; exact h _ (List.getElem_mem hi)
  · rw [List.getElem?_eq_none (by omega)]; simp

theorem Next_lit (enc s : Int) (xs : List Int) (S : Step) (hS : nextC enc s xs = S) (A : Option Addr) (n c : Nat) (w : World) (h : encOk enc) (hs : stOk enc s) (hn : n ≤ 20000) (hC : Kd.C (Kd.int .u8) w A n xs) (hx : Byt xs) :
    Calls Try.prog 22 #[.int .i64 enc, .int .i64 s, .slice A n c] w fun r w' => r = .returned (.tuple #[stepV S.kind S.ch S.bytes S.st, .int .i64 0]) ∧ Below w.heap.size w w' := by
  subst hS
  exact Next_ok enc s A n c xs w h hs hn hC hx
theorem Encode_lit (enc : Int) (l b : List Int) (e a : Int) (hE : encodeC enc l = (b, e, a)) (A : Option Addr) (n c : Nat) (w : World) (hC : Kd.C (Kd.int .u32) w A n l) (hx : U32s l) :
    Calls Try.prog 14 #[.int .i64 enc, .slice A n c] w fun r w' => ∃ A' c', r = .returned (.tuple #[.slice A' b.length c', .int .i64 e, .int .i64 a]) ∧ Kd.C (Kd.int .u8) w' A' b.length b ∧ Below w.heap.size w w' :=
  (Encode_any enc A n c l w hC hx).mono fun r w' ⟨v, hr, hv, hb⟩ => by
    rw [hE] at hr hv
    obtain ⟨A', c', rfl, _, h⟩ := Kd.R_reads hv
    exact ⟨A', c', hr, h, hb⟩
theorem Fit_lit (enc most : Int) (l b : List Int) (e a : Int) (hE : fitC enc l most = (b, a, e)) (A : Option Addr) (n c : Nat) (w : World) (hC : Kd.C (Kd.int .u32) w A n l) (hx : U32s l) :
    Calls Try.prog 15 #[.int .i64 enc, .slice A n c, .int .i64 most] w fun r w' => ∃ A' c', r = .returned (.tuple #[.slice A' b.length c', .int .i64 a, .int .i64 e]) ∧ Kd.C (Kd.int .u8) w' A' b.length b ∧ Below w.heap.size w w' :=
  (Fit_any enc most A n c l w hC hx).mono fun r w' ⟨v, hr, hv, hb⟩ => by
    rw [hE] at hr hv
    obtain ⟨A', c', rfl, _, h⟩ := Kd.R_reads hv
    exact ⟨A', c', hr, h, hb⟩
theorem Decode_lit (enc : Int) (l b : List Int) (e a : Int) (hE : decodeC enc l = (b, e, a)) (A : Option Addr) (n c : Nat) (w : World) (hnc : n ≤ c) (hC : Kd.C (Kd.int .u8) w A n l) (hx : Byt l) :
    Calls Try.prog 20 #[.int .i64 enc, .slice A n c] w fun r w' => ∃ A' c', r = .returned (.tuple #[.slice A' b.length c', .int .i64 e, .int .i64 a]) ∧ Kd.C (Kd.int .u32) w' A' b.length b ∧ b.length ≤ c' ∧ Below w.heap.size w w' :=
  (Decode_any enc A n c l w hnc hC hx).mono fun r w' ⟨v, hr, hv, hb⟩ => by
    rw [hE] at hr hv
    obtain ⟨A', c', rfl, h0, h⟩ := Kd.R_reads hv
    exact ⟨A', c', hr, h, h0, hb⟩

set_option maxHeartbeats 4000000 in
theorem sanity_ok (w : World) : Calls Try.prog 13 #[] w fun r w' => r = .returned (.bool true) ∧ Below w.heap.size w w' := by
  go_enter Try.func13, Try.ntmps13
  go_upto_region 5 with (first
    | ((with_reducible show Calls Try.prog 22 #[.int .i64 2, .int .i64 0, .slice _ 3 _] _ _); refine (Next_lit 2 0 [195, 169, 120] ⟨1, 233, 2, 0⟩ (by decide) _ 3 _ _ (by decide) (by decide) (by decide) ?hC (Byt.of (by decide))).mono ?_; (case hC => exact fresh_C _ _ (by first | rfl | (simp; done)) _ _ rfl _ rfl (by decide)); rintro e w1 ⟨rfl, hb1⟩; obtain ⟨hc1, hf1⟩ := bcell hb1; have hz1 := below_size hb1; simp at hz1)
    | ((with_reducible show Calls Try.prog 22 #[.int .i64 3, .int .i64 0, .slice _ 4 _] _ _); refine (Next_lit 3 0 [14, 33, 34, 65] ⟨1, 19969, 3, 1⟩ (by decide) _ 4 _ _ (by decide) (by decide) (by decide) ?hC (Byt.of (by decide))).mono ?_; (case hC => exact fresh_C _ _ (by first | rfl | (simp; done)) _ _ rfl _ rfl (by decide)); rintro e w2 ⟨rfl, hb2⟩; obtain ⟨hc2, hf2⟩ := bcell hb2; have hz2 := below_size hb2; simp at hz2)
    | ((with_reducible show Calls Try.prog 22 #[.int .i64 2, .int .i64 0, .slice _ 2 _] _ _); refine (Next_lit 2 0 [237, 160] ⟨2, 0, 0, 0⟩ (by decide) _ 2 _ _ (by decide) (by decide) (by decide) ?hC (Byt.of (by decide))).mono ?_; (case hC => exact fresh_C _ _ (by first | rfl | (simp; done)) _ _ rfl _ rfl (by decide)); rintro e w3 ⟨rfl, hb3⟩; obtain ⟨hc3, hf3⟩ := bcell hb3; have hz3 := below_size hb3; simp at hz3)
    | ((with_reducible show Calls Try.prog 22 #[.int .i64 3, .int .i64 1, .slice _ 1 _] _ _); refine (Next_lit 3 1 [33] ⟨3, 0, 0, 0⟩ (by decide) _ 1 _ _ (by decide) (by decide) (by decide) ?hC (Byt.of (by decide))).mono ?_; (case hC => exact fresh_C _ _ (by first | rfl | (simp; done)) _ _ rfl _ rfl (by decide)); rintro e w4 ⟨rfl, hb4⟩; obtain ⟨hc4, hf4⟩ := bcell hb4; have hz4 := below_size hb4; simp at hz4))
  obtain ⟨W5, hW5⟩ : ∃ W5, w4.alloc (Obj.cells #[.int .i64 3, .int .u32 0, .int .i64 0, .int .i64 0] 45) = W5 := ⟨_, rfl⟩
  have k1 : W5.heap[w1.heap.size]? = some (.cells #[.int .i64 1, .int .u32 233, .int .i64 2, .int .i64 0] 45 (0, 0)) := by
    have q : BlkIs W5 w1.heap.size 45 (· = #[.int .i64 1, .int .u32 233, .int .i64 2, .int .i64 0]) := by rw [← hW5]; exact blk0
    obtain ⟨_, q1, rfl⟩ := q
    exact q1
  have k2 : W5.heap[w2.heap.size]? = some (.cells #[.int .i64 1, .int .u32 19969, .int .i64 3, .int .i64 1] 45 (0, 0)) := by
    have q : BlkIs W5 w2.heap.size 45 (· = #[.int .i64 1, .int .u32 19969, .int .i64 3, .int .i64 1]) := by rw [← hW5]; exact blk0
    obtain ⟨_, q1, rfl⟩ := q
    exact q1
  have k3 : W5.heap[w3.heap.size]? = some (.cells #[.int .i64 2, .int .u32 0, .int .i64 0, .int .i64 0] 45 (0, 0)) := by
    have q : BlkIs W5 w3.heap.size 45 (· = #[.int .i64 2, .int .u32 0, .int .i64 0, .int .i64 0]) := by rw [← hW5]; exact blk0
    obtain ⟨_, q1, rfl⟩ := q
    exact q1
  have k4 : W5.heap[w4.heap.size]? = some (.cells #[.int .i64 3, .int .u32 0, .int .i64 0, .int .i64 0] 45 (0, 0)) := by
    have q : BlkIs W5 w4.heap.size 45 (· = #[.int .i64 3, .int .u32 0, .int .i64 0, .int .i64 0]) := by rw [← hW5]; exact blk0
    obtain ⟨_, q1, rfl⟩ := q
    exact q1
  have hb5 : Below w.heap.size w W5 := by rw [← hW5]; exact bel
  rw [hW5]
  clear hW5 hb1 hb2 hb3 hb4 hz1 hz2 hz3 hz4
  have hL5 := blk_lt k4
  generalize w1.heap.size = g1 at *
  generalize w2.heap.size = g2 at *
  generalize w3.heap.size = g3 at *
  generalize w4.heap.size = g4 at *
  have c10 : W5.cell? ⟨g1, 0, none⟩ = some (.int .i64 1) := by simpa using blk_cell k1 0
  have c11 : W5.cell? ⟨g1, 1, none⟩ = some (.int .u32 233) := by simpa using blk_cell k1 1
  have c12 : W5.cell? ⟨g1, 2, none⟩ = some (.int .i64 2) := by simpa using blk_cell k1 2
  have c13 : W5.cell? ⟨g1, 3, none⟩ = some (.int .i64 0) := by simpa using blk_cell k1 3
  have c20 : W5.cell? ⟨g2, 0, none⟩ = some (.int .i64 1) := by simpa using blk_cell k2 0
  have c21 : W5.cell? ⟨g2, 1, none⟩ = some (.int .u32 19969) := by simpa using blk_cell k2 1
  have c22 : W5.cell? ⟨g2, 2, none⟩ = some (.int .i64 3) := by simpa using blk_cell k2 2
  have c23 : W5.cell? ⟨g2, 3, none⟩ = some (.int .i64 1) := by simpa using blk_cell k2 3
  have c30 : W5.cell? ⟨g3, 0, none⟩ = some (.int .i64 2) := by simpa using blk_cell k3 0
  have c31 : W5.cell? ⟨g3, 1, none⟩ = some (.int .u32 0) := by simpa using blk_cell k3 1
  have c32 : W5.cell? ⟨g3, 2, none⟩ = some (.int .i64 0) := by simpa using blk_cell k3 2
  have c33 : W5.cell? ⟨g3, 3, none⟩ = some (.int .i64 0) := by simpa using blk_cell k3 3
  have c40 : W5.cell? ⟨g4, 0, none⟩ = some (.int .i64 3) := by simpa using blk_cell k4 0
  have c41 : W5.cell? ⟨g4, 1, none⟩ = some (.int .u32 0) := by simpa using blk_cell k4 1
  have c42 : W5.cell? ⟨g4, 2, none⟩ = some (.int .i64 0) := by simpa using blk_cell k4 2
  have c43 : W5.cell? ⟨g4, 3, none⟩ = some (.int .i64 0) := by simpa using blk_cell k4 3
  clear k1 k2 k3 k4
  go_upto_region 10 with (first
    | (go_at_call 14; refine (Encode_lit 3 [65, 19969, 65] [65, 14, 33, 34, 15, 65] 0 0 (by decide) _ 3 _ _ ?hC (U32s.of (by decide))).mono ?_; (case hC => exact fresh_C _ _ (by first | rfl | (simp; done)) _ _ rfl _ rfl (by decide)); rintro e w6 ⟨A6, c6, rfl, hC6, hb6⟩; have HC6 := Lib.hid hC6; clear hC6)
    | (go_at_call 15; refine (Fit_lit 3 4 [19969, 65] [14, 33, 34, 15] 0 1 (by decide) _ 2 _ _ ?hC (U32s.of (by decide))).mono ?_; (case hC => exact fresh_C _ _ (by first | rfl | (simp; done)) _ _ rfl _ rfl (by decide)); rintro e w7 ⟨A7, c7, rfl, hC7, hb7⟩; have HC7 := Lib.hid hC7; clear hC7)
    | (go_at_call 20; refine (Decode_lit 3 [65, 15, 14] [65] 0 0 (by decide) _ 3 _ _ (by decide) ?hC (Byt.of (by decide))).mono ?_; (case hC => exact fresh_C _ _ (by first | rfl | (simp; done)) _ _ rfl _ rfl (by decide)); rintro e w8 ⟨A8, c8, rfl, hC8, hc8, hb8⟩; have HC8 := Lib.hid hC8; clear hC8))
  have hC6 : Kd.C (Kd.int .u8) w8 A6 6 [65, 14, 33, 34, 15, 65] := Kd.C_below HC6.out (below_step (below_alloc (below_step (below_alloc (Below.refl _ _) _) hb7) _) hb8)
  have hC7 : Kd.C (Kd.int .u8) w8 A7 4 [14, 33, 34, 15] := Kd.C_below HC7.out (below_step (below_alloc (Below.refl _ _) _) hb8)
  obtain ⟨b8, o8, rfl, hlt8, hcs8⟩ := open_C HC8.out (by decide)
  have d8 : w8.cell? ⟨b8, o8, none⟩ = some (.int .u32 65) := by simpa using hcs8 0 (by decide)
  have r6 : (convert 24 9 (.slice A6 6 c6)).run Try.prog w8 = .ok (.string ⟨#[65, 14, 33, 34, 15, 65]⟩) w8 := Kd.C_string Try.underlying24 (by kernel_rfl) (by kernel_rfl) hC6
  have r7 : (convert 24 9 (.slice A7 4 c7)).run Try.prog w8 = .ok (.string ⟨#[14, 33, 34, 15]⟩) w8 := Kd.C_string Try.underlying24 (by kernel_rfl) (by kernel_rfl) hC7
  have hb9 : Below w.heap.size w w8 := bel
  clear hcs8 hb6 hb7 hb8
  go_wp2
  go_ret
  exact ⟨rfl, hb9⟩
end Go.Proofs.Ytcekghcejmhhaaa
