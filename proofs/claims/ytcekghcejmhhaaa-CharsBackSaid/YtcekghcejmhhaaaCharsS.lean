import Derived.Test.YtcekghcejmhhaaaCharsR
set_option linter.unusedSimpArgs false
set_option linter.unusedVariables false
set_option linter.unnecessarySimpa false
namespace Go.Proofs.Ytcekghcejmhhaaa
open Go.RowKit Go.Proofs.YtcekghcejmhhaaaW.PrintWords Go.Proofs.YtcekghcejmhhaaaW.PrintLast Go.Proofs.YtcekghcejmhhaaaW.PrintMore
set_option maxRecDepth 100000

theorem chg_below_drewN {w w1 : World} {S : Nat → Prop} {n : Nat} (h : Chg w w1 S) : Chg w (w1.drewN n) S := ⟨h.os, h.tape, h.output, h.size, h.block⟩

/-- 'joined', and what it leaves alone. -/
theorem joined_kept {w0 w : World} {base : Nat} {v : Value} {xs : List Int} {A : Option Addr} {c : Nat} {ys : List Int} (hB : Below w0.heap.size w0 w) (hb0 : base ≤ w.heap.size) (hle : w0.heap.size ≤ base) (ho : OwnI .u8 5 base w v xs)
    (hC : ∀ W, Kept w W (fun k => v.ownBlock = some k) → Kd.C (Kd.int .u8) W A ys.length ys) (hc : ys.length ≤ c) (hl : xs.length + ys.length < 140737488355328) :
    Calls Try.prog 42 #[v, .slice A ys.length c] w fun r w' => ∃ v', r = .returned v' ∧ OwnI .u8 5 base w' v' (xs ++ ys) ∧ Chg w w' (fun k => base ≤ k ∧ v.ownBlock = some k) ∧ Below w0.heap.size w0 w' ∧
      (∀ g, v'.ownBlock = some g → v.ownBlock = some g ∨ w.heap.size ≤ g) := by
  have hR : Kd.R (Kd.int .u8) 5 w w0.heap.size (fun k => v.ownBlock = some k) v xs := ⟨fun k hk => hk, by
    obtain ⟨_, inner, h1, h2⟩ := OwnI.lower ho hle
    exact ⟨inner, h1, h2⟩⟩
  refine (PCharsEncode.chars_joined.calls (fun k => v.ownBlock = some k) v xs A c ys (xs ++ ys) w0 w hB hR hC hc (by unfold PCharsEncode.chars_joined.f; rw [if_pos hl])).mono ?_
  rintro e w' ⟨v', he, hr, hb, hk⟩
  have hown : ∀ g, v.ownBlock = some g → base ≤ g := fun g hg => by
    obtain ⟨inner, h⟩ := Kd.R_own ho
    exact (own_base h) g hg
  have hv' : ∀ g, v'.ownBlock = some g → v.ownBlock = some g ∨ w.heap.size ≤ g := fun g hg => hr.1 g hg
  refine ⟨v', he, ?_, ⟨hb.os.trans hB.os.symm, hb.tape.trans hB.tape.symm, hb.output.trans hB.output.symm, hk.1, fun i hi hn => hk.2 i hi (fun hs => hn ⟨hown i hs, hs⟩)⟩, hb, hv'⟩
  have h3 : OwnI .u8 5 w0.heap.size w' v' (xs ++ ys) := Kd.R_mono hr (fun _ _ => trivial)
  exact Kd.R_raise (by intros; assumption) h3 (fun k hk => by rcases hv' k hk with h | h; exact hown k h; omega)

/-- What 'Fit' does last. -/
theorem fit_last_idle (pe pb pn : Nat) (u : FrameMode) (w : World) (he : One w pe 25 (.int .i64 0)) :
    CallsD Try.prog 40 #[.pointer (some ⟨pe, 0, none⟩), .pointer (some ⟨pb, 0, none⟩), .pointer (some ⟨pn, 0, none⟩)] u w fun e u' w' => u' = u ∧ e = .returned (.tuple #[]) ∧ w = w' := by
  have c1 : w.cell? ⟨pe, 0, none⟩ = some (.int .i64 0) := by simpa using blk_cell he 0
  go_enter_d Try.func40, Try.ntmps40
  go_wp2
  go_end0
  exact ⟨rfl, rfl⟩
theorem fit_last (pe pb pn : Nat) (u : FrameMode) (w : World) (ev bv nv : Value) (e : Int) (h0 : ¬ e = 0) (he : One w pe 25 (.int .i64 e)) (hb : One w pb 24 bv) (hn : One w pn 3 nv) (h1 : pb ≠ pn) (h2 : pe ≠ pb) (h3 : pe ≠ pn) :
    CallsD Try.prog 40 #[.pointer (some ⟨pe, 0, none⟩), .pointer (some ⟨pb, 0, none⟩), .pointer (some ⟨pn, 0, none⟩)] u w fun r u' w' => u' = u ∧ r = .returned (.tuple #[]) ∧
      Chg w w' (fun k => k = pb ∨ k = pn) ∧ BlkIs w' pb 24 (· = #[.slice none 0 0]) ∧ BlkIs w' pn 3 (· = #[.int .i64 0]) ∧ BlkIs w' pe 25 (· = #[.int .i64 e]) := by
  have c1 : w.cell? ⟨pe, 0, none⟩ = some (.int .i64 e) := by simpa using blk_cell he 0
  have c2 : w.cell? ⟨pb, 0, none⟩ = some bv := by simpa using blk_cell hb 0
  have c3 : w.cell? ⟨pn, 0, none⟩ = some nv := by simpa using blk_cell hn 0
  have f2 := blk_frozen hb 0
  have f3 := blk_frozen hn 0
  have hd : (e == 0) = false := by simpa using h0
  have HE := Lib.hid he
  have HB := Lib.hid hb
  have HN := Lib.hid hn
  clear he hb hn
  go_enter_d Try.func40, Try.ntmps40
  go_wp2
  go_end0
  exact ⟨rfl, ⟨rfl, rfl, rfl, by simp [World.setCell], fun k hk hk2 => by rw [Below.heap_setCell _ _ _ _ (fun h => hk2 (.inr h)), Below.heap_setCell _ _ _ _ (fun h => hk2 (.inl h))]⟩,
    ⟨_, blk_far (blk_put HB.out 0 _ rfl) h1 _, rfl⟩, ⟨_, blk_put (blk_far HN.out h1.symm _) 0 _ rfl, rfl⟩, ⟨_, blk_far (blk_far HE.out h2 _) h3 _, rfl⟩⟩

/-- The loop of 'Fit', after k characters. -/
def FitRel (enc most : Int) (l : List Int) (w0 w : World) (vl vs vi : Value) : Prop :=
  ∃ (k : Nat) (st : Int) (lg bb : List Int) (vb : Value), k ≤ l.length ∧ vi = .int .i64 k ∧ vs = .int .i64 st ∧ OwnI .u8 5 (w0.heap.size + 1 + 1 + 1 + 1) w vl lg ∧ OwnI .u8 5 (w0.heap.size + 1 + 1 + 1 + 1) w vb bb ∧ (∀ g, vl.ownBlock = some g → ¬ vb.ownBlock = some g) ∧
    One w w0.heap.size 24 vb ∧ One w (w0.heap.size + 1) 3 (.int .i64 k) ∧ One w (w0.heap.size + 1 + 1) 25 (.int .i64 0) ∧ One w (w0.heap.size + 1 + 1 + 1) 3 (.int .i64 0) ∧ Below w0.heap.size w0 w ∧
    lg.length ≤ 4 * k ∧ bb.length ≤ 4 * k + 1 ∧ fitLoop enc most 0 [] [] 0 l = fitLoop enc most st lg bb k (l.drop k)

theorem fitLoop_no {enc most st : Int} {lg bb : List Int} {k : Nat} {c : Int} {t : List Int} (h : ¬ hasC enc c = true) : fitLoop enc most st lg bb k (c :: t) = ([], 0, 15) := by rw [fitLoop, if_neg h]
theorem fitLoop_full {enc most st : Int} {lg bb : List Int} {k : Nat} {c : Int} {t : List Int} (h : hasC enc c = true) (h2 : most < ((lg ++ (putC enc st c).1) ++ turnC (putC enc st c).2 0).length) :
    fitLoop enc most st lg bb k (c :: t) = (bb, (k : Int), 0) := by rw [fitLoop, if_pos h]; dsimp only; rw [if_pos h2]
theorem fitLoop_more {enc most st : Int} {lg bb : List Int} {k : Nat} {c : Int} {t : List Int} (h : hasC enc c = true) (h2 : ¬ most < ((lg ++ (putC enc st c).1) ++ turnC (putC enc st c).2 0).length) :
    fitLoop enc most st lg bb k (c :: t) = fitLoop enc most (putC enc st c).2 (lg ++ (putC enc st c).1) ((lg ++ (putC enc st c).1) ++ turnC (putC enc st c).2 0) (k + 1) t := by rw [fitLoop, if_pos h]; dsimp only; rw [if_neg h2]

def FitPost (enc : Int) (l : List Int) (most : Int) (w : World) (r : Ending) (w' : World) : Prop :=
  ∃ v, r = .returned (.tuple #[v, .int .i64 (fitC enc l most).2.1, .int .i64 (fitC enc l most).2.2]) ∧ OwnI .u8 5 w.heap.size w' v (fitC enc l most).1 ∧ Below w.heap.size w w'

set_option maxHeartbeats 4000000 in
theorem fit_1 (enc most : Int) (h : enc = 1) (A : Option Addr) (n c : Nat) (l : List Int) (w : World) (hn : n ≤ 20000) (hmost : 0 ≤ most) (hC : Kd.C (Kd.int .u32) w A n l) (hx : U32s l) :
    Calls Try.prog 15 #[.int .i64 enc, .slice A n c, .int .i64 most] w (FitPost enc l most w) := by
  have hl : l.length = n := hC.1
  have HL := Lib.hid hl
  have HC := Lib.hid hC
  have HX := Lib.hid hx
  subst h
  have hok : encOk 1 := by decide
  have HF : Hid (fitC 1 l most = fitLoop 1 most 0 [] [] 0 l) := Lib.hid (by unfold fitC; rw [if_neg (by simpa using hok), if_neg (by omega), if_neg (by omega)])
  clear hl hC hx
  have hn2 : (n : Int) ≤ 20000 := by omega
  have m1 := meth_has_1
  have m2 := meth_put_1
  go_enter_defers Try.func15, Try.ntmps15
  go_wp2_with (first | (go_at_call 37; (with_reducible refine (of_ok _ hok _).mono ?_); rintro e w1 ⟨rfl, rfl⟩; simp only [encV_1, encV_2, encV_3]) | (go_at_call 38; (with_reducible refine (few_ok _ hn2 _).mono ?_); rintro e w1 ⟨rfl, rfl⟩) | (go_at_call 41; (with_reducible refine (need_true _ _ _).mono ?_); rintro e w3 ⟨rfl, rfl⟩))
  go_loopw [11, 12, 29] (fun vs vl vi wr => FitRel 1 most l w wr vl vs vi) (fun _ _ vi _ => n - (intOf vi).toNat)
  case atStart =>
    exact ⟨0, 0, [], [], .slice none 0 0, Nat.zero_le _, rfl, rfl, Kd.R_nil _ _ _ _ _, Kd.R_nil _ _ _ _ _, by simp [Value.ownBlock], BlkIs.one (by repeat (first | with_reducible assumption | ((with_reducible refine BlkIs.new ?hg ?hf); (case hg => (simp; done)); (case hf => first | rfl | (simp; done))) | with_reducible refine BlkIs.alloc ?_ | with_reducible refine BlkIs.drewN ?_ | with_reducible refine BlkIs.drew ?_ | with_reducible refine BlkIs.set ?_ | ((with_reducible refine BlkIs.far ?_ ?hne); (case hne => first | (simp; done) | omega | (simp; omega))) | with_reducible refine BlkIs.below ?_ (by assumption) | ((with_reducible refine BlkIs.chg ?_ (by assumption) ?hnn); (case hnn => first | (simp; done) | omega | (simp; omega) | (intro hs; have := hs.1; omega))) | ((with_reducible refine BlkIs.of (by assumption) ?hf); (case hf => first | rfl | (simp; done))))), BlkIs.one (by repeat (first | with_reducible assumption | ((with_reducible refine BlkIs.new ?hg ?hf); (case hg => (simp; done)); (case hf => first | rfl | (simp; done))) | with_reducible refine BlkIs.alloc ?_ | with_reducible refine BlkIs.drewN ?_ | with_reducible refine BlkIs.drew ?_ | with_reducible refine BlkIs.set ?_ | ((with_reducible refine BlkIs.far ?_ ?hne); (case hne => first | (simp; done) | omega | (simp; omega))) | with_reducible refine BlkIs.below ?_ (by assumption) | ((with_reducible refine BlkIs.chg ?_ (by assumption) ?hnn); (case hnn => first | (simp; done) | omega | (simp; omega) | (intro hs; have := hs.1; omega))) | ((with_reducible refine BlkIs.of (by assumption) ?hf); (case hf => first | rfl | (simp; done))))), BlkIs.one (by repeat (first | with_reducible assumption | ((with_reducible refine BlkIs.new ?hg ?hf); (case hg => (simp; done)); (case hf => first | rfl | (simp; done))) | with_reducible refine BlkIs.alloc ?_ | with_reducible refine BlkIs.drewN ?_ | with_reducible refine BlkIs.drew ?_ | with_reducible refine BlkIs.set ?_ | ((with_reducible refine BlkIs.far ?_ ?hne); (case hne => first | (simp; done) | omega | (simp; omega))) | with_reducible refine BlkIs.below ?_ (by assumption) | ((with_reducible refine BlkIs.chg ?_ (by assumption) ?hnn); (case hnn => first | (simp; done) | omega | (simp; omega) | (intro hs; have := hs.1; omega))) | ((with_reducible refine BlkIs.of (by assumption) ?hf); (case hf => first | rfl | (simp; done))))), BlkIs.one (by repeat (first | with_reducible assumption | ((with_reducible refine BlkIs.new ?hg ?hf); (case hg => (simp; done)); (case hf => first | rfl | (simp; done))) | with_reducible refine BlkIs.alloc ?_ | with_reducible refine BlkIs.drewN ?_ | with_reducible refine BlkIs.drew ?_ | with_reducible refine BlkIs.set ?_ | ((with_reducible refine BlkIs.far ?_ ?hne); (case hne => first | (simp; done) | omega | (simp; omega))) | with_reducible refine BlkIs.below ?_ (by assumption) | ((with_reducible refine BlkIs.chg ?_ (by assumption) ?hnn); (case hnn => first | (simp; done) | omega | (simp; omega) | (intro hs; have := hs.1; omega))) | ((with_reducible refine BlkIs.of (by assumption) ?hf); (case hf => first | rfl | (simp; done))))), (by repeat (first | with_reducible assumption | with_reducible exact Below.refl _ _ | with_reducible refine below_alloc ?_ _ | with_reducible refine pw_below_drewN ?_ _ | with_reducible refine below_drew1 ?_ | ((with_reducible refine below_set ?_ ?hle); (case hle => first | (simp; done) | omega | (simp; omega))) | with_reducible refine below_step ?_ (by assumption))), by simp, by simp, by simp⟩
  case round =>
    obtain ⟨k, st, lg, bb, vb, hk, rfl, rfl, hlg, hbb, hne, ob, on, oe, oa, hbw, hll, hbl, hr⟩ := hrel
    obtain ⟨Ab, cbb, rfl⟩ := Kd.R_slice hbb
    have HR := Lib.hid hr
    have HLG := Lib.hid hlg
    have HBB := Lib.hid hbb
    have HNE := Lib.hid hne
    have HLK := Lib.hid hk
    have OB := Lib.hid ob
    have ON := Lib.hid on
    have OE := Lib.hid oe
    have OA := Lib.hid oa
    have HBW := Lib.hid hbw
    have hsz := below_size hbw
    have hsa := blk_lt oa
    clear hr hlg hbb hne hk
    by_cases hkn : k < n
    · obtain ⟨b, off, rfl, hlt, hcs⟩ := open_C (C_of_below HC.out hbw) (by omega)
      have hcell := hcs k hkn
      clear hcs hbw ob on oe oa
      obtain ⟨xa, xb⟩ := HX.out k
      have hR2 : l.drop k = l.getD k 0 :: l.drop (k + 1) := by
        have := HL.out
        rw [List.drop_eq_getElem_cons (by omega), List.getD_eq_getElem?_getD, List.getElem?_eq_getElem (by omega)]; rfl
      have HR2 := Lib.hid hR2
      clear hR2
      generalize l.getD k 0 = x at *
      by_cases hh : hasC 1 x = true
      · have HH := Lib.hid hh
        go_wp2_with (first | (go_at_call 41; (with_reducible refine (need_true _ _ _).mono ?_); rintro e w3 ⟨rfl, rfl⟩) | (with_reducible show Calls Try.prog 68 #[_, _] _ _; (with_reducible refine (octets_has _ _).mono ?_); rintro e w1 ⟨rfl, hb⟩; obtain ⟨hc, hf⟩ := bcell hb) | (with_reducible show Calls Try.prog 74 #[_, _] _ _; (with_reducible refine (utf8_has _ _).mono ?_); rintro e w1 ⟨rfl, hb⟩; obtain ⟨hc, hf⟩ := bcell hb) | (with_reducible show Calls Try.prog 81 #[_, _] _ _; (with_reducible refine (shift_has _ _).mono ?_); rintro e w1 ⟨rfl, hb⟩; obtain ⟨hc, hf⟩ := bcell hb) | (with_reducible show Calls Try.prog 70 #[_, _, _] _ _; refine (octets_put' _ _ _ xa HH.out).mono ?_; rintro e w2 ⟨v2, rfl, hv2, hb2⟩; obtain ⟨A2, c2, rfl, hle2, _⟩ := Kd.R_reads hv2) | (with_reducible show Calls Try.prog 76 #[_, _, _] _ _; refine (utf8_put' _ _ _ xa HH.out).mono ?_; rintro e w2 ⟨v2, rfl, hv2, hb2⟩; obtain ⟨A2, c2, rfl, hle2, _⟩ := Kd.R_reads hv2) | (with_reducible show Calls Try.prog 83 #[_, _, _] _ _; refine (shift_put _ _ _ xa HH.out).mono ?_; rintro e w2 ⟨v2, rfl, hv2, hb2⟩; obtain ⟨A2, c2, rfl, hle2, _⟩ := Kd.R_reads hv2))
        have hz1 := below_size hb
        have hz2 := below_size hb2
        have hpl := putC_len 1 st x
        refine (joined_kept (w0 := w) (base := w.heap.size + 1 + 1 + 1 + 1) (xs := lg) (ys := (putC 1 st x).1) (below_step (below_step HBW.out hb) hb2) (by omega) (by omega) (Kd.R_below HLG.out (below_step hb hb2)) (own_src hv2 (fun j hj he => by have := own_lt_size HLG.out he; omega)) hle2 (by omega)).mono ?_
        rintro e w4 ⟨v4, rfl, hv4, hch4, hb4, hown4⟩
        have HB4 := Lib.hid hb4
        clear hb4
        have ob4 : One w4 w.heap.size 24 (.slice Ab bb.length cbb) := by have := OB.out; exact BlkIs.one (by repeat (first | with_reducible assumption | ((with_reducible refine BlkIs.new ?hg ?hf); (case hg => (simp; done)); (case hf => first | rfl | (simp; done))) | with_reducible refine BlkIs.alloc ?_ | with_reducible refine BlkIs.drewN ?_ | with_reducible refine BlkIs.drew ?_ | with_reducible refine BlkIs.set ?_ | ((with_reducible refine BlkIs.far ?_ ?hne); (case hne => first | (simp; done) | omega | (simp; omega))) | with_reducible refine BlkIs.below ?_ (by assumption) | ((with_reducible refine BlkIs.chg ?_ (by assumption) ?hnn); (case hnn => first | (simp; done) | omega | (simp; omega) | (intro hs; have := hs.1; omega))) | ((with_reducible refine BlkIs.of (by assumption) ?hf); (case hf => first | rfl | (simp; done)))))
        have on4 : One w4 (w.heap.size + 1) 3 (.int .i64 k) := by have := ON.out; exact BlkIs.one (by repeat (first | with_reducible assumption | ((with_reducible refine BlkIs.new ?hg ?hf); (case hg => (simp; done)); (case hf => first | rfl | (simp; done))) | with_reducible refine BlkIs.alloc ?_ | with_reducible refine BlkIs.drewN ?_ | with_reducible refine BlkIs.drew ?_ | with_reducible refine BlkIs.set ?_ | ((with_reducible refine BlkIs.far ?_ ?hne); (case hne => first | (simp; done) | omega | (simp; omega))) | with_reducible refine BlkIs.below ?_ (by assumption) | ((with_reducible refine BlkIs.chg ?_ (by assumption) ?hnn); (case hnn => first | (simp; done) | omega | (simp; omega) | (intro hs; have := hs.1; omega))) | ((with_reducible refine BlkIs.of (by assumption) ?hf); (case hf => first | rfl | (simp; done)))))
        have oe4 : One w4 (w.heap.size + 1 + 1) 25 (.int .i64 0) := by have := OE.out; exact BlkIs.one (by repeat (first | with_reducible assumption | ((with_reducible refine BlkIs.new ?hg ?hf); (case hg => (simp; done)); (case hf => first | rfl | (simp; done))) | with_reducible refine BlkIs.alloc ?_ | with_reducible refine BlkIs.drewN ?_ | with_reducible refine BlkIs.drew ?_ | with_reducible refine BlkIs.set ?_ | ((with_reducible refine BlkIs.far ?_ ?hne); (case hne => first | (simp; done) | omega | (simp; omega))) | with_reducible refine BlkIs.below ?_ (by assumption) | ((with_reducible refine BlkIs.chg ?_ (by assumption) ?hnn); (case hnn => first | (simp; done) | omega | (simp; omega) | (intro hs; have := hs.1; omega))) | ((with_reducible refine BlkIs.of (by assumption) ?hf); (case hf => first | rfl | (simp; done)))))
        have oa4 : One w4 (w.heap.size + 1 + 1 + 1) 3 (.int .i64 0) := by have := OA.out; exact BlkIs.one (by repeat (first | with_reducible assumption | ((with_reducible refine BlkIs.new ?hg ?hf); (case hg => (simp; done)); (case hf => first | rfl | (simp; done))) | with_reducible refine BlkIs.alloc ?_ | with_reducible refine BlkIs.drewN ?_ | with_reducible refine BlkIs.drew ?_ | with_reducible refine BlkIs.set ?_ | ((with_reducible refine BlkIs.far ?_ ?hne); (case hne => first | (simp; done) | omega | (simp; omega))) | with_reducible refine BlkIs.below ?_ (by assumption) | ((with_reducible refine BlkIs.chg ?_ (by assumption) ?hnn); (case hnn => first | (simp; done) | omega | (simp; omega) | (intro hs; have := hs.1; omega))) | ((with_reducible refine BlkIs.of (by assumption) ?hf); (case hf => first | rfl | (simp; done)))))
        have HBB4 : Hid (OwnI .u8 5 (w.heap.size + 1 + 1 + 1 + 1) w4 (.slice Ab bb.length cbb) bb) := Lib.hid (Kd.R_mono (Kd.R_step (Kd.R_bound (Kd.R_tight rfl (Kd.R_below HBB.out (below_step hb hb2)))) (fun j hj hlt => hch4.block j hlt (fun hs => HNE.out j hs.2 hj.1.symm))) (fun _ _ => trivial))
        have hz4 := hch4.size
        have HCH4 := Lib.hid hch4
        have HV4 := Lib.hid hv4
        have HOWN4 := Lib.hid hown4
        clear hv4 hch4 hown4
        have hlen4 : (lg ++ (putC 1 st x).1).length ≤ 4 * (k + 1) := by rw [List.length_append]; omega
        have hlen5 := turnC_len (putC 1 st x).2 0
        have hlap : (((lg ++ (putC 1 st x).1) ++ turnC (putC 1 st x).2 0).length : Nat) = (lg ++ (putC 1 st x).1).length + (turnC (putC 1 st x).2 0).length := List.length_append
        have HLAP := Lib.hid hlap
        clear hlap
        obtain ⟨A4, c4, rfl, hle4, _⟩ := Kd.R_reads HV4.out
        obtain ⟨la, hla⟩ : ∃ la, la = (lg ++ (putC 1 st x).1).length := ⟨_, rfl⟩
        obtain ⟨lb, hlb⟩ : ∃ lb, lb = (turnC (putC 1 st x).2 0).length := ⟨_, rfl⟩
        rw [← hla] at hle4 hlen4 ⊢
        rw [← hlb] at hlen5
        have HLA := Lib.hid hla
        have HLB := Lib.hid hlb
        clear hla hlb
        have hadd : IntKind.i64.wrap ((la : Int) + (lb : Int)) = (la : Int) + (lb : Int) := IntWalk.i64_in _ (by omega)
        by_cases hfit : most < (la : Int) + (lb : Int)
        · have HFT := Lib.hid hfit
          clear hlen4 hlen5
          go_wp2_with (go_at_call 43; (with_reducible refine (turn_any _ _ _).mono ?_); rintro e w5 ⟨v5, rfl, hv5, hb5⟩; obtain ⟨A5, c5, rfl, hle5, _⟩ := Kd.R_reads hv5; rw [← HLB.out] at hle5 ⊢; obtain ⟨cb5, fb5⟩ := bcell hb5)
          have ob5 := blk_below ob4 hb5
          have on5 := blk_below on4 hb5
          have oe5 := blk_below oe4 hb5
          have oa5 := blk_below oa4 hb5
          (have cb5 : World.cell? w5 ⟨w.heap.size, 0, none⟩ = some (.slice Ab bb.length cbb) := (by simpa using blk_cell ob5 0)); have fb5 := blk_frozen ob5 0
          (have cn5 : World.cell? w5 ⟨w.heap.size + 1, 0, none⟩ = some (.int .i64 k) := (by simpa using blk_cell on5 0)); have fn5 := blk_frozen on5 0
          (have ce5 : World.cell? w5 ⟨w.heap.size + 1 + 1, 0, none⟩ = some (.int .i64 0) := (by simpa using blk_cell oe5 0)); have fe5 := blk_frozen oe5 0
          go_region
          go_wp2
          have ob6 := ob5
          have HBB5 := Lib.hid (OwnI.below HBB4.out hb5)
          have HB5 := Lib.hid (below_step HB4.out hb5)
          refine leaves_cons (f := 36) (args := #[.pointer (some ⟨w.heap.size + 1 + 1, 0, none⟩), .pointer (some ⟨w.heap.size + 1 + 1 + 1, 0, none⟩)]) (by simp [settle]) (by simp [go_sem]) ?_
          refine (caught_idle _ _ _).mono ?_
          rintro e u' w'' ⟨rfl, rfl, rfl⟩
          refine leaves_cons (f := 40) (args := #[.pointer (some ⟨w.heap.size + 1 + 1, 0, none⟩), .pointer (some ⟨w.heap.size, 0, none⟩), .pointer (some ⟨w.heap.size + 1, 0, none⟩)]) (by simp [settle]) (by simp [go_sem]) ?_
          refine (fit_last_idle _ _ _ _ _ (BlkIs.one (by repeat (first | with_reducible assumption | ((with_reducible refine BlkIs.new ?hg ?hf); (case hg => (simp; done)); (case hf => first | rfl | (simp; done))) | with_reducible refine BlkIs.alloc ?_ | with_reducible refine BlkIs.drewN ?_ | with_reducible refine BlkIs.drew ?_ | with_reducible refine BlkIs.set ?_ | ((with_reducible refine BlkIs.far ?_ ?hne); (case hne => first | (simp; done) | omega | (simp; omega))) | with_reducible refine BlkIs.below ?_ (by assumption) | ((with_reducible refine BlkIs.chg ?_ (by assumption) ?hnn); (case hnn => first | (simp; done) | omega | (simp; omega) | (intro hs; have := hs.1; omega))) | ((with_reducible refine BlkIs.of (by assumption) ?hf); (case hf => first | rfl | (simp; done))))))).mono ?_
          rintro e u' w'' ⟨rfl, rfl, rfl⟩
          have he : fitC 1 l most = (bb, (k : Int), 0) := by
            rw [HF.out, HR.out, HR2.out, fitLoop_full HH.out (by have := HFT.out; rw [HLAP.out, ← HLA.out, ← HLB.out]; omega)]
          exact ⟨.tuple #[.slice Ab bb.length cbb, .int .i64 k, .int .i64 0], rresults (rs := [.cell 6 24, .cell 7 3, .cell 8 25]) rfl (by simp) (.cell w.heap.size rfl (load_one (t := 24) (by repeat (first | with_reducible assumption | ((with_reducible refine BlkIs.new ?hg ?hf); (case hg => (simp; done)); (case hf => first | rfl | (simp; done))) | with_reducible refine BlkIs.alloc ?_ | with_reducible refine BlkIs.drewN ?_ | with_reducible refine BlkIs.drew ?_ | with_reducible refine BlkIs.set ?_ | ((with_reducible refine BlkIs.far ?_ ?hne); (case hne => first | (simp; done) | omega | (simp; omega))) | with_reducible refine BlkIs.below ?_ (by assumption) | ((with_reducible refine BlkIs.chg ?_ (by assumption) ?hnn); (case hnn => first | (simp; done) | omega | (simp; omega) | (intro hs; have := hs.1; omega))) | ((with_reducible refine BlkIs.of (by assumption) ?hf); (case hf => first | rfl | (simp; done))))) (by kernel_rfl)) (.cell (w.heap.size + 1) rfl (load_one (t := 3) (by repeat (first | with_reducible assumption | ((with_reducible refine BlkIs.new ?hg ?hf); (case hg => (simp; done)); (case hf => first | rfl | (simp; done))) | with_reducible refine BlkIs.alloc ?_ | with_reducible refine BlkIs.drewN ?_ | with_reducible refine BlkIs.drew ?_ | with_reducible refine BlkIs.set ?_ | ((with_reducible refine BlkIs.far ?_ ?hne); (case hne => first | (simp; done) | omega | (simp; omega))) | with_reducible refine BlkIs.below ?_ (by assumption) | ((with_reducible refine BlkIs.chg ?_ (by assumption) ?hnn); (case hnn => first | (simp; done) | omega | (simp; omega) | (intro hs; have := hs.1; omega))) | ((with_reducible refine BlkIs.of (by assumption) ?hf); (case hf => first | rfl | (simp; done))))) (by kernel_rfl)) (.cell (w.heap.size + 1 + 1) rfl (load_one (t := 25) (by repeat (first | with_reducible assumption | ((with_reducible refine BlkIs.new ?hg ?hf); (case hg => (simp; done)); (case hf => first | rfl | (simp; done))) | with_reducible refine BlkIs.alloc ?_ | with_reducible refine BlkIs.drewN ?_ | with_reducible refine BlkIs.drew ?_ | with_reducible refine BlkIs.set ?_ | ((with_reducible refine BlkIs.far ?_ ?hne); (case hne => first | (simp; done) | omega | (simp; omega))) | with_reducible refine BlkIs.below ?_ (by assumption) | ((with_reducible refine BlkIs.chg ?_ (by assumption) ?hnn); (case hnn => first | (simp; done) | omega | (simp; omega) | (intro hs; have := hs.1; omega))) | ((with_reducible refine BlkIs.of (by assumption) ?hf); (case hf => first | rfl | (simp; done))))) (by kernel_rfl)) .nil))), _, by rw [he], by rw [he]; exact OwnI.lower (base := w.heap.size + 1 + 1 + 1 + 1) (by have := HBB5.out; exact (by repeat (first | with_reducible assumption | ((with_reducible refine OwnI.set ?_ ?hlt); (case hlt => first | (simp; done) | omega | (simp; omega))) | with_reducible refine OwnI.drewN ?_ | with_reducible refine OwnI.drew ?_ | with_reducible refine OwnI.alloc ?_ | with_reducible refine OwnI.below ?_ (by assumption)))) (by omega), by have := HB5.out; exact (by repeat (first | with_reducible assumption | with_reducible exact Below.refl _ _ | with_reducible refine below_alloc ?_ _ | with_reducible refine pw_below_drewN ?_ _ | with_reducible refine below_drew1 ?_ | ((with_reducible refine below_set ?_ ?hle); (case hle => first | (simp; done) | omega | (simp; omega))) | with_reducible refine below_step ?_ (by assumption)))⟩
        · have HFT := Lib.hid hfit
          have HLN := Lib.hid (And.intro hlen4 hlen5)
          clear hlen4 hlen5
          go_wp2_with (go_at_call 43; (with_reducible refine (turn_any _ _ _).mono ?_); rintro e w5 ⟨v5, rfl, hv5, hb5⟩; obtain ⟨A5, c5, rfl, hle5, _⟩ := Kd.R_reads hv5; rw [← HLB.out] at hle5 ⊢; obtain ⟨cb5, fb5⟩ := bcell hb5)
          obtain ⟨hlen4, hlen5⟩ := HLN.out
          have ob5 := blk_below ob4 hb5
          have on5 := blk_below on4 hb5
          have oe5 := blk_below oe4 hb5
          have oa5 := blk_below oa4 hb5
          have hz5 := below_size hb5
          have hj1 := joined_any (w0 := w5) (w := w5) (xs := []) (ys := lg ++ (putC 1 st x).1) (A := A4) (c := c4) (Below.refl _ _) (Kd.R_nil _ _ _ _ _) (own_src (OwnI.below HV4.out hb5) (S := fun k => (Value.slice none 0 0).ownBlock = some k) (fun j _ => by simp [Value.ownBlock])) (by rw [← HLA.out]; exact hle4) (by first | (simp; done) | (simp; omega))
          rw [← HLA.out] at hj1
          refine hj1.mono ?_
          rintro e w6 ⟨v6, rfl, hv6, hb6⟩
          clear hj1
          have hz6 := below_size hb6
          rw [List.nil_append] at hv6
          obtain ⟨A6, c6, rfl⟩ := Kd.R_slice hv6
          rw [← HLA.out] at hv6 ⊢
          have hsrc : ∀ W, Kept w6 W (fun k => (Value.slice A6 la c6).ownBlock = some k) → Kd.C (Kd.int .u8) W A5 (turnC (putC 1 st x).2 0).length (turnC (putC 1 st x).2 0) := Kd.C_kept_own (Kd.R_below (Kd.R_bound hv5) hb6) (fun j hj he => by
            obtain ⟨inner, ho⟩ := Kd.R_own hv6
            have := own_base ho j he
            have := hj.2.2.1
            omega)
          have HV6 := Lib.hid hv6
          have HSRC := Lib.hid hsrc
          have HB5 := Lib.hid (below_step HB4.out hb5)
          have HV5 := Lib.hid (OwnI.below HV4.out hb5)
          clear hv6 hsrc hv5
          go_wp2_with fail
          have hj2 := joined_any (w0 := w5) (w := w6) (v := .slice A6 la c6) (xs := lg ++ (putC 1 st x).1) (ys := turnC (putC 1 st x).2 0) (A := A5) (c := c5) hb6 HV6.out HSRC.out (by rw [← HLB.out]; exact hle5) (by rw [← HLA.out, ← HLB.out]; omega)
          rw [← HLB.out] at hj2
          refine hj2.mono ?_
          rintro e w7 ⟨v7, rfl, hv7, hb7⟩
          clear hj2
          have ob7 := blk_below ob5 hb7
          have on7 := blk_below on5 hb7
          have oe7 := blk_below oe5 hb7
          have oa7 := blk_below oa5 hb7
          obtain ⟨A7, c7, rfl⟩ := Kd.R_slice hv7
          obtain ⟨lc, hlc⟩ : ∃ lc, lc = (lg ++ (putC 1 st x).1 ++ turnC (putC 1 st x).2 0).length := ⟨_, rfl⟩
          rw [← hlc] at hv7 ⊢
          have HLC := Lib.hid hlc
          have HV7 := Lib.hid hv7
          clear hv7 hlc
          (have cb7 : World.cell? w7 ⟨w.heap.size, 0, none⟩ = some (.slice Ab bb.length cbb) := (by simpa using blk_cell ob7 0)); have fb7 := blk_frozen ob7 0
          (have cn7 : World.cell? w7 ⟨w.heap.size + 1, 0, none⟩ = some (.int .i64 k) := (by simpa using blk_cell on7 0)); have fn7 := blk_frozen on7 0
          go_wp2
          have hz7 := below_size hb7
          have hv5 := HV5.out
          rw [← HLA.out] at hv5
          refine ⟨⟨k + 1, (putC 1 st x).2, lg ++ (putC 1 st x).1, lg ++ (putC 1 st x).1 ++ turnC (putC 1 st x).2 0, .slice A7 lc c7, by have := HL.out; omega, by push_cast; rfl, rfl, ?_, ?_, ?_, BlkIs.one (by repeat (first | with_reducible assumption | ((with_reducible refine BlkIs.new ?hg ?hf); (case hg => (simp; done)); (case hf => first | rfl | (simp; done))) | with_reducible refine BlkIs.alloc ?_ | with_reducible refine BlkIs.drewN ?_ | with_reducible refine BlkIs.drew ?_ | with_reducible refine BlkIs.set ?_ | ((with_reducible refine BlkIs.far ?_ ?hne); (case hne => first | (simp; done) | omega | (simp; omega))) | with_reducible refine BlkIs.below ?_ (by assumption) | ((with_reducible refine BlkIs.chg ?_ (by assumption) ?hnn); (case hnn => first | (simp; done) | omega | (simp; omega) | (intro hs; have := hs.1; omega))) | ((with_reducible refine BlkIs.of (by assumption) ?hf); (case hf => first | rfl | (simp; done))))), ?_, BlkIs.one (by repeat (first | with_reducible assumption | ((with_reducible refine BlkIs.new ?hg ?hf); (case hg => (simp; done)); (case hf => first | rfl | (simp; done))) | with_reducible refine BlkIs.alloc ?_ | with_reducible refine BlkIs.drewN ?_ | with_reducible refine BlkIs.drew ?_ | with_reducible refine BlkIs.set ?_ | ((with_reducible refine BlkIs.far ?_ ?hne); (case hne => first | (simp; done) | omega | (simp; omega))) | with_reducible refine BlkIs.below ?_ (by assumption) | ((with_reducible refine BlkIs.chg ?_ (by assumption) ?hnn); (case hnn => first | (simp; done) | omega | (simp; omega) | (intro hs; have := hs.1; omega))) | ((with_reducible refine BlkIs.of (by assumption) ?hf); (case hf => first | rfl | (simp; done))))), BlkIs.one (by repeat (first | with_reducible assumption | ((with_reducible refine BlkIs.new ?hg ?hf); (case hg => (simp; done)); (case hf => first | rfl | (simp; done))) | with_reducible refine BlkIs.alloc ?_ | with_reducible refine BlkIs.drewN ?_ | with_reducible refine BlkIs.drew ?_ | with_reducible refine BlkIs.set ?_ | ((with_reducible refine BlkIs.far ?_ ?hne); (case hne => first | (simp; done) | omega | (simp; omega))) | with_reducible refine BlkIs.below ?_ (by assumption) | ((with_reducible refine BlkIs.chg ?_ (by assumption) ?hnn); (case hnn => first | (simp; done) | omega | (simp; omega) | (intro hs; have := hs.1; omega))) | ((with_reducible refine BlkIs.of (by assumption) ?hf); (case hf => first | rfl | (simp; done))))), ?_, ?_, ?_, ?_⟩, ?_⟩
          · exact OwnI.set (OwnI.set (OwnI.below hv5 hb7) (by first | (simp; done) | (simp; omega))) (by first | (simp; done) | (simp; omega))
          · exact OwnI.lower (OwnI.set (OwnI.set HV7.out (by first | (simp; done) | (simp; omega))) (by first | (simp; done) | (simp; omega))) (by omega)
          · intro g hg hg2
            have h1 := own_lt_size hv5 hg
            obtain ⟨inner, ho⟩ := Kd.R_own HV7.out
            have h2 := own_base ho g hg2
            omega
          · have : One (((w7.setCell ⟨w.heap.size, 0, none⟩ (.slice A7 lc c7)).setCell ⟨w.heap.size + 1, 0, none⟩ (.int .i64 (k + 1)))) (w.heap.size + 1) 3 (.int .i64 (k + 1)) := BlkIs.one (by repeat (first | with_reducible assumption | ((with_reducible refine BlkIs.new ?hg ?hf); (case hg => (simp; done)); (case hf => first | rfl | (simp; done))) | with_reducible refine BlkIs.alloc ?_ | with_reducible refine BlkIs.drewN ?_ | with_reducible refine BlkIs.drew ?_ | with_reducible refine BlkIs.set ?_ | ((with_reducible refine BlkIs.far ?_ ?hne); (case hne => first | (simp; done) | omega | (simp; omega))) | with_reducible refine BlkIs.below ?_ (by assumption) | ((with_reducible refine BlkIs.chg ?_ (by assumption) ?hnn); (case hnn => first | (simp; done) | omega | (simp; omega) | (intro hs; have := hs.1; omega))) | ((with_reducible refine BlkIs.of (by assumption) ?hf); (case hf => first | rfl | (simp; done)))))
            simpa using this
          · have := HB5.out; exact (by repeat (first | with_reducible assumption | with_reducible exact Below.refl _ _ | with_reducible refine below_alloc ?_ _ | with_reducible refine pw_below_drewN ?_ _ | with_reducible refine below_drew1 ?_ | ((with_reducible refine below_set ?_ ?hle); (case hle => first | (simp; done) | omega | (simp; omega))) | with_reducible refine below_step ?_ (by assumption)))
          · rw [← HLA.out]; omega
          · rw [← HLC.out, HLC.out, HLAP.out, ← HLA.out, ← HLB.out]; omega
          · rw [HR.out, HR2.out, fitLoop_more HH.out (by have := HFT.out; rw [HLAP.out, ← HLA.out, ← HLB.out]; omega)]
          · simp only [intOf]; omega
      · have hh2 : hasC 1 x = false := by simpa using hh
        have HH := Lib.hid hh
        clear hh
        go_wp2_with (first | (go_at_call 41; (with_reducible refine (need_false _ _ _).mono ?_); rintro e w3 ⟨rfl, rfl⟩) | (with_reducible show Calls Try.prog 68 #[_, _] _ _; (with_reducible refine (octets_has _ _).mono ?_); rintro e w1 ⟨rfl, hb⟩; obtain ⟨hc, hf⟩ := bcell hb) | (with_reducible show Calls Try.prog 74 #[_, _] _ _; (with_reducible refine (utf8_has _ _).mono ?_); rintro e w1 ⟨rfl, hb⟩; obtain ⟨hc, hf⟩ := bcell hb) | (with_reducible show Calls Try.prog 81 #[_, _] _ _; (with_reducible refine (shift_has _ _).mono ?_); rintro e w1 ⟨rfl, hb⟩; obtain ⟨hc, hf⟩ := bcell hb))
        have hzb := below_size hb
        have HB1 := Lib.hid (below_step HBW.out hb)
        have ob1 := blk_below OB.out hb
        have on1 := blk_below ON.out hb
        have oe1 := blk_below OE.out hb
        have oa1 := blk_below OA.out hb
        refine leaves_cons (f := 36) (args := #[.pointer (some ⟨w.heap.size + 1 + 1, 0, none⟩), .pointer (some ⟨w.heap.size + 1 + 1 + 1, 0, none⟩)]) (by simp [settle]) (by simp [go_sem]) ?_
        refine (caught_panic (w.heap.size + 1 + 1) (w.heap.size + 1 + 1 + 1) 15 0 0 0 [] _ oe1 oa1 (by omega)).mono ?_
        rintro e u' w'' ⟨rfl, rfl, hch, hp, hq⟩
        refine leaves_cons (f := 40) (args := #[.pointer (some ⟨w.heap.size + 1 + 1, 0, none⟩), .pointer (some ⟨w.heap.size, 0, none⟩), .pointer (some ⟨w.heap.size + 1, 0, none⟩)]) (by simp [settle]) (by simp [go_sem]) ?_
        refine (fit_last _ _ _ _ _ (.int .i64 15) _ _ 15 (by decide) hp (blk_chg ob1 hch (by first | (simp; done) | (simp; omega))) (blk_chg on1 hch (by first | (simp; done) | (simp; omega))) (by omega) (by omega) (by omega)).mono ?_
        rintro e u' w4 ⟨rfl, rfl, hch4, q1, q2, q3⟩
        have he : fitC 1 l most = ([], 0, 15) := by
          rw [HF.out, HR.out, HR2.out, fitLoop_no HH.out]
        exact ⟨.tuple #[.slice none 0 0, .int .i64 0, .int .i64 15], rresults (rs := [.cell 6 24, .cell 7 3, .cell 8 25]) rfl (by simp) (.cell w.heap.size rfl (load_one (t := 24) q1 (by kernel_rfl)) (.cell (w.heap.size + 1) rfl (load_one (t := 3) q2 (by kernel_rfl)) (.cell (w.heap.size + 1 + 1) rfl (load_one (t := 25) q3 (by kernel_rfl)) .nil))), _, by rw [he], by rw [he]; exact Kd.R_nil _ _ _ _ _, below_chg (below_chg HB1.out hch (by omega)) hch4 (by omega)⟩
    · have hkk : l.length ≤ k := by have := HL.out; omega
      have HKK := Lib.hid hkk
      have ob5 := OB.out
      have on5 := ON.out
      have oe5 := OE.out
      (have cb5 : World.cell? wr ⟨w.heap.size, 0, none⟩ = some (.slice Ab bb.length cbb) := (by simpa using blk_cell ob5 0)); have fb5 := blk_frozen ob5 0
      (have cn5 : World.cell? wr ⟨w.heap.size + 1, 0, none⟩ = some (.int .i64 k) := (by simpa using blk_cell on5 0)); have fn5 := blk_frozen on5 0
      (have ce5 : World.cell? wr ⟨w.heap.size + 1 + 1, 0, none⟩ = some (.int .i64 0) := (by simpa using blk_cell oe5 0)); have fe5 := blk_frozen oe5 0
      clear hkk ob on oe oa hbw
      go_wp2
      go_region
      go_wp2
      have HBB5 := HBB
      have HB5 := HBW
      refine leaves_cons (f := 36) (args := #[.pointer (some ⟨w.heap.size + 1 + 1, 0, none⟩), .pointer (some ⟨w.heap.size + 1 + 1 + 1, 0, none⟩)]) (by simp [settle]) (by simp [go_sem]) ?_
      refine (caught_idle _ _ _).mono ?_
      rintro e u' w'' ⟨rfl, rfl, rfl⟩
      refine leaves_cons (f := 40) (args := #[.pointer (some ⟨w.heap.size + 1 + 1, 0, none⟩), .pointer (some ⟨w.heap.size, 0, none⟩), .pointer (some ⟨w.heap.size + 1, 0, none⟩)]) (by simp [settle]) (by simp [go_sem]) ?_
      refine (fit_last_idle _ _ _ _ _ (BlkIs.one (by repeat (first | with_reducible assumption | ((with_reducible refine BlkIs.new ?hg ?hf); (case hg => (simp; done)); (case hf => first | rfl | (simp; done))) | with_reducible refine BlkIs.alloc ?_ | with_reducible refine BlkIs.drewN ?_ | with_reducible refine BlkIs.drew ?_ | with_reducible refine BlkIs.set ?_ | ((with_reducible refine BlkIs.far ?_ ?hne); (case hne => first | (simp; done) | omega | (simp; omega))) | with_reducible refine BlkIs.below ?_ (by assumption) | ((with_reducible refine BlkIs.chg ?_ (by assumption) ?hnn); (case hnn => first | (simp; done) | omega | (simp; omega) | (intro hs; have := hs.1; omega))) | ((with_reducible refine BlkIs.of (by assumption) ?hf); (case hf => first | rfl | (simp; done))))))).mono ?_
      rintro e u' w'' ⟨rfl, rfl, rfl⟩
      have he : fitC 1 l most = (bb, (k : Int), 0) := by
        rw [HF.out, HR.out, List.drop_eq_nil_of_le HKK.out]; rfl
      exact ⟨.tuple #[.slice Ab bb.length cbb, .int .i64 k, .int .i64 0], rresults (rs := [.cell 6 24, .cell 7 3, .cell 8 25]) rfl (by simp) (.cell w.heap.size rfl (load_one (t := 24) (by repeat (first | with_reducible assumption | ((with_reducible refine BlkIs.new ?hg ?hf); (case hg => (simp; done)); (case hf => first | rfl | (simp; done))) | with_reducible refine BlkIs.alloc ?_ | with_reducible refine BlkIs.drewN ?_ | with_reducible refine BlkIs.drew ?_ | with_reducible refine BlkIs.set ?_ | ((with_reducible refine BlkIs.far ?_ ?hne); (case hne => first | (simp; done) | omega | (simp; omega))) | with_reducible refine BlkIs.below ?_ (by assumption) | ((with_reducible refine BlkIs.chg ?_ (by assumption) ?hnn); (case hnn => first | (simp; done) | omega | (simp; omega) | (intro hs; have := hs.1; omega))) | ((with_reducible refine BlkIs.of (by assumption) ?hf); (case hf => first | rfl | (simp; done))))) (by kernel_rfl)) (.cell (w.heap.size + 1) rfl (load_one (t := 3) (by repeat (first | with_reducible assumption | ((with_reducible refine BlkIs.new ?hg ?hf); (case hg => (simp; done)); (case hf => first | rfl | (simp; done))) | with_reducible refine BlkIs.alloc ?_ | with_reducible refine BlkIs.drewN ?_ | with_reducible refine BlkIs.drew ?_ | with_reducible refine BlkIs.set ?_ | ((with_reducible refine BlkIs.far ?_ ?hne); (case hne => first | (simp; done) | omega | (simp; omega))) | with_reducible refine BlkIs.below ?_ (by assumption) | ((with_reducible refine BlkIs.chg ?_ (by assumption) ?hnn); (case hnn => first | (simp; done) | omega | (simp; omega) | (intro hs; have := hs.1; omega))) | ((with_reducible refine BlkIs.of (by assumption) ?hf); (case hf => first | rfl | (simp; done))))) (by kernel_rfl)) (.cell (w.heap.size + 1 + 1) rfl (load_one (t := 25) (by repeat (first | with_reducible assumption | ((with_reducible refine BlkIs.new ?hg ?hf); (case hg => (simp; done)); (case hf => first | rfl | (simp; done))) | with_reducible refine BlkIs.alloc ?_ | with_reducible refine BlkIs.drewN ?_ | with_reducible refine BlkIs.drew ?_ | with_reducible refine BlkIs.set ?_ | ((with_reducible refine BlkIs.far ?_ ?hne); (case hne => first | (simp; done) | omega | (simp; omega))) | with_reducible refine BlkIs.below ?_ (by assumption) | ((with_reducible refine BlkIs.chg ?_ (by assumption) ?hnn); (case hnn => first | (simp; done) | omega | (simp; omega) | (intro hs; have := hs.1; omega))) | ((with_reducible refine BlkIs.of (by assumption) ?hf); (case hf => first | rfl | (simp; done))))) (by kernel_rfl)) .nil))), _, by rw [he], by rw [he]; exact OwnI.lower (base := w.heap.size + 1 + 1 + 1 + 1) (by have := HBB5.out; exact (by repeat (first | with_reducible assumption | ((with_reducible refine OwnI.set ?_ ?hlt); (case hlt => first | (simp; done) | omega | (simp; omega))) | with_reducible refine OwnI.drewN ?_ | with_reducible refine OwnI.drew ?_ | with_reducible refine OwnI.alloc ?_ | with_reducible refine OwnI.below ?_ (by assumption)))) (by omega), by have := HB5.out; exact (by repeat (first | with_reducible assumption | with_reducible exact Below.refl _ _ | with_reducible refine below_alloc ?_ _ | with_reducible refine pw_below_drewN ?_ _ | with_reducible refine below_drew1 ?_ | ((with_reducible refine below_set ?_ ?hle); (case hle => first | (simp; done) | omega | (simp; omega))) | with_reducible refine below_step ?_ (by assumption)))⟩
end Go.Proofs.Ytcekghcejmhhaaa
