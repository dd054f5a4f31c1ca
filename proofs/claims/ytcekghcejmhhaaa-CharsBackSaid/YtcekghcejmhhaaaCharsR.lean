import Derived.Test.YtcekghcejmhhaaaCharsM
import Derived.Test.YtcekghcejmhhaaaCharsK
set_option linter.unusedSimpArgs false
set_option linter.unusedVariables false
set_option linter.unnecessarySimpa false
namespace Go.Proofs.Ytcekghcejmhhaaa
open Go.RowKit Go.Proofs.YtcekghcejmhhaaaW.PrintWords Go.Proofs.YtcekghcejmhhaaaW.PrintLast Go.Proofs.YtcekghcejmhhaaaW.PrintMore
set_option maxRecDepth 100000

section
variable {k : IntKind} {e : TypeId} {base : Nat} {w w1 : World} {v : Value} {xs : List Int}
theorem OwnI.set {p : Addr} {u : Value} (h : OwnI k e base w v xs) (hp : p.block < base) : OwnI k e base (w.setCell p u) v xs :=
  Kd.R_mono (Kd.R_far (Kd.R_bound h) (fun j hj => by have := hj.2.1; omega) u) (fun _ _ => trivial)
theorem OwnI.drewN {n : Nat} (h : OwnI k e base w v xs) : OwnI k e base (w.drewN n) v xs := Kd.R_drewN h n
theorem OwnI.drew (h : OwnI k e base w v xs) : OwnI k e base w.drew v xs := Kd.R_drewN h 1
theorem OwnI.below (h : OwnI k e base w v xs) (hb : Below w.heap.size w w1) : OwnI k e base w1 v xs := Kd.R_below h hb
theorem OwnI.alloc {o : Obj} (h : OwnI k e base w v xs) : OwnI k e base (w.alloc o) v xs := Kd.R_below h (below_alloc (Below.refl _ _) _)
theorem OwnI.chg {S : Nat → Prop} (h : OwnI k e base w v xs) (hc : Chg w w1 S) (hS : ∀ j, S j → j < base) : OwnI k e base w1 v xs :=
  Kd.R_mono (Kd.R_step (Kd.R_bound h) (fun j hj hlt => hc.block j hlt (fun hs => by have := hS j hs; have := hj.2.1; omega))) (fun _ _ => trivial)
theorem OwnI.lower {base' : Nat} (h : OwnI k e base w v xs) (hb : base' ≤ base) : OwnI k e base' w v xs := Kd.R_lower h hb
end

theorem encoded_any (enc : Int) (h : encOk enc) (A : Option Addr) (n c : Nat) (l : List Int) (w : World) (hn : n ≤ 20000) (hC : Kd.C (Kd.int .u32) w A n l) (hx : U32s l) :
    Calls Try.prog 39 #[encV enc, .slice A n c] w (EncPost enc l w) := by
  rcases enc_cases h with rfl | rfl | rfl
  · exact encoded_1 1 rfl A n c l w hn hC hx
  · exact encoded_2 2 rfl A n c l w hn hC hx
  · exact encoded_3 3 rfl A n c l w hn hC hx
theorem encoded_ok (enc : Int) (h : encOk enc) (A : Option Addr) (n c : Nat) (l : List Int) (w : World) (hn : n ≤ 20000) (hC : Kd.C (Kd.int .u32) w A n l) (hx : U32s l) (h0 : (encodedC enc l).2.1 = 0) :
    Calls Try.prog 39 #[encV enc, .slice A n c] w fun r w' => ∃ v, r = .returned v ∧ OwnI .u8 5 w.heap.size w' v (encodedC enc l).1 ∧ Below w.heap.size w w' :=
  (encoded_any enc h A n c l w hn hC hx).mono fun r w' ⟨hb, hh⟩ => by
    rcases hh with ⟨_, v, rfl, hv⟩ | ⟨h1, _⟩
    · exact ⟨v, rfl, hv, hb⟩
    · exact absurd h0 h1
theorem encoded_bad (enc : Int) (h : encOk enc) (A : Option Addr) (n c : Nat) (l : List Int) (w : World) (hn : n ≤ 20000) (hC : Kd.C (Kd.int .u32) w A n l) (hx : U32s l) (h0 : ¬ (encodedC enc l).2.1 = 0) :
    Calls Try.prog 39 #[encV enc, .slice A n c] w fun r w' => r = .panicked (failed (encodedC enc l).2.1 (encodedC enc l).2.2) ∧ Below w.heap.size w w' :=
  (encoded_any enc h A n c l w hn hC hx).mono fun r w' ⟨hb, hh⟩ => by
    rcases hh with ⟨h1, _⟩ | ⟨_, h1⟩
    · exact absurd h1 h0
    · exact ⟨h1, hb⟩

theorem encodedC_ok_at {enc : Int} {l : List Int} (h : (encodedC enc l).2.1 = 0) : (encodedC enc l).2.2 = 0 := by
  unfold encodedC at h ⊢
  dsimp only at h ⊢
  split at h
  · simp at h
  · split <;> rfl
theorem encodedC_bad_nil {enc : Int} {l : List Int} (h : ¬ (encodedC enc l).2.1 = 0) : (encodedC enc l).1 = [] := by
  unfold encodedC at h ⊢
  dsimp only at h ⊢
  split
  · rfl
  · rename_i h1
    split
    · rfl
    · rename_i h2; exfalso; apply h; simp only [h1, if_neg h2]

def EncodePost (enc : Int) (l : List Int) (w : World) (r : Ending) (w' : World) : Prop :=
  ∃ v, r = .returned (.tuple #[v, .int .i64 (encodeC enc l).2.1, .int .i64 (encodeC enc l).2.2]) ∧ OwnI .u8 5 w.heap.size w' v (encodeC enc l).1 ∧ Below w.heap.size w w'

set_option maxHeartbeats 4000000 in
theorem Encode_any (enc : Int) (A : Option Addr) (n c : Nat) (l : List Int) (w : World) (hC : Kd.C (Kd.int .u32) w A n l) (hx : U32s l) :
    Calls Try.prog 14 #[.int .i64 enc, .slice A n c] w (EncodePost enc l w) := by
  have hl : l.length = n := hC.1
  have HL := Lib.hid hl
  have HC := Lib.hid hC
  clear hl hC
  by_cases h : encOk enc
  · have H := Lib.hid h
    clear h
    by_cases hn : n ≤ 20000
    · have HN := Lib.hid hn
      have hn2 : (n : Int) ≤ 20000 := by omega
      have hE : encodeC enc l = encodedC enc l := by
        unfold encodeC
        rw [if_neg (by simpa using H.out), if_neg (by have := HL.out; omega)]
      have HE := Lib.hid hE
      clear hn hE
      by_cases h0 : (encodedC enc l).2.1 = 0
      · have H0 := Lib.hid h0
        clear h0
        go_enter_defers Try.func14, Try.ntmps14
        go_wp2_with (first | (go_at_call 37; (with_reducible refine (of_ok _ H.out _).mono ?_); rintro e w1 ⟨rfl, rfl⟩) | (go_at_call 38; (with_reducible refine (few_ok _ hn2 _).mono ?_); rintro e w1 ⟨rfl, rfl⟩) | (go_at_call 39; (with_reducible refine (encoded_ok _ H.out _ _ _ l _ HN.out (C_of_below HC.out (by repeat (first | with_reducible assumption | with_reducible exact Below.refl _ _ | with_reducible refine below_alloc ?_ _ | with_reducible refine pw_below_drewN ?_ _ | with_reducible refine below_drew1 ?_ | ((with_reducible refine below_set ?_ ?hle); (case hle => first | (simp; done) | omega | (simp; omega))) | with_reducible refine below_step ?_ (by assumption)))) hx H0.out).mono ?_); rintro e w2 ⟨v2, rfl, hv2, hb2⟩; have hz2 := below_size hb2; simp at hz2; have HV2 := Lib.hid hv2; clear hv2; have y0 : w.heap.size < w2.heap.size := (by omega); have y1 : w.heap.size + 1 < w2.heap.size := (by omega); obtain ⟨hc2, hf2⟩ := bcell hb2))
        refine leaves_cons (f := 36) (args := #[.pointer (some ⟨w.heap.size, 0, none⟩), .pointer (some ⟨w.heap.size + 1, 0, none⟩)]) (by simp) (by simp [go_sem]) ?_
        refine (caught_idle _ _ _).mono ?_
        rintro e u' w'' ⟨rfl, rfl, rfl⟩
        exact ⟨.tuple #[v2, .int .i64 0, .int .i64 0], rresults (rs := [.tmp 4, .cell 5 25, .cell 6 3]) rfl (by simp) (.tmp (by rfl) (.cell w.heap.size rfl (load_one (t := 25) (by repeat (first | with_reducible assumption | ((with_reducible refine BlkIs.new ?hg ?hf); (case hg => (simp; done)); (case hf => first | rfl | (simp; done))) | with_reducible refine BlkIs.alloc ?_ | with_reducible refine BlkIs.drewN ?_ | with_reducible refine BlkIs.drew ?_ | with_reducible refine BlkIs.set ?_ | ((with_reducible refine BlkIs.far ?_ ?hne); (case hne => first | (simp; done) | omega | (simp; omega))) | with_reducible refine BlkIs.below ?_ (by assumption) | ((with_reducible refine BlkIs.chg ?_ (by assumption) ?hnn); (case hnn => first | (simp; done) | omega | (simp; omega) | (intro hs; have := hs.1; omega))) | ((with_reducible refine BlkIs.of (by assumption) ?hf); (case hf => first | rfl | (simp; done))))) (by kernel_rfl)) (.cell (w.heap.size + 1) rfl (load_one (t := 3) (by repeat (first | with_reducible assumption | ((with_reducible refine BlkIs.new ?hg ?hf); (case hg => (simp; done)); (case hf => first | rfl | (simp; done))) | with_reducible refine BlkIs.alloc ?_ | with_reducible refine BlkIs.drewN ?_ | with_reducible refine BlkIs.drew ?_ | with_reducible refine BlkIs.set ?_ | ((with_reducible refine BlkIs.far ?_ ?hne); (case hne => first | (simp; done) | omega | (simp; omega))) | with_reducible refine BlkIs.below ?_ (by assumption) | ((with_reducible refine BlkIs.chg ?_ (by assumption) ?hnn); (case hnn => first | (simp; done) | omega | (simp; omega) | (intro hs; have := hs.1; omega))) | ((with_reducible refine BlkIs.of (by assumption) ?hf); (case hf => first | rfl | (simp; done))))) (by kernel_rfl)) .nil))), v2, by rw [HE.out, H0.out, encodedC_ok_at H0.out], by rw [HE.out]; exact OwnI.lower (OwnI.set (OwnI.set HV2.out (by first | (simp; done) | (simp; omega))) (by first | (simp; done) | (simp; omega))) (by simp; omega), (by repeat (first | with_reducible assumption | with_reducible exact Below.refl _ _ | with_reducible refine below_alloc ?_ _ | with_reducible refine pw_below_drewN ?_ _ | with_reducible refine below_drew1 ?_ | ((with_reducible refine below_set ?_ ?hle); (case hle => first | (simp; done) | omega | (simp; omega))) | with_reducible refine below_step ?_ (by assumption)))⟩
      · have H0 := Lib.hid h0
        clear h0
        go_enter_defers Try.func14, Try.ntmps14
        go_wp2_with (first | (go_at_call 37; (with_reducible refine (of_ok _ H.out _).mono ?_); rintro e w1 ⟨rfl, rfl⟩) | (go_at_call 38; (with_reducible refine (few_ok _ hn2 _).mono ?_); rintro e w1 ⟨rfl, rfl⟩) | (go_at_call 39; (with_reducible refine (encoded_bad _ H.out _ _ _ l _ HN.out (C_of_below HC.out (by repeat (first | with_reducible assumption | with_reducible exact Below.refl _ _ | with_reducible refine below_alloc ?_ _ | with_reducible refine pw_below_drewN ?_ _ | with_reducible refine below_drew1 ?_ | ((with_reducible refine below_set ?_ ?hle); (case hle => first | (simp; done) | omega | (simp; omega))) | with_reducible refine below_step ?_ (by assumption)))) hx H0.out).mono ?_); rintro e w2 ⟨rfl, hb2⟩; have hz2 := below_size hb2; simp at hz2))
        refine leaves_cons (f := 36) (args := #[.pointer (some ⟨w.heap.size, 0, none⟩), .pointer (some ⟨w.heap.size + 1, 0, none⟩)]) (by simp) (by simp [go_sem]) ?_
        refine (caught_panic (w.heap.size) (w.heap.size + 1) (encodedC enc l).2.1 (encodedC enc l).2.2 0 0 [] _ (BlkIs.one (by repeat (first | with_reducible assumption | ((with_reducible refine BlkIs.new ?hg ?hf); (case hg => (simp; done)); (case hf => first | rfl | (simp; done))) | with_reducible refine BlkIs.alloc ?_ | with_reducible refine BlkIs.drewN ?_ | with_reducible refine BlkIs.drew ?_ | with_reducible refine BlkIs.set ?_ | ((with_reducible refine BlkIs.far ?_ ?hne); (case hne => first | (simp; done) | omega | (simp; omega))) | with_reducible refine BlkIs.below ?_ (by assumption) | ((with_reducible refine BlkIs.chg ?_ (by assumption) ?hnn); (case hnn => first | (simp; done) | omega | (simp; omega) | (intro hs; have := hs.1; omega))) | ((with_reducible refine BlkIs.of (by assumption) ?hf); (case hf => first | rfl | (simp; done)))))) (BlkIs.one (by repeat (first | with_reducible assumption | ((with_reducible refine BlkIs.new ?hg ?hf); (case hg => (simp; done)); (case hf => first | rfl | (simp; done))) | with_reducible refine BlkIs.alloc ?_ | with_reducible refine BlkIs.drewN ?_ | with_reducible refine BlkIs.drew ?_ | with_reducible refine BlkIs.set ?_ | ((with_reducible refine BlkIs.far ?_ ?hne); (case hne => first | (simp; done) | omega | (simp; omega))) | with_reducible refine BlkIs.below ?_ (by assumption) | ((with_reducible refine BlkIs.chg ?_ (by assumption) ?hnn); (case hnn => first | (simp; done) | omega | (simp; omega) | (intro hs; have := hs.1; omega))) | ((with_reducible refine BlkIs.of (by assumption) ?hf); (case hf => first | rfl | (simp; done)))))) (by omega)).mono ?_
        rintro e u' w'' ⟨rfl, rfl, hch, hp, hq⟩
        have hp' : BlkIs w'' w.heap.size 25 (· = #[.int .i64 (encodedC enc l).2.1]) := ⟨_, hp, rfl⟩
        have hq' : BlkIs w'' (w.heap.size + 1) 3 (· = #[.int .i64 (encodedC enc l).2.2]) := ⟨_, hq, rfl⟩
        refine ⟨.tuple #[.slice none 0 0, .int .i64 (encodedC enc l).2.1, .int .i64 (encodedC enc l).2.2], rresults (rs := [.tmp 4, .cell 5 25, .cell 6 3]) rfl (by simp) (.tmp (by rfl) (.cell w.heap.size rfl (load_one (t := 25) hp' (by kernel_rfl)) (.cell (w.heap.size + 1) rfl (load_one (t := 3) hq' (by kernel_rfl)) .nil))), _, by rw [HE.out], by rw [HE.out, encodedC_bad_nil H0.out]; exact Kd.R_nil _ _ _ _ _, below_chg (by repeat (first | with_reducible assumption | with_reducible exact Below.refl _ _ | with_reducible refine below_alloc ?_ _ | with_reducible refine pw_below_drewN ?_ _ | with_reducible refine below_drew1 ?_ | ((with_reducible refine below_set ?_ ?hle); (case hle => first | (simp; done) | omega | (simp; omega))) | with_reducible refine below_step ?_ (by assumption))) hch (by omega)⟩
    · have hn2 : 20000 < (n : Int) := by omega
      have hE : encodeC enc l = ([], 2, 0) := by
        unfold encodeC
        rw [if_neg (by simpa using H.out), if_pos (by have := HL.out; omega)]
      have HE := Lib.hid hE
      clear hn hE
      go_enter_defers Try.func14, Try.ntmps14
      go_wp2_with (first | (go_at_call 37; (with_reducible refine (of_ok _ H.out _).mono ?_); rintro e w1 ⟨rfl, rfl⟩) | (go_at_call 38; (with_reducible refine (few_no _ hn2 _).mono ?_); rintro e w1 ⟨rfl, rfl⟩))
      refine leaves_cons (f := 36) (args := #[.pointer (some ⟨w.heap.size, 0, none⟩), .pointer (some ⟨w.heap.size + 1, 0, none⟩)]) (by simp) (by simp [go_sem]) ?_
      refine (caught_panic (w.heap.size) (w.heap.size + 1) 2 0 0 0 [] _ (BlkIs.one (by repeat (first | with_reducible assumption | ((with_reducible refine BlkIs.new ?hg ?hf); (case hg => (simp; done)); (case hf => first | rfl | (simp; done))) | with_reducible refine BlkIs.alloc ?_ | with_reducible refine BlkIs.drewN ?_ | with_reducible refine BlkIs.drew ?_ | with_reducible refine BlkIs.set ?_ | ((with_reducible refine BlkIs.far ?_ ?hne); (case hne => first | (simp; done) | omega | (simp; omega))) | with_reducible refine BlkIs.below ?_ (by assumption) | ((with_reducible refine BlkIs.chg ?_ (by assumption) ?hnn); (case hnn => first | (simp; done) | omega | (simp; omega) | (intro hs; have := hs.1; omega))) | ((with_reducible refine BlkIs.of (by assumption) ?hf); (case hf => first | rfl | (simp; done)))))) (BlkIs.one (by repeat (first | with_reducible assumption | ((with_reducible refine BlkIs.new ?hg ?hf); (case hg => (simp; done)); (case hf => first | rfl | (simp; done))) | with_reducible refine BlkIs.alloc ?_ | with_reducible refine BlkIs.drewN ?_ | with_reducible refine BlkIs.drew ?_ | with_reducible refine BlkIs.set ?_ | ((with_reducible refine BlkIs.far ?_ ?hne); (case hne => first | (simp; done) | omega | (simp; omega))) | with_reducible refine BlkIs.below ?_ (by assumption) | ((with_reducible refine BlkIs.chg ?_ (by assumption) ?hnn); (case hnn => first | (simp; done) | omega | (simp; omega) | (intro hs; have := hs.1; omega))) | ((with_reducible refine BlkIs.of (by assumption) ?hf); (case hf => first | rfl | (simp; done)))))) (by omega)).mono ?_
      rintro e u' w'' ⟨rfl, rfl, hch, hp, hq⟩
      have hp' : BlkIs w'' w.heap.size 25 (· = #[.int .i64 2]) := ⟨_, hp, rfl⟩
      have hq' : BlkIs w'' (w.heap.size + 1) 3 (· = #[.int .i64 0]) := ⟨_, hq, rfl⟩
      refine ⟨.tuple #[.slice none 0 0, .int .i64 2, .int .i64 0], rresults (rs := [.tmp 4, .cell 5 25, .cell 6 3]) rfl (by simp) (.tmp (by rfl) (.cell w.heap.size rfl (load_one (t := 25) hp' (by kernel_rfl)) (.cell (w.heap.size + 1) rfl (load_one (t := 3) hq' (by kernel_rfl)) .nil))), _, by rw [HE.out], by rw [HE.out]; exact Kd.R_nil _ _ _ _ _, below_chg (by repeat (first | with_reducible assumption | with_reducible exact Below.refl _ _ | with_reducible refine below_alloc ?_ _ | with_reducible refine pw_below_drewN ?_ _ | with_reducible refine below_drew1 ?_ | ((with_reducible refine below_set ?_ ?hle); (case hle => first | (simp; done) | omega | (simp; omega))) | with_reducible refine below_step ?_ (by assumption))) hch (by omega)⟩
  · have hE : encodeC enc l = ([], 1, 0) := by
      unfold encodeC
      rw [if_pos h]
    have HE := Lib.hid hE
    have H := Lib.hid h
    clear h hE
    go_enter_defers Try.func14, Try.ntmps14
    go_wp2_with (go_at_call 37; (with_reducible refine (of_no _ H.out _).mono ?_); rintro e w1 ⟨rfl, rfl⟩)
    refine leaves_cons (f := 36) (args := #[.pointer (some ⟨w.heap.size, 0, none⟩), .pointer (some ⟨w.heap.size + 1, 0, none⟩)]) (by simp) (by simp [go_sem]) ?_
    refine (caught_panic (w.heap.size) (w.heap.size + 1) 1 0 0 0 [] _ (BlkIs.one (by repeat (first | with_reducible assumption | ((with_reducible refine BlkIs.new ?hg ?hf); (case hg => (simp; done)); (case hf => first | rfl | (simp; done))) | with_reducible refine BlkIs.alloc ?_ | with_reducible refine BlkIs.drewN ?_ | with_reducible refine BlkIs.drew ?_ | with_reducible refine BlkIs.set ?_ | ((with_reducible refine BlkIs.far ?_ ?hne); (case hne => first | (simp; done) | omega | (simp; omega))) | with_reducible refine BlkIs.below ?_ (by assumption) | ((with_reducible refine BlkIs.chg ?_ (by assumption) ?hnn); (case hnn => first | (simp; done) | omega | (simp; omega) | (intro hs; have := hs.1; omega))) | ((with_reducible refine BlkIs.of (by assumption) ?hf); (case hf => first | rfl | (simp; done)))))) (BlkIs.one (by repeat (first | with_reducible assumption | ((with_reducible refine BlkIs.new ?hg ?hf); (case hg => (simp; done)); (case hf => first | rfl | (simp; done))) | with_reducible refine BlkIs.alloc ?_ | with_reducible refine BlkIs.drewN ?_ | with_reducible refine BlkIs.drew ?_ | with_reducible refine BlkIs.set ?_ | ((with_reducible refine BlkIs.far ?_ ?hne); (case hne => first | (simp; done) | omega | (simp; omega))) | with_reducible refine BlkIs.below ?_ (by assumption) | ((with_reducible refine BlkIs.chg ?_ (by assumption) ?hnn); (case hnn => first | (simp; done) | omega | (simp; omega) | (intro hs; have := hs.1; omega))) | ((with_reducible refine BlkIs.of (by assumption) ?hf); (case hf => first | rfl | (simp; done)))))) (by omega)).mono ?_
    rintro e u' w'' ⟨rfl, rfl, hch, hp, hq⟩
    have hp' : BlkIs w'' w.heap.size 25 (· = #[.int .i64 1]) := ⟨_, hp, rfl⟩
    have hq' : BlkIs w'' (w.heap.size + 1) 3 (· = #[.int .i64 0]) := ⟨_, hq, rfl⟩
    refine ⟨.tuple #[.slice none 0 0, .int .i64 1, .int .i64 0], rresults (rs := [.tmp 4, .cell 5 25, .cell 6 3]) rfl (by simp) (.tmp (by rfl) (.cell w.heap.size rfl (load_one (t := 25) hp' (by kernel_rfl)) (.cell (w.heap.size + 1) rfl (load_one (t := 3) hq' (by kernel_rfl)) .nil))), _, by rw [HE.out], by rw [HE.out]; exact Kd.R_nil _ _ _ _ _, below_chg (by repeat (first | with_reducible assumption | with_reducible exact Below.refl _ _ | with_reducible refine below_alloc ?_ _ | with_reducible refine pw_below_drewN ?_ _ | with_reducible refine below_drew1 ?_ | ((with_reducible refine below_set ?_ ?hle); (case hle => first | (simp; done) | omega | (simp; omega))) | with_reducible refine below_step ?_ (by assumption))) hch (by omega)⟩
end Go.Proofs.Ytcekghcejmhhaaa
