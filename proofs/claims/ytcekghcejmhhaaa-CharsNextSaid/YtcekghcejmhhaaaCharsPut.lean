/- Valid, Put, Reset and Space of 'chars': what each returns. -/
import Derived.Test.YtcekghcejmhhaaaCharsExt
set_option linter.unusedSimpArgs false
set_option linter.unusedVariables false
set_option linter.unnecessarySimpa false
namespace Go.Proofs.Ytcekghcejmhhaaa
open Go.RowKit Go.Proofs.YtcekghcejmhhaaaW.PrintWords Go.Proofs.YtcekghcejmhhaaaW.PrintLast Go.Proofs.YtcekghcejmhhaaaW.PrintMore
set_option maxRecDepth 100000

def validE (enc c : Int) : Bool × Int := if encOk enc then (hasC enc c, 0) else (false, 1)
def putE (enc st c : Int) : List Int × Int × Int := if encOk enc ∧ stOk enc st then (if hasC enc c = true then ((putC enc st c).1, (putC enc st c).2, 0) else ([], 0, 15)) else ([], 0, 1)
def resetE (enc st : Int) : List Int × Int := if encOk enc ∧ stOk enc st then (turnC st 0, 0) else ([], 1)

theorem has_at_1 (c : Int) (b : Bool) (h : hasC 1 c = b) (w : World) : Calls Try.prog 68 #[.agg #[], .int .u32 c] w fun r w' => r = .returned (.bool b) ∧ Below w.heap.size w w' := by
  subst h
  exact octets_has c w

theorem has_at_2 (c : Int) (b : Bool) (h : hasC 2 c = b) (w : World) : Calls Try.prog 74 #[.agg #[], .int .u32 c] w fun r w' => r = .returned (.bool b) ∧ Below w.heap.size w w' := by
  subst h
  exact utf8_has c w

theorem has_at_3 (c : Int) (b : Bool) (h : hasC 3 c = b) (w : World) : Calls Try.prog 81 #[.agg #[], .int .u32 c] w fun r w' => r = .returned (.bool b) ∧ Below w.heap.size w w' := by
  subst h
  exact shift_has c w

set_option maxHeartbeats 4000000 in
theorem Valid_any (enc c : Int) (w : World) : Calls Try.prog 28 #[.int .i64 enc, .int .u32 c] w fun r w' => r = .returned (.tuple #[.bool (validE enc c).1, .int .i64 (validE enc c).2]) ∧ Below w.heap.size w w' := by
  by_cases h : encOk enc
  · have hE : validE enc c = (hasC enc c, 0) := by unfold validE; rw [if_pos h]
    obtain ⟨b, hb⟩ : ∃ b, hasC enc c = b := ⟨_, rfl⟩
    rw [hE, hb]
    have H := Lib.hid h
    have HB := Lib.hid hb
    clear hE hb
    rcases enc_cases h with rfl | rfl | rfl
    · clear h
      have m1 := meth_has_1
      go_enter_defers Try.func28, Try.ntmps28
      go_wp2_with (first | (go_at_call 37; (with_reducible refine (of_ok _ H.out _).mono ?_); rintro e w1 ⟨rfl, rfl⟩; simp only [encV_1, encV_2, encV_3]) | ((with_reducible show Calls Try.prog 68 #[_, _] _ _; refine (has_at_1 _ b HB.out _).mono ?_); rintro e w2 ⟨rfl, hb2⟩; obtain ⟨hc2, hf2⟩ := bcell hb2; have hz2 := below_size hb2; (try simp at hz2); have y0 : w.heap.size < w2.heap.size := (by omega); have y1 : w.heap.size + 1 < w2.heap.size := (by omega)))
      refine leaves_cons (f := 36) (args := #[.pointer (some ⟨w.heap.size, 0, none⟩), .pointer (some ⟨w.heap.size + 1, 0, none⟩)]) (by simp) (by simp [go_sem]) ?_
      refine (caught_idle _ _ _).mono ?_
      rintro e u' w'' ⟨rfl, rfl, rfl⟩
      exact ⟨.tuple #[.bool b, .int .i64 0], rresults (rs := [.tmp 4, .cell 5 25]) rfl (by simp) (.tmp (by rfl) (.cell w.heap.size rfl (load_one (t := 25) blk0 (by kernel_rfl)) .nil)), rfl, bel⟩
    · clear h
      have m1 := meth_has_2
      go_enter_defers Try.func28, Try.ntmps28
      go_wp2_with (first | (go_at_call 37; (with_reducible refine (of_ok _ H.out _).mono ?_); rintro e w1 ⟨rfl, rfl⟩; simp only [encV_1, encV_2, encV_3]) | ((with_reducible show Calls Try.prog 74 #[_, _] _ _; refine (has_at_2 _ b HB.out _).mono ?_); rintro e w2 ⟨rfl, hb2⟩; obtain ⟨hc2, hf2⟩ := bcell hb2; have hz2 := below_size hb2; (try simp at hz2); have y0 : w.heap.size < w2.heap.size := (by omega); have y1 : w.heap.size + 1 < w2.heap.size := (by omega)))
      refine leaves_cons (f := 36) (args := #[.pointer (some ⟨w.heap.size, 0, none⟩), .pointer (some ⟨w.heap.size + 1, 0, none⟩)]) (by simp) (by simp [go_sem]) ?_
      refine (caught_idle _ _ _).mono ?_
      rintro e u' w'' ⟨rfl, rfl, rfl⟩
      exact ⟨.tuple #[.bool b, .int .i64 0], rresults (rs := [.tmp 4, .cell 5 25]) rfl (by simp) (.tmp (by rfl) (.cell w.heap.size rfl (load_one (t := 25) blk0 (by kernel_rfl)) .nil)), rfl, bel⟩
    · clear h
      have m1 := meth_has_3
      go_enter_defers Try.func28, Try.ntmps28
      go_wp2_with (first | (go_at_call 37; (with_reducible refine (of_ok _ H.out _).mono ?_); rintro e w1 ⟨rfl, rfl⟩; simp only [encV_1, encV_2, encV_3]) | ((with_reducible show Calls Try.prog 81 #[_, _] _ _; refine (has_at_3 _ b HB.out _).mono ?_); rintro e w2 ⟨rfl, hb2⟩; obtain ⟨hc2, hf2⟩ := bcell hb2; have hz2 := below_size hb2; (try simp at hz2); have y0 : w.heap.size < w2.heap.size := (by omega); have y1 : w.heap.size + 1 < w2.heap.size := (by omega)))
      refine leaves_cons (f := 36) (args := #[.pointer (some ⟨w.heap.size, 0, none⟩), .pointer (some ⟨w.heap.size + 1, 0, none⟩)]) (by simp) (by simp [go_sem]) ?_
      refine (caught_idle _ _ _).mono ?_
      rintro e u' w'' ⟨rfl, rfl, rfl⟩
      exact ⟨.tuple #[.bool b, .int .i64 0], rresults (rs := [.tmp 4, .cell 5 25]) rfl (by simp) (.tmp (by rfl) (.cell w.heap.size rfl (load_one (t := 25) blk0 (by kernel_rfl)) .nil)), rfl, bel⟩
  · have hE : validE enc c = (false, 1) := by unfold validE; rw [if_neg h]
    rw [hE]
    have H := Lib.hid h
    clear h hE
    go_enter_defers Try.func28, Try.ntmps28
    go_wp2_with (go_at_call 37; (with_reducible refine (of_no _ H.out _).mono ?_); rintro e w1 ⟨rfl, rfl⟩)
    refine leaves_cons (f := 36) (args := #[.pointer (some ⟨w.heap.size, 0, none⟩), .pointer (some ⟨w.heap.size + 1, 0, none⟩)]) (by simp) (by simp [go_sem]) ?_
    refine (caught_panic (w.heap.size) (w.heap.size + 1) 1 0 0 0 [] _ (BlkIs.one blk0) (BlkIs.one blk0) (by omega)).mono ?_
    rintro e u' w'' ⟨rfl, rfl, hch, hp, hq⟩
    have hp' : BlkIs w'' w.heap.size 25 (· = #[.int .i64 1]) := ⟨_, hp, rfl⟩
    exact ⟨.tuple #[.bool false, .int .i64 1], rresults (rs := [.tmp 4, .cell 5 25]) rfl (by simp) (.tmp (by rfl) (.cell w.heap.size rfl (load_one (t := 25) hp' (by kernel_rfl)) .nil)), rfl, below_chg bel hch (by omega)⟩

set_option maxHeartbeats 4000000 in
theorem Reset_any (enc st : Int) (w : World) : Calls Try.prog 30 #[.int .i64 enc, .int .i64 st] w fun r w' => ∃ v, r = .returned (.tuple #[v, .int .i64 (resetE enc st).2]) ∧ OwnI .u8 5 w.heap.size w' v (resetE enc st).1 ∧ Below w.heap.size w w' := by
  by_cases h : encOk enc ∧ stOk enc st
  · have hE : resetE enc st = (turnC st 0, 0) := by unfold resetE; rw [if_pos h]
    rw [hE]
    obtain ⟨h1, h2⟩ := h
    have H := Lib.hid h1
    have HS := Lib.hid h2
    clear hE h1 h2
    go_enter_defers Try.func30, Try.ntmps30
    go_wp2_with (first | (go_at_call 46; (with_reducible refine (in_ok _ _ H.out HS.out _).mono ?_); rintro e w1 ⟨rfl, hb1⟩; obtain ⟨hc1, hf1⟩ := bcell hb1; have hz1 := below_size hb1; (try simp at hz1); have z0 : w.heap.size < w1.heap.size := (by omega); have z1 : w.heap.size + 1 < w1.heap.size := (by omega)) | (go_at_call 43; (with_reducible refine (turn_any _ _ _).mono ?_); rintro e w2 ⟨v2, rfl, hv2, hb2⟩; have hz2 := below_size hb2; (try simp at hz2); have HV2 := Lib.hid hv2; clear hv2; have y0 : w.heap.size < w2.heap.size := (by omega); have y1 : w.heap.size + 1 < w2.heap.size := (by omega); obtain ⟨hc2, hf2⟩ := bcell hb2))
    refine leaves_cons (f := 36) (args := #[.pointer (some ⟨w.heap.size, 0, none⟩), .pointer (some ⟨w.heap.size + 1, 0, none⟩)]) (by simp) (by simp [go_sem]) ?_
    refine (caught_idle _ _ _).mono ?_
    rintro e u' w'' ⟨rfl, rfl, rfl⟩
    exact ⟨.tuple #[v2, .int .i64 0], rresults (rs := [.tmp 4, .cell 5 25]) rfl (by simp) (.tmp (by rfl) (.cell w.heap.size rfl (load_one (t := 25) blk0 (by kernel_rfl)) .nil)), v2, rfl, OwnI.lower (OwnI.set HV2.out (by first | omega | (simp; done) | (simp; omega))) (by first | omega | (simp; done) | (simp; omega)), bel⟩
  · have hE : resetE enc st = ([], 1) := by unfold resetE; rw [if_neg h]
    rw [hE]
    have H : Hid (∀ w : World, Calls Try.prog 46 #[.int .i64 enc, .int .i64 st] w fun r w' => r = .panicked (failed 1 0) ∧ Below w.heap.size w w') := Lib.hid fun w => by
      by_cases h1 : encOk enc
      · exact in_no2 enc st h1 (fun h2 => h ⟨h1, h2⟩) w
      · exact in_no1 enc st h1 w
    clear h hE
    go_enter_defers Try.func30, Try.ntmps30
    go_wp2_with (go_at_call 46; (with_reducible refine (H.out _).mono ?_); rintro e w1 ⟨rfl, hb1⟩; obtain ⟨hc1, hf1⟩ := bcell hb1)
    have hz1 := below_size hb1
    simp at hz1
    refine leaves_cons (f := 36) (args := #[.pointer (some ⟨w.heap.size, 0, none⟩), .pointer (some ⟨w.heap.size + 1, 0, none⟩)]) (by simp) (by simp [go_sem]) ?_
    refine (caught_panic (w.heap.size) (w.heap.size + 1) 1 0 0 0 [] _ (BlkIs.one blk0) (BlkIs.one blk0) (by omega)).mono ?_
    rintro e u' w'' ⟨rfl, rfl, hch, hp, hq⟩
    have hp' : BlkIs w'' w.heap.size 25 (· = #[.int .i64 1]) := ⟨_, hp, rfl⟩
    exact ⟨.tuple #[.slice none 0 0, .int .i64 1], rresults (rs := [.tmp 4, .cell 5 25]) rfl (by simp) (.tmp (by rfl) (.cell w.heap.size rfl (load_one (t := 25) hp' (by kernel_rfl)) .nil)), _, rfl, Kd.R_nil _ _ _ _ _, below_chg bel hch (by omega)⟩

set_option maxHeartbeats 6000000 in
theorem Put_any (enc st c : Int) (h0 : 0 ≤ c) (w : World) : Calls Try.prog 29 #[.int .i64 enc, .int .i64 st, .int .u32 c] w fun r w' => ∃ v, r = .returned (.tuple #[v, .int .i64 (putE enc st c).2.1, .int .i64 (putE enc st c).2.2]) ∧ OwnI .u8 5 w.heap.size w' v (putE enc st c).1 ∧ Below w.heap.size w w' := by
  by_cases h : encOk enc ∧ stOk enc st
  · by_cases hc : hasC enc c = true
    · have hE : putE enc st c = ((putC enc st c).1, (putC enc st c).2, 0) := by unfold putE; rw [if_pos h, if_pos hc]
      rw [hE]
      obtain ⟨h1, h2⟩ := h
      have H := Lib.hid h1
      have HS := Lib.hid h2
      have HB := Lib.hid hc
      clear hE h2 hc
      rcases enc_cases h1 with rfl | rfl | rfl
      · clear h1
        have m1 := meth_has_1
        have m2 := meth_put_1
        go_enter_defers Try.func29, Try.ntmps29
        go_wp2_with (first | (go_at_call 46; (with_reducible refine (in_ok _ _ H.out HS.out _).mono ?_); rintro e w1 ⟨rfl, hb1⟩; obtain ⟨hc1, hf1⟩ := bcell hb1; simp only [encV_1, encV_2, encV_3]; have hz1 := below_size hb1; (try simp at hz1); have z0 : w.heap.size < w1.heap.size := (by omega); have z1 : w.heap.size + 1 < w1.heap.size := (by omega)) | ((with_reducible show Calls Try.prog 68 #[_, _] _ _; refine (has_at_1 _ true HB.out _).mono ?_); rintro e w2 ⟨rfl, hb2⟩; obtain ⟨hc2, hf2⟩ := bcell hb2; have hz2 := below_size hb2; (try simp at hz2); have y0 : w.heap.size < w2.heap.size := (by omega); have y1 : w.heap.size + 1 < w2.heap.size := (by omega)) | (go_at_call 41; (with_reducible refine (need_true _ _ _).mono ?_); rintro e w3 ⟨rfl, rfl⟩) | ((with_reducible show Calls Try.prog 70 #[_, _, _] _ _; refine (octets_put' _ _ _ h0 HB.out).mono ?_); rintro e w4 ⟨v4, rfl, hv4, hb4⟩; have hz4 := below_size hb4; (try simp at hz4); have HV4 := Lib.hid hv4; clear hv4; have x0 : w.heap.size < w4.heap.size := (by omega); have x1 : w.heap.size + 1 < w4.heap.size := (by omega); obtain ⟨hc4, hf4⟩ := bcell hb4))
        refine leaves_cons (f := 36) (args := #[.pointer (some ⟨w.heap.size, 0, none⟩), .pointer (some ⟨w.heap.size + 1, 0, none⟩)]) (by simp) (by simp [go_sem]) ?_
        refine (caught_idle _ _ _).mono ?_
        rintro e u' w'' ⟨rfl, rfl, rfl⟩
        exact ⟨.tuple #[v4, .int .i64 (putC 1 st c).2, .int .i64 0], rresults (rs := [.tmp 6, .tmp 7, .cell 8 25]) rfl (by simp) (.tmp (by rfl) (.tmp (by rfl) (.cell w.heap.size rfl (load_one (t := 25) blk0 (by kernel_rfl)) .nil))), v4, rfl, OwnI.lower (OwnI.set HV4.out (by first | omega | (simp; done) | (simp; omega))) (by first | omega | (simp; done) | (simp; omega)), bel⟩
      · clear h1
        have m1 := meth_has_2
        have m2 := meth_put_2
        go_enter_defers Try.func29, Try.ntmps29
        go_wp2_with (first | (go_at_call 46; (with_reducible refine (in_ok _ _ H.out HS.out _).mono ?_); rintro e w1 ⟨rfl, hb1⟩; obtain ⟨hc1, hf1⟩ := bcell hb1; simp only [encV_1, encV_2, encV_3]; have hz1 := below_size hb1; (try simp at hz1); have z0 : w.heap.size < w1.heap.size := (by omega); have z1 : w.heap.size + 1 < w1.heap.size := (by omega)) | ((with_reducible show Calls Try.prog 74 #[_, _] _ _; refine (has_at_2 _ true HB.out _).mono ?_); rintro e w2 ⟨rfl, hb2⟩; obtain ⟨hc2, hf2⟩ := bcell hb2; have hz2 := below_size hb2; (try simp at hz2); have y0 : w.heap.size < w2.heap.size := (by omega); have y1 : w.heap.size + 1 < w2.heap.size := (by omega)) | (go_at_call 41; (with_reducible refine (need_true _ _ _).mono ?_); rintro e w3 ⟨rfl, rfl⟩) | ((with_reducible show Calls Try.prog 76 #[_, _, _] _ _; refine (utf8_put' _ _ _ h0 HB.out).mono ?_); rintro e w4 ⟨v4, rfl, hv4, hb4⟩; have hz4 := below_size hb4; (try simp at hz4); have HV4 := Lib.hid hv4; clear hv4; have x0 : w.heap.size < w4.heap.size := (by omega); have x1 : w.heap.size + 1 < w4.heap.size := (by omega); obtain ⟨hc4, hf4⟩ := bcell hb4))
        refine leaves_cons (f := 36) (args := #[.pointer (some ⟨w.heap.size, 0, none⟩), .pointer (some ⟨w.heap.size + 1, 0, none⟩)]) (by simp) (by simp [go_sem]) ?_
        refine (caught_idle _ _ _).mono ?_
        rintro e u' w'' ⟨rfl, rfl, rfl⟩
        exact ⟨.tuple #[v4, .int .i64 (putC 2 st c).2, .int .i64 0], rresults (rs := [.tmp 6, .tmp 7, .cell 8 25]) rfl (by simp) (.tmp (by rfl) (.tmp (by rfl) (.cell w.heap.size rfl (load_one (t := 25) blk0 (by kernel_rfl)) .nil))), v4, rfl, OwnI.lower (OwnI.set HV4.out (by first | omega | (simp; done) | (simp; omega))) (by first | omega | (simp; done) | (simp; omega)), bel⟩
      · clear h1
        have m1 := meth_has_3
        have m2 := meth_put_3
        go_enter_defers Try.func29, Try.ntmps29
        go_wp2_with (first | (go_at_call 46; (with_reducible refine (in_ok _ _ H.out HS.out _).mono ?_); rintro e w1 ⟨rfl, hb1⟩; obtain ⟨hc1, hf1⟩ := bcell hb1; simp only [encV_1, encV_2, encV_3]; have hz1 := below_size hb1; (try simp at hz1); have z0 : w.heap.size < w1.heap.size := (by omega); have z1 : w.heap.size + 1 < w1.heap.size := (by omega)) | ((with_reducible show Calls Try.prog 81 #[_, _] _ _; refine (has_at_3 _ true HB.out _).mono ?_); rintro e w2 ⟨rfl, hb2⟩; obtain ⟨hc2, hf2⟩ := bcell hb2; have hz2 := below_size hb2; (try simp at hz2); have y0 : w.heap.size < w2.heap.size := (by omega); have y1 : w.heap.size + 1 < w2.heap.size := (by omega)) | (go_at_call 41; (with_reducible refine (need_true _ _ _).mono ?_); rintro e w3 ⟨rfl, rfl⟩) | ((with_reducible show Calls Try.prog 83 #[_, _, _] _ _; refine (shift_put _ _ _ h0 HB.out).mono ?_); rintro e w4 ⟨v4, rfl, hv4, hb4⟩; have hz4 := below_size hb4; (try simp at hz4); have HV4 := Lib.hid hv4; clear hv4; have x0 : w.heap.size < w4.heap.size := (by omega); have x1 : w.heap.size + 1 < w4.heap.size := (by omega); obtain ⟨hc4, hf4⟩ := bcell hb4))
        refine leaves_cons (f := 36) (args := #[.pointer (some ⟨w.heap.size, 0, none⟩), .pointer (some ⟨w.heap.size + 1, 0, none⟩)]) (by simp) (by simp [go_sem]) ?_
        refine (caught_idle _ _ _).mono ?_
        rintro e u' w'' ⟨rfl, rfl, rfl⟩
        exact ⟨.tuple #[v4, .int .i64 (putC 3 st c).2, .int .i64 0], rresults (rs := [.tmp 6, .tmp 7, .cell 8 25]) rfl (by simp) (.tmp (by rfl) (.tmp (by rfl) (.cell w.heap.size rfl (load_one (t := 25) blk0 (by kernel_rfl)) .nil))), v4, rfl, OwnI.lower (OwnI.set HV4.out (by first | omega | (simp; done) | (simp; omega))) (by first | omega | (simp; done) | (simp; omega)), bel⟩
    · have hc2 : hasC enc c = false := by simpa using hc
      have hE : putE enc st c = ([], 0, 15) := by unfold putE; rw [if_pos h, if_neg hc]
      rw [hE]
      obtain ⟨h1, h2⟩ := h
      have H := Lib.hid h1
      have HS := Lib.hid h2
      have HB := Lib.hid hc2
      clear hE h2 hc hc2
      rcases enc_cases h1 with rfl | rfl | rfl
      · clear h1
        have m1 := meth_has_1
        go_enter_defers Try.func29, Try.ntmps29
        go_wp2_with (first | (go_at_call 46; (with_reducible refine (in_ok _ _ H.out HS.out _).mono ?_); rintro e w1 ⟨rfl, hb1⟩; obtain ⟨hc1, hf1⟩ := bcell hb1; simp only [encV_1, encV_2, encV_3]; have hz1 := below_size hb1; (try simp at hz1); have z0 : w.heap.size < w1.heap.size := (by omega); have z1 : w.heap.size + 1 < w1.heap.size := (by omega)) | ((with_reducible show Calls Try.prog 68 #[_, _] _ _; refine (has_at_1 _ false HB.out _).mono ?_); rintro e w2 ⟨rfl, hb2⟩; obtain ⟨hc2, hf2⟩ := bcell hb2; have hz2 := below_size hb2; (try simp at hz2); have y0 : w.heap.size < w2.heap.size := (by omega); have y1 : w.heap.size + 1 < w2.heap.size := (by omega)) | (go_at_call 41; (with_reducible refine (need_false _ _ _).mono ?_); rintro e w3 ⟨rfl, rfl⟩))
        refine leaves_cons (f := 36) (args := #[.pointer (some ⟨w.heap.size, 0, none⟩), .pointer (some ⟨w.heap.size + 1, 0, none⟩)]) (by simp) (by simp [go_sem]) ?_
        refine (caught_panic (w.heap.size) (w.heap.size + 1) 15 0 0 0 [] _ (BlkIs.one blk0) (BlkIs.one blk0) (by omega)).mono ?_
        rintro e u' w'' ⟨rfl, rfl, hch, hp, hq⟩
        have hp' : BlkIs w'' w.heap.size 25 (· = #[.int .i64 15]) := ⟨_, hp, rfl⟩
        exact ⟨.tuple #[.slice none 0 0, .int .i64 0, .int .i64 15], rresults (rs := [.tmp 6, .tmp 7, .cell 8 25]) rfl (by simp) (.tmp (by rfl) (.tmp (by rfl) (.cell w.heap.size rfl (load_one (t := 25) hp' (by kernel_rfl)) .nil))), _, rfl, Kd.R_nil _ _ _ _ _, below_chg bel hch (by omega)⟩
      · clear h1
        have m1 := meth_has_2
        go_enter_defers Try.func29, Try.ntmps29
        go_wp2_with (first | (go_at_call 46; (with_reducible refine (in_ok _ _ H.out HS.out _).mono ?_); rintro e w1 ⟨rfl, hb1⟩; obtain ⟨hc1, hf1⟩ := bcell hb1; simp only [encV_1, encV_2, encV_3]; have hz1 := below_size hb1; (try simp at hz1); have z0 : w.heap.size < w1.heap.size := (by omega); have z1 : w.heap.size + 1 < w1.heap.size := (by omega)) | ((with_reducible show Calls Try.prog 74 #[_, _] _ _; refine (has_at_2 _ false HB.out _).mono ?_); rintro e w2 ⟨rfl, hb2⟩; obtain ⟨hc2, hf2⟩ := bcell hb2; have hz2 := below_size hb2; (try simp at hz2); have y0 : w.heap.size < w2.heap.size := (by omega); have y1 : w.heap.size + 1 < w2.heap.size := (by omega)) | (go_at_call 41; (with_reducible refine (need_false _ _ _).mono ?_); rintro e w3 ⟨rfl, rfl⟩))
        refine leaves_cons (f := 36) (args := #[.pointer (some ⟨w.heap.size, 0, none⟩), .pointer (some ⟨w.heap.size + 1, 0, none⟩)]) (by simp) (by simp [go_sem]) ?_
        refine (caught_panic (w.heap.size) (w.heap.size + 1) 15 0 0 0 [] _ (BlkIs.one blk0) (BlkIs.one blk0) (by omega)).mono ?_
        rintro e u' w'' ⟨rfl, rfl, hch, hp, hq⟩
        have hp' : BlkIs w'' w.heap.size 25 (· = #[.int .i64 15]) := ⟨_, hp, rfl⟩
        exact ⟨.tuple #[.slice none 0 0, .int .i64 0, .int .i64 15], rresults (rs := [.tmp 6, .tmp 7, .cell 8 25]) rfl (by simp) (.tmp (by rfl) (.tmp (by rfl) (.cell w.heap.size rfl (load_one (t := 25) hp' (by kernel_rfl)) .nil))), _, rfl, Kd.R_nil _ _ _ _ _, below_chg bel hch (by omega)⟩
      · clear h1
        have m1 := meth_has_3
        go_enter_defers Try.func29, Try.ntmps29
        go_wp2_with (first | (go_at_call 46; (with_reducible refine (in_ok _ _ H.out HS.out _).mono ?_); rintro e w1 ⟨rfl, hb1⟩; obtain ⟨hc1, hf1⟩ := bcell hb1; simp only [encV_1, encV_2, encV_3]; have hz1 := below_size hb1; (try simp at hz1); have z0 : w.heap.size < w1.heap.size := (by omega); have z1 : w.heap.size + 1 < w1.heap.size := (by omega)) | ((with_reducible show Calls Try.prog 81 #[_, _] _ _; refine (has_at_3 _ false HB.out _).mono ?_); rintro e w2 ⟨rfl, hb2⟩; obtain ⟨hc2, hf2⟩ := bcell hb2; have hz2 := below_size hb2; (try simp at hz2); have y0 : w.heap.size < w2.heap.size := (by omega); have y1 : w.heap.size + 1 < w2.heap.size := (by omega)) | (go_at_call 41; (with_reducible refine (need_false _ _ _).mono ?_); rintro e w3 ⟨rfl, rfl⟩))
        refine leaves_cons (f := 36) (args := #[.pointer (some ⟨w.heap.size, 0, none⟩), .pointer (some ⟨w.heap.size + 1, 0, none⟩)]) (by simp) (by simp [go_sem]) ?_
        refine (caught_panic (w.heap.size) (w.heap.size + 1) 15 0 0 0 [] _ (BlkIs.one blk0) (BlkIs.one blk0) (by omega)).mono ?_
        rintro e u' w'' ⟨rfl, rfl, hch, hp, hq⟩
        have hp' : BlkIs w'' w.heap.size 25 (· = #[.int .i64 15]) := ⟨_, hp, rfl⟩
        exact ⟨.tuple #[.slice none 0 0, .int .i64 0, .int .i64 15], rresults (rs := [.tmp 6, .tmp 7, .cell 8 25]) rfl (by simp) (.tmp (by rfl) (.tmp (by rfl) (.cell w.heap.size rfl (load_one (t := 25) hp' (by kernel_rfl)) .nil))), _, rfl, Kd.R_nil _ _ _ _ _, below_chg bel hch (by omega)⟩
  · have hE : putE enc st c = ([], 0, 1) := by unfold putE; rw [if_neg h]
    rw [hE]
    have H : Hid (∀ w : World, Calls Try.prog 46 #[.int .i64 enc, .int .i64 st] w fun r w' => r = .panicked (failed 1 0) ∧ Below w.heap.size w w') := Lib.hid fun w => by
      by_cases h1 : encOk enc
      · exact in_no2 enc st h1 (fun h2 => h ⟨h1, h2⟩) w
      · exact in_no1 enc st h1 w
    clear h hE
    go_enter_defers Try.func29, Try.ntmps29
    go_wp2_with (go_at_call 46; (with_reducible refine (H.out _).mono ?_); rintro e w1 ⟨rfl, hb1⟩; obtain ⟨hc1, hf1⟩ := bcell hb1)
    have hz1 := below_size hb1
    simp at hz1
    refine leaves_cons (f := 36) (args := #[.pointer (some ⟨w.heap.size, 0, none⟩), .pointer (some ⟨w.heap.size + 1, 0, none⟩)]) (by simp) (by simp [go_sem]) ?_
    refine (caught_panic (w.heap.size) (w.heap.size + 1) 1 0 0 0 [] _ (BlkIs.one blk0) (BlkIs.one blk0) (by omega)).mono ?_
    rintro e u' w'' ⟨rfl, rfl, hch, hp, hq⟩
    have hp' : BlkIs w'' w.heap.size 25 (· = #[.int .i64 1]) := ⟨_, hp, rfl⟩
    exact ⟨.tuple #[.slice none 0 0, .int .i64 0, .int .i64 1], rresults (rs := [.tmp 6, .tmp 7, .cell 8 25]) rfl (by simp) (.tmp (by rfl) (.tmp (by rfl) (.cell w.heap.size rfl (load_one (t := 25) hp' (by kernel_rfl)) .nil))), _, rfl, Kd.R_nil _ _ _ _ _, below_chg bel hch (by omega)⟩
end Go.Proofs.Ytcekghcejmhhaaa
