import Derived.Test.YtcekghcejmhhaaaCharsC
import Derived.Deep.RegionWith
import Derived.StillTailTactics
import Derived.Deep.RegionHeld3
import Derived.IntWalk
set_option linter.unusedSimpArgs false
set_option linter.unusedVariables false
set_option linter.unnecessarySimpa false
namespace Go.Proofs.Ytcekghcejmhhaaa
open Go.RowKit Go.Proofs.YtcekghcejmhhaaaW.PrintWords Go.Proofs.YtcekghcejmhhaaaW.PrintLast Go.Proofs.YtcekghcejmhhaaaW.PrintMore

theorem good_true {x : Int} (h1 : 33 ≤ x) (h2 : x < 127) : good x = true := by simp [good, h1, h2]
set_option maxHeartbeats 400000 in
theorem good_yes (x : Int) (w : World) (h : good x = true) : Calls Try.prog 85 #[.int .u8 x] w fun r w' => r = .returned (.bool true) ∧ w = w' := by
  obtain ⟨h1, h2⟩ : 33 ≤ x ∧ x < 127 := by simpa [good] using h
  clear h
  go_enter Try.func85, Try.ntmps85
  go_wp2
  go_ret
  exact ⟨rfl, rfl⟩
set_option maxHeartbeats 400000 in
theorem good_no (x : Int) (w : World) (h : good x = false) : Calls Try.prog 85 #[.int .u8 x] w fun r w' => r = .returned (.bool false) ∧ w = w' := by
  have h' : x < 33 ∨ 33 ≤ x ∧ 127 ≤ x := by simp [good] at h; omega
  clear h
  rcases h' with h1 | ⟨h1, h2⟩
  · go_enter Try.func85, Try.ntmps85
    go_wp2
    go_ret
    exact ⟨rfl, rfl⟩
  · go_enter Try.func85, Try.ntmps85
    go_wp2
    go_ret
    exact ⟨by simp; omega, rfl⟩

theorem nextS_other {x : Int} (h1 : ¬ x = 14) (h2 : ¬ x = 15) {n s : Int} {t : List Int} : nextS n s (x :: t) = (if s = 0 then (if 127 < x then Step.bad else ⟨1, x, n + 1, 0⟩) else if good x = false then .bad else match t with
    | [] => .part
    | y :: _ => if good y = false then .bad else ⟨1, 19968 + 94 * (x - 33) + (y - 33), n + 2, 1⟩) := by
  cases t <;> simp only [nextS, if_neg h1, if_neg h2]

theorem pair_wrap {x y : Int} (g1 : 33 ≤ x) (g2 : x < 127) (g3 : 33 ≤ y) (g4 : y < 127) :
    IntKind.u32.wrap (IntKind.u32.wrap (19968 + IntKind.u32.wrap (94 * IntKind.u32.wrap (x - 33))) + IntKind.u32.wrap (y - 33)) = 19968 + 94 * (x - 33) + (y - 33) := by
  simp only [IntKind.wrap_u32]; omega

def ShRel (xs : List Int) (S : Step) (vs vi : Value) : Prop :=
  ∃ (k : Nat) (s : Int), k ≤ xs.length ∧ vi = .int .i64 k ∧ vs = .int .i64 s ∧ (s = 0 ∨ s = 1) ∧ nextS k s (xs.drop k) = S

set_option maxRecDepth 100000 in
set_option maxHeartbeats 4000000 in
theorem shift_next (s : Int) (hs : s = 0 ∨ s = 1) (A : Option Addr) (n c : Nat) (xs : List Int) (w : World) (hC : Kd.C (Kd.int .u8) w A n xs)
    (hx : ∀ i, 0 ≤ xs.getD i 0 ∧ xs.getD i 0 ≤ 255) :
    Calls Try.prog 82 #[.agg #[], .int .i64 s, .slice A n c] w fun r w' => r = .returned (nextS 0 s xs).val ∧ Below w.heap.size w w' := by
  have hl : xs.length = n := hC.1
  have hm : n ≤ 9223372036854775807 := hC.2.1
  obtain ⟨S, hS⟩ : ∃ S, nextS 0 s xs = S := ⟨_, rfl⟩
  rw [hS]
  have HST : Hid (ShRel xs S (.int .i64 s) (.int .i64 0)) := Lib.hid ⟨0, s, Nat.zero_le _, rfl, rfl, hs, by simpa using hS⟩
  have HC := Lib.hid hC
  have HX := Lib.hid hx
  have HL := Lib.hid hl
  clear hC hx hS hl hs
  go_enter Try.func82, Try.ntmps82
  go_wp2
  go_loop [1, 7] (fun vs vi => ShRel xs S vs vi) (fun _ i => n - (intOf i).toNat)
  case atStart => exact HST.out
  case round =>
    obtain ⟨k, st, kl, rfl, rfl, hst, hR⟩ := hrel
    have HR := Lib.hid hR
    have HST2 := Lib.hid hst
    clear hR hst
    have hnl := HL.out
    by_cases hkn : k = n
    · have hS2 : Step.part = S := by
        have h := HR.out
        rw [List.drop_eq_nil_of_le (by omega)] at h
        simpa [nextS] using h
      clear hnl
      subst hkn
      subst hS2
      go_wp2_with (go_at_call 72; (with_reducible refine (not_any _ _).mono ?_); rintro e w1 ⟨rfl, hb⟩; obtain ⟨hc, hf⟩ := bcell hb)
      (have hz := below_size hb; simp at hz; exact bodyPost_ret (v := stepV 3 0 0 0) (by simp [results, Try.results82, go_sem, hc, hz]) rfl ⟨rfl, (by repeat (first | with_reducible assumption | with_reducible exact Below.refl _ _ | with_reducible refine below_alloc ?_ _ | with_reducible refine pw_below_drewN ?_ _ | with_reducible refine below_drew1 ?_ | ((with_reducible refine below_set ?_ ?hle); (case hle => first | (simp; done) | omega | (simp; omega))) | with_reducible refine below_step ?_ (by assumption)))⟩)
    · have hlt2 : k < n := by omega
      have t1 : ((k : Int) == (n : Int)) = false := by simp; omega
      obtain ⟨b, off, rfl, hlt, hcs⟩ := open_C HC.out (by omega)
      have hcell := hcs k hlt2
      have HCS := Lib.hid hcs
      clear hcs
      obtain ⟨xa, xb⟩ := HX.out k
      have hR2 : nextS k st (xs.getD k 0 :: xs.drop (k + 1)) = S := by
        have h := HR.out
        rw [List.drop_eq_getElem_cons (by omega)] at h
        rw [List.getD_eq_getElem?_getD, List.getElem?_eq_getElem (by omega)]
        exact h
      clear hnl
      generalize hxk : xs.getD k 0 = x at *
      clear hxk
      by_cases x14 : x = 14
      · subst x14
        have HR3 : Hid (nextS (k + 1) 1 (xs.drop (k + 1)) = S) := Lib.hid (by simpa [nextS] using hR2)
        clear hR2
        go_wp2
        exact ⟨⟨k + 1, 1, by have := HL.out; omega, rfl, rfl, .inr rfl, HR3.out⟩, by simp [intOf]; omega⟩
      · have t2 : (x == 14) = false := by simp [x14]
        by_cases x15 : x = 15
        · subst x15
          have HR3 : Hid (nextS (k + 1) 0 (xs.drop (k + 1)) = S) := Lib.hid (by simpa [nextS] using hR2)
          clear hR2 x14
          go_wp2
          exact ⟨⟨k + 1, 0, by have := HL.out; omega, rfl, rfl, .inl rfl, HR3.out⟩, by simp [intOf]; omega⟩
        · have t3 : (x == 15) = false := by simp [x15]
          have HR3 : Hid ((if st = 0 then (if 127 < x then Step.bad else ⟨1, x, k + 1, 0⟩) else if good x = false then .bad else match xs.drop (k + 1) with
            | [] => .part
            | y :: _ => if good y = false then .bad else ⟨1, 19968 + 94 * (x - 33) + (y - 33), k + 2, 1⟩) = S) := Lib.hid ((nextS_other x14 x15).symm.trans hR2)
          clear hR2 x14 x15
          rcases HST2.out with rfl | rfl
          · by_cases hx7 : 127 < x
            · have hS2 : Step.bad = S := by have h := HR3.out; rw [if_pos rfl, if_pos hx7] at h; exact h
              subst hS2
              go_wp2_with (go_at_call 72; (with_reducible refine (not_any _ _).mono ?_); rintro e w1 ⟨rfl, hb⟩; obtain ⟨hc, hf⟩ := bcell hb)
              (have hz := below_size hb; simp at hz; exact bodyPost_ret (v := stepV 2 0 0 0) (by simp [results, Try.results82, go_sem, hc, hz]) rfl ⟨rfl, (by repeat (first | with_reducible assumption | with_reducible exact Below.refl _ _ | with_reducible refine below_alloc ?_ _ | with_reducible refine pw_below_drewN ?_ _ | with_reducible refine below_drew1 ?_ | ((with_reducible refine below_set ?_ ?hle); (case hle => first | (simp; done) | omega | (simp; omega))) | with_reducible refine below_step ?_ (by assumption)))⟩)
            · have hS2 : Step.mk 1 x (k + 1) 0 = S := by have h := HR3.out; rw [if_pos rfl, if_neg hx7] at h; exact h
              subst hS2
              go_wp2_with (go_at_call 73; (with_reducible refine (whole_any _ _ _ _).mono ?_); rintro e w1 ⟨rfl, hb⟩; obtain ⟨hc, hf⟩ := bcell hb)
              (have hz := below_size hb; simp at hz; exact bodyPost_ret (v := stepV 1 x (k + 1) 0) (by simp [results, Try.results82, go_sem, hc, hz]) rfl ⟨rfl, (by repeat (first | with_reducible assumption | with_reducible exact Below.refl _ _ | with_reducible refine below_alloc ?_ _ | with_reducible refine pw_below_drewN ?_ _ | with_reducible refine below_drew1 ?_ | ((with_reducible refine below_set ?_ ?hle); (case hle => first | (simp; done) | omega | (simp; omega))) | with_reducible refine below_step ?_ (by assumption)))⟩)
          · by_cases hg : good x = false
            · have hS2 : Step.bad = S := by have h := HR3.out; rw [if_neg (by omega), if_pos hg] at h; exact h
              subst hS2
              have HG := Lib.hid hg
              clear hg
              go_wp2_with (first | (go_at_call 85; (with_reducible refine (good_no _ _ HG.out).mono ?_); rintro e w1 ⟨rfl, rfl⟩) | (go_at_call 72; (with_reducible refine (not_any _ _).mono ?_); rintro e w1 ⟨rfl, hb⟩; obtain ⟨hc, hf⟩ := bcell hb))
              (have hz := below_size hb; simp at hz; exact bodyPost_ret (v := stepV 2 0 0 0) (by simp [results, Try.results82, go_sem, hc, hz]) rfl ⟨rfl, (by repeat (first | with_reducible assumption | with_reducible exact Below.refl _ _ | with_reducible refine below_alloc ?_ _ | with_reducible refine pw_below_drewN ?_ _ | with_reducible refine below_drew1 ?_ | ((with_reducible refine below_set ?_ ?hle); (case hle => first | (simp; done) | omega | (simp; omega))) | with_reducible refine below_step ?_ (by assumption)))⟩)
            · have hg1 : good x = true := by simpa using hg
              have HG := Lib.hid hg1
              clear hg hg1
              by_cases hk1 : k + 1 = n
              · have hS2 : Step.part = S := by
                  have h := HR3.out
                  rw [if_neg (by omega), if_neg (by rw [HG.out]; simp), List.drop_eq_nil_of_le (by have := HL.out; omega)] at h
                  exact h
                subst hS2
                have t4 : ((k : Int) + 1 == (n : Int)) = true := by simp; omega
                clear hk1
                go_wp2_with (first | (go_at_call 85; (with_reducible refine (good_yes _ _ HG.out).mono ?_); rintro e w1 ⟨rfl, rfl⟩) | (go_at_call 72; (with_reducible refine (not_any _ _).mono ?_); rintro e w1 ⟨rfl, hb⟩; obtain ⟨hc, hf⟩ := bcell hb))
                (have hz := below_size hb; simp at hz; exact bodyPost_ret (v := stepV 3 0 0 0) (by simp [results, Try.results82, go_sem, hc, hz]) rfl ⟨rfl, (by repeat (first | with_reducible assumption | with_reducible exact Below.refl _ _ | with_reducible refine below_alloc ?_ _ | with_reducible refine pw_below_drewN ?_ _ | with_reducible refine below_drew1 ?_ | ((with_reducible refine below_set ?_ ?hle); (case hle => first | (simp; done) | omega | (simp; omega))) | with_reducible refine below_step ?_ (by assumption)))⟩)
              · have hlt3 : k + 1 < n := by omega
                have t4 : ((k : Int) + 1 == (n : Int)) = false := by simp; omega
                have hcell2 := HCS.out (k + 1) hlt3
                obtain ⟨ya, yb⟩ := HX.out (k + 1)
                have hR4 : (if good (xs.getD (k + 1) 0) = false then Step.bad else ⟨1, 19968 + 94 * (x - 33) + (xs.getD (k + 1) 0 - 33), k + 2, 1⟩) = S := by
                  have h := HR3.out
                  rw [if_neg (by omega), if_neg (by rw [HG.out]; simp), List.drop_eq_getElem_cons (by have := HL.out; omega)] at h
                  rw [List.getD_eq_getElem?_getD, List.getElem?_eq_getElem (by have := HL.out; omega)]
                  exact h
                generalize hyk : xs.getD (k + 1) 0 = y at *
                clear hyk
                obtain ⟨g1, g2⟩ : 33 ≤ x ∧ x < 127 := by simpa [good] using HG.out
                by_cases hgy : good y = false
                · have hS2 : Step.bad = S := by rw [if_pos hgy] at hR4; exact hR4
                  subst hS2
                  have HGY := Lib.hid hgy
                  clear hgy hR4
                  go_wp2_with (first | (go_at_call_of 85 x; (with_reducible refine (good_yes _ _ HG.out).mono ?_); rintro e w1 ⟨rfl, rfl⟩) | (go_at_call_of 85 y; (with_reducible refine (good_no _ _ HGY.out).mono ?_); rintro e w1 ⟨rfl, rfl⟩) | (go_at_call 72; (with_reducible refine (not_any _ _).mono ?_); rintro e w1 ⟨rfl, hb⟩; obtain ⟨hc, hf⟩ := bcell hb))
                  (have hz := below_size hb; simp at hz; exact bodyPost_ret (v := stepV 2 0 0 0) (by simp [results, Try.results82, go_sem, hc, hz]) rfl ⟨rfl, (by repeat (first | with_reducible assumption | with_reducible exact Below.refl _ _ | with_reducible refine below_alloc ?_ _ | with_reducible refine pw_below_drewN ?_ _ | with_reducible refine below_drew1 ?_ | ((with_reducible refine below_set ?_ ?hle); (case hle => first | (simp; done) | omega | (simp; omega))) | with_reducible refine below_step ?_ (by assumption)))⟩)
                · have hgy1 : good y = true := by simpa using hgy
                  have hS2 : Step.mk 1 (19968 + 94 * (x - 33) + (y - 33)) (k + 2) 1 = S := by rw [if_neg hgy] at hR4; exact hR4
                  subst hS2
                  obtain ⟨g3, g4⟩ : 33 ≤ y ∧ y < 127 := by simpa [good] using hgy1
                  have HGY := Lib.hid hgy1
                  clear hgy hR4 hgy1
                  go_wp2_with (first | (go_at_call_of 85 x; (with_reducible refine (good_yes _ _ HG.out).mono ?_); rintro e w1 ⟨rfl, rfl⟩) | (go_at_call_of 85 y; (with_reducible refine (good_yes _ _ HGY.out).mono ?_); rintro e w1 ⟨rfl, rfl⟩) | (go_at_call 72; (with_reducible refine (not_any _ _).mono ?_); rintro e w1 ⟨rfl, hb⟩; obtain ⟨hc, hf⟩ := bcell hb))
                  have s1 : IntKind.i64.wrap ((k : Int) + 1) = (k : Int) + 1 := IntWalk.i64_in _ (by omega)
                  have s2 : IntKind.i64.wrap ((k : Int) + 2) = (k : Int) + 2 := IntWalk.i64_in _ (by omega)
                  have s5 : (0 : Int) ≤ (k : Int) + 1 := by omega
                  have s6 : (k : Int) + 1 < (n : Int) := by omega
                  have s7 : ((k : Int) + 1).toNat = k + 1 := by omega
                  have s3 : IntKind.u8.wrap (x - 33) = x - 33 := by rw [IntKind.wrap_u8]; omega
                  have s4 : IntKind.u8.wrap (y - 33) = y - 33 := by rw [IntKind.wrap_u8]; omega
                  go_region_held3 (fun w' => w'.cell? ⟨b, off + k, none⟩ = some (.int .u8 x) ∧ w'.cell? ⟨b, off + (k + 1), none⟩ = some (.int .u8 y)) (first | (go_keep; done) | (go_split_ands; refine ⟨?_, ?_⟩ <;> (rw [hc _ _ (by simp; omega)]; assumption)) | (go_split_ands; refine ⟨?_, ?_⟩ <;> ((repeat rw [World.cell?_setCell_far _ _ _ _ (by simp; omega)]); assumption))) ((go_at_call 73; (with_reducible refine (whole_any _ _ _ _).mono ?_); rintro e w1 ⟨rfl, hb⟩; obtain ⟨hc, hf⟩ := bcell hb))
                  rename_i hHeld
                  clear hHeld
                  rw [pair_wrap g1 g2 g3 g4]
                  go_wp2
                  (have hz := below_size hb; simp at hz; exact bodyPost_ret (v := stepV 1 (19968 + 94 * (x - 33) + (y - 33)) (k + 2) 1) (by simp [results, Try.results82, go_sem, hc, hz]) rfl ⟨rfl, (by repeat (first | with_reducible assumption | with_reducible exact Below.refl _ _ | with_reducible refine below_alloc ?_ _ | with_reducible refine pw_below_drewN ?_ _ | with_reducible refine below_drew1 ?_ | ((with_reducible refine below_set ?_ ?hle); (case hle => first | (simp; done) | omega | (simp; omega))) | with_reducible refine below_step ?_ (by assumption)))⟩)
end Go.Proofs.Ytcekghcejmhhaaa
