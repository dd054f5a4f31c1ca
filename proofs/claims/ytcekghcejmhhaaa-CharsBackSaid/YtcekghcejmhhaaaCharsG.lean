import Derived.Test.YtcekghcejmhhaaaCharsF
import Derived.BigGuardPart
set_option linter.unusedSimpArgs false
set_option linter.unusedVariables false
set_option linter.unnecessarySimpa false
namespace Go.Proofs.Ytcekghcejmhhaaa
open Go.RowKit Go.Proofs.YtcekghcejmhhaaaW.PrintWords Go.Proofs.YtcekghcejmhhaaaW.PrintLast Go.Proofs.YtcekghcejmhhaaaW.PrintMore

def tail8 (_x : Int) (_t : List Int) : Step := .bad
def tail7 (x : Int) (t : List Int) : Step := if 244 ≤ x ∧ x ≤ 244 then restS 4 3 (x % 8) 128 143 t else tail8 x t
def tail6 (x : Int) (t : List Int) : Step := if 241 ≤ x ∧ x ≤ 243 then restS 4 3 (x % 8) 128 191 t else tail7 x t
def tail5 (x : Int) (t : List Int) : Step := if 240 ≤ x ∧ x ≤ 240 then restS 4 3 (x % 8) 144 191 t else tail6 x t
def tail4 (x : Int) (t : List Int) : Step := if 238 ≤ x ∧ x ≤ 239 then restS 3 2 (x % 16) 128 191 t else tail5 x t
def tail3 (x : Int) (t : List Int) : Step := if 237 ≤ x ∧ x ≤ 237 then restS 3 2 (x % 16) 128 159 t else tail4 x t
def tail2 (x : Int) (t : List Int) : Step := if 225 ≤ x ∧ x ≤ 236 then restS 3 2 (x % 16) 128 191 t else tail3 x t
def tail1 (x : Int) (t : List Int) : Step := if 224 ≤ x ∧ x ≤ 224 then restS 3 2 (x % 16) 160 191 t else tail2 x t
def tail0 (x : Int) (t : List Int) : Step := if 194 ≤ x ∧ x ≤ 223 then restS 2 1 (x % 32) 128 191 t else tail1 x t
theorem nextU_cons (x : Int) (t : List Int) : nextU (x :: t) = if x < 128 then ⟨1, x, 1, 0⟩ else tail0 x t := rfl
/-- From row k on. -/
def FindRel (x : Int) (t : List Int) (S : Step) (vi : Value) : Prop :=
  ∃ k : Int, vi = .int .i64 k ∧ (k = 0 ∧ tail0 x t = S ∨ k = 1 ∧ tail1 x t = S ∨ k = 2 ∧ tail2 x t = S ∨ k = 3 ∧ tail3 x t = S ∨ k = 4 ∧ tail4 x t = S ∨ k = 5 ∧ tail5 x t = S ∨ k = 6 ∧ tail6 x t = S ∨ k = 7 ∧ tail7 x t = S ∨ k = 8 ∧ tail8 x t = S)

theorem lead_at0 (w : World) : (Instr.index 126 (.agg leadsA) (.int .i64 0)).run Try.prog w = .ok (leadV 194 223 2 128 191) w := by kernel_rfl
theorem lead_at1 (w : World) : (Instr.index 126 (.agg leadsA) (.int .i64 1)).run Try.prog w = .ok (leadV 224 224 3 160 191) w := by kernel_rfl
theorem lead_at2 (w : World) : (Instr.index 126 (.agg leadsA) (.int .i64 2)).run Try.prog w = .ok (leadV 225 236 3 128 191) w := by kernel_rfl
theorem lead_at3 (w : World) : (Instr.index 126 (.agg leadsA) (.int .i64 3)).run Try.prog w = .ok (leadV 237 237 3 128 159) w := by kernel_rfl
theorem lead_at4 (w : World) : (Instr.index 126 (.agg leadsA) (.int .i64 4)).run Try.prog w = .ok (leadV 238 239 3 128 191) w := by kernel_rfl
theorem lead_at5 (w : World) : (Instr.index 126 (.agg leadsA) (.int .i64 5)).run Try.prog w = .ok (leadV 240 240 4 144 191) w := by kernel_rfl
theorem lead_at6 (w : World) : (Instr.index 126 (.agg leadsA) (.int .i64 6)).run Try.prog w = .ok (leadV 241 243 4 128 191) w := by kernel_rfl
theorem lead_at7 (w : World) : (Instr.index 126 (.agg leadsA) (.int .i64 7)).run Try.prog w = .ok (leadV 244 244 4 128 143) w := by kernel_rfl

set_option maxRecDepth 100000 in
set_option maxHeartbeats 8000000 in
theorem utf8_next (s : Int) (A : Option Addr) (n c : Nat) (xs : List Int) (w : World) (hC : Kd.C (Kd.int .u8) w A n xs)
    (hx : ∀ i, 0 ≤ xs.getD i 0 ∧ xs.getD i 0 ≤ 255) :
    Calls Try.prog 75 #[.agg #[], .int .i64 s, .slice A n c] w fun r w' => r = .returned (nextU xs).val ∧ Below w.heap.size w w' := by
  have hl : xs.length = n := hC.1
  have hm : n ≤ 9223372036854775807 := hC.2.1
  cases xs with
  | nil =>
    obtain rfl : n = 0 := by simpa using hl.symm
    clear hC hx hl
    go_enter Try.func75, Try.ntmps75
    go_wp2_with (go_at_call 72; (with_reducible refine (not_any _ _).mono ?_); rintro e w1 ⟨rfl, hb⟩; obtain ⟨hc, hf⟩ := bcell hb)
    (have hz := below_size hb; simp at hz; exact bodyPost_ret (v := stepV 3 0 0 0) (by simp [results, Try.results75, go_sem, hc, hz]) rfl ⟨rfl, (by repeat (first | with_reducible assumption | with_reducible exact Below.refl _ _ | with_reducible refine below_alloc ?_ _ | with_reducible refine pw_below_drewN ?_ _ | with_reducible refine below_drew1 ?_ | ((with_reducible refine below_set ?_ ?hle); (case hle => first | (simp; done) | omega | (simp; omega))) | with_reducible refine below_step ?_ (by assumption)))⟩)
  | cons x t =>
    have hn : 0 < n := by simp at hl; omega
    obtain ⟨b, off, rfl, hlt, hcs⟩ := open_C hC hn
    have h0 : w.cell? ⟨b, off, none⟩ = some (.int .u8 x) := by simpa using hcs 0 hn
    obtain ⟨xa, xb⟩ := hx 0
    simp only [List.getD_cons_zero] at xa xb
    have HCS := Lib.hid hcs
    have HX := Lib.hid hx
    have HL := Lib.hid hl
    clear hC hx hl hcs
    have t0 : ((n : Int) == 0) = false := by simp; omega
    by_cases h128 : x < 128
    · have hS : Step.mk 1 x 1 0 = nextU (x :: t) := by rw [nextU_cons, if_pos h128]
      rw [← hS]
      clear hS
      go_enter Try.func75, Try.ntmps75
      go_wp2_with (go_at_call 73; (with_reducible refine (whole_any _ _ _ _).mono ?_); rintro e w1 ⟨rfl, hb⟩; obtain ⟨hc, hf⟩ := bcell hb)
      (have hz := below_size hb; simp at hz; exact bodyPost_ret (v := stepV 1 x 1 0) (by simp [results, Try.results75, go_sem, hc, hz]) rfl ⟨rfl, (by repeat (first | with_reducible assumption | with_reducible exact Below.refl _ _ | with_reducible refine below_alloc ?_ _ | with_reducible refine pw_below_drewN ?_ _ | with_reducible refine below_drew1 ?_ | ((with_reducible refine below_set ?_ ?hle); (case hle => first | (simp; done) | omega | (simp; omega))) | with_reducible refine below_step ?_ (by assumption)))⟩)
    · obtain ⟨S, hS⟩ : ∃ S, nextU (x :: t) = S := ⟨_, rfl⟩
      rw [hS]
      have hS2 : tail0 x t = S := by rw [← hS, nextU_cons, if_neg h128]
      have HST : Hid (FindRel x t S (.int .i64 0)) := Lib.hid ⟨0, rfl, .inl ⟨rfl, hS2⟩⟩
      clear hS hS2
      have q0 := lead_at0
      have q1 := lead_at1
      have q2 := lead_at2
      have q3 := lead_at3
      have q4 := lead_at4
      have q5 := lead_at5
      have q6 := lead_at6
      have q7 := lead_at7
      go_enter Try.func75, Try.ntmps75
      go_wp2_with (go_at_call 78; (with_reducible refine (leads_any _).mono ?_); rintro e w1 ⟨rfl, hb1⟩; obtain ⟨hc1, hf1⟩ := bcell hb1)
      have hz1 := below_size hb1
      simp at hz1
      go_loopw [23] (fun vi wr => FindRel x t S vi ∧ Below w1.heap.size w1 wr) (fun vi _ => 8 - (intOf vi).toNat)
      case atStart => exact ⟨HST.out, Below.refl _ _⟩
      case round =>
        obtain ⟨⟨k, rfl, hk⟩, hbr⟩ := hrel
        obtain ⟨hcr, hfr⟩ := bcell hbr
        have hzr := below_size hbr
        have hq0 : w.heap.size < wr.heap.size := by omega
        have hq1 : w.heap.size + 1 < wr.heap.size := by omega
        have hq2 : w.heap.size + 1 < w1.heap.size := by omega
        have h0r : wr.cell? ⟨b, off, none⟩ = some (.int .u8 x) := by
          exact ((bcell (W := w) (by repeat (first | with_reducible assumption | with_reducible exact Below.refl _ _ | with_reducible refine below_alloc ?_ _ | with_reducible refine pw_below_drewN ?_ _ | with_reducible refine below_drew1 ?_ | ((with_reducible refine below_set ?_ ?hle); (case hle => first | (simp; done) | omega | (simp; omega))) | with_reducible refine below_step ?_ (by assumption)))).1 b _ hlt).trans h0
        have hltr : b < wr.heap.size := by omega
        have HKR := Lib.hid (And.intro hzr hltr)
        rcases hk with ⟨rfl, hk⟩ | ⟨rfl, hk⟩ | ⟨rfl, hk⟩ | ⟨rfl, hk⟩ | ⟨rfl, hk⟩ | ⟨rfl, hk⟩ | ⟨rfl, hk⟩ | ⟨rfl, hk⟩ | ⟨rfl, hk⟩
        · by_cases h1 : 194 ≤ x
          · by_cases h2 : x ≤ 223
            · have HS : Hid (restS 2 1 ((x :: t).getD 0 0 % 32) 128 191 ((x :: t).drop 1) = S) := Lib.hid (by show restS 2 1 (x % 32) 128 191 t = S; rw [← hk, tail0, if_pos ⟨h1, h2⟩])
              clear hk
              go_wp2
              go_quiet (fail)
              go_wp2_with (go_at_call 79; (with_reducible refine (rest_2 _ _ _ _ b off n c (x :: t) _ ?hA ?hB hn HL.out HX.out hm S HS.out).mono ?_); (case hB => (simp; omega)); (case hA => exact fun i hi => ((bcell (W := w) (by repeat (first | with_reducible assumption | with_reducible exact Below.refl _ _ | with_reducible refine below_alloc ?_ _ | with_reducible refine pw_below_drewN ?_ _ | with_reducible refine below_drew1 ?_ | ((with_reducible refine below_set ?_ ?hle); (case hle => first | (simp; done) | omega | (simp; omega))) | with_reducible refine below_step ?_ (by assumption)))).1 b _ hlt).trans (HCS.out i hi)); rintro e w2 ⟨rfl, hb2⟩; obtain ⟨hc2, hf2⟩ := bcell hb2)
              exact bodyPost_ret (v := S.val) (by simp [results, Try.results75, go_sem, hc2, hcr, hc1, hq0, hq1, hq2]) rfl ⟨rfl, (by repeat (first | with_reducible assumption | with_reducible exact Below.refl _ _ | with_reducible refine below_alloc ?_ _ | with_reducible refine pw_below_drewN ?_ _ | with_reducible refine below_drew1 ?_ | ((with_reducible refine below_set ?_ ?hle); (case hle => first | (simp; done) | omega | (simp; omega))) | with_reducible refine below_step ?_ (by assumption)))⟩
            · have hS : tail1 x t = S := by rw [← hk, tail0, if_neg (by omega)]
              have HS := Lib.hid hS
              clear hk hS
              go_wp2
              go_quiet (fail)
              go_wp2
              exact ⟨⟨⟨1, rfl, .inr (.inl ⟨rfl, HS.out⟩)⟩, (by repeat (first | with_reducible assumption | with_reducible exact Below.refl _ _ | with_reducible refine below_alloc ?_ _ | with_reducible refine pw_below_drewN ?_ _ | with_reducible refine below_drew1 ?_ | ((with_reducible refine below_set ?_ ?hle); (case hle => first | (simp; done) | omega | (simp; omega))) | with_reducible refine below_step ?_ (by assumption)))⟩, by simp [intOf]⟩
          · have hd1 : decide ((194 : Int) ≤ x) = false := by simpa using h1
            have hS : tail1 x t = S := by rw [← hk, tail0, if_neg (by omega)]
            have HS := Lib.hid hS
            clear hk hS
            go_wp2
            go_quiet (fail)
            go_wp2
            exact ⟨⟨⟨1, rfl, .inr (.inl ⟨rfl, HS.out⟩)⟩, (by repeat (first | with_reducible assumption | with_reducible exact Below.refl _ _ | with_reducible refine below_alloc ?_ _ | with_reducible refine pw_below_drewN ?_ _ | with_reducible refine below_drew1 ?_ | ((with_reducible refine below_set ?_ ?hle); (case hle => first | (simp; done) | omega | (simp; omega))) | with_reducible refine below_step ?_ (by assumption)))⟩, by simp [intOf]⟩
        · by_cases h1 : 224 ≤ x
          · by_cases h2 : x ≤ 224
            · have HS : Hid (restS 3 2 ((x :: t).getD 0 0 % 16) 160 191 ((x :: t).drop 1) = S) := Lib.hid (by show restS 3 2 (x % 16) 160 191 t = S; rw [← hk, tail1, if_pos ⟨h1, h2⟩])
              clear hk
              go_wp2
              go_quiet (fail)
              go_wp2_with (go_at_call 79; (with_reducible refine (rest_3 _ _ _ _ b off n c (x :: t) _ ?hA ?hB hn HL.out HX.out hm S HS.out).mono ?_); (case hB => (simp; omega)); (case hA => exact fun i hi => ((bcell (W := w) (by repeat (first | with_reducible assumption | with_reducible exact Below.refl _ _ | with_reducible refine below_alloc ?_ _ | with_reducible refine pw_below_drewN ?_ _ | with_reducible refine below_drew1 ?_ | ((with_reducible refine below_set ?_ ?hle); (case hle => first | (simp; done) | omega | (simp; omega))) | with_reducible refine below_step ?_ (by assumption)))).1 b _ hlt).trans (HCS.out i hi)); rintro e w2 ⟨rfl, hb2⟩; obtain ⟨hc2, hf2⟩ := bcell hb2)
              exact bodyPost_ret (v := S.val) (by simp [results, Try.results75, go_sem, hc2, hcr, hc1, hq0, hq1, hq2]) rfl ⟨rfl, (by repeat (first | with_reducible assumption | with_reducible exact Below.refl _ _ | with_reducible refine below_alloc ?_ _ | with_reducible refine pw_below_drewN ?_ _ | with_reducible refine below_drew1 ?_ | ((with_reducible refine below_set ?_ ?hle); (case hle => first | (simp; done) | omega | (simp; omega))) | with_reducible refine below_step ?_ (by assumption)))⟩
            · have hS : tail2 x t = S := by rw [← hk, tail1, if_neg (by omega)]
              have HS := Lib.hid hS
              clear hk hS
              go_wp2
              go_quiet (fail)
              go_wp2
              exact ⟨⟨⟨2, rfl, .inr (.inr (.inl ⟨rfl, HS.out⟩))⟩, (by repeat (first | with_reducible assumption | with_reducible exact Below.refl _ _ | with_reducible refine below_alloc ?_ _ | with_reducible refine pw_below_drewN ?_ _ | with_reducible refine below_drew1 ?_ | ((with_reducible refine below_set ?_ ?hle); (case hle => first | (simp; done) | omega | (simp; omega))) | with_reducible refine below_step ?_ (by assumption)))⟩, by simp [intOf]⟩
          · have hd1 : decide ((224 : Int) ≤ x) = false := by simpa using h1
            have hS : tail2 x t = S := by rw [← hk, tail1, if_neg (by omega)]
            have HS := Lib.hid hS
            clear hk hS
            go_wp2
            go_quiet (fail)
            go_wp2
            exact ⟨⟨⟨2, rfl, .inr (.inr (.inl ⟨rfl, HS.out⟩))⟩, (by repeat (first | with_reducible assumption | with_reducible exact Below.refl _ _ | with_reducible refine below_alloc ?_ _ | with_reducible refine pw_below_drewN ?_ _ | with_reducible refine below_drew1 ?_ | ((with_reducible refine below_set ?_ ?hle); (case hle => first | (simp; done) | omega | (simp; omega))) | with_reducible refine below_step ?_ (by assumption)))⟩, by simp [intOf]⟩
        · by_cases h1 : 225 ≤ x
          · by_cases h2 : x ≤ 236
            · have HS : Hid (restS 3 2 ((x :: t).getD 0 0 % 16) 128 191 ((x :: t).drop 1) = S) := Lib.hid (by show restS 3 2 (x % 16) 128 191 t = S; rw [← hk, tail2, if_pos ⟨h1, h2⟩])
              clear hk
              go_wp2
              go_quiet (fail)
              go_wp2_with (go_at_call 79; (with_reducible refine (rest_3 _ _ _ _ b off n c (x :: t) _ ?hA ?hB hn HL.out HX.out hm S HS.out).mono ?_); (case hB => (simp; omega)); (case hA => exact fun i hi => ((bcell (W := w) (by repeat (first | with_reducible assumption | with_reducible exact Below.refl _ _ | with_reducible refine below_alloc ?_ _ | with_reducible refine pw_below_drewN ?_ _ | with_reducible refine below_drew1 ?_ | ((with_reducible refine below_set ?_ ?hle); (case hle => first | (simp; done) | omega | (simp; omega))) | with_reducible refine below_step ?_ (by assumption)))).1 b _ hlt).trans (HCS.out i hi)); rintro e w2 ⟨rfl, hb2⟩; obtain ⟨hc2, hf2⟩ := bcell hb2)
              exact bodyPost_ret (v := S.val) (by simp [results, Try.results75, go_sem, hc2, hcr, hc1, hq0, hq1, hq2]) rfl ⟨rfl, (by repeat (first | with_reducible assumption | with_reducible exact Below.refl _ _ | with_reducible refine below_alloc ?_ _ | with_reducible refine pw_below_drewN ?_ _ | with_reducible refine below_drew1 ?_ | ((with_reducible refine below_set ?_ ?hle); (case hle => first | (simp; done) | omega | (simp; omega))) | with_reducible refine below_step ?_ (by assumption)))⟩
            · have hS : tail3 x t = S := by rw [← hk, tail2, if_neg (by omega)]
              have HS := Lib.hid hS
              clear hk hS
              go_wp2
              go_quiet (fail)
              go_wp2
              exact ⟨⟨⟨3, rfl, .inr (.inr (.inr (.inl ⟨rfl, HS.out⟩)))⟩, (by repeat (first | with_reducible assumption | with_reducible exact Below.refl _ _ | with_reducible refine below_alloc ?_ _ | with_reducible refine pw_below_drewN ?_ _ | with_reducible refine below_drew1 ?_ | ((with_reducible refine below_set ?_ ?hle); (case hle => first | (simp; done) | omega | (simp; omega))) | with_reducible refine below_step ?_ (by assumption)))⟩, by simp [intOf]⟩
          · have hd1 : decide ((225 : Int) ≤ x) = false := by simpa using h1
            have hS : tail3 x t = S := by rw [← hk, tail2, if_neg (by omega)]
            have HS := Lib.hid hS
            clear hk hS
            go_wp2
            go_quiet (fail)
            go_wp2
            exact ⟨⟨⟨3, rfl, .inr (.inr (.inr (.inl ⟨rfl, HS.out⟩)))⟩, (by repeat (first | with_reducible assumption | with_reducible exact Below.refl _ _ | with_reducible refine below_alloc ?_ _ | with_reducible refine pw_below_drewN ?_ _ | with_reducible refine below_drew1 ?_ | ((with_reducible refine below_set ?_ ?hle); (case hle => first | (simp; done) | omega | (simp; omega))) | with_reducible refine below_step ?_ (by assumption)))⟩, by simp [intOf]⟩
        · by_cases h1 : 237 ≤ x
          · by_cases h2 : x ≤ 237
            · have HS : Hid (restS 3 2 ((x :: t).getD 0 0 % 16) 128 159 ((x :: t).drop 1) = S) := Lib.hid (by show restS 3 2 (x % 16) 128 159 t = S; rw [← hk, tail3, if_pos ⟨h1, h2⟩])
              clear hk
              go_wp2
              go_quiet (fail)
              go_wp2_with (go_at_call 79; (with_reducible refine (rest_3 _ _ _ _ b off n c (x :: t) _ ?hA ?hB hn HL.out HX.out hm S HS.out).mono ?_); (case hB => (simp; omega)); (case hA => exact fun i hi => ((bcell (W := w) (by repeat (first | with_reducible assumption | with_reducible exact Below.refl _ _ | with_reducible refine below_alloc ?_ _ | with_reducible refine pw_below_drewN ?_ _ | with_reducible refine below_drew1 ?_ | ((with_reducible refine below_set ?_ ?hle); (case hle => first | (simp; done) | omega | (simp; omega))) | with_reducible refine below_step ?_ (by assumption)))).1 b _ hlt).trans (HCS.out i hi)); rintro e w2 ⟨rfl, hb2⟩; obtain ⟨hc2, hf2⟩ := bcell hb2)
              exact bodyPost_ret (v := S.val) (by simp [results, Try.results75, go_sem, hc2, hcr, hc1, hq0, hq1, hq2]) rfl ⟨rfl, (by repeat (first | with_reducible assumption | with_reducible exact Below.refl _ _ | with_reducible refine below_alloc ?_ _ | with_reducible refine pw_below_drewN ?_ _ | with_reducible refine below_drew1 ?_ | ((with_reducible refine below_set ?_ ?hle); (case hle => first | (simp; done) | omega | (simp; omega))) | with_reducible refine below_step ?_ (by assumption)))⟩
            · have hS : tail4 x t = S := by rw [← hk, tail3, if_neg (by omega)]
              have HS := Lib.hid hS
              clear hk hS
              go_wp2
              go_quiet (fail)
              go_wp2
              exact ⟨⟨⟨4, rfl, .inr (.inr (.inr (.inr (.inl ⟨rfl, HS.out⟩))))⟩, (by repeat (first | with_reducible assumption | with_reducible exact Below.refl _ _ | with_reducible refine below_alloc ?_ _ | with_reducible refine pw_below_drewN ?_ _ | with_reducible refine below_drew1 ?_ | ((with_reducible refine below_set ?_ ?hle); (case hle => first | (simp; done) | omega | (simp; omega))) | with_reducible refine below_step ?_ (by assumption)))⟩, by simp [intOf]⟩
          · have hd1 : decide ((237 : Int) ≤ x) = false := by simpa using h1
            have hS : tail4 x t = S := by rw [← hk, tail3, if_neg (by omega)]
            have HS := Lib.hid hS
            clear hk hS
            go_wp2
            go_quiet (fail)
            go_wp2
            exact ⟨⟨⟨4, rfl, .inr (.inr (.inr (.inr (.inl ⟨rfl, HS.out⟩))))⟩, (by repeat (first | with_reducible assumption | with_reducible exact Below.refl _ _ | with_reducible refine below_alloc ?_ _ | with_reducible refine pw_below_drewN ?_ _ | with_reducible refine below_drew1 ?_ | ((with_reducible refine below_set ?_ ?hle); (case hle => first | (simp; done) | omega | (simp; omega))) | with_reducible refine below_step ?_ (by assumption)))⟩, by simp [intOf]⟩
        · by_cases h1 : 238 ≤ x
          · by_cases h2 : x ≤ 239
            · have HS : Hid (restS 3 2 ((x :: t).getD 0 0 % 16) 128 191 ((x :: t).drop 1) = S) := Lib.hid (by show restS 3 2 (x % 16) 128 191 t = S; rw [← hk, tail4, if_pos ⟨h1, h2⟩])
              clear hk
              go_wp2
              go_quiet (fail)
              go_wp2_with (go_at_call 79; (with_reducible refine (rest_3 _ _ _ _ b off n c (x :: t) _ ?hA ?hB hn HL.out HX.out hm S HS.out).mono ?_); (case hB => (simp; omega)); (case hA => exact fun i hi => ((bcell (W := w) (by repeat (first | with_reducible assumption | with_reducible exact Below.refl _ _ | with_reducible refine below_alloc ?_ _ | with_reducible refine pw_below_drewN ?_ _ | with_reducible refine below_drew1 ?_ | ((with_reducible refine below_set ?_ ?hle); (case hle => first | (simp; done) | omega | (simp; omega))) | with_reducible refine below_step ?_ (by assumption)))).1 b _ hlt).trans (HCS.out i hi)); rintro e w2 ⟨rfl, hb2⟩; obtain ⟨hc2, hf2⟩ := bcell hb2)
              exact bodyPost_ret (v := S.val) (by simp [results, Try.results75, go_sem, hc2, hcr, hc1, hq0, hq1, hq2]) rfl ⟨rfl, (by repeat (first | with_reducible assumption | with_reducible exact Below.refl _ _ | with_reducible refine below_alloc ?_ _ | with_reducible refine pw_below_drewN ?_ _ | with_reducible refine below_drew1 ?_ | ((with_reducible refine below_set ?_ ?hle); (case hle => first | (simp; done) | omega | (simp; omega))) | with_reducible refine below_step ?_ (by assumption)))⟩
            · have hS : tail5 x t = S := by rw [← hk, tail4, if_neg (by omega)]
              have HS := Lib.hid hS
              clear hk hS
              go_wp2
              go_quiet (fail)
              go_wp2
              exact ⟨⟨⟨5, rfl, .inr (.inr (.inr (.inr (.inr (.inl ⟨rfl, HS.out⟩)))))⟩, (by repeat (first | with_reducible assumption | with_reducible exact Below.refl _ _ | with_reducible refine below_alloc ?_ _ | with_reducible refine pw_below_drewN ?_ _ | with_reducible refine below_drew1 ?_ | ((with_reducible refine below_set ?_ ?hle); (case hle => first | (simp; done) | omega | (simp; omega))) | with_reducible refine below_step ?_ (by assumption)))⟩, by simp [intOf]⟩
          · have hd1 : decide ((238 : Int) ≤ x) = false := by simpa using h1
            have hS : tail5 x t = S := by rw [← hk, tail4, if_neg (by omega)]
            have HS := Lib.hid hS
            clear hk hS
            go_wp2
            go_quiet (fail)
            go_wp2
            exact ⟨⟨⟨5, rfl, .inr (.inr (.inr (.inr (.inr (.inl ⟨rfl, HS.out⟩)))))⟩, (by repeat (first | with_reducible assumption | with_reducible exact Below.refl _ _ | with_reducible refine below_alloc ?_ _ | with_reducible refine pw_below_drewN ?_ _ | with_reducible refine below_drew1 ?_ | ((with_reducible refine below_set ?_ ?hle); (case hle => first | (simp; done) | omega | (simp; omega))) | with_reducible refine below_step ?_ (by assumption)))⟩, by simp [intOf]⟩
        · by_cases h1 : 240 ≤ x
          · by_cases h2 : x ≤ 240
            · have HS : Hid (restS 4 3 ((x :: t).getD 0 0 % 8) 144 191 ((x :: t).drop 1) = S) := Lib.hid (by show restS 4 3 (x % 8) 144 191 t = S; rw [← hk, tail5, if_pos ⟨h1, h2⟩])
              clear hk
              go_wp2
              go_quiet (fail)
              go_wp2_with (go_at_call 79; (with_reducible refine (rest_4 _ _ _ _ b off n c (x :: t) _ ?hA ?hB hn HL.out HX.out hm S HS.out).mono ?_); (case hB => (simp; omega)); (case hA => exact fun i hi => ((bcell (W := w) (by repeat (first | with_reducible assumption | with_reducible exact Below.refl _ _ | with_reducible refine below_alloc ?_ _ | with_reducible refine pw_below_drewN ?_ _ | with_reducible refine below_drew1 ?_ | ((with_reducible refine below_set ?_ ?hle); (case hle => first | (simp; done) | omega | (simp; omega))) | with_reducible refine below_step ?_ (by assumption)))).1 b _ hlt).trans (HCS.out i hi)); rintro e w2 ⟨rfl, hb2⟩; obtain ⟨hc2, hf2⟩ := bcell hb2)
              exact bodyPost_ret (v := S.val) (by simp [results, Try.results75, go_sem, hc2, hcr, hc1, hq0, hq1, hq2]) rfl ⟨rfl, (by repeat (first | with_reducible assumption | with_reducible exact Below.refl _ _ | with_reducible refine below_alloc ?_ _ | with_reducible refine pw_below_drewN ?_ _ | with_reducible refine below_drew1 ?_ | ((with_reducible refine below_set ?_ ?hle); (case hle => first | (simp; done) | omega | (simp; omega))) | with_reducible refine below_step ?_ (by assumption)))⟩
            · have hS : tail6 x t = S := by rw [← hk, tail5, if_neg (by omega)]
              have HS := Lib.hid hS
              clear hk hS
              go_wp2
              go_quiet (fail)
              go_wp2
              exact ⟨⟨⟨6, rfl, .inr (.inr (.inr (.inr (.inr (.inr (.inl ⟨rfl, HS.out⟩))))))⟩, (by repeat (first | with_reducible assumption | with_reducible exact Below.refl _ _ | with_reducible refine below_alloc ?_ _ | with_reducible refine pw_below_drewN ?_ _ | with_reducible refine below_drew1 ?_ | ((with_reducible refine below_set ?_ ?hle); (case hle => first | (simp; done) | omega | (simp; omega))) | with_reducible refine below_step ?_ (by assumption)))⟩, by simp [intOf]⟩
          · have hd1 : decide ((240 : Int) ≤ x) = false := by simpa using h1
            have hS : tail6 x t = S := by rw [← hk, tail5, if_neg (by omega)]
            have HS := Lib.hid hS
            clear hk hS
            go_wp2
            go_quiet (fail)
            go_wp2
            exact ⟨⟨⟨6, rfl, .inr (.inr (.inr (.inr (.inr (.inr (.inl ⟨rfl, HS.out⟩))))))⟩, (by repeat (first | with_reducible assumption | with_reducible exact Below.refl _ _ | with_reducible refine below_alloc ?_ _ | with_reducible refine pw_below_drewN ?_ _ | with_reducible refine below_drew1 ?_ | ((with_reducible refine below_set ?_ ?hle); (case hle => first | (simp; done) | omega | (simp; omega))) | with_reducible refine below_step ?_ (by assumption)))⟩, by simp [intOf]⟩
        · by_cases h1 : 241 ≤ x
          · by_cases h2 : x ≤ 243
            · have HS : Hid (restS 4 3 ((x :: t).getD 0 0 % 8) 128 191 ((x :: t).drop 1) = S) := Lib.hid (by show restS 4 3 (x % 8) 128 191 t = S; rw [← hk, tail6, if_pos ⟨h1, h2⟩])
              clear hk
              go_wp2
              go_quiet (fail)
              go_wp2_with (go_at_call 79; (with_reducible refine (rest_4 _ _ _ _ b off n c (x :: t) _ ?hA ?hB hn HL.out HX.out hm S HS.out).mono ?_); (case hB => (simp; omega)); (case hA => exact fun i hi => ((bcell (W := w) (by repeat (first | with_reducible assumption | with_reducible exact Below.refl _ _ | with_reducible refine below_alloc ?_ _ | with_reducible refine pw_below_drewN ?_ _ | with_reducible refine below_drew1 ?_ | ((with_reducible refine below_set ?_ ?hle); (case hle => first | (simp; done) | omega | (simp; omega))) | with_reducible refine below_step ?_ (by assumption)))).1 b _ hlt).trans (HCS.out i hi)); rintro e w2 ⟨rfl, hb2⟩; obtain ⟨hc2, hf2⟩ := bcell hb2)
              exact bodyPost_ret (v := S.val) (by simp [results, Try.results75, go_sem, hc2, hcr, hc1, hq0, hq1, hq2]) rfl ⟨rfl, (by repeat (first | with_reducible assumption | with_reducible exact Below.refl _ _ | with_reducible refine below_alloc ?_ _ | with_reducible refine pw_below_drewN ?_ _ | with_reducible refine below_drew1 ?_ | ((with_reducible refine below_set ?_ ?hle); (case hle => first | (simp; done) | omega | (simp; omega))) | with_reducible refine below_step ?_ (by assumption)))⟩
            · have hS : tail7 x t = S := by rw [← hk, tail6, if_neg (by omega)]
              have HS := Lib.hid hS
              clear hk hS
              go_wp2
              go_quiet (fail)
              go_wp2
              exact ⟨⟨⟨7, rfl, .inr (.inr (.inr (.inr (.inr (.inr (.inr (.inl ⟨rfl, HS.out⟩)))))))⟩, (by repeat (first | with_reducible assumption | with_reducible exact Below.refl _ _ | with_reducible refine below_alloc ?_ _ | with_reducible refine pw_below_drewN ?_ _ | with_reducible refine below_drew1 ?_ | ((with_reducible refine below_set ?_ ?hle); (case hle => first | (simp; done) | omega | (simp; omega))) | with_reducible refine below_step ?_ (by assumption)))⟩, by simp [intOf]⟩
          · have hd1 : decide ((241 : Int) ≤ x) = false := by simpa using h1
            have hS : tail7 x t = S := by rw [← hk, tail6, if_neg (by omega)]
            have HS := Lib.hid hS
            clear hk hS
            go_wp2
            go_quiet (fail)
            go_wp2
            exact ⟨⟨⟨7, rfl, .inr (.inr (.inr (.inr (.inr (.inr (.inr (.inl ⟨rfl, HS.out⟩)))))))⟩, (by repeat (first | with_reducible assumption | with_reducible exact Below.refl _ _ | with_reducible refine below_alloc ?_ _ | with_reducible refine pw_below_drewN ?_ _ | with_reducible refine below_drew1 ?_ | ((with_reducible refine below_set ?_ ?hle); (case hle => first | (simp; done) | omega | (simp; omega))) | with_reducible refine below_step ?_ (by assumption)))⟩, by simp [intOf]⟩
        · by_cases h1 : 244 ≤ x
          · by_cases h2 : x ≤ 244
            · have HS : Hid (restS 4 3 ((x :: t).getD 0 0 % 8) 128 143 ((x :: t).drop 1) = S) := Lib.hid (by show restS 4 3 (x % 8) 128 143 t = S; rw [← hk, tail7, if_pos ⟨h1, h2⟩])
              clear hk
              go_wp2
              go_quiet (fail)
              go_wp2_with (go_at_call 79; (with_reducible refine (rest_4 _ _ _ _ b off n c (x :: t) _ ?hA ?hB hn HL.out HX.out hm S HS.out).mono ?_); (case hB => (simp; omega)); (case hA => exact fun i hi => ((bcell (W := w) (by repeat (first | with_reducible assumption | with_reducible exact Below.refl _ _ | with_reducible refine below_alloc ?_ _ | with_reducible refine pw_below_drewN ?_ _ | with_reducible refine below_drew1 ?_ | ((with_reducible refine below_set ?_ ?hle); (case hle => first | (simp; done) | omega | (simp; omega))) | with_reducible refine below_step ?_ (by assumption)))).1 b _ hlt).trans (HCS.out i hi)); rintro e w2 ⟨rfl, hb2⟩; obtain ⟨hc2, hf2⟩ := bcell hb2)
              exact bodyPost_ret (v := S.val) (by simp [results, Try.results75, go_sem, hc2, hcr, hc1, hq0, hq1, hq2]) rfl ⟨rfl, (by repeat (first | with_reducible assumption | with_reducible exact Below.refl _ _ | with_reducible refine below_alloc ?_ _ | with_reducible refine pw_below_drewN ?_ _ | with_reducible refine below_drew1 ?_ | ((with_reducible refine below_set ?_ ?hle); (case hle => first | (simp; done) | omega | (simp; omega))) | with_reducible refine below_step ?_ (by assumption)))⟩
            · have hS : tail8 x t = S := by rw [← hk, tail7, if_neg (by omega)]
              have HS := Lib.hid hS
              clear hk hS
              go_wp2
              go_quiet (fail)
              go_wp2
              exact ⟨⟨⟨8, rfl, .inr (.inr (.inr (.inr (.inr (.inr (.inr (.inr (⟨rfl, HS.out⟩))))))))⟩, (by repeat (first | with_reducible assumption | with_reducible exact Below.refl _ _ | with_reducible refine below_alloc ?_ _ | with_reducible refine pw_below_drewN ?_ _ | with_reducible refine below_drew1 ?_ | ((with_reducible refine below_set ?_ ?hle); (case hle => first | (simp; done) | omega | (simp; omega))) | with_reducible refine below_step ?_ (by assumption)))⟩, by simp [intOf]⟩
          · have hd1 : decide ((244 : Int) ≤ x) = false := by simpa using h1
            have hS : tail8 x t = S := by rw [← hk, tail7, if_neg (by omega)]
            have HS := Lib.hid hS
            clear hk hS
            go_wp2
            go_quiet (fail)
            go_wp2
            exact ⟨⟨⟨8, rfl, .inr (.inr (.inr (.inr (.inr (.inr (.inr (.inr (⟨rfl, HS.out⟩))))))))⟩, (by repeat (first | with_reducible assumption | with_reducible exact Below.refl _ _ | with_reducible refine below_alloc ?_ _ | with_reducible refine pw_below_drewN ?_ _ | with_reducible refine below_drew1 ?_ | ((with_reducible refine below_set ?_ ?hle); (case hle => first | (simp; done) | omega | (simp; omega))) | with_reducible refine below_step ?_ (by assumption)))⟩, by simp [intOf]⟩
        · have hS : Step.bad = S := hk
          subst hS
          clear hk
          go_wp2_with (go_at_call 72; (with_reducible refine (not_any _ _).mono ?_); rintro e w2 ⟨rfl, hb2⟩; obtain ⟨hc2, hf2⟩ := bcell hb2)
          exact bodyPost_ret (v := stepV 2 0 0 0) (by simp [results, Try.results75, go_sem, hc2, hcr, hc1, hq0, hq1, hq2]) rfl ⟨rfl, (by repeat (first | with_reducible assumption | with_reducible exact Below.refl _ _ | with_reducible refine below_alloc ?_ _ | with_reducible refine pw_below_drewN ?_ _ | with_reducible refine below_drew1 ?_ | ((with_reducible refine below_set ?_ ?hle); (case hle => first | (simp; done) | omega | (simp; omega))) | with_reducible refine below_step ?_ (by assumption)))⟩
end Go.Proofs.Ytcekghcejmhhaaa
