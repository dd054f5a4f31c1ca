/- The specification's Next says what the program's says: its walk. -/
import Derived.Test.YtcekghcejmhhaaaCharsRefB
import Derived.BigQuiet
import Derived.StillTailTactics
set_option linter.unusedSimpArgs false
set_option linter.unusedVariables false
set_option linter.unnecessarySimpa false
namespace Go.Proofs.Ytcekghcejmhhaaa.Ref
open Go.RowKit Go.Proofs.YtcekghcejmhhaaaW.PrintWords Go.Proofs.YtcekghcejmhhaaaW.PrintLast Go.Proofs.YtcekghcejmhhaaaW.PrintMore Go.Proofs.Ytcekghcejmhhaaa
set_option maxRecDepth 100000

theorem shifts_x (enc st : Int) (he : encOk enc) (A : Option Addr) (c : Nat) (xs : List Int) (w : World) (hn : xs.length ≤ 20000) (hC : Kd.C (Kd.int .u8) w A xs.length xs) (hc : xs.length ≤ c) :
    ∃ (n : Nat) (s : Int), XBaseD.sorobanref18_shifts.f (xs.length + 1) enc st xs = some ((n : Int), s) ∧ n ≤ xs.length ∧ (¬ enc = 3 → n = 0 ∧ s = st) ∧ (enc = 3 → n = skipS xs ∧ s = nowS st xs) ∧
      Calls Try.prog 47 #[.int .i64 enc, .int .i64 st, .slice A xs.length c] w fun r w' => r = .returned (.tuple #[.int .i64 n, .int .i64 s]) ∧ Below w.heap.size w w' := by
  have fin : ∀ (n : Nat) (s : Int), XBaseD.sorobanref18_shifts.f (xs.length + 1) enc st xs = some ((n : Int), s) → Calls Try.prog 47 #[.int .i64 enc, .int .i64 st, .slice A xs.length c] w fun r w' => r = .returned (.tuple #[.int .i64 n, .int .i64 s]) ∧ Below w.heap.size w w' :=
    fun n s h => (XBaseD.sorobanref18_shifts.calls (xs.length + 1) enc st A c xs n s w hC hc h).mono fun r w' ⟨h1, h2⟩ => ⟨h1, h2.below⟩
  by_cases h3 : enc = 3
  · subst h3
    have h := shifts_3 (k := xs.length + 1) (s := st) hn (by omega)
    exact ⟨_, _, h, skipS_le xs, fun h => absurd rfl h, fun _ => ⟨rfl, rfl⟩, fin _ _ h⟩
  · have h := shifts_not (k := xs.length + 1) (b := xs) (s := st) h3 (by omega)
    exact ⟨0, st, h, Nat.zero_le _, fun _ => ⟨rfl, rfl⟩, fun h => absurd h h3, fin 0 st h⟩

theorem drop_at (A : Option Addr) (c : Nat) (ys : List Int) (m : Nat) (hm : m ≤ ys.length) (hc : ys.length ≤ c) :
    ∃ A' : Option Addr, (∀ W : World, (Instr.slice 24 (.slice A ys.length c) (some (.int .i64 (m : Int))) none none).run Try.prog W = .ok (.slice A' (ys.drop m).length (c - m)) W) ∧
      (∀ (w : World), Kd.C (Kd.int .u8) w A ys.length ys → Kd.C (Kd.int .u8) w A' (ys.drop m).length (ys.drop m)) ∧ (ys.drop m).length ≤ c - m := by
  obtain ⟨A', h1, h2, h3⟩ := drop_int (P := Try.prog) 24 5 Try.underlying24 (by kernel_rfl) A c ys m hm hc
  refine ⟨A', ?_, ?_, ?_⟩
  · rw [List.length_drop]; exact h1
  · rw [List.length_drop]; exact h2 _
  · rw [List.length_drop]; exact h3

set_option maxHeartbeats 8000000 in
theorem next_walk (enc st : Int) (he : encOk enc) (hs : st = 0 ∨ st = 1) (A : Option Addr) (c : Nat) (xs : List Int) (w : World) (hn : xs.length ≤ 20000) (hC : Kd.C (Kd.int .u8) w A xs.length xs) (hc : xs.length ≤ c) (hb : ∀ x ∈ xs, 0 ≤ x ∧ x ≤ 255) :
    Calls Try.prog 33 #[.int .i64 enc, .int .i64 st, .slice A xs.length c] w fun r w' => r = .returned (nextC enc st xs).val ∧ Below w.heap.size w w' := by
  have hsh : ∀ W : World, Below w.heap.size w W → ∃ (n : Nat) (s : Int), XBaseD.sorobanref18_shifts.f (xs.length + 1) enc st xs = some ((n : Int), s) ∧ n ≤ xs.length ∧ (¬ enc = 3 → n = 0 ∧ s = st) ∧ (enc = 3 → n = skipS xs ∧ s = nowS st xs) ∧
      Calls Try.prog 47 #[.int .i64 enc, .int .i64 st, .slice A xs.length c] W fun r w' => r = .returned (.tuple #[.int .i64 n, .int .i64 s]) ∧ Below W.heap.size W w' :=
    fun W hW => shifts_x enc st he A c xs W hn (Kd.C_below hC hW) hc
  obtain ⟨n, s, hf, hnl, hno, h3, -⟩ := hsh w (Below.refl _ _)
  have hcall : ∀ W : World, Below w.heap.size w W → Calls Try.prog 47 #[.int .i64 enc, .int .i64 st, .slice A xs.length c] W fun r w' => r = .returned (.tuple #[.int .i64 n, .int .i64 s]) ∧ Below W.heap.size W w' := fun W hW => by
    obtain ⟨n', s', hf', -, -, -, hc'⟩ := hsh W hW
    rw [hf] at hf'
    obtain ⟨h1, h2⟩ := Prod.mk.inj (Option.some.inj hf')
    rw [← h1, ← h2] at hc'
    exact hc'
  have HSH := Lib.hid hcall
  obtain ⟨A', hcut, hC', hcc⟩ := drop_at A c xs n hnl hc
  have hCd := hC' _ hC
  have hbd : ∀ x ∈ xs.drop n, 0 ≤ x ∧ x ≤ 255 := fun x hx => hb x (List.mem_of_mem_drop hx)
  have hs01 : s = 0 ∨ s = 1 := by
    by_cases h : enc = 3
    · rw [(h3 h).2]; exact nowS_01 xs st hs
    · rw [(hno h).2]; exact hs
  have hval : nextC enc st xs = if enc = 1 then nextO (xs.drop n) else if enc = 2 then nextU (xs.drop n) else core n s (xs.drop n) := by
    unfold nextC
    by_cases h1 : enc = 1
    · rw [if_pos h1, if_pos h1, (hno (by omega)).1, List.drop_zero]
    · rw [if_neg h1, if_neg h1]
      by_cases h2 : enc = 2
      · rw [if_pos h2, if_pos h2, (hno (by omega)).1, List.drop_zero]
      · rw [if_neg h2, if_neg h2]
        have h33 : enc = 3 := by unfold encOk at he; omega
        rw [(h3 h33).1, (h3 h33).2, nextS_core xs 0 st, Int.zero_add]
  have hdl : (xs.drop n).length ≤ 20000 := by rw [List.length_drop]; omega
  have hn0 : (0 : Int) ≤ n ∧ (n : Int) ≤ 20000 := by omega
  clear hsh hf hno h3 hcall hC hC' hb hs hn
  rw [hval]
  clear hval
  generalize xs.drop n = d at hcut hcc hCd hbd hdl ⊢
  have HCD := Lib.hid hCd
  have w1 : IntKind.i64.wrap ((n : Int) + 1) = (n : Int) + 1 := IntWalk.i64_in _ (by omega)
  have w2 : IntKind.i64.wrap ((n : Int) + 2) = (n : Int) + 2 := IntWalk.i64_in _ (by omega)
  cases d with
  | nil =>
    have e : (if enc = 1 then nextO [] else if enc = 2 then nextU [] else core n s []) = .part := by split; rfl; split <;> rfl
    rw [e]
    clear hCd
    go_enter Try.func33, Try.ntmps33
    go_wp2_with (go_at_call 47; (with_reducible refine (HSH.out _ bel).mono ?_); rintro e w2 ⟨rfl, hb2⟩; obtain ⟨hc2, hf2⟩ := bcell hb2; have hz2 := below_size hb2; (try simp at hz2); have u0 : w.heap.size < w2.heap.size := (by omega))
    exact bodyPost_ret (v := Step.val (Step.part)) (by simp [results, Try.results33, Step.part, Step.bad, go_sem, hc2, u0]) rfl ⟨rfl, bel⟩
  | cons x t =>
    have hx := hbd x (by simp)
    obtain ⟨bb, o, rfl, hlt, hcs⟩ := open_C hCd (by simp)
    have k0 : w.cell? ⟨bb, o, none⟩ = some (.int .u8 x) := by simpa using hcs 0 (by simp)
    have hl0 : decide ((0 : Int) < ((x :: t).length : Int)) = true := by simp <;> omega
    have hl1 : (((x :: t).length : Int) == 0) = false := by simp <;> omega
    have hx0 : 0 ≤ x := hx.1
    have hx1 : x ≤ 255 := hx.2
    rcases enc_cases he with rfl | rfl | rfl
    · have e : (if (1 : Int) = 1 then nextO (x :: t) else if (1 : Int) = 2 then nextU (x :: t) else core n s (x :: t)) = ⟨1, x, 1, 0⟩ := rfl
      rw [e]
      clear hCd hcs e
      go_enter Try.func33, Try.ntmps33
      go_wp2_with (go_at_call 47; (with_reducible refine (HSH.out _ bel).mono ?_); rintro e w2 ⟨rfl, hb2⟩; obtain ⟨hc2, hf2⟩ := bcell hb2; have hz2 := below_size hb2; (try simp at hz2); have u0 : w.heap.size < w2.heap.size := (by omega))
      exact bodyPost_ret (v := Step.val (⟨1, x, 1, 0⟩)) (by simp [results, Try.results33, Step.part, Step.bad, go_sem, hc2, u0]) rfl ⟨rfl, bel⟩
    · have e : (if (2 : Int) = 1 then nextO (x :: t) else if (2 : Int) = 2 then nextU (x :: t) else core n s (x :: t)) = nextU (x :: t) := rfl
      rw [e]
      obtain ⟨a1, a2, a3, a4, hS⟩ : ∃ a1 a2 a3 a4, nextU (x :: t) = ⟨a1, a2, a3, a4⟩ := ⟨_, _, _, _, rfl⟩
      have hu := utf_f (k := 0) hx.1 hx.2 (fun y hy => hbd y (by simp [hy])) (t := t)
      rw [hS] at hu ⊢
      have HU := Lib.hid hu
      clear hCd hcs e hS hu
      go_enter Try.func33, Try.ntmps33
      go_wp2_with (first | (go_at_call 47; (with_reducible refine (HSH.out _ bel).mono ?_); rintro e w2 ⟨rfl, hb2⟩; obtain ⟨hc2, hf2⟩ := bcell hb2; have hz2 := below_size hb2; (try simp at hz2); have u0 : w.heap.size < w2.heap.size := (by omega)) | (go_at_call 49; (refine (XBaseD.sorobanref18_utf.calls (0 + 7) (some ⟨bb, o, none⟩) (c - n) (x :: t) a1 a2 a3 a4 _ (Kd.C_below HCD.out bel) hcc HU.out).mono ?_); rintro e w3 ⟨rfl, hb3⟩; obtain ⟨hc3, hf3⟩ := bcell hb3; have hz3 := below_size hb3; (try simp at hz3); have v0 : w.heap.size < w3.heap.size := (by omega)))
      exact bodyPost_ret (v := Step.val (⟨a1, a2, a3, a4⟩)) (by simp [results, Try.results33, Step.part, Step.bad, go_sem, hc2, u0, hc3, v0]) rfl ⟨rfl, bel⟩
    · rcases hs01 with rfl | rfl
      · by_cases h1 : x < 128
        · have e : (if (3 : Int) = 1 then nextO (x :: t) else if (3 : Int) = 2 then nextU (x :: t) else core n 0 (x :: t)) = ⟨1, x, n + 1, 0⟩ := by
            show core n 0 (x :: t) = _
            rw [core_0, if_neg (by omega)]
          have hd : decide (x < 128) = true := by simpa using h1
          rw [e]
          clear hCd hcs e h1
          go_enter Try.func33, Try.ntmps33
          go_wp2_with (go_at_call 47; (with_reducible refine (HSH.out _ bel).mono ?_); rintro e w2 ⟨rfl, hb2⟩; obtain ⟨hc2, hf2⟩ := bcell hb2; have hz2 := below_size hb2; (try simp at hz2); have u0 : w.heap.size < w2.heap.size := (by omega))
          exact bodyPost_ret (v := Step.val (⟨1, x, n + 1, 0⟩)) (by simp [results, Try.results33, Step.part, Step.bad, go_sem, hc2, u0]) rfl ⟨rfl, bel⟩
        · have e : (if (3 : Int) = 1 then nextO (x :: t) else if (3 : Int) = 2 then nextU (x :: t) else core n 0 (x :: t)) = .bad := by
            show core n 0 (x :: t) = _
            rw [core_0, if_pos (by omega)]
          have hd : decide (x < 128) = false := by simpa using h1
          rw [e]
          clear hCd hcs e h1
          go_enter Try.func33, Try.ntmps33
          go_wp2_with (go_at_call 47; (with_reducible refine (HSH.out _ bel).mono ?_); rintro e w2 ⟨rfl, hb2⟩; obtain ⟨hc2, hf2⟩ := bcell hb2; have hz2 := below_size hb2; (try simp at hz2); have u0 : w.heap.size < w2.heap.size := (by omega))
          exact bodyPost_ret (v := Step.val (Step.bad)) (by simp [results, Try.results33, Step.part, Step.bad, go_sem, hc2, u0]) rfl ⟨rfl, bel⟩
      · by_cases h1 : x < 33
        · have e : (if (3 : Int) = 1 then nextO (x :: t) else if (3 : Int) = 2 then nextU (x :: t) else core n 1 (x :: t)) = .bad := by
            show core n 1 (x :: t) = _
            exact core_1b (good_iff.2 (by omega))
          have hd : decide (x < 33) = true := by simpa using h1
          rw [e]
          clear hCd hcs e h1
          go_enter Try.func33, Try.ntmps33
          go_wp2_with (go_at_call 47; (with_reducible refine (HSH.out _ bel).mono ?_); rintro e w2 ⟨rfl, hb2⟩; obtain ⟨hc2, hf2⟩ := bcell hb2; have hz2 := below_size hb2; (try simp at hz2); have u0 : w.heap.size < w2.heap.size := (by omega))
          exact bodyPost_ret (v := Step.val (Step.bad)) (by simp [results, Try.results33, Step.part, Step.bad, go_sem, hc2, u0]) rfl ⟨rfl, bel⟩
        · have hd : decide (x < 33) = false := by simpa using h1
          by_cases h2 : 126 < x
          · have e : (if (3 : Int) = 1 then nextO (x :: t) else if (3 : Int) = 2 then nextU (x :: t) else core n 1 (x :: t)) = .bad := by
              show core n 1 (x :: t) = _
              exact core_1b (good_iff.2 (by omega))
            have hd2 : decide (126 < x) = true := by simpa using h2
            rw [e]
            clear hCd hcs e h1 h2
            go_enter Try.func33, Try.ntmps33
            go_wp2_with (go_at_call 47; (with_reducible refine (HSH.out _ bel).mono ?_); rintro e w2 ⟨rfl, hb2⟩; obtain ⟨hc2, hf2⟩ := bcell hb2; have hz2 := below_size hb2; (try simp at hz2); have u0 : w.heap.size < w2.heap.size := (by omega))
            exact bodyPost_ret (v := Step.val (Step.bad)) (by simp [results, Try.results33, Step.part, Step.bad, go_sem, hc2, u0]) rfl ⟨rfl, bel⟩
          · have hd2 : decide (126 < x) = false := by simpa using h2
            have hg : ¬ good x = false := by rw [good_iff]; omega
            cases t with
            | nil =>
              have e : (if (3 : Int) = 1 then nextO [x] else if (3 : Int) = 2 then nextU [x] else core n 1 [x]) = .part := by
                show core n 1 [x] = _
                rw [core_1n, if_neg hg]
              rw [e]
              clear hCd hcs e h1 h2
              go_enter Try.func33, Try.ntmps33
              go_wp2_with (go_at_call 47; (with_reducible refine (HSH.out _ bel).mono ?_); rintro e w2 ⟨rfl, hb2⟩; obtain ⟨hc2, hf2⟩ := bcell hb2; have hz2 := below_size hb2; (try simp at hz2); have u0 : w.heap.size < w2.heap.size := (by omega))
              exact bodyPost_ret (v := Step.val (Step.part)) (by simp [results, Try.results33, Step.part, Step.bad, go_sem, hc2, u0]) rfl ⟨rfl, bel⟩
            | cons y t =>
              have hy := hbd y (by simp)
              have k1 : w.cell? ⟨bb, o + 1, none⟩ = some (.int .u8 y) := by simpa using hcs 1 (by simp)
              have hl2 : (((x :: y :: t).length : Int) == 1) = false := by simp <;> omega
              have hl3 : decide ((1 : Int) < ((x :: y :: t).length : Int)) = true := by simp <;> omega
              have hy0 : 0 ≤ y := hy.1
              have hy1 : y ≤ 255 := hy.2
              by_cases h3 : y < 33
              · have e : (if (3 : Int) = 1 then nextO (x :: y :: t) else if (3 : Int) = 2 then nextU (x :: y :: t) else core n 1 (x :: y :: t)) = .bad := by
                  show core n 1 (x :: y :: t) = _
                  rw [core_1c, if_neg hg, if_pos (good_iff.2 (by omega))]
                have hd3 : decide (y < 33) = true := by simpa using h3
                rw [e]
                clear hCd hcs e h1 h2 h3
                go_enter Try.func33, Try.ntmps33
                go_wp2_with (go_at_call 47; (with_reducible refine (HSH.out _ bel).mono ?_); rintro e w2 ⟨rfl, hb2⟩; obtain ⟨hc2, hf2⟩ := bcell hb2; have hz2 := below_size hb2; (try simp at hz2); have u0 : w.heap.size < w2.heap.size := (by omega))
                exact bodyPost_ret (v := Step.val (Step.bad)) (by simp [results, Try.results33, Step.part, Step.bad, go_sem, hc2, u0]) rfl ⟨rfl, bel⟩
              · have hd3 : decide (y < 33) = false := by simpa using h3
                by_cases h4 : 126 < y
                · have e : (if (3 : Int) = 1 then nextO (x :: y :: t) else if (3 : Int) = 2 then nextU (x :: y :: t) else core n 1 (x :: y :: t)) = .bad := by
                    show core n 1 (x :: y :: t) = _
                    rw [core_1c, if_neg hg, if_pos (good_iff.2 (by omega))]
                  have hd4 : decide (126 < y) = true := by simpa using h4
                  rw [e]
                  clear hCd hcs e h1 h2 h3 h4
                  go_enter Try.func33, Try.ntmps33
                  go_wp2_with (go_at_call 47; (with_reducible refine (HSH.out _ bel).mono ?_); rintro e w2 ⟨rfl, hb2⟩; obtain ⟨hc2, hf2⟩ := bcell hb2; have hz2 := below_size hb2; (try simp at hz2); have u0 : w.heap.size < w2.heap.size := (by omega))
                  exact bodyPost_ret (v := Step.val (Step.bad)) (by simp [results, Try.results33, Step.part, Step.bad, go_sem, hc2, u0]) rfl ⟨rfl, bel⟩
                · have e : (if (3 : Int) = 1 then nextO (x :: y :: t) else if (3 : Int) = 2 then nextU (x :: y :: t) else core n 1 (x :: y :: t)) = ⟨1, 19968 + 94 * (x - 33) + (y - 33), n + 2, 1⟩ := by
                    show core n 1 (x :: y :: t) = _
                    rw [core_1c, if_neg hg, if_neg (by rw [good_iff]; omega)]
                  have hd4 : decide (126 < y) = false := by simpa using h4
                  have hx33 : 33 ≤ x ∧ x ≤ 126 := by omega
                  have hy33 : 33 ≤ y ∧ y ≤ 126 := by omega
                  rw [e]
                  clear hCd hcs e h1 h2 h3 h4
                  go_enter Try.func33, Try.ntmps33
                  go_wp2_with (go_at_call 47; (with_reducible refine (HSH.out _ bel).mono ?_); rintro e w2 ⟨rfl, hb2⟩; obtain ⟨hc2, hf2⟩ := bcell hb2; have hz2 := below_size hb2; (try simp at hz2); have u0 : w.heap.size < w2.heap.size := (by omega))
                  have kk0 : w2.cell? ⟨bb, o, none⟩ = some (.int .u8 x) := by rw [hc2 _ _ (by simp; omega), World.cell?_alloc_past _ _ _ (by first | assumption | (simp; omega))]; exact k0
                  have kk1 : w2.cell? ⟨bb, o + 1, none⟩ = some (.int .u8 y) := by rw [hc2 _ _ (by simp; omega), World.cell?_alloc_past _ _ _ (by first | assumption | (simp; omega))]; exact k1
                  have s3 : IntKind.u8.wrap (x - 33) = x - 33 := by rw [IntKind.wrap_u8]; omega
                  have s4 : IntKind.u8.wrap (y - 33) = y - 33 := by rw [IntKind.wrap_u8]; omega
                  have s5 : (0 : Int) < ((x :: y :: t).length : Int) := by simp <;> omega
                  have s6 : (1 : Int) < ((x :: y :: t).length : Int) := by simp <;> omega
                  have s7 : (0 : Int) < (t.length : Int) + 1 + 1 := by omega
                  have s8 : (1 : Int) < (t.length : Int) + 1 + 1 := by omega
                  go_region
                  go_wp2
                  exact bodyPost_ret (v := Step.val (⟨1, 19968 + 94 * (x - 33) + (y - 33), n + 2, 1⟩)) (by simp [results, Try.results33, Step.part, Step.bad, go_sem, hc2, u0]) rfl ⟨rfl, bel⟩
end Go.Proofs.Ytcekghcejmhhaaa.Ref
