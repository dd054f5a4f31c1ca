/- Joined: CharsJ, CharsK, CharsL, CharsM, CharsN: contracts of functions of the program, and plain laws. -/
import Derived.Test.YtcekghcejmhhaaaChK1
import Derived.Test.YtcekghcejmhhaaaChK2
set_option linter.unusedSimpArgs false
set_option linter.unusedVariables false
set_option linter.unnecessarySimpa false
namespace Go.Proofs.Ytcekghcejmhhaaa
open Go.RowKit Go.Proofs.YtcekghcejmhhaaaW.PrintWords Go.Proofs.YtcekghcejmhhaaaW.PrintLast Go.Proofs.YtcekghcejmhhaaaW.PrintMore
set_option maxRecDepth 100000

/-- An encoding, as a value. -/
def encV (enc : Int) : Value := if enc = 1 then .iface 100 (.agg #[]) else if enc = 2 then .iface 101 (.agg #[]) else .iface 102 (.agg #[])
theorem encV_1 : encV 1 = .iface 100 (.agg #[]) := rfl
theorem encV_2 : encV 2 = .iface 101 (.agg #[]) := rfl
theorem encV_3 : encV 3 = .iface 102 (.agg #[]) := rfl
/-- The panic of 'need'. -/
abbrev failed (e a : Int) : List PanicEntry := [{ v := .iface 97 (.agg #[.int .i64 e, .int .i64 a]), recovered := false }]

theorem meth_states_1 (w : World) : (method 231 100 (.agg #[]) "soroban/chars.states").run Try.prog w = .ok (71, .agg #[]) w := by kernel_rfl
theorem meth_states_2 (w : World) : (method 231 101 (.agg #[]) "soroban/chars.states").run Try.prog w = .ok (77, .agg #[]) w := by kernel_rfl
theorem meth_states_3 (w : World) : (method 231 102 (.agg #[]) "soroban/chars.states").run Try.prog w = .ok (84, .agg #[]) w := by kernel_rfl
theorem meth_has_1 (w : World) : (method 231 100 (.agg #[]) "soroban/chars.has").run Try.prog w = .ok (68, .agg #[]) w := by kernel_rfl
theorem meth_has_2 (w : World) : (method 231 101 (.agg #[]) "soroban/chars.has").run Try.prog w = .ok (74, .agg #[]) w := by kernel_rfl
theorem meth_has_3 (w : World) : (method 231 102 (.agg #[]) "soroban/chars.has").run Try.prog w = .ok (81, .agg #[]) w := by kernel_rfl
theorem meth_next_1 (w : World) : (method 231 100 (.agg #[]) "soroban/chars.next").run Try.prog w = .ok (69, .agg #[]) w := by kernel_rfl
theorem meth_next_2 (w : World) : (method 231 101 (.agg #[]) "soroban/chars.next").run Try.prog w = .ok (75, .agg #[]) w := by kernel_rfl
theorem meth_next_3 (w : World) : (method 231 102 (.agg #[]) "soroban/chars.next").run Try.prog w = .ok (82, .agg #[]) w := by kernel_rfl
theorem meth_put_1 (w : World) : (method 231 100 (.agg #[]) "soroban/chars.put").run Try.prog w = .ok (70, .agg #[]) w := by kernel_rfl
theorem meth_put_2 (w : World) : (method 231 101 (.agg #[]) "soroban/chars.put").run Try.prog w = .ok (76, .agg #[]) w := by kernel_rfl
theorem meth_put_3 (w : World) : (method 231 102 (.agg #[]) "soroban/chars.put").run Try.prog w = .ok (83, .agg #[]) w := by kernel_rfl
theorem of_at_1 (w : World) : (Instr.index 103 (.agg #[.iface 100 (.agg #[]), .iface 101 (.agg #[]), .iface 102 (.agg #[])]) (.int .i64 0)).run Try.prog w = .ok (encV 1) w := by kernel_rfl
theorem of_at_2 (w : World) : (Instr.index 103 (.agg #[.iface 100 (.agg #[]), .iface 101 (.agg #[]), .iface 102 (.agg #[])]) (.int .i64 1)).run Try.prog w = .ok (encV 2) w := by kernel_rfl
theorem of_at_3 (w : World) : (Instr.index 103 (.agg #[.iface 100 (.agg #[]), .iface 101 (.agg #[]), .iface 102 (.agg #[])]) (.int .i64 2)).run Try.prog w = .ok (encV 3) w := by kernel_rfl
theorem enc_cases {enc : Int} (h : encOk enc) : enc = 1 ∨ enc = 2 ∨ enc = 3 := by unfold encOk at h; omega

set_option maxHeartbeats 1000000 in
theorem of_ok (enc : Int) (h : encOk enc) (w : World) : Calls Try.prog 37 #[.int .i64 enc] w fun r w' => r = .returned (encV enc) ∧ w = w' := by
  have q1 := of_at_1
  have q2 := of_at_2
  have q3 := of_at_3
  rcases enc_cases h with rfl | rfl | rfl
  all_goals
    clear h
    go_enter Try.func37, Try.ntmps37
    go_wp2_with (go_at_call 41; (with_reducible refine (need_true _ _ _).mono ?_); rintro e w1 ⟨rfl, rfl⟩)
    go_ret
    exact ⟨rfl, rfl⟩

set_option maxHeartbeats 1000000 in
theorem of_no (enc : Int) (h : ¬ encOk enc) (w : World) : Calls Try.prog 37 #[.int .i64 enc] w fun r w' => r = .panicked (failed 1 0) ∧ w = w' := by
  by_cases h1 : 1 ≤ enc
  · have h2 : ¬ enc ≤ 3 := fun h2 => h ⟨h1, h2⟩
    clear h
    go_enter Try.func37, Try.ntmps37
    go_wp2_with (go_at_call 41; (with_reducible refine (need_false _ _ _).mono ?_); rintro e w1 ⟨rfl, rfl⟩)
    exact ⟨rfl, rfl, rfl⟩
  · clear h
    go_enter Try.func37, Try.ntmps37
    go_wp2_with (go_at_call 41; (with_reducible refine (need_false _ _ _).mono ?_); rintro e w1 ⟨rfl, rfl⟩)
    exact ⟨rfl, rfl, rfl⟩

set_option maxHeartbeats 400000 in
theorem few_ok (n : Int) (h : n ≤ 20000) (w : World) : Calls Try.prog 38 #[.int .i64 n] w fun r w' => r = .returned (.tuple #[]) ∧ w = w' := by
  go_enter Try.func38, Try.ntmps38
  go_wp2_with (go_at_call 41; (with_reducible refine (need_true _ _ _).mono ?_); rintro e w1 ⟨rfl, rfl⟩)
  go_end0
  exact ⟨rfl, rfl⟩
set_option maxHeartbeats 400000 in
theorem few_no (n : Int) (h : 20000 < n) (w : World) : Calls Try.prog 38 #[.int .i64 n] w fun r w' => r = .panicked (failed 2 0) ∧ w = w' := by
  have hd : decide (n ≤ 20000) = false := by simp; omega
  go_enter Try.func38, Try.ntmps38
  go_wp2_with (go_at_call 41; (with_reducible refine (need_false _ _ _).mono ?_); rintro e w1 ⟨rfl, rfl⟩)
  exact ⟨rfl, rfl, rfl⟩

/-- A state of an encoding. -/
def stOk (enc s : Int) : Prop := 0 ≤ s ∧ s < statesC enc
instance (enc s : Int) : Decidable (stOk enc s) := inferInstanceAs (Decidable (_ ∧ _))

set_option maxHeartbeats 1000000 in
theorem in_no1 (enc s : Int) (h : ¬ encOk enc) (w : World) : Calls Try.prog 46 #[.int .i64 enc, .int .i64 s] w fun r w' => r = .panicked (failed 1 0) ∧ Below w.heap.size w w' := by
  go_enter Try.func46, Try.ntmps46
  go_wp2_with (go_at_call 37; (with_reducible refine (of_no _ h _).mono ?_); rintro e w1 ⟨rfl, rfl⟩)
  exact ⟨rfl, rfl, Below.refl _ _⟩

set_option maxHeartbeats 2000000 in
theorem in_ok (enc s : Int) (h : encOk enc) (hs : stOk enc s) (w : World) : Calls Try.prog 46 #[.int .i64 enc, .int .i64 s] w fun r w' => r = .returned (encV enc) ∧ Below w.heap.size w w' := by
  obtain ⟨h1, h2⟩ := hs
  have h3 := h
  rcases enc_cases h with rfl | rfl | rfl
  all_goals
    have H := Lib.hid h3
    have H2 : s < 2 := by simp [statesC] at h2; omega
    simp [statesC] at h2
    clear h h3
    go_enter Try.func46, Try.ntmps46
    have m1 := meth_states_1
    have m2 := meth_states_2
    have m3 := meth_states_3
    go_wp2_with (first | (go_at_call 37; (with_reducible refine (of_ok _ H.out _).mono ?_); rintro e w1 ⟨rfl, rfl⟩; simp only [encV_1, encV_2, encV_3]) | (with_reducible show Calls Try.prog 71 #[_] _ _; (with_reducible refine (octets_states _).mono ?_); rintro e w1 ⟨rfl, hb⟩; obtain ⟨hc, hf⟩ := bcell hb) | (with_reducible show Calls Try.prog 77 #[_] _ _; (with_reducible refine (utf8_states _).mono ?_); rintro e w1 ⟨rfl, hb⟩; obtain ⟨hc, hf⟩ := bcell hb) | (with_reducible show Calls Try.prog 84 #[_] _ _; (with_reducible refine (shift_states _).mono ?_); rintro e w1 ⟨rfl, hb⟩; obtain ⟨hc, hf⟩ := bcell hb) | (go_at_call 41; (with_reducible refine (need_true _ _ _).mono ?_); rintro e w1 ⟨rfl, rfl⟩))
    go_ret
    exact ⟨by first | rfl | (simp [encV]), bel⟩

set_option maxHeartbeats 2000000 in
theorem in_no2 (enc s : Int) (h : encOk enc) (hs : ¬ stOk enc s) (w : World) : Calls Try.prog 46 #[.int .i64 enc, .int .i64 s] w fun r w' => r = .panicked (failed 1 0) ∧ Below w.heap.size w w' := by
  have h3 := h
  by_cases h1 : 0 ≤ s
  · have hs2 : ¬ s < statesC enc := fun h => hs ⟨h1, h⟩
    clear hs
    rcases enc_cases h with rfl | rfl | rfl
    all_goals
      have H := Lib.hid h3
      simp [statesC] at hs2
      clear h h3
      have hd1 : decide (s < 1) = false := by simp; omega
      try have hd2 : decide (s < 2) = false := by simp; omega
      go_enter Try.func46, Try.ntmps46
      have m1 := meth_states_1
      have m2 := meth_states_2
      have m3 := meth_states_3
      go_wp2_with (first | (go_at_call 37; (with_reducible refine (of_ok _ H.out _).mono ?_); rintro e w1 ⟨rfl, rfl⟩; simp only [encV_1, encV_2, encV_3]) | (with_reducible show Calls Try.prog 71 #[_] _ _; (with_reducible refine (octets_states _).mono ?_); rintro e w1 ⟨rfl, hb⟩; obtain ⟨hc, hf⟩ := bcell hb) | (with_reducible show Calls Try.prog 77 #[_] _ _; (with_reducible refine (utf8_states _).mono ?_); rintro e w1 ⟨rfl, hb⟩; obtain ⟨hc, hf⟩ := bcell hb) | (with_reducible show Calls Try.prog 84 #[_] _ _; (with_reducible refine (shift_states _).mono ?_); rintro e w1 ⟨rfl, hb⟩; obtain ⟨hc, hf⟩ := bcell hb) | (go_at_call 41; (with_reducible refine (need_false _ _ _).mono ?_); rintro e w1 ⟨rfl, rfl⟩))
      exact ⟨rfl, rfl, bel⟩
  · clear hs
    rcases enc_cases h with rfl | rfl | rfl
    all_goals
      have H := Lib.hid h3
      clear h h3
      go_enter Try.func46, Try.ntmps46
      go_wp2_with (first | (go_at_call 37; (with_reducible refine (of_ok _ H.out _).mono ?_); rintro e w1 ⟨rfl, rfl⟩; simp only [encV_1, encV_2, encV_3]) | (go_at_call 41; (with_reducible refine (need_false _ _ _).mono ?_); rintro e w1 ⟨rfl, rfl⟩))
      exact ⟨rfl, rfl, bel⟩
end Go.Proofs.Ytcekghcejmhhaaa

namespace Go.Proofs.Ytcekghcejmhhaaa
open Go.RowKit Go.Proofs.YtcekghcejmhhaaaW.PrintWords Go.Proofs.YtcekghcejmhhaaaW.PrintLast Go.Proofs.YtcekghcejmhhaaaW.PrintMore
set_option maxRecDepth 100000

/-- Bytes. -/
def Byt (xs : List Int) : Prop := ∀ i, 0 ≤ xs.getD i 0 ∧ xs.getD i 0 ≤ 255

theorem octets_next (s : Int) (A : Option Addr) (n c : Nat) (xs : List Int) (w : World) (hC : Kd.C (Kd.int .u8) w A n xs) (hx : Byt xs) :
    Calls Try.prog 69 #[.agg #[], .int .i64 s, .slice A n c] w fun r w' => r = .returned (nextO xs).val ∧ Below w.heap.size w w' := by
  have hl : xs.length = n := hC.1
  cases xs with
  | nil =>
    obtain rfl : n = 0 := by simpa using hl.symm
    exact octets_next_nil s A c w
  | cons x t =>
    obtain ⟨m, rfl⟩ : ∃ m, n = m + 1 := ⟨t.length, by simpa using hl.symm⟩
    obtain ⟨b, off, rfl, hlt, hcs⟩ := open_C hC (by omega)
    have h0 : w.cell? ⟨b, off, none⟩ = some (.int .u8 x) := by simpa using hcs 0 (by omega)
    obtain ⟨xa, xb⟩ := hx 0
    simp only [List.getD_cons_zero] at xa xb
    exact octets_next_cons s b off m c x w h0 hlt xa xb

theorem octets_next' (s : Int) (A : Option Addr) (n c : Nat) (xs : List Int) (w : World) (hC : Kd.C (Kd.int .u8) w A n xs) (hx : Byt xs) :
    Calls Try.prog 69 #[.agg #[], .int .i64 s, .slice A n c] w fun r w' => r = .returned (nextC 1 s xs).val ∧ Below w.heap.size w w' := octets_next s A n c xs w hC hx
theorem utf8_next' (s : Int) (A : Option Addr) (n c : Nat) (xs : List Int) (w : World) (hC : Kd.C (Kd.int .u8) w A n xs) (hx : Byt xs) :
    Calls Try.prog 75 #[.agg #[], .int .i64 s, .slice A n c] w fun r w' => r = .returned (nextC 2 s xs).val ∧ Below w.heap.size w w' := utf8_next s A n c xs w hC hx
theorem shift_next' (s : Int) (hs : s = 0 ∨ s = 1) (A : Option Addr) (n c : Nat) (xs : List Int) (w : World) (hC : Kd.C (Kd.int .u8) w A n xs) (hx : Byt xs) :
    Calls Try.prog 82 #[.agg #[], .int .i64 s, .slice A n c] w fun r w' => r = .returned (nextC 3 s xs).val ∧ Below w.heap.size w w' := shift_next s hs A n c xs w hC hx

set_option maxHeartbeats 6000000 in
theorem Next_ok (enc s : Int) (A : Option Addr) (n c : Nat) (xs : List Int) (w : World) (h : encOk enc) (hs : stOk enc s) (hn : n ≤ 20000) (hC : Kd.C (Kd.int .u8) w A n xs) (hx : Byt xs) :
    Calls Try.prog 22 #[.int .i64 enc, .int .i64 s, .slice A n c] w fun r w' => r = .returned (.tuple #[(nextC enc s xs).val, .int .i64 0]) ∧ Below w.heap.size w w' := by
  have H := Lib.hid h
  have HS := Lib.hid hs
  have HC := Lib.hid hC
  have hs01 : Hid (s = 0 ∨ s = 1) := Lib.hid (by obtain ⟨a, b⟩ := hs; unfold statesC at b; split at b <;> omega)
  have hn2 : (n : Int) ≤ 20000 := by omega
  rcases enc_cases h with rfl | rfl | rfl
  · clear h hs hC
    have m1 := meth_next_1
    go_enter_defers Try.func22, Try.ntmps22
    go_wp2_with (first | (go_at_call 46; (with_reducible refine (in_ok _ _ H.out HS.out _).mono ?_); rintro e w1 ⟨rfl, hb1⟩; obtain ⟨hc1, hf1⟩ := bcell hb1; simp only [encV_1, encV_2, encV_3]; have hz1 := below_size hb1; simp at hz1; have z0 : w.heap.size < w1.heap.size := (by omega); have z1 : w.heap.size + 1 < w1.heap.size := (by omega); have z2 : w.heap.size + 1 + 1 < w1.heap.size := (by omega)) | (go_at_call 38; (with_reducible refine (few_ok _ hn2 _).mono ?_); rintro e w1 ⟨rfl, rfl⟩) | (show Calls Try.prog 69 #[_, _, _] _ _; refine (octets_next' _ _ _ _ xs _ (C_of_below HC.out bel) hx).mono ?_; rintro e w2 ⟨rfl, hb2⟩; obtain ⟨hc2, hf2⟩ := bcell hb2; have hz2 := below_size hb2; have y0 : w.heap.size < w2.heap.size := (by omega); have y1 : w.heap.size + 1 < w2.heap.size := (by omega); have y2 : w.heap.size + 1 + 1 < w2.heap.size := (by omega)))
    refine leaves_cons (f := 36) (args := #[.pointer (some ⟨w.heap.size + 1, 0, none⟩), .pointer (some ⟨w.heap.size + 1 + 1, 0, none⟩)]) (by simp) (by simp [go_sem]) ?_
    refine (caught_idle _ _ _).mono ?_
    rintro e u' w'' ⟨rfl, rfl, rfl⟩
    exact ⟨.tuple #[(nextC 1 s xs).val, .int .i64 0], rresults (rs := [.cell 6 45, .cell 7 25]) rfl (by simp) (.cell w.heap.size rfl (load_agg (t := 45) blk0 Try.underlying45 rfl (by kernel_rfl)) (.cell (w.heap.size + 1) rfl (load_one (t := 25) blk0 (by kernel_rfl)) .nil)), rfl, bel⟩
  · clear h hs hC
    have m1 := meth_next_2
    go_enter_defers Try.func22, Try.ntmps22
    go_wp2_with (first | (go_at_call 46; (with_reducible refine (in_ok _ _ H.out HS.out _).mono ?_); rintro e w1 ⟨rfl, hb1⟩; obtain ⟨hc1, hf1⟩ := bcell hb1; simp only [encV_1, encV_2, encV_3]; have hz1 := below_size hb1; simp at hz1; have z0 : w.heap.size < w1.heap.size := (by omega); have z1 : w.heap.size + 1 < w1.heap.size := (by omega); have z2 : w.heap.size + 1 + 1 < w1.heap.size := (by omega)) | (go_at_call 38; (with_reducible refine (few_ok _ hn2 _).mono ?_); rintro e w1 ⟨rfl, rfl⟩) | (show Calls Try.prog 75 #[_, _, _] _ _; refine (utf8_next' _ _ _ _ xs _ (C_of_below HC.out bel) hx).mono ?_; rintro e w2 ⟨rfl, hb2⟩; obtain ⟨hc2, hf2⟩ := bcell hb2; have hz2 := below_size hb2; have y0 : w.heap.size < w2.heap.size := (by omega); have y1 : w.heap.size + 1 < w2.heap.size := (by omega); have y2 : w.heap.size + 1 + 1 < w2.heap.size := (by omega)))
    refine leaves_cons (f := 36) (args := #[.pointer (some ⟨w.heap.size + 1, 0, none⟩), .pointer (some ⟨w.heap.size + 1 + 1, 0, none⟩)]) (by simp) (by simp [go_sem]) ?_
    refine (caught_idle _ _ _).mono ?_
    rintro e u' w'' ⟨rfl, rfl, rfl⟩
    exact ⟨.tuple #[(nextC 2 s xs).val, .int .i64 0], rresults (rs := [.cell 6 45, .cell 7 25]) rfl (by simp) (.cell w.heap.size rfl (load_agg (t := 45) blk0 Try.underlying45 rfl (by kernel_rfl)) (.cell (w.heap.size + 1) rfl (load_one (t := 25) blk0 (by kernel_rfl)) .nil)), rfl, bel⟩
  · clear h hs hC
    have m1 := meth_next_3
    go_enter_defers Try.func22, Try.ntmps22
    go_wp2_with (first | (go_at_call 46; (with_reducible refine (in_ok _ _ H.out HS.out _).mono ?_); rintro e w1 ⟨rfl, hb1⟩; obtain ⟨hc1, hf1⟩ := bcell hb1; simp only [encV_1, encV_2, encV_3]; have hz1 := below_size hb1; simp at hz1; have z0 : w.heap.size < w1.heap.size := (by omega); have z1 : w.heap.size + 1 < w1.heap.size := (by omega); have z2 : w.heap.size + 1 + 1 < w1.heap.size := (by omega)) | (go_at_call 38; (with_reducible refine (few_ok _ hn2 _).mono ?_); rintro e w1 ⟨rfl, rfl⟩) | (show Calls Try.prog 82 #[_, _, _] _ _; refine (shift_next' _ hs01.out _ _ _ xs _ (C_of_below HC.out bel) hx).mono ?_; rintro e w2 ⟨rfl, hb2⟩; obtain ⟨hc2, hf2⟩ := bcell hb2; have hz2 := below_size hb2; have y0 : w.heap.size < w2.heap.size := (by omega); have y1 : w.heap.size + 1 < w2.heap.size := (by omega); have y2 : w.heap.size + 1 + 1 < w2.heap.size := (by omega)))
    refine leaves_cons (f := 36) (args := #[.pointer (some ⟨w.heap.size + 1, 0, none⟩), .pointer (some ⟨w.heap.size + 1 + 1, 0, none⟩)]) (by simp) (by simp [go_sem]) ?_
    refine (caught_idle _ _ _).mono ?_
    rintro e u' w'' ⟨rfl, rfl, rfl⟩
    exact ⟨.tuple #[(nextC 3 s xs).val, .int .i64 0], rresults (rs := [.cell 6 45, .cell 7 25]) rfl (by simp) (.cell w.heap.size rfl (load_agg (t := 45) blk0 Try.underlying45 rfl (by kernel_rfl)) (.cell (w.heap.size + 1) rfl (load_one (t := 25) blk0 (by kernel_rfl)) .nil)), rfl, bel⟩

theorem zero_step : (.tuple #[stepV 0 0 0 0, .int .i64 1] : Value) = .tuple #[stepV 0 0 0 0, .int .i64 1] := rfl
set_option maxHeartbeats 2000000 in
theorem Next_no1 (enc s : Int) (A : Option Addr) (n c : Nat) (w : World) (h : ¬ (encOk enc ∧ stOk enc s)) :
    Calls Try.prog 22 #[.int .i64 enc, .int .i64 s, .slice A n c] w fun r w' => r = .returned (.tuple #[stepV 0 0 0 0, .int .i64 1]) ∧ Below w.heap.size w w' := by
  have H : Hid (∀ w : World, Calls Try.prog 46 #[.int .i64 enc, .int .i64 s] w fun r w' => r = .panicked (failed 1 0) ∧ Below w.heap.size w w') := Lib.hid fun w => by
    by_cases h1 : encOk enc
    · exact in_no2 enc s h1 (fun h2 => h ⟨h1, h2⟩) w
    · exact in_no1 enc s h1 w
  clear h
  go_enter_defers Try.func22, Try.ntmps22
  go_wp2_with (go_at_call 46; (with_reducible refine (H.out _).mono ?_); rintro e w1 ⟨rfl, hb1⟩; obtain ⟨hc1, hf1⟩ := bcell hb1)
  have hz1 := below_size hb1
  simp at hz1
  refine leaves_cons (f := 36) (args := #[.pointer (some ⟨w.heap.size + 1, 0, none⟩), .pointer (some ⟨w.heap.size + 1 + 1, 0, none⟩)]) (by simp) (by simp [go_sem]) ?_
  refine (caught_panic (w.heap.size + 1) (w.heap.size + 1 + 1) 1 0 0 0 [] _ (BlkIs.one blk0) (BlkIs.one blk0) (by omega)).mono ?_
  rintro e u' w'' ⟨rfl, rfl, hch, hp, hq⟩
  have HCH := Lib.hid hch
  refine ⟨.tuple #[stepV 0 0 0 0, .int .i64 1], rresults (rs := [.cell 6 45, .cell 7 25]) rfl (by simp) (.cell w.heap.size rfl (load_agg (t := 45) blk0 Try.underlying45 rfl (by kernel_rfl)) (.cell (w.heap.size + 1) rfl (load_one (t := 25) blk0 (by kernel_rfl)) .nil)), rfl, below_chg bel hch (by omega)⟩

set_option maxHeartbeats 2000000 in
theorem Next_no2 (enc s : Int) (A : Option Addr) (n c : Nat) (w : World) (h : encOk enc) (hs : stOk enc s) (hn : ¬ n ≤ 20000) :
    Calls Try.prog 22 #[.int .i64 enc, .int .i64 s, .slice A n c] w fun r w' => r = .returned (.tuple #[stepV 0 0 0 0, .int .i64 2]) ∧ Below w.heap.size w w' := by
  have H := Lib.hid h
  have HS := Lib.hid hs
  have HN : Hid (20000 < (n : Int)) := Lib.hid (by omega)
  clear h hs hn
  go_enter_defers Try.func22, Try.ntmps22
  go_wp2_with (first | (go_at_call 46; (with_reducible refine (in_ok _ _ H.out HS.out _).mono ?_); rintro e w1 ⟨rfl, hb1⟩; obtain ⟨hc1, hf1⟩ := bcell hb1; have hz1 := below_size hb1; simp at hz1; have z0 : w.heap.size < w1.heap.size := (by omega); have z1 : w.heap.size + 1 < w1.heap.size := (by omega); have z2 : w.heap.size + 1 + 1 < w1.heap.size := (by omega)) | (go_at_call 38; (with_reducible refine (few_no _ HN.out _).mono ?_); rintro e w2 ⟨rfl, rfl⟩))
  refine leaves_cons (f := 36) (args := #[.pointer (some ⟨w.heap.size + 1, 0, none⟩), .pointer (some ⟨w.heap.size + 1 + 1, 0, none⟩)]) (by simp) (by simp [go_sem]) ?_
  refine (caught_panic (w.heap.size + 1) (w.heap.size + 1 + 1) 2 0 0 0 [] _ (BlkIs.one blk0) (BlkIs.one blk0) (by omega)).mono ?_
  rintro e u' w'' ⟨rfl, rfl, hch, hp, hq⟩
  refine ⟨.tuple #[stepV 0 0 0 0, .int .i64 2], rresults (rs := [.cell 6 45, .cell 7 25]) rfl (by simp) (.cell w.heap.size rfl (load_agg (t := 45) blk0 Try.underlying45 rfl (by kernel_rfl)) (.cell (w.heap.size + 1) rfl (load_one (t := 25) blk0 (by kernel_rfl)) .nil)), rfl, below_chg bel hch (by omega)⟩
end Go.Proofs.Ytcekghcejmhhaaa

namespace Go.Proofs.Ytcekghcejmhhaaa
open Go.RowKit Go.Proofs.YtcekghcejmhhaaaW.PrintWords Go.Proofs.YtcekghcejmhhaaaW.PrintLast Go.Proofs.YtcekghcejmhhaaaW.PrintMore
set_option maxRecDepth 100000

theorem turnC_len (a b : Int) : (turnC a b).length ≤ 1 := by
  unfold turnC
  split
  · simp
  · split <;> simp

set_option maxHeartbeats 1000000 in
theorem shift_put_a (s c : Int) (w : World) (h0 : 0 ≤ c) (h1 : c ≤ 127) : Calls Try.prog 83 #[.agg #[], .int .i64 s, .int .u32 c] w fun r w' => ∃ v, r = .returned (.tuple #[v, .int .i64 (putC 3 s c).2]) ∧ OwnI .u8 5 w.heap.size w' v (putC 3 s c).1 ∧ Below w.heap.size w w' := by
  have HE : Hid (putC 3 s c = (turnC s 0 ++ [c], 0)) := Lib.hid (by simp [putC, h1]; omega)
  have HL : Hid ((turnC s 0).length ≤ 1) := Lib.hid (turnC_len s 0)
  go_enter Try.func83, Try.ntmps83
  go_wp2_with (first | (go_at_call 43; (with_reducible refine (turn_any _ _ _).mono ?_); rintro e w1 ⟨v, rfl, hv, hb⟩) | (go_at_call 42; refine (joined_any (w0 := w) (xs := turnC s 0) (ys := [c]) bel (Kd.R_alloc (Kd.R_lower hv (by simp)) _) (fresh_src w1 _ rfl [c] _ (by simp [nums]) (by simp) (fun h => by have := own_lt_size hv h; omega)) (by simp) (by have := HL.out; simp; omega)).mono ?_; rintro e w2 ⟨v2, rfl, hv2, hb2⟩))
  go_ret2
  rw [HE.out]
  exact ⟨v2, rfl, hv2, hb2⟩

set_option maxHeartbeats 1000000 in
theorem shift_put_b (s c : Int) (w : World) (h0 : 19968 ≤ c) (h1 : c ≤ 28803) : Calls Try.prog 83 #[.agg #[], .int .i64 s, .int .u32 c] w fun r w' => ∃ v, r = .returned (.tuple #[v, .int .i64 (putC 3 s c).2]) ∧ OwnI .u8 5 w.heap.size w' v (putC 3 s c).1 ∧ Below w.heap.size w w' := by
  have HE : Hid (putC 3 s c = (turnC s 1 ++ [33 + (c - 19968) / 94, 33 + (c - 19968) % 94], 1)) := Lib.hid (by rw [putC, if_neg (by omega), if_neg (by omega), if_neg (by omega)])
  have HL : Hid ((turnC s 1).length ≤ 1) := Lib.hid (turnC_len s 1)
  have hd : decide (c ≤ 127) = false := by simp; omega
  go_enter Try.func83, Try.ntmps83
  go_wp2_with (first | (go_at_call 43; (with_reducible refine (turn_any _ _ _).mono ?_); rintro e w1 ⟨v, rfl, hv, hb⟩) | (go_at_call 42; refine (joined_any (w0 := w) (xs := turnC s 1) (ys := [33 + (c - 19968) / 94, 33 + (c - 19968) % 94]) bel (Kd.R_alloc (Kd.R_lower hv (by simp)) _) (fresh_src w1 _ rfl [33 + (c - 19968) / 94, 33 + (c - 19968) % 94] _ (by simp [nums]) (by simp) (fun h => by have := own_lt_size hv h; omega)) (by simp) (by have := HL.out; simp; omega)).mono ?_; rintro e w2 ⟨v2, rfl, hv2, hb2⟩))
  go_ret2
  rw [HE.out]
  exact ⟨v2, rfl, hv2, hb2⟩

theorem shift_put (s c : Int) (w : World) (h0 : 0 ≤ c) (hc : hasC 3 c = true) : Calls Try.prog 83 #[.agg #[], .int .i64 s, .int .u32 c] w fun r w' => ∃ v, r = .returned (.tuple #[v, .int .i64 (putC 3 s c).2]) ∧ OwnI .u8 5 w.heap.size w' v (putC 3 s c).1 ∧ Below w.heap.size w w' := by
  simp [hasC] at hc
  by_cases h : c ≤ 127
  · exact shift_put_a s c w h0 h
  · exact shift_put_b s c w (by omega) (by omega)

theorem utf8_has_le {c : Int} (hc : hasC 2 c = true) : c ≤ 1114111 := by simp [hasC] at hc; omega
theorem utf8_put' (s c : Int) (w : World) (h0 : 0 ≤ c) (hc : hasC 2 c = true) : Calls Try.prog 76 #[.agg #[], .int .i64 s, .int .u32 c] w fun r w' => ∃ v, r = .returned (.tuple #[v, .int .i64 (putC 2 s c).2]) ∧ OwnI .u8 5 w.heap.size w' v (putC 2 s c).1 ∧ Below w.heap.size w w' := utf8_put s c w h0 (utf8_has_le hc)
theorem octets_put' (s c : Int) (w : World) (_h0 : 0 ≤ c) (_hc : hasC 1 c = true) : Calls Try.prog 70 #[.agg #[], .int .i64 s, .int .u32 c] w fun r w' => ∃ v, r = .returned (.tuple #[v, .int .i64 (putC 1 s c).2]) ∧ OwnI .u8 5 w.heap.size w' v (putC 1 s c).1 ∧ Below w.heap.size w w' := octets_put s c w
theorem putC_len (enc s c : Int) : (putC enc s c).1.length ≤ 4 := by
  have h1 := turnC_len s 0
  have h2 := turnC_len s 1
  unfold putC
  split
  · simp
  · split
    · split
      · simp
      · split
        · simp
        · split <;> simp
    · split <;> simp <;> omega
end Go.Proofs.Ytcekghcejmhhaaa

namespace Go.Proofs.Ytcekghcejmhhaaa
open Go.RowKit Go.Proofs.YtcekghcejmhhaaaW.PrintWords Go.Proofs.YtcekghcejmhhaaaW.PrintLast Go.Proofs.YtcekghcejmhhaaaW.PrintMore
set_option maxRecDepth 100000

/-- Numbers of 32 bits. -/
def U32s (xs : List Int) : Prop := ∀ i, 0 ≤ xs.getD i 0 ∧ xs.getD i 0 < 4294967296

/-- The loop of 'encoded', after k characters. -/
def EncRel (enc : Int) (l : List Int) (w0 w : World) (vb vs vi : Value) : Prop :=
  ∃ (k : Nat) (st : Int) (bs : List Int), k ≤ l.length ∧ vi = .int .i64 k ∧ vs = .int .i64 st ∧ OwnI .u8 5 w0.heap.size w vb bs ∧ Below w0.heap.size w0 w ∧ bs.length ≤ 4 * k ∧
    encLoop enc 0 0 l = (bs ++ (encLoop enc st k (l.drop k)).1, (encLoop enc st k (l.drop k)).2)

theorem encLoop_yes {enc st : Int} {k : Nat} {c : Int} {t : List Int} (h : hasC enc c = true) : encLoop enc st k (c :: t) = ((putC enc st c).1 ++ (encLoop enc (putC enc st c).2 (k + 1 : Nat) t).1, (encLoop enc (putC enc st c).2 (k + 1 : Nat) t).2) := by
  rw [encLoop, if_pos h]; push_cast; rfl
theorem encLoop_no {enc st i : Int} {c : Int} {t : List Int} (h : ¬ hasC enc c = true) : encLoop enc st i (c :: t) = ([], st, some i) := by
  rw [encLoop, if_neg h]

def EncPost (enc : Int) (l : List Int) (w : World) (r : Ending) (w' : World) : Prop :=
  Below w.heap.size w w' ∧ (((encodedC enc l).2.1 = 0 ∧ ∃ v, r = .returned v ∧ OwnI .u8 5 w.heap.size w' v (encodedC enc l).1) ∨ ((encodedC enc l).2.1 ≠ 0 ∧ r = .panicked (failed (encodedC enc l).2.1 (encodedC enc l).2.2)))

theorem EncRel.next {enc : Int} {l : List Int} {w0 w4 : World} {k : Nat} {st x : Int} {bs : List Int} {v4 : Value} (hk : k < l.length) (hd : l.drop k = x :: l.drop (k + 1)) (hh : hasC enc x = true) (hbl : bs.length ≤ 4 * k)
    (hr : encLoop enc 0 0 l = (bs ++ (encLoop enc st k (l.drop k)).1, (encLoop enc st k (l.drop k)).2)) (hv : OwnI .u8 5 w0.heap.size w4 v4 (bs ++ (putC enc st x).1)) (hb : Below w0.heap.size w0 w4) :
    EncRel enc l w0 w4 v4 (.int .i64 (putC enc st x).2) (.int .i64 (k + 1)) := by
  refine ⟨k + 1, (putC enc st x).2, _, by omega, rfl, rfl, hv, hb, ?_, ?_⟩
  · have := putC_len enc st x
    simp; omega
  · rw [hr, hd, encLoop_yes hh]; simp [List.append_assoc]
theorem encodedC_no {enc : Int} {l : List Int} {k : Nat} {st x : Int} {bs : List Int} (hd : l.drop k = x :: l.drop (k + 1)) (hh : ¬ hasC enc x = true)
    (hr : encLoop enc 0 0 l = (bs ++ (encLoop enc st k (l.drop k)).1, (encLoop enc st k (l.drop k)).2)) : encodedC enc l = ([], 15, (k : Int)) := by
  unfold encodedC
  rw [hr, hd, encLoop_no hh]
theorem encodedC_end {enc : Int} {l : List Int} {k : Nat} {st : Int} {bs : List Int} (hk : l.length ≤ k)
    (hr : encLoop enc 0 0 l = (bs ++ (encLoop enc st k (l.drop k)).1, (encLoop enc st k (l.drop k)).2)) : encodedC enc l = if 20000 < (bs ++ turnC st 0).length then ([], 2, 0) else (bs ++ turnC st 0, 0, 0) := by
  unfold encodedC
  rw [hr, List.drop_eq_nil_of_le hk]
  simp [encLoop]

set_option maxHeartbeats 4000000 in
theorem encoded_1 (enc : Int) (h : enc = 1) (A : Option Addr) (n c : Nat) (l : List Int) (w : World) (hn : n ≤ 20000) (hC : Kd.C (Kd.int .u32) w A n l) (hx : U32s l) :
    Calls Try.prog 39 #[.iface 100 (.agg #[]), .slice A n c] w (EncPost enc l w) := by
  have hl : l.length = n := hC.1
  have HL := Lib.hid hl
  have HC := Lib.hid hC
  have HX := Lib.hid hx
  have H0 : Hid (EncRel enc l w w (.slice none 0 0) (.int .i64 0) (.int .i64 0)) := Lib.hid ⟨0, 0, [], Nat.zero_le _, rfl, rfl, Kd.R_nil _ _ _ _ _, Below.refl _ _, by simp, by simp⟩
  subst h
  clear hl hC hx
  have m1 := meth_has_1
  have m2 := meth_put_1
  go_enter Try.func39, Try.ntmps39
  go_wp2
  go_loopw [5, 6, 12] (fun vb vs vi wr => EncRel 1 l w wr vb vs vi) (fun _ _ vi _ => n - (intOf vi).toNat)
  case atStart => exact H0.out
  case round =>
    obtain ⟨k, st, bs, hk, rfl, rfl, hv, hbw, hbl, hr⟩ := hrel
    have HR := Lib.hid hr
    have HV := Lib.hid hv
    have HLK := Lib.hid hk
    clear hr hv hk
    by_cases hkn : k < n
    · obtain ⟨b, off, rfl, hlt, hcs⟩ := open_C (C_of_below HC.out hbw) (by omega)
      have hcell := hcs k hkn
      clear hcs
      obtain ⟨xa, xb⟩ := HX.out k
      have hR2 : l.drop k = l.getD k 0 :: l.drop (k + 1) := by
        have := HL.out
        rw [List.drop_eq_getElem_cons (by omega), List.getD_eq_getElem?_getD, List.getElem?_eq_getElem (by omega)]; rfl
      have HR2 := Lib.hid hR2
      clear hR2
      generalize l.getD k 0 = x at *
      by_cases hh : hasC 1 x = true
      · have HH := Lib.hid hh
        go_wp2_with (first | (go_at_call 41; (with_reducible refine (need_true _ _ _).mono ?_); rintro e w3 ⟨rfl, rfl⟩) | (with_reducible show Calls Try.prog 68 #[_, _] _ _; (with_reducible refine (octets_has _ _).mono ?_); rintro e w1 ⟨rfl, hb⟩; obtain ⟨hc, hf⟩ := bcell hb) | (with_reducible show Calls Try.prog 74 #[_, _] _ _; (with_reducible refine (utf8_has _ _).mono ?_); rintro e w1 ⟨rfl, hb⟩; obtain ⟨hc, hf⟩ := bcell hb) | (with_reducible show Calls Try.prog 81 #[_, _] _ _; (with_reducible refine (shift_has _ _).mono ?_); rintro e w1 ⟨rfl, hb⟩; obtain ⟨hc, hf⟩ := bcell hb) | (with_reducible show Calls Try.prog 70 #[_, _, _] _ _; refine (octets_put' _ _ _ xa HH.out).mono ?_; rintro e w2 ⟨v2, rfl, hv2, hb2⟩; obtain ⟨A2, c2, rfl, hle2, _⟩ := Kd.R_reads hv2) | (with_reducible show Calls Try.prog 76 #[_, _, _] _ _; refine (utf8_put' _ _ _ xa HH.out).mono ?_; rintro e w2 ⟨v2, rfl, hv2, hb2⟩; obtain ⟨A2, c2, rfl, hle2, _⟩ := Kd.R_reads hv2) | (with_reducible show Calls Try.prog 83 #[_, _, _] _ _; refine (shift_put _ _ _ xa HH.out).mono ?_; rintro e w2 ⟨v2, rfl, hv2, hb2⟩; obtain ⟨A2, c2, rfl, hle2, _⟩ := Kd.R_reads hv2))
        refine (joined_any (w0 := w) (xs := bs) (ys := (putC 1 st x).1) bel (Kd.R_below HV.out (below_step hb hb2)) (own_src hv2 (fun j hj he => by have := own_lt_size HV.out he; have := below_size hb; omega)) hle2 (by have := putC_len 1 st x; omega)).mono ?_
        rintro e w4 ⟨v4, rfl, hv4, hb4⟩
        go_wp2
        exact ⟨EncRel.next (by have := HL.out; omega) HR2.out HH.out hbl HR.out hv4 hb4, by simp [intOf]; omega⟩
      · have hh2 : hasC 1 x = false := by simpa using hh
        have HH := Lib.hid hh
        clear hh
        go_wp2_with (first | (go_at_call 41; (with_reducible refine (need_false _ _ _).mono ?_); rintro e w3 ⟨rfl, rfl⟩) | (with_reducible show Calls Try.prog 68 #[_, _] _ _; (with_reducible refine (octets_has _ _).mono ?_); rintro e w1 ⟨rfl, hb⟩; obtain ⟨hc, hf⟩ := bcell hb) | (with_reducible show Calls Try.prog 74 #[_, _] _ _; (with_reducible refine (utf8_has _ _).mono ?_); rintro e w1 ⟨rfl, hb⟩; obtain ⟨hc, hf⟩ := bcell hb) | (with_reducible show Calls Try.prog 81 #[_, _] _ _; (with_reducible refine (shift_has _ _).mono ?_); rintro e w1 ⟨rfl, hb⟩; obtain ⟨hc, hf⟩ := bcell hb))
        have he := encodedC_no HR2.out HH.out HR.out
        exact ⟨rfl, bel, .inr ⟨by rw [he]; simp, by rw [he]⟩⟩
    · have hkk : l.length ≤ k := by have := HL.out; omega
      have HE := Lib.hid (encodedC_end hkk HR.out)
      clear hkk
      go_wp2_with (go_at_call 43; (with_reducible refine (turn_any _ _ _).mono ?_); rintro e w2 ⟨v2, rfl, hv2, hb2⟩; obtain ⟨A2, c2, rfl, hle2, _⟩ := Kd.R_reads hv2)
      refine (joined_any (w0 := w) (xs := bs) (ys := turnC st 0) bel (Kd.R_below HV.out hb2) (own_src hv2 (fun j hj he => by have := own_lt_size HV.out he; omega)) hle2 (by have := turnC_len st 0; have := HLK.out; have := HL.out; omega)).mono ?_
      rintro e w4 ⟨v4, rfl, hv4, hb4⟩
      obtain ⟨A4, c4, rfl, hle4, _⟩ := Kd.R_reads hv4
      have HV4 := Lib.hid hv4
      clear hv4
      by_cases h2 : 20000 < (bs ++ turnC st 0).length
      · have h3 : 20000 < (((bs ++ turnC st 0).length : Nat) : Int) := by omega
        have H2 := Lib.hid h2
        clear h2
        generalize (bs ++ turnC st 0).length = m at *
        go_wp2_with (go_at_call 38; (with_reducible refine (few_no _ h3 _).mono ?_); rintro e w5 ⟨rfl, rfl⟩)
        have he : encodedC 1 l = ([], 2, 0) := by rw [HE.out, if_pos H2.out]
        exact ⟨rfl, hb4, .inr ⟨by rw [he]; simp, by rw [he]⟩⟩
      · have h3 : (((bs ++ turnC st 0).length : Nat) : Int) ≤ 20000 := by omega
        have H2 := Lib.hid h2
        clear h2
        have he : encodedC 1 l = (bs ++ turnC st 0, 0, 0) := by rw [HE.out, if_neg H2.out]
        have HE2 := Lib.hid he
        clear he
        generalize (bs ++ turnC st 0).length = m at *
        go_wp2_with (go_at_call 38; (with_reducible refine (few_ok _ h3 _).mono ?_); rintro e w5 ⟨rfl, rfl⟩)
        go_ret
        have he := HE2.out
        exact ⟨hb4, .inl ⟨by rw [he], _, rfl, by rw [he]; exact HV4.out⟩⟩

set_option maxHeartbeats 4000000 in
theorem encoded_2 (enc : Int) (h : enc = 2) (A : Option Addr) (n c : Nat) (l : List Int) (w : World) (hn : n ≤ 20000) (hC : Kd.C (Kd.int .u32) w A n l) (hx : U32s l) :
    Calls Try.prog 39 #[.iface 101 (.agg #[]), .slice A n c] w (EncPost enc l w) := by
  have hl : l.length = n := hC.1
  have HL := Lib.hid hl
  have HC := Lib.hid hC
  have HX := Lib.hid hx
  have H0 : Hid (EncRel enc l w w (.slice none 0 0) (.int .i64 0) (.int .i64 0)) := Lib.hid ⟨0, 0, [], Nat.zero_le _, rfl, rfl, Kd.R_nil _ _ _ _ _, Below.refl _ _, by simp, by simp⟩
  subst h
  clear hl hC hx
  have m1 := meth_has_2
  have m2 := meth_put_2
  go_enter Try.func39, Try.ntmps39
  go_wp2
  go_loopw [5, 6, 12] (fun vb vs vi wr => EncRel 2 l w wr vb vs vi) (fun _ _ vi _ => n - (intOf vi).toNat)
  case atStart => exact H0.out
  case round =>
    obtain ⟨k, st, bs, hk, rfl, rfl, hv, hbw, hbl, hr⟩ := hrel
    have HR := Lib.hid hr
    have HV := Lib.hid hv
    have HLK := Lib.hid hk
    clear hr hv hk
    by_cases hkn : k < n
    · obtain ⟨b, off, rfl, hlt, hcs⟩ := open_C (C_of_below HC.out hbw) (by omega)
      have hcell := hcs k hkn
      clear hcs
      obtain ⟨xa, xb⟩ := HX.out k
      have hR2 : l.drop k = l.getD k 0 :: l.drop (k + 1) := by
        have := HL.out
        rw [List.drop_eq_getElem_cons (by omega), List.getD_eq_getElem?_getD, List.getElem?_eq_getElem (by omega)]; rfl
      have HR2 := Lib.hid hR2
      clear hR2
      generalize l.getD k 0 = x at *
      by_cases hh : hasC 2 x = true
      · have HH := Lib.hid hh
        go_wp2_with (first | (go_at_call 41; (with_reducible refine (need_true _ _ _).mono ?_); rintro e w3 ⟨rfl, rfl⟩) | (with_reducible show Calls Try.prog 68 #[_, _] _ _; (with_reducible refine (octets_has _ _).mono ?_); rintro e w1 ⟨rfl, hb⟩; obtain ⟨hc, hf⟩ := bcell hb) | (with_reducible show Calls Try.prog 74 #[_, _] _ _; (with_reducible refine (utf8_has _ _).mono ?_); rintro e w1 ⟨rfl, hb⟩; obtain ⟨hc, hf⟩ := bcell hb) | (with_reducible show Calls Try.prog 81 #[_, _] _ _; (with_reducible refine (shift_has _ _).mono ?_); rintro e w1 ⟨rfl, hb⟩; obtain ⟨hc, hf⟩ := bcell hb) | (with_reducible show Calls Try.prog 70 #[_, _, _] _ _; refine (octets_put' _ _ _ xa HH.out).mono ?_; rintro e w2 ⟨v2, rfl, hv2, hb2⟩; obtain ⟨A2, c2, rfl, hle2, _⟩ := Kd.R_reads hv2) | (with_reducible show Calls Try.prog 76 #[_, _, _] _ _; refine (utf8_put' _ _ _ xa HH.out).mono ?_; rintro e w2 ⟨v2, rfl, hv2, hb2⟩; obtain ⟨A2, c2, rfl, hle2, _⟩ := Kd.R_reads hv2) | (with_reducible show Calls Try.prog 83 #[_, _, _] _ _; refine (shift_put _ _ _ xa HH.out).mono ?_; rintro e w2 ⟨v2, rfl, hv2, hb2⟩; obtain ⟨A2, c2, rfl, hle2, _⟩ := Kd.R_reads hv2))
        refine (joined_any (w0 := w) (xs := bs) (ys := (putC 2 st x).1) bel (Kd.R_below HV.out (below_step hb hb2)) (own_src hv2 (fun j hj he => by have := own_lt_size HV.out he; have := below_size hb; omega)) hle2 (by have := putC_len 2 st x; omega)).mono ?_
        rintro e w4 ⟨v4, rfl, hv4, hb4⟩
        go_wp2
        exact ⟨EncRel.next (by have := HL.out; omega) HR2.out HH.out hbl HR.out hv4 hb4, by simp [intOf]; omega⟩
      · have hh2 : hasC 2 x = false := by simpa using hh
        have HH := Lib.hid hh
        clear hh
        go_wp2_with (first | (go_at_call 41; (with_reducible refine (need_false _ _ _).mono ?_); rintro e w3 ⟨rfl, rfl⟩) | (with_reducible show Calls Try.prog 68 #[_, _] _ _; (with_reducible refine (octets_has _ _).mono ?_); rintro e w1 ⟨rfl, hb⟩; obtain ⟨hc, hf⟩ := bcell hb) | (with_reducible show Calls Try.prog 74 #[_, _] _ _; (with_reducible refine (utf8_has _ _).mono ?_); rintro e w1 ⟨rfl, hb⟩; obtain ⟨hc, hf⟩ := bcell hb) | (with_reducible show Calls Try.prog 81 #[_, _] _ _; (with_reducible refine (shift_has _ _).mono ?_); rintro e w1 ⟨rfl, hb⟩; obtain ⟨hc, hf⟩ := bcell hb))
        have he := encodedC_no HR2.out HH.out HR.out
        exact ⟨rfl, bel, .inr ⟨by rw [he]; simp, by rw [he]⟩⟩
    · have hkk : l.length ≤ k := by have := HL.out; omega
      have HE := Lib.hid (encodedC_end hkk HR.out)
      clear hkk
      go_wp2_with (go_at_call 43; (with_reducible refine (turn_any _ _ _).mono ?_); rintro e w2 ⟨v2, rfl, hv2, hb2⟩; obtain ⟨A2, c2, rfl, hle2, _⟩ := Kd.R_reads hv2)
      refine (joined_any (w0 := w) (xs := bs) (ys := turnC st 0) bel (Kd.R_below HV.out hb2) (own_src hv2 (fun j hj he => by have := own_lt_size HV.out he; omega)) hle2 (by have := turnC_len st 0; have := HLK.out; have := HL.out; omega)).mono ?_
      rintro e w4 ⟨v4, rfl, hv4, hb4⟩
      obtain ⟨A4, c4, rfl, hle4, _⟩ := Kd.R_reads hv4
      have HV4 := Lib.hid hv4
      clear hv4
      by_cases h2 : 20000 < (bs ++ turnC st 0).length
      · have h3 : 20000 < (((bs ++ turnC st 0).length : Nat) : Int) := by omega
        have H2 := Lib.hid h2
        clear h2
        generalize (bs ++ turnC st 0).length = m at *
        go_wp2_with (go_at_call 38; (with_reducible refine (few_no _ h3 _).mono ?_); rintro e w5 ⟨rfl, rfl⟩)
        have he : encodedC 2 l = ([], 2, 0) := by rw [HE.out, if_pos H2.out]
        exact ⟨rfl, hb4, .inr ⟨by rw [he]; simp, by rw [he]⟩⟩
      · have h3 : (((bs ++ turnC st 0).length : Nat) : Int) ≤ 20000 := by omega
        have H2 := Lib.hid h2
        clear h2
        have he : encodedC 2 l = (bs ++ turnC st 0, 0, 0) := by rw [HE.out, if_neg H2.out]
        have HE2 := Lib.hid he
        clear he
        generalize (bs ++ turnC st 0).length = m at *
        go_wp2_with (go_at_call 38; (with_reducible refine (few_ok _ h3 _).mono ?_); rintro e w5 ⟨rfl, rfl⟩)
        go_ret
        have he := HE2.out
        exact ⟨hb4, .inl ⟨by rw [he], _, rfl, by rw [he]; exact HV4.out⟩⟩

set_option maxHeartbeats 4000000 in
theorem encoded_3 (enc : Int) (h : enc = 3) (A : Option Addr) (n c : Nat) (l : List Int) (w : World) (hn : n ≤ 20000) (hC : Kd.C (Kd.int .u32) w A n l) (hx : U32s l) :
    Calls Try.prog 39 #[.iface 102 (.agg #[]), .slice A n c] w (EncPost enc l w) := by
  have hl : l.length = n := hC.1
  have HL := Lib.hid hl
  have HC := Lib.hid hC
  have HX := Lib.hid hx
  have H0 : Hid (EncRel enc l w w (.slice none 0 0) (.int .i64 0) (.int .i64 0)) := Lib.hid ⟨0, 0, [], Nat.zero_le _, rfl, rfl, Kd.R_nil _ _ _ _ _, Below.refl _ _, by simp, by simp⟩
  subst h
  clear hl hC hx
  have m1 := meth_has_3
  have m2 := meth_put_3
  go_enter Try.func39, Try.ntmps39
  go_wp2
  go_loopw [5, 6, 12] (fun vb vs vi wr => EncRel 3 l w wr vb vs vi) (fun _ _ vi _ => n - (intOf vi).toNat)
  case atStart => exact H0.out
  case round =>
    obtain ⟨k, st, bs, hk, rfl, rfl, hv, hbw, hbl, hr⟩ := hrel
    have HR := Lib.hid hr
    have HV := Lib.hid hv
    have HLK := Lib.hid hk
    clear hr hv hk
    by_cases hkn : k < n
    · obtain ⟨b, off, rfl, hlt, hcs⟩ := open_C (C_of_below HC.out hbw) (by omega)
      have hcell := hcs k hkn
      clear hcs
      obtain ⟨xa, xb⟩ := HX.out k
      have hR2 : l.drop k = l.getD k 0 :: l.drop (k + 1) := by
        have := HL.out
        rw [List.drop_eq_getElem_cons (by omega), List.getD_eq_getElem?_getD, List.getElem?_eq_getElem (by omega)]; rfl
      have HR2 := Lib.hid hR2
      clear hR2
      generalize l.getD k 0 = x at *
      by_cases hh : hasC 3 x = true
      · have HH := Lib.hid hh
        go_wp2_with (first | (go_at_call 41; (with_reducible refine (need_true _ _ _).mono ?_); rintro e w3 ⟨rfl, rfl⟩) | (with_reducible show Calls Try.prog 68 #[_, _] _ _; (with_reducible refine (octets_has _ _).mono ?_); rintro e w1 ⟨rfl, hb⟩; obtain ⟨hc, hf⟩ := bcell hb) | (with_reducible show Calls Try.prog 74 #[_, _] _ _; (with_reducible refine (utf8_has _ _).mono ?_); rintro e w1 ⟨rfl, hb⟩; obtain ⟨hc, hf⟩ := bcell hb) | (with_reducible show Calls Try.prog 81 #[_, _] _ _; (with_reducible refine (shift_has _ _).mono ?_); rintro e w1 ⟨rfl, hb⟩; obtain ⟨hc, hf⟩ := bcell hb) | (with_reducible show Calls Try.prog 70 #[_, _, _] _ _; refine (octets_put' _ _ _ xa HH.out).mono ?_; rintro e w2 ⟨v2, rfl, hv2, hb2⟩; obtain ⟨A2, c2, rfl, hle2, _⟩ := Kd.R_reads hv2) | (with_reducible show Calls Try.prog 76 #[_, _, _] _ _; refine (utf8_put' _ _ _ xa HH.out).mono ?_; rintro e w2 ⟨v2, rfl, hv2, hb2⟩; obtain ⟨A2, c2, rfl, hle2, _⟩ := Kd.R_reads hv2) | (with_reducible show Calls Try.prog 83 #[_, _, _] _ _; refine (shift_put _ _ _ xa HH.out).mono ?_; rintro e w2 ⟨v2, rfl, hv2, hb2⟩; obtain ⟨A2, c2, rfl, hle2, _⟩ := Kd.R_reads hv2))
        refine (joined_any (w0 := w) (xs := bs) (ys := (putC 3 st x).1) bel (Kd.R_below HV.out (below_step hb hb2)) (own_src hv2 (fun j hj he => by have := own_lt_size HV.out he; have := below_size hb; omega)) hle2 (by have := putC_len 3 st x; omega)).mono ?_
        rintro e w4 ⟨v4, rfl, hv4, hb4⟩
        go_wp2
        exact ⟨EncRel.next (by have := HL.out; omega) HR2.out HH.out hbl HR.out hv4 hb4, by simp [intOf]; omega⟩
      · have hh2 : hasC 3 x = false := by simpa using hh
        have HH := Lib.hid hh
        clear hh
        go_wp2_with (first | (go_at_call 41; (with_reducible refine (need_false _ _ _).mono ?_); rintro e w3 ⟨rfl, rfl⟩) | (with_reducible show Calls Try.prog 68 #[_, _] _ _; (with_reducible refine (octets_has _ _).mono ?_); rintro e w1 ⟨rfl, hb⟩; obtain ⟨hc, hf⟩ := bcell hb) | (with_reducible show Calls Try.prog 74 #[_, _] _ _; (with_reducible refine (utf8_has _ _).mono ?_); rintro e w1 ⟨rfl, hb⟩; obtain ⟨hc, hf⟩ := bcell hb) | (with_reducible show Calls Try.prog 81 #[_, _] _ _; (with_reducible refine (shift_has _ _).mono ?_); rintro e w1 ⟨rfl, hb⟩; obtain ⟨hc, hf⟩ := bcell hb))
        have he := encodedC_no HR2.out HH.out HR.out
        exact ⟨rfl, bel, .inr ⟨by rw [he]; simp, by rw [he]⟩⟩
    · have hkk : l.length ≤ k := by have := HL.out; omega
      have HE := Lib.hid (encodedC_end hkk HR.out)
      clear hkk
      go_wp2_with (go_at_call 43; (with_reducible refine (turn_any _ _ _).mono ?_); rintro e w2 ⟨v2, rfl, hv2, hb2⟩; obtain ⟨A2, c2, rfl, hle2, _⟩ := Kd.R_reads hv2)
      refine (joined_any (w0 := w) (xs := bs) (ys := turnC st 0) bel (Kd.R_below HV.out hb2) (own_src hv2 (fun j hj he => by have := own_lt_size HV.out he; omega)) hle2 (by have := turnC_len st 0; have := HLK.out; have := HL.out; omega)).mono ?_
      rintro e w4 ⟨v4, rfl, hv4, hb4⟩
      obtain ⟨A4, c4, rfl, hle4, _⟩ := Kd.R_reads hv4
      have HV4 := Lib.hid hv4
      clear hv4
      by_cases h2 : 20000 < (bs ++ turnC st 0).length
      · have h3 : 20000 < (((bs ++ turnC st 0).length : Nat) : Int) := by omega
        have H2 := Lib.hid h2
        clear h2
        generalize (bs ++ turnC st 0).length = m at *
        go_wp2_with (go_at_call 38; (with_reducible refine (few_no _ h3 _).mono ?_); rintro e w5 ⟨rfl, rfl⟩)
        have he : encodedC 3 l = ([], 2, 0) := by rw [HE.out, if_pos H2.out]
        exact ⟨rfl, hb4, .inr ⟨by rw [he]; simp, by rw [he]⟩⟩
      · have h3 : (((bs ++ turnC st 0).length : Nat) : Int) ≤ 20000 := by omega
        have H2 := Lib.hid h2
        clear h2
        have he : encodedC 3 l = (bs ++ turnC st 0, 0, 0) := by rw [HE.out, if_neg H2.out]
        have HE2 := Lib.hid he
        clear he
        generalize (bs ++ turnC st 0).length = m at *
        go_wp2_with (go_at_call 38; (with_reducible refine (few_ok _ h3 _).mono ?_); rintro e w5 ⟨rfl, rfl⟩)
        go_ret
        have he := HE2.out
        exact ⟨hb4, .inl ⟨by rw [he], _, rfl, by rw [he]; exact HV4.out⟩⟩

end Go.Proofs.Ytcekghcejmhhaaa

namespace Go.Proofs.Ytcekghcejmhhaaa
open Go.RowKit Go.Proofs.YtcekghcejmhhaaaW.PrintWords Go.Proofs.YtcekghcejmhhaaaW.PrintLast Go.Proofs.YtcekghcejmhhaaaW.PrintMore
set_option maxRecDepth 100000

set_option maxHeartbeats 1000000 in
theorem passed_1 (A : Option Addr) (n c : Nat) (xs : List Int) (w : World) (hC : Kd.C (Kd.int .u8) w A n xs) :
    Calls Try.prog 51 #[.iface 100 (.agg #[]), .slice A n c] w fun r w' => r = .returned (.bool (passedC 1 xs)) ∧ Below w.heap.size w w' := by
  have hl : xs.length = n := hC.1
  have HE : Hid (passedC 1 xs = ((n : Int) == 0)) := Lib.hid (by cases xs <;> simp [passedC] at hl ⊢ <;> omega)
  have m1 := meth_states_1
  clear hC hl
  go_enter Try.func51, Try.ntmps51
  go_wp2_with (first | (with_reducible show Calls Try.prog 71 #[_] _ _; (with_reducible refine (octets_states _).mono ?_); rintro e w1 ⟨rfl, hb⟩; obtain ⟨hc, hf⟩ := bcell hb) | (with_reducible show Calls Try.prog 77 #[_] _ _; (with_reducible refine (utf8_states _).mono ?_); rintro e w1 ⟨rfl, hb⟩; obtain ⟨hc, hf⟩ := bcell hb) | (with_reducible show Calls Try.prog 84 #[_] _ _; (with_reducible refine (shift_states _).mono ?_); rintro e w1 ⟨rfl, hb⟩; obtain ⟨hc, hf⟩ := bcell hb))
  go_ret
  exact ⟨by rw [HE.out]; rfl, bel⟩
set_option maxHeartbeats 1000000 in
theorem passed_2 (A : Option Addr) (n c : Nat) (xs : List Int) (w : World) (hC : Kd.C (Kd.int .u8) w A n xs) :
    Calls Try.prog 51 #[.iface 101 (.agg #[]), .slice A n c] w fun r w' => r = .returned (.bool (passedC 2 xs)) ∧ Below w.heap.size w w' := by
  have hl : xs.length = n := hC.1
  have HE : Hid (passedC 2 xs = ((n : Int) == 0)) := Lib.hid (by cases xs <;> simp [passedC] at hl ⊢ <;> omega)
  have m1 := meth_states_2
  clear hC hl
  go_enter Try.func51, Try.ntmps51
  go_wp2_with (first | (with_reducible show Calls Try.prog 71 #[_] _ _; (with_reducible refine (octets_states _).mono ?_); rintro e w1 ⟨rfl, hb⟩; obtain ⟨hc, hf⟩ := bcell hb) | (with_reducible show Calls Try.prog 77 #[_] _ _; (with_reducible refine (utf8_states _).mono ?_); rintro e w1 ⟨rfl, hb⟩; obtain ⟨hc, hf⟩ := bcell hb) | (with_reducible show Calls Try.prog 84 #[_] _ _; (with_reducible refine (shift_states _).mono ?_); rintro e w1 ⟨rfl, hb⟩; obtain ⟨hc, hf⟩ := bcell hb))
  go_ret
  exact ⟨by rw [HE.out]; rfl, bel⟩

def PassRel (xs : List Int) (S : Bool) (w0 w : World) (vi : Value) : Prop := ∃ k : Nat, k ≤ xs.length ∧ vi = .int .i64 k ∧ passedC 3 (xs.drop k) = S ∧ Below w0.heap.size w0 w
theorem passedC_cons (x : Int) (t : List Int) : passedC 3 (x :: t) = if x = 14 then passedC 3 t else if x = 15 then passedC 3 t else false := by
  by_cases h1 : x = 14
  · simp [passedC, h1]
  · by_cases h2 : x = 15 <;> simp [passedC, h1, h2]

set_option maxHeartbeats 2000000 in
theorem passed_3 (A : Option Addr) (n c : Nat) (xs : List Int) (w : World) (hC : Kd.C (Kd.int .u8) w A n xs) :
    Calls Try.prog 51 #[.iface 102 (.agg #[]), .slice A n c] w fun r w' => r = .returned (.bool (passedC 3 xs)) ∧ Below w.heap.size w w' := by
  have hl : xs.length = n := hC.1
  have hm : n ≤ 9223372036854775807 := hC.2.1
  obtain ⟨S, hS⟩ : ∃ S, passedC 3 xs = S := ⟨_, rfl⟩
  rw [hS]
  have HL := Lib.hid hl
  have HC := Lib.hid hC
  have HS := Lib.hid hS
  have m1 := meth_states_3
  clear hC hl hS
  go_enter Try.func51, Try.ntmps51
  go_wp2_with (first | (with_reducible show Calls Try.prog 71 #[_] _ _; (with_reducible refine (octets_states _).mono ?_); rintro e w1 ⟨rfl, hb⟩; obtain ⟨hc, hf⟩ := bcell hb) | (with_reducible show Calls Try.prog 77 #[_] _ _; (with_reducible refine (utf8_states _).mono ?_); rintro e w1 ⟨rfl, hb⟩; obtain ⟨hc, hf⟩ := bcell hb) | (with_reducible show Calls Try.prog 84 #[_] _ _; (with_reducible refine (shift_states _).mono ?_); rintro e w1 ⟨rfl, hb⟩; obtain ⟨hc, hf⟩ := bcell hb))
  go_loopw [15] (fun vi wr => PassRel xs S w wr vi) (fun vi _ => n - (intOf vi).toNat)
  case atStart => exact ⟨0, Nat.zero_le _, rfl, by simpa using HS.out, hb⟩
  case round =>
    obtain ⟨k, hk, rfl, hp, hbr⟩ := hrel
    have HP := Lib.hid hp
    have HK := Lib.hid hk
    clear hp hk
    by_cases hkn : k < n
    · obtain ⟨b, off, rfl, hlt, hcs⟩ := open_C (C_of_below HC.out hbr) (by omega)
      have hcell := hcs k hkn
      clear hcs
      have hR2 : (if xs.getD k 0 = 14 then passedC 3 (xs.drop (k + 1)) else if xs.getD k 0 = 15 then passedC 3 (xs.drop (k + 1)) else false) = S := by
        have h := HP.out
        rw [List.drop_eq_getElem_cons (by have := HL.out; omega), passedC_cons] at h
        rw [List.getD_eq_getElem?_getD, List.getElem?_eq_getElem (by have := HL.out; omega)]
        exact h
      generalize xs.getD k 0 = x at *
      by_cases x14 : x = 14
      · subst x14
        have HR := Lib.hid hR2
        clear hR2
        go_wp2
        exact ⟨⟨k + 1, by have := HL.out; omega, rfl, by have := HR.out; simpa using this, hbr⟩, by simp [intOf]; omega⟩
      · have t1 : (x != 14) = true := by simp [x14]
        by_cases x15 : x = 15
        · subst x15
          have HR := Lib.hid hR2
          clear hR2 x14
          go_wp2
          exact ⟨⟨k + 1, by have := HL.out; omega, rfl, by have := HR.out; simpa using this, hbr⟩, by simp [intOf]; omega⟩
        · have t2 : (x != 15) = true := by simp [x15]
          have hS2 : false = S := by rw [if_neg x14, if_neg x15] at hR2; exact hR2
          subst hS2
          clear hR2 x14 x15
          go_wp2
          go_ret
          exact ⟨rfl, hbr⟩
    · have hS2 : true = S := by
        have h := HP.out
        rw [List.drop_eq_nil_of_le (by have := HL.out; omega)] at h
        simpa [passedC] using h
      subst hS2
      go_wp2
      go_ret
      exact ⟨rfl, hbr⟩

set_option maxHeartbeats 400000 in
theorem characters_any (x : Value) (hx : x.oneCell' = true) (A : Option Addr) (n c : Nat) (w : World) :
    Calls Try.prog 45 #[x, .slice A n c] w fun r w' => r = .returned (.func (.func 50) #[] #[.pointer (some ⟨w.heap.size, 0, none⟩), .pointer (some ⟨w.heap.size + 1, 0, none⟩)]) ∧ w' = (w.alloc (.cells #[x] 79)).alloc (.cells #[.slice A n c] 24) := by
  have hmf : ∀ (fn : Fn) (first cap : Array Value) (w : World), (Instr.makeFunc fn first cap).run Try.prog w = .ok (.func fn first cap) w := fun _ _ _ _ => rfl
  go_enter Try.func45, Try.ntmps45
  go_wp2
  go_ret
  exact ⟨rfl, rfl⟩
end Go.Proofs.Ytcekghcejmhhaaa
