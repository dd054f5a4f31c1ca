import Derived.Test.YtcekghcejmhhaaaCharsJ
set_option linter.unusedSimpArgs false
set_option linter.unusedVariables false
set_option linter.unnecessarySimpa false
namespace Go.Proofs.Ytcekghcejmhhaaa
open Go.RowKit Go.Proofs.YtcekghcejmhhaaaW.PrintWords Go.Proofs.YtcekghcejmhhaaaW.PrintLast Go.Proofs.YtcekghcejmhhaaaW.PrintMore
set_option maxRecDepth 100000

set_option maxHeartbeats 1000000 in
theorem passed_1 (A : Option Addr) (n c : Nat) (xs : List Int) (w : World) (hC : Kd.C (Kd.int .u8) w A n xs) :
    Calls Try.prog 51 #[.iface 100 (.agg #[]), .slice A n c] w fun r w' => r = .returned (.bool (passedC 1 xs)) ∧ Below w.heap.size w w' := by
  have hl : xs.length = n := hC.1
  have HE : Hid (passedC 1 xs = ((n : Int) == 0)) := Lib.hid (by cases xs <;> simp [passedC] at hl ⊢ <;> omega)
  have m1 := meth_states_1
  clear hC hl
  go_enter Try.func51, Try.ntmps51
  go_wp2_with (first | (with_reducible show Calls Try.prog 71 #[_] _ _; (with_reducible refine (octets_states _).mono ?_); rintro e w1 ⟨rfl, hb⟩; obtain ⟨hc, hf⟩ := bcell hb) | (with_reducible show Calls Try.prog 77 #[_] _ _; (with_reducible refine (utf8_states _).mono ?_); rintro e w1 ⟨rfl, hb⟩; obtain ⟨hc, hf⟩ := bcell hb) | (with_reducible show Calls Try.prog 84 #[_] _ _; (with_reducible refine (shift_states _).mono ?_); rintro e w1 ⟨rfl, hb⟩; obtain ⟨hc, hf⟩ := bcell hb))
  go_ret
  exact ⟨by rw [HE.out]; rfl, (by repeat (first | with_reducible assumption | with_reducible exact Below.refl _ _ | with_reducible refine below_alloc ?_ _ | with_reducible refine pw_below_drewN ?_ _ | with_reducible refine below_drew1 ?_ | ((with_reducible refine below_set ?_ ?hle); (case hle => first | (simp; done) | omega | (simp; omega))) | with_reducible refine below_step ?_ (by assumption)))⟩
set_option maxHeartbeats 1000000 in
theorem passed_2 (A : Option Addr) (n c : Nat) (xs : List Int) (w : World) (hC : Kd.C (Kd.int .u8) w A n xs) :
    Calls Try.prog 51 #[.iface 101 (.agg #[]), .slice A n c] w fun r w' => r = .returned (.bool (passedC 2 xs)) ∧ Below w.heap.size w w' := by
  have hl : xs.length = n := hC.1
  have HE : Hid (passedC 2 xs = ((n : Int) == 0)) := Lib.hid (by cases xs <;> simp [passedC] at hl ⊢ <;> omega)
  have m1 := meth_states_2
  clear hC hl
  go_enter Try.func51, Try.ntmps51
  go_wp2_with (first | (with_reducible show Calls Try.prog 71 #[_] _ _; (with_reducible refine (octets_states _).mono ?_); rintro e w1 ⟨rfl, hb⟩; obtain ⟨hc, hf⟩ := bcell hb) | (with_reducible show Calls Try.prog 77 #[_] _ _; (with_reducible refine (utf8_states _).mono ?_); rintro e w1 ⟨rfl, hb⟩; obtain ⟨hc, hf⟩ := bcell hb) | (with_reducible show Calls Try.prog 84 #[_] _ _; (with_reducible refine (shift_states _).mono ?_); rintro e w1 ⟨rfl, hb⟩; obtain ⟨hc, hf⟩ := bcell hb))
  go_ret
  exact ⟨by rw [HE.out]; rfl, (by repeat (first | with_reducible assumption | with_reducible exact Below.refl _ _ | with_reducible refine below_alloc ?_ _ | with_reducible refine pw_below_drewN ?_ _ | with_reducible refine below_drew1 ?_ | ((with_reducible refine below_set ?_ ?hle); (case hle => first | (simp; done) | omega | (simp; omega))) | with_reducible refine below_step ?_ (by assumption)))⟩

def PassRel (xs : List Int) (S : Bool) (w0 w : World) (vi : Value) : Prop := ∃ k : Nat, k ≤ xs.length ∧ vi = .int .i64 k ∧ passedC 3 (xs.drop k) = S ∧ Below w0.heap.size w0 w
theorem passedC_cons (x : Int) (t : List Int) : passedC 3 (x :: t) = if x = 14 then passedC 3 t else if x = 15 then passedC 3 t else false := by
  by_cases h1 : x = 14
  · simp [passedC, h1]
  · by_cases h2 : x = 15 <;> simp [passedC, h1, h2]

set_option maxHeartbeats 2000000 in
theorem passed_3 (A : Option Addr) (n c : Nat) (xs : List Int) (w : World) (hC : Kd.C (Kd.int .u8) w A n xs) :
    Calls Try.prog 51 #[.iface 102 (.agg #[]), .slice A n c] w fun r w' => r = .returned (.bool (passedC 3 xs)) ∧ Below w.heap.size w w' := by
  have hl : xs.length = n := hC.1
  have hm : n ≤ 9223372036854775807 := hC.2.1
  obtain ⟨S, hS⟩ : ∃ S, passedC 3 xs = S := ⟨_, rfl⟩
  rw [hS]
  have HL := Lib.hid hl
  have HC := Lib.hid hC
  have HS := Lib.hid hS
  have m1 := meth_states_3
  clear hC hl hS
  go_enter Try.func51, Try.ntmps51
  go_wp2_with (first | (with_reducible show Calls Try.prog 71 #[_] _ _; (with_reducible refine (octets_states _).mono ?_); rintro e w1 ⟨rfl, hb⟩; obtain ⟨hc, hf⟩ := bcell hb) | (with_reducible show Calls Try.prog 77 #[_] _ _; (with_reducible refine (utf8_states _).mono ?_); rintro e w1 ⟨rfl, hb⟩; obtain ⟨hc, hf⟩ := bcell hb) | (with_reducible show Calls Try.prog 84 #[_] _ _; (with_reducible refine (shift_states _).mono ?_); rintro e w1 ⟨rfl, hb⟩; obtain ⟨hc, hf⟩ := bcell hb))
  go_loopw [15] (fun vi wr => PassRel xs S w wr vi) (fun vi _ => n - (intOf vi).toNat)
  case atStart => exact ⟨0, Nat.zero_le _, rfl, by simpa using HS.out, hb⟩
  case round =>
    obtain ⟨k, hk, rfl, hp, hbr⟩ := hrel
    have HP := Lib.hid hp
    have HK := Lib.hid hk
    clear hp hk
    by_cases hkn : k < n
    · obtain ⟨b, off, rfl, hlt, hcs⟩ := open_C (C_of_below HC.out hbr) (by omega)
      have hcell := hcs k hkn
      clear hcs
      have hR2 : (if xs.getD k 0 = 14 then passedC 3 (xs.drop (k + 1)) else if xs.getD k 0 = 15 then passedC 3 (xs.drop (k + 1)) else false) = S := by
        have h := HP.out
        rw [List.drop_eq_getElem_cons (by have := HL.out; omega), passedC_cons] at h
        rw [List.getD_eq_getElem?_getD, List.getElem?_eq_getElem (by have := HL.out; omega)]
        exact h
      generalize xs.getD k 0 = x at *
      by_cases x14 : x = 14
      · subst x14
        have HR := Lib.hid hR2
        clear hR2
        go_wp2
        exact ⟨⟨k + 1, by have := HL.out; omega, rfl, by have := HR.out; simpa using this, hbr⟩, by simp [intOf]; omega⟩
      · have t1 : (x != 14) = true := by simp [x14]
        by_cases x15 : x = 15
        · subst x15
          have HR := Lib.hid hR2
          clear hR2 x14
          go_wp2
          exact ⟨⟨k + 1, by have := HL.out; omega, rfl, by have := HR.out; simpa using this, hbr⟩, by simp [intOf]; omega⟩
        · have t2 : (x != 15) = true := by simp [x15]
          have hS2 : false = S := by rw [if_neg x14, if_neg x15] at hR2; exact hR2
          subst hS2
          clear hR2 x14 x15
          go_wp2
          go_ret
          exact ⟨rfl, hbr⟩
    · have hS2 : true = S := by
        have h := HP.out
        rw [List.drop_eq_nil_of_le (by have := HL.out; omega)] at h
        simpa [passedC] using h
      subst hS2
      go_wp2
      go_ret
      exact ⟨rfl, hbr⟩

set_option maxHeartbeats 400000 in
theorem characters_any (x : Value) (hx : x.oneCell' = true) (A : Option Addr) (n c : Nat) (w : World) :
    Calls Try.prog 45 #[x, .slice A n c] w fun r w' => r = .returned (.func (.func 50) #[] #[.pointer (some ⟨w.heap.size, 0, none⟩), .pointer (some ⟨w.heap.size + 1, 0, none⟩)]) ∧ w' = (w.alloc (.cells #[x] 79)).alloc (.cells #[.slice A n c] 24) := by
  have hmf : ∀ (fn : Fn) (first cap : Array Value) (w : World), (Instr.makeFunc fn first cap).run Try.prog w = .ok (.func fn first cap) w := fun _ _ _ _ => rfl
  go_enter Try.func45, Try.ntmps45
  go_wp2
  go_ret
  exact ⟨rfl, rfl⟩
end Go.Proofs.Ytcekghcejmhhaaa
