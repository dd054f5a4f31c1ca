import Derived.Test.YtcekghcejmhhaaaCharsB
import Derived.BigQuiet
set_option linter.unusedSimpArgs false
set_option linter.unusedVariables false
set_option linter.unnecessarySimpa false
namespace Go.Proofs.Ytcekghcejmhhaaa
open Go.RowKit Go.Proofs.YtcekghcejmhhaaaW.PrintWords Go.Proofs.YtcekghcejmhhaaaW.PrintLast Go.Proofs.YtcekghcejmhhaaaW.PrintMore
set_option maxRecDepth 100000

theorem which_ok (x : Int) (h0 : 0 ≤ x) (h1 : x < 256) (w : World) : Calls Try.prog 19 #[.int .u8 x] w fun r w' => r = .returned (.int .i64 (1 + x % 3)) ∧ w = w' := by
  have e1 : IntKind.i64.wrap x = x := IntWalk.i64_in _ (by omega)
  have e2 : IntKind.i64.wrap (1 + x % 3) = 1 + x % 3 := IntWalk.i64_in _ (by omega)
  have e3 : x.tmod 3 = x % 3 := Int.tmod_eq_emod_of_nonneg h0
  have e4 : IntKind.i64.wrap (x % 3) = x % 3 := IntWalk.i64_in _ (by omega)
  go_enter Try.func19, Try.ntmps19
  go_wp2
  go_ret
  exact ⟨rfl, rfl⟩

set_option maxHeartbeats 2000000 in
theorem characters_eq (A : Option Addr) (n c : Nat) (xs : List Int) (B : Option Addr) (m d : Nat) (ys : List Int) (w : World) (hC : Kd.C (Kd.int .u32) w A n xs) (hD : Kd.C (Kd.int .u32) w B m ys) (hm : n ≤ 1000000000) :
    Calls Try.prog 21 #[.slice A n c, .slice B m d] w fun r w' => r = .returned (.bool (decide (xs = ys))) ∧ Below w.heap.size w w' := by
  have hl : xs.length = n := hC.1
  have hl2 : ys.length = m := hD.1
  have HC := Lib.hid hC
  have HD := Lib.hid hD
  by_cases hnm : n = m
  · subst hnm
    have HL := Lib.hid hl
    have HL2 := Lib.hid hl2
    clear hl hl2 hC hD
    go_enter Try.func21, Try.ntmps21
    go_wp2
    go_loopw [5] (fun vi wr => ∃ k : Nat, vi = .int .i64 k ∧ k ≤ n ∧ xs.take k = ys.take k ∧ Below w.heap.size w wr) (fun vi _ => n - (intOf vi).toNat)
    case atStart => exact ⟨0, rfl, by omega, by simp, Below.refl _ _⟩
    case round =>
      obtain ⟨k, rfl, hk, hr, hb⟩ := hrel
      have HR := Lib.hid hr
      clear hr
      by_cases hkn : k < n
      · obtain ⟨b1, o1, rfl, hlt1, hcs1⟩ := open_C (C_of_below HC.out hb) (by omega)
        obtain ⟨b2, o2, rfl, hlt2, hcs2⟩ := open_C (C_of_below HD.out hb) (by omega)
        have k1 := hcs1 k hkn
        have k2 := hcs2 k hkn
        have hX : xs.take (k + 1) = xs.take k ++ [xs.getD k 0] := by
          have := HL.out
          rw [List.take_succ_eq_append_getElem (by omega), List.getD_eq_getElem?_getD, List.getElem?_eq_getElem (by omega)]; rfl
        have hY : ys.take (k + 1) = ys.take k ++ [ys.getD k 0] := by
          have := HL2.out
          rw [List.take_succ_eq_append_getElem (by omega), List.getD_eq_getElem?_getD, List.getElem?_eq_getElem (by omega)]; rfl
        have HXX := Lib.hid hX
        have HYY := Lib.hid hY
        clear hcs1 hcs2 hX hY
        generalize xs.getD k 0 = x at *
        generalize ys.getD k 0 = y at *
        by_cases hxy : x = y
        · subst hxy
          go_wp2
          go_quiet (fail)
          go_wp2
          exact ⟨⟨k + 1, by push_cast; rfl, by omega, by rw [HXX.out, HYY.out, HR.out], pw_below_drewN hb _⟩, by simp only [intOf]; omega⟩
        · have hd : (x == y) = false := by simpa using hxy
          go_wp2
          go_quiet (fail)
          go_wp2
          go_ret
          have hne : xs ≠ ys := by
            rintro rfl
            have := HXX.out.symm.trans HYY.out
            exact hxy (by simpa using this)
          exact ⟨by simp [hne], pw_below_drewN hb _⟩
      · go_wp2
        go_ret
        have he : xs = ys := by
          have := HR.out
          rwa [List.take_of_length_le (by have := HL.out; omega), List.take_of_length_le (by have := HL2.out; omega)] at this
        exact ⟨by simp [he], hb⟩
  · have hd : ((n : Int) == (m : Int)) = false := by simp; omega
    have hne : xs ≠ ys := by rintro rfl; omega
    go_enter Try.func21, Try.ntmps21
    go_wp2
    go_ret
    exact ⟨by simp [hne], Below.refl _ _⟩
end Go.Proofs.Ytcekghcejmhhaaa
