import Derived.Test.YtcekghcejmhhaaaCharsV
import Derived.Test.YtcekghcejmhhaaaCharsW
import Derived.Test.YtcekghcejmhhaaaCharsLawC
set_option linter.unusedSimpArgs false
set_option linter.unusedVariables false
set_option linter.unnecessarySimpa false
namespace Go.Proofs.Ytcekghcejmhhaaa
open Go.RowKit Go.Proofs.YtcekghcejmhhaaaW.PrintWords Go.Proofs.YtcekghcejmhhaaaW.PrintLast Go.Proofs.YtcekghcejmhhaaaW.PrintMore
set_option maxRecDepth 100000

theorem Encode_at (enc : Int) (l b : List Int) (e a : Int) (hE : encodeC enc l = (b, e, a)) (A : Option Addr) (n c : Nat) (w : World) (hC : Kd.C (Kd.int .u32) w A n l) (hx : U32s l) :
    Calls Try.prog 14 #[.int .i64 enc, .slice A n c] w fun r w' => ∃ A' c', r = .returned (.tuple #[.slice A' b.length c', .int .i64 e, .int .i64 a]) ∧ Kd.C (Kd.int .u8) w' A' b.length b ∧ b.length ≤ c' ∧ Below w.heap.size w w' :=
  (Encode_any enc A n c l w hC hx).mono fun r w' ⟨v, hr, hv, hb⟩ => by
    rw [hE] at hr hv
    obtain ⟨A', c', rfl, h0, h⟩ := Kd.R_reads hv
    exact ⟨A', c', hr, h, h0, hb⟩

theorem encLoop_byt {enc : Int} (he : encOk enc) : ∀ (l : List Int) (st i : Int), (∀ c ∈ l, 0 ≤ c) → ∀ x ∈ (encLoop enc st i l).1, 0 ≤ x ∧ x ≤ 255
  | [], st, i, _ => by simp [encLoop]
  | c :: l, st, i, h => by
    by_cases hh : hasC enc c = true
    · rw [encLoop_cons hh]
      intro x hx
      rcases List.mem_append.1 hx with hx | hx
      · have hc := h c (by simp)
        have : enc = 1 ∨ enc = 2 ∨ enc = 3 := by unfold encOk at he; omega
        have ht : ∀ f t, ∀ y ∈ turnC f t, 0 ≤ y ∧ y ≤ 255 := by
          intro f t y hy
          unfold turnC at hy
          split at hy
          · simp at hy
          · split at hy <;> (simp at hy; omega)
        rcases this with rfl | rfl | rfl
        · simp [putC] at hx; omega
        · have hc2 : c < 55296 ∨ 57343 < c ∧ c ≤ 1114111 := by simpa [hasC] using hh
          by_cases k1 : c < 128
          · rw [put2_1 k1] at hx; simp at hx; omega
          · by_cases k2 : c < 2048
            · rw [put2_2 k1 k2] at hx; simp at hx; omega
            · by_cases k3 : c < 65536
              · rw [put2_3 k2 k3] at hx; simp at hx; omega
              · rw [put2_4 k3] at hx; simp at hx; omega
        · have hc2 : c ≤ 127 ∧ c ≠ 14 ∧ c ≠ 15 ∨ 19968 ≤ c ∧ c ≤ 28803 := by simpa [hasC] using hh
          unfold putC at hx
          rw [if_neg (by decide), if_neg (by decide)] at hx
          split at hx
          · rcases List.mem_append.1 hx with hx | hx
            · exact ht _ _ x hx
            · simp at hx; omega
          · rcases List.mem_append.1 hx with hx | hx
            · exact ht _ _ x hx
            · simp at hx; omega
      · exact encLoop_byt he l _ _ (fun y hy => h y (by simp [hy])) x hx
    · rw [encLoop_bad hh]; simp
theorem encode_byt {enc : Int} {l : List Int} (h : ∀ c ∈ l, 0 ≤ c) : Byt (encodeC enc l).1 := by
  apply Byt.of
  unfold encodeC
  split
  · simp
  · rename_i he
    split
    · simp
    · unfold encodedC
      dsimp only
      split
      · simp
      · split
        · simp
        · intro x hx
          rcases List.mem_append.1 hx with hx | hx
          · exact encLoop_byt (by simpa using he) l 0 0 h x hx
          · unfold turnC at hx
            split at hx
            · simp at hx
            · split at hx <;> (simp at hx; omega)
theorem U32s.mem {l : List Int} (h : U32s l) : ∀ c ∈ l, 0 ≤ c ∧ c < 4294967296 := fun c hc => by
  obtain ⟨i, hi, rfl⟩ := List.mem_iff_getElem.1 hc
  have := h i
  rw [List.getD_eq_getElem?_getD, List.getElem?_eq_getElem hi] at this
  exact this
theorem Byt.mem {l : List Int} (h : Byt l) : ∀ c ∈ l, 0 ≤ c ∧ c ≤ 255 := fun c hc => by
  obtain ⟨i, hi, rfl⟩ := List.mem_iff_getElem.1 hc
  have := h i
  rw [List.getD_eq_getElem?_getD, List.getElem?_eq_getElem hi] at this
  exact this
theorem has_u32 {enc c : Int} (h : hasC enc c = true) : c < 4294967296 := by
  unfold hasC at h
  split at h
  · simp at h; omega
  · split at h
    · simp at h; omega
    · simp at h; omega
theorem dec_u32 {enc : Int} (he : encOk enc) {b : List Int} (hb : ∀ x ∈ b, 0 ≤ x ∧ x ≤ 255) : ∀ (f : Nat) (st a : Int) (k : List Int), stC enc st → (∀ x ∈ k, 0 ≤ x ∧ x ≤ 255) → ∀ c ∈ (decodeLoop enc f st a k).1.map (·.2), 0 ≤ c ∧ c < 4294967296
  | 0, st, a, k, hs, hk, c, hc => by simp [decodeLoop] at hc
  | f + 1, st, a, k, hs, hk, c, hc => by
    rw [decodeLoop_unfold] at hc
    split at hc
    · simp at hc
    · split at hc
      · rename_i hkd
        have hn := put_next he hs hk hkd
        rw [List.map_cons] at hc
        rcases List.mem_cons.1 hc with rfl | hc
        · exact ⟨hn.ch, has_u32 hn.has⟩
        · exact dec_u32 he hb f _ _ _ (next_st he hs hk hkd).1 (fun x hx => hk x (List.mem_of_mem_drop hx)) c hc
      · simp at hc
theorem decode_u32 {enc : Int} (he : encOk enc) {b : List Int} (hb : ∀ x ∈ b, 0 ≤ x ∧ x ≤ 255) : U32s (decodeC enc b).1 := by
  apply U32s.of
  unfold decodeC
  rw [if_neg (by simpa using he)]
  split
  · simp
  · dsimp only
    split
    · exact dec_u32 he hb _ _ _ _ (fun _ => .inl rfl) hb
    · simp

set_option maxHeartbeats 4000000 in
theorem back_long (x : Int) (A : Option Addr) (n c : Nat) (B : Option Addr) (m d : Nat) (w : World) (h : 4000 < n ∨ 2000 < m) :
    Calls Try.prog 4 #[.int .u8 x, .slice A n c, .slice B m d] w fun r w' => r = .returned (.bool true) ∧ Below w.heap.size w w' := by
  by_cases h1 : 4000 < n
  · have h2 : (4000 : Int) < n := by omega
    clear h
    go_enter Try.func4, Try.ntmps4
    go_wp2_with (go_at_call 13; (with_reducible refine (sanity_ok _).mono ?_); rintro e w1 ⟨rfl, hb1⟩)
    go_ret
    exact ⟨rfl, hb1⟩
  · have h2 : (n : Int) ≤ 4000 := by omega
    have h3 : (2000 : Int) < m := by omega
    clear h
    go_enter Try.func4, Try.ntmps4
    go_wp2_with (go_at_call 13; (with_reducible refine (sanity_ok _).mono ?_); rintro e w1 ⟨rfl, hb1⟩)
    go_ret
    exact ⟨rfl, hb1⟩
end Go.Proofs.Ytcekghcejmhhaaa
