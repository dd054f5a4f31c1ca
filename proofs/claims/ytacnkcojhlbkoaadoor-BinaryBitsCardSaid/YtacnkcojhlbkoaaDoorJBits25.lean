/- The specification's Has, number and Encode: what they return, of numbers. The law's guard on sizes: whether no list is longer than 1100 elements. -/
import Derived.Test.YtacnkcojhlbkoaaDoorJBits23
import Derived.Test.YtacnkcojhlbkoaaDoorJBits19
import Derived.Test.YtacnkcojhlbkoaaDoorJBits6
set_option linter.unusedSimpArgs false
set_option linter.unusedVariables false
set_option linter.unnecessarySimpa false
namespace Go.Proofs.YtacnkcojhlbkoaaDoor
open Go.RowKit Go.Proofs.YtacnkcojhlbkoaaDoorW.PrintWords Go.Proofs.YtacnkcojhlbkoaaDoorW.PrintLast Go.Proofs.YtacnkcojhlbkoaaDoorW.PrintMore Go.Proofs.YtacnkcojhlbkoaaDoor.NL
set_option maxRecDepth 100000
set_option exponentiation.threshold 33000

theorem rnat_gives (hi lo : Int) (w : World) (h1 : u64B hi = true) (h2 : u64B lo = true) : Calls Tryd.prog 25 #[.agg #[.int .u64 hi, .int .u64 lo]] w (Gives (rawN hi lo) w) :=
  (rnat_any hi lo w h1 h2).mono fun _ _ h => new_gives h
theorem raw_lt {hi lo : Int} (h1 : u64B hi = true) (h2 : u64B lo = true) : rawN hi lo < W128 := by
  simp only [u64B, decide_eq_true_eq] at h1 h2
  unfold rawN
  have : W128 = 340282366920938463463374607431768211456 := rfl
  omega
theorem fmW_top {f : Int} (hf : isFm f = true) : fmW f = ((topN f + 1 : Nat) : Int) ∧ IntKind.i64.wrap (fmW f - 1) = (topN f : Nat) ∧ topN f ≤ 127 := by
  rcases fm_cases hf with rfl | rfl | rfl | rfl | rfl <;> decide
theorem field_W (D E L H W : Int) : ∀ w : World, (Instr.field 57 (.agg #[.int .i64 D, .int .i64 E, .int .i64 L, .int .i64 H, .int .i64 W]) 4).run Tryd.prog w = .ok (.int .i64 W) w := fun _ => by kernel_rfl
set_option maxHeartbeats 1000000 in
theorem rhas_any {m hi lo : Int} (w : World) (hf : isFm m = true) (h1 : u64B hi = true) (h2 : u64B lo = true) :
    Calls Tryd.prog 18 #[.int .i64 m, .agg #[.int .u64 hi, .int .u64 lo]] w fun e w' => e = .returned (.bool (decide (rawN hi lo < 2 ^ (topN m + 1)))) ∧ Below w.heap.size w w' := by
  have HN := Lib.hid fun w' => rnat_gives hi lo w' h1 h2
  have HF := Lib.hid fun w' => rformat hf w'
  have hN := raw_lt h1 h2
  generalize rawN hi lo = N at *
  have HBL : Hid (∀ A n c w', Kd.C (Kd.int .u32) w' A n (ofN N) → n ≤ c → Calls Tryd.prog 48 #[.slice A n c, .int .i64 (fmW m)] w' fun e w'' => e = .returned (.bool (decide (N < 2 ^ (topN m + 1)))) ∧ Below w'.heap.size w' w'') := Lib.hid fun A n c w' h hc => by
    refine (rbelow_any (fmW m) w' h (lim_ofN N) hc (ok_ofN hN)).mono ?_
    rintro e w'' ⟨rfl, hb⟩
    refine ⟨?_, hb⟩
    rw [val_ofN, (fmW_top hf).1]
    congr 2
    rw [decide_eq_decide, Int.ofNat_le]
    exact blen_le
  generalize decide (N < 2 ^ (topN m + 1)) = b at *
  generalize fmW m = W at *
  generalize fmD m = D at *
  generalize fmE m = E at *
  generalize fmL m = L at *
  generalize fmH m = H at *
  clear hf h1 h2 hN
  have hfd := field_W D E L H W
  go_enter Tryd.func18, Tryd.ntmps18
  go_wp2_with (first | fail | (go_at_call 25; (with_reducible refine (HN.out _).mono ?_); rintro e w1 ⟨A1, n1, c1, rfl, HV1, b1⟩; obtain ⟨hc1, hf1⟩ := bcell b1; have hz1 := below_size b1; (try simp at hz1)) | (go_at_call 47; (with_reducible refine (HF.out _).mono ?_); rintro e w2 ⟨rfl, b2⟩; obtain ⟨hc2, hf2⟩ := bcell b2; have hz2 := below_size b2; (try simp at hz2)) | (go_at_call 48; (with_reducible refine (HBL.out _ _ _ _ (Kd.C_below HV1.out.2 bel) HV1.out.1).mono ?_); rintro e w3 ⟨rfl, b3⟩; obtain ⟨hc3, hf3⟩ := bcell b3; have hz3 := below_size b3; (try simp at hz3)))
  all_goals
    go_ret
    exact ⟨rfl, bel⟩
set_option maxHeartbeats 1000000 in
theorem rnumber_any {q : Nat} {A : Option Addr} {n c : Nat} (w : World) (hq : q < 4294967296) (h : Kd.C (Kd.int .u32) w A n (ofN q)) :
    Calls Tryd.prog 57 #[.slice A n c] w fun e w' => e = .returned (.int .i64 (q : Nat)) ∧ Below w.heap.size w w' := by
  by_cases h0 : q = 0
  · subst h0
    have hn : n = 0 := by rw [← h.1, ofN_zero]; rfl
    subst hn
    clear h hq
    go_enter Tryd.func57, Tryd.ntmps57
    go_wp2
    all_goals
      go_ret
      exact ⟨rfl, bel⟩
  · have h1 : ofN q = [(q : Int)] := by
      have := ofN_val (l := [(q : Int)]) (by intro x hx; simp at hx; omega) (by unfold Top; simp; omega)
      rw [← this]; congr 1
    rw [h1] at h
    have hn : n = 1 := h.1.symm
    subst hn
    obtain ⟨b, off, rfl, hlt, hcs⟩ := open_C h (by omega)
    have hcell := hcs 0 (by omega)
    simp only [Nat.add_zero, List.getD_cons_zero] at hcell
    clear h h1 hcs
    go_enter Tryd.func57, Tryd.ntmps57
    go_wp2
    all_goals
      go_ret
      refine ⟨?_, bel⟩
      first | rfl | (congr 2; (try rw [IntKind.wrap_i64]); omega) | (simp; (try rw [IntKind.wrap_i64]); omega)
set_option maxHeartbeats 4000000 in
theorem re_f {f cl ex h l : Int} {x P : Nat} {A : Option Addr} {n c : Nat} (w : World) (hA : Kd.C (Kd.int .u32) w A n (ofN x))
    (HBi : Hid (∀ w', Kd.C (Kd.int .u32) w' A n (ofN x) → Calls Tryd.prog 49 #[dV f cl false A n c ex] w' (Gives P w')))
    (HW6 : Hid (∀ A n c w', Kd.C (Kd.int .u32) w' A n (ofN P) → n ≤ c → Calls Tryd.prog 52 #[.slice A n c, .int .i64 64] w' fun e w'' => e = .returned (.int .u64 h) ∧ Below w'.heap.size w' w''))
    (HW0 : Hid (∀ A n c w', Kd.C (Kd.int .u32) w' A n (ofN P) → n ≤ c → Calls Tryd.prog 52 #[.slice A n c, .int .i64 0] w' fun e w'' => e = .returned (.int .u64 l) ∧ Below w'.heap.size w' w'')) :
    Calls Tryd.prog 14 #[dV f cl false A n c ex] w fun e w' => e = .returned (.agg #[.int .u64 h, .int .u64 l]) ∧ Below w.heap.size w w' := by
  have HC0 := Lib.hid hA
  clear hA
  skip
  go_enter Tryd.func14, Tryd.ntmps14
  go_wp2_with (first | fail | (go_at_call 49; (with_reducible refine (HBi.out _ (Kd.C_below HC0.out bel)).mono ?_); rintro e w1 ⟨A1, n1, c1, rfl, HV1, b1⟩; obtain ⟨hc1, hf1⟩ := bcell b1; have hz1 := below_size b1; (try simp at hz1); have z01 : w.heap.size < w1.heap.size := (by omega); have z11 : w.heap.size + 1 < w1.heap.size := (by omega)) | (go_at_call 52; (with_reducible refine (HW6.out _ _ _ _ (Kd.C_below HV1.out.2 bel) HV1.out.1).mono ?_); rintro e w2 ⟨rfl, b2⟩; obtain ⟨hc2, hf2⟩ := bcell b2; have hz2 := below_size b2; (try simp at hz2); have z12 : w.heap.size + 1 < w2.heap.size := (by omega)) | (go_at_call 52; (with_reducible refine (HW0.out _ _ _ _ (Kd.C_below HV1.out.2 bel) HV1.out.1).mono ?_); rintro e w3 ⟨rfl, b3⟩; obtain ⟨hc3, hf3⟩ := bcell b3; have hz3 := below_size b3; (try simp at hz3); have z13 : w.heap.size + 1 < w3.heap.size := (by omega)))
  all_goals
    exact bodyPost_ret (v := .agg #[.int .u64 h, .int .u64 l]) (by simp [results, Tryd.results14, go_sem, *]) rfl ⟨rfl, bel⟩
set_option maxHeartbeats 4000000 in
theorem re_t {f cl ex D E L H W W1 h l : Int} {x P0 T P : Nat} {A : Option Addr} {n c : Nat} (w : World) (hA : Kd.C (Kd.int .u32) w A n (ofN x))
    (HBi : Hid (∀ w', Kd.C (Kd.int .u32) w' A n (ofN x) → Calls Tryd.prog 49 #[dV f cl true A n c ex] w' (Gives P0 w')))
    (HF : Hid (∀ w', Calls Tryd.prog 47 #[.int .i64 f] w' fun e w'' => e = .returned (.agg #[.int .i64 D, .int .i64 E, .int .i64 L, .int .i64 H, .int .i64 W]) ∧ Below w'.heap.size w' w''))
    (hW1 : IntKind.i64.wrap (W - 1) = W1)
    (HP : Hid (∀ w', Calls Tryd.prog 51 #[.int .i64 W1] w' (Gives T w')))
    (HA : Hid (∀ A n c A' n' c' w', Kd.C (Kd.int .u32) w' A n (ofN P0) → n ≤ c → Kd.C (Kd.int .u32) w' A' n' (ofN T) → n' ≤ c' → Calls Tryd.prog 50 #[.slice A n c, .slice A' n' c'] w' (Gives P w')))
    (HW6 : Hid (∀ A n c w', Kd.C (Kd.int .u32) w' A n (ofN P) → n ≤ c → Calls Tryd.prog 52 #[.slice A n c, .int .i64 64] w' fun e w'' => e = .returned (.int .u64 h) ∧ Below w'.heap.size w' w''))
    (HW0 : Hid (∀ A n c w', Kd.C (Kd.int .u32) w' A n (ofN P) → n ≤ c → Calls Tryd.prog 52 #[.slice A n c, .int .i64 0] w' fun e w'' => e = .returned (.int .u64 l) ∧ Below w'.heap.size w' w'')) :
    Calls Tryd.prog 14 #[dV f cl true A n c ex] w fun e w' => e = .returned (.agg #[.int .u64 h, .int .u64 l]) ∧ Below w.heap.size w w' := by
  have HC0 := Lib.hid hA
  clear hA
  have hfd := field_W D E L H W
  go_enter Tryd.func14, Tryd.ntmps14
  go_wp2_with (first | fail | (go_at_call 49; (with_reducible refine (HBi.out _ (Kd.C_below HC0.out bel)).mono ?_); rintro e w1 ⟨A1, n1, c1, rfl, HV1, b1⟩; obtain ⟨hc1, hf1⟩ := bcell b1; have hz1 := below_size b1; (try simp at hz1); have z01 : w.heap.size < w1.heap.size := (by omega); have z11 : w.heap.size + 1 < w1.heap.size := (by omega)) | (go_at_call 47; (with_reducible refine (HF.out _).mono ?_); rintro e w2 ⟨rfl, b2⟩; obtain ⟨hc2, hf2⟩ := bcell b2; have hz2 := below_size b2; (try simp at hz2); have z12 : w.heap.size + 1 < w2.heap.size := (by omega)) | (go_at_call 51; (try rw [hW1]); (try rw [hD1]); (with_reducible refine (HP.out _).mono ?_); rintro e w3 ⟨A3, n3, c3, rfl, HV3, b3⟩; obtain ⟨hc3, hf3⟩ := bcell b3; have hz3 := below_size b3; (try simp at hz3); have z13 : w.heap.size + 1 < w3.heap.size := (by omega)) | (go_at_call 50; (with_reducible refine (HA.out _ _ _ _ _ _ _ (Kd.C_below HV1.out.2 bel) HV1.out.1 (Kd.C_below HV3.out.2 bel) HV3.out.1).mono ?_); rintro e w4 ⟨A4, n4, c4, rfl, HV4, b4⟩; obtain ⟨hc4, hf4⟩ := bcell b4; have hz4 := below_size b4; (try simp at hz4); have z14 : w.heap.size + 1 < w4.heap.size := (by omega)) | (go_at_call 52; (with_reducible refine (HW6.out _ _ _ _ (Kd.C_below HV4.out.2 bel) HV4.out.1).mono ?_); rintro e w5 ⟨rfl, b5⟩; obtain ⟨hc5, hf5⟩ := bcell b5; have hz5 := below_size b5; (try simp at hz5); have z15 : w.heap.size + 1 < w5.heap.size := (by omega)) | (go_at_call 52; (with_reducible refine (HW0.out _ _ _ _ (Kd.C_below HV4.out.2 bel) HV4.out.1).mono ?_); rintro e w6 ⟨rfl, b6⟩; obtain ⟨hc6, hf6⟩ := bcell b6; have hz6 := below_size b6; (try simp at hz6); have z16 : w.heap.size + 1 < w6.heap.size := (by omega)))
  all_goals
    exact bodyPost_ret (v := .agg #[.int .u64 h, .int .u64 l]) (by simp [results, Tryd.results14, go_sem, *]) rfl ⟨rfl, bel⟩

theorem pack_false (f cl : Int) (x : Nat) (ex : Int) (ng : Bool) : packN f cl ng x ex = packN f cl false x ex + (if ng then 2 ^ topN f else 0) := by
  unfold packN packFR; simp
/-- The specification's Encode of a valid datum. -/
theorem rencode_any {f cl ex : Int} {ng : Bool} {A : Option Addr} {n c x : Nat} (w : World) (hf : isFm f = true) (hA : Kd.C (Kd.int .u32) w A n (ofN x)) (hc : n ≤ c) (hh : fits (fmD f) (fmL f) (fmH f) cl (blen x) ex = true) :
    Calls Tryd.prog 14 #[dV f cl ng A n c ex] w fun e w' => e = .returned (.agg #[.int .u64 (wHi (packN f cl ng x ex)), .int .u64 (wLo (packN f cl ng x ex))]) ∧ Below w.heap.size w w' := by
  have hP : packN f cl ng x ex < W128 := lt_128 hf (dec_pack (ng := ng) hf hh).2.2
  have hW : ∀ {s : Int} {P : Nat} (A : Option Addr) (n c : Nat) (w' : World), 0 ≤ s ∧ s ≤ 900000 → Kd.C (Kd.int .u32) w' A n (ofN P) → n ≤ c → Calls Tryd.prog 52 #[.slice A n c, .int .i64 s] w' fun e w'' => e = .returned (.int .u64 ((P / 2 ^ s.toNat % 18446744073709551616 : Nat) : Int)) ∧ Below w'.heap.size w' w'' := by
    intro s P A n c w' hs h hc
    obtain rfl := len_ofN h
    refine sorobanref05_word.calls A c (ofN P) s _ w' h hc ?_
    unfold sorobanref05_word.f
    rw [u32L_ofN, decide_eq_true hs, val_ofN]; rfl
  have H6 : ∀ {P : Nat}, P < W128 → P / 2 ^ (64 : Int).toNat % 18446744073709551616 = P / 18446744073709551616 := by
    intro P h
    have : P < 340282366920938463463374607431768211456 := h
    show P / 18446744073709551616 % 18446744073709551616 = P / 18446744073709551616
    omega
  have H0 : ∀ {P : Nat}, P / 2 ^ (0 : Int).toNat % 18446744073709551616 = P % 18446744073709551616 := by
    intro P
    show P / 1 % 18446744073709551616 = _
    rw [Nat.div_one]
  have HW6 : Hid (∀ A n c w', Kd.C (Kd.int .u32) w' A n (ofN (packN f cl ng x ex)) → n ≤ c → Calls Tryd.prog 52 #[.slice A n c, .int .i64 64] w' fun e w'' => e = .returned (.int .u64 (wHi (packN f cl ng x ex))) ∧ Below w'.heap.size w' w'') := Lib.hid fun A n c w' h hc => by
    have := hW (s := 64) A n c w' (by decide) h hc
    rwa [H6 hP] at this
  have HW0 : Hid (∀ A n c w', Kd.C (Kd.int .u32) w' A n (ofN (packN f cl ng x ex)) → n ≤ c → Calls Tryd.prog 52 #[.slice A n c, .int .i64 0] w' fun e w'' => e = .returned (.int .u64 (wLo (packN f cl ng x ex))) ∧ Below w'.heap.size w' w'') := Lib.hid fun A n c w' h hc => by
    have := hW (s := 0) A n c w' (by decide) h hc
    rwa [H0] at this
  have HBi := Lib.hid fun w' (h : Kd.C (Kd.int .u32) w' A n (ofN x)) => (rbits_any (cl := cl) (ex := ex) (ng := ng) w' hf h hc hh).mono fun _ _ h => new_gives h
  cases ng with
  | false => exact re_f w hA HBi HW6 HW0
  | true =>
    obtain ⟨t1, t2, t3⟩ := fmW_top hf
    have hT : 2 ^ topN f < 2 ^ 1000 := Nat.pow_lt_pow_right (by decide) (by omega)
    have h0 := pack_false f cl x ex true
    rw [if_pos rfl] at h0
    have hx0 : packN f cl false x ex < 2 ^ 1000 := Nat.lt_of_le_of_lt (by rw [h0]; exact Nat.le_add_right _ _ : packN f cl false x ex ≤ packN f cl true x ex) (Nat.lt_of_lt_of_le hP (by show 2 ^ 128 ≤ _; exact Nat.pow_le_pow_right (by decide) (by decide)))
    refine re_t w hA HBi (Lib.hid fun w' => rformat hf w') t2 (Lib.hid fun w' => rpower (s := topN f) w' (by omega)) (Lib.hid fun A n c A' n' c' w' h hc h' hc' => ?_) HW6 HW0
    rw [h0]
    exact radd_gives w' h hc h' hc' hx0 hT
end Go.Proofs.YtacnkcojhlbkoaaDoor

set_option linter.unusedSimpArgs false
set_option linter.unusedVariables false
set_option linter.unnecessarySimpa false
namespace Go.Proofs.YtacnkcojhlbkoaaDoor
open Go.RowKit Go.Proofs.YtacnkcojhlbkoaaDoorW.PrintWords Go.Proofs.YtacnkcojhlbkoaaDoorW.PrintLast Go.Proofs.YtacnkcojhlbkoaaDoorW.PrintMore Go.Proofs.YtacnkcojhlbkoaaDoor.NL
set_option maxRecDepth 100000

set_option maxHeartbeats 2000000 in
theorem light_any (b m : Nat) (f : Nat → Option Addr × Nat × Nat) (w : World) (hc : ∀ i, i < m → w.cell? ⟨b, i, none⟩ = some (.slice (f i).1 (f i).2.1 (f i).2.2)) (hm : m ≤ 1000) (hn : ∀ i, i < m → (f i).2.1 ≤ 9223372036854775807) :
    Calls Tryd.prog 10 #[.slice (some ⟨b, 0, none⟩) m m] w fun e w' => e = .returned (.bool (decide (∀ i, i < m → (f i).2.1 ≤ 1100))) ∧ w = w' := by
  have HC := Lib.hid hc
  have HN := Lib.hid hn
  clear hc hn
  go_enter Tryd.func10, Tryd.ntmps10
  go_wp2
  go_loop [3] (fun vi => ∃ k : Nat, k ≤ m ∧ vi = .int .i64 k ∧ ∀ i, i < k → (f i).2.1 ≤ 1100) (fun vi => m - (intOf vi).toNat)
  case atStart => exact ⟨0, by omega, rfl, fun i h => absurd h (by omega)⟩
  case round =>
    obtain ⟨k, hk, rfl, hv⟩ := hrel
    have HV := Lib.hid hv
    clear hv
    by_cases hlt : k < m
    · have hcell := HC.out k hlt
      have hn := HN.out k hlt
      have HE : Hid ((f k).2.1 ≤ 1100 → ∀ i, i < k + 1 → (f i).2.1 ≤ 1100) := Lib.hid fun h i hi => by
        by_cases e : i = k
        · rw [e]; exact h
        · exact HV.out i (by omega)
      have HF : Hid (1100 < (f k).2.1 → decide (∀ i, i < m → (f i).2.1 ≤ 1100) = false) := Lib.hid fun h => decide_eq_false fun h2 => by have := h2 k hlt; omega
      generalize (f k).2.1 = n at *
      generalize (f k).1 = A at *
      generalize (f k).2.2 = c at *
      by_cases h : n ≤ 1100
      · have d0 : decide ((1100 : Int) < n) = false := decide_eq_false (by omega)
        have HE2 := Lib.hid (HE.out h)
        clear HE HF h
        go_wp2
        go_round
        case rel => exact ⟨k + 1, by omega, by simp, HE2.out⟩
        case measure => simp [intOf]; omega
      · have d0 : decide ((1100 : Int) < n) = true := decide_eq_true (by omega)
        have HF2 := Lib.hid (HF.out (by omega))
        clear HE HF h
        go_wp2
        go_ret
        exact ⟨by rw [HF2.out]; rfl, rfl⟩
    · obtain rfl : k = m := by omega
      have HT : Hid (decide (∀ i, i < k → (f i).2.1 ≤ 1100) = true) := Lib.hid (decide_eq_true HV.out)
      go_wp2
      go_ret
      exact ⟨by rw [HT.out]; rfl, rfl⟩
end Go.Proofs.YtacnkcojhlbkoaaDoor
namespace Go.Proofs.YtacnkcojhlbkoaaDoor
open Go.RowKit Go.Proofs.YtacnkcojhlbkoaaDoorW.PrintWords Go.Proofs.YtacnkcojhlbkoaaDoorW.PrintLast Go.Proofs.YtacnkcojhlbkoaaDoorW.PrintMore Go.Proofs.YtacnkcojhlbkoaaDoor.NL
/-- 'light' of one list, and of two, as the laws call it: out of an array that was just made. -/
def light1 (l0 : List Int) : Option Bool := if l0.length ≤ 9223372036854775807 then some (decide (l0.length ≤ 1100)) else none
def light2 (l0 l1 : List Int) : Option Bool := if l0.length ≤ 9223372036854775807 ∧ l1.length ≤ 9223372036854775807 then some (decide (l0.length ≤ 1100 ∧ l1.length ≤ 1100)) else none
theorem light_one {A0 : Option Addr} {c0 : Nat} {l0 : List Int} {r : Bool} (W : World) (t : TypeId) (h : light1 l0 = some r) :
    Calls Tryd.prog 10 #[.slice (some ⟨W.heap.size, 0, none⟩) 1 1] (W.alloc (.cells #[.slice A0 l0.length c0] t)) fun e w' => e = .returned (.bool r) ∧ Below (W.alloc (.cells #[.slice A0 l0.length c0] t)).heap.size (W.alloc (.cells #[.slice A0 l0.length c0] t)) w' := by
  unfold light1 at h
  split at h
  · rename_i hb
    simp only [Option.some.injEq] at h
    subst h
    refine (light_any W.heap.size 1 (fun _ => (A0, l0.length, c0)) _ (fun i hi => ?_) (by omega) (fun i hi => hb)).mono ?_
    · obtain rfl : i = 0 := by omega
      simp [go_sem]
    · rintro e w' ⟨rfl, rfl⟩
      refine ⟨?_, Below.refl _ _⟩
      congr 2
      rw [decide_eq_decide]
      exact ⟨fun h => h 0 (by omega), fun h _ _ => h⟩
  · cases h
theorem light_at1 {A0 : Option Addr} {c0 : Nat} {l0 : List Int} {r : Bool} (W : World) (t : TypeId) (g : Nat) (hg : g = W.heap.size) (h : light1 l0 = some r) :
    Calls Tryd.prog 10 #[.slice (some ⟨g, 0, none⟩) 1 1] (W.alloc (.cells #[.slice A0 l0.length c0] t)) fun e w' => e = .returned (.bool r) ∧ Below (W.alloc (.cells #[.slice A0 l0.length c0] t)).heap.size (W.alloc (.cells #[.slice A0 l0.length c0] t)) w' := by
  subst hg
  exact light_one W t h
theorem light_two {A0 A1 : Option Addr} {c0 c1 : Nat} {l0 l1 : List Int} {r : Bool} (W : World) (t : TypeId) (h : light2 l0 l1 = some r) :
    Calls Tryd.prog 10 #[.slice (some ⟨W.heap.size, 0, none⟩) 2 2] (W.alloc (.cells #[.slice A0 l0.length c0, .slice A1 l1.length c1] t)) fun e w' => e = .returned (.bool r) ∧ Below (W.alloc (.cells #[.slice A0 l0.length c0, .slice A1 l1.length c1] t)).heap.size (W.alloc (.cells #[.slice A0 l0.length c0, .slice A1 l1.length c1] t)) w' := by
  unfold light2 at h
  split at h
  · rename_i hb
    simp only [Option.some.injEq] at h
    subst h
    refine (light_any W.heap.size 2 (fun i => if i = 0 then (A0, l0.length, c0) else (A1, l1.length, c1)) _ (fun i hi => ?_) (by omega) (fun i hi => ?_)).mono ?_
    · have : i = 0 ∨ i = 1 := by omega
      rcases this with rfl | rfl <;> simp [go_sem]
    · have : i = 0 ∨ i = 1 := by omega
      rcases this with rfl | rfl
      · exact hb.1
      · exact hb.2
    · rintro e w' ⟨rfl, rfl⟩
      refine ⟨?_, Below.refl _ _⟩
      congr 2
      rw [decide_eq_decide]
      exact ⟨fun h => ⟨h 0 (by omega), h 1 (by omega)⟩, fun h i hi => by
        have : i = 0 ∨ i = 1 := by omega
        rcases this with rfl | rfl
        · exact h.1
        · exact h.2⟩
  · cases h
/-- A row of limbs that came in. -/
def IsRow (k : IntKind) (w : World) (a : Option Addr) (len cap : Nat) (zs : List Int) : Prop :=
  (a = none ∧ len = 0 ∧ cap = 0 ∧ zs = []) ∨
  ∃ x, a = some x ∧ len ≤ cap ∧ cap ≤ maxLen ∧ zs.length = cap ∧ (∀ i, i < zs.length → w.cell? (x.add i) = some (.int k (zs.getD i 0))) ∧ ∀ n ∈ zs, (Lit.int k n).wf = true
theorem nat_row {W : World} {a : Option Addr} {len cap : Nat} {z : List Int} (h : IsRow .u32 W a len cap z) : ∃ l : List Int, len = l.length ∧ Kd.C (Kd.int .u32) W a l.length l ∧ l.length ≤ cap ∧ Lim l ∧ l.length ≤ maxLen := by
  obtain ⟨l1, rfl, hr1, hm1, hw1, hc1⟩ := ReadsInt.ofRowC h
  refine ⟨l1, rfl, Kd.C_of_reads (d := (0 : Int)) (h1 := fun _ => rfl) hr1, hc1, ?_, hm1⟩
  intro n hn
  have := hw1 n hn
  simp [Lit.wf, IntKind.min, IntKind.max, IntKind.signed, IntKind.bits] at this
  omega
end Go.Proofs.YtacnkcojhlbkoaaDoor
