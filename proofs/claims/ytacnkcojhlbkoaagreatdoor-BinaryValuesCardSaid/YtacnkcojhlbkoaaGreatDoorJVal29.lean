/- The specification's At, Index, Value, SameDyad and SameInt, and the law's 'is', in the form of externs. The law's guard on sizes: whether no list is longer than 1100 elements. -/
import Derived.Test.YtacnkcojhlbkoaaGreatDoorJVal25
import Derived.Test.YtacnkcojhlbkoaaGreatDoorJVal26
import Derived.Test.YtacnkcojhlbkoaaGreatDoorJVal27
import Derived.Test.YtacnkcojhlbkoaaGreatDoorJVal28
import Derived.Test.YtacnkcojhlbkoaaGreatDoorJVal7
set_option linter.unusedSimpArgs false
set_option linter.unusedVariables false
set_option linter.unnecessarySimpa false
namespace Go.Proofs.YtacnkcojhlbkoaaGreatDoor
open Go.RowKit Go.Proofs.YtacnkcojhlbkoaaGreatDoorW.PrintWords Go.Proofs.YtacnkcojhlbkoaaGreatDoorW.PrintLast Go.Proofs.YtacnkcojhlbkoaaGreatDoorW.PrintMore Go.Proofs.YtacnkcojhlbkoaaGreatDoor.NL
set_option maxRecDepth 100000
set_option exponentiation.threshold 33000

def rAtR (f : Int) (ng : Bool) (l : List Int) : Int × Int × Bool × List Int × Int × Bool :=
  if endN f < val l then (0, 0, false, [], 0, false)
  else if val l = endN f then (f, 2, ng, [], 0, true)
  else if val l / 2 ^ oneN f = 0 then (f, 1, ng, l, fmL f, true)
  else (f, 1, ng, ofN (2 ^ oneN f + val l % 2 ^ oneN f), fmL f + ((val l / 2 ^ oneN f : Nat) : Int) - 1, true)
theorem rat_pre {f : Int} (hf : isFm f = true) : wrap64 (fmD f - 1) = (oneN f : Nat) ∧ oneN f ≤ 112 ∧ -100000 ≤ fmL f ∧ fmL f ≤ 0 := by
  rcases fm_cases hf with rfl | rfl | rfl | rfl | rfl <;> decide +kernel
theorem rat_k {q k : Nat} (hq : q ≤ 40002) (hk : k = q - 1) : 0 ≤ (k : Int) ∧ IntKind.u64.wrap (k : Int) = (k : Int) := by
  rw [IntKind.wrap_u64]; omega
theorem rAt_any {f : Int} {ng : Bool} {B : Option Addr} {d : Nat} {l : List Int} (w : World) (hf : isFm f = true) (hB : Kd.C (Kd.int .u32) w B l.length l) (hBc : l.length ≤ d) (la : Lim l) (hok : okN l = true) :
    Calls Tryz.prog 25 #[.int .i64 f, .agg #[.bool ng, .slice B l.length d]] w fun e w' => ∃ v3_ : Value, e = .returned (.agg #[.int .i64 (rAtR f ng l).1, .int .i64 (rAtR f ng l).2.1, .bool (rAtR f ng l).2.2.1, v3_, .int .i64 (rAtR f ng l).2.2.2.2.1, .bool (rAtR f ng l).2.2.2.2.2]) ∧ Kd.R (Kd.int .u32) 40 w' w.heap.size (fun _ => True) v3_ (rAtR f ng l).2.2.2.1 ∧ Below w.heap.size w w' := by
  obtain ⟨d1, o1, g1, g2⟩ := rat_pre hf
  obtain ⟨hlen, htop⟩ := okN_iff.1 hok
  have hu := u32L_mk la
  have hl : ofN (val l) = l := ofN_val la htop
  have hel : (ofN (endN f)).length ≤ 1024 := small_len (Nat.lt_trans (end_lt hf) (Nat.pow_lt_pow_right (by decide) (by decide : 130 < 1000))) (by omega)
  have hd := at_nums hf
  have HF := Lib.hid fun w' => rformat hf w'
  have HPl : Hid (∀ w', Calls Tryz.prog 68 #[.agg #[.int .i64 f, .int .i64 2, .bool false, .slice none 0 0, .int .i64 0]] w' (Gives (endN f) w')) := Lib.hid fun w' => by
    refine (rplace_inf (f := f) (ex := 0) (ng := false) (A := none) (n := 0) (c := 0) (x := 0) w' hf).mono fun e w' h => new_gives ?_
    have : placeN f 2 0 0 = endN f := by unfold placeN endN; rw [if_pos rfl]
    rwa [this] at h
  have HC : Hid (∀ A' n' c' w', Kd.C (Kd.int .u32) w' B l.length l → Kd.C (Kd.int .u32) w' A' n' (ofN (endN f)) → n' ≤ c' → Calls Tryz.prog 67 #[.slice B l.length d, .slice A' n' c'] w' fun e w'' => e = .returned (.int .i64 (rcmpN (val l) (endN f))) ∧ Below w'.heap.size w' w'') := Lib.hid fun A' n' c' w' g1 g2 g3 => by
    obtain rfl := len_ofN g2
    refine sorobanref01_Cmp.calls B d l A' c' (ofN (endN f)) _ w' g1 hBc g2 g3 ?_
    unfold sorobanref01_Cmp.f
    rw [hu, u32L_ofN, decide_eq_true ⟨by omega, by omega⟩, val_ofN]; rfl
  by_cases c1 : endN f < val l
  · have e1 : rAtR f ng l = (0, 0, false, [], 0, false) := by unfold rAtR; rw [if_pos c1]
    rw [e1]
    exact rat_gt w hB hBc HF HPl HC (by unfold rcmpN; rw [if_neg (by omega), if_pos (by omega)]; rfl)
  · by_cases c2 : val l = endN f
    · have e1 : rAtR f ng l = (f, 2, ng, [], 0, true) := by unfold rAtR; rw [if_neg c1, if_pos c2]
      have hc : rcmpN (val l) (endN f) = 0 := by unfold rcmpN; rw [if_neg (by omega), if_neg (by omega)]
      rw [hc] at HC
      rw [e1]
      exact rat_eq0 w hB hBc HF HPl HC (by decide) (by decide)
    · have hc : rcmpN (val l) (endN f) = -1 := by unfold rcmpN; rw [if_pos (by omega)]
      rw [hc] at HC
      have hq : val l / 2 ^ oneN f ≤ 40002 := Nat.le_trans (Nat.div_le_div_right (by omega)) (end_div hf)
      have hm := Nat.div_add_mod (val l) (2 ^ oneN f)
      have hmod := Nat.mod_lt (val l) (Nat.two_pow_pos (oneN f))
      have hT : 2 ^ oneN f < 2 ^ 1000 := Nat.pow_lt_pow_right (by decide) (by omega)
      obtain ⟨q, hqe⟩ : ∃ q, val l / 2 ^ oneN f = q := ⟨_, rfl⟩
      rw [hqe] at hq hm
      have hmc : 2 ^ oneN f * q = q * 2 ^ oneN f := Nat.mul_comm _ _
      obtain ⟨k, hk⟩ : ∃ k, k = q - 1 := ⟨_, rfl⟩
      obtain ⟨R, hR⟩ : ∃ R, R = val l - k * 2 ^ oneN f := ⟨_, rfl⟩
      have hle : k * 2 ^ oneN f ≤ val l := by
        have := Nat.mul_le_mul_right (2 ^ oneN f) (show k ≤ q by omega)
        omega
      have hk16 : k < 2 ^ 1000 := Nat.lt_of_lt_of_le (show k < 2 ^ 16 by omega) (pow_le3 (by omega))
      have e1 : rAtR f ng l = (f, 1, ng, ofN R, fmL f + (k : Int), true) := by
        unfold rAtR
        rw [if_neg c1, if_neg c2, hqe]
        by_cases h0 : q = 0
        · have : k = 0 := by omega
          rw [if_pos h0, hR, this, Nat.zero_mul, Nat.sub_zero, hl]; simp
        · have e3 : q = k + 1 := by omega
          have e2 : 2 ^ oneN f + val l % 2 ^ oneN f = R := by
            rw [hmc, e3, Nat.add_mul, Nat.one_mul] at hm; omega
          rw [if_neg h0, e2, e3, show fmL f + (((k + 1 : Nat)) : Int) - 1 = fmL f + (k : Int) by omega]
      rw [e1]
      obtain ⟨k1, k2⟩ := rat_k hq hk
      have k3 : max 0 (IntKind.i64.wrap ((q : Int) - 1)) = (k : Int) ∧ max 0 (wrap64 ((q : Int) - 1)) = (k : Int) := by
        rw [IntKind.wrap_i64]; unfold wrap64; omega
      have hw : wrap64 (fmL f + (k : Int)) = fmL f + (k : Int) ∧ IntKind.i64.wrap (fmL f + (k : Int)) = fmL f + (k : Int) := by
        rw [IntKind.wrap_i64]; unfold wrap64; omega
      refine rat_fin (D1 := (oneN f : Nat)) (Q := q) (q := (q : Int)) (k := k) (T := 2 ^ oneN f) (M := k * 2 ^ oneN f) (R := ofN R) w hB hBc HF HPl HC (by decide) (by decide) hd.1
        (Lib.hid fun w' g1 => ?_) (Lib.hid fun A' n' c' w' g1 g2 => rnumber_any w' (by omega) g1) k3.1 k3.2 k2 hw.1 hw.2
        (Lib.hid fun w' => rofn w' (by omega)) (Lib.hid fun w' => rpower w' (by omega)) (Lib.hid fun A n c A' n' c' w' g1 g2 g3 g4 => rmul_gives w' g1 g2 g3 g4 hk16 hT)
        (Lib.hid fun A' n' c' w' g1 g2 g3 => ?_)
      · refine (sorobanref01_Shr.calls B d l (oneN f : Nat) (ofN q) w' g1 hBc ?_).mono fun e w' h => new_gives h
        unfold sorobanref01_Shr.f
        rw [hu, decide_eq_true ⟨by omega, by omega, by omega⟩, Int.toNat_natCast, hqe]; rfl
      · obtain rfl := len_ofN g2
        refine sorobanref01_Sub.calls B d l A' c' (ofN (k * 2 ^ oneN f)) (ofN R) w' g1 hBc g2 g3 ?_
        unfold sorobanref01_Sub.f
        rw [hu, u32L_ofN, val_ofN, decide_eq_true ⟨by omega, hle⟩, hR]; rfl
def sorobanref05_Index.f (a0_0 a0_1 : Int) (a0_2 : Bool) (l0_3 : List Int) (a0_4 : Int) : Option (Bool × List Int) :=
  if isFm a0_0 = true ∧ (a0_1 = 2 ∨ (l0_3 = ofN (val l0_3) ∧ l0_3.length ≤ 31 ∧ fmL a0_0 ≤ a0_4 ∧ a0_4 ≤ fmH a0_0)) then some (a0_2 && decide (0 < placeN a0_0 a0_1 (val l0_3) a0_4), ofN (placeN a0_0 a0_1 (val l0_3) a0_4)) else none
theorem ofN_len_pos (n : Nat) : 0 < (ofN n).length ↔ 0 < n := by
  constructor
  · intro h
    apply Nat.pos_of_ne_zero
    rintro rfl
    rw [ofN_zero] at h; simp at h
  · intro h
    rw [ofN_pos (by omega)]; simp
theorem sorobanref05_Index.calls (a0_0 a0_1 : Int) (a0_2 : Bool) (A0_3 : Option Addr) (c0_3 : Nat) (l0_3 : List Int) (a0_4 : Int) (r1 : Bool) (r2 : List Int) (w : World) (hr0_3 : Kd.C (Kd.int .u32) w A0_3 l0_3.length l0_3) (hc0_3 : l0_3.length ≤ c0_3) (h : sorobanref05_Index.f a0_0 a0_1 a0_2 l0_3 a0_4 = some (r1, r2)) :
    Calls Tryz.prog 28 #[.agg #[.int .i64 a0_0, .int .i64 a0_1, .bool a0_2, .slice A0_3 l0_3.length c0_3, .int .i64 a0_4]] w fun e w' => ∃ v1_ : Value, e = .returned (.agg #[.bool r1, v1_]) ∧ Kd.R (Kd.int .u32) 40 w' w.heap.size (fun _ => True) v1_ r2 ∧ Below w.heap.size w w' := by
  unfold sorobanref05_Index.f at h
  split at h
  · rename_i hb
    simp only [Option.some.injEq, Prod.mk.injEq] at h
    refine XPl.sorobanref05_Index.calls a0_0 a0_1 a0_2 A0_3 c0_3 l0_3 a0_4 r1 r2 w hr0_3 hc0_3 ?_
    unfold XPl.sorobanref05_Index.f sorobanref05_place.f
    rw [if_pos hb]; simp only [Option.bind_some]
    rw [decide_eq_decide.2 (ofN_len_pos _), ← h.1, ← h.2]
    cases a0_2 <;> rfl
  · cases h
def sorobanref05_Value.f (a0_0 a0_1 : Int) (a0_2 : Bool) (l0_3 : List Int) (a0_4 : Int) : Option (Bool × List Int × Int) :=
  if (u32L l0_3 && okN l0_3) && decide (-100000 ≤ a0_4 ∧ a0_4 ≤ 100000) then some (if val l0_3 = 0 then (false, [], 0) else (a0_2, ofN (val l0_3 / 2 ^ tz (val l0_3)), a0_4 + (tz (val l0_3) : Nat))) else none
theorem sorobanref05_Value.calls (a0_0 a0_1 : Int) (a0_2 : Bool) (A0_3 : Option Addr) (c0_3 : Nat) (l0_3 : List Int) (a0_4 : Int) (r1 : Bool) (r2 : List Int) (r3 : Int) (w : World) (hr0_3 : Kd.C (Kd.int .u32) w A0_3 l0_3.length l0_3) (hc0_3 : l0_3.length ≤ c0_3) (h : sorobanref05_Value.f a0_0 a0_1 a0_2 l0_3 a0_4 = some (r1, r2, r3)) :
    Calls Tryz.prog 29 #[.agg #[.int .i64 a0_0, .int .i64 a0_1, .bool a0_2, .slice A0_3 l0_3.length c0_3, .int .i64 a0_4]] w fun e w' => ∃ v1_ : Value, e = .returned (.agg #[.bool r1, v1_, .int .i64 r3]) ∧ Kd.R (Kd.int .u32) 40 w' w.heap.size (fun _ => True) v1_ r2 ∧ Below w.heap.size w w' := by
  unfold sorobanref05_Value.f at h
  split at h
  · rename_i hb
    simp only [Bool.and_eq_true, decide_eq_true_eq] at hb
    obtain ⟨⟨hu, hok⟩, he⟩ := hb
    refine XPl.sorobanref05_Value.calls a0_0 a0_1 a0_2 A0_3 c0_3 l0_3 a0_4 r1 r2 r3 w hr0_3 hc0_3 ?_
    rw [← h]
    obtain ⟨hlen, htop⟩ := okN_iff.1 hok
    have la := u32L_of hu
    have hl : ofN (val l0_3) = l0_3 := ofN_val la htop
    unfold XPl.sorobanref05_Value.f
    by_cases h0 : val l0_3 = 0
    · have : l0_3.length = 0 := by rw [← hl, h0, ofN_zero]; rfl
      rw [if_pos (by omega), if_pos h0]
    · have : l0_3.length ≠ 0 := fun h => h0 (by rw [List.length_eq_zero_iff.1 h]; rfl)
      have hz : tz (val l0_3) ≤ 32 * 1024 := tz_le_len h0 (Nat.lt_of_lt_of_le (lt_blen _) (Nat.pow_le_pow_right (by decide) (blen_small_k la hlen)))
      rw [if_neg (by omega), if_neg h0]
      unfold sorobanref01_Zeros.f sorobanref01_Shr.f
      rw [hu, hok, if_pos (by rfl)]; simp only [Option.bind_some]
      rw [decide_eq_true ⟨by omega, by omega, by omega⟩, if_pos (by rfl), Int.toNat_natCast]; simp only [Option.bind_some]
      rw [w64 (by omega) (by omega)]
  · cases h
def sorobanref05_SameDyad.f (a0_0 : Bool) (l0_1 : List Int) (a0_2 : Int) (a1_0 : Bool) (l1_1 : List Int) (a1_2 : Int) : Option Bool := XSdy.sorobanref05_SameDyad.f a0_0 l0_1 a0_2 a1_0 l1_1 a1_2
theorem sorobanref05_SameDyad.calls (a0_0 : Bool) (A0_1 : Option Addr) (c0_1 : Nat) (l0_1 : List Int) (a0_2 : Int) (a1_0 : Bool) (A1_1 : Option Addr) (c1_1 : Nat) (l1_1 : List Int) (a1_2 : Int) (r : Bool) (w : World) (hr0_1 : Kd.C (Kd.int .u32) w A0_1 l0_1.length l0_1) (hc0_1 : l0_1.length ≤ c0_1) (hr1_1 : Kd.C (Kd.int .u32) w A1_1 l1_1.length l1_1) (hc1_1 : l1_1.length ≤ c1_1) (h : sorobanref05_SameDyad.f a0_0 l0_1 a0_2 a1_0 l1_1 a1_2 = some r) :
    Calls Tryz.prog 26 #[.agg #[.bool a0_0, .slice A0_1 l0_1.length c0_1, .int .i64 a0_2], .agg #[.bool a1_0, .slice A1_1 l1_1.length c1_1, .int .i64 a1_2]] w fun e w' => e = .returned (.bool r) ∧ Below w.heap.size w w' :=
  XSdy.sorobanref05_SameDyad.calls a0_0 A0_1 c0_1 l0_1 a0_2 a1_0 A1_1 c1_1 l1_1 a1_2 r w hr0_1 hc0_1 hr1_1 hc1_1 h
def sorobanref05_SameInt.f (a0_0 : Bool) (l0_1 : List Int) (a1_0 : Bool) (l1_1 : List Int) : Option Bool := XSdy.sorobanref05_SameInt.f a0_0 l0_1 a1_0 l1_1
theorem sorobanref05_SameInt.calls (a0_0 : Bool) (A0_1 : Option Addr) (c0_1 : Nat) (l0_1 : List Int) (a1_0 : Bool) (A1_1 : Option Addr) (c1_1 : Nat) (l1_1 : List Int) (r : Bool) (w : World) (hr0_1 : Kd.C (Kd.int .u32) w A0_1 l0_1.length l0_1) (hc0_1 : l0_1.length ≤ c0_1) (hr1_1 : Kd.C (Kd.int .u32) w A1_1 l1_1.length l1_1) (hc1_1 : l1_1.length ≤ c1_1) (h : sorobanref05_SameInt.f a0_0 l0_1 a1_0 l1_1 = some r) :
    Calls Tryz.prog 27 #[.agg #[.bool a0_0, .slice A0_1 l0_1.length c0_1], .agg #[.bool a1_0, .slice A1_1 l1_1.length c1_1]] w fun e w' => e = .returned (.bool r) ∧ Below w.heap.size w w' :=
  XSdy.sorobanref05_SameInt.calls a0_0 A0_1 c0_1 l0_1 a1_0 A1_1 c1_1 l1_1 r w hr0_1 hc0_1 hr1_1 hc1_1 h
def sorobanlaw05_is.f (a0_0 a0_1 : Int) (a0_2 : Bool) (l0_3 : List Int) (a0_4 a1 a2_0 a2_1 : Int) (a2_2 : Bool) (l2_3 : List Int) (a2_4 : Int) (a2_5 : Bool) (a3 : Int) : Option Bool := XIsb.sorobanlaw05_is.f a0_0 a0_1 a0_2 l0_3 a0_4 a1 a2_0 a2_1 a2_2 l2_3 a2_4 a2_5 a3
theorem sorobanlaw05_is.calls (a0_0 : Int) (a0_1 : Int) (a0_2 : Bool) (A0_3 : Option Addr) (c0_3 : Nat) (l0_3 : List Int) (a0_4 : Int) (a1 : Int) (a2_0 : Int) (a2_1 : Int) (a2_2 : Bool) (A2_3 : Option Addr) (c2_3 : Nat) (l2_3 : List Int) (a2_4 : Int) (a2_5 : Bool) (a3 : Int) (r : Bool) (w : World) (hr0_3 : Kd.C (Kd.int .u32) w A0_3 l0_3.length l0_3) (hc0_3 : l0_3.length ≤ c0_3) (hr2_3 : Kd.C (Kd.int .u32) w A2_3 l2_3.length l2_3) (hc2_3 : l2_3.length ≤ c2_3) (h : sorobanlaw05_is.f a0_0 a0_1 a0_2 l0_3 a0_4 a1 a2_0 a2_1 a2_2 l2_3 a2_4 a2_5 a3 = some r) :
    Calls Tryz.prog 18 #[.agg #[.int .i64 a0_0, .int .i64 a0_1, .bool a0_2, .slice A0_3 l0_3.length c0_3, .int .i64 a0_4], .int .i64 a1, .agg #[.int .i64 a2_0, .int .i64 a2_1, .bool a2_2, .slice A2_3 l2_3.length c2_3, .int .i64 a2_4, .bool a2_5], .int .i64 a3] w fun e w' => e = .returned (.bool r) ∧ Below w.heap.size w w' :=
  XIsb.sorobanlaw05_is.calls a0_0 a0_1 a0_2 A0_3 c0_3 l0_3 a0_4 a1 a2_0 a2_1 a2_2 A2_3 c2_3 l2_3 a2_4 a2_5 a3 r w hr0_3 hc0_3 hr2_3 hc2_3 h
end Go.Proofs.YtacnkcojhlbkoaaGreatDoor

set_option linter.unusedSimpArgs false
set_option linter.unusedVariables false
set_option linter.unnecessarySimpa false
namespace Go.Proofs.YtacnkcojhlbkoaaGreatDoor
open Go.RowKit Go.Proofs.YtacnkcojhlbkoaaGreatDoorW.PrintWords Go.Proofs.YtacnkcojhlbkoaaGreatDoorW.PrintLast Go.Proofs.YtacnkcojhlbkoaaGreatDoorW.PrintMore Go.Proofs.YtacnkcojhlbkoaaGreatDoor.NL
set_option maxRecDepth 100000

set_option maxHeartbeats 2000000 in
theorem light_any (b m : Nat) (f : Nat → Option Addr × Nat × Nat) (w : World) (hc : ∀ i, i < m → w.cell? ⟨b, i, none⟩ = some (.slice (f i).1 (f i).2.1 (f i).2.2)) (hm : m ≤ 1000) (hn : ∀ i, i < m → (f i).2.1 ≤ 9223372036854775807) :
    Calls Tryz.prog 5 #[.slice (some ⟨b, 0, none⟩) m m] w fun e w' => e = .returned (.bool (decide (∀ i, i < m → (f i).2.1 ≤ 1100))) ∧ w = w' := by
  have HC := Lib.hid hc
  have HN := Lib.hid hn
  clear hc hn
  go_enter Tryz.func5, Tryz.ntmps5
  go_wp2
  go_loop [3] (fun vi => ∃ k : Nat, k ≤ m ∧ vi = .int .i64 k ∧ ∀ i, i < k → (f i).2.1 ≤ 1100) (fun vi => m - (intOf vi).toNat)
  case atStart => exact ⟨0, by omega, rfl, fun i h => absurd h (by omega)⟩
  case round =>
    obtain ⟨k, hk, rfl, hv⟩ := hrel
    have HV := Lib.hid hv
    clear hv
    by_cases hlt : k < m
    · have hcell := HC.out k hlt
      have hn := HN.out k hlt
      have HE : Hid ((f k).2.1 ≤ 1100 → ∀ i, i < k + 1 → (f i).2.1 ≤ 1100) := Lib.hid fun h i hi => by
        by_cases e : i = k
        · rw [e]; exact h
        · exact HV.out i (by omega)
      have HF : Hid (1100 < (f k).2.1 → decide (∀ i, i < m → (f i).2.1 ≤ 1100) = false) := Lib.hid fun h => decide_eq_false fun h2 => by have := h2 k hlt; omega
      generalize (f k).2.1 = n at *
      generalize (f k).1 = A at *
      generalize (f k).2.2 = c at *
      by_cases h : n ≤ 1100
      · have d0 : decide ((1100 : Int) < n) = false := decide_eq_false (by omega)
        have HE2 := Lib.hid (HE.out h)
        clear HE HF h
        go_wp2
        go_round
        case rel => exact ⟨k + 1, by omega, by simp, HE2.out⟩
        case measure => simp [intOf]; omega
      · have d0 : decide ((1100 : Int) < n) = true := decide_eq_true (by omega)
        have HF2 := Lib.hid (HF.out (by omega))
        clear HE HF h
        go_wp2
        go_ret
        exact ⟨by rw [HF2.out]; rfl, rfl⟩
    · obtain rfl : k = m := by omega
      have HT : Hid (decide (∀ i, i < k → (f i).2.1 ≤ 1100) = true) := Lib.hid (decide_eq_true HV.out)
      go_wp2
      go_ret
      exact ⟨by rw [HT.out]; rfl, rfl⟩
end Go.Proofs.YtacnkcojhlbkoaaGreatDoor
namespace Go.Proofs.YtacnkcojhlbkoaaGreatDoor
open Go.RowKit Go.Proofs.YtacnkcojhlbkoaaGreatDoorW.PrintWords Go.Proofs.YtacnkcojhlbkoaaGreatDoorW.PrintLast Go.Proofs.YtacnkcojhlbkoaaGreatDoorW.PrintMore Go.Proofs.YtacnkcojhlbkoaaGreatDoor.NL
def light2 (l0 l1 : List Int) : Option Bool := if l0.length ≤ 9223372036854775807 ∧ l1.length ≤ 9223372036854775807 then some (decide (l0.length ≤ 1100 ∧ l1.length ≤ 1100)) else none
theorem light_two {A0 A1 : Option Addr} {c0 c1 : Nat} {l0 l1 : List Int} {r : Bool} (W : World) (t : TypeId) (h : light2 l0 l1 = some r) :
    Calls Tryz.prog 5 #[.slice (some ⟨W.heap.size, 0, none⟩) 2 2] (W.alloc (.cells #[.slice A0 l0.length c0, .slice A1 l1.length c1] t)) fun e w' => e = .returned (.bool r) ∧ Below (W.alloc (.cells #[.slice A0 l0.length c0, .slice A1 l1.length c1] t)).heap.size (W.alloc (.cells #[.slice A0 l0.length c0, .slice A1 l1.length c1] t)) w' := by
  unfold light2 at h
  split at h
  · rename_i hb
    simp only [Option.some.injEq] at h
    subst h
    refine (light_any W.heap.size 2 (fun i => if i = 0 then (A0, l0.length, c0) else (A1, l1.length, c1)) _ (fun i hi => ?_) (by omega) (fun i hi => ?_)).mono ?_
    · have : i = 0 ∨ i = 1 := by omega
      rcases this with rfl | rfl <;> simp [go_sem]
    · have : i = 0 ∨ i = 1 := by omega
      rcases this with rfl | rfl
      · exact hb.1
      · exact hb.2
    · rintro e w' ⟨rfl, rfl⟩
      refine ⟨?_, Below.refl _ _⟩
      congr 2
      rw [decide_eq_decide]
      exact ⟨fun h => ⟨h 0 (by omega), h 1 (by omega)⟩, fun h i hi => by
        have : i = 0 ∨ i = 1 := by omega
        rcases this with rfl | rfl
        · exact h.1
        · exact h.2⟩
  · cases h
/-- A row of limbs that came in. -/
def IsRow (k : IntKind) (w : World) (a : Option Addr) (len cap : Nat) (zs : List Int) : Prop :=
  (a = none ∧ len = 0 ∧ cap = 0 ∧ zs = []) ∨
  ∃ x, a = some x ∧ len ≤ cap ∧ cap ≤ maxLen ∧ zs.length = cap ∧ (∀ i, i < zs.length → w.cell? (x.add i) = some (.int k (zs.getD i 0))) ∧ ∀ n ∈ zs, (Lit.int k n).wf = true
theorem nat_row {W : World} {a : Option Addr} {len cap : Nat} {z : List Int} (h : IsRow .u32 W a len cap z) : ∃ l : List Int, len = l.length ∧ Kd.C (Kd.int .u32) W a l.length l ∧ l.length ≤ cap ∧ Lim l ∧ l.length ≤ maxLen := by
  obtain ⟨l1, rfl, hr1, hm1, hw1, hc1⟩ := ReadsInt.ofRowC h
  refine ⟨l1, rfl, Kd.C_of_reads (d := (0 : Int)) (h1 := fun _ => rfl) hr1, hc1, ?_, hm1⟩
  intro n hn
  have := hw1 n hn
  simp [Lit.wf, IntKind.min, IntKind.max, IntKind.signed, IntKind.bits] at this
  omega
end Go.Proofs.YtacnkcojhlbkoaaGreatDoor
