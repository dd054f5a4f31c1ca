/- The specification's Cmp, Sub, Shr, Bit and word: what they return, of numbers. The specification's low and Power: what they return, of numbers. -/
import Derived.Test.YtacnkcojhlbkoaaDoorJBits19
set_option linter.unusedSimpArgs false
set_option linter.unusedVariables false
set_option linter.unnecessarySimpa false
namespace Go.Proofs.YtacnkcojhlbkoaaDoor
open Go.RowKit Go.Proofs.YtacnkcojhlbkoaaDoorW.PrintWords Go.Proofs.YtacnkcojhlbkoaaDoorW.PrintLast Go.Proofs.YtacnkcojhlbkoaaDoorW.PrintMore Go.Proofs.YtacnkcojhlbkoaaDoor.NL
set_option maxRecDepth 100000

def rcmpN (x y : Nat) : Int := if x < y then -1 else if x > y then 1 else 0
theorem cmp_digit (x y : Nat) (B : Nat) (hB : 0 < B) (h : x / B = y / B) : rcmpN x y = rcmpN (x % B) (y % B) := by
  have h1 := Nat.div_add_mod x B
  have h2 := Nat.div_add_mod y B
  rw [h] at h1
  unfold rcmpN
  generalize B * (y / B) = t at *
  generalize x % B = u at *
  generalize y % B = v at *
  subst h1; subst h2
  by_cases hx : u < v
  · rw [if_pos (by omega), if_pos hx]
  · rw [if_neg (by omega), if_neg hx]
    by_cases hy : u > v
    · rw [if_pos (by omega), if_pos hy]
    · rw [if_neg (by omega), if_neg hy]
theorem cmp_l0 {a b : List Int} (la : Lim a) (lb : Lim b) : ∀ (t : Nat), t ≤ 1000000 → val a / W t = val b / W t →
    XAr.sorobanref01_Cmp.l0 (t + 1) a b ((t : Nat) - 1 : Int) = some (rcmpN (val a) (val b)) := by
  intro t
  induction t with
  | zero =>
    intro _ h
    rw [W_zero, Nat.div_one, Nat.div_one] at h
    unfold XAr.sorobanref01_Cmp.l0
    rw [if_neg (by omega), h]
    unfold rcmpN
    rw [if_neg (by omega), if_neg (by omega)]
  | succ t ih =>
    intro ht h
    unfold XAr.sorobanref01_Cmp.l0
    have e0 : (((t + 1 : Nat) : Int) - 1) = (t : Nat) := by omega
    rw [e0, if_pos (by omega), at_f la, at_f lb]
    simp only [Option.bind_some]
    have da := digit la t
    have db := digit lb t
    rw [W_succ, Nat.mul_comm, ← Nat.div_div_eq_div_mul, ← Nat.div_div_eq_div_mul] at h
    rw [da, db]
    have hd := cmp_digit _ _ 4294967296 (by omega) h
    have lift : rcmpN (val a / W t) (val b / W t) ≠ 0 → rcmpN (val a) (val b) = rcmpN (val a / W t) (val b / W t) := by
      intro hn
      unfold rcmpN at hn ⊢
      by_cases h1 : val a / W t < val b / W t
      · rw [if_pos h1, if_pos]
        rcases Nat.lt_or_ge (val a) (val b) with h | h
        · exact h
        · exact absurd (Nat.div_le_div_right (c := W t) h) (by omega)
      · rw [if_neg h1] at hn ⊢
        by_cases h2 : val a / W t > val b / W t
        · have h3 : val b < val a := by
            rcases Nat.lt_or_ge (val b) (val a) with h | h
            · exact h
            · exact absurd (Nat.div_le_div_right (c := W t) h) (by omega)
          rw [if_pos h2, if_neg (by omega), if_pos h3]
        · rw [if_neg h2] at hn
          exact absurd rfl hn
    by_cases h1 : val a / W t % 4294967296 < val b / W t % 4294967296
    · have hc : rcmpN (val a / W t) (val b / W t) = -1 := by rw [hd]; unfold rcmpN; rw [if_pos h1]
      rw [if_pos (by omega), lift (by rw [hc]; omega), hc]
    · rw [if_neg (by omega)]
      by_cases h2 : val a / W t % 4294967296 > val b / W t % 4294967296
      · have hc : rcmpN (val a / W t) (val b / W t) = 1 := by rw [hd]; unfold rcmpN; rw [if_neg h1, if_pos h2]
        rw [if_pos (by omega), lift (by rw [hc]; omega), hc]
      · rw [if_neg (by omega), w64]
        refine ih (by omega) ?_
        have p1 := Nat.div_add_mod (val a / W t) 4294967296
        have p2 := Nat.div_add_mod (val b / W t) 4294967296
        rw [h] at p1
        omega
def sorobanref01_Cmp.f (l0 l1 : List Int) : Option Int := if (u32L l0 && u32L l1) && decide (l0.length ≤ 100000 ∧ l1.length ≤ 100000) then some (rcmpN (val l0) (val l1)) else none
theorem sorobanref01_Cmp.calls (A0 : Option Addr) (c0 : Nat) (l0 : List Int) (A1 : Option Addr) (c1 : Nat) (l1 : List Int) (r : Int) (w : World) (hr0 : Kd.C (Kd.int .u32) w A0 l0.length l0) (hc0 : l0.length ≤ c0) (hr1 : Kd.C (Kd.int .u32) w A1 l1.length l1) (hc1 : l1.length ≤ c1) (h : sorobanref01_Cmp.f l0 l1 = some r) :
    Calls Tryd.prog 82 #[.slice A0 l0.length c0, .slice A1 l1.length c1] w fun e w' => e = .returned (.int .i64 r) ∧ Below w.heap.size w w' := by
  unfold sorobanref01_Cmp.f at h
  split at h
  · rename_i hb
    simp only [Bool.and_eq_true, decide_eq_true_eq] at hb
    obtain ⟨⟨h1, h2⟩, h3, h4⟩ := hb
    obtain ⟨m, hm⟩ : ∃ m : Nat, mx (l0.length : Int) (l1.length : Int) = (m : Nat) := by
      unfold mx
      split
      · exact ⟨_, rfl⟩
      · exact ⟨_, rfl⟩
    have hmb : m ≤ 100000 := by unfold mx at hm; split at hm <;> omega
    have hma : l0.length ≤ m ∧ l1.length ≤ m := by unfold mx at hm; split at hm <;> omega
    refine XAr.sorobanref01_Cmp.calls (m + 1) A0 c0 l0 A1 c1 l1 r w hr0 hc0 hr1 hc1 ?_
    rw [← h]
    unfold XAr.sorobanref01_Cmp.f
    rw [hm, w64]
    refine cmp_l0 (u32L_of h1) (u32L_of h2) m (by omega) ?_
    rw [Nat.div_eq_of_lt (Nat.lt_of_lt_of_le (val_lt (u32L_of h1)) (W_le hma.1)), Nat.div_eq_of_lt (Nat.lt_of_lt_of_le (val_lt (u32L_of h2)) (W_le hma.2))]
  · cases h

theorem sub_l0 {a b : List Int} (la : Lim a) (lb : Lim b) (hn : a.length ≤ 1000000) (hle : val b ≤ val a) : ∀ (t i : Nat) (x : List Int) (c : Nat), i + t = a.length → x.length = i → Lim x → c ≤ 1 → val x + val (b.take i) = val (a.take i) + W i * c →
    XAr.sorobanref01_Sub.l0 (t + 1) a b x (c : Nat) (i : Nat) = some (ofN (val a - val b)) := by
  intro t
  induction t with
  | zero =>
    intro i x c hi hx lx hc hv
    unfold XAr.sorobanref01_Sub.l0
    rw [if_neg (by omega), trim_f lx (by omega), Option.bind_some]
    have h2 : val b < W i := Nat.lt_of_le_of_lt hle (Nat.lt_of_lt_of_le (val_lt la) (W_le (by omega)))
    rw [val_take lb, Nat.mod_eq_of_lt h2, take_all (by omega)] at hv
    have h1 : val x < W i := by have := val_lt lx; rw [hx] at this; exact this
    have h4 : c = 0 := by
      rcases Nat.eq_zero_or_pos c with h | h
      · exact h
      · have : c = 1 := by omega
        subst this
        rw [Nat.mul_one] at hv; omega
    subst h4
    rw [show val x = val a - val b by omega]
  | succ t ih =>
    intro i x c hi hx lx hc hv
    unfold XAr.sorobanref01_Sub.l0
    rw [if_pos (by omega), at_f la, at_f lb, Option.bind_some, Option.bind_some, if_pos (by omega)]
    obtain ⟨a0, a1⟩ := lim_getD la i
    obtain ⟨b0, b1⟩ := lim_getD lb i
    have ea := val_take_succ a i
    have eb := val_take_succ b i
    have hp : (a.getD i 0).toNat < 4294967296 := by omega
    have hq : (b.getD i 0).toNat < 4294967296 := by omega
    generalize (a.getD i 0).toNat = p at *
    generalize (b.getD i 0).toNat = q at *
    clear a0 a1 b0 b1
    obtain ⟨lo, c', hlo, hc', he, e3, e4⟩ : ∃ lo c' : Nat, lo < 4294967296 ∧ c' ≤ 1 ∧ lo + q + c = p + 4294967296 * c' ∧
        (IntKind.u64.wrap (IntKind.u64.wrap ((p : Int) - (q : Int)) - (c : Int))) % 4294967296 = (lo : Nat) ∧ (IntKind.u64.wrap (IntKind.u64.wrap ((p : Int) - (q : Int)) - (c : Int))) / 9223372036854775808 = (c' : Nat) := by
      simp only [IntKind.wrap_u64]
      by_cases h : q + c ≤ p
      · exact ⟨p - (q + c), 0, by omega, by omega, by omega, by omega, by omega⟩
      · exact ⟨p + 4294967296 - (q + c), 1, by omega, by omega, by omega, by omega, by omega⟩
    have e5 : wrap64 ((i : Int) + 1) = ((i + 1 : Nat) : Int) := by rw [w64]; omega
    rw [e3, e4, e5]
    refine ih (i + 1) _ _ (by omega) (by simp [hx]) ?_ hc' ?_
    · refine lx.append ?_
      intro y hy
      simp at hy
      subst hy
      omega
    · rw [val_append, hx, ea, eb, W_succ]
      have hv1 : val [((lo : Nat) : Int)] = lo := by simp [val]
      rw [hv1]
      show val x + W i * lo + (val (b.take i) + W i * q) = val (a.take i) + W i * p + 4294967296 * W i * c'
      have h1 : W i * lo + W i * q + W i * c = W i * p + 4294967296 * W i * c' := by
        rw [← Nat.mul_add, ← Nat.mul_add, he, Nat.mul_add, Nat.mul_comm 4294967296 (W i), Nat.mul_assoc]
      omega
def sorobanref01_Sub.f (l0 l1 : List Int) : Option (List Int) := if (u32L l0 && u32L l1) && decide (l0.length ≤ 100000 ∧ val l1 ≤ val l0) then some (ofN (val l0 - val l1)) else none
theorem sorobanref01_Sub.calls (A0 : Option Addr) (c0 : Nat) (l0 : List Int) (A1 : Option Addr) (c1 : Nat) (l1 : List Int) (r : List Int) (w : World) (hr0 : Kd.C (Kd.int .u32) w A0 l0.length l0) (hc0 : l0.length ≤ c0) (hr1 : Kd.C (Kd.int .u32) w A1 l1.length l1) (hc1 : l1.length ≤ c1) (h : sorobanref01_Sub.f l0 l1 = some r) :
    Calls Tryd.prog 94 #[.slice A0 l0.length c0, .slice A1 l1.length c1] w fun e w' => ∃ v0_ : Value, e = .returned (v0_) ∧ Kd.R (Kd.int .u32) 77 w' w.heap.size (fun _ => True) v0_ r ∧ Below w.heap.size w w' := by
  unfold sorobanref01_Sub.f at h
  split at h
  · rename_i hb
    simp only [Bool.and_eq_true, decide_eq_true_eq] at hb
    obtain ⟨⟨h1, h2⟩, h3, h4⟩ := hb
    refine XAr.sorobanref01_Sub.calls (l0.length + 1) A0 c0 l0 A1 c1 l1 r w hr0 hc0 hr1 hc1 ?_
    rw [← h]
    unfold XAr.sorobanref01_Sub.f
    have e0 : val ([] : List Int) + val (l1.take 0) = val (l0.take 0) + W 0 * 0 := by rw [List.take_zero, List.take_zero, Nat.mul_zero]; rfl
    exact sub_l0 (u32L_of h1) (u32L_of h2) (by omega) h4 l0.length 0 [] 0 (by omega) rfl (by intro x hx; simp at hx) (by omega) e0
  · cases h

theorem shr_l0 {a : List Int} {s q r : Nat} (la : Lim a) (hr : r < 32) (hs : s = 32 * q + r) (hn : a.length ≤ 1000000) (hs2 : s ≤ 100000000) : ∀ (t k : Nat) (x : List Int), q + k + t = a.length → x.length = k → Lim x → val x = val a / 2 ^ s % W k →
    XAr.sorobanref01_Shr.l0 (t + 1) a (s : Nat) x ((q + k : Nat) : Int) = some (ofN (val a / 2 ^ s)) := by
  have et : Int.tmod ((s : Nat) : Int) 32 = (r : Nat) := by rw [Int.tmod_eq_emod_of_nonneg (by omega)]; omega
  intro t
  induction t with
  | zero =>
    intro k x hi hx lx hv
    unfold XAr.sorobanref01_Shr.l0
    rw [if_neg (by omega), trim_f lx (by omega), Option.bind_some, hv, Nat.mod_eq_of_lt]
    rw [hs, Nat.pow_add, ← W_two, ← Nat.div_div_eq_div_mul]
    refine Nat.lt_of_le_of_lt (Nat.div_le_self _ _) ?_
    rw [Nat.div_lt_iff_lt_mul (W_pos q), ← W_add]
    exact Nat.lt_of_lt_of_le (val_lt la) (W_le (by omega))
  | succ t ih =>
    intro k x hi hx lx hv
    unfold XAr.sorobanref01_Shr.l0
    have e5 : wrap64 (((q + k : Nat) : Int) + 1) = ((q + k + 1 : Nat) : Int) := by clear hv ih; rw [w64] <;> omega
    have c1 : ((q + k : Nat) : Int) < (a.length : Int) := by clear hv ih; omega
    have c2 : (0 : Int) ≤ ((r : Nat) : Int) := by clear hv ih; omega
    have c3 : x.length < 35184372088832 := by clear hv ih; omega
    have c4 : q + (k + 1) + t = a.length := by clear hv ih; omega
    rw [e5, if_pos c1, at_f la, at_f la, Option.bind_some, Option.bind_some, et, if_pos c2, if_pos c3]
    have hd := shr_digit la k q r hr
    rw [← hs] at hd
    rw [show k + q = q + k by omega] at hd
    obtain ⟨a0, a1⟩ := lim_getD la (q + k)
    obtain ⟨b0, b1⟩ := lim_getD la (q + k + 1)
    generalize (a.getD (q + k) 0) = u at *
    generalize (a.getD (q + k + 1) 0) = v at *
    have e1 : IntKind.u64.wrap (IntKind.u64.wrap (((v.toNat : Nat) : Int) * 4294967296) + ((u.toNat : Nat) : Int)) = ((u.toNat + 4294967296 * v.toNat : Nat) : Int) := by
      simp only [IntKind.wrap_u64]; omega
    have e2 : (shr .u64 ((u.toNat + 4294967296 * v.toNat : Nat) : Int) ((r : Nat) : Int)) % 4294967296 = ((val a / 2 ^ s / W k % 4294967296 : Nat) : Int) := by
      rw [← hd]
      unfold shr
      rw [Int.toNat_natCast, Nat.min_eq_left (by simp [IntKind.bits]; omega)]
      have hx : ((u.toNat + 4294967296 * v.toNat : Nat) : Int) / 2 ^ r = (((u.toNat + 4294967296 * v.toNat) / 2 ^ r : Nat) : Int) := by
        rw [Int.natCast_ediv, Int.natCast_pow]; rfl
      rw [hx]
      generalize (u.toNat + 4294967296 * v.toNat) / 2 ^ r = z
      clear hv ih hd hx
      omega
    rw [e1, e2]
    refine ih (k + 1) _ c4 (by simp [hx]) ?_ ?_
    · refine lx.append ?_
      intro y hy
      simp at hy
      subst hy
      clear hv ih
      generalize val a / 2 ^ s / W k = z
      omega
    · have hv1 : val [((val a / 2 ^ s / W k % 4294967296 : Nat) : Int)] = val a / 2 ^ s / W k % 4294967296 := by
        clear hv ih; simp only [val, Int.toNat_natCast]; omega
      rw [val_append, hx, hv1, hv, W_succ, Nat.mul_comm 4294967296 (W k), Nat.mod_mul]
theorem shr_f {a : List Int} {s : Nat} (la : Lim a) (hs : s ≤ 1000000) (hl : a.length ≤ 1000000) : XAr.sorobanref01_Shr.f (a.length + 1) a (s : Nat) = some (ofN (val a / 2 ^ s)) := by
  have et : wrap64 (Int.tdiv ((s : Nat) : Int) 32) = ((s / 32 : Nat) : Int) := by rw [Int.tdiv_eq_ediv_of_nonneg (by omega), w64]; omega
  unfold XAr.sorobanref01_Shr.f
  rw [et]
  by_cases h : s / 32 ≥ a.length
  · rw [if_pos (by omega), Nat.div_eq_of_lt, ofN_zero]
    refine Nat.lt_of_lt_of_le (val_lt la) ?_
    rw [show (4294967296 : Nat) = 2 ^ 32 by decide, ← Nat.pow_mul]
    exact Nat.pow_le_pow_right (by omega) (by omega)
  · rw [if_neg (by omega)]
    have hm : ∀ k n, XAr.sorobanref01_Shr.l0 k a (s : Nat) [] ((s / 32 + 0 : Nat) : Int) = some n → ∀ j, k ≤ j → XAr.sorobanref01_Shr.l0 j a (s : Nat) [] ((s / 32 + 0 : Nat) : Int) = some n := by
      intro k n hk j hj
      induction hj with
      | refl => exact hk
      | step _ ih => exact XAr.sorobanref01_Shr.mono_l _ _ _ _ _ _ ih
    exact hm _ _ (shr_l0 (q := s / 32) (r := s % 32) la (by omega) (by omega) hl (by omega) (a.length - s / 32) 0 [] (by omega) rfl (by intro x hx; simp at hx) (by rw [W_zero, Nat.mod_one]; rfl)) _ (by omega)
def sorobanref01_Shr.f (l0 : List Int) (a1 : Int) : Option (List Int) := if u32L l0 && decide (l0.length ≤ 1000000 ∧ 0 ≤ a1 ∧ a1 ≤ 1000000) then some (ofN (val l0 / 2 ^ a1.toNat)) else none
theorem sorobanref01_Shr.calls (A0 : Option Addr) (c0 : Nat) (l0 : List Int) (a1 : Int) (r : List Int) (w : World) (hr0 : Kd.C (Kd.int .u32) w A0 l0.length l0) (hc0 : l0.length ≤ c0) (h : sorobanref01_Shr.f l0 a1 = some r) :
    Calls Tryd.prog 58 #[.slice A0 l0.length c0, .int .i64 a1] w fun e w' => ∃ v0_ : Value, e = .returned (v0_) ∧ Kd.R (Kd.int .u32) 77 w' w.heap.size (fun _ => True) v0_ r ∧ Below w.heap.size w w' := by
  unfold sorobanref01_Shr.f at h
  split at h
  · rename_i hb
    simp only [Bool.and_eq_true, decide_eq_true_eq] at hb
    obtain ⟨h1, h2, h3, h4⟩ := hb
    obtain ⟨s, rfl⟩ := Int.eq_ofNat_of_zero_le h3
    refine XAr.sorobanref01_Shr.calls (l0.length + 1) A0 c0 l0 (s : Nat) r w hr0 hc0 ?_
    rw [← h, shr_f (u32L_of h1) (by omega) h2, Int.toNat_natCast]
  · cases h

theorem bit_f {a : List Int} (la : Lim a) (i : Nat) (hi : i ≤ 1000000) : XAr.sorobanref01_Bit.f a (i : Nat) = some ((val a / 2 ^ i % 2 : Nat) : Int) := by
  have et : wrap64 (Int.tdiv ((i : Nat) : Int) 32) = ((i / 32 : Nat) : Int) := by rw [Int.tdiv_eq_ediv_of_nonneg (by omega), w64]; omega
  have em : Int.tmod ((i : Nat) : Int) 32 = ((i % 32 : Nat) : Int) := by rw [Int.tmod_eq_emod_of_nonneg (by omega)]; omega
  unfold XAr.sorobanref01_Bit.f
  rw [et, em, at_f la, Option.bind_some, if_pos (by omega)]
  have hd := digit la (i / 32)
  obtain ⟨a0, a1⟩ := lim_getD la (i / 32)
  have hp : (a.getD (i / 32) 0).toNat < 4294967296 := by omega
  generalize (a.getD (i / 32) 0).toNat = p at *
  have hr : i % 32 < 32 := by omega
  have hs : 2 ^ i = 2 ^ (32 * (i / 32)) * 2 ^ (i % 32) := by rw [← Nat.pow_add]; congr 1; omega
  rw [hs, ← W_two, ← Nat.div_div_eq_div_mul]
  generalize val a / W (i / 32) = M at *
  generalize i % 32 = r at *
  unfold shr
  rw [Int.toNat_natCast, Nat.min_eq_left (by simp [IntKind.bits]; omega)]
  have hx : ((p : Nat) : Int) / 2 ^ r = ((p / 2 ^ r : Nat) : Int) := by rw [Int.natCast_ediv, Int.natCast_pow]; rfl
  have hy : p / 2 ^ r ≤ p := Nat.div_le_self _ _
  have hz : p / 2 ^ r % 2 = M / 2 ^ r % 2 := by
    have h2 : (4294967296 : Nat) = 2 ^ r * 2 ^ (32 - r) := by rw [← Nat.pow_add, show r + (32 - r) = 32 by omega]
    rw [hd, h2, Nat.mod_mul_right_div_self]
    exact Nat.mod_mod_of_dvd _ ⟨2 ^ (31 - r), by rw [Nat.mul_comm, ← Nat.pow_succ, show (31 - r).succ = 32 - r by omega]⟩
  rw [hx, Int.tmod_eq_emod_of_nonneg (Int.natCast_nonneg _), ← hz]
  generalize p / 2 ^ r = z
  congr 1
def sorobanref01_Bit.f (l0 : List Int) (a1 : Int) : Option Int := if u32L l0 && decide (0 ≤ a1 ∧ a1 ≤ 1000000) then some ((val l0 / 2 ^ a1.toNat % 2 : Nat) : Int) else none
theorem word_l0 {a : List Int} (la : Lim a) (s : Nat) (hs : s ≤ 900000) : ∀ (t i : Nat), i + t = 64 → XAr.sorobanref05_word.l0 (t + 1) a (s : Nat) ((val a / 2 ^ s % 2 ^ i : Nat) : Int) (i : Nat) = some ((val a / 2 ^ s % 2 ^ 64 : Nat) : Int) := by
  intro t
  induction t with
  | zero =>
    intro i hi
    obtain rfl : i = 64 := by omega
    unfold XAr.sorobanref05_word.l0
    rw [if_neg (by omega)]
  | succ t ih =>
    intro i hi
    unfold XAr.sorobanref05_word.l0
    have e0 : wrap64 (((s : Nat) : Int) + ((i : Nat) : Int)) = ((s + i : Nat) : Int) := by rw [w64]; omega
    have e5 : wrap64 ((i : Int) + 1) = ((i + 1 : Nat) : Int) := by rw [w64]; omega
    rw [if_pos (by omega), e0, bit_f la _ (by omega), Option.bind_some, if_pos (by omega), e5]
    have hm : val a / 2 ^ s % 2 ^ (i + 1) = val a / 2 ^ s % 2 ^ i + 2 ^ i * (val a / 2 ^ (s + i) % 2) := by
      rw [Nat.pow_succ, Nat.mod_mul, Nat.pow_add, Nat.div_div_eq_div_mul]
    have hl : val a / 2 ^ s % 2 ^ (i + 1) < 2 ^ 64 := Nat.lt_of_lt_of_le (Nat.mod_lt _ (Nat.two_pow_pos _)) (Nat.pow_le_pow_right (by omega) (by omega))
    have e1 : shl .u64 ((val a / 2 ^ (s + i) % 2 : Nat) : Int) ((i : Nat) : Int) = ((2 ^ i * (val a / 2 ^ (s + i) % 2) : Nat) : Int) := by
      unfold shl
      rw [Int.toNat_natCast, Nat.min_eq_left (by simp [IntKind.bits]; omega), cast_mul_pow, wu64, Nat.mul_comm]
      rw [Nat.mul_comm]
      omega
    rw [e1, ← Int.natCast_add, ← hm, wu64 (by omega)]
    exact ih (i + 1) (by omega)
theorem word_f {a : List Int} (la : Lim a) (s : Nat) (hs : s ≤ 900000) : XAr.sorobanref05_word.f 65 a (s : Nat) = some ((val a / 2 ^ s % 2 ^ 64 : Nat) : Int) := by
  have h := word_l0 la s hs 64 0 (by omega)
  rw [Nat.pow_zero, Nat.mod_one] at h
  exact h
def sorobanref05_word.f (l0 : List Int) (a1 : Int) : Option Int := if u32L l0 && decide (0 ≤ a1 ∧ a1 ≤ 900000) then some ((val l0 / 2 ^ a1.toNat % 18446744073709551616 : Nat) : Int) else none
theorem sorobanref05_word.calls (A0 : Option Addr) (c0 : Nat) (l0 : List Int) (a1 : Int) (r : Int) (w : World) (hr0 : Kd.C (Kd.int .u32) w A0 l0.length l0) (hc0 : l0.length ≤ c0) (h : sorobanref05_word.f l0 a1 = some r) :
    Calls Tryd.prog 52 #[.slice A0 l0.length c0, .int .i64 a1] w fun e w' => e = .returned (.int .u64 r) ∧ Below w.heap.size w w' := by
  unfold sorobanref05_word.f at h
  split at h
  · rename_i hb
    simp only [Bool.and_eq_true, decide_eq_true_eq] at hb
    obtain ⟨h1, h2, h3⟩ := hb
    obtain ⟨s, rfl⟩ := Int.eq_ofNat_of_zero_le h2
    refine (XAr.sorobanref05_word.calls 65 A0 c0 l0 (s : Nat) r w hr0 hc0 ?_).mono fun _ _ h => ⟨h.1, Drawn0.below h.2⟩
    rw [← h, word_f (u32L_of h1) _ (by omega), Int.toNat_natCast]
  · cases h
theorem sorobanref01_Bit.calls (A0 : Option Addr) (c0 : Nat) (l0 : List Int) (a1 : Int) (r : Int) (w : World) (hr0 : Kd.C (Kd.int .u32) w A0 l0.length l0) (hc0 : l0.length ≤ c0) (h : sorobanref01_Bit.f l0 a1 = some r) :
    Calls Tryd.prog 55 #[.slice A0 l0.length c0, .int .i64 a1] w fun e w' => e = .returned (.int .u64 r) ∧ Below w.heap.size w w' := by
  unfold sorobanref01_Bit.f at h
  split at h
  · rename_i hb
    simp only [Bool.and_eq_true, decide_eq_true_eq] at hb
    obtain ⟨h1, h2, h3⟩ := hb
    obtain ⟨s, rfl⟩ := Int.eq_ofNat_of_zero_le h2
    refine (XAr.sorobanref01_Bit.calls A0 c0 l0 (s : Nat) r w hr0 hc0 ?_).mono fun _ _ h => ⟨h.1, Drawn0.below h.2⟩
    rw [← h, bit_f (u32L_of h1) _ (by omega), Int.toNat_natCast]
  · cases h
end Go.Proofs.YtacnkcojhlbkoaaDoor

set_option linter.unusedSimpArgs false
set_option linter.unusedVariables false
set_option linter.unnecessarySimpa false
namespace Go.Proofs.YtacnkcojhlbkoaaDoor
open Go.RowKit Go.Proofs.YtacnkcojhlbkoaaDoorW.PrintWords Go.Proofs.YtacnkcojhlbkoaaDoorW.PrintLast Go.Proofs.YtacnkcojhlbkoaaDoorW.PrintMore Go.Proofs.YtacnkcojhlbkoaaDoor.NL
set_option maxRecDepth 100000
set_option exponentiation.threshold 33000

theorem rshr_gives {A : Option Addr} {c s : Nat} {l : List Int} (w : World) (h : Kd.C (Kd.int .u32) w A l.length l) (hc : l.length ≤ c) (hl : u32L l = true) (hn : l.length ≤ 1000) (hs : s ≤ 1000000) : Calls Tryd.prog 58 #[.slice A l.length c, .int .i64 (s : Nat)] w (Gives (val l / 2 ^ s) w) := by
  refine (sorobanref01_Shr.calls A c l (s : Nat) (ofN (val l / 2 ^ s)) w h hc (by
    unfold sorobanref01_Shr.f
    rw [hl, decide_eq_true ⟨by omega, by omega, by omega⟩, Int.toNat_natCast]; rfl)).mono ?_
  rintro e w' ⟨v, rfl, hv, hb⟩
  obtain ⟨A, c, rfl⟩ := Kd.R_slice hv
  exact ⟨A, _, c, rfl, Lib.hid ⟨(R_C hv).2, (R_C hv).1⟩, hb⟩
theorem rsub_new {A A' : Option Addr} {c n' c' y : Nat} {l : List Int} (w : World) (h : Kd.C (Kd.int .u32) w A l.length l) (hc : l.length ≤ c) (hl : u32L l = true) (hn : l.length ≤ 1000) (h' : Kd.C (Kd.int .u32) w A' n' (ofN y)) (hc' : n' ≤ c') (hy : y ≤ val l) : Calls Tryd.prog 94 #[.slice A l.length c, .slice A' n' c'] w (NewRow w (ofN (val l - y))) := by
  obtain rfl := len_ofN h'
  refine sorobanref01_Sub.calls A c l A' c' (ofN y) (ofN (val l - y)) w h hc h' hc' ?_
  unfold sorobanref01_Sub.f
  rw [hl, u32L_ofN, decide_eq_true ⟨by omega, by rw [val_ofN]; exact hy⟩, val_ofN]; rfl
theorem small_1000 {l : List Int} (hl : u32L l = true) (hn : l.length ≤ 30) : val l < 2 ^ 1000 := by
  refine Nat.lt_of_lt_of_le (val_lt (u32L_of hl)) ?_
  rw [show (4294967296 : Nat) = 2 ^ 32 by decide, ← Nat.pow_mul]
  exact pow_le3 (by omega)
set_option maxHeartbeats 4000000 in
theorem rlow_any {A : Option Addr} {c s : Nat} {l : List Int} (w : World) (h : Kd.C (Kd.int .u32) w A l.length l) (hc : l.length ≤ c) (hl : u32L l = true) (hn : l.length ≤ 30) (hs : s ≤ 1000) : Calls Tryd.prog 56 #[.slice A l.length c, .int .i64 (s : Nat)] w (NewRow w (ofN (val l % 2 ^ s))) := by
  have hq : val l / 2 ^ s * 2 ^ s ≤ val l := Nat.div_mul_le_self _ _
  have hm : val l % 2 ^ s = val l - val l / 2 ^ s * 2 ^ s := by have := Nat.div_add_mod (val l) (2 ^ s); rw [Nat.mul_comm] at this; omega
  have HC0 := Lib.hid h
  have HR : Hid (∀ w', Kd.C (Kd.int .u32) w' A l.length l → Calls Tryd.prog 58 #[.slice A l.length c, .int .i64 (s : Nat)] w' (Gives (val l / 2 ^ s) w')) := Lib.hid fun w' h => rshr_gives w' h hc hl (by omega) (by omega)
  have HS : Hid (∀ A n c w', Kd.C (Kd.int .u32) w' A n (ofN (val l / 2 ^ s)) → n ≤ c → Calls Tryd.prog 63 #[.slice A n c, .int .i64 (s : Nat)] w' (Gives (val l / 2 ^ s * 2 ^ s) w')) := Lib.hid fun A n c w' h hc => rshl_gives w' h hc (Nat.lt_of_le_of_lt (Nat.div_le_self _ _) (small_1000 hl hn)) (by omega)
  have HU : Hid (∀ A' n' c' w', Kd.C (Kd.int .u32) w' A l.length l → Kd.C (Kd.int .u32) w' A' n' (ofN (val l / 2 ^ s * 2 ^ s)) → n' ≤ c' → Calls Tryd.prog 94 #[.slice A l.length c, .slice A' n' c'] w' (NewRow w' (ofN (val l % 2 ^ s)))) := Lib.hid fun A' n' c' w' h h' hc' => by rw [hm]; exact rsub_new w' h hc hl (by omega) h' hc' hq
  clear hm hq hs hn hl h hc
  generalize ofN (val l % 2 ^ s) = R at *
  generalize val l / 2 ^ s * 2 ^ s = H at *
  generalize val l / 2 ^ s = Q at *
  go_enter Tryd.func56, Tryd.ntmps56
  go_wp2_with (first | (go_at_call 58; (with_reducible refine (HR.out _ (Kd.C_below HC0.out bel)).mono ?_); rintro e w1 ⟨A1, n1, c1, rfl, HV1, b1⟩; obtain ⟨hc1, hf1⟩ := bcell b1; (try simp only [dr_size, dr_cell] at hc1); (try simp only [dr_size, dr_frozen] at hf1); have hz1 := below_size b1; (try simp at hz1); (try have z01 : w.heap.size < w1.heap.size := (by omega))) | (go_at_call 63; (with_reducible refine (HS.out _ _ _ _ (Kd.C_below HV1.out.2 bel) HV1.out.1).mono ?_); rintro e w2 ⟨A2, n2, c2, rfl, HV2, b2⟩; obtain ⟨hc2, hf2⟩ := bcell b2; (try simp only [dr_size, dr_cell] at hc2); (try simp only [dr_size, dr_frozen] at hf2); have hz2 := below_size b2; (try simp at hz2); (try have z02 : w.heap.size < w2.heap.size := (by omega)); (try have yw12 : w1.heap.size < w2.heap.size := (by omega))) | (go_at_call 94; (with_reducible refine (HU.out _ _ _ _ (Kd.C_below HC0.out bel) (Kd.C_below HV2.out.2 bel) HV2.out.1).mono ?_); rintro e w3 ⟨v3, rfl, hv3, b3⟩; have HV3 := Lib.hid hv3; clear hv3; obtain ⟨hc3, hf3⟩ := bcell b3; (try simp only [dr_size, dr_cell] at hc3); (try simp only [dr_size, dr_frozen] at hf3); have hz3 := below_size b3; (try simp at hz3); (try have z03 : w.heap.size < w3.heap.size := (by omega)); (try have yw13 : w1.heap.size < w3.heap.size := (by omega)); (try have yw23 : w2.heap.size < w3.heap.size := (by omega))))
  all_goals
    go_ret
    exact ⟨_, rfl, Kd.R_lower HV3.out (by first | omega | (simp; omega)), bel⟩
def sorobanref05_low.f (l0 : List Int) (a1 : Int) : Option (List Int) := if u32L l0 && decide (l0.length ≤ 30 ∧ 0 ≤ a1 ∧ a1 ≤ 1000) then some (ofN (val l0 % 2 ^ a1.toNat)) else none
theorem sorobanref05_low.calls (A0 : Option Addr) (c0 : Nat) (l0 : List Int) (a1 : Int) (r : List Int) (w : World) (hr0 : Kd.C (Kd.int .u32) w A0 l0.length l0) (hc0 : l0.length ≤ c0) (h : sorobanref05_low.f l0 a1 = some r) :
    Calls Tryd.prog 56 #[.slice A0 l0.length c0, .int .i64 a1] w fun e w' => ∃ v0_ : Value, e = .returned (v0_) ∧ Kd.R (Kd.int .u32) 77 w' w.heap.size (fun _ => True) v0_ r ∧ Below w.heap.size w w' := by
  unfold sorobanref05_low.f at h
  split at h
  · rename_i hb
    simp only [Bool.and_eq_true, decide_eq_true_eq] at hb
    obtain ⟨h1, h2, h3, h4⟩ := hb
    obtain ⟨s, rfl⟩ := Int.eq_ofNat_of_zero_le h3
    simp only [Option.some.injEq, Int.toNat_natCast] at h
    subst h
    exact rlow_any w hr0 hc0 h1 h2 (by omega)
  · cases h
end Go.Proofs.YtacnkcojhlbkoaaDoor
