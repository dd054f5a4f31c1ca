/- Shifts and products of numbers, element by element. How many binary digits a number has, and how often 2 divides it. DERIVED: THE SHELF's CONTRACTS AT THIS DUMP, IN PLAIN WORDS (tools/lay-plain.mjs out of 'TrydShelf.lean', which tools/lay-shelf.mjs wrote): THE SAME DECLARATIONS UNDER THE SAME NAMES: 'import', 'namespace', 'open', 'def', 'theorem' AND NOTHING ELSE: no command of the shelf's: FOR A HAND-IN. nat's inner functions: size, shl, shr: what they compute, as numbers. -/
import Derived.Test.YtiplbpfdkcddlaaDoorJD3
import Derived.Lib.BitFns
import Derived.Lib.ItoaNum
import Derived.Lib.TrailingZeros
import Derived.Shelf.Small.Bits
import Derived.Test.YtiplbpfdkcddlaaDoorProg
set_option linter.unusedSimpArgs false
set_option linter.unusedVariables false
set_option linter.unnecessarySimpa false
namespace Go.Proofs.YtiplbpfdkcddlaaDoor.NL

theorem W_two (k : Nat) : W k = 2 ^ (32 * k) := by rw [Nat.pow_mul]
theorem val_zeros (n : Nat) : val (List.replicate n 0) = 0 := by
  induction n with
  | zero => rfl
  | succ n ih => rw [List.replicate_succ, val, ih]; rfl
/-- Moved up. -/
def ShlAt (a : List Int) (q r k : Nat) (cy : Int) (ys : List Int) : Prop := 0 ≤ cy ∧ cy < 2 ^ r ∧ Lim ys ∧ val (ys.take (q + k)) + W (q + k) * cy.toNat = W q * (val (a.take k) * 2 ^ r)
theorem ShlAt.start (a : List Int) (q r N : Nat) : ShlAt a q r 0 0 (List.replicate N 0) := by
  refine ⟨by omega, Int.pow_pos (by omega), lim_zeros N, ?_⟩
  rw [List.take_replicate, val_zeros]; simp [val]
theorem pow_toNat (r : Nat) : ((2 : Int) ^ r).toNat = 2 ^ r := by
  have : ((2 : Int) ^ r) = ((2 ^ r : Nat) : Int) := by simp
  rw [this, Int.toNat_natCast]
theorem pow_le32 {r : Nat} (hr : r < 32) : (2 : Int) ^ r ≤ 4294967296 := by
  have h : 2 ^ r ≤ 2 ^ 32 := Nat.pow_le_pow_right (by omega) (by omega)
  have e : ((2 : Int) ^ r) = ((2 ^ r : Nat) : Int) := by simp
  rw [e]; omega
theorem ShlAt.step {a ys : List Int} {q r k : Nat} {cy : Int} (la : Lim a) (h : ShlAt a q r k cy ys) (hk : q + k < ys.length) (hr : r < 32) :
    0 ≤ cy + a.getD k 0 * 2 ^ r ∧ cy + a.getD k 0 * 2 ^ r < 18446744073709551616 ∧ ShlAt a q r (k + 1) ((cy + a.getD k 0 * 2 ^ r) / 4294967296) (ys.set (q + k) ((cy + a.getD k 0 * 2 ^ r) % 4294967296)) := by
  obtain ⟨h0, h1, h2, h3⟩ := h
  obtain ⟨a0, a1⟩ := lim_getD la k
  have hp : (0 : Int) < 2 ^ r := Int.pow_pos (by omega)
  have hp32 := pow_le32 hr
  have s0 : 0 ≤ a.getD k 0 * 2 ^ r := Int.mul_nonneg a0 (by omega)
  have s1 : a.getD k 0 * 2 ^ r ≤ 4294967295 * 2 ^ r := Int.mul_le_mul_of_nonneg_right (by omega) (by omega)
  have s2 : (cy + a.getD k 0 * 2 ^ r) / 4294967296 < 2 ^ r := by
    apply Int.ediv_lt_of_lt_mul (by omega)
    omega
  refine ⟨by omega, by omega, by omega, s2, lim_set h2 (by omega), ?_⟩
  rw [← Nat.add_assoc, val_take_succ, val_take_succ a, take_set, getD_set _ _ _ hk, W_succ]
  have e : ((cy + a.getD k 0 * 2 ^ r) % 4294967296).toNat + 4294967296 * ((cy + a.getD k 0 * 2 ^ r) / 4294967296).toNat = cy.toNat + (a.getD k 0).toNat * 2 ^ r := by
    have e1 : (a.getD k 0 * 2 ^ r).toNat = (a.getD k 0).toNat * 2 ^ r := by rw [Int.toNat_mul a0 (by omega), pow_toNat]
    omega
  generalize ((cy + a.getD k 0 * 2 ^ r) % 4294967296).toNat = u at *
  generalize ((cy + a.getD k 0 * 2 ^ r) / 4294967296).toNat = v at *
  generalize (a.getD k 0).toNat = x at *
  have e2 : W (q + k) * u + 4294967296 * W (q + k) * v = W (q + k) * (u + 4294967296 * v) := by rw [Nat.mul_add]; congr 1; rw [Nat.mul_comm 4294967296, Nat.mul_assoc]
  rw [e, Nat.mul_add] at e2
  have e3 : W (q + k) * (x * 2 ^ r) = W q * (W k * x * 2 ^ r) := by rw [W_add, Nat.mul_assoc, Nat.mul_assoc]
  rw [Nat.add_mul, Nat.mul_add]
  omega
theorem ShlAt.done {a ys : List Int} {q r : Nat} {cy : Int} (h : ShlAt a q r a.length cy ys) (hy : ys.length = q + a.length + 1) (hr : r < 32) : 0 ≤ cy ∧ cy < 4294967296 ∧ Lim (ys.set (q + a.length) cy) ∧ val (ys.set (q + a.length) cy) = val a * 2 ^ (32 * q + r) := by
  obtain ⟨h0, h1, h2, h3⟩ := h
  have hp32 := pow_le32 hr
  refine ⟨h0, by omega, lim_set h2 (by omega), ?_⟩
  have e := val_take_succ (ys.set (q + a.length) cy) (q + a.length)
  rw [take_all (by simp; omega), take_set, getD_set _ _ _ (by omega), h3, take_all (Nat.le_refl _)] at e
  rw [e, W_two, Nat.pow_add, Nat.mul_left_comm]

/-- Moved down: an element. -/
theorem digit {a : List Int} (la : Lim a) (i : Nat) : (a.getD i 0).toNat = val a / W i % 4294967296 := by
  by_cases h : i < a.length
  · rw [val_get a i la h]; exact Int.toNat_natCast _
  · rw [List.getD_eq_getElem?_getD, List.getElem?_eq_none (by omega)]
    have : val a < W i := Nat.lt_of_lt_of_le (val_lt la) (W_le (by omega))
    rw [Nat.div_eq_of_lt this]; rfl
theorem two_digits (N r : Nat) (hr : r < 32) : (N % 4294967296 + 4294967296 * (N / 4294967296 % 4294967296)) / 2 ^ r % 4294967296 = N / 2 ^ r % 4294967296 := by
  have e : N % 4294967296 + 4294967296 * (N / 4294967296 % 4294967296) = N % (4294967296 * 4294967296) := by omega
  rw [e]
  have h2 : (4294967296 * 4294967296 : Nat) = 2 ^ r * (2 ^ (32 - r) * 4294967296) := by
    rw [← Nat.mul_assoc, ← Nat.pow_add, show r + (32 - r) = 32 by omega]
  rw [h2, Nat.mod_mul_right_div_self, Nat.mod_mul_left_mod]
/-- Some elements of a quotient by a power of 2. -/
def ShrAt (N k : Nat) (ys : List Int) : Prop := Lim ys ∧ val (ys.take k) = N % W k
theorem ShrAt.start (N n : Nat) : ShrAt N 0 (List.replicate n 0) := ⟨lim_zeros n, by rw [W_zero, Nat.mod_one]; simp [val]⟩
theorem ShrAt.step {N k : Nat} {ys : List Int} {x : Int} (h : ShrAt N k ys) (hk : k < ys.length) (x0 : 0 ≤ x) (hx : x.toNat = N / W k % 4294967296) : ShrAt N (k + 1) (ys.set k x) := by
  obtain ⟨h1, h2⟩ := h
  have : x.toNat < 4294967296 := by rw [hx]; exact Nat.mod_lt _ (by omega)
  refine ⟨lim_set h1 (by omega), ?_⟩
  rw [val_take_succ, take_set, getD_set _ _ _ hk, h2, hx, W_succ, Nat.mul_comm 4294967296, Nat.mod_mul]
theorem shr_digit {a : List Int} (la : Lim a) (k q r : Nat) (hr : r < 32) :
    ((a.getD (k + q) 0).toNat + 4294967296 * (a.getD (k + q + 1) 0).toNat) / 2 ^ r % 4294967296 = val a / 2 ^ (32 * q + r) / W k % 4294967296 := by
  rw [digit la, digit la, W_succ, Nat.mul_comm 4294967296 (W _), ← Nat.div_div_eq_div_mul, two_digits _ _ hr]
  congr 1
  rw [Nat.pow_add, ← W_two, W_add, Nat.div_div_eq_div_mul, Nat.div_div_eq_div_mul]
  congr 1
  rw [Nat.mul_comm (W k), Nat.mul_assoc, Nat.mul_comm (W k), ← Nat.mul_assoc]
theorem ShrAt.done {a ys : List Int} {q r : Nat} (la : Lim a) (h : ShrAt (val a / 2 ^ (32 * q + r)) (a.length - q) ys) (hy : ys.length = a.length - q) (_hq : q ≤ a.length) : val ys = val a / 2 ^ (32 * q + r) := by
  obtain ⟨_, h2⟩ := h
  rw [take_all (by omega)] at h2
  rw [h2, Nat.mod_eq_of_lt]
  rw [Nat.pow_add, ← W_two, ← Nat.div_div_eq_div_mul]
  refine Nat.lt_of_le_of_lt (Nat.div_le_self _ _) ?_
  rw [Nat.div_lt_iff_lt_mul (W_pos q), ← W_add]
  refine Nat.lt_of_lt_of_le (val_lt la) (W_le (by omega))

theorem val_set {ys : List Int} {j : Nat} {x : Int} (h : j < ys.length) : val (ys.set j x) + W j * (ys.getD j 0).toNat = val ys + W j * x.toNat := by
  have e1 : val ys = val (ys.take (j + 1)) + W (j + 1) * val (ys.drop (j + 1)) := by
    have := val_append (ys.take (j + 1)) (ys.drop (j + 1))
    rw [List.take_append_drop, List.length_take, Nat.min_eq_left (by omega)] at this
    exact this
  have e2 : val (ys.set j x) = val ((ys.set j x).take (j + 1)) + W (j + 1) * val ((ys.set j x).drop (j + 1)) := by
    have := val_append ((ys.set j x).take (j + 1)) ((ys.set j x).drop (j + 1))
    rw [List.take_append_drop, List.length_take, Nat.min_eq_left (by simp; omega)] at this
    exact this
  have e3 : (ys.set j x).drop (j + 1) = ys.drop (j + 1) := List.drop_set_of_lt (by omega)
  rw [e1, e2, e3, val_take_succ, val_take_succ, take_set, getD_set _ _ _ h]
  omega
theorem getD_set_ne {ys : List Int} {i j : Nat} {x : Int} (h : i ≠ j) : (ys.set i x).getD j 0 = ys.getD j 0 := by
  rw [List.getD_eq_getElem?_getD, List.getD_eq_getElem?_getD, List.getElem?_set_ne h]
/-- A product, i rows and k elements of the next one. -/
def MulAt (a b : List Int) (i k : Nat) (cy : Int) (ys : List Int) : Prop :=
  0 ≤ cy ∧ cy < 4294967296 ∧ Lim ys ∧ (∀ j, i + b.length ≤ j → ys.getD j 0 = 0) ∧ val ys + W (i + k) * cy.toNat = val (a.take i) * val b + W i * (a.getD i 0).toNat * val (b.take k)
theorem MulAt.start (a b : List Int) (N : Nat) : MulAt a b 0 0 0 (List.replicate N 0) := by
  refine ⟨by omega, by omega, lim_zeros N, fun j _ => ?_, by rw [val_zeros]; simp [val]⟩
  rw [List.getD_eq_getElem?_getD]
  by_cases h : j < N <;> simp [h]
theorem mul_bound {x y u c : Int} (x0 : 0 ≤ x) (x1 : x < 4294967296) (y0 : 0 ≤ y) (y1 : y < 4294967296) (u0 : 0 ≤ u) (u1 : u < 4294967296) (c0 : 0 ≤ c) (c1 : c < 4294967296) :
    0 ≤ x * y ∧ x * y ≤ 18446744065119617025 ∧ 0 ≤ c + (x * y + u) ∧ c + (x * y + u) < 18446744073709551616 := by
  have h0 : 0 ≤ x * y := Int.mul_nonneg x0 y0
  have h1 : x * y ≤ 4294967295 * 4294967295 := Int.mul_le_mul (by omega) (by omega) y0 (by omega)
  omega
theorem MulAt.step {a b ys : List Int} {i k : Nat} {cy : Int} (la : Lim a) (lb : Lim b) (h : MulAt a b i k cy ys) (hk : k < b.length) (hy : i + k < ys.length) :
    MulAt a b i (k + 1) ((cy + (a.getD i 0 * b.getD k 0 + ys.getD (i + k) 0)) / 4294967296) (ys.set (i + k) ((cy + (a.getD i 0 * b.getD k 0 + ys.getD (i + k) 0)) % 4294967296)) := by
  obtain ⟨h0, h1, h2, h4, h3⟩ := h
  obtain ⟨x0, x1⟩ := lim_getD la i
  obtain ⟨y0, y1⟩ := lim_getD lb k
  obtain ⟨u0, u1⟩ := lim_getD h2 (i + k)
  have hb := mul_bound x0 x1 y0 y1 u0 u1 h0 h1
  have e0 := val_set (x := (cy + (a.getD i 0 * b.getD k 0 + ys.getD (i + k) 0)) % 4294967296) hy
  refine ⟨by omega, by omega, lim_set h2 (by omega), fun j hj => by rw [getD_set_ne (by omega)]; exact h4 j hj, ?_⟩
  rw [val_take_succ b, ← Nat.add_assoc, W_succ]
  have exy : (a.getD i 0 * b.getD k 0).toNat = (a.getD i 0).toNat * (b.getD k 0).toNat := Int.toNat_mul x0 y0
  have e : ((cy + (a.getD i 0 * b.getD k 0 + ys.getD (i + k) 0)) % 4294967296).toNat + 4294967296 * ((cy + (a.getD i 0 * b.getD k 0 + ys.getD (i + k) 0)) / 4294967296).toNat = cy.toNat + (a.getD i 0).toNat * (b.getD k 0).toNat + (ys.getD (i + k) 0).toNat := by
    rw [← exy]; omega
  generalize ((cy + (a.getD i 0 * b.getD k 0 + ys.getD (i + k) 0)) % 4294967296) = lo at *
  generalize ((cy + (a.getD i 0 * b.getD k 0 + ys.getD (i + k) 0)) / 4294967296) = hi at *
  generalize (ys.getD (i + k) 0).toNat = u at *
  generalize (a.getD i 0).toNat = x at *
  generalize (b.getD k 0).toNat = y at *
  have e1 : W (i + k) * (lo.toNat + 4294967296 * hi.toNat) = W (i + k) * (cy.toNat + x * y + u) := by rw [e]
  rw [Nat.mul_add, Nat.mul_add, Nat.mul_add] at e1
  have e2 : W (i + k) * (4294967296 * hi.toNat) = 4294967296 * W (i + k) * hi.toNat := by rw [Nat.mul_comm 4294967296 (W _), Nat.mul_assoc]
  have e3 : W (i + k) * (x * y) = W i * x * (W k * y) := by
    rw [W_add]; simp only [Nat.mul_assoc, Nat.mul_left_comm, Nat.mul_comm]
  rw [Nat.mul_add]
  omega
theorem MulAt.next {a b ys : List Int} {i : Nat} {cy : Int} (h : MulAt a b i b.length cy ys) (hy : i + b.length < ys.length) : MulAt a b (i + 1) 0 0 (ys.set (i + b.length) cy) := by
  obtain ⟨h0, h1, h2, h4, h3⟩ := h
  have e0 := val_set (x := cy) hy
  rw [h4 (i + b.length) (Nat.le_refl _)] at e0
  refine ⟨by omega, by omega, lim_set h2 (by omega), fun j hj => by rw [getD_set_ne (by omega)]; exact h4 j (by omega), ?_⟩
  rw [take_all (Nat.le_refl _)] at h3
  rw [val_take_succ a, Nat.add_mul, List.take_zero, show val ([] : List Int) = 0 from rfl]
  rw [show ((0 : Int).toNat) = 0 from rfl] at e0 ⊢
  omega
theorem MulAt.done {a b ys : List Int} {cy : Int} (h : MulAt a b a.length 0 cy ys) (hc : cy = 0) : Lim ys ∧ val ys = val a * val b := by
  obtain ⟨h0, h1, h2, h4, h3⟩ := h
  rw [hc, take_all (Nat.le_refl _)] at h3
  exact ⟨h2, by simpa [val] using h3⟩
/-- Three products of halves. -/
theorem halves_mul (ah al bh bl w : Nat) : (ah * w + al) * (bh * w + bl) = ah * bh * (w * w) + ((al + ah) * (bl + bh) - ah * bh - al * bl) * w + al * bl := by
  have e : (al + ah) * (bl + bh) = al * bh + ah * bl + (ah * bh + al * bl) := by simp only [Nat.add_mul, Nat.mul_add]; omega
  have e2 : (al + ah) * (bl + bh) - ah * bh - al * bl = al * bh + ah * bl := by omega
  rw [e2]
  simp only [Nat.add_mul, Nat.mul_add, Nat.mul_assoc, Nat.mul_left_comm, Nat.mul_comm]
  omega
theorem halves_le (ah al bh bl : Nat) : ah * bh ≤ (al + ah) * (bl + bh) ∧ al * bl ≤ (al + ah) * (bl + bh) - ah * bh := by
  have e : (al + ah) * (bl + bh) = al * bh + ah * bl + (ah * bh + al * bl) := by simp only [Nat.add_mul, Nat.mul_add]; omega
  omega
/-- The elements behind some, and those. -/
theorem ofN_div {n k : Nat} : (ofN n).drop k = ofN (n / W k) := by
  induction k generalizing n with
  | zero => simp [W_zero]
  | succ k ih =>
    by_cases h : n = 0
    · subst h; simp [ofN_zero]
    · rw [ofN_pos h, List.drop_succ_cons, ih, W_succ, Nat.div_div_eq_div_mul]
theorem val_take {a : List Int} (la : Lim a) (k : Nat) : val (a.take k) = val a % W k := by
  have := val_append (a.take k) (a.drop k)
  rw [List.take_append_drop] at this
  have l : Lim (a.take k) := fun x hx => la x (List.mem_of_mem_take hx)
  have h1 := val_lt l
  by_cases h : k ≤ a.length
  · rw [List.length_take, Nat.min_eq_left h] at this h1
    rw [this, Nat.add_mul_mod_self_left, Nat.mod_eq_of_lt h1]
  · rw [take_all (by omega), Nat.mod_eq_of_lt]
    exact Nat.lt_of_lt_of_le (val_lt la) (W_le (by omega))
end Go.Proofs.YtiplbpfdkcddlaaDoor.NL

set_option linter.unusedSimpArgs false
set_option linter.unusedVariables false
set_option linter.unnecessarySimpa false
namespace Go.Proofs.YtiplbpfdkcddlaaDoor.NL

/-- How many binary digits. -/
def blen (n : Nat) : Nat := if n = 0 then 0 else n.log2 + 1
theorem blen_zero : blen 0 = 0 := rfl
theorem lt_blen (n : Nat) : n < 2 ^ blen n := by
  unfold blen
  split
  · rename_i h; subst h; decide
  · exact Nat.lt_log2_self
theorem blen_ge {n : Nat} (h : n ≠ 0) : 2 ^ (blen n - 1) ≤ n := by
  unfold blen
  rw [if_neg h, Nat.add_sub_cancel]
  exact Nat.log2_self_le h
theorem blen_pos {n : Nat} (h : n ≠ 0) : 0 < blen n := by unfold blen; rw [if_neg h]; omega
theorem blen_of {n k : Nat} (h1 : 2 ^ k ≤ n) (h2 : n < 2 ^ (k + 1)) : blen n = k + 1 := by
  have h0 : n ≠ 0 := by have := Nat.two_pow_pos k; omega
  unfold blen
  rw [if_neg h0]
  have a := Nat.log2_self_le h0
  have b := Nat.lt_log2_self (n := n)
  have c : n.log2 < k + 1 := (Nat.pow_lt_pow_iff_right (a := 2) (by omega)).1 (by omega)
  have d : k < n.log2 + 1 := (Nat.pow_lt_pow_iff_right (a := 2) (by omega)).1 (by omega)
  omega
theorem blen_le {n k : Nat} : blen n ≤ k ↔ n < 2 ^ k := by
  constructor
  · intro h
    exact Nat.lt_of_lt_of_le (lt_blen n) (Nat.pow_le_pow_right (by omega) h)
  · intro h
    by_cases h0 : n = 0
    · subst h0; rw [blen_zero]; omega
    · have h1 := blen_ge h0
      have h2 := blen_pos h0
      have : blen n - 1 < k := (Nat.pow_lt_pow_iff_right (a := 2) (by omega)).1 (by omega)
      omega
theorem blen_mul {n m k : Nat} (h0 : n ≠ 0) (hm : m < 2 ^ k) : blen (n * 2 ^ k + m) = blen n + k := by
  have h1 := blen_ge h0
  have h2 := lt_blen n
  have h3 := blen_pos h0
  obtain ⟨j, hj⟩ : ∃ j, blen n = j + 1 := ⟨blen n - 1, by omega⟩
  rw [hj] at h1 h2 ⊢
  rw [Nat.add_sub_cancel] at h1
  rw [show j + 1 + k = (j + k) + 1 by omega]
  apply blen_of
  · rw [Nat.pow_add]
    have := Nat.mul_le_mul_right (2 ^ k) h1
    omega
  · rw [show j + k + 1 = (j + 1) + k by omega, Nat.pow_add]
    have := Nat.mul_le_mul_right (2 ^ k) (Nat.succ_le_of_lt h2)
    rw [Nat.succ_mul] at this
    omega
theorem blen_div {n k : Nat} (h : 2 ^ k ≤ n) : blen n = k + blen (n / 2 ^ k) := by
  have hp := Nat.two_pow_pos k
  have e : n / 2 ^ k * 2 ^ k + n % 2 ^ k = n := Nat.div_add_mod' n (2 ^ k)
  have h0 : n / 2 ^ k ≠ 0 := by
    have := Nat.div_pos h hp
    omega
  have := blen_mul h0 (Nat.mod_lt n hp)
  rw [e] at this
  omega

theorem blen_bitLen {x : Nat} (h : x < 18446744073709551616) : Lib.bitLen x = blen x := by
  by_cases h0 : x = 0
  · subst h0; rfl
  · obtain ⟨h1, h2, h3⟩ := Lib.bitLenAux_bounds 64 x h h0
    obtain ⟨k, hk⟩ : ∃ k, Lib.bitLenAux 64 x = k + 1 := ⟨Lib.bitLenAux 64 x - 1, by omega⟩
    rw [hk] at h2 h3
    rw [Nat.add_sub_cancel] at h2
    show Lib.bitLenAux 64 x = _
    rw [hk, blen_of h2 h3]
theorem blen_one : blen 1 = 1 := by decide
theorem blen_two_pow (k : Nat) : blen (2 ^ k) = k + 1 := blen_of (Nat.le_refl _) (Nat.pow_lt_pow_right (by omega) (by omega))
theorem blen_mul_pow {n : Nat} (h0 : n ≠ 0) (k : Nat) : blen (n * 2 ^ k) = blen n + k := by
  have := blen_mul (m := 0) (k := k) h0 (Nat.two_pow_pos k)
  simpa using this
theorem blen_mono {m n : Nat} (h : m ≤ n) : blen m ≤ blen n := blen_le.2 (Nat.lt_of_le_of_lt h (lt_blen n))
theorem blen_eq_zero {n : Nat} : blen n = 0 ↔ n = 0 := by
  constructor
  · intro h
    have := lt_blen n
    rw [h] at this
    omega
  · rintro rfl; rfl
/-- The digits of a number by its elements. -/
theorem blen_val {a : List Int} (la : Lim a) (ta : Top a) (h : 0 < a.length) : blen (val a) = 32 * (a.length - 1) + blen (a.getD (a.length - 1) 0).toNat := by
  have hd := digit la (a.length - 1)
  have hlt := val_lt la
  have hlt : val a < W (a.length - 1 + 1) := by rw [show a.length - 1 + 1 = a.length by omega]; exact hlt
  rw [W_succ, Nat.mul_comm] at hlt
  have hq : val a / W (a.length - 1) < 4294967296 := (Nat.div_lt_iff_lt_mul (W_pos _)).2 (by rw [Nat.mul_comm]; exact hlt)
  rw [Nat.mod_eq_of_lt hq] at hd
  have hge : W (a.length - 1) ≤ val a := val_top la ta (by intro h2; rw [h2] at h; simp at h)
  rw [hd, W_two] 
  rw [W_two] at hge
  exact blen_div hge
/-- How often 2 divides a number; 0 for 0. -/
def tz (n : Nat) : Nat := if h : n = 0 ∨ n % 2 = 1 then 0 else tz (n / 2) + 1
termination_by n
decreasing_by omega
theorem tz_odd {n : Nat} (h : n % 2 = 1) : tz n = 0 := by rw [tz, dif_pos (.inr h)]
theorem tz_zero : tz 0 = 0 := by rw [tz, dif_pos (.inl rfl)]
theorem tz_even {n : Nat} (h0 : n ≠ 0) : tz (n * 2) = tz n + 1 := by
  rw [tz, dif_neg (by omega), Nat.mul_div_cancel _ (by omega)]
theorem tz_mul_pow {n : Nat} (h0 : n ≠ 0) (k : Nat) : tz (n * 2 ^ k) = tz n + k := by
  induction k with
  | zero => simp
  | succ k ih =>
    rw [Nat.pow_succ, ← Nat.mul_assoc, tz_even (by have := Nat.two_pow_pos k; exact Nat.mul_ne_zero h0 (by omega)), ih]; omega
theorem tz_of {m k : Nat} (h : m % 2 = 1) : tz (m * 2 ^ k) = k := by rw [tz_mul_pow (by omega), tz_odd h]; omega
/-- A number is an odd one times a power. -/
theorem tz_spec {n : Nat} (h0 : n ≠ 0) : ∃ m, m % 2 = 1 ∧ n = m * 2 ^ tz n := by
  induction n using Nat.strongRecOn with
  | _ n ih =>
    rcases Nat.mod_two_eq_zero_or_one n with h | h
    · obtain ⟨k, rfl⟩ : ∃ k, n = k * 2 := ⟨n / 2, by omega⟩
      obtain ⟨m, h1, h2⟩ := ih k (by omega) (by omega)
      refine ⟨m, h1, ?_⟩
      rw [tz_even (by omega), Nat.pow_succ, ← Nat.mul_assoc, ← h2]
    · exact ⟨n, h, by rw [tz_odd h]; simp⟩
theorem ctz_tz {x : Nat} (h0 : x ≠ 0) (h : x < 4294967296) : Lib.ctz 32 x = tz x := by
  unfold Lib.ctz
  rw [if_neg h0]
  obtain ⟨m, h1, h2⟩ := Lib.ctzFrom_spec 32 x (by omega) h
  generalize Lib.ctzFrom 32 x = k at *
  rw [h1, Nat.mul_comm, tz_of (by omega)]
end Go.Proofs.YtiplbpfdkcddlaaDoor.NL

namespace Go.Proofs
open Go.Shelf
def Tryd.lays128_ren : Go.Shelf.Ren := ⟨fun | 128 => 74 | n => n, fun | 51 => 46 | 3 => 3 | 4 => 4 | 46 => 126 | 5 => 5 | 9 => 9 | n => n, fun | n => n⟩
theorem Tryd.lays128 : Go.Proofs.Lays.n128 Tryd.prog Tryd.lays128_ren := {
  mixed := by kernel_rfl
  f128 := Tryd.func74.trans (congrArg some (by kernel_rfl))
  t3 := Tryd.underlying3
  a3 := Tryd.isAgg3
  z3 := Tryd.sizeOf3
  v3 := Tryd.zeroValue3
  t4 := Tryd.underlying4
  a4 := Tryd.isAgg4
  z4 := Tryd.sizeOf4
  v4 := Tryd.zeroValue4
  t5 := Tryd.underlying5
  a5 := Tryd.isAgg5
  z5 := Tryd.sizeOf5
  v5 := Tryd.zeroValue5
  t9 := Tryd.underlying9
  a9 := Tryd.isAgg9
  z9 := Tryd.sizeOf9
  v9 := Tryd.zeroValue9
  t46 := Tryd.underlying126
  a46 := Tryd.isAgg126
  z46 := Tryd.sizeOf126
  v46 := Tryd.zeroValue126
  t51 := Tryd.underlying46
  a51 := Tryd.isAgg46
  z51 := Tryd.sizeOf46
  v51 := Tryd.zeroValue46 }
theorem Tryd.bits_Len32 (x : Int) (w : World) (h0 : 0 ≤ x) (h1 : x ≤ 4294967295) :
    Calls Tryd.prog 74 #[.int .u32 x] w fun e w' => e = .returned (.int .i64 (Lib.bitLen x.toNat)) ∧ w' = w := Any.bits_Len32 Tryd.lays128 x w h0 h1
def Tryd.lays125_ren : Go.Shelf.Ren := ⟨fun | 125 => 75 | 128 => 74 | 129 => 84 | n => n, fun | 46 => 126 | 3 => 3 | 51 => 46 | 53 => 35 | 4 => 4 | 5 => 5 | 9 => 9 | n => n, fun | n => n⟩
theorem Tryd.lays125 : Go.Proofs.Lays.n125 Tryd.prog Tryd.lays125_ren := {
  mixed := by kernel_rfl
  f125 := Tryd.func75.trans (congrArg some (by kernel_rfl))
  f128 := Tryd.func74.trans (congrArg some (by kernel_rfl))
  f129 := Tryd.func84.trans (congrArg some (by kernel_rfl))
  t3 := Tryd.underlying3
  a3 := Tryd.isAgg3
  z3 := Tryd.sizeOf3
  v3 := Tryd.zeroValue3
  t4 := Tryd.underlying4
  a4 := Tryd.isAgg4
  z4 := Tryd.sizeOf4
  v4 := Tryd.zeroValue4
  t5 := Tryd.underlying5
  a5 := Tryd.isAgg5
  z5 := Tryd.sizeOf5
  v5 := Tryd.zeroValue5
  t9 := Tryd.underlying9
  a9 := Tryd.isAgg9
  z9 := Tryd.sizeOf9
  v9 := Tryd.zeroValue9
  t46 := Tryd.underlying126
  a46 := Tryd.isAgg126
  z46 := Tryd.sizeOf126
  v46 := Tryd.zeroValue126
  t51 := Tryd.underlying46
  a51 := Tryd.isAgg46
  z51 := Tryd.sizeOf46
  v51 := Tryd.zeroValue46
  t53 := Tryd.underlying35
  a53 := Tryd.isAgg35
  z53 := Tryd.sizeOf35
  v53 := Tryd.zeroValue35 }
theorem Tryd.bits_Len (x : Int) (w : World) (h0 : 0 ≤ x) (h1 : x ≤ 18446744073709551615) :
    Calls Tryd.prog 75 #[.int .u64 x] w fun e w' => e = .returned (.int .i64 (Lib.bitLen x.toNat)) ∧ w' = w := Any.bits_Len Tryd.lays125 x w h0 h1
def Tryd.lays133_ren : Go.Shelf.Ren := ⟨fun | 133 => 79 | 128 => 74 | n => n, fun | 51 => 46 | 3 => 3 | 4 => 4 | 46 => 126 | 5 => 5 | 9 => 9 | n => n, fun | n => n⟩
theorem Tryd.lays133 : Go.Proofs.Lays.n133 Tryd.prog Tryd.lays133_ren := {
  mixed := by kernel_rfl
  f128 := Tryd.func74.trans (congrArg some (by kernel_rfl))
  f133 := Tryd.func79.trans (congrArg some (by kernel_rfl))
  t3 := Tryd.underlying3
  a3 := Tryd.isAgg3
  z3 := Tryd.sizeOf3
  v3 := Tryd.zeroValue3
  t4 := Tryd.underlying4
  a4 := Tryd.isAgg4
  z4 := Tryd.sizeOf4
  v4 := Tryd.zeroValue4
  t5 := Tryd.underlying5
  a5 := Tryd.isAgg5
  z5 := Tryd.sizeOf5
  v5 := Tryd.zeroValue5
  t9 := Tryd.underlying9
  a9 := Tryd.isAgg9
  z9 := Tryd.sizeOf9
  v9 := Tryd.zeroValue9
  t46 := Tryd.underlying126
  a46 := Tryd.isAgg126
  z46 := Tryd.sizeOf126
  v46 := Tryd.zeroValue126
  t51 := Tryd.underlying46
  a51 := Tryd.isAgg46
  z51 := Tryd.sizeOf46
  v51 := Tryd.zeroValue46 }
theorem Tryd.bits_LeadingZeros32 (x : Int) (w : World) (h0 : 0 ≤ x) (h1 : x ≤ 4294967295) :
    Calls Tryd.prog 79 #[.int .u32 x] w fun e w' => e = .returned (.int .i64 (32 - (Lib.bitLen x.toNat : Int))) ∧ w' = w := Any.bits_LeadingZeros32 Tryd.lays133 x w h0 h1
def Tryd.lays129_ren : Go.Shelf.Ren := ⟨fun | 129 => 84 | n => n, fun | 53 => 35 | 3 => 3 | 4 => 4 | 46 => 126 | 5 => 5 | 9 => 9 | n => n, fun | n => n⟩
theorem Tryd.lays129 : Go.Proofs.Lays.n129 Tryd.prog Tryd.lays129_ren := {
  mixed := by kernel_rfl
  f129 := Tryd.func84.trans (congrArg some (by kernel_rfl))
  t3 := Tryd.underlying3
  a3 := Tryd.isAgg3
  z3 := Tryd.sizeOf3
  v3 := Tryd.zeroValue3
  t4 := Tryd.underlying4
  a4 := Tryd.isAgg4
  z4 := Tryd.sizeOf4
  v4 := Tryd.zeroValue4
  t5 := Tryd.underlying5
  a5 := Tryd.isAgg5
  z5 := Tryd.sizeOf5
  v5 := Tryd.zeroValue5
  t9 := Tryd.underlying9
  a9 := Tryd.isAgg9
  z9 := Tryd.sizeOf9
  v9 := Tryd.zeroValue9
  t46 := Tryd.underlying126
  a46 := Tryd.isAgg126
  z46 := Tryd.sizeOf126
  v46 := Tryd.zeroValue126
  t53 := Tryd.underlying35
  a53 := Tryd.isAgg35
  z53 := Tryd.sizeOf35
  v53 := Tryd.zeroValue35 }
theorem Tryd.bits_Len64 (x : Int) (w : World) (h0 : 0 ≤ x) (h1 : x ≤ 18446744073709551615) :
    Calls Tryd.prog 84 #[.int .u64 x] w fun e w' => e = .returned (.int .i64 (Lib.bitLen x.toNat)) ∧ w' = w := Any.bits_Len64 Tryd.lays129 x w h0 h1
end Go.Proofs

set_option linter.unusedSimpArgs false
set_option linter.unusedVariables false
set_option linter.unnecessarySimpa false
namespace Go.Proofs.YtiplbpfdkcddlaaDoor
open Go.RowKit Go.Proofs.YtiplbpfdkcddlaaDoorW.PrintWords Go.Proofs.YtiplbpfdkcddlaaDoorW.PrintLast Go.Proofs.YtiplbpfdkcddlaaDoorW.PrintMore Go.Proofs.YtiplbpfdkcddlaaDoor.NL
set_option maxRecDepth 100000
attribute [local go_sem] max2_int min2_int max_two min_two

theorem len32 (x : Int) (h0 : 0 ≤ x) (h1 : x < 4294967296) (w : World) :
    Calls Tryd.prog 74 #[.int .u32 x] w fun r w' => r = .returned (.int .i64 (blen x.toNat)) ∧ w = w' := by
  refine (Tryd.bits_Len32 x w h0 (by omega)).mono ?_
  rintro e w' ⟨rfl, rfl⟩
  exact ⟨by rw [blen_bitLen (by omega)], rfl⟩

set_option maxHeartbeats 2000000 in
theorem size_any (A : Option Addr) (n c : Nat) (a : List Int) (w : World) (hA : Kd.C (Kd.int .u32) w A n a) (la : Lim a) (ta : Top a) (hn : n ≤ 1000000000) :
    Calls Tryd.prog 61 #[.slice A n c] w fun e w' => e = .returned (.int .i64 (blen (val a))) ∧ w = w' := by
  have hl : a.length = n := hA.1
  rcases Nat.eq_zero_or_pos n with h0 | h0
  · subst h0
    have : a = [] := List.eq_nil_of_length_eq_zero hl
    subst this
    clear hl hA
    go_enter Tryd.func61, Tryd.ntmps61
    go_wp2
    go_ret
    exact ⟨rfl, rfl⟩
  · obtain ⟨j, rfl⟩ : ∃ j, n = j + 1 := ⟨n - 1, by omega⟩
    have hb := blen_val la ta (by omega)
    rw [hl, Nat.add_sub_cancel] at hb
    obtain ⟨b, off, rfl, hlt, hcs⟩ := open_C hA (by omega)
    have hcell := hcs j (by omega)
    obtain ⟨x0, x1⟩ := lim_getD la j
    have hs : blen (a.getD j 0).toNat ≤ 32 := blen_le.2 (by omega)
    clear hcs hA
    have HL := Lib.hid hl
    have HB := Lib.hid hb
    clear hl hb
    generalize a.getD j 0 = x at *
    have t0 : (((j : Int) + 1) == 0) = false := by simp; omega
    have hj1 : ((j : Int) + 1 - 1) = (j : Int) := by omega
    obtain ⟨z, hz⟩ : ∃ z, blen x.toNat = z := ⟨_, rfl⟩
    have hlen : ∀ w', Calls Tryd.prog 74 #[.int .u32 x] w' fun r w'' => r = .returned (.int .i64 z) ∧ w' = w'' := fun w' => by
      have := len32 x x0 x1 w'
      rwa [hz] at this
    have HLEN := Lib.hid hlen
    rw [hz] at hs HB
    have HZ := Lib.hid hz
    clear hlen hz
    go_enter Tryd.func61, Tryd.ntmps61
    go_wp2_with (go_at_call 74; (with_reducible refine (HLEN.out _).mono ?_); rintro e w3 ⟨rfl, rfl⟩)
    go_ret
    exact ⟨by rw [HB.out]; simp, rfl⟩

def ShlRel (a : List Int) (q r N : Nat) (w0 : World) (A : Option Addr) (c : Nat) (vc vi : Value) (wr : World) : Prop :=
  ∃ (k : Nat) (cy : Int) (ys : List Int), k ≤ a.length ∧ vi = .int .i64 k ∧ vc = .int .u64 cy ∧ ys.length = N ∧ OwnI .u32 46 w0.heap.size wr (.slice A N c) ys ∧ Below w0.heap.size w0 wr ∧ ShlAt a q r k cy ys

theorem or_shl (cy x : Int) (r : Nat) (c0 : 0 ≤ cy) (c1 : cy < 2 ^ r) (x0 : 0 ≤ x) (hx : cy + x * 2 ^ r < 18446744073709551616) : bits .or .u64 cy (IntKind.u64.wrap (x * 2 ^ r)) = cy + x * 2 ^ r := by
  have hp : (0 : Int) < 2 ^ r := Int.pow_pos (by omega)
  have h0 : 0 ≤ x * 2 ^ r := Int.mul_nonneg x0 (by omega)
  have hw : IntKind.u64.wrap (x * 2 ^ r) = x * 2 ^ r := by rw [IntKind.wrap_u64]; omega
  rw [hw, u64_or _ _ c0 (by omega) h0 (by omega), Nat.or_comm, nat_join r]
  · omega
  · rw [Int.toNat_mul x0 (by omega), pow_toNat, Nat.mul_mod_left]
  · have := pow_toNat r
    omega

set_option maxHeartbeats 4000000 in
theorem shl_pos (A : Option Addr) (n c : Nat) (a : List Int) (s : Nat) (w : World) (hA : Kd.C (Kd.int .u32) w A n a) (la : Lim a) (hn : n ≤ 1000000000) (hs : s ≤ 1000000000) (h0 : 0 < n) :
    Calls Tryd.prog 65 #[.slice A n c, .int .i64 s] w (Gives (val a * 2 ^ s) w) := by
  obtain ⟨q, r, hr, rfl⟩ : ∃ q r, r < 32 ∧ s = 32 * q + r := ⟨s / 32, s % 32, by omega, by omega⟩
  have ha : a.length = n := hA.1
  have HA := Lib.hid hA
  have HLA := Lib.hid ha
  obtain ⟨b, off, rfl, hlt, hcs⟩ := open_C hA h0
  have HCS := Lib.hid hcs
  clear hA ha hcs
  have t0 : ((n : Int) == 0) = false := by simp; omega
  have hq : (32 * (q : Int) + r) / 32 = q := by omega
  have hrr : (32 * (q : Int) + r) % 32 = r := by omega
  obtain ⟨s, hs'⟩ : ∃ s : Nat, 32 * q + r = s := ⟨_, rfl⟩
  have hsi : (32 * (q : Int) + r) = (s : Int) := by omega
  rw [hsi] at hq hrr
  rw [hs'] at hs ⊢
  have HS := Lib.hid hs'
  have HR := Lib.hid hr
  clear hs' hsi
  go_enter Tryd.func65, Tryd.ntmps65
  go_wp2_with ((with_reducible refine gate_dst (N := 18) rfl ?_); refine make_row (w0 := w) rfl rfl 18 rfl _ _ rfl (q + n + 1) rfl rfl (by omega) bel ?_; intro A5 c5 w5 hr5 hb5 _)
  have HR5 := Lib.hid hr5
  clear hr5
  go_loopw [6, 21] (fun vc vi wr => ShlRel a q r (q + n + 1) w A5 c5 vc vi wr) (fun _ vi _ => n - (intOf vi).toNat)
  case atStart => exact ⟨0, 0, _, by omega, rfl, rfl, by simp, HR5.out, hb5, ShlAt.start a q r _⟩
  case round =>
    obtain ⟨k, cy, ys, hk, rfl, rfl, hy, hown, hbw, hadd⟩ := hrel
    rw [HLA.out] at hk
    have HY := Lib.hid hy
    have HO := Lib.hid hown
    have HD := Lib.hid hadd
    have ly := HD.out.2.2.1
    obtain ⟨c0, c1, -, -⟩ := hadd
    clear hy hown
    by_cases hlt2 : k < n
    · obtain ⟨g, rfl, hg0, hg1, hgc, hgf⟩ := own_open HO.out (by omega)
      have hcell := hgc (q + k) (by omega)
      have hfr := hgf (q + k)
      have hca : wr.cell? ⟨b, off + k, none⟩ = some (.int .u32 (a.getD k 0)) := (hbw.cell (p := ⟨b, off + k, none⟩) hlt).trans (HCS.out k hlt2)
      obtain ⟨x0, x1⟩ := lim_getD la k
      obtain ⟨s0, s1, hst⟩ := ShlAt.step la HD.out (by rw [HY.out]; omega) HR.out
      have HST := Lib.hid hst
      clear hgc hgf hst
      obtain ⟨x, hx⟩ : ∃ x, a.getD k 0 = x := ⟨_, rfl⟩
      rw [hx] at hca x0 x1 s0 s1 HST
      have HX := Lib.hid hx
      clear hx
      go_wp2
      rw [or_shl cy x r c0 c1 x0 s1]
      go_roundw
      case rel => exact ⟨k + 1, _, _, by rw [HLA.out]; omega, by simp, rfl, by simp [HY.out], Kd.R_putn HO.out ((q + k : Nat) : Int) _, bel, HST.out⟩
      case measure => simp [intOf]; omega
    · obtain rfl : k = n := by omega
      have hd := HD.out
      rw [← HLA.out] at hd
      obtain ⟨d0, d1, d2, d3⟩ := ShlAt.done hd (by rw [HY.out, HLA.out]) HR.out
      rw [HLA.out] at d2 d3
      rw [HS.out] at d3
      have HV := Lib.hid d3
      clear hd d3
      obtain ⟨g, rfl, hg0, hg1, hgc, hgf⟩ := own_open HO.out (by omega)
      have hcell := hgc (q + k) (by omega)
      have hfr := hgf (q + k)
      have hR2 := Kd.R_putn HO.out ((q + k : Nat) : Int) cy
      obtain ⟨hC, hcc⟩ := R_C hR2
      have HC : Hid (Kd.C (Kd.int .u32) (wr.setCell ⟨g, q + k, none⟩ (.int .u32 cy)) (some ⟨g, 0, none⟩) (q + k + 1) (ys.set (q + k) cy)) := Lib.hid hC
      have t1 : ((q : Int) + k + 1 - 1) = ((q + k : Nat) : Int) := by omega
      clear hC hR2 hgc hgf
      go_wp2_with (go_at_call 81; (with_reducible refine (trim_any _ _ _ (ys.set (q + k) cy) _ HC.out d2 (by omega) hcc).mono ?_); rintro e w1 ⟨k2, rfl, hk2, rfl⟩)
      go_ret
      exact ⟨_, k2, c5, rfl, Lib.hid ⟨by have := hk2.out.1; omega, by have := C_head HC.out hk2.out.1; rw [hk2.out.2, HV.out] at this; exact this⟩, bel⟩

set_option maxHeartbeats 1000000 in
theorem shl_any (A : Option Addr) (n c : Nat) (a : List Int) (s : Nat) (w : World) (hA : Kd.C (Kd.int .u32) w A n a) (la : Lim a) (hn : n ≤ 1000000000) (hs : s ≤ 1000000000) :
    Calls Tryd.prog 65 #[.slice A n c, .int .i64 s] w (Gives (val a * 2 ^ s) w) := by
  rcases Nat.eq_zero_or_pos n with h0 | h0
  · subst h0
    have : a = [] := List.eq_nil_of_length_eq_zero hA.1
    subst this
    clear hA
    have h : val ([] : List Int) * 2 ^ s = 0 := by simp [val]
    rw [h]
    clear h
    go_enter Tryd.func65, Tryd.ntmps65
    go_wp2
    go_ret
    exact ⟨none, 0, 0, rfl, Lib.hid ⟨Nat.le_refl _, by rw [ofN_zero]; exact (R_C (Kd.R_nil _ _ _ w.heap.size (fun _ => True))).1⟩, Below.refl _ _⟩
  · exact shl_pos A n c a s w hA la hn hs h0

def ShrRel (M N : Nat) (w0 : World) (A : Option Addr) (c : Nat) (vi : Value) (wr : World) : Prop :=
  ∃ (k : Nat) (ys : List Int), k ≤ N ∧ vi = .int .i64 k ∧ ys.length = N ∧ OwnI .u32 46 w0.heap.size wr (.slice A N c) ys ∧ Below w0.heap.size w0 wr ∧ ShrAt M k ys
theorem or_two (x y : Int) (x0 : 0 ≤ x) (x1 : x < 4294967296) (y0 : 0 ≤ y) (y1 : y < 4294967296) : bits .or .u64 x (y * 4294967296) = x + y * 4294967296 := by
  rw [u64_or _ _ x0 (by omega) (by omega) (by omega), Nat.or_comm, nat_join 32]
  · omega
  · rw [Int.toNat_mul y0 (by omega)]; exact Nat.mul_mod_left _ _
  · omega

set_option maxHeartbeats 4000000 in
theorem shr_any (A : Option Addr) (n c : Nat) (a : List Int) (s : Nat) (w : World) (hA : Kd.C (Kd.int .u32) w A n a) (la : Lim a) (ta : Top a) (hn : n ≤ 1000000000) (hs : s ≤ 1000000000000) :
    Calls Tryd.prog 70 #[.slice A n c, .int .i64 s] w (Gives (val a / 2 ^ s) w) := by
  have hsz := fun w' (h : Below w.heap.size w w') => size_any A n c a w' (Kd.C_below hA h) la ta hn
  by_cases hbig : blen (val a) ≤ s
  · have hz : val a / 2 ^ s = 0 := Nat.div_eq_of_lt (blen_le.1 hbig)
    rw [hz]
    have HSZ := Lib.hid hsz
    clear hA hz hsz
    generalize blen (val a) = z at *
    have d0 : decide (z ≤ s) = true := decide_eq_true hbig
    go_enter Tryd.func70, Tryd.ntmps70
    go_wp2_with (go_at_call 61; (with_reducible refine (HSZ.out _ bel).mono ?_); rintro e w1 ⟨rfl, rfl⟩)
    go_ret
    exact ⟨none, 0, 0, rfl, Lib.hid ⟨Nat.le_refl _, by rw [ofN_zero]; exact (R_C (Kd.R_nil _ _ _ w.heap.size (fun _ => True))).1⟩, Below.refl _ _⟩
  · have ha : a.length = n := hA.1
    obtain ⟨q, r, hr, rfl⟩ : ∃ q r, r < 32 ∧ s = 32 * q + r := ⟨s / 32, s % 32, by omega, by omega⟩
    have hqn : q < n := by
      rcases Nat.lt_or_ge q n with h | h
      · exact h
      · exfalso; apply hbig
        rw [blen_le]
        refine Nat.lt_of_lt_of_le (val_lt la) ?_
        rw [ha]
        refine Nat.le_trans (W_le h) ?_
        rw [W_two]
        exact Nat.pow_le_pow_right (by omega) (by omega)
    have hq : (32 * (q : Int) + r) / 32 = q := by omega
    have hrr : (32 * (q : Int) + r) % 32 = r := by omega
    have hdone := fun ys (h : ShrAt (val a / 2 ^ (32 * q + r)) (n - q) ys) (hy : ys.length = n - q) => ShrAt.done (q := q) (r := r) la (by rw [ha]; exact h) (by rw [ha]; exact hy) (by omega)
    have hdig := fun k => shr_digit la k q r hr
    obtain ⟨s, hs'⟩ : ∃ s : Nat, 32 * q + r = s := ⟨_, rfl⟩
    have hsi : (32 * (q : Int) + r) = (s : Int) := by omega
    rw [hsi] at hq hrr
    rw [hs'] at hs hbig hdone hdig ⊢
    have HSZ := Lib.hid hsz
    have HA := Lib.hid hA
    have HLA := Lib.hid ha
    have HDN := Lib.hid hdone
    have HDG := Lib.hid hdig
    have HS := Lib.hid hs'
    obtain ⟨d, hd⟩ : ∃ d, n - q = d := ⟨_, rfl⟩
    rw [hd] at HDN
    have hdi : (n : Int) - q = (d : Int) := by omega
    have hd1 : d ≤ n := by omega
    have HDE := Lib.hid hd
    clear hs' hsi hsz hA ha hdone hdig hd
    have d0 : decide (blen (val a) ≤ s) = false := decide_eq_false hbig
    have HM : Hid (∃ M, val a / 2 ^ s = M) := Lib.hid ⟨_, rfl⟩
    obtain ⟨M, hM⟩ := HM.out
    rw [hM] at HDN HDG ⊢
    have HM2 := Lib.hid hM
    clear HM hM
    generalize blen (val a) = z at *
    go_enter Tryd.func70, Tryd.ntmps70
    go_wp2_with (first | (go_at_call 61; (with_reducible refine (HSZ.out _ bel).mono ?_); rintro e w1 ⟨rfl, rfl⟩) | ((with_reducible refine gate_dst (N := 17) rfl ?_); refine make_row (w0 := w) rfl rfl 17 rfl _ _ rfl d rfl rfl (by omega) bel ?_; intro A5 c5 w5 hr5 hb5 _))
    have HR5 := Lib.hid hr5
    clear hr5
    go_loopw [20] (fun vi wr => ShrRel M d w A5 c5 vi wr) (fun vi _ => d - (intOf vi).toNat)
    case atStart => exact ⟨0, _, by omega, rfl, by simp, HR5.out, hb5, ShrAt.start _ _⟩
    case round =>
      obtain ⟨k, ys, hk, rfl, hy, hown, hbw, hadd⟩ := hrel
      have HY := Lib.hid hy
      have HO := Lib.hid hown
      have HD := Lib.hid hadd
      have ly := HD.out.1
      clear hy hown hadd
      by_cases hlt : k < d
      · obtain ⟨g, rfl, hg0, hg1, hgc, hgf⟩ := own_open HO.out (by omega)
        have hcell := hgc k hlt
        have hfr := hgf k
        obtain ⟨x0, x1⟩ := lim_getD la (k + q)
        obtain ⟨y0, y1⟩ := lim_getD la (k + q + 1)
        clear hgc hgf
        have hdg := HDG.out k
        obtain ⟨x, hx⟩ : ∃ x, a.getD (k + q) 0 = x := ⟨_, rfl⟩
        obtain ⟨y, hy⟩ : ∃ y, a.getD (k + q + 1) 0 = y := ⟨_, rfl⟩
        have ata : ∀ w', Below wr.heap.size wr w' → Calls Tryd.prog 83 #[.slice A n c, .int .i64 ((k : Int) + q)] w' fun e w'' => e = .returned (.int .u64 x) ∧ w' = w'' := fun w' hb' => by
          have := at_any A n c a (k + q) w' (Kd.C_below HA.out (below_step hbw hb')) la (by omega) (by omega)
          rwa [hx] at this
        have atb : ∀ w', Below wr.heap.size wr w' → Calls Tryd.prog 83 #[.slice A n c, .int .i64 ((k : Int) + q + 1)] w' fun e w'' => e = .returned (.int .u64 y) ∧ w' = w'' := fun w' hb' => by
          have := at_any A n c a (k + q + 1) w' (Kd.C_below HA.out (below_step hbw hb')) la (by omega) (by omega)
          rwa [hy] at this
        have HAT := Lib.hid ata
        have HBT := Lib.hid atb
        rw [hx] at x0 x1 hdg
        rw [hy] at y0 y1 hdg
        have hp : (0 : Int) < 2 ^ r := Int.pow_pos (by omega)
        have hst : ShrAt M (k + 1) (ys.set k ((x + y * 4294967296) / 2 ^ r % 4294967296)) := ShrAt.step HD.out (by rw [HY.out]; exact hlt) (by omega) (by
          rw [← hdg]
          have e1 : x + y * 4294967296 = ((x.toNat + 4294967296 * y.toNat : Nat) : Int) := by omega
          have e2 : ((2 : Int) ^ r) = ((2 ^ r : Nat) : Int) := by simp
          rw [e1, e2, ← Int.natCast_ediv]
          omega)
        have HST := Lib.hid hst
        clear hx hy ata atb hdg hst hp
        go_wp2_with (first | (go_at_call 83; (with_reducible refine (HAT.out _ bel).mono ?_); rintro e w3 ⟨rfl, rfl⟩) | (go_at_call 83; (with_reducible refine (HBT.out _ bel).mono ?_); rintro e w3 ⟨rfl, rfl⟩))
        rw [or_two x y x0 x1 y0 y1]
        go_roundw
        case rel => exact ⟨k + 1, _, by omega, by simp, by simp [HY.out], Kd.R_putn HO.out (k : Int) _, bel, HST.out⟩
        case measure => simp [intOf]; omega
      · obtain rfl : k = d := by omega
        have hv := HDN.out ys HD.out HY.out
        have HV := Lib.hid hv
        clear hv
        obtain ⟨hC, hcc⟩ := R_C HO.out
        have HC := Lib.hid hC
        clear hC
        go_wp2_with (go_at_call 81; (with_reducible refine (trim_any _ _ _ ys _ HC.out ly (by omega) hcc).mono ?_); rintro e w1 ⟨k2, rfl, hk2, rfl⟩)
        go_ret
        exact ⟨_, k2, c5, rfl, Lib.hid ⟨by have := hk2.out.1; omega, by have := C_head HC.out hk2.out.1; rw [hk2.out.2, HV.out] at this; exact this⟩, bel⟩
end Go.Proofs.YtiplbpfdkcddlaaDoor
