/- The program's Same, and the law's 'is': what they return, of lists and numbers. nat: division, in plain numbers: what a product takes off a row; the estimate of one element of a quotient. nat: a product with one element is taken off a part of a row. nat: the estimate of one element of a quotient. nat: division element by element, in plain numbers. nat: division by one element; division element by element. -/
import Derived.Test.YtacnkcojhlbkoaaGreatDoorJFor20
import Derived.Test.YtacnkcojhlbkoaaGreatDoorJFor19
import Derived.Test.YtacnkcojhlbkoaaGreatDoorJFor4
import Derived.Test.YtacnkcojhlbkoaaGreatDoorJFor7
import Derived.Deep.CutBlock
set_option linter.unusedSimpArgs false
set_option linter.unusedVariables false
set_option linter.unnecessarySimpa false
namespace Go.Proofs.YtacnkcojhlbkoaaGreatDoor
open Go.RowKit Go.Proofs.YtacnkcojhlbkoaaGreatDoorW.PrintWords Go.Proofs.YtacnkcojhlbkoaaGreatDoorW.PrintLast Go.Proofs.YtacnkcojhlbkoaaGreatDoorW.PrintMore Go.Proofs.YtacnkcojhlbkoaaGreatDoor.NL
set_option maxRecDepth 100000

theorem eq_l0 {l m : List Int} (hl : l.length = m.length) (hn : l.length ≤ 1000000000) : ∀ (t i : Nat), i + t = l.length → XIsb.api_Nat_uint32.l0 (t + 1) l m (l.length : Int) (i : Int) = some (decide (l.drop i = m.drop i)) := by
  intro t
  induction t with
  | zero =>
    intro i hi
    unfold XIsb.api_Nat_uint32.l0
    rw [if_neg (by omega), List.drop_eq_nil_of_le (by omega), List.drop_eq_nil_of_le (by omega)]
    simp
  | succ t ih =>
    intro i hi
    unfold XIsb.api_Nat_uint32.l0
    have h1 : i < l.length := by omega
    have h2 : i < m.length := by omega
    rw [if_pos (by omega), if_pos (by omega), if_pos (by omega), if_pos (by omega), w64, show (i : Int) + 1 = ((i + 1 : Nat) : Int) by omega, ih (i + 1) (by omega)]
    have d1 := List.drop_eq_getElem_cons h1
    have d2 := List.drop_eq_getElem_cons h2
    rw [d1, d2]
    have e1 : rd l (i : Int) = l[i] := by unfold rd; rw [Int.toNat_natCast, List.getD_eq_getElem?_getD, List.getElem?_eq_getElem h1]; rfl
    have e2 : rd m (i : Int) = m[i] := by unfold rd; rw [Int.toNat_natCast, List.getD_eq_getElem?_getD, List.getElem?_eq_getElem h2]; rfl
    rw [e1, e2]
    by_cases h : l[i] = m[i]
    · rw [if_pos h, h]; congr 1; rw [decide_eq_decide]; exact ⟨fun h => by rw [h], fun h => by injection h⟩
    · rw [if_neg h]; congr 1; symm; rw [decide_eq_false_iff_not]; intro h3; injection h3 with h4 h5; exact h h4
theorem eq_val (l m : List Int) (hn : l.length ≤ 1000000000) : XIsb.api_Nat_uint32.f (l.length + 1) l m = some (decide (l = m)) := by
  unfold XIsb.api_Nat_uint32.f
  by_cases hl : l.length = m.length
  · rw [if_pos (by omega)]
    have := eq_l0 hl hn l.length 0 (by omega)
    simpa using this
  · rw [if_neg (by omega)]; congr 1; symm; rw [decide_eq_false_iff_not]; intro h; exact hl (by rw [h])
theorem bsame_f (f1 c1 e1 f2 c2 e2 : Int) (n1 n2 : Bool) (l m : List Int) (hn : l.length ≤ 1000000000) : XIsb.binary_Same.f (l.length + 1) f1 c1 n1 l e1 f2 c2 n2 m e2 = some (decide (f1 = f2 ∧ c1 = c2 ∧ n1 = n2 ∧ l = m ∧ e1 = e2)) := by
  unfold XIsb.binary_Same.f
  rw [eq_val l m hn]
  by_cases h1 : f1 = f2
  · rw [if_pos h1]
    by_cases h2 : c1 = c2
    · rw [if_pos h2]
      by_cases h3 : n1 = n2
      · rw [if_pos (by rw [h3]; simp)]
        by_cases h4 : e1 = e2
        · rw [if_pos h4]
          show some (decide (l = m)) = _
          congr 1; rw [decide_eq_decide]; exact ⟨fun h => ⟨h1, h2, h3, h, h4⟩, fun h => h.2.2.2.1⟩
        · rw [if_neg h4]; congr 1; symm; rw [decide_eq_false_iff_not]; exact fun h => h4 h.2.2.2.2
      · rw [if_neg (by simpa using h3)]; congr 1; symm; rw [decide_eq_false_iff_not]; exact fun h => h3 h.2.2.1
    · rw [if_neg h2]; congr 1; symm; rw [decide_eq_false_iff_not]; exact fun h => h2 h.2.1
  · rw [if_neg h1]; congr 1; symm; rw [decide_eq_false_iff_not]; exact fun h => h1 h.1
theorem bsame_any {f1 c1 e1 f2 c2 e2 : Int} {n1 n2 : Bool} {A A' : Option Addr} {c c' : Nat} {l m : List Int} (w : World) (hn : l.length ≤ 1000000000) (h1 : Kd.C (Kd.int .u32) w A l.length l) (h2 : l.length ≤ c) (h3 : Kd.C (Kd.int .u32) w A' m.length m) (h4 : m.length ≤ c') :
    Calls Tryz.prog 9 #[.agg #[.int .i64 f1, .int .i64 c1, .bool n1, .slice A l.length c, .int .i64 e1], .agg #[.int .i64 f2, .int .i64 c2, .bool n2, .slice A' m.length c', .int .i64 e2]] w fun e w' => e = .returned (.bool (decide (f1 = f2 ∧ c1 = c2 ∧ n1 = n2 ∧ l = m ∧ e1 = e2))) ∧ Below w.heap.size w w' :=
  XIsb.binary_Same.calls (l.length + 1) f1 c1 n1 A c l e1 f2 c2 n2 A' c' m e2 _ w h1 h2 h3 h4 (bsame_f f1 c1 e1 f2 c2 e2 n1 n2 l m hn)
/-- 'is' of a datum and the same one, made. -/
theorem is_ok {f cl q bad : Int} {ng : Bool} {A A' : Option Addr} {c c' : Nat} {l : List Int} (w : World) (hn : l.length ≤ 1000000000) (h1 : Kd.C (Kd.int .u32) w A l.length l) (h2 : l.length ≤ c) (h3 : Kd.C (Kd.int .u32) w A' l.length l) (h4 : l.length ≤ c') :
    Calls Tryz.prog 18 #[.agg #[.int .i64 f, .int .i64 cl, .bool ng, .slice A l.length c, .int .i64 q], .int .i64 0, .agg #[.int .i64 f, .int .i64 cl, .bool ng, .slice A' l.length c', .int .i64 q, .bool true], .int .i64 bad] w fun e w' => e = .returned (.bool true) ∧ Below w.heap.size w w' :=
  XIsb.sorobanlaw05_is.calls f cl ng A c l q 0 f cl ng A' c' l q true bad true w h1 h2 h3 h4 (by unfold XIsb.sorobanlaw05_is.f sorobanref05_Same.f; rw [if_pos rfl, if_pos rfl, if_pos hn, decide_eq_true ⟨rfl, rfl, rfl, rfl, rfl⟩]; rfl)
end Go.Proofs.YtacnkcojhlbkoaaGreatDoor

set_option linter.unusedSimpArgs false
set_option linter.unusedVariables false
set_option linter.unnecessarySimpa false
namespace Go.Proofs.YtacnkcojhlbkoaaGreatDoor.NL
set_option maxRecDepth 100000

/-- A product with one element is being taken off a row, from element o on. -/
def TakeAt (zs d : List Int) (q : Int) (o t k : Nat) (cy bo : Int) (ys : List Int) : Prop :=
  0 ≤ cy ∧ cy < 4294967296 ∧ 0 ≤ bo ∧ bo < 2 ∧ Lim ys ∧ ys.drop t = zs.drop t ∧ cy.toNat * W k ≤ q.toNat * val (d.take k) ∧ val ys + W o * (q.toNat * val (d.take k)) = val zs + W (o + k) * (cy.toNat + bo.toNat)
theorem TakeAt.start {zs d : List Int} {q : Int} {o t : Nat} (lz : Lim zs) : TakeAt zs d q o t 0 0 0 zs := ⟨by omega, by omega, by omega, by omega, lz, rfl, by simp, by simp [val]⟩
theorem drop_set {ys : List Int} {j t : Nat} {x : Int} (h : j < t) : (ys.set j x).drop t = ys.drop t := by
  apply List.ext_getElem?
  intro i
  rw [List.getElem?_drop, List.getElem?_drop, List.getElem?_set_ne (by omega)]
/-- What is left of an element. -/
def takX (r cy q e bo : Int) : Int := subX r ((cy + q * e) % 4294967296) bo
theorem TakeAt.step {zs d ys : List Int} {q cy bo : Int} {o t k : Nat} (ld : Lim d) (q0 : 0 ≤ q) (q1 : q < 4294967296) (h : TakeAt zs d q o t k cy bo ys) (hk : o + k < t) (hy : o + k < ys.length) :
    TakeAt zs d q o t (k + 1) ((cy + q * d.getD k 0) / 4294967296) (takX (ys.getD (o + k) 0) cy q (d.getD k 0) bo / 9223372036854775808) (ys.set (o + k) (takX (ys.getD (o + k) 0) cy q (d.getD k 0) bo % 4294967296)) := by
  obtain ⟨h0, h1, b0, b1, h2, h3, h4, h5⟩ := h
  obtain ⟨y0, y1⟩ := lim_getD ld k
  obtain ⟨u0, u1⟩ := lim_getD h2 (o + k)
  have hb := mul_bound q0 q1 y0 y1 (u := 0) (by omega) (by omega) h0 h1
  have e0 := val_set (x := takX (ys.getD (o + k) 0) cy q (d.getD k 0) bo % 4294967296) hy
  have exy : (q * d.getD k 0).toNat = q.toNat * (d.getD k 0).toNat := Int.toNat_mul q0 y0
  have c0 : 0 ≤ (cy + q * d.getD k 0) / 4294967296 ∧ (cy + q * d.getD k 0) / 4294967296 < 4294967296 ∧ 4294967296 * ((cy + q * d.getD k 0) / 4294967296).toNat + ((cy + q * d.getD k 0) % 4294967296).toNat = cy.toNat + q.toNat * (d.getD k 0).toNat ∧ 0 ≤ (cy + q * d.getD k 0) % 4294967296 ∧ (cy + q * d.getD k 0) % 4294967296 < 4294967296 := by
    rw [← exy]; omega
  unfold takX at *
  generalize (cy + q * d.getD k 0) / 4294967296 = cy' at *
  generalize (cy + q * d.getD k 0) % 4294967296 = lo at *
  have x0 : 0 ≤ subX (ys.getD (o + k) 0) lo bo ∧ subX (ys.getD (o + k) 0) lo bo < 18446744073709551616 := by unfold subX; split <;> omega
  have ex : (subX (ys.getD (o + k) 0) lo bo % 4294967296).toNat + lo.toNat + bo.toNat = (ys.getD (o + k) 0).toNat + 4294967296 * (subX (ys.getD (o + k) 0) lo bo / 9223372036854775808).toNat ∧ 0 ≤ subX (ys.getD (o + k) 0) lo bo / 9223372036854775808 ∧ subX (ys.getD (o + k) 0) lo bo / 9223372036854775808 < 2 ∧ 0 ≤ subX (ys.getD (o + k) 0) lo bo % 4294967296 ∧ subX (ys.getD (o + k) 0) lo bo % 4294967296 < 4294967296 := by unfold subX; split <;> omega
  generalize subX (ys.getD (o + k) 0) lo bo % 4294967296 = nw at *
  generalize subX (ys.getD (o + k) 0) lo bo / 9223372036854775808 = bo' at *
  obtain ⟨ex, n0, n1, n2, n3⟩ := ex
  obtain ⟨c0, c1, c2, -, -⟩ := c0
  refine ⟨c0, c1, n0, n1, lim_set h2 ⟨n2, n3⟩, by rw [drop_set hk]; exact h3, ?_, ?_⟩
  · rw [val_take_succ, W_succ]
    clear ex e0 h5 exy hb x0
    generalize (d.getD k 0).toNat = e at *
    generalize q.toNat = Q at *
    have h6 : cy'.toNat * (4294967296 * W k) ≤ (cy.toNat + Q * e) * W k := by
      rw [← Nat.mul_assoc]
      exact Nat.mul_le_mul_right _ (by omega)
    rw [Nat.add_mul] at h6
    rw [Nat.mul_add, ← Nat.mul_assoc Q (W k) e, Nat.mul_right_comm]
    omega
  · rw [val_take_succ, ← Nat.add_assoc o k 1, W_succ]
    clear h4 hb x0 exy
    generalize (d.getD k 0).toNat = e at *
    generalize (ys.getD (o + k) 0).toNat = r at *
    generalize q.toNat = Q at *
    have hG : W (o + k) * (cy.toNat + bo.toNat + nw.toNat + Q * e) = W (o + k) * (r + 4294967296 * (cy'.toNat + bo'.toNat)) := by
      congr 1; omega
    have h6 : W o * (Q * (W k * e)) = W (o + k) * (Q * e) := by
      rw [W_add]; simp only [Nat.mul_assoc, Nat.mul_left_comm, Nat.mul_comm]
    have h7 : 4294967296 * W (o + k) * (cy'.toNat + bo'.toNat) = W (o + k) * (4294967296 * (cy'.toNat + bo'.toNat)) := by rw [Nat.mul_comm 4294967296, Nat.mul_assoc]
    rw [h7, Nat.mul_add Q, Nat.mul_add (W o), h6]
    rw [Nat.mul_add, Nat.mul_add, Nat.mul_add, Nat.mul_add] at hG
    rw [Nat.mul_add] at h5
    omega
theorem take_len {d : List Int} {m : Nat} (h : d.length ≤ m) : d.take m = d := List.take_of_length_le h
theorem TakeAt.done {zs d ys : List Int} {q cy bo : Int} {o m : Nat} (h : TakeAt zs d q o (o + m) m cy bo ys) (hd : d.length ≤ m) (hq : q.toNat * val d < W m) :
    bo.toNat < 2 ∧ Lim ys ∧ ys.drop (o + m) = zs.drop (o + m) ∧ val ys + W o * (q.toNat * val d) = val zs + W (o + m) * bo.toNat := by
  obtain ⟨h0, h1, b0, b1, h2, h3, h4, h5⟩ := h
  rw [take_len hd] at h4 h5
  have : cy.toNat = 0 := by
    rcases Nat.eq_zero_or_pos cy.toNat with h | h
    · exact h
    · have : 1 * W m ≤ cy.toNat * W m := Nat.mul_le_mul_right _ h
      omega
  rw [this, Nat.zero_add] at h5
  exact ⟨by omega, h2, h3, h5⟩

/-- A number is being added back. -/
def BackAt (zs d : List Int) (o t k : Nat) (cy : Int) (ys : List Int) : Prop :=
  0 ≤ cy ∧ cy < 2 ∧ Lim ys ∧ ys.drop t = zs.drop t ∧ val ys + W (o + k) * cy.toNat = val zs + W o * val (d.take k)
theorem BackAt.start {zs d : List Int} {o t : Nat} (lz : Lim zs) : BackAt zs d o t 0 0 zs := ⟨by omega, by omega, lz, rfl, by simp [val]⟩
theorem BackAt.step {zs d ys : List Int} {cy : Int} {o t k : Nat} (ld : Lim d) (h : BackAt zs d o t k cy ys) (hk : o + k < t) (hy : o + k < ys.length) :
    BackAt zs d o t (k + 1) ((cy + (ys.getD (o + k) 0 + d.getD k 0)) / 4294967296) (ys.set (o + k) ((cy + (ys.getD (o + k) 0 + d.getD k 0)) % 4294967296)) := by
  obtain ⟨h0, h1, h2, h3, h5⟩ := h
  obtain ⟨y0, y1⟩ := lim_getD ld k
  obtain ⟨u0, u1⟩ := lim_getD h2 (o + k)
  have e0 := val_set (x := (cy + (ys.getD (o + k) 0 + d.getD k 0)) % 4294967296) hy
  refine ⟨by omega, by omega, lim_set h2 (by omega), by rw [drop_set hk]; exact h3, ?_⟩
  have ex : ((cy + (ys.getD (o + k) 0 + d.getD k 0)) % 4294967296).toNat + 4294967296 * ((cy + (ys.getD (o + k) 0 + d.getD k 0)) / 4294967296).toNat = cy.toNat + (ys.getD (o + k) 0).toNat + (d.getD k 0).toNat := by omega
  rw [val_take_succ, ← Nat.add_assoc o k 1, W_succ]
  generalize ((cy + (ys.getD (o + k) 0 + d.getD k 0)) % 4294967296) = nw at *
  generalize ((cy + (ys.getD (o + k) 0 + d.getD k 0)) / 4294967296) = cy' at *
  generalize (d.getD k 0).toNat = e at *
  generalize (ys.getD (o + k) 0).toNat = r at *
  have hG : W (o + k) * (nw.toNat + 4294967296 * cy'.toNat) = W (o + k) * (cy.toNat + r + e) := by rw [ex]
  have h6 : W o * (W k * e) = W (o + k) * e := by rw [W_add, Nat.mul_assoc]
  have h7 : 4294967296 * W (o + k) * cy'.toNat = W (o + k) * (4294967296 * cy'.toNat) := by rw [Nat.mul_comm 4294967296, Nat.mul_assoc]
  rw [h7, Nat.mul_add (W o), h6]
  rw [Nat.mul_add, Nat.mul_add, Nat.mul_add] at hG
  omega

/-- One element of a quotient is being estimated: q is not below it, r is what it leaves of the two first elements. -/
def EstAt (qt d1 top q r : Nat) : Prop := qt ≤ q ∧ q < 4294967296 ∧ q * d1 + r = top
/-- The numbers at hand: U is the row's, D the divisor's; one element of the quotient. -/
structure EstIn (U D o p qt d1 d2 u3 top : Nat) : Prop where
  hqt : qt = U / (W o * D)
  hU : U < D * W (o + 1)
  hD : W (p + 1) ≤ D
  hD2 : D < W (p + 2)
  h1 : d1 = D / W (p + 1)
  h2 : d2 = D / W p % 4294967296
  ht : top = U / W (o + p + 1)
  h3 : u3 = U / W (o + p) % 4294967296
theorem EstIn.qt_lt {U D o p qt d1 d2 u3 top : Nat} (h : EstIn U D o p qt d1 d2 u3 top) : qt < 4294967296 := by
  rw [h.hqt]
  refine Nat.div_lt_of_lt_mul ?_
  have := h.hU
  rw [W_succ] at this
  rwa [Nat.mul_assoc, Nat.mul_left_comm, Nat.mul_comm (W o) 4294967296]
theorem EstIn.d1_pos {U D o p qt d1 d2 u3 top : Nat} (h : EstIn U D o p qt d1 d2 u3 top) : 1 ≤ d1 ∧ d1 < 4294967296 := by
  rw [h.h1]
  refine ⟨(Nat.le_div_iff_mul_le (W_pos _)).2 (by rw [Nat.one_mul]; exact h.hD), Nat.div_lt_of_lt_mul ?_⟩
  have := h.hD2
  rwa [show p + 2 = (p + 1) + 1 by omega, W_succ, Nat.mul_comm] at this
theorem EstIn.qt_mul {U D o p qt d1 d2 u3 top : Nat} (h : EstIn U D o p qt d1 d2 u3 top) : qt * (W o * D) ≤ U := by
  rw [h.hqt]; exact Nat.div_mul_le_self _ _
theorem EstIn.d1_mul {U D o p qt d1 d2 u3 top : Nat} (h : EstIn U D o p qt d1 d2 u3 top) : d1 * W (p + 1) ≤ D := by
  rw [h.h1]; exact Nat.div_mul_le_self _ _
theorem EstIn.top_mul {U D o p qt d1 d2 u3 top : Nat} (h : EstIn U D o p qt d1 d2 u3 top) : top * W (o + p + 1) ≤ U := by
  rw [h.ht]; exact Nat.div_mul_le_self _ _
theorem EstIn.start {U D o p qt d1 d2 u3 top : Nat} (h : EstIn U D o p qt d1 d2 u3 top) : EstAt qt d1 top (min (top / d1) 4294967295) (top - min (top / d1) 4294967295 * d1) := by
  have hq : qt ≤ top / d1 := by
    rw [Nat.le_div_iff_mul_le h.d1_pos.1]
    rw [h.ht, Nat.le_div_iff_mul_le (W_pos _)]
    refine Nat.le_trans ?_ h.qt_mul
    rw [Nat.mul_assoc]
    refine Nat.mul_le_mul_left _ ?_
    rw [Nat.add_assoc, W_add, Nat.mul_left_comm]
    exact Nat.mul_le_mul_left _ h.d1_mul
  have h2 := h.qt_lt
  have h3 : min (top / d1) 4294967295 * d1 ≤ top := Nat.le_trans (Nat.mul_le_mul_right _ (Nat.min_le_left _ _)) (Nat.div_mul_le_self _ _)
  refine ⟨by omega, by omega, by omega⟩
/-- The three first elements. -/
theorem EstIn.three {U D o p qt d1 d2 u3 top : Nat} (h : EstIn U D o p qt d1 d2 u3 top) : U / W (o + p) = top * 4294967296 + u3 := by
  rw [h.ht, h.h3, W_succ, Nat.mul_comm 4294967296, ← Nat.div_div_eq_div_mul, Nat.mul_comm (U / W (o + p) / 4294967296)]
  exact (Nat.div_add_mod _ _).symm
theorem EstIn.two {U D o p qt d1 d2 u3 top : Nat} (h : EstIn U D o p qt d1 d2 u3 top) : D / W p = d1 * 4294967296 + d2 := by
  rw [h.h1, h.h2, W_succ, Nat.mul_comm 4294967296, ← Nat.div_div_eq_div_mul, Nat.mul_comm (D / W p / 4294967296)]
  exact (Nat.div_add_mod _ _).symm
theorem EstAt.step {U D o p qt d1 d2 u3 top q r : Nat} (h : EstIn U D o p qt d1 d2 u3 top) (e : EstAt qt d1 top q r) (hc : r * 4294967296 + u3 < q * d2) : 1 ≤ q ∧ EstAt qt d1 top (q - 1) (r + d1) := by
  obtain ⟨e1, e2, e3⟩ := e
  have hq : 1 ≤ q := by
    rcases Nat.eq_zero_or_pos q with h0 | h0
    · rw [h0, Nat.zero_mul] at hc; omega
    · exact h0
  have hlt : qt < q := by
    refine Nat.lt_of_not_le fun hle => ?_
    have h4 : q * (d1 * 4294967296 + d2) ≤ top * 4294967296 + u3 := by
      rw [← h.three, ← h.two, Nat.le_div_iff_mul_le (W_pos _), Nat.mul_assoc]
      refine Nat.le_trans (Nat.mul_le_mul hle ?_) h.qt_mul
      rw [W_add, Nat.mul_left_comm]
      exact Nat.mul_le_mul_left _ (Nat.div_mul_le_self _ _)
    rw [Nat.mul_add, ← e3, Nat.add_mul, ← Nat.mul_assoc] at h4
    omega
  refine ⟨hq, by omega, by omega, ?_⟩
  obtain ⟨j, rfl⟩ : ∃ j, q = j + 1 := ⟨q - 1, by omega⟩
  rw [Nat.succ_mul] at e3
  rw [Nat.add_sub_cancel]; omega
theorem EstAt.stop {U D o p qt d1 d2 u3 top q r : Nat} (h : EstIn U D o p qt d1 d2 u3 top) (e : EstAt qt d1 top q r) (hc : 4294967296 ≤ r ∨ q * d2 ≤ r * 4294967296 + u3) : q = qt ∨ q = qt + 1 := by
  obtain ⟨e1, e2, e3⟩ := e
  have hD1 : D < (d1 + 1) * W (p + 1) := by
    rw [h.h1]; exact Nat.lt_mul_of_div_lt (Nat.lt_succ_self _) (W_pos _)
  have hD2 : D < (d1 * 4294967296 + d2 + 1) * W p := by
    rw [← h.two]; exact Nat.lt_mul_of_div_lt (Nat.lt_succ_self _) (W_pos _)
  have hX : q * (W o * D) ≤ U + W o * D := by
    rcases hc with hc | hc
    · refine Nat.le_trans ?_ (Nat.le_add_right _ _)
      refine Nat.le_trans ?_ h.top_mul
      have h5 : q * (W o * D) ≤ q * (W o * ((d1 + 1) * W (p + 1))) := Nat.mul_le_mul_left _ (Nat.mul_le_mul_left _ (Nat.le_of_lt hD1))
      refine Nat.le_trans h5 ?_
      rw [Nat.mul_left_comm (W o), ← W_add, ← Nat.mul_assoc, ← Nat.add_assoc]
      refine Nat.mul_le_mul_right _ ?_
      rw [Nat.mul_add, Nat.mul_one]; omega
    · have h5 : q * (W o * D) ≤ q * (W o * ((d1 * 4294967296 + d2 + 1) * W p)) := Nat.mul_le_mul_left _ (Nat.mul_le_mul_left _ (Nat.le_of_lt hD2))
      refine Nat.le_trans h5 ?_
      have h6 : q * (d1 * 4294967296 + d2) * W (o + p) ≤ U := by
        rw [← Nat.le_div_iff_mul_le (W_pos _), h.three, Nat.mul_add, ← e3, Nat.add_mul, ← Nat.mul_assoc]; omega
      have h7 : q * W (o + p) ≤ W o * D := by
        refine Nat.le_trans (Nat.mul_le_mul_right _ (Nat.le_of_lt e2)) ?_
        rw [← W_succ, Nat.add_assoc, W_add]
        exact Nat.mul_le_mul_left _ h.hD
      have h8 : q * (W o * ((d1 * 4294967296 + d2 + 1) * W p)) = q * (d1 * 4294967296 + d2) * W (o + p) + q * W (o + p) := by
        rw [Nat.mul_left_comm (W o), ← W_add, ← Nat.mul_assoc, Nat.mul_add q (d1 * 4294967296 + d2), Nat.mul_one, Nat.add_mul]
      omega
  have hq : q ≤ qt + 1 := by
    rcases Nat.eq_zero_or_pos q with h0 | h0
    · omega
    · obtain ⟨j, rfl⟩ : ∃ j, q = j + 1 := ⟨q - 1, by omega⟩
      have : j ≤ qt := by
        rw [h.hqt, Nat.le_div_iff_mul_le (Nat.mul_pos (W_pos _) (Nat.lt_of_lt_of_le (W_pos _) h.hD))]
        rw [Nat.succ_mul] at hX; omega
      omega
  omega
/-- The numbers at hand, out of the rows. -/
theorem EstIn.of {zs d : List Int} {o p : Nat} (lz : Lim zs) (ld : Lim d) (hl : d.length = p + 2) (hD : W (p + 1) ≤ val d) (hU : val zs < val d * W (o + 1)) :
    EstIn (val zs) (val d) o p (val zs / (W o * val d)) (d.getD (p + 1) 0).toNat (d.getD p 0).toNat (zs.getD (o + p) 0).toNat ((zs.getD (o + p + 2) 0).toNat * 4294967296 + (zs.getD (o + p + 1) 0).toNat) := by
  have hD2 : val d < W (p + 2) := by have := val_lt ld; rwa [hl] at this
  have hU2 : val zs < W (o + p + 3) := by
    refine Nat.lt_of_lt_of_le hU ?_
    have : val d * W (o + 1) ≤ W (p + 2) * W (o + 1) := Nat.mul_le_mul_right _ (Nat.le_of_lt hD2)
    rw [← W_add] at this
    exact Nat.le_trans this (W_le (by omega))
  refine ⟨rfl, hU, hD, hD2, ?_, digit ld _, ?_, digit lz _⟩
  · rw [digit ld, Nat.mod_eq_of_lt]
    refine Nat.div_lt_of_lt_mul ?_
    rw [show p + 2 = (p + 1) + 1 by omega, W_succ] at hD2
    rwa [Nat.mul_comm]
  · rw [digit lz, digit lz]
    have h1 : val zs / W (o + p + 2) = val zs / W (o + p + 1) / 4294967296 := by
      rw [Nat.div_div_eq_div_mul, show o + p + 2 = (o + p + 1) + 1 by omega, W_succ, Nat.mul_comm 4294967296]
    have h2 : val zs / W (o + p + 2) < 4294967296 := by
      refine Nat.div_lt_of_lt_mul ?_
      rw [show o + p + 3 = (o + p + 2) + 1 by omega, W_succ] at hU2
      rwa [Nat.mul_comm]
    rw [Nat.mod_eq_of_lt h2, h1, Nat.mul_comm]
    exact Nat.div_add_mod _ _
end Go.Proofs.YtacnkcojhlbkoaaGreatDoor.NL

set_option linter.unusedSimpArgs false
set_option linter.unusedVariables false
set_option linter.unnecessarySimpa false
namespace Go.Proofs.YtacnkcojhlbkoaaGreatDoor
open Go.RowKit Go.Proofs.YtacnkcojhlbkoaaGreatDoorW.PrintWords Go.Proofs.YtacnkcojhlbkoaaGreatDoorW.PrintLast Go.Proofs.YtacnkcojhlbkoaaGreatDoorW.PrintMore Go.Proofs.YtacnkcojhlbkoaaGreatDoor.NL
set_option maxRecDepth 100000

theorem Chg.id (w : World) (S : Nat → Prop) : Chg w w S := Chg.of_below (Below.refl _ _)
end Go.Proofs.YtacnkcojhlbkoaaGreatDoor

set_option linter.unusedSimpArgs false
set_option linter.unusedVariables false
set_option linter.unnecessarySimpa false
namespace Go.Proofs.YtacnkcojhlbkoaaGreatDoor
open Go.RowKit Go.Proofs.YtacnkcojhlbkoaaGreatDoorW.PrintWords Go.Proofs.YtacnkcojhlbkoaaGreatDoorW.PrintLast Go.Proofs.YtacnkcojhlbkoaaGreatDoorW.PrintMore Go.Proofs.YtacnkcojhlbkoaaGreatDoor.NL
set_option maxRecDepth 100000

end Go.Proofs.YtacnkcojhlbkoaaGreatDoor

set_option linter.unusedSimpArgs false
set_option linter.unusedVariables false
set_option linter.unnecessarySimpa false
namespace Go.Proofs.YtacnkcojhlbkoaaGreatDoor.NL
set_option maxRecDepth 100000

theorem val_drop_succ {a : List Int} {k : Nat} (h : k < a.length) : val (a.drop k) = (a.getD k 0).toNat + 4294967296 * val (a.drop (k + 1)) := by
  rw [List.drop_eq_getElem_cons h, List.getD_eq_getElem?_getD, List.getElem?_eq_getElem h]; rfl
theorem drop_set_at {ys : List Int} {k : Nat} {v : Int} (h : k < ys.length) : val ((ys.set k v).drop k) = v.toNat + 4294967296 * val (ys.drop (k + 1)) := by
  have h2 : k < (ys.set k v).length := by rw [List.length_set]; exact h
  rw [val_drop_succ h2, getD_set _ _ _ h]
  congr 3
  apply List.ext_getElem?
  intro i
  rw [List.getElem?_drop, List.getElem?_drop, List.getElem?_set_ne (by omega)]
theorem drop_all {a : List Int} {k : Nat} (h : a.length ≤ k) : val (a.drop k) = 0 := by rw [List.drop_eq_nil_of_le h]; rfl

/-- A number is being divided by one element: what stands from k on is done. -/
def ShortAt (a : List Int) (x : Int) (k : Nat) (r : Int) (ys : List Int) : Prop := 0 ≤ r ∧ r < x ∧ Lim ys ∧ val (ys.drop k) * x.toNat + r.toNat = val (a.drop k)
theorem ShortAt.start {a : List Int} {x : Int} {n : Nat} (hn : a.length = n) (x0 : 0 < x) : ShortAt a x n 0 (List.replicate n 0) := by
  refine ⟨by omega, x0, lim_zeros n, ?_⟩
  rw [drop_all (a := a) (by omega), drop_all (a := List.replicate n 0) (by rw [List.length_replicate]; exact Nat.le_refl _)]; simp
theorem short_nums {r x y : Int} (r0 : 0 ≤ r) (r1 : r < x) (x1 : x < 4294967296) (y0 : 0 ≤ y) (y1 : y < 4294967296) :
    0 ≤ r * 4294967296 + y ∧ r * 4294967296 + y < 18446744073709551616 ∧ 0 ≤ (r * 4294967296 + y) / x ∧ (r * 4294967296 + y) / x < 4294967296 ∧ 0 ≤ (r * 4294967296 + y) % x ∧ (r * 4294967296 + y) % x < x := by
  have hx : 0 < x := by omega
  refine ⟨by omega, by omega, Int.ediv_nonneg (by omega) (by omega), ?_, Int.emod_nonneg _ (by omega), Int.emod_lt_of_pos _ hx⟩
  refine Int.ediv_lt_of_lt_mul hx ?_
  omega
theorem ShortAt.step {a ys : List Int} {x r : Int} {k : Nat} (la : Lim a) (x1 : x < 4294967296) (h : ShortAt a x (k + 1) r ys) (hk : k < a.length) (hy : k < ys.length) :
    ShortAt a x k ((r * 4294967296 + a.getD k 0) % x) (ys.set k ((r * 4294967296 + a.getD k 0) / x)) := by
  obtain ⟨h0, h1, h2, h3⟩ := h
  obtain ⟨y0, y1⟩ := lim_getD la k
  obtain ⟨b0, b1, b2, b3, b4, b5⟩ := short_nums h0 h1 x1 y0 y1
  refine ⟨b4, b5, lim_set h2 ⟨b2, b3⟩, ?_⟩
  rw [drop_set_at hy, val_drop_succ hk, ← h3]
  have e : x * ((r * 4294967296 + a.getD k 0) / x) + (r * 4294967296 + a.getD k 0) % x = r * 4294967296 + a.getD k 0 := Int.mul_ediv_add_emod _ _
  generalize (r * 4294967296 + a.getD k 0) / x = v at *
  generalize (r * 4294967296 + a.getD k 0) % x = r' at *
  generalize a.getD k 0 = y at *
  have e2 : v.toNat * x.toNat + r'.toNat = r.toNat * 4294967296 + y.toNat := by
    have : ((v.toNat * x.toNat + r'.toNat : Nat) : Int) = ((r.toNat * 4294967296 + y.toNat : Nat) : Int) := by
      rw [Int.natCast_add, Int.natCast_mul, Int.natCast_add, Int.natCast_mul, Int.toNat_of_nonneg b2, Int.toNat_of_nonneg (by omega : 0 ≤ x), Int.toNat_of_nonneg b4, Int.toNat_of_nonneg h0, Int.toNat_of_nonneg y0, Int.mul_comm v x]
      exact e
    omega
  generalize val (ys.drop (k + 1)) = Y
  rw [Nat.add_mul, Nat.mul_add, Nat.mul_assoc]
  omega
theorem ShortAt.done {a ys : List Int} {x r : Int} (h : ShortAt a x 0 r ys) : val ys = val a / x.toNat ∧ r.toNat = val a % x.toNat := by
  obtain ⟨h0, h1, h2, h3⟩ := h
  rw [List.drop_zero, List.drop_zero] at h3
  have hx : r.toNat < x.toNat := by omega
  rw [← h3, Nat.mul_comm, Nat.mul_add_div (by omega), Nat.mul_add_mod, Nat.div_eq_of_lt hx, Nat.mod_eq_of_lt hx]
  exact ⟨rfl, rfl⟩

/-- A number is being divided, element by element: X is it, D the divisor, R what is left; the quotient's elements from k on are done. -/
def LongAt (X D k : Nat) (R : Nat) (ys : List Int) : Prop := Lim ys ∧ R < D * W k ∧ val (ys.drop k) * (W k * D) + R = X
theorem LongAt.step {X D R k : Nat} {ys : List Int} (h : LongAt X D (k + 1) R ys) (hD : 0 < D) (hy : k < ys.length) (hq : R / (W k * D) < 4294967296) :
    LongAt X D k (R % (W k * D)) (ys.set k ((R / (W k * D) : Nat) : Int)) := by
  obtain ⟨h1, h2, h3⟩ := h
  have hp : 0 < W k * D := Nat.mul_pos (W_pos k) hD
  refine ⟨lim_set h1 ⟨Int.natCast_nonneg _, Int.ofNat_lt.2 hq⟩, by rw [Nat.mul_comm D]; exact Nat.mod_lt _ hp, ?_⟩
  rw [drop_set_at hy, Int.toNat_natCast, ← h3, W_succ]
  have e := Nat.div_add_mod R (W k * D)
  generalize R / (W k * D) = q at *
  generalize R % (W k * D) = R' at *
  rw [← e, Nat.add_mul, Nat.mul_comm (W k * D) q, Nat.mul_assoc 4294967296 (W k) D, Nat.mul_left_comm (val _) 4294967296, Nat.mul_assoc 4294967296]
  omega
theorem LongAt.done {X D R : Nat} {ys : List Int} (h : LongAt X D 0 R ys) : val ys = X / D ∧ R = X % D := by
  obtain ⟨h1, h2, h3⟩ := h
  rw [List.drop_zero, W_zero, Nat.one_mul] at h3
  rw [W_zero, Nat.mul_one] at h2
  rw [← h3, Nat.mul_comm, Nat.mul_add_div (by omega), Nat.mul_add_mod, Nat.div_eq_of_lt h2, Nat.mod_eq_of_lt h2]
  exact ⟨rfl, rfl⟩
end Go.Proofs.YtacnkcojhlbkoaaGreatDoor.NL

set_option linter.unusedSimpArgs false
set_option linter.unusedVariables false
set_option linter.unnecessarySimpa false
namespace Go.Proofs.YtacnkcojhlbkoaaGreatDoor
open Go.RowKit Go.Proofs.YtacnkcojhlbkoaaGreatDoorW.PrintWords Go.Proofs.YtacnkcojhlbkoaaGreatDoorW.PrintLast Go.Proofs.YtacnkcojhlbkoaaGreatDoorW.PrintMore Go.Proofs.YtacnkcojhlbkoaaGreatDoor.NL
set_option maxRecDepth 100000

end Go.Proofs.YtacnkcojhlbkoaaGreatDoor
