/- Cells that stay as they are. decimal: formats, powers of 10, and words as numbers. nat: division, in plain numbers: what a product takes off a row; the estimate of one element of a quotient. nat: a product with one element is taken off a part of a row. nat: the estimate of one element of a quotient. nat: division element by element, in plain numbers. -/
import Derived.Test.YtiplbpfdkcddlaaDoorJD3
import Derived.Test.YtiplbpfdkcddlaaDoorJD7
import Derived.Test.YtiplbpfdkcddlaaDoorJD4
import Derived.Deep.CutBlock
set_option linter.unusedSimpArgs false
set_option linter.unusedVariables false
set_option linter.unnecessarySimpa false
namespace Go.Proofs.YtiplbpfdkcddlaaDoor
open Go Go.RowKit
theorem kp_alloc {w : World} {a : Addr} {v : Value} {o : Obj} (h : w.cell? a = some v) : (w.alloc o).cell? a = some v := by
  rw [World.cell?_alloc_some _ _ _ (by rw [h]; rfl)]; exact h
theorem kp_set {w : World} {p a : Addr} {x v : Value} (h : w.cell? a = some v) (hne : p.block ≠ a.block) : (w.setCell p x).cell? a = some v := by
  rw [World.cell?_setCell_far _ _ _ _ hne]; exact h
theorem kp_drew {w : World} {a : Addr} {v : Value} (h : w.cell? a = some v) : w.drew.cell? a = some v := h
theorem kp_below {w wx : World} {a : Addr} {v : Value} (h : w.cell? a = some v) (hb : Below w.heap.size w wx) : wx.cell? a = some v := cell_later hb h
/-- A cell that is still what it was. -/
theorem kp {w : World} {a : Addr} {v : Value} (h : w.cell? a = some v := by repeat (first | with_reducible assumption | with_reducible refine kp_alloc ?_ | with_reducible refine kp_drew ?_ | with_reducible refine kp_below ?_ (by with_reducible assumption) | ((with_reducible refine kp_set ?_ ?hne); (case hne => first | (simp; done) | omega | (simp; omega))))) : w.cell? a = some v := h
theorem dr_size (w : World) : w.drew.heap.size = w.heap.size := rfl
theorem dr_cell (w : World) (a : Addr) : w.drew.cell? a = w.cell? a := rfl
theorem dr_frozen (w : World) (a : Addr) : w.drew.frozen? a = w.frozen? a := rfl
theorem sz_alloc {w : World} {n : Nat} {o : Obj} (h : n < w.heap.size) : n < (w.alloc o).heap.size := by
  rw [World.size_alloc]; omega
theorem below_S {n : Nat} {W0 w' : World} (h : Below n W0 w') (hn : n = W0.heap.size := by rfl) : Below n W0 w' ∧ ∀ b o, b < n → w'.cell? ⟨b, o, none⟩ = W0.cell? ⟨b, o, none⟩ := by
  subst hn
  exact ⟨h, (bcell h).1⟩
/-- As 'blk0', but a block that is known at this world is taken first. -/
theorem blk1 {w : World} {g : Nat} {t : TypeId} {f : Array Value → Prop} (h : BlkIs w g t f := by repeat (first | with_reducible assumption | ((with_reducible refine BlkIs.new ?hg ?hf); (case hg => (simp; done)); (case hf => first | rfl | (simp; done))) | with_reducible refine BlkIs.alloc ?_ | with_reducible refine BlkIs.drewN ?_ | with_reducible refine BlkIs.drew ?_ | with_reducible refine BlkIs.set ?_ | ((with_reducible refine BlkIs.far ?_ ?hne); (case hne => first | (simp; done) | omega | (simp; omega))) | ((with_reducible refine BlkIs.of (by with_reducible assumption) ?hf); (case hf => first | rfl | (simp; done))) | with_reducible refine BlkIs.below ?_ (by assumption) | ((with_reducible refine BlkIs.chg ?_ (by assumption) ?hnn); (case hnn => first | (simp; done) | omega | (simp; omega) | (intro hs; have := hs.1; omega))))) : BlkIs w g t f := h
end Go.Proofs.YtiplbpfdkcddlaaDoor

set_option linter.unusedSimpArgs false
set_option linter.unusedVariables false
set_option linter.unnecessarySimpa false
namespace Go.Proofs.YtiplbpfdkcddlaaDoor
open Go.RowKit Go.Proofs.YtiplbpfdkcddlaaDoorW.PrintWords Go.Proofs.YtiplbpfdkcddlaaDoorW.PrintLast Go.Proofs.YtiplbpfdkcddlaaDoorW.PrintMore Go.Proofs.YtiplbpfdkcddlaaDoor.NL
set_option maxRecDepth 100000
set_option exponentiation.threshold 300

/-- The formats' table, as it is laid. -/
def fmts : List Int := [7, -101, 90, 6, 20, 16, -398, 369, 8, 50, 34, -6176, 6111, 12, 110]
abbrev Tab (w : World) : Prop := 0 < w.heap.size ∧ ∀ j, j < 15 → w.cell? ⟨0, j, none⟩ = some (.int .i64 (fmts.getD j 0))
theorem Tab.below {w w' : World} (h : Tab w) (hb : Below w.heap.size w w') : Tab w' := ⟨Nat.lt_of_lt_of_le h.1 (below_size hb), fun j hj => ((bcell hb).1 _ _ h.1).trans (h.2 j hj)⟩
def dP (f : Int) : Int := if f = 6 then 7 else if f = 7 then 16 else 34
def dL (f : Int) : Int := if f = 6 then -101 else if f = 7 then -398 else -6176
def dH (f : Int) : Int := if f = 6 then 90 else if f = 7 then 369 else 6111
def dW (f : Int) : Int := if f = 6 then 6 else if f = 7 then 8 else 12
def dT (f : Int) : Int := if f = 6 then 20 else if f = 7 then 50 else 110
def isDec (f : Int) : Bool := decide (6 ≤ f ∧ f ≤ 8)
theorem dec_cases {f : Int} (h : isDec f = true) : f = 6 ∨ f = 7 ∨ f = 8 := by
  have := of_decide_eq_true h; omega
/-- A format, as a value. -/
@[go_sem] abbrev fV (P L H W T : Int) : Value := .agg #[.int .i64 P, .int .i64 L, .int .i64 H, .int .i64 W, .int .i64 T]
set_option maxHeartbeats 2000000 in
theorem formatOf_no {f : Int} (w : World) (h : isDec f = false) : Calls Tryd.prog 19 #[.int .i64 f] w fun e w' => e = .returned (.tuple #[fV 0 0 0 0 0, .bool false]) ∧ Below w.heap.size w w' := by
  have hh := of_decide_eq_false h
  by_cases h0 : f < 6
  · have d0 : decide (f < 6) = true := decide_eq_true h0
    go_enter Tryd.func19, Tryd.ntmps19
    go_wp2
    exact bodyPost_ret (v := .tuple #[fV 0 0 0 0 0, .bool false]) (by simp [results, Tryd.results19, go_sem]) rfl ⟨rfl, bel⟩
  · have d0 : decide (f < 6) = false := decide_eq_false h0
    have d1 : decide (f > 8) = true := decide_eq_true (by omega)
    go_enter Tryd.func19, Tryd.ntmps19
    go_wp2
    exact bodyPost_ret (v := .tuple #[fV 0 0 0 0 0, .bool false]) (by simp [results, Tryd.results19, go_sem]) rfl ⟨rfl, bel⟩
set_option maxHeartbeats 4000000 in
theorem formatOf_ok {f : Int} (w : World) (h : isDec f = true) (hT : Tab w) : Calls Tryd.prog 19 #[.int .i64 f] w fun e w' => e = .returned (.tuple #[fV (dP f) (dL f) (dH f) (dW f) (dT f), .bool true]) ∧ Below w.heap.size w w' := by
  obtain ⟨hz, hc⟩ := hT
  have t0 := hc 0 (by omega); have t1 := hc 1 (by omega); have t2 := hc 2 (by omega); have t3 := hc 3 (by omega); have t4 := hc 4 (by omega)
  have t5 := hc 5 (by omega); have t6 := hc 6 (by omega); have t7 := hc 7 (by omega); have t8 := hc 8 (by omega); have t9 := hc 9 (by omega)
  have t10 := hc 10 (by omega); have t11 := hc 11 (by omega); have t12 := hc 12 (by omega); have t13 := hc 13 (by omega); have t14 := hc 14 (by omega)
  simp [fmts] at t0 t1 t2 t3 t4 t5 t6 t7 t8 t9 t10 t11 t12 t13 t14
  have hne : w.heap.size ≠ 0 := by omega
  clear hc
  rcases dec_cases h with rfl | rfl | rfl
  all_goals
    go_enter Tryd.func19, Tryd.ntmps19
    go_wp2
  · exact bodyPost_ret (v := .tuple #[fV 7 (-101) 90 6 20, .bool true]) (by simp [results, Tryd.results19, go_sem, *]) rfl ⟨rfl, bel⟩
  · exact bodyPost_ret (v := .tuple #[fV 16 (-398) 369 8 50, .bool true]) (by simp [results, Tryd.results19, go_sem, *]) rfl ⟨rfl, bel⟩
  · exact bodyPost_ret (v := .tuple #[fV 34 (-6176) 6111 12 110, .bool true]) (by simp [results, Tryd.results19, go_sem, *]) rfl ⟨rfl, bel⟩
set_option maxHeartbeats 2000000 in
theorem dpower_any {e : Nat} (w : World) (he : e ≤ 60) (he0 : 0 < e) : Calls Tryd.prog 34 #[.int .i64 e] w (NewRow w (ofN (10 ^ e))) := by
  have HP := Lib.hid fun A w' (h : Kd.C (Kd.int .u32) w' A 1 [10]) => nPow_ten (c := 1) w' h (Nat.le_refl 1) he he0
  generalize ofN (10 ^ e) = R at *
  go_enter Tryd.func34, Tryd.ntmps34
  go_wp2_with (first | fail | (go_at_call 50; (with_reducible refine (HP.out _ _ (ten_C _)).mono ?_); rintro r w1 ⟨v1, rfl, hv1, b1⟩; obtain ⟨A1, c1, rfl⟩ := Kd.R_slice hv1; have HV := Lib.hid hv1; clear hv1; obtain ⟨hc1, hf1⟩ := bcell b1; have hz1 := below_size b1; (try simp at hz1)))
  all_goals
    go_ret
    exact ⟨_, rfl, Kd.R_lower HV.out (by first | omega | (simp; done) | (simp; omega)), bel⟩
set_option maxHeartbeats 2000000 in
theorem dbelow_any {A : Option Addr} {n c e : Nat} {l : List Int} (w : World) (hA : Kd.C (Kd.int .u32) w A n l) (la : Lim l) (hc : n ≤ c) (he : e ≤ 60) (he0 : 0 < e) :
    Calls Tryd.prog 27 #[.slice A n c, .int .i64 e] w fun r w' => r = .returned (.bool (okN l && decide (val l < 10 ^ e))) ∧ Below w.heap.size w w' := by
  have HP := Lib.hid fun w' => dpower_any w' he he0
  have HC := Lib.hid hA
  have hok10 : okN (ofN (10 ^ e)) = true := okN_iff.2 ⟨Nat.le_trans (len_ofN_le (k := 8) (Nat.lt_of_lt_of_le (pow_le_60 (Nat.le_refl 10) he) (by show 2 ^ 240 ≤ W 8; rw [W_two]; exact Nat.pow_le_pow_right (by omega) (by omega)))) (by omega), top_ofN _⟩
  have HCm : Hid (∀ A' n' c' w', Kd.C (Kd.int .u32) w' A n l → Kd.C (Kd.int .u32) w' A' n' (ofN (10 ^ e)) → n' ≤ c' → Calls Tryd.prog 33 #[.slice A n c, .slice A' n' c'] w' (IntErr (if okN l then cmpN (val l) (10 ^ e) else 0) (if okN l then 0 else 1) w')) := Lib.hid fun A' n' c' w' g1 g2 g3 => by
    have := nCmp_any w' g1 g2 la (lim_ofN _) hc g3
    unfold natCmp at this
    rw [hok10, val_ofN, Bool.and_true] at this
    cases hok : okN l with
    | true => rw [hok] at this; exact this
    | false => rw [hok] at this; exact this
  have hlt : decide (cmpN (val l) (10 ^ e) < 0) = decide (val l < 10 ^ e) := by
    rw [decide_eq_decide]; unfold cmpN; split <;> (try split) <;> omega
  clear hA
  generalize 10 ^ e = N at *
  cases hok : okN l with
  | true =>
    simp only [hok, if_true] at HCm
    rw [Bool.true_and, ← hlt]
    have hlt2 := decide_eq_decide.1 hlt
    generalize cmpN (val l) N = z at *
    go_enter Tryd.func27, Tryd.ntmps27
    go_wp2_with (first | fail | (go_at_call 34; (with_reducible refine (HP.out _).mono ?_); rintro r w1 ⟨v1, rfl, hv1, b1⟩; obtain ⟨A1, c1, rfl⟩ := Kd.R_slice hv1; have HV := Lib.hid (R_C hv1); clear hv1; obtain ⟨hc1, hf1⟩ := bcell b1; have hz1 := below_size b1; (try simp at hz1)) | (go_at_call 33; (with_reducible refine (HCm.out _ _ _ _ (Kd.C_below HC.out bel) HV.out.1 HV.out.2).mono ?_); rintro r w2 ⟨rfl, b2⟩))
    all_goals
      go_ret
      exact ⟨by simp [hlt2], bel⟩
  | false =>
    simp only [hok, Bool.false_eq_true, if_false] at HCm
    rw [Bool.false_and]
    go_enter Tryd.func27, Tryd.ntmps27
    go_wp2_with (first | fail | (go_at_call 34; (with_reducible refine (HP.out _).mono ?_); rintro r w1 ⟨v1, rfl, hv1, b1⟩; obtain ⟨A1, c1, rfl⟩ := Kd.R_slice hv1; have HV := Lib.hid (R_C hv1); clear hv1; obtain ⟨hc1, hf1⟩ := bcell b1; have hz1 := below_size b1; (try simp at hz1)) | (go_at_call 33; (with_reducible refine (HCm.out _ _ _ _ (Kd.C_below HC.out bel) HV.out.1 HV.out.2).mono ?_); rintro r w2 ⟨rfl, b2⟩))
    all_goals
      go_ret
      exact ⟨by simp, bel⟩
set_option maxHeartbeats 4000000 in
theorem dnumber_any {N : Nat} {hi lo : Int} (w : World) (hw : Wd N hi lo) : Calls Tryd.prog 102 #[wV hi lo] w (NewRow w (ofN N)) := by
  obtain ⟨a0, a1, b0, b1, hN⟩ := hw
  have HF1 := Lib.hid fun w' => nFromUint_any hi w' a0 a1
  have HF2 := Lib.hid fun w' => nFromUint_any lo w' b0 b1
  have l1 : (ofN hi.toNat).length ≤ 2 := len_ofN_le (Nat.lt_of_lt_of_le (show hi.toNat < 2 ^ 64 by omega) (by show 2 ^ 64 ≤ W 2; rw [W_two]; exact Nat.le_refl _))
  have l2 : (ofN lo.toNat).length ≤ 2 := len_ofN_le (Nat.lt_of_lt_of_le (show lo.toNat < 2 ^ 64 by omega) (by show 2 ^ 64 ≤ W 2; rw [W_two]; exact Nat.le_refl _))
  have hN128 : N < 2 ^ 128 := by omega
  have l3 : (ofN (hi.toNat * 2 ^ 64)).length ≤ 4 := len_ofN_le (Nat.lt_of_lt_of_le (show hi.toNat * 2 ^ 64 < 2 ^ 128 by omega) (by show 2 ^ 128 ≤ W 4; rw [W_two]; exact Nat.le_refl _))
  have l4 : (ofN N).length ≤ 4 := len_ofN_le (Nat.lt_of_lt_of_le hN128 (by show 2 ^ 128 ≤ W 4; rw [W_two]; exact Nat.le_refl _))
  have ok1 : okN (ofN hi.toNat) = true := okN_iff.2 ⟨by omega, top_ofN _⟩
  have ok2 : okN (ofN lo.toNat) = true := okN_iff.2 ⟨by omega, top_ofN _⟩
  have ok3 : okN (ofN (hi.toNat * 2 ^ 64)) = true := okN_iff.2 ⟨by omega, top_ofN _⟩
  have HS : Hid (∀ A n c w', Kd.C (Kd.int .u32) w' A n (ofN hi.toNat) → n ≤ c → Calls Tryd.prog 103 #[.slice A n c, .int .i64 64] w' (NumErr (ofN (hi.toNat * 2 ^ 64)) 0 w')) := Lib.hid fun A n c w' g1 g2 => by
    have := nShl_any 64 w' g1 (lim_ofN _) g2
    have e : natShl (ofN hi.toNat) 64 = (ofN (hi.toNat * 2 ^ 64), 0) := by
      unfold natShl numOut
      rw [ok1, if_pos (by decide)]
      by_cases h : ofN hi.toNat = []
      · have : hi.toNat = 0 := ofN_nil.1 h
        rw [if_pos h, this, Nat.zero_mul, ofN_zero]
      · rw [if_neg h, if_pos (by omega), val_ofN]
        dsimp only
        rw [if_pos rfl, show ((64 : Int).toNat) = 64 from rfl]
        exact if_pos (by omega)
    rw [e] at this
    exact this
  have HA : Hid (∀ A n c A' n' c' w', Kd.C (Kd.int .u32) w' A n (ofN (hi.toNat * 2 ^ 64)) → n ≤ c → Kd.C (Kd.int .u32) w' A' n' (ofN lo.toNat) → n' ≤ c' → Calls Tryd.prog 105 #[.slice A n c, .slice A' n' c'] w' (NumErr (ofN N) 0 w')) := Lib.hid fun A n c A' n' c' w' g1 g2 g3 g4 => by
    have := nAdd_any w' g1 g3 (lim_ofN _) (lim_ofN _) g2 g4
    have e : natAdd (ofN (hi.toNat * 2 ^ 64)) (ofN lo.toNat) = (ofN N, 0) := by
      unfold natAdd numRes numOut
      rw [ok3, ok2, val_ofN, val_ofN, show hi.toNat * 2 ^ 64 + lo.toNat = N by omega]
      simp only [Bool.and_self, if_true]
      rw [if_pos (by omega)]
    rw [e] at this
    exact this
  clear ok1 ok2 ok3 l1 l2 l3 l4 hN128 hN
  generalize hi.toNat * 2 ^ 64 = H at *
  go_enter Tryd.func102, Tryd.ntmps102
  go_wp2_with (first | fail | (go_at_call 104; (with_reducible refine (HF1.out _).mono ?_); rintro r w1 ⟨A1, n1, c1, rfl, h1, b1⟩; obtain ⟨hc1, hf1⟩ := bcell b1; have hz1 := below_size b1; (try simp at hz1); have z01 : w.heap.size < w1.heap.size := (by omega)) | (go_at_call 103; (with_reducible refine (HS.out _ _ _ _ (Kd.C_below h1.out.2 bel) h1.out.1).mono ?_); rintro r w2 ⟨v2, rfl, hv2, b2⟩; obtain ⟨A2, c2, rfl⟩ := Kd.R_slice hv2; have HV2 := Lib.hid (R_C hv2); clear hv2; obtain ⟨hc2, hf2⟩ := bcell b2; have hz2 := below_size b2; (try simp at hz2); have z02 : w.heap.size < w2.heap.size := (by omega)) | (go_at_call 104; (with_reducible refine (HF2.out _).mono ?_); rintro r w3 ⟨A3, n3, c3, rfl, h3, b3⟩; obtain ⟨hc3, hf3⟩ := bcell b3; have hz3 := below_size b3; (try simp at hz3); have z03 : w.heap.size < w3.heap.size := (by omega)) | (go_at_call 105; (with_reducible refine (HA.out _ _ _ _ _ _ _ (Kd.C_below HV2.out.1 bel) HV2.out.2 (Kd.C_below h3.out.2 bel) h3.out.1).mono ?_); rintro r w4 ⟨v4, rfl, hv4, b4⟩; obtain ⟨A4, c4, rfl⟩ := Kd.R_slice hv4; have HV4 := Lib.hid hv4; clear hv4; obtain ⟨hc4, hf4⟩ := bcell b4; have hz4 := below_size b4; (try simp at hz4)))
  all_goals
    go_ret
    exact ⟨_, rfl, Kd.R_lower HV4.out (by first | omega | (simp; done) | (simp; omega)), bel⟩
end Go.Proofs.YtiplbpfdkcddlaaDoor

set_option linter.unusedSimpArgs false
set_option linter.unusedVariables false
set_option linter.unnecessarySimpa false
namespace Go.Proofs.YtiplbpfdkcddlaaDoor.NL
set_option maxRecDepth 100000

/-- A product with one element is being taken off a row, from element o on. -/
def TakeAt (zs d : List Int) (q : Int) (o t k : Nat) (cy bo : Int) (ys : List Int) : Prop :=
  0 ≤ cy ∧ cy < 4294967296 ∧ 0 ≤ bo ∧ bo < 2 ∧ Lim ys ∧ ys.drop t = zs.drop t ∧ cy.toNat * W k ≤ q.toNat * val (d.take k) ∧ val ys + W o * (q.toNat * val (d.take k)) = val zs + W (o + k) * (cy.toNat + bo.toNat)
theorem TakeAt.start {zs d : List Int} {q : Int} {o t : Nat} (lz : Lim zs) : TakeAt zs d q o t 0 0 0 zs := ⟨by omega, by omega, by omega, by omega, lz, rfl, by simp, by simp [val]⟩
theorem drop_set {ys : List Int} {j t : Nat} {x : Int} (h : j < t) : (ys.set j x).drop t = ys.drop t := by
  apply List.ext_getElem?
  intro i
  rw [List.getElem?_drop, List.getElem?_drop, List.getElem?_set_ne (by omega)]
/-- What is left of an element. -/
def takX (r cy q e bo : Int) : Int := subX r ((cy + q * e) % 4294967296) bo
theorem TakeAt.step {zs d ys : List Int} {q cy bo : Int} {o t k : Nat} (ld : Lim d) (q0 : 0 ≤ q) (q1 : q < 4294967296) (h : TakeAt zs d q o t k cy bo ys) (hk : o + k < t) (hy : o + k < ys.length) :
    TakeAt zs d q o t (k + 1) ((cy + q * d.getD k 0) / 4294967296) (takX (ys.getD (o + k) 0) cy q (d.getD k 0) bo / 9223372036854775808) (ys.set (o + k) (takX (ys.getD (o + k) 0) cy q (d.getD k 0) bo % 4294967296)) := by
  obtain ⟨h0, h1, b0, b1, h2, h3, h4, h5⟩ := h
  obtain ⟨y0, y1⟩ := lim_getD ld k
  obtain ⟨u0, u1⟩ := lim_getD h2 (o + k)
  have hb := mul_bound q0 q1 y0 y1 (u := 0) (by omega) (by omega) h0 h1
  have e0 := val_set (x := takX (ys.getD (o + k) 0) cy q (d.getD k 0) bo % 4294967296) hy
  have exy : (q * d.getD k 0).toNat = q.toNat * (d.getD k 0).toNat := Int.toNat_mul q0 y0
  have c0 : 0 ≤ (cy + q * d.getD k 0) / 4294967296 ∧ (cy + q * d.getD k 0) / 4294967296 < 4294967296 ∧ 4294967296 * ((cy + q * d.getD k 0) / 4294967296).toNat + ((cy + q * d.getD k 0) % 4294967296).toNat = cy.toNat + q.toNat * (d.getD k 0).toNat ∧ 0 ≤ (cy + q * d.getD k 0) % 4294967296 ∧ (cy + q * d.getD k 0) % 4294967296 < 4294967296 := by
    rw [← exy]; omega
  unfold takX at *
  generalize (cy + q * d.getD k 0) / 4294967296 = cy' at *
  generalize (cy + q * d.getD k 0) % 4294967296 = lo at *
  have x0 : 0 ≤ subX (ys.getD (o + k) 0) lo bo ∧ subX (ys.getD (o + k) 0) lo bo < 18446744073709551616 := by unfold subX; split <;> omega
  have ex : (subX (ys.getD (o + k) 0) lo bo % 4294967296).toNat + lo.toNat + bo.toNat = (ys.getD (o + k) 0).toNat + 4294967296 * (subX (ys.getD (o + k) 0) lo bo / 9223372036854775808).toNat ∧ 0 ≤ subX (ys.getD (o + k) 0) lo bo / 9223372036854775808 ∧ subX (ys.getD (o + k) 0) lo bo / 9223372036854775808 < 2 ∧ 0 ≤ subX (ys.getD (o + k) 0) lo bo % 4294967296 ∧ subX (ys.getD (o + k) 0) lo bo % 4294967296 < 4294967296 := by unfold subX; split <;> omega
  generalize subX (ys.getD (o + k) 0) lo bo % 4294967296 = nw at *
  generalize subX (ys.getD (o + k) 0) lo bo / 9223372036854775808 = bo' at *
  obtain ⟨ex, n0, n1, n2, n3⟩ := ex
  obtain ⟨c0, c1, c2, -, -⟩ := c0
  refine ⟨c0, c1, n0, n1, lim_set h2 ⟨n2, n3⟩, by rw [drop_set hk]; exact h3, ?_, ?_⟩
  · rw [val_take_succ, W_succ]
    clear ex e0 h5 exy hb x0
    generalize (d.getD k 0).toNat = e at *
    generalize q.toNat = Q at *
    have h6 : cy'.toNat * (4294967296 * W k) ≤ (cy.toNat + Q * e) * W k := by
      rw [← Nat.mul_assoc]
      exact Nat.mul_le_mul_right _ (by omega)
    rw [Nat.add_mul] at h6
    rw [Nat.mul_add, ← Nat.mul_assoc Q (W k) e, Nat.mul_right_comm]
    omega
  · rw [val_take_succ, ← Nat.add_assoc o k 1, W_succ]
    clear h4 hb x0 exy
    generalize (d.getD k 0).toNat = e at *
    generalize (ys.getD (o + k) 0).toNat = r at *
    generalize q.toNat = Q at *
    have hG : W (o + k) * (cy.toNat + bo.toNat + nw.toNat + Q * e) = W (o + k) * (r + 4294967296 * (cy'.toNat + bo'.toNat)) := by
      congr 1; omega
    have h6 : W o * (Q * (W k * e)) = W (o + k) * (Q * e) := by
      rw [W_add]; simp only [Nat.mul_assoc, Nat.mul_left_comm, Nat.mul_comm]
    have h7 : 4294967296 * W (o + k) * (cy'.toNat + bo'.toNat) = W (o + k) * (4294967296 * (cy'.toNat + bo'.toNat)) := by rw [Nat.mul_comm 4294967296, Nat.mul_assoc]
    rw [h7, Nat.mul_add Q, Nat.mul_add (W o), h6]
    rw [Nat.mul_add, Nat.mul_add, Nat.mul_add, Nat.mul_add] at hG
    rw [Nat.mul_add] at h5
    omega
theorem take_len {d : List Int} {m : Nat} (h : d.length ≤ m) : d.take m = d := List.take_of_length_le h
theorem TakeAt.done {zs d ys : List Int} {q cy bo : Int} {o m : Nat} (h : TakeAt zs d q o (o + m) m cy bo ys) (hd : d.length ≤ m) (hq : q.toNat * val d < W m) :
    bo.toNat < 2 ∧ Lim ys ∧ ys.drop (o + m) = zs.drop (o + m) ∧ val ys + W o * (q.toNat * val d) = val zs + W (o + m) * bo.toNat := by
  obtain ⟨h0, h1, b0, b1, h2, h3, h4, h5⟩ := h
  rw [take_len hd] at h4 h5
  have : cy.toNat = 0 := by
    rcases Nat.eq_zero_or_pos cy.toNat with h | h
    · exact h
    · have : 1 * W m ≤ cy.toNat * W m := Nat.mul_le_mul_right _ h
      omega
  rw [this, Nat.zero_add] at h5
  exact ⟨by omega, h2, h3, h5⟩

/-- A number is being added back. -/
def BackAt (zs d : List Int) (o t k : Nat) (cy : Int) (ys : List Int) : Prop :=
  0 ≤ cy ∧ cy < 2 ∧ Lim ys ∧ ys.drop t = zs.drop t ∧ val ys + W (o + k) * cy.toNat = val zs + W o * val (d.take k)
theorem BackAt.start {zs d : List Int} {o t : Nat} (lz : Lim zs) : BackAt zs d o t 0 0 zs := ⟨by omega, by omega, lz, rfl, by simp [val]⟩
theorem BackAt.step {zs d ys : List Int} {cy : Int} {o t k : Nat} (ld : Lim d) (h : BackAt zs d o t k cy ys) (hk : o + k < t) (hy : o + k < ys.length) :
    BackAt zs d o t (k + 1) ((cy + (ys.getD (o + k) 0 + d.getD k 0)) / 4294967296) (ys.set (o + k) ((cy + (ys.getD (o + k) 0 + d.getD k 0)) % 4294967296)) := by
  obtain ⟨h0, h1, h2, h3, h5⟩ := h
  obtain ⟨y0, y1⟩ := lim_getD ld k
  obtain ⟨u0, u1⟩ := lim_getD h2 (o + k)
  have e0 := val_set (x := (cy + (ys.getD (o + k) 0 + d.getD k 0)) % 4294967296) hy
  refine ⟨by omega, by omega, lim_set h2 (by omega), by rw [drop_set hk]; exact h3, ?_⟩
  have ex : ((cy + (ys.getD (o + k) 0 + d.getD k 0)) % 4294967296).toNat + 4294967296 * ((cy + (ys.getD (o + k) 0 + d.getD k 0)) / 4294967296).toNat = cy.toNat + (ys.getD (o + k) 0).toNat + (d.getD k 0).toNat := by omega
  rw [val_take_succ, ← Nat.add_assoc o k 1, W_succ]
  generalize ((cy + (ys.getD (o + k) 0 + d.getD k 0)) % 4294967296) = nw at *
  generalize ((cy + (ys.getD (o + k) 0 + d.getD k 0)) / 4294967296) = cy' at *
  generalize (d.getD k 0).toNat = e at *
  generalize (ys.getD (o + k) 0).toNat = r at *
  have hG : W (o + k) * (nw.toNat + 4294967296 * cy'.toNat) = W (o + k) * (cy.toNat + r + e) := by rw [ex]
  have h6 : W o * (W k * e) = W (o + k) * e := by rw [W_add, Nat.mul_assoc]
  have h7 : 4294967296 * W (o + k) * cy'.toNat = W (o + k) * (4294967296 * cy'.toNat) := by rw [Nat.mul_comm 4294967296, Nat.mul_assoc]
  rw [h7, Nat.mul_add (W o), h6]
  rw [Nat.mul_add, Nat.mul_add, Nat.mul_add] at hG
  omega

/-- A row whose number is small has nothing behind. -/
theorem val_split (zs : List Int) (t : Nat) (h : t ≤ zs.length) : val zs = val (zs.take t) + W t * val (zs.drop t) := by
  have := val_append (zs.take t) (zs.drop t)
  rwa [List.take_append_drop, List.length_take, Nat.min_eq_left h] at this
theorem small_drop {zs : List Int} {t : Nat} (ht : t ≤ zs.length) (h : val zs < W t) : val (zs.drop t) = 0 := by
  have := val_split zs t ht
  rcases Nat.eq_zero_or_pos (val (zs.drop t)) with h0 | h0
  · exact h0
  · have : W t * 1 ≤ W t * val (zs.drop t) := Nat.mul_le_mul_left _ h0
    omega
theorem drop_small {zs ys : List Int} {t : Nat} (ly : Lim ys) (hl : t ≤ ys.length) (h0 : val (zs.drop t) = 0) (h : ys.drop t = zs.drop t) : val ys < W t := by
  have := val_split ys t hl
  rw [h, h0, Nat.mul_zero, Nat.add_zero] at this
  rw [this]
  have h2 := val_lt (l := ys.take t) (fun x hx => ly x (List.mem_of_mem_take hx))
  rwa [List.length_take, Nat.min_eq_left hl] at h2

/-- One element of a quotient is being estimated: q is not below it, r is what it leaves of the two first elements. -/
def EstAt (qt d1 top q r : Nat) : Prop := qt ≤ q ∧ q < 4294967296 ∧ q * d1 + r = top
/-- The numbers at hand: U is the row's, D the divisor's; one element of the quotient. -/
structure EstIn (U D o p qt d1 d2 u3 top : Nat) : Prop where
  hqt : qt = U / (W o * D)
  hU : U < D * W (o + 1)
  hD : W (p + 1) ≤ D
  hD2 : D < W (p + 2)
  h1 : d1 = D / W (p + 1)
  h2 : d2 = D / W p % 4294967296
  ht : top = U / W (o + p + 1)
  h3 : u3 = U / W (o + p) % 4294967296
theorem EstIn.qt_lt {U D o p qt d1 d2 u3 top : Nat} (h : EstIn U D o p qt d1 d2 u3 top) : qt < 4294967296 := by
  rw [h.hqt]
  refine Nat.div_lt_of_lt_mul ?_
  have := h.hU
  rw [W_succ] at this
  rwa [Nat.mul_assoc, Nat.mul_left_comm, Nat.mul_comm (W o) 4294967296]
theorem EstIn.d1_pos {U D o p qt d1 d2 u3 top : Nat} (h : EstIn U D o p qt d1 d2 u3 top) : 1 ≤ d1 ∧ d1 < 4294967296 := by
  rw [h.h1]
  refine ⟨(Nat.le_div_iff_mul_le (W_pos _)).2 (by rw [Nat.one_mul]; exact h.hD), Nat.div_lt_of_lt_mul ?_⟩
  have := h.hD2
  rwa [show p + 2 = (p + 1) + 1 by omega, W_succ, Nat.mul_comm] at this
theorem EstIn.qt_mul {U D o p qt d1 d2 u3 top : Nat} (h : EstIn U D o p qt d1 d2 u3 top) : qt * (W o * D) ≤ U := by
  rw [h.hqt]; exact Nat.div_mul_le_self _ _
theorem EstIn.d1_mul {U D o p qt d1 d2 u3 top : Nat} (h : EstIn U D o p qt d1 d2 u3 top) : d1 * W (p + 1) ≤ D := by
  rw [h.h1]; exact Nat.div_mul_le_self _ _
theorem EstIn.top_mul {U D o p qt d1 d2 u3 top : Nat} (h : EstIn U D o p qt d1 d2 u3 top) : top * W (o + p + 1) ≤ U := by
  rw [h.ht]; exact Nat.div_mul_le_self _ _
theorem EstIn.top_lt {U D o p qt d1 d2 u3 top : Nat} (h : EstIn U D o p qt d1 d2 u3 top) : top < 18446744073709551616 := by
  rw [h.ht]
  refine Nat.div_lt_of_lt_mul (Nat.lt_of_lt_of_le h.hU ?_)
  rw [show (18446744073709551616 : Nat) = W 2 from rfl, ← W_add]
  have : D * W (o + 1) ≤ W (p + 2) * W (o + 1) := Nat.mul_le_mul_right _ (Nat.le_of_lt h.hD2)
  rw [← W_add] at this
  exact Nat.le_trans this (W_le (by omega))
theorem EstIn.start {U D o p qt d1 d2 u3 top : Nat} (h : EstIn U D o p qt d1 d2 u3 top) : EstAt qt d1 top (min (top / d1) 4294967295) (top - min (top / d1) 4294967295 * d1) := by
  have hq : qt ≤ top / d1 := by
    rw [Nat.le_div_iff_mul_le h.d1_pos.1]
    rw [h.ht, Nat.le_div_iff_mul_le (W_pos _)]
    refine Nat.le_trans ?_ h.qt_mul
    rw [Nat.mul_assoc]
    refine Nat.mul_le_mul_left _ ?_
    rw [Nat.add_assoc, W_add, Nat.mul_left_comm]
    exact Nat.mul_le_mul_left _ h.d1_mul
  have h2 := h.qt_lt
  have h3 : min (top / d1) 4294967295 * d1 ≤ top := Nat.le_trans (Nat.mul_le_mul_right _ (Nat.min_le_left _ _)) (Nat.div_mul_le_self _ _)
  refine ⟨by omega, by omega, by omega⟩
/-- The three first elements. -/
theorem EstIn.three {U D o p qt d1 d2 u3 top : Nat} (h : EstIn U D o p qt d1 d2 u3 top) : U / W (o + p) = top * 4294967296 + u3 := by
  rw [h.ht, h.h3, W_succ, Nat.mul_comm 4294967296, ← Nat.div_div_eq_div_mul, Nat.mul_comm (U / W (o + p) / 4294967296)]
  exact (Nat.div_add_mod _ _).symm
theorem EstIn.two {U D o p qt d1 d2 u3 top : Nat} (h : EstIn U D o p qt d1 d2 u3 top) : D / W p = d1 * 4294967296 + d2 := by
  rw [h.h1, h.h2, W_succ, Nat.mul_comm 4294967296, ← Nat.div_div_eq_div_mul, Nat.mul_comm (D / W p / 4294967296)]
  exact (Nat.div_add_mod _ _).symm
theorem EstAt.step {U D o p qt d1 d2 u3 top q r : Nat} (h : EstIn U D o p qt d1 d2 u3 top) (e : EstAt qt d1 top q r) (hc : r * 4294967296 + u3 < q * d2) : 1 ≤ q ∧ EstAt qt d1 top (q - 1) (r + d1) := by
  obtain ⟨e1, e2, e3⟩ := e
  have hq : 1 ≤ q := by
    rcases Nat.eq_zero_or_pos q with h0 | h0
    · rw [h0, Nat.zero_mul] at hc; omega
    · exact h0
  have hlt : qt < q := by
    refine Nat.lt_of_not_le fun hle => ?_
    have h4 : q * (d1 * 4294967296 + d2) ≤ top * 4294967296 + u3 := by
      rw [← h.three, ← h.two, Nat.le_div_iff_mul_le (W_pos _), Nat.mul_assoc]
      refine Nat.le_trans (Nat.mul_le_mul hle ?_) h.qt_mul
      rw [W_add, Nat.mul_left_comm]
      exact Nat.mul_le_mul_left _ (Nat.div_mul_le_self _ _)
    rw [Nat.mul_add, ← e3, Nat.add_mul, ← Nat.mul_assoc] at h4
    omega
  refine ⟨hq, by omega, by omega, ?_⟩
  obtain ⟨j, rfl⟩ : ∃ j, q = j + 1 := ⟨q - 1, by omega⟩
  rw [Nat.succ_mul] at e3
  rw [Nat.add_sub_cancel]; omega
theorem EstAt.stop {U D o p qt d1 d2 u3 top q r : Nat} (h : EstIn U D o p qt d1 d2 u3 top) (e : EstAt qt d1 top q r) (hc : 4294967296 ≤ r ∨ q * d2 ≤ r * 4294967296 + u3) : q = qt ∨ q = qt + 1 := by
  obtain ⟨e1, e2, e3⟩ := e
  have hD1 : D < (d1 + 1) * W (p + 1) := by
    rw [h.h1]; exact Nat.lt_mul_of_div_lt (Nat.lt_succ_self _) (W_pos _)
  have hD2 : D < (d1 * 4294967296 + d2 + 1) * W p := by
    rw [← h.two]; exact Nat.lt_mul_of_div_lt (Nat.lt_succ_self _) (W_pos _)
  have hX : q * (W o * D) ≤ U + W o * D := by
    rcases hc with hc | hc
    · refine Nat.le_trans ?_ (Nat.le_add_right _ _)
      refine Nat.le_trans ?_ h.top_mul
      have h5 : q * (W o * D) ≤ q * (W o * ((d1 + 1) * W (p + 1))) := Nat.mul_le_mul_left _ (Nat.mul_le_mul_left _ (Nat.le_of_lt hD1))
      refine Nat.le_trans h5 ?_
      rw [Nat.mul_left_comm (W o), ← W_add, ← Nat.mul_assoc, ← Nat.add_assoc]
      refine Nat.mul_le_mul_right _ ?_
      rw [Nat.mul_add, Nat.mul_one]; omega
    · have h5 : q * (W o * D) ≤ q * (W o * ((d1 * 4294967296 + d2 + 1) * W p)) := Nat.mul_le_mul_left _ (Nat.mul_le_mul_left _ (Nat.le_of_lt hD2))
      refine Nat.le_trans h5 ?_
      have h6 : q * (d1 * 4294967296 + d2) * W (o + p) ≤ U := by
        rw [← Nat.le_div_iff_mul_le (W_pos _), h.three, Nat.mul_add, ← e3, Nat.add_mul, ← Nat.mul_assoc]; omega
      have h7 : q * W (o + p) ≤ W o * D := by
        refine Nat.le_trans (Nat.mul_le_mul_right _ (Nat.le_of_lt e2)) ?_
        rw [← W_succ, Nat.add_assoc, W_add]
        exact Nat.mul_le_mul_left _ h.hD
      have h8 : q * (W o * ((d1 * 4294967296 + d2 + 1) * W p)) = q * (d1 * 4294967296 + d2) * W (o + p) + q * W (o + p) := by
        rw [Nat.mul_left_comm (W o), ← W_add, ← Nat.mul_assoc, Nat.mul_add q (d1 * 4294967296 + d2), Nat.mul_one, Nat.add_mul]
      omega
  have hq : q ≤ qt + 1 := by
    rcases Nat.eq_zero_or_pos q with h0 | h0
    · omega
    · obtain ⟨j, rfl⟩ : ∃ j, q = j + 1 := ⟨q - 1, by omega⟩
      have : j ≤ qt := by
        rw [h.hqt, Nat.le_div_iff_mul_le (Nat.mul_pos (W_pos _) (Nat.lt_of_lt_of_le (W_pos _) h.hD))]
        rw [Nat.succ_mul] at hX; omega
      omega
  omega
theorem EstIn.U_lt {U D o p qt d1 d2 u3 top : Nat} (h : EstIn U D o p qt d1 d2 u3 top) : U < W (o + (p + 3)) := by
  refine Nat.lt_of_lt_of_le h.hU ?_
  have : D * W (o + 1) ≤ W (p + 2) * W (o + 1) := Nat.mul_le_mul_right _ (Nat.le_of_lt h.hD2)
  rw [← W_add] at this
  exact Nat.le_trans this (W_le (by omega))
theorem EstIn.X_pos {U D o p qt d1 d2 u3 top : Nat} (h : EstIn U D o p qt d1 d2 u3 top) : 0 < W o * D := Nat.mul_pos (W_pos _) (Nat.lt_of_lt_of_le (W_pos _) h.hD)
theorem EstIn.X_le {U D o p qt d1 d2 u3 top : Nat} (h : EstIn U D o p qt d1 d2 u3 top) : W o * D < W (o + (p + 3)) := by
  have : W o * D < W o * W (p + 2) := Nat.mul_lt_mul_of_pos_left h.hD2 (W_pos _)
  rw [← W_add] at this
  exact Nat.lt_of_lt_of_le this (W_le (by omega))
theorem EstIn.fin0 {U D o p qt d1 d2 u3 top q V : Nat} (h : EstIn U D o p qt d1 d2 u3 top) (hq : q = qt ∨ q = qt + 1) (hv : V + W o * (q * D) = U) : q = qt ∧ V = U % (W o * D) := by
  have e : W o * (q * D) = q * (W o * D) := Nat.mul_left_comm ..
  rw [e] at hv
  have h1 : q ≤ qt := by
    rw [h.hqt, Nat.le_div_iff_mul_le h.X_pos]; omega
  have h2 : q = qt := by omega
  refine ⟨h2, ?_⟩
  have h3 := Nat.div_add_mod U (W o * D)
  rw [← h.hqt, Nat.mul_comm, ← h2] at h3
  omega
theorem EstIn.fin1 {U D o p qt d1 d2 u3 top q V Y c : Nat} (h : EstIn U D o p qt d1 d2 u3 top) (hq : q = qt ∨ q = qt + 1) (hv : V + W o * (q * D) = U + W (o + (p + 3))) (hV : V < W (o + (p + 3))) (hc : c < 2) (hY : Y < W (o + (p + 3))) (hb : Y + W (o + (p + 3)) * c = V + W o * D) :
    q = qt + 1 ∧ Y = U % (W o * D) := by
  have e : W o * (q * D) = q * (W o * D) := Nat.mul_left_comm ..
  rw [e] at hv
  have h2 : q = qt + 1 := by
    rcases hq with h1 | h1
    · have := h.qt_mul
      rw [← h1] at this
      omega
    · exact h1
  refine ⟨h2, ?_⟩
  have h3 := Nat.div_add_mod U (W o * D)
  rw [← h.hqt, Nat.mul_comm] at h3
  rw [h2, Nat.succ_mul] at hv
  generalize qt * (W o * D) = Z at *
  generalize W (o + (p + 3)) = t at *
  have h4 : c = 0 ∨ c = 1 := by omega
  rcases h4 with rfl | rfl
  · omega
  · omega
/-- The numbers at hand, out of the rows. -/
theorem EstIn.of {zs d : List Int} {o p : Nat} (lz : Lim zs) (ld : Lim d) (hl : d.length = p + 2) (hD : W (p + 1) ≤ val d) (hU : val zs < val d * W (o + 1)) :
    EstIn (val zs) (val d) o p (val zs / (W o * val d)) (d.getD (p + 1) 0).toNat (d.getD p 0).toNat (zs.getD (o + p) 0).toNat ((zs.getD (o + p + 2) 0).toNat * 4294967296 + (zs.getD (o + p + 1) 0).toNat) := by
  have hD2 : val d < W (p + 2) := by have := val_lt ld; rwa [hl] at this
  have hU2 : val zs < W (o + p + 3) := by
    refine Nat.lt_of_lt_of_le hU ?_
    have : val d * W (o + 1) ≤ W (p + 2) * W (o + 1) := Nat.mul_le_mul_right _ (Nat.le_of_lt hD2)
    rw [← W_add] at this
    exact Nat.le_trans this (W_le (by omega))
  refine ⟨rfl, hU, hD, hD2, ?_, digit ld _, ?_, digit lz _⟩
  · rw [digit ld, Nat.mod_eq_of_lt]
    refine Nat.div_lt_of_lt_mul ?_
    rw [show p + 2 = (p + 1) + 1 by omega, W_succ] at hD2
    rwa [Nat.mul_comm]
  · rw [digit lz, digit lz]
    have h1 : val zs / W (o + p + 2) = val zs / W (o + p + 1) / 4294967296 := by
      rw [Nat.div_div_eq_div_mul, show o + p + 2 = (o + p + 1) + 1 by omega, W_succ, Nat.mul_comm 4294967296]
    have h2 : val zs / W (o + p + 2) < 4294967296 := by
      refine Nat.div_lt_of_lt_mul ?_
      rw [show o + p + 3 = (o + p + 2) + 1 by omega, W_succ] at hU2
      rwa [Nat.mul_comm]
    rw [Nat.mod_eq_of_lt h2, h1, Nat.mul_comm]
    exact Nat.div_add_mod _ _
end Go.Proofs.YtiplbpfdkcddlaaDoor.NL

set_option linter.unusedSimpArgs false
set_option linter.unusedVariables false
set_option linter.unnecessarySimpa false
namespace Go.Proofs.YtiplbpfdkcddlaaDoor
open Go.RowKit Go.Proofs.YtiplbpfdkcddlaaDoorW.PrintWords Go.Proofs.YtiplbpfdkcddlaaDoorW.PrintLast Go.Proofs.YtiplbpfdkcddlaaDoorW.PrintMore Go.Proofs.YtiplbpfdkcddlaaDoor.NL
set_option maxRecDepth 100000

theorem Chg.id (w : World) (S : Nat → Prop) : Chg w w S := Chg.of_below (Below.refl _ _)
theorem Chg.tr {w w' w'' : World} {S : Nat → Prop} (h : Chg w w' S) (k : Chg w' w'' S) : Chg w w'' S :=
  ⟨k.os.trans h.os, k.tape.trans h.tape, k.output.trans h.output, Nat.le_trans h.size k.size, fun i hi hS => (k.block i (Nat.lt_of_lt_of_le hi h.size) hS).trans (h.block i hi hS)⟩
def TakRel (zs d : List Int) (q : Int) (o m L c g : Nat) (w0 w : World) (vc vb vi : Value) (wr : World) : Prop :=
  ∃ (k : Nat) (cy bo : Int) (ys : List Int), k ≤ m ∧ vi = .int .i64 k ∧ vc = .int .u64 cy ∧ vb = .int .u64 bo ∧ ys.length = L ∧ OwnI .u32 46 w0.heap.size wr (.slice (some ⟨g, 0, none⟩) L c) ys ∧ Below w0.heap.size w0 wr ∧ Chg w wr (fun k => k = g) ∧ TakeAt zs d q o (o + m) k cy bo ys
def TakP (zs d : List Int) (q : Int) (o m L c g : Nat) (w0 w : World) (e : Ending) (w' : World) : Prop :=
  ∃ (bo : Int) (ys : List Int), e = .returned (.bool (decide (bo > 0))) ∧ 0 ≤ bo ∧ bo.toNat < 2 ∧ OwnI .u32 46 w0.heap.size w' (.slice (some ⟨g, 0, none⟩) L c) ys ∧ ys.length = L ∧ Lim ys ∧ ys.drop (o + m) = zs.drop (o + m) ∧ val ys + W o * (q.toNat * val d) = val zs + W (o + m) * bo.toNat ∧ Below w0.heap.size w0 w' ∧ Chg w w' (fun k => k = g)
set_option maxHeartbeats 4000000 in
theorem takes_any {w0 : World} (g o m c' L c : Nat) (zs : List Int) (D : Option Addr) (nd cd : Nat) (d : List Int) (q : Int) (w : World)
    (hO : OwnI .u32 46 w0.heap.size w (.slice (some ⟨g, 0, none⟩) L c) zs) (hz : zs.length = L) (lz : Lim zs) (hm : o + m ≤ L) (hL : L ≤ 1000000000) (hD : Kd.C (Kd.int .u32) w0 D nd d) (ld : Lim d) (hb0 : Below w0.heap.size w0 w) (hnd : nd ≤ m) (q0 : 0 ≤ q) (q1 : q < 4294967296) (hq : q.toNat * val d < W m) :
    Calls Tryd.prog 86 #[.slice (some ⟨g, o, none⟩) m c', .slice D nd cd, .int .u64 q] w (TakP zs d q o m L c g w0 w) := by
  have hd : d.length = nd := hD.1
  have HD := Lib.hid hD
  have HDL := Lib.hid hd
  have HO := Lib.hid hO
  have HQ := Lib.hid hq
  have HZ := Lib.hid hz
  clear hD hd hO hq hz
  go_enter Tryd.func86, Tryd.ntmps86
  go_wp2
  go_loopw [7, 8, 13] (fun vc vb vi wr => TakRel zs d q o m L c g w0 w vc vb vi wr) (fun _ _ vi _ => m - (intOf vi).toNat)
  case atStart => exact ⟨0, 0, 0, zs, by omega, rfl, rfl, rfl, HZ.out, HO.out, hb0, Chg.id _ _, TakeAt.start lz⟩
  case round =>
    obtain ⟨k, cy, bo, ys, hk, rfl, rfl, rfl, hy, hown, hbw, hch, htk⟩ := hrel
    have HY := Lib.hid hy
    have HW := Lib.hid hown
    have HT := Lib.hid htk
    obtain ⟨c0, c1, b0, b1, ly, -, -, -⟩ := htk
    clear hy hown
    by_cases hlt : k < m
    · obtain ⟨g', hg', hg0, hg1, hgc, hgf⟩ := own_open HW.out (by omega)
      obtain rfl : g = g' := by injection hg' with h1; injection h1
      clear hg'
      have hcell := hgc (o + k) (by omega)
      have hfr := hgf (o + k)
      obtain ⟨r0, r1⟩ := lim_getD ly (o + k)
      obtain ⟨y0, y1⟩ := lim_getD ld k
      have hst := TakeAt.step ld q0 q1 HT.out (by omega) (by rw [HY.out]; omega)
      unfold takX at hst
      have HST := Lib.hid hst
      have ata : ∀ w', Below wr.heap.size wr w' → Calls Tryd.prog 83 #[.slice D nd cd, .int .i64 k] w' fun e w'' => e = .returned (.int .u64 (d.getD k 0)) ∧ w' = w'' := fun w' hb' =>
        at_any D nd cd d k w' (Kd.C_below HD.out (below_step hbw hb')) ld (by omega) (by omega)
      have HAT := Lib.hid ata
      clear hgc hgf hst ata ly
      generalize d.getD k 0 = y at *
      generalize ys.getD (o + k) 0 = r at *
      obtain ⟨m0, m1, m2, m3⟩ := mul_bound q0 q1 y0 y1 (u := 0) (by omega) (by omega) c0 c1
      rw [Int.add_zero] at m2 m3
      have l0 : 0 ≤ (cy + q * y) % 4294967296 := by omega
      have l1 : (cy + q * y) % 4294967296 < 4294967296 := by omega
      go_wp2_with (first | (go_at_call 83; (with_reducible refine (HAT.out _ bel).mono ?_); rintro e w3 ⟨rfl, rfl⟩))
      rw [wrap_sub r0 r1 l0 l1 b0 b1]
      go_roundw
      case rel => exact ⟨k + 1, _, _, _, by omega, by simp, rfl, rfl, by simp [HY.out], Kd.R_putn HW.out ((o + k : Nat) : Int) _, bel, Chg.setCell hch rfl _, HST.out⟩
      case measure => simp [intOf]; omega
    · obtain rfl : k = m := by omega
      obtain ⟨p1, p2, p3, p4⟩ := TakeAt.done HT.out (by rw [HDL.out]; exact hnd) HQ.out
      have H2 := Lib.hid p2
      have H3 := Lib.hid p3
      have H4 := Lib.hid p4
      clear p2 p3 p4 ly
      go_wp2
      go_ret
      exact ⟨bo, ys, rfl, b0, p1, HW.out, HY.out, H2.out, H3.out, H4.out, hbw, hch⟩
end Go.Proofs.YtiplbpfdkcddlaaDoor

set_option linter.unusedSimpArgs false
set_option linter.unusedVariables false
set_option linter.unnecessarySimpa false
namespace Go.Proofs.YtiplbpfdkcddlaaDoor
open Go.RowKit Go.Proofs.YtiplbpfdkcddlaaDoorW.PrintWords Go.Proofs.YtiplbpfdkcddlaaDoorW.PrintLast Go.Proofs.YtiplbpfdkcddlaaDoorW.PrintMore Go.Proofs.YtiplbpfdkcddlaaDoor.NL
set_option maxRecDepth 100000

theorem or_high (x y : Int) (x0 : 0 ≤ x) (x1 : x < 4294967296) (y0 : 0 ≤ y) (y1 : y < 4294967296) : bits .or .u64 (y * 4294967296) x = y * 4294967296 + x := by
  rw [u64_or _ _ (by omega) (by omega) x0 (by omega), nat_join 32]
  · omega
  · rw [Int.toNat_mul y0 (by omega)]; exact Nat.mul_mod_left _ _
  · omega
theorem below_S2 {n : Nat} {W0 w' : World} (h : Below n W0 w') (hn : n = W0.heap.size := by rfl) : Below n W0 w' ∧ ∀ b o, b < n → w'.cell? ⟨b, o, none⟩ = W0.cell? ⟨b, o, none⟩ := by
  subst hn
  exact ⟨h, (bcell h).1⟩
theorem est_start {T : Nat} {x : Int} (_x0 : 0 ≤ x) (x1 : 1 ≤ x) (hT : T < 18446744073709551616) : min (IntKind.u64.wrap ((T : Int) / x)) 4294967295 = ((min (T / x.toNat) 4294967295 : Nat) : Int) ∧
    IntKind.u64.wrap ((T : Int) - IntKind.u64.wrap (((min (T / x.toNat) 4294967295 : Nat) : Int) * x)) = ((T - min (T / x.toNat) 4294967295 * x.toNat : Nat) : Int) := by
  obtain ⟨k, rfl⟩ := Int.eq_ofNat_of_zero_le _x0
  rw [Int.toNat_natCast]
  have h1 : ((T : Int) / (k : Int)) = ((T / k : Nat) : Int) := (Int.natCast_ediv T k).symm
  have h2 : T / k ≤ T := Nat.div_le_self _ _
  have h3 : min (T / k) 4294967295 * k ≤ T := Nat.le_trans (Nat.mul_le_mul_right _ (Nat.min_le_left _ _)) (Nat.div_mul_le_self _ _)
  have h4 : ((min (T / k) 4294967295 : Nat) : Int) * (k : Int) = ((min (T / k) 4294967295 * k : Nat) : Int) := (Int.natCast_mul _ _).symm
  rw [h1, h4]
  generalize min (T / k) 4294967295 * k = z at *
  generalize T / k = y at *
  rw [IntKind.wrap_u64, IntKind.wrap_u64, IntKind.wrap_u64]
  omega
def EstRel (qt d1 top : Nat) (vq vr : Value) : Prop := ∃ q r : Nat, vq = .int .u64 q ∧ vr = .int .u64 r ∧ r < 18446744073709551616 ∧ EstAt qt d1 top q r
def BakRel (zs d : List Int) (o m L c g : Nat) (w0 w : World) (vc vi : Value) (wr : World) : Prop :=
  ∃ (k : Nat) (cy : Int) (ys : List Int), k ≤ m ∧ vi = .int .i64 k ∧ vc = .int .u64 cy ∧ ys.length = L ∧ OwnI .u32 46 w0.heap.size wr (.slice (some ⟨g, 0, none⟩) L c) ys ∧ Below w0.heap.size w0 wr ∧ Chg w wr (fun k => k = g) ∧ BackAt zs d o (o + m) k cy ys
def EstP (qt : Nat) (zs d : List Int) (o L c g : Nat) (w0 w : World) (e : Ending) (w' : World) : Prop :=
  ∃ (ys : List Int), e = .returned (.int .u32 (qt : Nat)) ∧ OwnI .u32 46 w0.heap.size w' (.slice (some ⟨g, 0, none⟩) L c) ys ∧ ys.length = L ∧ Lim ys ∧ val ys = val zs % (W o * val d) ∧ Below w0.heap.size w0 w' ∧ Chg w w' (fun k => k = g)
set_option maxHeartbeats 8000000 in
theorem estimate_any {w0 : World} (g o p n c' L c : Nat) (zs : List Int) (D : Option Addr) (cd : Nat) (d : List Int) (w : World) (hn : n = p + 2)
    (hO : OwnI .u32 46 w0.heap.size w (.slice (some ⟨g, 0, none⟩) L c) zs) (hz : zs.length = L) (lz : Lim zs) (hm : o + (n + 1) ≤ L) (hL : L ≤ 1000000000) (hD : Kd.C (Kd.int .u32) w0 D n d) (ld : Lim d) (hb0 : Below w0.heap.size w0 w) (hW : W (p + 1) ≤ val d) (hU : val zs < val d * W (o + 1)) :
    Calls Tryd.prog 80 #[.slice (some ⟨g, o, none⟩) (n + 1) c', .slice D n cd] w (EstP (val zs / (W o * val d)) zs d o L c g w0 w) := by
  have hd : d.length = n := hD.1
  have hE := EstIn.of lz ld (hd.trans hn) hW hU
  generalize val zs / (W o * val d) = qt at *
  have ht := hE.top_lt
  have hd1 := hE.d1_pos
  have hU2 := hE.U_lt
  have HD := Lib.hid hD
  have HDL := Lib.hid hd
  have HO := Lib.hid hO
  have HZ := Lib.hid hz
  obtain ⟨g', hg', hg0, hg1, hgc, hgf⟩ := own_open hO (by omega)
  obtain rfl : g = g' := by injection hg' with h1; injection h1
  clear hg'
  have z2 := hgc (o + n) (by omega)
  have z1 := hgc (o + (n - 1)) (by omega)
  have z0 := hgc (o + (n - 2)) (by omega)
  obtain ⟨b, off, rfl, hbl, hcs⟩ := open_C (Kd.C_below hD hb0) (by omega)
  have e1 := hcs (n - 1) (by omega)
  have e0 := hcs (n - 2) (by omega)
  obtain ⟨r0, r1⟩ := lim_getD lz (o + n)
  obtain ⟨s0, s1⟩ := lim_getD lz (o + (n - 1))
  obtain ⟨t0, t1⟩ := lim_getD lz (o + (n - 2))
  obtain ⟨x0, x1⟩ := lim_getD ld (n - 1)
  obtain ⟨y0, y1⟩ := lim_getD ld (n - 2)
  clear hgc hgf hcs hD hd hO hz
  rw [show o + p + 2 = o + n by omega, show o + p + 1 = o + (n - 1) by omega] at hE ht
  rw [show o + p = o + (n - 2) by omega, show p + 1 = n - 1 by omega] at hE
  rw [show d.getD p 0 = d.getD (n - 2) 0 by congr 1; omega] at hE
  rw [show p + 1 = n - 1 by omega] at hd1
  have HE := Lib.hid hE
  clear hE
  generalize zs.getD (o + n) 0 = zr at *
  generalize zs.getD (o + (n - 1)) 0 = zt at *
  generalize zs.getD (o + (n - 2)) 0 = zu at *
  generalize d.getD (n - 1) 0 = x at *
  generalize d.getD (n - 2) 0 = y at *
  have or1 := or_high zt zr s0 s1 r0 r1
  have xp : (x == 0) = false := by have := hd1.1; simp; omega
  obtain ⟨T, hT⟩ : ∃ T : Nat, T = zr.toNat * 4294967296 + zt.toNat := ⟨_, rfl⟩
  have hT2 : zr * 4294967296 + zt = (T : Int) := by omega
  rw [← hT] at HE ht
  have hn2 : 2 ≤ n := by omega
  have HN := Lib.hid hn
  have HT := Lib.hid hT
  clear hn hT
  obtain ⟨hq0, hr0⟩ := est_start x0 (by omega : 1 ≤ x) ht
  have HST := Lib.hid (EstIn.start HE.out)
  have H0 := Lib.hid (Nat.lt_of_le_of_lt (Nat.sub_le T (min (T / x.toNat) 4294967295 * x.toNat)) ht)
  go_enter Tryd.func80, Tryd.ntmps80
  go_wp2_with fail
  go_region
  go_upto_block 0 with fail
  go_cut [7] (fun vq wx => ∃ q : Nat, vq = .int .u64 q ∧ q < 4294967296 ∧ (q = qt ∨ q = qt + 1) ∧ Below w.heap.size w wx)
  case first =>
    go_wp2_with fail
    go_loopw [7, 8] (fun vq vr wr => EstRel qt x.toNat T vq vr ∧ Below w.heap.size w wr) (fun vq _ _ => (intOf vq).toNat)
    case atStart => exact ⟨⟨_, _, rfl, rfl, H0.out, HST.out⟩, bel⟩
    case round =>
      obtain ⟨⟨q, r, rfl, rfl, hr, hE2⟩, hbw⟩ := hrel
      have hcx := (bcell hbw).1
      have k0 := (hcx _ _ hg1).trans z0
      have k1 := (hcx _ _ hbl).trans e1
      have k2 := (hcx _ _ hbl).trans e0
      have hql := hE2.2.1
      have hsz := below_size hbw
      have kg : g < wr.heap.size := by omega
      have kb : b < wr.heap.size := by omega
      clear hcx z0 z1 z2 e0 e1 or1 hq0 hr0 H0 HST hsz hg1 hbl
      have HE2 := Lib.hid hE2
      clear hE2
      obtain ⟨m0, m1, -, -⟩ := mul_bound (x := (q : Int)) (by omega) (by omega) y0 y1 (u := 0) (c := 0) (by omega) (by omega) (by omega) (by omega)
      by_cases hr2 : r < 4294967296
      · have d0 : decide ((r : Int) < 4294967296) = true := decide_eq_true (by omega)
        have or2 := or_high zu (r : Int) t0 t1 (by omega) (by omega)
        by_cases hc : (r : Int) * 4294967296 + zu < (q : Int) * y
        · have tc : decide ((q : Int) * y > (r : Int) * 4294967296 + zu) = true := decide_eq_true hc
          obtain ⟨p1, p2⟩ := EstAt.step HE.out HE2.out (by
            have h2 : ((r * 4294967296 + zu.toNat : Nat) : Int) < ((q * y.toNat : Nat) : Int) := by
              rw [Int.natCast_mul, Int.toNat_of_nonneg y0]; omega
            omega)
          have P2 := Lib.hid p2
          have hq1 : IntKind.u64.wrap ((q : Int) - 1) = ((q - 1 : Nat) : Int) := by rw [IntKind.wrap_u64]; omega
          have hr1 : IntKind.u64.wrap ((r : Int) + x) = ((r + x.toNat : Nat) : Int) := by rw [IntKind.wrap_u64]; omega
          clear p2 hc
          go_wp2_with fail
          go_region
          go_wp2_with fail
          go_roundw
          case rel =>
            have e9 : (r : Int) + max x 0 = ((r + x.toNat : Nat) : Int) := by omega
            exact ⟨⟨q - 1, r + x.toNat, rfl, by rw [e9], by omega, P2.out⟩, bel⟩
          case measure => simp [intOf]; omega
        · have tc : decide ((q : Int) * y > (r : Int) * 4294967296 + zu) = false := decide_eq_false hc
          have hst := EstAt.stop HE.out HE2.out (.inr (by
            have h2 : ((q * y.toNat : Nat) : Int) ≤ ((r * 4294967296 + zu.toNat : Nat) : Int) := by
              rw [Int.natCast_mul, Int.toNat_of_nonneg y0]; omega
            omega))
          have HS := Lib.hid hst
          clear hst hc
          go_wp2_with fail
          go_region
          go_wp2_with fail
          go_meet
          exact ⟨q, rfl, hql, HS.out, bel⟩
      · have d0 : decide ((r : Int) < 4294967296) = false := decide_eq_false (by omega)
        have hst := EstAt.stop HE.out HE2.out (.inl (by omega))
        have HS := Lib.hid hst
        clear hst
        go_wp2_with fail
        go_region
        go_wp2_with fail
        go_meet
        exact ⟨q, rfl, hql, HS.out, bel⟩
  case rest =>
    obtain ⟨q, rfl, hq, hqt, hbw⟩ := hcut
    clear z0 z1 z2 e0 e1 or1 hq0 hr0 H0 HST
    have HQT := Lib.hid hqt
    have HQ : Hid ((q : Int).toNat * val d < W (n + 1)) := Lib.hid (by
      rw [Int.toNat_natCast, W_succ]
      have h1 := val_lt ld
      rw [HDL.out] at h1
      exact Nat.mul_lt_mul_of_lt_of_lt hq h1)
    have HO2 := Lib.hid (Kd.R_below HO.out hbw)
    have hb2 := below_step hb0 hbw
    clear hqt HO
    go_wp2_with (first | fail | (go_at_call 86; (with_reducible refine (takes_any g o (n + 1) c' L c zs (some ⟨b, off, none⟩) n cd d (q : Int) _ HO2.out HZ.out lz hm hL HD.out ld hb2 (by omega) (by omega) (by omega) HQ.out).mono ?_); rintro e w1 ⟨bo, ys, rfl, ho0, ho1, hO1, hy1, ly1, hdr1, hv1, hbw1, hch1⟩; have HO1 := Lib.hid hO1; have HY1 := Lib.hid hy1; have HDR := Lib.hid hdr1; have HV1 := Lib.hid hv1; clear hO1 hy1 hdr1 hv1))
    · obtain rfl : bo = 1 := by omega
      go_loopw [9, 85] (fun vc vi wr => BakRel ys d o (n + 1) L c g w0 w1 vc vi wr) (fun _ vi _ => n + 1 - (intOf vi).toNat)
      case atStart => exact ⟨0, 0, ys, by omega, rfl, rfl, HY1.out, HO1.out, hbw1, Chg.id _ _, BackAt.start ly1⟩
      case round =>
        obtain ⟨k, cy, y2, hk, rfl, rfl, hy, hown, hbr, hchr, hbk⟩ := hrel
        have HY := Lib.hid hy
        have HR := Lib.hid hown
        have HT2 := Lib.hid hbk
        obtain ⟨c0, c1, l2, -, -⟩ := hbk
        obtain ⟨g', hg', hg0, hg1, hgc, hgf⟩ := own_open hown (by omega)
        obtain rfl : g = g' := by injection hg' with h1; injection h1
        clear hg' hy hown
        by_cases hlt : k < n + 1
        · have hcell := hgc (o + k) (by omega)
          have hfr := hgf (o + k)
          obtain ⟨r0, r1⟩ := lim_getD l2 (o + k)
          obtain ⟨x0, x1⟩ := lim_getD ld k
          have hst := BackAt.step ld HT2.out (by omega) (by rw [HY.out]; omega)
          have HST := Lib.hid hst
          have ata : ∀ w', Below wr.heap.size wr w' → Calls Tryd.prog 83 #[.slice (some ⟨b, off, none⟩) n cd, .int .i64 k] w' fun e w'' => e = .returned (.int .u64 (d.getD k 0)) ∧ w' = w'' := fun w' hb' =>
            at_any _ n cd d k w' (Kd.C_below HD.out (below_step hbr hb')) ld (by omega) (by omega)
          have HAT := Lib.hid ata
          clear hgc hgf hst ata l2
          generalize d.getD k 0 = y at *
          generalize y2.getD (o + k) 0 = r at *
          go_wp2_with fail
          go_region_held3 (fun w' => Below (wr).heap.size (wr) w' ∧ ∀ b o, b < (wr).heap.size → w'.cell? ⟨b, o, none⟩ = (wr).cell? ⟨b, o, none⟩) (first | ((try go_split_ands); refine below_S2 ?_; ((repeat (first | with_reducible assumption | with_reducible exact Below.refl _ _ | with_reducible refine below_alloc ?_ _ | with_reducible refine pw_below_drewN ?_ _ | with_reducible refine below_drew1 ?_ | ((with_reducible refine below_set ?_ ?hle); (case hle => first | (simp; done) | omega | (simp; omega))) | with_reducible refine below_step ?_ (by with_reducible assumption))); done))) (first | (go_at_call 83; (with_reducible refine (HAT.out _ bel).mono ?_); rintro e w3 ⟨rfl, rfl⟩))
          all_goals
            go_wp2_with fail
            go_roundw
            case rel =>
              refine ⟨_, _, _, _, _, _, _, _, _, _, _, _, _, _, _, _, _, _, _, _, _, _, _, _, ?hB, rfl⟩
              exact ⟨k + 1, _, _, by omega, by simp, rfl, by simp [HY.out], Kd.R_drew (Kd.R_putn HR.out ((o + k : Nat) : Int) _), bel, Chg.tr (Chg.setCell hchr rfl _) (Chg.of_below (below_drew1 (Below.refl _ _))), HST.out⟩
            case measure => simp [intOf]; omega
        · obtain rfl : k = n + 1 := by omega
          have hbk := HT2.out.2.2.2.2
          have et : d.take (n + 1) = d := List.take_of_length_le (by rw [HDL.out]; omega)
          rw [et] at hbk
          have e3 : o + (n + 1) = o + (p + 3) := by rw [HN.out]
          have ht0 := small_drop (t := o + (n + 1)) (by rw [HZ.out]; exact hm) (by rw [e3]; exact HE.out.U_lt)
          have hV := drop_small ly1 (by rw [HY1.out]; exact hm) ht0 HDR.out
          have hY := drop_small l2 (by rw [HY.out]; exact hm) (by rw [HDR.out]; exact ht0) HT2.out.2.2.2.1
          have hv := HV1.out
          rw [show ((1 : Int)).toNat = 1 from rfl, Nat.mul_one, Int.toNat_natCast] at hv
          rw [e3] at hV hY hv hbk
          obtain ⟨p1, p2⟩ := EstIn.fin1 HE.out HQT.out hv hV (by omega) hY hbk
          have hqe : IntKind.u64.wrap ((q : Int) - 1) = ((qt : Nat) : Int) := by rw [IntKind.wrap_u64]; omega
          have hqm : ((qt : Nat) : Int) % 4294967296 = ((qt : Nat) : Int) := by omega
          have P2 := Lib.hid p2
          have HM := Lib.hid hqm
          clear hgc hgf p1 p2 hbk hv hV hY ht0 hqm
          rw [hqe]
          go_wp2_with fail
          go_ret
          exact ⟨y2, by first | rfl | (rw [HM.out]; rfl), HR.out, HY.out, l2, P2.out, hbr, Chg.tr (Chg.of_below hbw) (Chg.tr hch1 hchr)⟩
    · obtain rfl : bo = 0 := by omega
      have hv := HV1.out
      rw [show ((0 : Int)).toNat = 0 from rfl, Nat.mul_zero, Nat.add_zero, Int.toNat_natCast] at hv
      obtain ⟨p1, p2⟩ := EstIn.fin0 HE.out HQT.out hv
      have hqm : (q : Int) % 4294967296 = ((qt : Nat) : Int) := by omega
      go_ret
      exact ⟨ys, by subst p1; first | rfl | (rw [hqm]; rfl), HO1.out, HY1.out, ly1, p2, hbw1, Chg.tr (Chg.of_below hbw) hch1⟩
end Go.Proofs.YtiplbpfdkcddlaaDoor

set_option linter.unusedSimpArgs false
set_option linter.unusedVariables false
set_option linter.unnecessarySimpa false
namespace Go.Proofs.YtiplbpfdkcddlaaDoor.NL
set_option maxRecDepth 100000

theorem val_drop_succ {a : List Int} {k : Nat} (h : k < a.length) : val (a.drop k) = (a.getD k 0).toNat + 4294967296 * val (a.drop (k + 1)) := by
  rw [List.drop_eq_getElem_cons h, List.getD_eq_getElem?_getD, List.getElem?_eq_getElem h]; rfl
theorem drop_set_at {ys : List Int} {k : Nat} {v : Int} (h : k < ys.length) : val ((ys.set k v).drop k) = v.toNat + 4294967296 * val (ys.drop (k + 1)) := by
  have h2 : k < (ys.set k v).length := by rw [List.length_set]; exact h
  rw [val_drop_succ h2, getD_set _ _ _ h]
  congr 3
  apply List.ext_getElem?
  intro i
  rw [List.getElem?_drop, List.getElem?_drop, List.getElem?_set_ne (by omega)]
theorem drop_all {a : List Int} {k : Nat} (h : a.length ≤ k) : val (a.drop k) = 0 := by rw [List.drop_eq_nil_of_le h]; rfl

/-- A number is being divided by one element: what stands from k on is done. -/
def ShortAt (a : List Int) (x : Int) (k : Nat) (r : Int) (ys : List Int) : Prop := 0 ≤ r ∧ r < x ∧ Lim ys ∧ val (ys.drop k) * x.toNat + r.toNat = val (a.drop k)
theorem ShortAt.start {a : List Int} {x : Int} {n : Nat} (hn : a.length = n) (x0 : 0 < x) : ShortAt a x n 0 (List.replicate n 0) := by
  refine ⟨by omega, x0, lim_zeros n, ?_⟩
  rw [drop_all (a := a) (by omega), drop_all (a := List.replicate n 0) (by rw [List.length_replicate]; exact Nat.le_refl _)]; simp
theorem short_nums {r x y : Int} (r0 : 0 ≤ r) (r1 : r < x) (x1 : x < 4294967296) (y0 : 0 ≤ y) (y1 : y < 4294967296) :
    0 ≤ r * 4294967296 + y ∧ r * 4294967296 + y < 18446744073709551616 ∧ 0 ≤ (r * 4294967296 + y) / x ∧ (r * 4294967296 + y) / x < 4294967296 ∧ 0 ≤ (r * 4294967296 + y) % x ∧ (r * 4294967296 + y) % x < x := by
  have hx : 0 < x := by omega
  refine ⟨by omega, by omega, Int.ediv_nonneg (by omega) (by omega), ?_, Int.emod_nonneg _ (by omega), Int.emod_lt_of_pos _ hx⟩
  refine Int.ediv_lt_of_lt_mul hx ?_
  omega
theorem ShortAt.step {a ys : List Int} {x r : Int} {k : Nat} (la : Lim a) (x1 : x < 4294967296) (h : ShortAt a x (k + 1) r ys) (hk : k < a.length) (hy : k < ys.length) :
    ShortAt a x k ((r * 4294967296 + a.getD k 0) % x) (ys.set k ((r * 4294967296 + a.getD k 0) / x)) := by
  obtain ⟨h0, h1, h2, h3⟩ := h
  obtain ⟨y0, y1⟩ := lim_getD la k
  obtain ⟨b0, b1, b2, b3, b4, b5⟩ := short_nums h0 h1 x1 y0 y1
  refine ⟨b4, b5, lim_set h2 ⟨b2, b3⟩, ?_⟩
  rw [drop_set_at hy, val_drop_succ hk, ← h3]
  have e : x * ((r * 4294967296 + a.getD k 0) / x) + (r * 4294967296 + a.getD k 0) % x = r * 4294967296 + a.getD k 0 := Int.mul_ediv_add_emod _ _
  generalize (r * 4294967296 + a.getD k 0) / x = v at *
  generalize (r * 4294967296 + a.getD k 0) % x = r' at *
  generalize a.getD k 0 = y at *
  have e2 : v.toNat * x.toNat + r'.toNat = r.toNat * 4294967296 + y.toNat := by
    have : ((v.toNat * x.toNat + r'.toNat : Nat) : Int) = ((r.toNat * 4294967296 + y.toNat : Nat) : Int) := by
      rw [Int.natCast_add, Int.natCast_mul, Int.natCast_add, Int.natCast_mul, Int.toNat_of_nonneg b2, Int.toNat_of_nonneg (by omega : 0 ≤ x), Int.toNat_of_nonneg b4, Int.toNat_of_nonneg h0, Int.toNat_of_nonneg y0, Int.mul_comm v x]
      exact e
    omega
  generalize val (ys.drop (k + 1)) = Y
  rw [Nat.add_mul, Nat.mul_add, Nat.mul_assoc]
  omega
theorem ShortAt.done {a ys : List Int} {x r : Int} (h : ShortAt a x 0 r ys) : val ys = val a / x.toNat ∧ r.toNat = val a % x.toNat := by
  obtain ⟨h0, h1, h2, h3⟩ := h
  rw [List.drop_zero, List.drop_zero] at h3
  have hx : r.toNat < x.toNat := by omega
  rw [← h3, Nat.mul_comm, Nat.mul_add_div (by omega), Nat.mul_add_mod, Nat.div_eq_of_lt hx, Nat.mod_eq_of_lt hx]
  exact ⟨rfl, rfl⟩

/-- A number is being divided, element by element: X is it, D the divisor, R what is left; the quotient's elements from k on are done. -/
def LongAt (X D k : Nat) (R : Nat) (ys : List Int) : Prop := Lim ys ∧ R < D * W k ∧ val (ys.drop k) * (W k * D) + R = X
theorem LongAt.step {X D R k : Nat} {ys : List Int} (h : LongAt X D (k + 1) R ys) (hD : 0 < D) (hy : k < ys.length) (hq : R / (W k * D) < 4294967296) :
    LongAt X D k (R % (W k * D)) (ys.set k ((R / (W k * D) : Nat) : Int)) := by
  obtain ⟨h1, h2, h3⟩ := h
  have hp : 0 < W k * D := Nat.mul_pos (W_pos k) hD
  refine ⟨lim_set h1 ⟨Int.natCast_nonneg _, Int.ofNat_lt.2 hq⟩, by rw [Nat.mul_comm D]; exact Nat.mod_lt _ hp, ?_⟩
  rw [drop_set_at hy, Int.toNat_natCast, ← h3, W_succ]
  have e := Nat.div_add_mod R (W k * D)
  generalize R / (W k * D) = q at *
  generalize R % (W k * D) = R' at *
  rw [← e, Nat.add_mul, Nat.mul_comm (W k * D) q, Nat.mul_assoc 4294967296 (W k) D, Nat.mul_left_comm (val _) 4294967296, Nat.mul_assoc 4294967296]
  omega
theorem LongAt.done {X D R : Nat} {ys : List Int} (h : LongAt X D 0 R ys) : val ys = X / D ∧ R = X % D := by
  obtain ⟨h1, h2, h3⟩ := h
  rw [List.drop_zero, W_zero, Nat.one_mul] at h3
  rw [W_zero, Nat.mul_one] at h2
  rw [← h3, Nat.mul_comm, Nat.mul_add_div (by omega), Nat.mul_add_mod, Nat.div_eq_of_lt h2, Nat.mod_eq_of_lt h2]
  exact ⟨rfl, rfl⟩
/-- A divisor is moved so that it fills its elements. -/
theorem norm_lt {b : List Int} {n : Nat} (lb : Lim b) (hn : b.length = n + 1) : val b * 2 ^ (32 - blen (b.getD n 0).toNat) < W (n + 1) := by
  obtain ⟨t0, t1⟩ := lim_getD lb n
  have h1 : val b = val (b.take n) + W n * (b.getD n 0).toNat := by
    have := val_take_succ b n
    rwa [← hn, List.take_length] at this
  have h2 : val (b.take n) < W n := by
    have := val_lt (l := b.take n) (fun x hx => lb x (List.mem_of_mem_take hx))
    rwa [List.length_take, Nat.min_eq_left (by omega)] at this
  have h3 := lt_blen (b.getD n 0).toNat
  have h4 : blen (b.getD n 0).toNat ≤ 32 := blen_le.2 (by omega)
  generalize (b.getD n 0).toNat = t at *
  have h5 : val b < W n * 2 ^ blen t := by
    have : W n * (t + 1) ≤ W n * 2 ^ blen t := Nat.mul_le_mul_left _ h3
    rw [Nat.mul_add, Nat.mul_one] at this
    omega
  have h6 : val b * 2 ^ (32 - blen t) < W n * 2 ^ blen t * 2 ^ (32 - blen t) := Nat.mul_lt_mul_of_pos_right h5 (Nat.two_pow_pos _)
  rw [Nat.mul_assoc, ← Nat.pow_add, show blen t + (32 - blen t) = 32 by omega] at h6
  rw [W_succ, Nat.mul_comm 4294967296]
  exact h6
end Go.Proofs.YtiplbpfdkcddlaaDoor.NL
