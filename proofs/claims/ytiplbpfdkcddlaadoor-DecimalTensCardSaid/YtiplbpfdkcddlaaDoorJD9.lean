/- nat: division by one element; division element by element. nat: division element by element. nat: Div, for divisors of less than 32 elements. nat's functions of small numbers (below 2^240): what they return, without errors. Three digits in ten bits: plain law. decimal: three digits in ten bits: what unpacked returns. -/
import Derived.Test.YtiplbpfdkcddlaaDoorJD8
import Derived.Test.YtiplbpfdkcddlaaDoorJD7
import Derived.Test.YtiplbpfdkcddlaaDoorJD3
set_option linter.unusedSimpArgs false
set_option linter.unusedVariables false
set_option linter.unnecessarySimpa false
namespace Go.Proofs.YtiplbpfdkcddlaaDoor
open Go.RowKit Go.Proofs.YtiplbpfdkcddlaaDoorW.PrintWords Go.Proofs.YtiplbpfdkcddlaaDoorW.PrintLast Go.Proofs.YtiplbpfdkcddlaaDoorW.PrintMore Go.Proofs.YtiplbpfdkcddlaaDoor.NL
set_option maxRecDepth 100000

/-- Two numbers handed back. -/
def Gives2 (Q R : Nat) (w : World) (e : Ending) (w' : World) : Prop :=
  ∃ (A : Option Addr) (n c : Nat) (A' : Option Addr) (n' c' : Nat), e = .returned (.tuple #[.slice A n c, .slice A' n' c']) ∧ Num w' A n c Q ∧ Num w' A' n' c' R ∧ Below w.heap.size w w'
def ShortRel (a : List Int) (x : Int) (n : Nat) (w0 : World) (A : Option Addr) (c : Nat) (vr vi : Value) (wr : World) : Prop :=
  ∃ (k : Nat) (r : Int) (ys : List Int), k ≤ n ∧ vi = .int .i64 ((k : Int) - 1) ∧ vr = .int .u64 r ∧ ys.length = n ∧ OwnI .u32 46 w0.heap.size wr (.slice A n c) ys ∧ Below w0.heap.size w0 wr ∧ ShortAt a x k r ys
set_option maxHeartbeats 4000000 in
theorem short_any (A : Option Addr) (n c : Nat) (a : List Int) (x : Int) (w : World) (hA : Kd.C (Kd.int .u32) w A n a) (la : Lim a) (hn : n ≤ 1000000000) (x0 : 0 < x) (x1 : x < 4294967296) :
    Calls Tryd.prog 78 #[.slice A n c, .int .u32 x] w (Gives2 (val a / x.toNat) (val a % x.toNat) w) := by
  have ha : a.length = n := hA.1
  have HA := Lib.hid hA
  have HLA := Lib.hid ha
  have xp : (x == 0) = false := by simp; omega
  clear hA ha
  go_enter Tryd.func78, Tryd.ntmps78
  go_wp2_with ((with_reducible refine gate_dst (N := 11) rfl ?_); refine make_row (w0 := w) rfl rfl 11 rfl _ _ rfl n rfl rfl (by omega) bel ?_; intro A5 c5 w5 hr5 hb5 _)
  have HR5 := Lib.hid hr5
  clear hr5
  go_loopw [7, 8] (fun vr vi wr => ShortRel a x n w A5 c5 vr vi wr) (fun _ vi _ => (intOf vi + 1).toNat)
  case atStart => exact ⟨n, 0, _, by omega, rfl, rfl, by simp, HR5.out, hb5, ShortAt.start HLA.out x0⟩
  case round =>
    obtain ⟨k, r, ys, hk, rfl, rfl, hy, hown, hbw, hs⟩ := hrel
    have HY := Lib.hid hy
    have HO := Lib.hid hown
    have HD := Lib.hid hs
    obtain ⟨r0, r1, ly, -⟩ := hs
    clear hy hown
    cases k with
    | zero =>
      have hv := ShortAt.done HD.out
      have HV := Lib.hid hv
      obtain ⟨hC, hcc⟩ := R_C HO.out
      have HC := Lib.hid hC
      clear hC hv
      go_wp2_with (first | fail | (go_at_call 81; (with_reducible refine (trim_any _ _ _ ys _ HC.out ly (by omega) hcc).mono ?_); rintro e w1 ⟨k, rfl, hk, rfl⟩) | (go_at_call 85; (with_reducible refine (of_any r _ r0 (by omega)).mono ?_); rintro e w2 ⟨A2, n2, c2, rfl, HV2, b2⟩))
      exact bodyPost_ret (v := .tuple #[.slice A5 k c5, .slice A2 n2 c2]) (by simp [results, Tryd.results78, go_sem, *]) rfl ⟨_, k, c5, _, n2, c2, rfl, Lib.hid ⟨by have := hk.out.1; omega, by have := C_head HC.out hk.out.1; rw [hk.out.2, HV.out.1] at this; exact Kd.C_below this b2⟩, by rw [← HV.out.2]; exact HV2, bel⟩
    | succ j =>
      have e1 : (((j + 1 : Nat) : Int) - 1) = (j : Int) := by omega
      rw [e1]
      obtain ⟨g, rfl, hg0, hg1, hgc, hgf⟩ := own_open HO.out (by omega)
      obtain ⟨b, off, rfl, hbl, hcs⟩ := open_C (Kd.C_below HA.out hbw) (by omega)
      have hcell := hgc j (by omega)
      have hfr := hgf j
      have hac := hcs j (by omega)
      obtain ⟨y0, y1⟩ := lim_getD la j
      have hst := ShortAt.step la x1 HD.out (by rw [HLA.out]; omega) (by rw [HY.out]; omega)
      have HST := Lib.hid hst
      clear hgc hgf hcs hst ly
      generalize a.getD j 0 = y at *
      generalize ys.getD j 0 = z at *
      have or1 := or_high y r y0 y1 r0 (by omega)
      obtain ⟨b0, b1, b2, b3, b4, b5⟩ := short_nums r0 r1 x1 y0 y1
      go_wp2_with fail
      go_roundw
      case rel => exact ⟨j, _, _, by omega, rfl, rfl, by simp [HY.out], Kd.R_putn HO.out (j : Int) _, bel, HST.out⟩
      case measure => first | (simp [intOf]; done) | (simp [intOf]; omega)
end Go.Proofs.YtiplbpfdkcddlaaDoor

set_option linter.unusedSimpArgs false
set_option linter.unusedVariables false
set_option linter.unnecessarySimpa false
namespace Go.Proofs.YtiplbpfdkcddlaaDoor
open Go.RowKit Go.Proofs.YtiplbpfdkcddlaaDoorW.PrintWords Go.Proofs.YtiplbpfdkcddlaaDoorW.PrintLast Go.Proofs.YtiplbpfdkcddlaaDoorW.PrintMore Go.Proofs.YtiplbpfdkcddlaaDoor.NL
set_option maxRecDepth 100000

theorem cmpS_lt {a b : List Int} (la : Lim a) (ta : Top a) (lb : Lim b) (tb : Top b) : cmpS a b < 0 ↔ val a < val b := by
  have key : ∀ {a b : List Int}, Lim a → Lim b → Top b → a.length < b.length → val a < val b := fun {a b} la lb tb h =>
    Nat.lt_of_lt_of_le (val_lt la) (Nat.le_trans (W_le (by omega)) (val_top lb tb (by intro h0; rw [h0] at h; simp at h)))
  unfold cmpS
  by_cases h1 : a.length < b.length
  · rw [if_pos h1]; exact ⟨fun _ => key la lb tb h1, fun _ => by decide⟩
  · rw [if_neg h1]
    by_cases h2 : b.length < a.length
    · rw [if_pos h2]
      have := key lb la ta h2
      constructor
      · intro h; exact absurd h (by decide)
      · intro h; omega
    · rw [if_neg h2]
      unfold cmpN
      by_cases h3 : val a < val b
      · rw [if_pos h3]; exact ⟨fun _ => h3, fun _ => by decide⟩
      · rw [if_neg h3]
        split
        · exact ⟨fun h => absurd h (by decide), fun h => absurd h h3⟩
        · exact ⟨fun h => absurd h (by decide), fun h => absurd h h3⟩
theorem own_far {w : World} {base g L c : Nat} {zs : List Int} (h : OwnI .u32 46 base w (.slice (some ⟨g, 0, none⟩) L c) zs) {p : Addr} (hne : g ≠ p.block) (u : Value) : OwnI .u32 46 base (w.setCell p u) (.slice (some ⟨g, 0, none⟩) L c) zs :=
  Kd.R_mono (Kd.R_far (Kd.R_reok rfl h (ok := fun k => k = g) (fun k hk => by simpa [Value.ownBlock] using hk.symm)) (fun k hk => by rw [hk]; exact hne) u) (fun _ _ => trivial)
theorem own_chg {w1 w2 : World} {base : Nat} {v : Value} {xs : List Int} {S : Nat → Prop} (h : OwnI .u32 46 base w1 v xs) (hc : Chg w1 w2 S) (hS : ∀ k, base ≤ k → ¬ S k) : OwnI .u32 46 base w2 v xs :=
  Kd.R_mono (Kd.R_step (Kd.R_bound h) (fun k hk hlt => hc.block k hlt (hS k hk.2.1))) (fun _ _ => trivial)
theorem lead32 (x : Int) (h0 : 0 ≤ x) (h1 : x < 4294967296) (w : World) :
    Calls Tryd.prog 79 #[.int .u32 x] w fun r w' => r = .returned (.int .i64 ((32 - blen x.toNat : Nat) : Int)) ∧ w = w' := by
  refine (Tryd.bits_LeadingZeros32 x w h0 (by omega)).mono ?_
  rintro e w' ⟨rfl, rfl⟩
  have h2 : blen x.toNat ≤ 32 := blen_le.2 (by omega)
  exact ⟨by rw [blen_bitLen (by omega)]; congr 2; omega, rfl⟩
theorem long_one {A B : Option Addr} {n c d : Nat} {a : List Int} {x : Int} (w : World) (hA : Kd.C (Kd.int .u32) w A n a) (hB : Kd.C (Kd.int .u32) w B 1 [x]) (la : Lim a) (hn : n ≤ 1000000000) (x0 : 0 < x) (x1 : x < 4294967296) :
    Calls Tryd.prog 64 #[.slice A n c, .slice B 1 d] w (Gives2 (val a / x.toNat) (val a % x.toNat) w) := by
  obtain ⟨b, off, rfl, hbl, hcs⟩ := open_C hB (by omega)
  have hcell := hcs 0 (by omega)
  simp only [Nat.add_zero, List.getD_cons_zero] at hcell
  have HA := Lib.hid hA
  clear hcs hA hB
  go_enter Tryd.func64, Tryd.ntmps64
  go_wp2_with (first | fail | (go_at_call 78; (with_reducible refine (short_any A n c a x _ HA.out la hn x0 x1).mono ?_); rintro e w1 ⟨A1, n1, c1, A2, n2, c2, rfl, HQ, HR, b1⟩))
  exact bodyPost_ret (v := .tuple #[.slice A1 n1 c1, .slice A2 n2 c2]) (by simp [results, Tryd.results64, go_sem, *]) rfl ⟨_, _, _, _, _, _, rfl, HQ, HR, b1⟩
theorem long_less {A B : Option Addr} {n m c d : Nat} {a b : List Int} (w : World) (hA : Kd.C (Kd.int .u32) w A n a) (hB : Kd.C (Kd.int .u32) w B m b) (la : Lim a) (ta : Top a) (lb : Lim b) (tb : Top b) (hc : n ≤ c) (hn : n ≤ 1000000000) (hm : 2 ≤ m) (hlt : val a < val b) :
    Calls Tryd.prog 64 #[.slice A n c, .slice B m d] w (Gives2 (val a / val b) (val a % val b) w) := by
  have t0 : ((m : Int) == 1) = false := by simp; omega
  have hcv : decide (cmpS a b < 0) = true := decide_eq_true ((cmpS_lt la ta lb tb).2 hlt)
  have HC := Lib.hid (cmp_any A B n m c d a b w hA hB (by omega) la lb)
  have HA := Lib.hid hA
  generalize cmpS a b = cv at *
  go_enter Tryd.func64, Tryd.ntmps64
  go_wp2_with (first | fail | (go_at_call 49; (with_reducible refine (HC.out).mono ?_); rintro e w1 ⟨rfl, b1⟩))
  refine bodyPost_ret (v := .tuple #[.slice none 0 0, .slice A n c]) (by simp [results, Tryd.results64, go_sem, *]) rfl ⟨_, _, _, _, _, _, rfl, ?_, ?_, b1⟩
  · rw [Nat.div_eq_of_lt hlt]
    exact Lib.hid ⟨Nat.le_refl _, by rw [ofN_zero]; exact R_nilC _⟩
  · rw [Nat.mod_eq_of_lt hlt]
    exact (num_of HA.out la ta hc).below b1
/-- A copy to the front of a row of its own. -/
theorem copy_row {P : Program} {ops : Array Oper} {rest : List Oper} {o : Oper} {a : Act} {Q : Exit → Act → World → Prop} {W w0 : World} (hp : P = Tryd.prog) (hgd : o.guard = none) (x y : Operand) (ho : o.op = .call { callee := .builtin .copy, args := #[x, y], argTypes := #[95, 95] })
    {A A' : Option Addr} {n c m c' : Nat} {xs ys : List Int} (hx : a.eval x = .slice A n c) (hy : a.eval y = .slice A' m c') (HO : OwnI .u32 46 w0.heap.size W (.slice A n c) xs) (HR : Kd.C (Kd.int .u32) W A' m ys) (HB : Below w0.heap.size w0 W) (hm : m ≤ n) (hn : xs.length = n)
    (h : ∀ w1, OwnI .u32 46 w0.heap.size w1 (.slice A n c) (ys ++ xs.drop m) → Below w0.heap.size w0 w1 → wpList P ops Q rest (a.put o.dst (.int .i64 (m : Nat))) w1) : wpList P ops Q (o :: rest) a W := by
  subst hp
  have hl : ys.length = m := HR.1
  refine Kd.R_copy (0 : Int) (w0 := w0) w0.heap.size hgd x y 95 95 46 ho Tryd.underlying95 (by kernel_rfl) (.slice A n c) xs ys A' m c' (fun _ => True) hx hy HO HR HB HB.size ?_
  intro w1 hr hb _
  rw [hn, Nat.min_eq_left hm, List.take_of_length_le (by omega)] at hr
  rw [hn, Nat.min_eq_left hm]
  exact h w1 hr hb
def LongRel (X D n m : Nat) (w1 w4 : World) (g c2 : Nat) (Aq : Option Addr) (cq : Nat) (vi : Value) (wr : World) : Prop :=
  ∃ (k : Nat) (zs ys : List Int), k ≤ n + 1 - m ∧ vi = .int .i64 ((k : Int) - 1) ∧ zs.length = n + 1 ∧ Lim zs ∧ OwnI .u32 46 w1.heap.size wr (.slice (some ⟨g, 0, none⟩) (n + 1) c2) zs ∧ ys.length = n + 1 - m ∧ OwnI .u32 46 w4.heap.size wr (.slice Aq (n + 1 - m) cq) ys ∧ Below w1.heap.size w1 wr ∧ LongAt X D k (val zs) ys
set_option maxHeartbeats 8000000 in
theorem long_main {A B : Option Addr} {n m p c d : Nat} {a b : List Int} (w : World) (hp : m = p + 2) (hA : Kd.C (Kd.int .u32) w A n a) (hB : Kd.C (Kd.int .u32) w B m b) (la : Lim a) (ta : Top a) (lb : Lim b) (tb : Top b) (hc : n ≤ c) (hd : m ≤ d) (hn : n ≤ 1000000) (hle : val b ≤ val a) :
    Calls Tryd.prog 64 #[.slice A n c, .slice B m d] w (Gives2 (val a / val b) (val a % val b) w) := by
  have hbl : b.length = m := hB.1
  have hal : a.length = n := hA.1
  have t0 : ((m : Int) == 1) = false := by simp; omega
  have hcv : decide (cmpS a b < 0) = false := decide_eq_false (fun h => by have := (cmpS_lt la ta lb tb).1 h; omega)
  have HC := Lib.hid (cmp_any A B n m c d a b w hA hB (by omega) la lb)
  generalize cmpS a b = cv at *
  have hnorm := norm_lt (n := m - 1) lb (by omega)
  have hbp : 0 < val b := val_pos lb tb (by intro h; rw [h] at hbl; simp at hbl; omega)
  have hwb : W (m - 1) ≤ val b := by
    have := val_top lb tb (by intro h; rw [h] at hbl; simp at hbl; omega)
    rwa [hbl] at this
  have hwa : val a < W n := by
    have := val_lt la
    rwa [hal] at this
  have hmn : m ≤ n := by
    refine Nat.le_of_not_lt fun h => ?_
    have := W_le (a := n) (b := m - 1) (by omega)
    omega
  obtain ⟨t0', t1'⟩ := lim_getD lb (m - 1)
  obtain ⟨bb, ob, rfl, hbb, hcs⟩ := open_C hB (by omega)
  have htop := hcs (m - 1) (by omega)
  generalize b.getD (m - 1) 0 = t at *
  obtain ⟨s, hs⟩ : ∃ s, 32 - blen t.toNat = s := ⟨_, rfl⟩
  rw [hs] at hnorm
  have hs2 : s ≤ 32 := by omega
  have HLZ := Lib.hid fun w' => lead32 t t0' t1' w'
  rw [hs] at HLZ
  have NA := num_of hA la ta hc
  have NB := num_of hB lb tb hd
  clear hcs hs
  generalize hva : val a = Va at *
  generalize hvb : val b = Vb at *
  have hm1 : m - 1 + 1 = m := by omega
  rw [hm1] at hnorm
  have hD1 : W (p + 1) ≤ Vb * 2 ^ s := by
    have h1 : Vb * 1 ≤ Vb * 2 ^ s := Nat.mul_le_mul_left _ (Nat.two_pow_pos s)
    rw [show p + 1 = m - 1 by omega]; omega
  have hX : Va * 2 ^ s < Vb * 2 ^ s * W (n + 1 - m) := by
    rw [Nat.mul_right_comm]
    refine Nat.mul_lt_mul_of_pos_right ?_ (Nat.two_pow_pos s)
    refine Nat.lt_of_lt_of_le hwa ?_
    have : W (m - 1) * W (n + 1 - m) ≤ Vb * W (n + 1 - m) := Nat.mul_le_mul_right _ hwb
    rw [← W_add, show m - 1 + (n + 1 - m) = n by omega] at this
    exact this
  have hdiv : Va * 2 ^ s / (Vb * 2 ^ s) = Va / Vb := Nat.mul_div_mul_right _ _ (Nat.two_pow_pos s)
  have hmod : Va * 2 ^ s % (Vb * 2 ^ s) / 2 ^ s = Va % Vb := by rw [Nat.mul_mod_mul_right, Nat.mul_div_cancel _ (Nat.two_pow_pos s)]
  have hDl : (ofN (Vb * 2 ^ s)).length = m := by
    have h1 := len_ofN_le (n := Vb * 2 ^ s) (k := m) hnorm
    have h2 : Vb * 2 ^ s < W (ofN (Vb * 2 ^ s)).length := lt_of_len (n := Vb * 2 ^ s) (Nat.le_refl _)
    have h3 : p + 1 < (ofN (Vb * 2 ^ s)).length := by
      refine Nat.lt_of_not_le fun h => ?_
      have := W_le h
      omega
    omega
  have hXl : (ofN (Va * 2 ^ s)).length ≤ n + 1 := by
    refine len_ofN_le ?_
    refine Nat.lt_of_lt_of_le hX ?_
    have : Vb * 2 ^ s * W (n + 1 - m) ≤ W m * W (n + 1 - m) := Nat.mul_le_mul_right _ (Nat.le_of_lt hnorm)
    rw [← W_add, show m + (n + 1 - m) = n + 1 by omega] at this
    exact this
  have HF := Lib.hid (And.intro hdiv hmod)
  have HDl := Lib.hid hDl
  have HXl := Lib.hid hXl
  have HX := Lib.hid hX
  have HD1 := Lib.hid hD1
  have HP := Lib.hid hp
  have HSB := Lib.hid fun w' (h : Below w.heap.size w w') => shl_N s (NB.below h) (by omega) (by omega)
  have HSA := Lib.hid fun w' (h : Below w.heap.size w w') => shl_N s (NA.below h) (by omega) (by omega)
  have hDpos : 0 < Vb * 2 ^ s := Nat.mul_pos hbp (Nat.two_pow_pos s)
  clear hdiv hmod hDl hXl hX hD1 hnorm hwb hwa hle hbp hA hB hal hbl hva hvb NA NB lb la ta tb hp hm1
  generalize hXX : Va * 2 ^ s = X at *
  generalize hDD : Vb * 2 ^ s = D at *
  have hm2 : 2 ≤ m := by have := HP.out; omega
  have hq9 : ((n : Int) + 1 - (m : Int)) = ((n + 1 - m : Nat) : Int) := by omega
  go_enter Tryd.func64, Tryd.ntmps64
  go_wp2_with (first | fail | (go_at_call 49; (with_reducible refine (HC.out).mono ?_); rintro e w0 ⟨rfl, b0⟩; obtain ⟨hc0, hf0⟩ := bcell b0) | (go_at_call 79; (with_reducible refine (HLZ.out _).mono ?_); rintro e w9 ⟨rfl, rfl⟩) | (go_at_call 65; (with_reducible refine (HSB.out _ bel).mono ?_); rintro e w1 ⟨A1, n1, c1, rfl, HV1, b1⟩; obtain rfl : m = n1 := HDl.out.symm.trans HV1.out.2.1) | (go_at_call 65; (with_reducible refine (HSA.out _ bel).mono ?_); rintro e w3 ⟨A3, n3, c3, rfl, HV3, b3⟩) | ((with_reducible refine gate_dst (N := 44) rfl ?_); refine make_row (w0 := w1) rfl rfl 44 rfl _ _ rfl (n + 1) rfl rfl (by omega) bel ?_; intro A2 c2 w2 hr2 hb2 hb2x; have HR2 := Lib.hid hr2; clear hr2) | ((with_reducible refine gate_dst (N := 49) rfl ?_); refine copy_row (w0 := w1) rfl rfl _ _ rfl rfl rfl (Kd.R_below HR2.out b3) HV3.out.2 bel (by have := HXl.out; have := HV3.out.2.1; omega) (by simp) ?_; intro w4 hr4 hb4; have HR4 := Lib.hid hr4; clear hr4) | ((with_reducible refine gate_dst (N := 54) rfl ?_); refine make_row (w0 := w4) rfl rfl 54 rfl _ _ rfl (n + 1 - m) rfl rfl (by omega) (Below.refl _ _) ?_; intro A5 c5 w5 hr5 hb5 hb5x; have HR5 := Lib.hid hr5; clear hr5))
  obtain ⟨zs, hzs⟩ : ∃ zs, ofN X ++ (List.replicate (n + 1) (0 : Int)).drop n3 = zs := ⟨_, rfl⟩
  have hzl : zs.length = n + 1 := by
    rw [← hzs, List.length_append, List.length_drop, List.length_replicate, HV3.out.2.1]
    have := HXl.out
    have := HV3.out.2.1
    omega
  have hzm : Lim zs := by
    rw [← hzs, List.drop_replicate]
    exact (lim_ofN X).append (lim_zeros _)
  have hzv : val zs = X := by
    rw [← hzs, List.drop_replicate, val_append, val_ofN, val_zeros, Nat.mul_zero, Nat.add_zero]
  rw [hzs] at HR4
  have HZ := Lib.hid (And.intro hzl (And.intro hzm hzv))
  obtain ⟨g, rfl, hg0, hg1, -, -⟩ := own_open HR4.out (by omega)
  have hD0 : 0 < D := hDpos
  clear hzs hzl hzm hzv HR2 HV3 hDpos
  have b5w : Below w1.heap.size w1 w5 := below_step hb4 hb5
  have s14 : w1.heap.size ≤ w4.heap.size := hb4.size
  go_loopw [11] (fun vi wr => LongRel X D n m w1 w4 g c2 A5 c5 vi wr) (fun vi _ => (intOf vi + 1).toNat)
  case atStart => exact ⟨n + 1 - m, zs, _, Nat.le_refl _, rfl, HZ.out.1, HZ.out.2.1, Kd.R_below HR4.out hb5, by simp, HR5.out, b5w, lim_zeros _, by rw [HZ.out.2.2]; exact HX.out, by rw [drop_all (a := List.replicate (n + 1 - m) 0) (by rw [List.length_replicate]; exact Nat.le_refl _), Nat.zero_mul, Nat.zero_add]; exact HZ.out.2.2⟩
  case round =>
    obtain ⟨k, ys, qs, hk, rfl, hy, ly, hown, hq, hqown, hbw, hl⟩ := hrel
    have HY := Lib.hid hy
    have HO := Lib.hid hown
    have HQL := Lib.hid hq
    have HQ := Lib.hid hqown
    have HL := Lib.hid hl
    clear hy hown hq hqown
    have hww : Below w.heap.size w wr := below_step (below_step b0 b1) hbw
    cases k with
    | zero =>
      obtain ⟨p1, p2⟩ := LongAt.done HL.out
      have lq := HL.out.1
      obtain ⟨hC, hcc⟩ := R_C HO.out
      obtain ⟨hCq, hccq⟩ := R_C HQ.out
      have H1 := Lib.hid p1
      have H2 := Lib.hid p2
      have HC1 := Lib.hid hC
      have HC2 := Lib.hid hCq
      clear p1 p2 hC hCq
      go_wp2_with (first | fail | (go_at_call 81; (with_reducible refine (trim_any _ _ _ qs _ HC2.out lq (by omega) hccq).mono ?_); rintro e w6 ⟨k6, rfl, hk6, rfl⟩) | (go_at_call 81; (with_reducible refine (trim_any _ _ _ ys _ HC1.out ly (by omega) hcc).mono ?_); rintro e w7 ⟨k7, rfl, hk7, rfl⟩) | (go_at_call 70; (with_reducible refine (shr_N (x := val ys) s (Lib.hid ⟨by have := hk7.out.1; omega, by have := C_head HC1.out hk7.out.1; rw [hk7.out.2] at this; exact this⟩) (by have := hk7.out.1; omega) (by omega)).mono ?_); rintro e w8 ⟨A8, n8, c8, rfl, HV8, b8⟩))
      refine bodyPost_ret (v := .tuple #[.slice A5 k6 c5, .slice A8 n8 c8]) (by simp [results, Tryd.results64, go_sem, *]) rfl ⟨_, _, _, _, _, _, rfl, ?_, ?_, bel⟩
      · have := C_head HC2.out hk6.out.1
        rw [hk6.out.2, H1.out, HF.out.1] at this
        exact Lib.hid ⟨by have := hk6.out.1; omega, Kd.C_below this b8⟩
      · rw [H2.out, HF.out.2] at HV8
        exact HV8
    | succ j =>
      have e1 : (((j + 1 : Nat) : Int) - 1) = (j : Int) := by omega
      rw [e1]
      obtain ⟨gq, rfl, hgq0, hgq1, -, -⟩ := own_open HQ.out (by omega)
      have hne : g ≠ gq := by omega
      obtain ⟨hcr, hcc⟩ := R_C HO.out
      have hqv : val ys / (W j * D) < 4294967296 := by
        refine Nat.div_lt_of_lt_mul ?_
        have := HL.out.2.1
        rw [W_succ, Nat.mul_left_comm, Nat.mul_comm D (W j), Nat.mul_comm] at this
        exact this
      have hst := LongAt.step HL.out hD0 (by rw [HQL.out]; omega) hqv
      have HST := Lib.hid hst
      have HU := Lib.hid HL.out.2.1
      have hEs : Hid (∀ w', w' = wr → Calls Tryd.prog 80 #[.slice (some ⟨g, j, none⟩) (j + m + 1 - j) (c2 - j), .slice A1 m c1] w' (EstP (val ys / (W j * D)) ys (ofN D) j (n + 1) c2 g w1 wr)) := Lib.hid fun w' hw => by
        subst hw
        have h := estimate_any (w0 := w1) g j p m (c2 - j) (n + 1) c2 ys A1 c1 (ofN D) w' HP.out HO.out HY.out ly (by omega) (by omega) HV1.out.2 (lim_ofN D) hbw (by rw [val_ofN]; exact HD1.out) (by rw [val_ofN]; exact HU.out)
        rw [val_ofN] at h
        rwa [show j + m + 1 - j = m + 1 by omega]
      clear hst hl
      generalize hQQ : val ys / (W j * D) = Qv at *
      go_wp2_with (first | fail | (go_at_call 80; (with_reducible refine (hEs.out _ rfl).mono ?_); rintro e w6 ⟨zs2, rfl, hO2, hl2, lz2, hv2, hb2w, hch⟩; have HO2 := Lib.hid hO2; have HV2 := Lib.hid hv2; clear hO2 hv2; have HQ6 := Lib.hid (own_chg HQ.out hch (by intro k hk hk2; have hk3 : k = g := hk2; omega)); obtain ⟨gq', hgq', hq60, hq61, hqc, hqf⟩ := own_open HQ6.out (by omega); obtain rfl : gq = gq' := (by injection hgq' with h1; injection h1); have hcell := hqc j (by omega); have hfr := hqf j; clear hqc hqf hgq'))
      go_roundw
      case rel => exact ⟨j, zs2, _, by omega, rfl, hl2, lz2, own_far HO2.out hne _, by simp [HQL.out], Kd.R_putn HQ6.out (j : Int) _, bel, by rw [HV2.out, val_ofN]; exact HST.out⟩
      case measure => first | (simp [intOf]; done) | (simp [intOf]; omega)
end Go.Proofs.YtiplbpfdkcddlaaDoor

set_option linter.unusedSimpArgs false
set_option linter.unusedVariables false
set_option linter.unnecessarySimpa false
namespace Go.Proofs.YtiplbpfdkcddlaaDoor
open Go.RowKit Go.Proofs.YtiplbpfdkcddlaaDoorW.PrintWords Go.Proofs.YtiplbpfdkcddlaaDoorW.PrintLast Go.Proofs.YtiplbpfdkcddlaaDoorW.PrintMore Go.Proofs.YtiplbpfdkcddlaaDoor.NL
set_option maxRecDepth 100000

theorem long_any {A B : Option Addr} {n m c d : Nat} {a b : List Int} (w : World) (hA : Kd.C (Kd.int .u32) w A n a) (hB : Kd.C (Kd.int .u32) w B m b) (la : Lim a) (ta : Top a) (lb : Lim b) (tb : Top b) (hc : n ≤ c) (hd : m ≤ d) (hn : n ≤ 1000000) (hm : 0 < m) :
    Calls Tryd.prog 64 #[.slice A n c, .slice B m d] w (Gives2 (val a / val b) (val a % val b) w) := by
  have hbl : b.length = m := hB.1
  by_cases h1 : m = 1
  · subst h1
    obtain ⟨x, rfl⟩ : ∃ x, b = [x] := by
      match b, hbl with
      | [x], _ => exact ⟨x, rfl⟩
    obtain ⟨x0, x1⟩ := lb x (by simp)
    have hx : x ≠ 0 := by intro h; subst h; exact tb rfl
    have hv : val [x] = x.toNat := by simp [val]
    rw [hv]
    exact long_one w hA hB la (by omega) (by omega) x1
  · by_cases hlt : val a < val b
    · exact long_less w hA hB la ta lb tb hc (by omega) (by omega) hlt
    · exact long_main (p := m - 2) w (by omega) hA hB la ta lb tb hc hd hn (by omega)
theorem two_back {f : Nat} {w : World} {e : Ending} {w' : World} {Q R : Nat} (h : Gives2 Q R w e w') : Gives2 Q R w e w' := h
set_option maxHeartbeats 1000000 in
theorem blocks_small {A B : Option Addr} {n m c d : Nat} {a b : List Int} (w : World) (hA : Kd.C (Kd.int .u32) w A n a) (hB : Kd.C (Kd.int .u32) w B m b) (la : Lim a) (ta : Top a) (lb : Lim b) (tb : Top b) (hc : n ≤ c) (hd : m ≤ d) (hn : n ≤ 1000000) (hm : 0 < m) (hm2 : m < 32) :
    Calls Tryd.prog 55 #[.slice A n c, .slice B m d, .int .i64 32] w (Gives2 (val a / val b) (val a % val b) w) := by
  have HL := Lib.hid (long_any w hA hB la ta lb tb hc hd hn hm)
  have d0 : decide ((m : Int) < 32) = true := decide_eq_true (by omega)
  clear hA hB ta tb
  generalize val a / val b = Q at *
  generalize val a % val b = R at *
  go_enter Tryd.func55, Tryd.ntmps55
  go_wp2_with (first | fail | (go_at_call 64; (with_reducible refine (HL.out).mono ?_); rintro e w1 ⟨A1, n1, c1, A2, n2, c2, rfl, HQ, HR, b1⟩))
  exact bodyPost_ret (v := .tuple #[.slice A1 n1 c1, .slice A2 n2 c2]) (by simp [results, Tryd.results55, go_sem, *]) rfl ⟨_, _, _, _, _, _, rfl, HQ, HR, b1⟩
set_option maxHeartbeats 1000000 in
theorem div1_small {A B : Option Addr} {n m c d : Nat} {a b : List Int} (w : World) (hA : Kd.C (Kd.int .u32) w A n a) (hB : Kd.C (Kd.int .u32) w B m b) (la : Lim a) (ta : Top a) (lb : Lim b) (tb : Top b) (hc : n ≤ c) (hd : m ≤ d) (hn : n ≤ 1000000) (hm : 0 < m) (hm2 : m < 32) :
    Calls Tryd.prog 54 #[.slice A n c, .slice B m d] w (Gives2 (val a / val b) (val a % val b) w) := by
  have HL := Lib.hid (blocks_small w hA hB la ta lb tb hc hd hn hm hm2)
  clear hA hB ta tb
  generalize val a / val b = Q at *
  generalize val a % val b = R at *
  go_enter Tryd.func54, Tryd.ntmps54
  go_wp2_with (first | fail | (go_at_call 55; (with_reducible refine (HL.out).mono ?_); rintro e w1 ⟨A1, n1, c1, A2, n2, c2, rfl, HQ, HR, b1⟩))
  exact bodyPost_ret (v := .tuple #[.slice A1 n1 c1, .slice A2 n2 c2]) (by simp [results, Tryd.results54, go_sem, *]) rfl ⟨_, _, _, _, _, _, rfl, HQ, HR, b1⟩

/-- Two numbers and an error come back. -/
def NumErr2 (xs ys : List Int) (er : Int) (w : World) (e : Ending) (w' : World) : Prop := ∃ v u, e = .returned (.tuple #[v, u, .int .i64 er]) ∧ Kd.R (Kd.int .u32) 46 w' w.heap.size (fun _ => True) v xs ∧ Kd.R (Kd.int .u32) 46 w' w.heap.size (fun _ => True) u ys ∧ Below w.heap.size w w'
theorem NumErr2.of_nil {w w' : World} {er : Int} (h : Below w.heap.size w w') : NumErr2 [] [] er w (.returned (.tuple #[.slice none 0 0, .slice none 0 0, .int .i64 er])) w' := ⟨_, _, rfl, Kd.R_nil _ _ _ _ _, Kd.R_nil _ _ _ _ _, h⟩
set_option maxHeartbeats 2000000 in
theorem divided_ok (f : Nat) {A B : Option Addr} {n m c d : Nat} {a b : List Int} (w : World) (hA : Kd.C (Kd.int .u32) w A n a) (hB : Kd.C (Kd.int .u32) w B m b) (la : Lim a) (lb : Lim b) {Q R : Nat} (hok : (okN a && okN b) = true) (hm : 0 < m) (hf : ∀ w', Below w.heap.size w w' → Calls Tryd.prog f #[.slice A n c, .slice B m d] w' (Gives2 Q R w')) (hQ : (ofN Q).length ≤ 1024) (hR : (ofN R).length ≤ 1024) (ef : ∀ args w, (callFunc f args).run Tryd.prog w = .ok (.enter f args) w) :
    Calls Tryd.prog 53 #[.slice A n c, .slice B m d, .agg #[.nilFunc, .func (.func f) #[] #[]]] w (NumErr2 (ofN Q) (ofN R) 0 w) := by
  have HT : Hid (∀ (g : Nat) w', Below w.heap.size w w' → BlkIs w' g 32 (· = #[.slice A n c, .slice B m d]) → Calls Tryd.prog 48 #[.slice (some ⟨g, 0, none⟩) 2 2] w' (TakenP true w')) := Lib.hid fun g w' h h0 => by
    have := two_ok g hA hB la lb h h0
    rw [hok] at this
    exact this
  have HEF := Lib.hid ef
  have d0 : decide ((m : Int) > 0) = true := decide_eq_true (by omega)
  clear hA hB hok ef
  have HF := Lib.hid hf
  clear hf
  go_enter_defers Tryd.func53, Tryd.ntmps53
  go_wp2_with fail
  refine (HT.out _ _ bel blk0).mono ?_
  rintro e w1 ⟨rfl, rfl⟩
  have ef := HEF.out
  go_wp2_with (first | fail | (go_at_call 56; (with_reducible refine (nneed_true _ _).mono ?_); rintro e w1 ⟨rfl, rfl⟩))
  refine (HF.out _ bel).mono ?_
  rintro e w1 ⟨A1, n1, c1, A2, n2, c2, rfl, h1, h2, b1⟩
  clear ef
  have l1 := Num.len h1
  have l2 := Num.len h2
  rw [l1] at hQ
  rw [l2] at hR
  clear l1 l2
  obtain ⟨hc1, hf1⟩ := bcell b1
  have hz1 := below_size b1
  simp at hz1
  have z0 : w.heap.size < w1.heap.size := by omega
  have z1 : w.heap.size + 1 < w1.heap.size := by omega
  go_wp2_with fail
  refine (given_ok h1 hQ).mono ?_
  rintro e w2 ⟨v2, rfl, hv2, b2⟩
  obtain ⟨A3, c3, rfl⟩ := Kd.R_slice hv2
  have HV := Lib.hid hv2
  clear hv2
  obtain ⟨hc2, hf2⟩ := bcell b2
  have hz2 := below_size b2
  have y0 : w.heap.size < w2.heap.size := by omega
  have y1 : w.heap.size + 1 < w2.heap.size := by omega
  go_wp2_with fail
  refine (given_ok (Num.below h2 b2) hR).mono ?_
  rintro e w3 ⟨v3, rfl, hv3, b3⟩
  obtain ⟨A4, c4, rfl⟩ := Kd.R_slice hv3
  have HU := Lib.hid hv3
  clear hv3
  obtain ⟨hc3, hf3⟩ := bcell b3
  have hz3 := below_size b3
  have x0 : w.heap.size < w3.heap.size := by omega
  have x1 : w.heap.size + 1 < w3.heap.size := by omega
  go_wp2
  (refine leaves_cons (f := 47) (args := #[.pointer (some ⟨w.heap.size + 1, 0, none⟩)]) (by simp) (by simp [go_sem]) ?_; refine (ncaught_idle _ _).mono ?_; rintro e u' w'' ⟨rfl, rfl, rfl⟩)
  exact ⟨.tuple #[.slice A3 (ofN Q).length c3, .slice A4 (ofN R).length c4, .int .i64 0], rresults (rs := [.tmp 6, .tmp 7, .cell 8 25]) rfl (by simp) (.tmp rfl (.tmp rfl (.cell (w.heap.size + 1) rfl (load_one (t := 25) blk0 (by kernel_rfl)) .nil))), ⟨_, _, rfl, Kd.R_set (Kd.R_lower (Kd.R_below HV.out b3) (by omega)) (cells := #[.int .i64 0]) (t := 25) (BlkIs.one blk0) (by decide) 0 _, Kd.R_set (Kd.R_lower HU.out (by omega)) (cells := #[.int .i64 0]) (t := 25) (BlkIs.one blk0) (by decide) 0 _, bel⟩⟩
set_option maxHeartbeats 2000000 in
theorem divided_bad (f : Nat) {A B : Option Addr} {n m c d : Nat} {a b : List Int} (w : World) (hA : Kd.C (Kd.int .u32) w A n a) (hB : Kd.C (Kd.int .u32) w B m b) (la : Lim a) (lb : Lim b) (hok : (okN a && okN b) = false) :
    Calls Tryd.prog 53 #[.slice A n c, .slice B m d, .agg #[.nilFunc, .func (.func f) #[] #[]]] w (NumErr2 [] [] 1 w) := by
  have HT : Hid (∀ (g : Nat) w', Below w.heap.size w w' → BlkIs w' g 32 (· = #[.slice A n c, .slice B m d]) → Calls Tryd.prog 48 #[.slice (some ⟨g, 0, none⟩) 2 2] w' (TakenP false w')) := Lib.hid fun g w' h h0 => by
    have := two_ok g hA hB la lb h h0
    rw [hok] at this
    exact this
  clear hA hB hok
  go_enter_defers Tryd.func53, Tryd.ntmps53
  go_wp2_with fail
  refine (HT.out _ _ bel blk0).mono ?_
  rintro e w1 ⟨rfl, rfl⟩
  go_wp2
  (refine leaves_cons (f := 47) (args := #[.pointer (some ⟨w.heap.size + 1, 0, none⟩)]) (by simp) (by simp [go_sem]) ?_; refine (ncaught_panic (w.heap.size + 1) (1) 0 [] _ (BlkIs.one blk0)).mono ?_; rintro e u' w'' ⟨rfl, rfl, hch, hp⟩; have hp' : BlkIs w'' (w.heap.size + 1) 25 (· = #[.int .i64 (1)]) := ⟨_, hp, rfl⟩)
  exact ⟨.tuple #[.slice none 0 0, .slice none 0 0, .int .i64 1], rresults (rs := [.tmp 6, .tmp 7, .cell 8 25]) rfl (by simp) (.tmp rfl (.tmp rfl (.cell (w.heap.size + 1) rfl (load_one (t := 25) hp' (by kernel_rfl)) .nil))), NumErr2.of_nil (below_chg bel hch (by omega))⟩
set_option maxHeartbeats 2000000 in
theorem divided_zero (f : Nat) {A B : Option Addr} {n m c d : Nat} {a b : List Int} (w : World) (hA : Kd.C (Kd.int .u32) w A n a) (hB : Kd.C (Kd.int .u32) w B m b) (la : Lim a) (lb : Lim b) (hok : (okN a && okN b) = true) (hm : m = 0) :
    Calls Tryd.prog 53 #[.slice A n c, .slice B m d, .agg #[.nilFunc, .func (.func f) #[] #[]]] w (NumErr2 [] [] 8 w) := by
  have HT : Hid (∀ (g : Nat) w', Below w.heap.size w w' → BlkIs w' g 32 (· = #[.slice A n c, .slice B m d]) → Calls Tryd.prog 48 #[.slice (some ⟨g, 0, none⟩) 2 2] w' (TakenP true w')) := Lib.hid fun g w' h h0 => by
    have := two_ok g hA hB la lb h h0
    rw [hok] at this
    exact this
  subst hm
  clear hA hB hok
  go_enter_defers Tryd.func53, Tryd.ntmps53
  go_wp2_with fail
  refine (HT.out _ _ bel blk0).mono ?_
  rintro e w1 ⟨rfl, rfl⟩
  go_wp2_with (first | fail | (go_at_call 56; (with_reducible refine (nneed_false _ _).mono ?_); rintro e w1 ⟨rfl, rfl⟩))
  (refine leaves_cons (f := 47) (args := #[.pointer (some ⟨w.heap.size + 1, 0, none⟩)]) (by simp) (by simp [go_sem]) ?_; refine (ncaught_panic (w.heap.size + 1) (8) 0 [] _ (BlkIs.one blk0)).mono ?_; rintro e u' w'' ⟨rfl, rfl, hch, hp⟩; have hp' : BlkIs w'' (w.heap.size + 1) 25 (· = #[.int .i64 (8)]) := ⟨_, hp, rfl⟩)
  exact ⟨.tuple #[.slice none 0 0, .slice none 0 0, .int .i64 8], rresults (rs := [.tmp 6, .tmp 7, .cell 8 25]) rfl (by simp) (.tmp rfl (.tmp rfl (.cell (w.heap.size + 1) rfl (load_one (t := 25) hp' (by kernel_rfl)) .nil))), NumErr2.of_nil (below_chg bel hch (by omega))⟩
/-- What Div returns. -/
def natDiv (a b : List Int) : List Int × List Int × Int := if okN a && okN b then (if val b = 0 then ([], [], 8) else (ofN (val a / val b), ofN (val a % val b), 0)) else ([], [], 1)
set_option maxHeartbeats 1000000 in
theorem nDiv_any {A B : Option Addr} {n m c d : Nat} {a b : List Int} (w : World) (hA : Kd.C (Kd.int .u32) w A n a) (hB : Kd.C (Kd.int .u32) w B m b) (la : Lim a) (lb : Lim b) (hc : n ≤ c) (hd : m ≤ d) (hm2 : m < 32) :
    Calls Tryd.prog 38 #[.slice A n c, .slice B m d] w (NumErr2 (natDiv a b).1 (natDiv a b).2.1 (natDiv a b).2.2 w) := by
  have hal : a.length = n := hA.1
  have hbl : b.length = m := hB.1
  have H : Hid (∀ w', Below w.heap.size w w' → Calls Tryd.prog 53 #[.slice A n c, .slice B m d, .agg #[.nilFunc, .func (.func 54) #[] #[]]] w' (NumErr2 (natDiv a b).1 (natDiv a b).2.1 (natDiv a b).2.2 w')) := Lib.hid fun w' hb => by
    have ef := enters_of Tryd.func54 (by kernel_rfl) rfl
    unfold natDiv
    cases hok : okN a && okN b with
    | false => exact divided_bad _ w' (Kd.C_below hA hb) (Kd.C_below hB hb) la lb hok
    | true =>
      have hok2 := hok
      simp only [Bool.and_eq_true] at hok2
      obtain ⟨h1, ta⟩ := okN_iff.1 hok2.1
      obtain ⟨h2, tb⟩ := okN_iff.1 hok2.2
      by_cases h0 : val b = 0
      · have hm : m = 0 := by
          rw [← hbl, ← ofN_val lb tb, h0, ofN_zero]; rfl
        simp only [h0, if_true]
        exact divided_zero _ w' (Kd.C_below hA hb) (Kd.C_below hB hb) la lb hok hm
      · have hm : 0 < m := by
          rcases Nat.eq_zero_or_pos m with h | h
          · exact absurd (by rw [List.eq_nil_of_length_eq_zero (hbl.trans h)]; rfl) h0
          · exact h
        simp only [h0, if_true, if_false]
        have hva : (ofN (val a)).length ≤ 1024 := by rw [ofN_val la ta]; omega
        exact divided_ok _ w' (Kd.C_below hA hb) (Kd.C_below hB hb) la lb hok hm (fun w2 h3 => div1_small w2 (Kd.C_below hA (below_step hb h3)) (Kd.C_below hB (below_step hb h3)) la ta lb tb hc hd (by omega) hm hm2) (Nat.le_trans (len_mono (Nat.div_le_self _ _)) hva) (Nat.le_trans (len_mono (Nat.mod_le _ _)) hva) ef
  generalize natDiv a b = r at *
  clear hA hB
  go_enter Tryd.func38, Tryd.ntmps38
  go_wp2_with (first | fail | (go_at_call 53; (with_reducible refine (H.out _ bel).mono ?_); rintro e w1 ⟨v1, u1, rfl, hv1, hu1, hb1⟩; obtain ⟨A1, c1, rfl⟩ := Kd.R_slice hv1; obtain ⟨A2, c2, rfl⟩ := Kd.R_slice hu1; have HV := Lib.hid hv1; have HU := Lib.hid hu1; clear hv1 hu1))
  exact bodyPost_ret (v := .tuple #[.slice A1 r.1.length c1, .slice A2 r.2.1.length c2, .int .i64 r.2.2]) (by simp [results, Tryd.results38, go_sem, *]) rfl ⟨_, _, rfl, HV.out, HU.out, hb1⟩
end Go.Proofs.YtiplbpfdkcddlaaDoor

set_option linter.unusedSimpArgs false
set_option linter.unusedVariables false
set_option linter.unnecessarySimpa false
namespace Go.Proofs.YtiplbpfdkcddlaaDoor
open Go.RowKit Go.Proofs.YtiplbpfdkcddlaaDoorW.PrintWords Go.Proofs.YtiplbpfdkcddlaaDoorW.PrintLast Go.Proofs.YtiplbpfdkcddlaaDoorW.PrintMore Go.Proofs.YtiplbpfdkcddlaaDoor.NL
set_option maxRecDepth 100000
set_option exponentiation.threshold 33000

theorem len_240 {x : Nat} (hx : x < 2 ^ 240) : (ofN x).length ≤ 8 := len_ofN_le (Nat.lt_of_lt_of_le hx (by show 2 ^ 240 ≤ W 8; rw [W_two]; exact Nat.pow_le_pow_right (by omega) (by omega)))
theorem ok_240 {x : Nat} (hx : x < 2 ^ 240) : okN (ofN x) = true := okN_iff.2 ⟨Nat.le_trans (len_240 hx) (by omega), top_ofN _⟩
theorem len_480 {x : Nat} (hx : x < 2 ^ 480) : (ofN x).length ≤ 1024 := Nat.le_trans (len_ofN_le (k := 15) (Nat.lt_of_lt_of_le hx (by show 2 ^ 480 ≤ W 15; rw [W_two]; exact Nat.pow_le_pow_right (by omega) (by omega)))) (by omega)
section
variable {A B : Option Addr} {n m c d x y : Nat} (w : World) (hA : Kd.C (Kd.int .u32) w A n (ofN x)) (hc : n ≤ c) (hx : x < 2 ^ 240)
theorem n_shr (s : Nat) (hs : s ≤ 1000) (hA : Kd.C (Kd.int .u32) w A n (ofN x)) (hc : n ≤ c) (hx : x < 2 ^ 240) : Calls Tryd.prog 116 #[.slice A n c, .int .i64 s] w (NumErr (ofN (x / 2 ^ s)) 0 w) := by
  have := nShr_any (s : Int) w hA (lim_ofN _) hc (by omega)
  unfold natShr at this
  rw [ok_240 hx, decide_eq_true (show (0 : Int) ≤ (s : Int) by omega), val_ofN, Int.toNat_natCast] at this
  exact this
theorem n_shl (s : Nat) (hs : s ≤ 200) (hA : Kd.C (Kd.int .u32) w A n (ofN x)) (hc : n ≤ c) (hx : x < 2 ^ 240) : Calls Tryd.prog 103 #[.slice A n c, .int .i64 s] w (NumErr (ofN (x * 2 ^ s)) 0 w) := by
  have := nShl_any (s : Int) w hA (lim_ofN _) hc
  have hb : x * 2 ^ s < 2 ^ 480 := by
    have h1 : x * 2 ^ s ≤ x * 2 ^ 200 := Nat.mul_le_mul_left _ (Nat.pow_le_pow_right (by decide) hs)
    have h2 : x * 2 ^ 200 < 2 ^ 240 * 2 ^ 200 := Nat.mul_lt_mul_of_pos_right hx (Nat.two_pow_pos _)
    have h3 : (2 : Nat) ^ 240 * 2 ^ 200 ≤ 2 ^ 480 := by rw [← Nat.pow_add]; exact Nat.pow_le_pow_right (by decide) (by decide)
    omega
  have e : natShl (ofN x) (s : Int) = (ofN (x * 2 ^ s), 0) := by
    unfold natShl numOut
    rw [ok_240 hx, if_pos (by simp)]
    by_cases h : ofN x = []
    · have : x = 0 := ofN_nil.1 h
      rw [if_pos h, this, Nat.zero_mul, ofN_zero]
    · rw [if_neg h, if_pos (by omega), val_ofN]
      dsimp only
      rw [if_pos rfl, Int.toNat_natCast]
      exact if_pos (len_480 hb)
  rw [e] at this
  exact this
theorem n_add (hA : Kd.C (Kd.int .u32) w A n (ofN x)) (hc : n ≤ c) (hB : Kd.C (Kd.int .u32) w B m (ofN y)) (hd : m ≤ d) (hx : x < 2 ^ 239) (hy : y < 2 ^ 239) : Calls Tryd.prog 105 #[.slice A n c, .slice B m d] w (NumErr (ofN (x + y)) 0 w) := by
  have := nAdd_any w hA hB (lim_ofN _) (lim_ofN _) hc hd
  have h2 : (2 : Nat) ^ 240 = 2 ^ 239 + 2 ^ 239 := by rw [Nat.pow_succ, Nat.mul_two]
  have h3 : (2 : Nat) ^ 240 < 2 ^ 480 := Nat.pow_lt_pow_right (by decide) (by decide)
  have e : natAdd (ofN x) (ofN y) = (ofN (x + y), 0) := by
    unfold natAdd numRes numOut
    rw [ok_240 (by omega), ok_240 (by omega), val_ofN, val_ofN]
    simp only [Bool.and_self, if_true]
    exact if_pos (len_480 (by omega))
  rw [e] at this
  exact this
theorem n_mul (hA : Kd.C (Kd.int .u32) w A n (ofN x)) (hc : n ≤ c) (hB : Kd.C (Kd.int .u32) w B m (ofN y)) (hd : m ≤ d) (hx : x < 2 ^ 240) (hy : y < 2 ^ 240) : Calls Tryd.prog 36 #[.slice A n c, .slice B m d] w (NumErr (ofN (x * y)) 0 w) := by
  have := nMul_any w hA hB (lim_ofN _) (lim_ofN _) hc hd
  have h3 : x * y < 2 ^ 480 := by
    have h1 : x * y ≤ 2 ^ 240 * y := Nat.mul_le_mul_right _ (Nat.le_of_lt hx)
    have h2 : 2 ^ 240 * y < 2 ^ 240 * 2 ^ 240 := Nat.mul_lt_mul_of_pos_left hy (Nat.two_pow_pos _)
    have h4 : (2 : Nat) ^ 240 * 2 ^ 240 = 2 ^ 480 := by rw [← Nat.pow_add]
    omega
  have e : natMul (ofN x) (ofN y) = (ofN (x * y), 0) := by
    unfold natMul numRes numOut
    rw [ok_240 hx, ok_240 hy, val_ofN, val_ofN]
    simp only [Bool.and_self, if_true]
    exact if_pos (len_480 h3)
  rw [e] at this
  exact this
theorem n_sub (hA : Kd.C (Kd.int .u32) w A n (ofN x)) (hc : n ≤ c) (hB : Kd.C (Kd.int .u32) w B m (ofN y)) (hd : m ≤ d) (hx : x < 2 ^ 240) (hy : y ≤ x) : Calls Tryd.prog 117 #[.slice A n c, .slice B m d] w (NumErr (ofN (x - y)) 0 w) := by
  have := nSub_any w hA hB (lim_ofN _) (lim_ofN _) hc hd
  have h3 : (2 : Nat) ^ 240 < 2 ^ 480 := Nat.pow_lt_pow_right (by decide) (by decide)
  have e : natSub (ofN x) (ofN y) = (ofN (x - y), 0) := by
    have hs : subO x y = (0, x - y) := by unfold subO; rw [if_neg (by omega)]
    unfold natSub numRes
    rw [ok_240 hx, ok_240 (by omega), val_ofN, val_ofN, hs]
    unfold numOut
    simp only [Bool.and_self, if_true]
    exact if_pos (len_480 (by omega))
  rw [e] at this
  exact this
theorem n_div (hA : Kd.C (Kd.int .u32) w A n (ofN x)) (hc : n ≤ c) (hB : Kd.C (Kd.int .u32) w B m (ofN y)) (hd : m ≤ d) (hx : x < 2 ^ 240) (hy : y < 2 ^ 240) (hy0 : y ≠ 0) : Calls Tryd.prog 38 #[.slice A n c, .slice B m d] w (NumErr2 (ofN (x / y)) (ofN (x % y)) 0 w) := by
  have hm : m ≤ 8 := by rw [← hB.1]; exact len_240 hy
  have := nDiv_any w hA hB (lim_ofN _) (lim_ofN _) hc hd (by omega)
  unfold natDiv at this
  rw [ok_240 hx, ok_240 hy, val_ofN, val_ofN, if_pos (by rfl), if_neg hy0] at this
  exact this
theorem n_uint (hA : Kd.C (Kd.int .u32) w A n (ofN x)) (hc : n ≤ c) (hx : x < 2 ^ 64) : Calls Tryd.prog 110 #[.slice A n c] w fun e w' => e = .returned (.tuple #[.int .u64 x, .int .i64 0]) ∧ w = w' := by
  have h1 : x < 2 ^ 240 := Nat.lt_trans hx (Nat.pow_lt_pow_right (by decide) (by decide))
  have h2 : (ofN x).length ≤ 2 := len_ofN_le (Nat.lt_of_lt_of_le hx (by show 2 ^ 64 ≤ W 2; rw [W_two]; exact Nat.le_refl _))
  have := nToUint_any w hA (lim_ofN _) hc
  unfold natToUint at this
  rw [ok_240 h1, if_pos (by rfl), if_pos h2, val_ofN] at this
  exact this
end
set_option maxHeartbeats 4000000 in
theorem dwordOf_any {A : Option Addr} {n c x : Nat} (w : World) (hA : Kd.C (Kd.int .u32) w A n (ofN x)) (hc : n ≤ c) (hx : x < 2 ^ 128) : Calls Tryd.prog 115 #[.slice A n c] w (GivesW x w) := by
  have HC := Lib.hid hA
  have b1 : x < 2 ^ 240 := Nat.lt_trans hx (Nat.pow_lt_pow_right (by decide) (by decide))
  have hh : x / 2 ^ 64 < 2 ^ 64 := by omega
  have hh2 : x / 2 ^ 64 < 2 ^ 240 := Nat.lt_of_le_of_lt (Nat.div_le_self _ _) b1
  have ht : x / 2 ^ 64 * 2 ^ 64 ≤ x := Nat.div_mul_le_self _ _
  have hl : x - x / 2 ^ 64 * 2 ^ 64 < 2 ^ 64 := by omega
  have H1 : Hid (∀ w', Kd.C (Kd.int .u32) w' A n (ofN x) → Calls Tryd.prog 116 #[.slice A n c, .int .i64 64] w' (NumErr (ofN (x / 2 ^ 64)) 0 w')) := Lib.hid fun w' g => n_shr w' 64 (by omega) g hc b1
  have H2 := Lib.hid fun A n c w' (g : Kd.C (Kd.int .u32) w' A n (ofN (x / 2 ^ 64))) (g2 : n ≤ c) => n_uint w' g g2 hh
  have H3 : Hid (∀ A n c w', Kd.C (Kd.int .u32) w' A n (ofN (x / 2 ^ 64)) → n ≤ c → Calls Tryd.prog 103 #[.slice A n c, .int .i64 64] w' (NumErr (ofN (x / 2 ^ 64 * 2 ^ 64)) 0 w')) := Lib.hid fun A n c w' g g2 => n_shl w' 64 (by omega) g g2 hh2
  have H4 := Lib.hid fun A' n' c' w' (g : Kd.C (Kd.int .u32) w' A n (ofN x)) (g2 : Kd.C (Kd.int .u32) w' A' n' (ofN (x / 2 ^ 64 * 2 ^ 64))) (g3 : n' ≤ c') => n_sub w' g hc g2 g3 b1 ht
  have H5 := Lib.hid fun A n c w' (g : Kd.C (Kd.int .u32) w' A n (ofN (x - x / 2 ^ 64 * 2 ^ 64))) (g2 : n ≤ c) => n_uint w' g g2 hl
  have HW : Hid (Wd x ((x / 2 ^ 64 : Nat) : Int) ((x - x / 2 ^ 64 * 2 ^ 64 : Nat) : Int)) := Lib.hid ⟨by omega, by omega, by omega, by omega, by omega⟩
  clear hA hh hh2 ht hl b1
  generalize x - x / 2 ^ 64 * 2 ^ 64 = l at *
  generalize x / 2 ^ 64 * 2 ^ 64 = t at *
  generalize x / 2 ^ 64 = h at *
  go_enter Tryd.func115, Tryd.ntmps115
  go_wp2_with (first | fail | (go_at_call 116; (with_reducible refine (H1.out _ (Kd.C_below HC.out bel)).mono ?_); rintro r w1 ⟨v1, rfl, hv1, b1⟩; obtain ⟨A1, c1, rfl⟩ := Kd.R_slice hv1; have HV1 := Lib.hid (R_C hv1); clear hv1; obtain ⟨hc1, hf1⟩ := bcell b1; have hz1 := below_size b1; (try simp at hz1); have z01 : w.heap.size < w1.heap.size := (by omega)) | (go_at_call 110; (with_reducible refine (H2.out _ _ _ _ (Kd.C_below HV1.out.1 bel) HV1.out.2).mono ?_); rintro r w2 ⟨rfl, rfl⟩) | (go_at_call 103; (with_reducible refine (H3.out _ _ _ _ (Kd.C_below HV1.out.1 bel) HV1.out.2).mono ?_); rintro r w3 ⟨v3, rfl, hv3, b3⟩; obtain ⟨A3, c3, rfl⟩ := Kd.R_slice hv3; have HV3 := Lib.hid (R_C hv3); clear hv3; obtain ⟨hc3, hf3⟩ := bcell b3; have hz3 := below_size b3; (try simp at hz3); have z03 : w.heap.size < w3.heap.size := (by omega)) | (go_at_call 117; (with_reducible refine (H4.out _ _ _ _ (Kd.C_below HC.out bel) (Kd.C_below HV3.out.1 bel) HV3.out.2).mono ?_); rintro r w4 ⟨v4, rfl, hv4, b4⟩; obtain ⟨A4, c4, rfl⟩ := Kd.R_slice hv4; have HV4 := Lib.hid (R_C hv4); clear hv4; obtain ⟨hc4, hf4⟩ := bcell b4; have hz4 := below_size b4; (try simp at hz4); have z04 : w.heap.size < w4.heap.size := (by omega)) | (go_at_call 110; (with_reducible refine (H5.out _ _ _ _ (Kd.C_below HV4.out.1 bel) HV4.out.2).mono ?_); rintro r w5 ⟨rfl, rfl⟩))
  all_goals
    exact bodyPost_ret (v := wV (h : Nat) (l : Nat)) (by simp [results, Tryd.results115, go_sem, *]) rfl ⟨_, _, rfl, HW, bel⟩
end Go.Proofs.YtiplbpfdkcddlaaDoor

set_option linter.unusedSimpArgs false
set_option linter.unusedVariables false
set_option linter.unnecessarySimpa false
namespace Go.Proofs.YtiplbpfdkcddlaaDoor.NL

/-- The bit number i of ten, the first one first. -/
def tbit (b i : Nat) : Nat := b / 2 ^ (9 - i) % 2
/-- The number of some of ten bits. -/
def tbits (b : Nat) (l : List Nat) : Nat := l.foldl (fun out i => 2 * out + tbit b i) 0
def three (x y z : Nat) : Nat := 100 * x + 10 * y + z
def trow (b : Nat) : Nat := if tbit b 6 = 1 then (if tbits b [7, 8] = 3 then 4 + tbits b [3, 4] else 1 + tbits b [7, 8]) else 0
/-- The three digits of a row. -/
def tthree (b : Nat) : Nat → Nat
  | 0 => three (tbits b [0, 1, 2]) (tbits b [3, 4, 5]) (tbits b [7, 8, 9])
  | 1 => three (tbits b [0, 1, 2]) (tbits b [3, 4, 5]) (8 + tbits b [9])
  | 2 => three (tbits b [0, 1, 2]) (8 + tbits b [5]) (tbits b [3, 4, 9])
  | 3 => three (8 + tbits b [2]) (tbits b [3, 4, 5]) (tbits b [0, 1, 9])
  | 4 => three (8 + tbits b [2]) (8 + tbits b [5]) (tbits b [0, 1, 9])
  | 5 => three (8 + tbits b [2]) (tbits b [0, 1, 5]) (8 + tbits b [9])
  | 6 => three (tbits b [0, 1, 2]) (8 + tbits b [5]) (8 + tbits b [9])
  | _ => three (8 + tbits b [2]) (8 + tbits b [5]) (8 + tbits b [9])
/-- The three digits that ten bits mean. -/
def unpk (b : Nat) : Nat := tthree b (trow b)
/-- The least ten bits that mean three digits. -/
def pkd (n : Nat) : Nat :=
  let x := n / 100; let y := n / 10 % 10; let z := n % 10
  if x < 8 then
    if y < 8 then (if z < 8 then x * 128 + y * 16 + z else x * 128 + y * 16 + 8 + z % 2)
    else (if z < 8 then x * 128 + (z / 2 * 2 + y % 2) * 16 + 10 + z % 2 else x * 128 + (4 + y % 2) * 16 + 14 + z % 2)
  else
    if y < 8 then (if z < 8 then (z / 2 * 2 + x % 2) * 128 + y * 16 + 12 + z % 2 else (y / 2 * 2 + x % 2) * 128 + (2 + y % 2) * 16 + 14 + z % 2)
    else (if z < 8 then (z / 2 * 2 + x % 2) * 128 + y % 2 * 16 + 14 + z % 2 else x % 2 * 128 + (6 + y % 2) * 16 + 14 + z % 2)
theorem tab_bits : (List.range 1024).all (fun b => decide (pkd (unpk b) ≤ b ∧ unpk (pkd (unpk b)) = unpk b ∧ unpk b ≤ 999)) = true := by decide +kernel
theorem tab_nums : (List.range 1000).all (fun n => decide (unpk (pkd n) = n ∧ pkd n ≤ 1023)) = true := by decide +kernel
theorem tab_odd : ((List.range 1024).filter (fun b => decide (pkd (unpk b) ≠ b))).length = 24 := by decide +kernel
theorem unpk_le {b : Nat} (h : b < 1024) : unpk b ≤ 999 ∧ pkd (unpk b) ≤ b ∧ unpk (pkd (unpk b)) = unpk b := by
  have := of_decide_eq_true (List.all_eq_true.1 tab_bits b (List.mem_range.2 h))
  exact ⟨this.2.2, this.1, this.2.1⟩
theorem pkd_ok {n : Nat} (h : n < 1000) : unpk (pkd n) = n ∧ pkd n ≤ 1023 := of_decide_eq_true (List.all_eq_true.1 tab_nums n (List.mem_range.2 h))
/-- No smaller bits mean the same digits. -/
theorem pkd_least {n b : Nat} (h : b < pkd n) (hn : n < 1000) : unpk b ≠ n := fun e => by
  obtain ⟨-, h1⟩ := pkd_ok hn
  have := (unpk_le (show b < 1024 by omega)).2.1
  rw [e] at this; omega
end Go.Proofs.YtiplbpfdkcddlaaDoor.NL

set_option linter.unusedSimpArgs false
set_option linter.unusedVariables false
set_option linter.unnecessarySimpa false
namespace Go.Proofs.YtiplbpfdkcddlaaDoor
open Go.RowKit Go.Proofs.YtiplbpfdkcddlaaDoorW.PrintWords Go.Proofs.YtiplbpfdkcddlaaDoorW.PrintLast Go.Proofs.YtiplbpfdkcddlaaDoorW.PrintMore Go.Proofs.YtiplbpfdkcddlaaDoor.NL
set_option maxRecDepth 100000

theorem tbit_le (b i : Nat) : tbit b i ≤ 1 := by unfold tbit; omega
theorem tbits_snoc (b : Nat) (l : List Nat) (i : Nat) : tbits b (l ++ [i]) = 2 * tbits b l + tbit b i := by unfold tbits; rw [List.foldl_append]; rfl
theorem tbits_lt1 (b i : Nat) : tbits b [i] ≤ 1 := by have := tbit_le b i; show 2 * 0 + tbit b i ≤ 1; omega
theorem tbits_lt2 (b i j : Nat) : tbits b [i, j] ≤ 3 := by have := tbit_le b i; have := tbit_le b j; show 2 * (2 * 0 + tbit b i) + tbit b j ≤ 3; omega
theorem tbits_lt3 (b i j k : Nat) : tbits b [i, j, k] ≤ 7 := by have := tbit_le b i; have := tbit_le b j; have := tbit_le b k; show 2 * (2 * (2 * 0 + tbit b i) + tbit b j) + tbit b k ≤ 7; omega
theorem i64_and1 {x : Int} (h0 : 0 ≤ x) (h1 : x < 9223372036854775808) : bits .and .i64 x 1 = x % 2 := bits_mask .i64 63 (by decide) (fun n a b => by rw [IntKind.wrap_i64]; omega) 1 (by decide) x h0 h1
theorem take_tb {b j : Nat} {l : List Nat} (h : j < l.length) : tbits b (l.take (j + 1)) = 2 * tbits b (l.take j) + tbit b (l.getD j 0) := by
  rw [List.take_add_one, List.getElem?_eq_getElem h, List.getD_eq_getElem?_getD, List.getElem?_eq_getElem h]
  exact tbits_snoc b _ _
theorem tb_step {b i : Nat} (hb : b ≤ 1023) : bits .and .i64 ((b : Int) / 2 ^ (9 - i)) 1 = (tbit b i : Int) := by
  have h : ((b : Int) / 2 ^ (9 - i)) = ((b / 2 ^ (9 - i) : Nat) : Int) := by rw [Int.natCast_ediv]; simp
  have h2 : b / 2 ^ (9 - i) ≤ b := Nat.div_le_self _ _
  unfold tbit
  rw [h]
  generalize b / 2 ^ (9 - i) = c at *
  rw [i64_and1 (by omega) (by omega)]
  omega
set_option maxHeartbeats 4000000 in
theorem unp1_any {b g q : Nat} {l : List Nat} (w : World) (hb : b ≤ 1023) (hl : l.length ≤ 10) (hi : ∀ j, j < l.length → l.getD j 0 ≤ 9) (hc : ∀ j, j < l.length → w.cell? ⟨q, j, none⟩ = some (.int .i64 (l.getD j 0 : Nat))) (hg : w.cell? ⟨g, 0, none⟩ = some (.int .i64 b)) :
    Calls Tryd.prog 31 #[.slice (some ⟨q, 0, none⟩) l.length l.length, .pointer (some ⟨g, 0, none⟩)] w fun e w' => e = .returned (.int .i64 (tbits b l : Nat)) ∧ w = w' := by
  have HI := Lib.hid hi
  have HC := Lib.hid hc
  clear hi hc
  obtain ⟨n, hn⟩ : ∃ n, n = l.length := ⟨_, rfl⟩
  have HT : Hid (tbits b l = tbits b (l.take n)) := Lib.hid (by rw [hn, List.take_length])
  rw [← hn] at hl ⊢
  go_enter Tryd.func31, Tryd.ntmps31
  go_wp2
  go_loop [4, 6, 9] (fun v4 v6 v9 => ∃ j : Nat, j ≤ n ∧ v9 = .int .i64 j ∧ ∃ T : Nat, T < 2 ^ j ∧ v4 = .int .i64 T ∧ Hid (T = tbits b (l.take j))) (fun v4 v6 v9 => n - (intOf v9).toNat)
  case atStart => exact ⟨0, by omega, rfl, 0, by simp, rfl, Lib.hid rfl⟩
  case round =>
    obtain ⟨j, hj, rfl, T, hT, rfl, HV⟩ := hrel
    by_cases hlt : j < n
    · have hcell := HC.out j (by omega)
      have h9 := HI.out j (by omega)
      have HV2 : Hid (2 * T + tbit b (l.getD j 0) = tbits b (l.take (j + 1))) := Lib.hid (by rw [take_tb (by omega), HV.out])
      generalize l.getD j 0 = i at *
      have hst := tb_step (i := i) hb
      have ht1 := tbit_le b i
      have hp : (2 : Nat) ^ j ≤ 2 ^ 10 := Nat.pow_le_pow_right (by decide) (by omega)
      have hp2 : (2 : Nat) ^ (j + 1) = 2 * 2 ^ j := by rw [Nat.pow_succ, Nat.mul_comm]
      have hd : decide (9 - (i : Int) < 0) = false := decide_eq_false (by omega)
      generalize tbit b i = t at *
      go_wp2
      go_round
      case rel => exact ⟨j + 1, by omega, by simp, 2 * T + t, by omega, by first | (simp; done) | (simp [hst]; done) | (simp [hst]; unfold wrap64; omega), HV2⟩
      case measure => simp [intOf]; omega
    · obtain rfl : j = n := by omega
      have HR : Hid (T = tbits b l) := Lib.hid (by rw [HV.out, HT.out])
      go_wp2
      go_ret
      exact ⟨by rw [HR.out]; rfl, rfl⟩
theorem unp_lit1 {b g q : Nat} {x : Int} (W : World) (hq : q = W.heap.size) (hb : b ≤ 1023) (hx : 0 ≤ x ∧ x ≤ 9) (hg : W.cell? ⟨g, 0, none⟩ = some (.int .i64 b)) (hgs : g < W.heap.size) :
    Calls Tryd.prog 31 #[.slice (some ⟨q, 0, none⟩) 1 1, .pointer (some ⟨g, 0, none⟩)] (W.alloc (.cells #[.int .i64 x] 3)) fun e w' => e = .returned (.int .i64 (tbits b [x.toNat] : Nat)) ∧ w' = W.alloc (.cells #[.int .i64 x] 3) := by
  subst hq
  have hne : g ≠ W.heap.size := by omega
  obtain ⟨x, rfl⟩ := Int.eq_ofNat_of_zero_le hx.1
  refine (unp1_any (b := b) (g := g) (q := W.heap.size) (l := [x]) (W.alloc (.cells #[.int .i64 (x : Nat)] 3)) hb (by simp) ?_ ?_ ?_).mono ?_
  · intro j hj
    have hj' : j = 0 := by simp at hj; omega
    rcases hj' with rfl <;> simp <;> omega
  · intro j hj
    have hj' : j = 0 := by simp at hj; omega
    rcases hj' with rfl <;> simp [go_sem]
  · exact ((bcell (below_alloc (Below.refl W.heap.size W) _)).1 g 0 hgs).trans hg
  · rintro e w' ⟨rfl, rfl⟩
    exact ⟨by simp, rfl⟩
theorem unp_lit2 {b g q : Nat} {x y : Int} (W : World) (hq : q = W.heap.size) (hb : b ≤ 1023) (hx : 0 ≤ x ∧ x ≤ 9) (hy : 0 ≤ y ∧ y ≤ 9) (hg : W.cell? ⟨g, 0, none⟩ = some (.int .i64 b)) (hgs : g < W.heap.size) :
    Calls Tryd.prog 31 #[.slice (some ⟨q, 0, none⟩) 2 2, .pointer (some ⟨g, 0, none⟩)] (W.alloc (.cells #[.int .i64 x, .int .i64 y] 3)) fun e w' => e = .returned (.int .i64 (tbits b [x.toNat, y.toNat] : Nat)) ∧ w' = W.alloc (.cells #[.int .i64 x, .int .i64 y] 3) := by
  subst hq
  have hne : g ≠ W.heap.size := by omega
  obtain ⟨x, rfl⟩ := Int.eq_ofNat_of_zero_le hx.1
  obtain ⟨y, rfl⟩ := Int.eq_ofNat_of_zero_le hy.1
  refine (unp1_any (b := b) (g := g) (q := W.heap.size) (l := [x, y]) (W.alloc (.cells #[.int .i64 (x : Nat), .int .i64 (y : Nat)] 3)) hb (by simp) ?_ ?_ ?_).mono ?_
  · intro j hj
    have hj' : j = 0 ∨ j = 1 := by simp at hj; omega
    rcases hj' with rfl | rfl <;> simp <;> omega
  · intro j hj
    have hj' : j = 0 ∨ j = 1 := by simp at hj; omega
    rcases hj' with rfl | rfl <;> simp [go_sem]
  · exact ((bcell (below_alloc (Below.refl W.heap.size W) _)).1 g 0 hgs).trans hg
  · rintro e w' ⟨rfl, rfl⟩
    exact ⟨by simp, rfl⟩
theorem unp_lit3 {b g q : Nat} {x y z : Int} (W : World) (hq : q = W.heap.size) (hb : b ≤ 1023) (hx : 0 ≤ x ∧ x ≤ 9) (hy : 0 ≤ y ∧ y ≤ 9) (hz : 0 ≤ z ∧ z ≤ 9) (hg : W.cell? ⟨g, 0, none⟩ = some (.int .i64 b)) (hgs : g < W.heap.size) :
    Calls Tryd.prog 31 #[.slice (some ⟨q, 0, none⟩) 3 3, .pointer (some ⟨g, 0, none⟩)] (W.alloc (.cells #[.int .i64 x, .int .i64 y, .int .i64 z] 3)) fun e w' => e = .returned (.int .i64 (tbits b [x.toNat, y.toNat, z.toNat] : Nat)) ∧ w' = W.alloc (.cells #[.int .i64 x, .int .i64 y, .int .i64 z] 3) := by
  subst hq
  have hne : g ≠ W.heap.size := by omega
  obtain ⟨x, rfl⟩ := Int.eq_ofNat_of_zero_le hx.1
  obtain ⟨y, rfl⟩ := Int.eq_ofNat_of_zero_le hy.1
  obtain ⟨z, rfl⟩ := Int.eq_ofNat_of_zero_le hz.1
  refine (unp1_any (b := b) (g := g) (q := W.heap.size) (l := [x, y, z]) (W.alloc (.cells #[.int .i64 (x : Nat), .int .i64 (y : Nat), .int .i64 (z : Nat)] 3)) hb (by simp) ?_ ?_ ?_).mono ?_
  · intro j hj
    have hj' : j = 0 ∨ j = 1 ∨ j = 2 := by simp at hj; omega
    rcases hj' with rfl | rfl | rfl <;> simp <;> omega
  · intro j hj
    have hj' : j = 0 ∨ j = 1 ∨ j = 2 := by simp at hj; omega
    rcases hj' with rfl | rfl | rfl <;> simp [go_sem]
  · exact ((bcell (below_alloc (Below.refl W.heap.size W) _)).1 g 0 hgs).trans hg
  · rintro e w' ⟨rfl, rfl⟩
    exact ⟨by simp, rfl⟩
end Go.Proofs.YtiplbpfdkcddlaaDoor
