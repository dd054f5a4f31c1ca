/- nat's inner functions: low, high, school, karatsuba, mul: what they compute, as numbers. nat: what is valid, what stops, what is caught. -/
import Derived.Test.YtiplbpfdkcddlaaDoorJD4
set_option linter.unusedSimpArgs false
set_option linter.unusedVariables false
set_option linter.unnecessarySimpa false
namespace Go.Proofs.YtiplbpfdkcddlaaDoor
open Go.RowKit Go.Proofs.YtiplbpfdkcddlaaDoorW.PrintWords Go.Proofs.YtiplbpfdkcddlaaDoorW.PrintLast Go.Proofs.YtiplbpfdkcddlaaDoorW.PrintMore Go.Proofs.YtiplbpfdkcddlaaDoor.NL
set_option maxRecDepth 100000
attribute [local go_sem] max2_int min2_int max_two min_two

theorem lim_take {a : List Int} (la : Lim a) (k : Nat) : Lim (a.take k) := fun x hx => la x (List.mem_of_mem_take hx)
theorem lim_drop {a : List Int} (la : Lim a) (k : Nat) : Lim (a.drop k) := fun x hx => la x (List.mem_of_mem_drop hx)
theorem drop_ofN {a : List Int} (la : Lim a) (ta : Top a) (k : Nat) : a.drop k = ofN (val a / W k) := by rw [← ofN_div, ofN_val la ta]

set_option maxHeartbeats 1000000 in
theorem low_any (A : Option Addr) (n c : Nat) (a : List Int) (s : Nat) (w : World) (hA : Kd.C (Kd.int .u32) w A n a) (la : Lim a) (hn : n ≤ 1000000000) (hc : n ≤ c) (hs : s ≤ 1000000000) :
    Calls Tryd.prog 67 #[.slice A n c, .int .i64 s] w (Gives (val a % W s) w) := by
  have ha : a.length = n := hA.1
  obtain ⟨m, hm⟩ : ∃ m, min s n = m := ⟨_, rfl⟩
  have hm1 : m ≤ n := by omega
  have hv : val (a.take m) = val a % W s := by
    by_cases h : s ≤ n
    · rw [← hm, Nat.min_eq_left h, val_take la]
    · rw [← hm, Nat.min_eq_right (by omega), take_all (by omega), Nat.mod_eq_of_lt]
      exact Nat.lt_of_lt_of_le (val_lt la) (W_le (by omega))
  rw [← hv]
  have hmin : (if n < s then (n : Int) else (s : Int)) = (m : Int) := by split <;> omega
  have HC : Hid (∀ w', Below w.heap.size w w' → Kd.C (Kd.int .u32) w' A m (a.take m)) := Lib.hid fun w' hb => C_head (Kd.C_below hA hb) hm1
  have lt := lim_take la m
  clear hA ha hm hv
  go_enter Tryd.func67, Tryd.ntmps67
  go_wp2_with (first | (go_at_call 73; (with_reducible refine (clone_limbs _ _ _ (a.take m) _ (HC.out _ bel) (by omega)).mono ?_); rintro e w1 ⟨v1, rfl, hv1, hb1⟩; obtain ⟨A1, c1, rfl⟩ := Kd.R_slice hv1; have HR1 := Lib.hid (R_C hv1); have hl1 : (a.take m).length = m := (HC.out _ (Below.refl _ _)).1; rw [hl1] at HR1 ⊢; clear hv1 hl1) | (go_at_call 81; (with_reducible refine (trim_any _ _ _ (a.take m) _ HR1.out.1 lt (by omega) HR1.out.2).mono ?_); rintro e w2 ⟨k, rfl, hk, rfl⟩))
  go_ret
  exact ⟨_, k, c1, rfl, Lib.hid ⟨by have := hk.out.1; have := HR1.out.2; omega, by have := C_head HR1.out.1 hk.out.1; rw [hk.out.2] at this; exact this⟩, bel⟩

set_option maxHeartbeats 1000000 in
theorem high_any (A : Option Addr) (n c : Nat) (a : List Int) (s : Nat) (w : World) (hA : Kd.C (Kd.int .u32) w A n a) (la : Lim a) (ta : Top a) (hn : n ≤ 1000000000) (hc : n ≤ c) (hs : s ≤ 1000000000) :
    Calls Tryd.prog 66 #[.slice A n c, .int .i64 s] w (Gives (val a / W s) w) := by
  have ha : a.length = n := hA.1
  obtain ⟨m, hm⟩ : ∃ m, min s n = m := ⟨_, rfl⟩
  have hm1 : m ≤ n := by omega
  have hd : a.drop m = ofN (val a / W s) := by
    rw [← drop_ofN la ta]
    by_cases h : s ≤ n
    · rw [← hm, Nat.min_eq_left h]
    · rw [List.drop_eq_nil_of_le (by omega), List.drop_eq_nil_of_le (by omega)]
  have hmin : (if n < s then (n : Int) else (s : Int)) = (m : Int) := by split <;> omega
  subst ha
  obtain ⟨A', hsl, hC', hcc⟩ := drop_int (P := Tryd.prog) 95 46 Tryd.underlying95 (by kernel_rfl) A c a m hm1 hc
  have HC : Hid (∀ w', Below w.heap.size w w' → Kd.C (Kd.int .u32) w' A' (a.length - m) (a.drop m)) := Lib.hid fun w' hb => hC' _ _ (Kd.C_below hA hb)
  have HD := Lib.hid hd
  obtain ⟨L, hL⟩ : ∃ L, a.length = L := ⟨_, rfl⟩
  rw [hL] at HC hsl hmin hcc hn hc hm1 ⊢
  clear hA hm hd hC' hL
  obtain ⟨d, hdd⟩ : ∃ d, L - m = d := ⟨_, rfl⟩
  rw [hdd] at HC hcc hsl
  have hd2 : d ≤ 1000000000 := by omega
  clear hdd
  go_enter Tryd.func66, Tryd.ntmps66
  go_wp2_with (go_at_call 73; (with_reducible refine (clone_limbs _ _ _ (a.drop m) _ (HC.out _ bel) (by omega)).mono ?_); rintro e w1 ⟨v1, rfl, hv1, hb1⟩; obtain ⟨A1, c1, rfl⟩ := Kd.R_slice hv1; have HR1 := Lib.hid (R_C hv1); have hl1 : (a.drop m).length = d := (HC.out _ (Below.refl _ _)).1; rw [hl1] at HR1 ⊢; clear hv1 hl1)
  go_ret
  exact ⟨_, _, c1, rfl, Lib.hid ⟨HR1.out.2, by rw [← HD.out]; exact HR1.out.1⟩, bel⟩

def SchRel (a b : List Int) (N : Nat) (w0 : World) (A : Option Addr) (c : Nat) (vi : Value) (wr : World) : Prop :=
  ∃ (i : Nat) (ys : List Int), i ≤ a.length ∧ vi = .int .i64 i ∧ ys.length = N ∧ OwnI .u32 46 w0.heap.size wr (.slice A N c) ys ∧ Below w0.heap.size w0 wr ∧ MulAt a b i 0 0 ys
def SchIn (a b : List Int) (N i : Nat) (w0 : World) (A : Option Addr) (c : Nat) (vc vk : Value) (wr : World) : Prop :=
  ∃ (k : Nat) (cy : Int) (ys : List Int), k ≤ b.length ∧ vk = .int .i64 k ∧ vc = .int .u64 cy ∧ ys.length = N ∧ OwnI .u32 46 w0.heap.size wr (.slice A N c) ys ∧ Below w0.heap.size w0 wr ∧ MulAt a b i k cy ys

set_option maxHeartbeats 8000000 in
theorem school_any (A B : Option Addr) (n m c d : Nat) (a b : List Int) (w : World) (hA : Kd.C (Kd.int .u32) w A n a) (hB : Kd.C (Kd.int .u32) w B m b) (la : Lim a) (lb : Lim b) (hn : n ≤ 1000000000) (hm : m ≤ 1000000000) :
    Calls Tryd.prog 76 #[.slice A n c, .slice B m d] w (Gives (val a * val b) w) := by
  have hla : a.length = n := hA.1
  have hlb : b.length = m := hB.1
  have HLA := Lib.hid hla
  have HLB := Lib.hid hlb
  have HA := Lib.hid hA
  have HB := Lib.hid hB
  clear hla hlb hA hB
  go_enter Tryd.func76, Tryd.ntmps76
  go_wp2_with ((with_reducible refine gate_dst (N := 16) rfl ?_); refine make_row (w0 := w) rfl rfl 16 rfl _ _ rfl (n + m) rfl rfl (by omega) bel ?_; intro A5 c5 w5 hr5 hb5 _)
  have HR5 := Lib.hid hr5
  clear hr5
  go_loopw [19] (fun vi wr => SchRel a b (n + m) w A5 c5 vi wr) (fun vi _ => n - (intOf vi).toNat)
  case atStart => exact ⟨0, _, by omega, rfl, by simp, HR5.out, hb5, MulAt.start a b _⟩
  case round =>
    obtain ⟨i, ys, hi, rfl, hy, hown, hbw, hmul⟩ := hrel
    obtain ⟨wo, hwo⟩ : ∃ wo : World, wr = wo := ⟨_, rfl⟩
    subst hwo
    rw [HLA.out] at hi
    have HY := Lib.hid hy
    have HO := Lib.hid hown
    have HD := Lib.hid hmul
    clear hy hown hmul
    by_cases hlt : i < n
    · obtain ⟨ba, oa, rfl, hba, hcs⟩ := open_C (Kd.C_below HA.out hbw) (by omega)
      have hca := hcs i hlt
      clear hcs
      obtain ⟨x0, x1⟩ := lim_getD la i
      obtain ⟨x, hx⟩ : ∃ x, a.getD i 0 = x := ⟨_, rfl⟩
      rw [hx] at hca x0 x1
      have HX := Lib.hid hx
      clear hx
      go_wp2
      go_loopw [8, 26] (fun vc vk w2 => SchIn a b (n + m) i w A5 c5 vc vk w2) (fun _ vk _ => m - (intOf vk).toNat)
      case atStart => exact ⟨0, 0, _, by omega, rfl, rfl, HY.out, HO.out, hbw, HD.out⟩
      case round =>
        obtain ⟨k, cy, ys2, hk, rfl, rfl, hy2, hown2, hbw2, hmul2⟩ := hrel
        rw [HLB.out] at hk
        have HY2 := Lib.hid hy2
        have HO2 := Lib.hid hown2
        have HD2 := Lib.hid hmul2
        obtain ⟨c0, c1, ly, -, -⟩ := hmul2
        clear hy2 hown2
        obtain ⟨g, rfl, hg0, hg1, hgc, hgf⟩ := own_open HO2.out (by omega)
        by_cases hlt2 : k < m
        · obtain ⟨bb, ob, rfl, hbb, hcs⟩ := open_C (Kd.C_below HB.out hbw2) (by omega)
          have hcb := hcs k hlt2
          clear hcs
          obtain ⟨y0, y1⟩ := lim_getD lb k
          obtain ⟨u0, u1⟩ := lim_getD ly (i + k)
          have hcell := hgc (i + k) (by omega)
          have hfr := hgf (i + k)
          have hst := MulAt.step la lb HD2.out (by rw [HLB.out]; exact hlt2) (by rw [HY2.out]; omega)
          rw [HX.out] at hst
          have HST := Lib.hid hst
          obtain ⟨y, hy⟩ : ∃ y, b.getD k 0 = y := ⟨_, rfl⟩
          obtain ⟨u, hu⟩ : ∃ u, ys2.getD (i + k) 0 = u := ⟨_, rfl⟩
          rw [hy] at hcb y0 y1 HST
          rw [hu] at hcell u0 u1 HST
          obtain ⟨m0, m1, m2, m3⟩ := mul_bound x0 x1 y0 y1 u0 u1 c0 c1
          clear hgc hgf hst hy hu ly
          go_wp2
          go_roundw
          case rel => exact ⟨k + 1, _, _, by rw [HLB.out]; omega, by simp, rfl, by simp [HY2.out], Kd.R_putn HO2.out ((i + k : Nat) : Int) _, bel, HST.out⟩
          case measure => simp [intOf]; omega
        · obtain rfl : k = m := by omega
          have hcell := hgc (i + k) (by omega)
          have hfr := hgf (i + k)
          have hm2 := HD2.out
          rw [← HLB.out] at hm2
          have hst := MulAt.next hm2 (by rw [HY2.out, HLB.out]; omega)
          rw [HLB.out] at hst
          have HST := Lib.hid hst
          clear hgc hgf hst hm2 ly
          go_wp2
          go_roundw
          case rel => exact ⟨i + 1, _, by rw [HLA.out]; omega, by simp, by simp [HY2.out], Kd.R_putn HO2.out ((i + k : Nat) : Int) _, bel, HST.out⟩
          case measure => simp [intOf]; omega
    · obtain rfl : i = n := by omega
      have hm2 := HD.out
      rw [← HLA.out] at hm2
      obtain ⟨ly, hv⟩ := MulAt.done hm2 rfl
      have HV := Lib.hid hv
      clear hv hm2
      obtain ⟨hC, hcc⟩ := R_C HO.out
      have HC := Lib.hid hC
      clear hC
      go_wp2_with (go_at_call 81; (with_reducible refine (trim_any _ _ _ ys _ HC.out ly (by omega) hcc).mono ?_); rintro e w1 ⟨k2, rfl, hk2, rfl⟩)
      go_ret
      exact ⟨_, k2, c5, rfl, Lib.hid ⟨by have := hk2.out.1; omega, by have := C_head HC.out hk2.out.1; rw [hk2.out.2, HV.out] at this; exact this⟩, bel⟩

theorem R_nilC (w : World) : Kd.C (Kd.int .u32) w none 0 [] := (R_C (Kd.R_nil (Kd.int .u32) 46 w w.heap.size (fun _ => True))).1
theorem len_le {w : World} {A : Option Addr} {n c N k : Nat} (h : Hid (n ≤ c ∧ Kd.C (Kd.int .u32) w A n (ofN N))) (hN : N < W k) : n ≤ k := by
  have := h.out.2.1
  rw [← this]
  exact len_ofN_le hN
theorem len_mono {x y : Nat} (h : x ≤ y) : (ofN x).length ≤ (ofN y).length := len_ofN_le (Nat.lt_of_le_of_lt h (lt_of_len (Nat.le_refl _)))

theorem add_ltW {x y i j : Nat} (hx : x < W i) (hy : y < W j) : x + y < W (i + j + 1) := by
  have h1 : W i ≤ W (i + j) := W_le (by omega)
  have h2 : W j ≤ W (i + j) := W_le (by omega)
  rw [W_succ]
  omega
/-- A number in memory. -/
abbrev Num (w : World) (A : Option Addr) (n c N : Nat) : Prop := Hid (n ≤ c ∧ Kd.C (Kd.int .u32) w A n (ofN N))
theorem Num.below {w w' : World} {A : Option Addr} {n c N : Nat} (h : Num w A n c N) (hb : Below w.heap.size w w') : Num w' A n c N := Lib.hid ⟨h.out.1, Kd.C_below h.out.2 hb⟩
theorem Num.len {w : World} {A : Option Addr} {n c N : Nat} (h : Num w A n c N) : (ofN N).length = n := h.out.2.1
theorem Num.lt {w : World} {A : Option Addr} {n c N : Nat} (h : Num w A n c N) : N < W n := lt_of_len (by rw [Num.len h]; exact Nat.le_refl _)
theorem Num.mono {w w' : World} {A B : Option Addr} {n c m d x y : Nat} (h : Num w A n c x) (k : Num w' B m d y) (hx : x ≤ y) : n ≤ m := by
  rw [← Num.len h, ← Num.len k]; exact len_mono hx
theorem num_of {w : World} {A : Option Addr} {n c : Nat} {a : List Int} (h : Kd.C (Kd.int .u32) w A n a) (la : Lim a) (ta : Top a) (hc : n ≤ c) : Num w A n c (val a) := Lib.hid ⟨hc, by rw [ofN_val la ta]; exact h⟩
theorem add_N {A B : Option Addr} {n m c d x y : Nat} {w : World} (h : Num w A n c x) (k : Num w B m d y) (hn : n ≤ 1000000000) (hm : m ≤ 1000000000) : Calls Tryd.prog 69 #[.slice A n c, .slice B m d] w (Gives (x + y) w) := by
  have := add_any A B n m c d _ _ w h.out.2 k.out.2 (lim_ofN _) (lim_ofN _) hn hm
  rwa [val_ofN, val_ofN] at this
theorem sub_N {A B : Option Addr} {n m c d x y : Nat} {w : World} (h : Num w A n c x) (k : Num w B m d y) (hn : n ≤ 1000000000) (hle : y ≤ x) : Calls Tryd.prog 77 #[.slice A n c, .slice B m d] w (Gives (x - y) w) := by
  have := sub_any A B n m c d _ _ w h.out.2 k.out.2 (lim_ofN _) (lim_ofN _) hn (Num.mono k h hle) (by rw [val_ofN, val_ofN]; exact hle)
  rwa [val_ofN, val_ofN] at this
theorem shl_N {A : Option Addr} {n c x : Nat} {w : World} (s : Nat) (h : Num w A n c x) (hn : n ≤ 1000000000) (hs : s ≤ 1000000000) : Calls Tryd.prog 65 #[.slice A n c, .int .i64 s] w (Gives (x * 2 ^ s) w) := by
  have := shl_any A n c _ s w h.out.2 (lim_ofN _) hn hs
  rwa [val_ofN] at this
theorem shr_N {A : Option Addr} {n c x : Nat} {w : World} (s : Nat) (h : Num w A n c x) (hn : n ≤ 1000000000) (hs : s ≤ 1000000000000) : Calls Tryd.prog 70 #[.slice A n c, .int .i64 s] w (Gives (x / 2 ^ s) w) := by
  have := shr_any A n c _ s w h.out.2 (lim_ofN _) (top_ofN _) hn hs
  rwa [val_ofN] at this
theorem size_N {A : Option Addr} {n c x : Nat} {w : World} (h : Num w A n c x) (hn : n ≤ 1000000000) : Calls Tryd.prog 61 #[.slice A n c] w fun e w' => e = .returned (.int .i64 (blen x)) ∧ w = w' := by
  have := size_any A n c _ w h.out.2 (lim_ofN _) (top_ofN _) hn
  rwa [val_ofN] at this
theorem low_N {A : Option Addr} {n c x : Nat} {w : World} (s : Nat) (h : Num w A n c x) (hn : n ≤ 1000000000) (hs : s ≤ 1000000000) : Calls Tryd.prog 67 #[.slice A n c, .int .i64 s] w (Gives (x % W s) w) := by
  have := low_any A n c _ s w h.out.2 (lim_ofN _) hn h.out.1 hs
  rwa [val_ofN] at this
theorem high_N {A : Option Addr} {n c x : Nat} {w : World} (s : Nat) (h : Num w A n c x) (hn : n ≤ 1000000000) (hs : s ≤ 1000000000) : Calls Tryd.prog 66 #[.slice A n c, .int .i64 s] w (Gives (x / W s) w) := by
  have := high_any A n c _ s w h.out.2 (lim_ofN _) (top_ofN _) hn h.out.1 hs
  rwa [val_ofN] at this

set_option maxHeartbeats 8000000 in
theorem karat_any (cut : Nat) (hcut : 8 ≤ cut) (hcut2 : cut ≤ 1000000) : ∀ (N : Nat) (A B : Option Addr) (n m c d : Nat) (a b : List Int) (w : World) (hA : Kd.C (Kd.int .u32) w A n a) (hB : Kd.C (Kd.int .u32) w B m b) (la : Lim a) (ta : Top a) (lb : Lim b) (tb : Top b) (hc : n ≤ c) (hd : m ≤ d) (hn : n ≤ N) (hm : m ≤ N) (hN : N ≤ 1000000),
    Calls Tryd.prog 63 #[.slice A n c, .slice B m d, .int .i64 cut] w (Gives (val a * val b) w) := by
  intro N
  induction N using Nat.strongRecOn with
  | _ N ih =>
  intro A B n m c d a b w hA hB la ta lb tb hc hd hn hm hN
  by_cases hlt : min n m < cut
  · obtain ⟨l, hl⟩ : ∃ l, min n m = l := ⟨_, rfl⟩
    have hmin : (if m < n then (m : Int) else (n : Int)) = (l : Int) := by split <;> omega
    have hlc : l < cut := by omega
    have d0 : decide (l < cut) = true := decide_eq_true hlc
    have HS := Lib.hid (school_any A B n m c d a b w hA hB la lb (by omega) (by omega))
    clear hA hB ih hl hlt
    go_enter Tryd.func63, Tryd.ntmps63
    go_wp2_with fail
    refine HS.out.mono ?_
    rintro e w1 ⟨A1, n1, c1, rfl, h1, b1⟩
    go_wp2
    go_ret
    exact ⟨A1, n1, c1, rfl, h1, b1⟩
  · have ha : a.length = n := hA.1
    have hb : b.length = m := hB.1
    obtain ⟨l, hl⟩ : ∃ l, min n m = l := ⟨_, rfl⟩
    have hmin : (if m < n then (m : Int) else (n : Int)) = (l : Int) := by split <;> omega
    have hlc : cut ≤ l := by omega
    have d0 : decide (l < cut) = false := decide_eq_false (by omega)
    obtain ⟨L, hL⟩ : ∃ L, max n m = L := ⟨_, rfl⟩
    have hmax : (if n < m then (m : Int) else (n : Int)) = (L : Int) := by split <;> omega
    obtain ⟨S, hS⟩ : ∃ S, (L + 1) / 2 = S := ⟨_, rfl⟩
    have hSi : ((L : Int) + 1) / 2 = (S : Int) := by omega
    have hs1 : S + 1 < N ∧ n ≤ 2 * S ∧ m ≤ 2 * S ∧ L ≤ 1000000 ∧ S ≤ 1000000 := by omega
    obtain ⟨q1, q2, q3, q4, q5⟩ := hs1
    have va : val a < W n := by rw [← ha]; exact val_lt la
    have vb : val b < W m := by rw [← hb]; exact val_lt lb
    have ahlt : val a / W S < W S := by
      rw [Nat.div_lt_iff_lt_mul (W_pos S), ← W_add]; exact Nat.lt_of_lt_of_le va (W_le (by omega))
    have bhlt : val b / W S < W S := by
      rw [Nat.div_lt_iff_lt_mul (W_pos S), ← W_add]; exact Nat.lt_of_lt_of_le vb (W_le (by omega))
    have allt : val a % W S < W S := Nat.mod_lt _ (W_pos S)
    have bllt : val b % W S < W S := Nat.mod_lt _ (W_pos S)
    have ea := Nat.div_add_mod (val a) (W S)
    have eb := Nat.div_add_mod (val b) (W S)
    have HHA : Hid (∀ w', Below w.heap.size w w' → Calls Tryd.prog 66 #[.slice A n c, .int .i64 S] w' (Gives (val a / W S) w')) := Lib.hid fun w' h => high_any A n c a S w' (Kd.C_below hA h) la ta (by omega) hc (by omega)
    have HHB : Hid (∀ w', Below w.heap.size w w' → Calls Tryd.prog 66 #[.slice B m d, .int .i64 S] w' (Gives (val b / W S) w')) := Lib.hid fun w' h => high_any B m d b S w' (Kd.C_below hB h) lb tb (by omega) hd (by omega)
    have HLA : Hid (∀ w', Below w.heap.size w w' → Calls Tryd.prog 67 #[.slice A n c, .int .i64 S] w' (Gives (val a % W S) w')) := Lib.hid fun w' h => low_any A n c a S w' (Kd.C_below hA h) la (by omega) hc (by omega)
    have HLB : Hid (∀ w', Below w.heap.size w w' → Calls Tryd.prog 67 #[.slice B m d, .int .i64 S] w' (Gives (val b % W S) w')) := Lib.hid fun w' h => low_any B m d b S w' (Kd.C_below hB h) lb (by omega) hd (by omega)
    have hfin : Hid (val a * val b = val a / W S * (val b / W S) * 2 ^ (64 * S) + ((val a % W S + val a / W S) * (val b % W S + val b / W S) - val a / W S * (val b / W S) - val a % W S * (val b % W S)) * 2 ^ (32 * S) + val a % W S * (val b % W S)) := Lib.hid (by
      have := halves_mul (val a / W S) (val a % W S) (val b / W S) (val b % W S) (W S)
      rw [Nat.mul_comm (val a / W S) (W S), ea, Nat.mul_comm (val b / W S) (W S), eb] at this
      rw [this, W_two, ← Nat.pow_add]
      congr 4
      omega)
    rw [hfin.out]
    generalize val a / W S = ah at *
    generalize val b / W S = bh at *
    generalize val a % W S = al at *
    generalize val b % W S = bl at *
    have IH := Lib.hid ih
    clear hA hB ih hl hlt ha hb hL hS va vb ea eb hfin
    have hp1 : ah * bh < W (S + S) := by rw [W_add]; exact Nat.mul_lt_mul'' ahlt bhlt
    have hp2 : al * bl < W (S + S) := by rw [W_add]; exact Nat.mul_lt_mul'' allt bllt
    have hws : W (S + 1) = 4294967296 * W S := W_succ S
    have hsa : al + ah < W (S + 1) := by omega
    have hsb : bl + bh < W (S + 1) := by omega
    have hp3 : (al + ah) * (bl + bh) < W (S + 1 + (S + 1)) := by rw [W_add]; exact Nat.mul_lt_mul'' hsa hsb
    obtain ⟨hle1, hle2⟩ := halves_le ah al bh bl
    have IHN : Hid (∀ (m : Nat), m < N → ∀ (A B : Option Addr) (n1 n2 c1 c2 x y : Nat) (w : World), Num w A n1 c1 x → Num w B n2 c2 y → n1 ≤ m → n2 ≤ m → m ≤ 1000000 → Calls Tryd.prog 63 #[.slice A n1 c1, .slice B n2 c2, .int .i64 cut] w (Gives (x * y) w)) := Lib.hid fun m hm A B n1 n2 c1 c2 x y w hx hy e1 e2 e3 => by
      have := IH.out m hm A B n1 n2 c1 c2 (ofN x) (ofN y) w hx.out.2 hy.out.2 (lim_ofN _) (top_ofN _) (lim_ofN _) (top_ofN _) hx.out.1 hy.out.1 e1 e2 e3
      rwa [val_ofN, val_ofN] at this
    clear hws IH
    go_enter Tryd.func63, Tryd.ntmps63
    go_wp2_with fail
    refine (HHA.out _ bel).mono ?_
    rintro e w1 ⟨A1, n1, c1, rfl, h1, b1⟩
    go_wp2_with fail
    refine (HHB.out _ bel).mono ?_
    rintro e w2 ⟨A2, n2, c2, rfl, h2, b2⟩
    go_wp2_with fail
    refine (IHN.out S (by omega) _ _ _ _ _ _ _ _ _ (Num.below h1 bel) (Num.below h2 bel) (len_le h1 ahlt) (len_le h2 bhlt) (by omega)).mono ?_
    rintro e w3 ⟨A3, n3, c3, rfl, h3, b3⟩
    have l3 := len_le h3 hp1
    go_wp2_with fail
    refine (HLA.out _ bel).mono ?_
    rintro e w4 ⟨A4, n4, c4, rfl, h4, b4⟩
    go_wp2_with fail
    refine (HLB.out _ bel).mono ?_
    rintro e w5 ⟨A5, n5, c5, rfl, h5, b5⟩
    go_wp2_with fail
    refine (IHN.out S (by omega) _ _ _ _ _ _ _ _ _ (Num.below h4 bel) (Num.below h5 bel) (len_le h4 allt) (len_le h5 bllt) (by omega)).mono ?_
    rintro e w6 ⟨A6, n6, c6, rfl, h6, b6⟩
    have l6 := len_le h6 hp2
    go_wp2_with fail
    refine (HLA.out _ bel).mono ?_
    rintro e w7 ⟨A7, n7, c7, rfl, h7, b7⟩
    have l7 := len_le h7 allt
    go_wp2_with fail
    refine (HHA.out _ bel).mono ?_
    rintro e w8 ⟨A8, n8, c8, rfl, h8, b8⟩
    have l8 := len_le h8 ahlt
    go_wp2_with fail
    refine (add_N (Num.below h7 bel) (Num.below h8 bel) (by omega) (by omega)).mono ?_
    rintro e w9 ⟨A9, n9, c9, rfl, h9, b9⟩
    go_wp2_with fail
    refine (HLB.out _ bel).mono ?_
    rintro e w10 ⟨A10, n10, c10, rfl, h10, b10⟩
    have l10 := len_le h10 bllt
    go_wp2_with fail
    refine (HHB.out _ bel).mono ?_
    rintro e w11 ⟨A11, n11, c11, rfl, h11, b11⟩
    have l11 := len_le h11 bhlt
    go_wp2_with fail
    refine (add_N (Num.below h10 bel) (Num.below h11 bel) (by omega) (by omega)).mono ?_
    rintro e w12 ⟨A12, n12, c12, rfl, h12, b12⟩
    go_wp2_with fail
    refine (IHN.out (S + 1) (by omega) _ _ _ _ _ _ _ _ _ (Num.below h9 bel) (Num.below h12 bel) (len_le h9 hsa) (len_le h12 hsb) (by omega)).mono ?_
    rintro e w13 ⟨A13, n13, c13, rfl, h13, b13⟩
    have l13 := len_le h13 hp3
    go_wp2_with fail
    refine (sub_N (Num.below h13 bel) (Num.below h3 bel) (by omega) hle1).mono ?_
    rintro e w14 ⟨A14, n14, c14, rfl, h14, b14⟩
    have l14 := Num.mono h14 h13 (Nat.sub_le _ _)
    go_wp2_with fail
    refine (sub_N (Num.below h14 bel) (Num.below h6 bel) (by omega) hle2).mono ?_
    rintro e w15 ⟨A15, n15, c15, rfl, h15, b15⟩
    have l15 := Num.mono h15 h14 (Nat.sub_le _ _)
    go_wp2_with fail
    refine (shl_N (64 * S) (Num.below h3 bel) (by omega) (by omega)).mono ?_
    rintro e w16 ⟨A16, n16, c16, rfl, h16, b16⟩
    go_wp2_with fail
    refine (shl_N (32 * S) (Num.below h15 bel) (by omega) (by omega)).mono ?_
    rintro e w17 ⟨A17, n17, c17, rfl, h17, b17⟩
    have p16 : ah * bh * 2 ^ (64 * S) < W (S + S + 2 * S) := by rw [W_add (S + S), W_two (2 * S), show 32 * (2 * S) = 64 * S by omega]; exact Nat.mul_lt_mul_of_pos_right hp1 (Nat.two_pow_pos _)
    have p17 : ((al + ah) * (bl + bh) - ah * bh - al * bl) * 2 ^ (32 * S) < W (S + 1 + (S + 1) + S) := by rw [W_add _ S, W_two S]; exact Nat.mul_lt_mul_of_pos_right (Nat.lt_of_le_of_lt (Nat.le_trans (Nat.sub_le _ _) (Nat.sub_le _ _)) hp3) (Nat.two_pow_pos _)
    have l16 := len_le h16 p16
    have l17 := len_le h17 p17
    go_wp2_with fail
    refine (add_N (Num.below h16 bel) (Num.below h17 bel) (by omega) (by omega)).mono ?_
    rintro e w18 ⟨A18, n18, c18, rfl, h18, b18⟩
    have l18 := len_le h18 (add_ltW p16 p17)
    go_wp2_with fail
    refine (add_N (Num.below h18 bel) (Num.below h6 bel) (by omega) (by omega)).mono ?_
    rintro e w19 ⟨A19, n19, c19, rfl, h19, b19⟩
    go_wp2
    go_ret
    exact ⟨A19, n19, c19, rfl, h19, bel⟩

set_option maxHeartbeats 1000000 in
theorem mul_N {A B : Option Addr} {n m c d x y : Nat} {w : World} (h : Num w A n c x) (k : Num w B m d y) (hn : n ≤ 1000000) (hm : m ≤ 1000000) : Calls Tryd.prog 52 #[.slice A n c, .slice B m d] w (Gives (x * y) w) := by
  have H := Lib.hid fun w' (hb : Below w.heap.size w w') => karat_any 32 (by decide) (by decide) 1000000 A B n m c d (ofN x) (ofN y) w' (Num.below h hb).out.2 (Num.below k hb).out.2 (lim_ofN _) (top_ofN _) (lim_ofN _) (top_ofN _) h.out.1 k.out.1 hn hm (Nat.le_refl _)
  rw [val_ofN, val_ofN] at H
  clear h k hn hm
  go_enter Tryd.func52, Tryd.ntmps52
  go_wp2_with fail
  refine (H.out _ bel).mono ?_
  rintro e w1 ⟨A1, n1, c1, rfl, h1, b1⟩
  go_wp2
  go_ret
  exact ⟨A1, n1, c1, rfl, h1, bel⟩
end Go.Proofs.YtiplbpfdkcddlaaDoor

set_option linter.unusedSimpArgs false
set_option linter.unusedVariables false
set_option linter.unnecessarySimpa false
namespace Go.Proofs.YtiplbpfdkcddlaaDoor
open Go.RowKit Go.Proofs.YtiplbpfdkcddlaaDoorW.PrintWords Go.Proofs.YtiplbpfdkcddlaaDoorW.PrintLast Go.Proofs.YtiplbpfdkcddlaaDoorW.PrintMore Go.Proofs.YtiplbpfdkcddlaaDoor.NL
set_option maxRecDepth 100000

instance (a : List Int) : Decidable (Top a) := inferInstanceAs (Decidable (_ ≠ _))
/-- A valid number. -/
def okN (a : List Int) : Bool := decide (a.length ≤ 1024 ∧ Top a)
theorem okN_iff {a : List Int} : okN a = true ↔ a.length ≤ 1024 ∧ Top a := by simp [okN]
theorem top_snoc {a : List Int} {j : Nat} (h : a.length = j + 1) : Top a ↔ a.getD j 0 ≠ 0 := by
  unfold Top
  rw [List.getLast?_eq_getElem?, h, Nat.add_sub_cancel, List.getD_eq_getElem?_getD, List.getElem?_eq_getElem (by omega)]
  simp
theorem okN_nil : okN [] = true := by decide
theorem ofN_ok {N : Nat} (h : (ofN N).length ≤ 1024) : okN (ofN N) = true := okN_iff.2 ⟨h, top_ofN N⟩

set_option maxHeartbeats 1000000 in
theorem valid_any (A : Option Addr) (n c : Nat) (a : List Int) (w : World) (hA : Kd.C (Kd.int .u32) w A n a) (la : Lim a) :
    Calls Tryd.prog 26 #[.slice A n c] w fun e w' => e = .returned (.bool (okN a)) ∧ w = w' := by
  have hl : a.length = n := hA.1
  by_cases h1 : n ≤ 1024
  · rcases Nat.eq_zero_or_pos n with h0 | h0
    · subst h0
      have : a = [] := List.eq_nil_of_length_eq_zero hl
      subst this
      rw [okN_nil]
      clear hA hl
      go_enter Tryd.func26, Tryd.ntmps26
      go_wp2
      go_ret
      exact ⟨rfl, rfl⟩
    · obtain ⟨j, rfl⟩ : ∃ j, n = j + 1 := ⟨n - 1, by omega⟩
      obtain ⟨b, off, rfl, hlt, hcs⟩ := open_C hA (by omega)
      have hcell := hcs j (by omega)
      have hv : okN a = decide (a.getD j 0 ≠ 0) := by
        unfold okN
        rw [hl]
        simp only [top_snoc hl, h1, true_and]
      obtain ⟨x0, x1⟩ := lim_getD la j
      clear hcs hA
      have HL := Lib.hid hl
      generalize a.getD j 0 = x at *
      have t0 : (((j : Int) + 1) == 0) = false := by simp; omega
      have hj1 : ((j : Int) + 1 - 1) = (j : Int) := by omega
      rw [hv]
      clear hv hl
      by_cases hx : x = 0
      · subst hx
        go_enter Tryd.func26, Tryd.ntmps26
        go_wp2
        go_ret
        exact ⟨rfl, rfl⟩
      · have t1 : (x == 0) = false := by simpa using hx
        have t2 : (x != 0) = true := by simpa using hx
        have hdx : decide (x ≠ 0) = true := decide_eq_true hx
        rw [hdx]
        clear hx hdx
        go_enter Tryd.func26, Tryd.ntmps26
        go_wp2
        go_ret
        exact ⟨rfl, rfl⟩
  · have hv : okN a = false := by unfold okN; rw [hl]; simp [h1]
    rw [hv]
    have d0 : decide (n ≤ 1024) = false := decide_eq_false h1
    clear hA hv hl
    go_enter Tryd.func26, Tryd.ntmps26
    go_wp2
    go_ret
    exact ⟨rfl, rfl⟩

abbrev natFail (e : Int) : List PanicEntry := [{ v := .iface 108 (.agg #[.int .i64 e]), recovered := false }]
set_option maxHeartbeats 400000 in
theorem nneed_true (e : Int) (w : World) :
    Calls Tryd.prog 56 #[.bool true, .int .i64 e] w fun r w' => r = .returned (.tuple #[]) ∧ w = w' := by
  go_enter Tryd.func56, Tryd.ntmps56
  go_wp2
  go_end0
  exact ⟨rfl, rfl⟩
set_option maxHeartbeats 400000 in
theorem nneed_false (e : Int) (w : World) :
    Calls Tryd.prog 56 #[.bool false, .int .i64 e] w fun r w' => r = .panicked (natFail e) ∧ w = w' := by
  go_enter Tryd.func56, Tryd.ntmps56
  go_wp2
  exact ⟨rfl, rfl, rfl⟩

set_option maxRecDepth 100000 in
set_option maxHeartbeats 1000000 in
theorem ncaught_panic (p : Nat) (e e0 : Int) (older : List PanicEntry) (w : World) (hp : One w p 25 (.int .i64 e0)) :
    CallsD Tryd.prog 47 #[.pointer (some ⟨p, 0, none⟩)] (.panicking ({ v := .iface 108 (.agg #[.int .i64 e]), recovered := false } :: older)) w fun r u' w' =>
      r = .returned (.tuple #[]) ∧ u' = .panicking ({ v := .iface 108 (.agg #[.int .i64 e]), recovered := true } :: older) ∧
      Chg w w' (fun k => k = p) ∧ One w' p 25 (.int .i64 e) := by
  have c1 := blk_cell hp 0
  have f1 := blk_frozen hp 0
  simp only [List.getElem?_toArray, List.getElem?_cons_zero] at c1
  have hltp := blk_lt hp
  have hta : ∀ w, (Instr.typeAssert (.iface 108 (.agg #[.int .i64 e])) 20 108 true).run Tryd.prog w = .ok (.tuple #[.agg #[.int .i64 e], .bool true]) w := fun _ => by kernel_rfl
  have HP := Lib.hid hp
  clear hp
  refine callsD_of_wpS Tryd.func47 rfl fun c₀ cs hu => ?_
  apply wpS_seq
  apply wpS_region
  simp [wpOpsS, go_sem, recoverD, hu, Tryd.ntmps47, Exit.thenS]
  simp only [List.size_toArray, List.length_cons, List.length_nil, Nat.reduceAdd, Nat.reduceSub, Array.replicate_succ, Array.replicate_zero, List.push_toArray, List.append_toArray, List.nil_append, List.cons_append, List.setIfInBounds_toArray, List.set_cons_zero, List.set_cons_succ]
  refine wpS_of_wp ?_
  have HU := Lib.hid hu
  clear hu
  generalize hcs : (({ fn := c₀.fn, tmps := c₀.tmps, todo := c₀.todo, defers := c₀.defers, mode := FrameMode.panicking ({ v := Value.iface 108 (Value.agg #[Value.int IntKind.i64 e]), recovered := true } :: older), kind := c₀.kind, roundOf := c₀.roundOf } : Frame) :: cs) = cs1
  have HCS := Lib.hid hcs
  clear hcs
  go_wp2
  try go_region
  refine ⟨rfl, _, HCS.out.symm, .tuple #[], by simp [results, Tryd.results47], rfl, rfl, ?_, ?_⟩
  · refine ⟨rfl, rfl, rfl, by simp [World.setCell], fun k hk hn => ?_⟩
    first
      | (show ((w.setCell ⟨p, 0, none⟩ (.int .i64 e)).alloc _).heap[k]? = _; rw [Below.heap_alloc _ _ _ (by simpa [World.setCell] using hk), Below.heap_setCell _ _ _ _ (fun h => hn h)])
      | (show ((w.alloc _).setCell ⟨p, 0, none⟩ (.int .i64 e)).heap[k]? = _; rw [Below.heap_setCell _ _ _ _ (fun h => hn h), Below.heap_alloc _ _ _ hk])
  · first
      | exact blk_alloc (blk_put HP.out 0 _ rfl) _
      | exact blk_put (blk_alloc HP.out _) 0 _ rfl
      | exact blk_drew (blk_alloc (blk_put HP.out 0 _ rfl) _)

theorem ncaught_idle (p : Nat) (w : World) : CallsD Tryd.prog 47 #[.pointer (some ⟨p, 0, none⟩)] .returning w fun r u' w' => r = .returned (.tuple #[]) ∧ u' = .returning ∧ w = w' := by
  refine callsD_of_wpS Tryd.func47 rfl fun c₀ cs hu => ?_
  apply wpS_seq
  apply wpS_region
  simp [wpOpsS, go_sem, recoverD, hu, Tryd.ntmps47, Exit.thenS]
  simp only [List.size_toArray, List.length_cons, List.length_nil, Nat.reduceAdd, Nat.reduceSub, Array.replicate_succ, Array.replicate_zero, List.push_toArray, List.append_toArray, List.nil_append, List.cons_append, List.setIfInBounds_toArray, List.set_cons_zero, List.set_cons_succ]
  refine wpS_of_wp ?_
  have HU := Lib.hid hu
  clear hu
  go_wp2
  refine ⟨rfl, .returning, ?_, .tuple #[], by simp [results, Tryd.results47], rfl, rfl, rfl⟩
  have hu := HU.out
  cases c₀
  simp_all

set_option maxHeartbeats 1000000 in
theorem bad_any (A : Option Addr) (n c : Nat) (b : Bool) (w : World) (h : Calls Tryd.prog 26 #[.slice A n c] w fun e w' => e = .returned (.bool b) ∧ w = w') :
    Calls Tryd.prog 58 #[.slice A n c] w fun e w' => e = .returned (.bool (!b)) ∧ w = w' := by
  have H := Lib.hid h
  clear h
  go_enter Tryd.func58, Tryd.ntmps58
  go_wp2_with fail
  refine H.out.mono ?_
  rintro e w1 ⟨rfl, rfl⟩
  go_wp2
  go_ret
  exact ⟨rfl, rfl⟩

/-- How many of the first ones are good. -/
def firstBad (ok : Nat → Bool) : Nat → Nat → Option Nat
  | 0, _ => none
  | k + 1, i => if ok i then firstBad ok k (i + 1) else some i
def idxOf : Option Nat → Int
  | none => -1
  | some i => i
theorem firstBad_none {ok : Nat → Bool} : ∀ {k i : Nat}, firstBad ok k i = none ↔ ∀ j, i ≤ j → j < i + k → ok j = true
  | 0, i => by simp [firstBad]; omega
  | k + 1, i => by
    rw [firstBad]
    split
    · rename_i h
      rw [firstBad_none]
      constructor
      · intro h2 j h3 h4
        by_cases e : j = i
        · rw [e]; exact h
        · exact h2 j (by omega) (by omega)
      · intro h2 j h3 h4; exact h2 j (by omega) (by omega)
    · rename_i h
      constructor
      · intro h2; cases h2
      · intro h2; exact absurd (h2 i (Nat.le_refl _) (by omega)) h

set_option maxHeartbeats 2000000 in
theorem index_any (g n c : Nat) (sa : Nat → Option Addr) (sn sc : Nat → Nat) (ok : Nat → Bool) (w : World) (hn : n ≤ 1000) (hcell : ∀ j, j < n → w.cell? ⟨g, j, none⟩ = some (.slice (sa j) (sn j) (sc j)))
    (hv : ∀ j, j < n → Calls Tryd.prog 26 #[.slice (sa j) (sn j) (sc j)] w fun e w' => e = .returned (.bool (ok j)) ∧ w = w') :
    Calls Tryd.prog 71 #[.slice (some ⟨g, 0, none⟩) n c, .func (.func 58) #[] #[]] w fun e w' => e = .returned (.int .i64 (idxOf (firstBad ok n 0))) ∧ w = w' := by
  have HC := Lib.hid hcell
  have HV := Lib.hid hv
  clear hcell hv
  go_enter Tryd.func71, Tryd.ntmps71
  go_wp2
  go_loop [8] (fun vi => ∃ k : Nat, k ≤ n ∧ vi = .int .i64 k ∧ firstBad ok n 0 = firstBad ok (n - k) k) (fun vi => n - (intOf vi).toNat)
  case atStart => exact ⟨0, by omega, rfl, rfl⟩
  case round =>
    obtain ⟨k, hk, rfl, hf⟩ := hrel
    have HF := Lib.hid hf
    clear hf
    by_cases hlt : k < n
    · have hcell := HC.out k hlt
      have HB := Lib.hid (bad_any _ _ _ _ _ (HV.out k hlt))
      generalize sa k = A1 at *
      generalize sn k = n1 at *
      generalize sc k = c1 at *
      have HF2 : Hid (firstBad ok n 0 = if ok k then firstBad ok (n - (k + 1)) (k + 1) else some k) := Lib.hid (by rw [HF.out, show n - k = (n - (k + 1)) + 1 by omega, firstBad])
      by_cases hok : ok k = true
      · have HB2 : Hid (Calls Tryd.prog 58 #[.slice A1 n1 c1] w fun e w' => e = .returned (.bool false) ∧ w = w') := Lib.hid (by have := HB.out; rw [hok] at this; exact this)
        have HF3 : Hid (firstBad ok n 0 = firstBad ok (n - (k + 1)) (k + 1)) := Lib.hid (by rw [HF2.out, if_pos hok])
        clear HB hok
        go_wp2_with fail
        refine HB2.out.mono ?_
        rintro e w1 ⟨rfl, rfl⟩
        go_wp2
        go_round
        case rel => exact ⟨k + 1, by omega, by simp, HF3.out⟩
        case measure => simp [intOf]; omega
      · have hok2 : ok k = false := by simpa using hok
        have HB2 : Hid (Calls Tryd.prog 58 #[.slice A1 n1 c1] w fun e w' => e = .returned (.bool true) ∧ w = w') := Lib.hid (by have := HB.out; rw [hok2] at this; exact this)
        have HF3 : Hid (firstBad ok n 0 = some k) := Lib.hid (by rw [HF2.out, if_neg hok])
        clear HB hok hok2
        go_wp2_with fail
        refine HB2.out.mono ?_
        rintro e w1 ⟨rfl, rfl⟩
        go_wp2
        go_ret
        exact ⟨by rw [HF3.out]; rfl, rfl⟩
    · obtain rfl : k = n := by omega
      go_wp2
      go_ret
      exact ⟨by rw [HF.out, Nat.sub_self]; rfl, rfl⟩

set_option maxHeartbeats 1000000 in
theorem contains_any (g n c : Nat) (z : Int) (w : World) (h : Calls Tryd.prog 71 #[.slice (some ⟨g, 0, none⟩) n c, .func (.func 58) #[] #[]] w fun e w' => e = .returned (.int .i64 z) ∧ w = w') :
    Calls Tryd.prog 57 #[.slice (some ⟨g, 0, none⟩) n c, .func (.func 58) #[] #[]] w fun e w' => e = .returned (.bool (decide (0 ≤ z))) ∧ w = w' := by
  have H := Lib.hid h
  clear h
  go_enter Tryd.func57, Tryd.ntmps57
  go_wp2_with fail
  refine H.out.mono ?_
  rintro e w1 ⟨rfl, rfl⟩
  go_wp2
  go_ret
  exact ⟨rfl, rfl⟩

def TakenP (b : Bool) (w : World) (e : Ending) (w' : World) : Prop := w = w' ∧ e = if b then .returned (.tuple #[]) else .panicked (natFail 1)
set_option maxHeartbeats 1000000 in
theorem taken_any (g n c : Nat) (sa : Nat → Option Addr) (sn sc : Nat → Nat) (ok : Nat → Bool) (b : Bool) (hb : b = true ↔ ∀ j, j < n → ok j = true) (w : World) (hn : n ≤ 1000) (hcell : ∀ j, j < n → w.cell? ⟨g, j, none⟩ = some (.slice (sa j) (sn j) (sc j)))
    (hv : ∀ j, j < n → Calls Tryd.prog 26 #[.slice (sa j) (sn j) (sc j)] w fun e w' => e = .returned (.bool (ok j)) ∧ w = w') :
    Calls Tryd.prog 48 #[.slice (some ⟨g, 0, none⟩) n c] w (TakenP b w) := by
  have h1 := contains_any g n c _ w (index_any g n c sa sn sc ok w hn hcell hv)
  have h2 : decide (0 ≤ idxOf (firstBad ok n 0)) = !b := by
    cases b with
    | true =>
      have : firstBad ok n 0 = none := firstBad_none.2 (fun j _ h => hb.1 rfl j (by omega))
      rw [this]; rfl
    | false =>
      cases hf : firstBad ok n 0 with
      | none => exact absurd (hb.2 (fun j h => firstBad_none.1 hf j (by omega) (by omega))) (by simp)
      | some i => simp [idxOf]
  rw [h2] at h1
  have H := Lib.hid h1
  clear h1 h2 hb hcell hv
  cases b with
  | true =>
    go_enter Tryd.func48, Tryd.ntmps48
    go_wp2_with fail
    refine H.out.mono ?_
    rintro e w1 ⟨rfl, rfl⟩
    go_wp2_with (go_at_call 56; (with_reducible refine (nneed_true _ _).mono ?_); rintro e w1 ⟨rfl, rfl⟩)
    go_end0
    exact ⟨rfl, rfl⟩
  | false =>
    go_enter Tryd.func48, Tryd.ntmps48
    go_wp2_with fail
    refine H.out.mono ?_
    rintro e w1 ⟨rfl, rfl⟩
    go_wp2_with (go_at_call 56; (with_reducible refine (nneed_false _ _).mono ?_); rintro e w1 ⟨rfl, rfl⟩)
    exact ⟨rfl, rfl, rfl⟩
end Go.Proofs.YtiplbpfdkcddlaaDoor
