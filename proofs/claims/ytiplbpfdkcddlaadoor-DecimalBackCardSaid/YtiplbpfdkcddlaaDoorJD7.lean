/- nat: the public functions: Add, Sub, Mul, Shl, Shr, Cmp, Bits, Zeros, FromUint, ToUint. nat: Cmp, FromUint, ToUint. nat.Pow of ten: powers of 10. Words of 128 bits as numbers: shifts. decimal: words of 128 bits, as numbers. -/
import Derived.Test.YtiplbpfdkcddlaaDoorJD6
import Derived.Test.YtiplbpfdkcddlaaDoorJD4
import Derived.Laws.EntriesVeiled
import Derived.Laws.BitsAllLaws
import Derived.WalkKit
set_option linter.unusedSimpArgs false
set_option linter.unusedVariables false
set_option linter.unnecessarySimpa false
namespace Go.Proofs.YtiplbpfdkcddlaaDoor
open Go.RowKit Go.Proofs.YtiplbpfdkcddlaaDoorW.PrintWords Go.Proofs.YtiplbpfdkcddlaaDoorW.PrintLast Go.Proofs.YtiplbpfdkcddlaaDoorW.PrintMore Go.Proofs.YtiplbpfdkcddlaaDoor.NL
set_option maxRecDepth 100000

/-- What an operation leads to: an error, or a number. -/
def numOut (o : Int × Nat) : List Int × Int := if o.1 = 0 then (if (ofN o.2).length ≤ 1024 then (ofN o.2, 0) else ([], 2)) else ([], o.1)
def numRes (ok : Bool) (o : Int × Nat) : List Int × Int := if ok then numOut o else ([], 1)
def OpP (o : Int × Nat) (w : World) (e : Ending) (w' : World) : Prop := if o.1 = 0 then Gives o.2 w e w' else e = .panicked (natFail o.1) ∧ Below w.heap.size w w'
theorem multiplied_any (f : Nat) {A B : Option Addr} {n m c d : Nat} {a b : List Int} (w : World) (o : Int × Nat) (hA : Kd.C (Kd.int .u32) w A n a) (hB : Kd.C (Kd.int .u32) w B m b) (la : Lim a) (lb : Lim b)
    (hf : okN a = true → okN b = true → ∀ w', Below w.heap.size w w' → Calls Tryd.prog f #[.slice A n c, .slice B m d] w' (OpP o w')) (ef : ∀ args w, (callFunc f args).run Tryd.prog w = .ok (.enter f args) w) :
    Calls Tryd.prog 51 #[.slice A n c, .slice B m d, .agg #[.func (.func f) #[] #[], .nilFunc]] w (NumErr (numRes (okN a && okN b) o).1 (numRes (okN a && okN b) o).2 w) := by
  cases hok : okN a && okN b with
  | false => exact multiplied_bad f w hA hB la lb hok ef
  | true =>
    have hok2 := hok
    simp only [Bool.and_eq_true] at hok2
    have hf2 := hf hok2.1 hok2.2
    simp only [numRes, if_true, numOut]
    by_cases h0 : o.1 = 0
    · rw [if_pos h0]
      have hf3 : ∀ w', Below w.heap.size w w' → Calls Tryd.prog f #[.slice A n c, .slice B m d] w' (Gives o.2 w') := fun w' hb => (hf2 w' hb).mono fun e w'' h => by
        unfold OpP at h
        rwa [if_pos h0] at h
      by_cases h1 : (ofN o.2).length ≤ 1024
      · rw [if_pos h1]; exact multiplied_ok f w hA hB la lb hok hf3 h1 ef
      · rw [if_neg h1]; exact multiplied_limit f w hA hB la lb hok hf3 (by omega) ef
    · rw [if_neg h0]
      exact multiplied_fail f w hA hB la lb o.1 hok (fun w' hb => (hf2 w' hb).mono fun e w'' h => by
        unfold OpP at h
        rwa [if_neg h0] at h) ef
theorem ok_num {w w' : World} {A : Option Addr} {n c : Nat} {a : List Int} (h : Kd.C (Kd.int .u32) w A n a) (la : Lim a) (hc : n ≤ c) (ha : okN a = true) (hb : Below w.heap.size w w') : Num w' A n c (val a) ∧ n ≤ 1024 := by
  obtain ⟨h1, h2⟩ := okN_iff.1 ha
  have : a.length = n := h.1
  exact ⟨Num.below (num_of h la h2 hc) hb, by omega⟩

def natAdd (a b : List Int) : List Int × Int := numRes (okN a && okN b) (0, val a + val b)
set_option maxHeartbeats 1000000 in
theorem nAdd_any {A B : Option Addr} {n m c d : Nat} {a b : List Int} (w : World) (hA : Kd.C (Kd.int .u32) w A n a) (hB : Kd.C (Kd.int .u32) w B m b) (la : Lim a) (lb : Lim b) (hc : n ≤ c) (hd : m ≤ d) :
    Calls Tryd.prog 105 #[.slice A n c, .slice B m d] w (NumErr (natAdd a b).1 (natAdd a b).2 w) := by
  have H : Hid (∀ w', Below w.heap.size w w' → Calls Tryd.prog 51 #[.slice A n c, .slice B m d, .agg #[.func (.func 69) #[] #[], .nilFunc]] w' (NumErr (natAdd a b).1 (natAdd a b).2 w')) := Lib.hid fun w' hb =>
    multiplied_any 69 w' (0, val a + val b) (Kd.C_below hA hb) (Kd.C_below hB hb) la lb (fun ha hb2 w2 h2 => by
      obtain ⟨h1, l1⟩ := ok_num hA la hc ha (below_step hb h2)
      obtain ⟨h3, l3⟩ := ok_num hB lb hd hb2 (below_step hb h2)
      exact add_N h1 h3 (by omega) (by omega)) (enters_of Tryd.func69 (by kernel_rfl) rfl)
  generalize natAdd a b = r at *
  clear hA hB
  go_enter Tryd.func105, Tryd.ntmps105
  go_wp2_with fail
  refine (H.out _ bel).mono ?_
  rintro e w1 ⟨v1, rfl, hv1, hb1⟩
  obtain ⟨A1, c1, rfl⟩ := Kd.R_slice hv1
  have HV := Lib.hid hv1
  clear hv1
  go_wp2
  go_ret2
  exact ⟨_, rfl, HV.out, hb1⟩

def natMul (a b : List Int) : List Int × Int := numRes (okN a && okN b) (0, val a * val b)
set_option maxHeartbeats 1000000 in
theorem nMul_any {A B : Option Addr} {n m c d : Nat} {a b : List Int} (w : World) (hA : Kd.C (Kd.int .u32) w A n a) (hB : Kd.C (Kd.int .u32) w B m b) (la : Lim a) (lb : Lim b) (hc : n ≤ c) (hd : m ≤ d) :
    Calls Tryd.prog 36 #[.slice A n c, .slice B m d] w (NumErr (natMul a b).1 (natMul a b).2 w) := by
  have H : Hid (∀ w', Below w.heap.size w w' → Calls Tryd.prog 51 #[.slice A n c, .slice B m d, .agg #[.func (.func 52) #[] #[], .nilFunc]] w' (NumErr (natMul a b).1 (natMul a b).2 w')) := Lib.hid fun w' hb =>
    multiplied_any 52 w' (0, val a * val b) (Kd.C_below hA hb) (Kd.C_below hB hb) la lb (fun ha hb2 w2 h2 => by
      obtain ⟨h1, l1⟩ := ok_num hA la hc ha (below_step hb h2)
      obtain ⟨h3, l3⟩ := ok_num hB lb hd hb2 (below_step hb h2)
      exact mul_N h1 h3 (by omega) (by omega)) (enters_of Tryd.func52 (by kernel_rfl) rfl)
  generalize natMul a b = r at *
  clear hA hB
  go_enter Tryd.func36, Tryd.ntmps36
  go_wp2_with fail
  refine (H.out _ bel).mono ?_
  rintro e w1 ⟨v1, rfl, hv1, hb1⟩
  obtain ⟨A1, c1, rfl⟩ := Kd.R_slice hv1
  have HV := Lib.hid hv1
  clear hv1
  go_wp2
  go_ret2
  exact ⟨_, rfl, HV.out, hb1⟩

theorem cmp_N {A B : Option Addr} {n m c d x y : Nat} {w : World} (h : Num w A n c x) (k : Num w B m d y) (hn : n ≤ 1000000000) : Calls Tryd.prog 49 #[.slice A n c, .slice B m d] w fun e w' => e = .returned (.int .i64 (cmpN x y)) ∧ Below w.heap.size w w' := by
  have := cmp_any A B n m c d _ _ w h.out.2 k.out.2 (by omega) (lim_ofN _) (lim_ofN _)
  rw [show cmpS (ofN x) (ofN y) = cmpN x y by
    unfold cmpS
    rw [val_ofN, val_ofN]
    rcases Nat.lt_trichotomy x y with h | h | h
    · have := len_mono (Nat.le_of_lt h)
      have e : cmpN x y = -1 := by unfold cmpN; rw [if_pos h]
      rw [e, if_neg (by omega : ¬ (ofN y).length < (ofN x).length)]; split <;> rfl
    · subst h; simp [cmpN]
    · have := len_mono (Nat.le_of_lt h)
      have e : cmpN x y = 1 := by unfold cmpN; rw [if_neg (by omega), if_pos h]
      rw [e, if_neg (by omega : ¬ (ofN x).length < (ofN y).length)]; split <;> rfl] at this
  exact this
def subO (x y : Nat) : Int × Nat := if x < y then (3, 0) else (0, x - y)
set_option maxHeartbeats 1000000 in
theorem sub1_N {A B : Option Addr} {n m c d x y : Nat} {w : World} (h : Num w A n c x) (k : Num w B m d y) (hn : n ≤ 1000000000) : Calls Tryd.prog 118 #[.slice A n c, .slice B m d] w (OpP (subO x y) w) := by
  have HC : Hid (∀ w', Below w.heap.size w w' → Calls Tryd.prog 49 #[.slice A n c, .slice B m d] w' fun e w'' => e = .returned (.int .i64 (cmpN x y)) ∧ Below w'.heap.size w' w'') := Lib.hid fun w' hb => cmp_N (Num.below h hb) (Num.below k hb) hn
  by_cases hlt : x < y
  · have hz : cmpN x y = -1 := by simp [cmpN, hlt]
    rw [hz] at HC
    have ho : subO x y = (3, 0) := if_pos hlt
    rw [ho]
    clear h k hz ho
    go_enter Tryd.func118, Tryd.ntmps118
    go_wp2_with fail
    refine (HC.out _ bel).mono ?_
    rintro e w1 ⟨rfl, hb1⟩
    go_wp2_with (go_at_call 56; (with_reducible refine (nneed_false _ _).mono ?_); rintro e w2 ⟨rfl, rfl⟩)
    exact ⟨rfl, rfl, hb1⟩
  · have hz : 0 ≤ cmpN x y := by unfold cmpN; split <;> first | omega | (split <;> omega)
    generalize cmpN x y = z at *
    have HS : Hid (∀ w', Below w.heap.size w w' → Calls Tryd.prog 77 #[.slice A n c, .slice B m d] w' (Gives (x - y) w')) := Lib.hid fun w' hb => sub_N (Num.below h hb) (Num.below k hb) hn (by omega)
    have ho : subO x y = (0, x - y) := if_neg hlt
    rw [ho]
    have d0 : decide (0 ≤ z) = true := decide_eq_true hz
    clear h k ho
    go_enter Tryd.func118, Tryd.ntmps118
    go_wp2_with fail
    refine (HC.out _ bel).mono ?_
    rintro e w1 ⟨rfl, hb1⟩
    go_wp2_with (go_at_call 56; (with_reducible refine (nneed_true _ _).mono ?_); rintro e w2 ⟨rfl, rfl⟩)
    refine (HS.out _ bel).mono ?_
    rintro e w2 ⟨A1, n1, c1, rfl, h1, b1⟩
    go_wp2
    go_ret
    exact ⟨A1, n1, c1, rfl, h1, bel⟩

def natSub (a b : List Int) : List Int × Int := numRes (okN a && okN b) (subO (val a) (val b))
set_option maxHeartbeats 1000000 in
theorem nSub_any {A B : Option Addr} {n m c d : Nat} {a b : List Int} (w : World) (hA : Kd.C (Kd.int .u32) w A n a) (hB : Kd.C (Kd.int .u32) w B m b) (la : Lim a) (lb : Lim b) (hc : n ≤ c) (hd : m ≤ d) :
    Calls Tryd.prog 117 #[.slice A n c, .slice B m d] w (NumErr (natSub a b).1 (natSub a b).2 w) := by
  have H : Hid (∀ w', Below w.heap.size w w' → Calls Tryd.prog 51 #[.slice A n c, .slice B m d, .agg #[.func (.func 118) #[] #[], .nilFunc]] w' (NumErr (natSub a b).1 (natSub a b).2 w')) := Lib.hid fun w' hb =>
    multiplied_any 118 w' (subO (val a) (val b)) (Kd.C_below hA hb) (Kd.C_below hB hb) la lb (fun ha hb2 w2 h2 => by
      obtain ⟨h1, l1⟩ := ok_num hA la hc ha (below_step hb h2)
      obtain ⟨h3, l3⟩ := ok_num hB lb hd hb2 (below_step hb h2)
      exact sub1_N h1 h3 (by omega)) (enters_of Tryd.func118 (by kernel_rfl) rfl)
  generalize natSub a b = r at *
  clear hA hB
  go_enter Tryd.func117, Tryd.ntmps117
  go_wp2_with fail
  refine (H.out _ bel).mono ?_
  rintro e w1 ⟨v1, rfl, hv1, hb1⟩
  obtain ⟨A1, c1, rfl⟩ := Kd.R_slice hv1
  have HV := Lib.hid hv1
  clear hv1
  go_wp2
  go_ret2
  exact ⟨_, rfl, HV.out, hb1⟩
set_option maxHeartbeats 2000000 in
theorem shl_bad {A : Option Addr} {n c : Nat} {a : List Int} (s : Int) (w : World) (hA : Kd.C (Kd.int .u32) w A n a) (la : Lim a) (hok : okN a = false) :
    Calls Tryd.prog 103 #[.slice A n c, .int .i64 s] w (NumErr [] 1 w) := by
  have HT : Hid (∀ (g : Nat) w', Below w.heap.size w w' → BlkIs w' g 32 (· = #[.slice A n c]) → Calls Tryd.prog 48 #[.slice (some ⟨g, 0, none⟩) 1 1] w' (TakenP (okN a) w')) := Lib.hid fun g w' h h0 => one_ok g hA la h h0
  rw [hok] at HT
  clear hA hok
  go_enter_defers Tryd.func103, Tryd.ntmps103
  go_wp2_with fail
  refine (HT.out _ _ bel blk0).mono ?_
  rintro e w1 ⟨rfl, rfl⟩
  go_wp2
  (refine leaves_cons (f := 47) (args := #[.pointer (some ⟨w.heap.size, 0, none⟩)]) (by simp) (by simp [go_sem]) ?_; refine (ncaught_panic (w.heap.size) (1) 0 [] _ (BlkIs.one blk0)).mono ?_; rintro e u' w'' ⟨rfl, rfl, hch, hp⟩; have hp' : BlkIs w'' (w.heap.size) 25 (· = #[.int .i64 (1)]) := ⟨_, hp, rfl⟩)
  exact ⟨.tuple #[.slice none 0 0, .int .i64 1], rresults (rs := [.tmp 4, .cell 5 25]) rfl (by simp) (.tmp rfl (.cell w.heap.size rfl (load_one (t := 25) hp' (by kernel_rfl)) .nil)), NumErr.of_nil (below_chg bel hch (by omega))⟩
set_option maxHeartbeats 2000000 in
theorem shl_neg {A : Option Addr} {n c : Nat} {a : List Int} (s : Int) (w : World) (hA : Kd.C (Kd.int .u32) w A n a) (la : Lim a) (hok : okN a = true) (hs : s < 0) :
    Calls Tryd.prog 103 #[.slice A n c, .int .i64 s] w (NumErr [] 1 w) := by
  have HT : Hid (∀ (g : Nat) w', Below w.heap.size w w' → BlkIs w' g 32 (· = #[.slice A n c]) → Calls Tryd.prog 48 #[.slice (some ⟨g, 0, none⟩) 1 1] w' (TakenP (okN a) w')) := Lib.hid fun g w' h h0 => one_ok g hA la h h0
  rw [hok] at HT
  have d0 : decide (0 ≤ s) = false := decide_eq_false (by omega)
  clear hA hok
  go_enter_defers Tryd.func103, Tryd.ntmps103
  go_wp2_with fail
  refine (HT.out _ _ bel blk0).mono ?_
  rintro e w1 ⟨rfl, rfl⟩
  go_wp2_with (go_at_call 56; (with_reducible refine (nneed_false _ _).mono ?_); rintro e w2 ⟨rfl, rfl⟩)
  (refine leaves_cons (f := 47) (args := #[.pointer (some ⟨w.heap.size, 0, none⟩)]) (by simp) (by simp [go_sem]) ?_; refine (ncaught_panic (w.heap.size) (1) 0 [] _ (BlkIs.one blk0)).mono ?_; rintro e u' w'' ⟨rfl, rfl, hch, hp⟩; have hp' : BlkIs w'' (w.heap.size) 25 (· = #[.int .i64 (1)]) := ⟨_, hp, rfl⟩)
  exact ⟨.tuple #[.slice none 0 0, .int .i64 1], rresults (rs := [.tmp 4, .cell 5 25]) rfl (by simp) (.tmp rfl (.cell w.heap.size rfl (load_one (t := 25) hp' (by kernel_rfl)) .nil)), NumErr.of_nil (below_chg bel hch (by omega))⟩
set_option maxHeartbeats 2000000 in
theorem shl_ok {A : Option Addr} {n c : Nat} {a : List Int} (s : Int) (w : World) (hA : Kd.C (Kd.int .u32) w A n a) (la : Lim a) (hc : n ≤ c) (hok : okN a = true) (hs : 0 ≤ s) (hl : 0 < n) (h3 : s ≤ 32768) (hN : (ofN (val a * 2 ^ s.toNat)).length ≤ 1024) :
    Calls Tryd.prog 103 #[.slice A n c, .int .i64 s] w (NumErr (ofN (val a * 2 ^ s.toNat)) 0 w) := by
  have HT : Hid (∀ (g : Nat) w', Below w.heap.size w w' → BlkIs w' g 32 (· = #[.slice A n c]) → Calls Tryd.prog 48 #[.slice (some ⟨g, 0, none⟩) 1 1] w' (TakenP (okN a) w')) := Lib.hid fun g w' h h0 => one_ok g hA la h h0
  rw [hok] at HT
  have d0 : decide (0 ≤ s) = true := decide_eq_true hs
  have t0 : ((n : Int) == 0) = false := by simp; omega
  have d1 : decide (s ≤ 32768) = true := decide_eq_true h3
  obtain ⟨k, rfl⟩ := Int.eq_ofNat_of_zero_le hs
  obtain ⟨N, hNN⟩ : ∃ N, val a * 2 ^ k = N := ⟨_, rfl⟩
  have HF : Hid (∀ w', Below w.heap.size w w' → Calls Tryd.prog 65 #[.slice A n c, .int .i64 (k : Int)] w' (Gives N w')) := Lib.hid fun w' hb => by
    obtain ⟨h1, l1⟩ := ok_num hA la hc hok hb
    rw [← hNN]; exact shl_N k h1 (by omega) (by omega)
  simp only [Int.toNat_natCast, hNN] at hN ⊢
  clear hA hok hNN
  go_enter_defers Tryd.func103, Tryd.ntmps103
  go_wp2_with fail
  refine (HT.out _ _ bel blk0).mono ?_
  rintro e w1 ⟨rfl, rfl⟩
  go_wp2_with (go_at_call 56; (with_reducible refine (nneed_true _ _).mono ?_); rintro e w2 ⟨rfl, rfl⟩)
  refine (HF.out _ bel).mono ?_
  rintro e w1 ⟨A1, n1, c1, rfl, h1, b1⟩
  rw [Num.len h1] at hN
  obtain ⟨hc1, hf1⟩ := bcell b1
  have hz1 := below_size b1
  simp at hz1
  have z0 : w.heap.size < w1.heap.size := by omega
  go_wp2_with fail
  refine (given_ok h1 hN).mono ?_
  rintro e w2 ⟨v2, rfl, hv2, b2⟩
  obtain ⟨A2, c2, rfl⟩ := Kd.R_slice hv2
  have HV := Lib.hid hv2
  clear hv2
  obtain ⟨hc2, hf2⟩ := bcell b2
  have hz2 := below_size b2
  have y0 : w.heap.size < w2.heap.size := by omega
  go_wp2
  (refine leaves_cons (f := 47) (args := #[.pointer (some ⟨w.heap.size, 0, none⟩)]) (by simp) (by simp [go_sem]) ?_; refine (ncaught_idle _ _).mono ?_; rintro e u' w'' ⟨rfl, rfl, rfl⟩)
  exact ⟨.tuple #[.slice A2 (ofN N).length c2, .int .i64 0], rresults (rs := [.tmp 4, .cell 5 25]) rfl (by simp) (.tmp rfl (.cell w.heap.size rfl (load_one (t := 25) blk0 (by kernel_rfl)) .nil)), ⟨_, rfl, Kd.R_set (Kd.R_lower HV.out (by omega)) (cells := #[.int .i64 0]) (t := 25) (BlkIs.one blk0) (by decide) 0 _, bel⟩⟩
set_option maxHeartbeats 2000000 in
theorem shl_lim {A : Option Addr} {n c : Nat} {a : List Int} (s : Int) (w : World) (hA : Kd.C (Kd.int .u32) w A n a) (la : Lim a) (hc : n ≤ c) (hok : okN a = true) (hs : 0 ≤ s) (hl : 0 < n) (h3 : s ≤ 32768) (hN : 1024 < (ofN (val a * 2 ^ s.toNat)).length) :
    Calls Tryd.prog 103 #[.slice A n c, .int .i64 s] w (NumErr [] 2 w) := by
  have HT : Hid (∀ (g : Nat) w', Below w.heap.size w w' → BlkIs w' g 32 (· = #[.slice A n c]) → Calls Tryd.prog 48 #[.slice (some ⟨g, 0, none⟩) 1 1] w' (TakenP (okN a) w')) := Lib.hid fun g w' h h0 => one_ok g hA la h h0
  rw [hok] at HT
  have d0 : decide (0 ≤ s) = true := decide_eq_true hs
  have t0 : ((n : Int) == 0) = false := by simp; omega
  have d1 : decide (s ≤ 32768) = true := decide_eq_true h3
  obtain ⟨k, rfl⟩ := Int.eq_ofNat_of_zero_le hs
  obtain ⟨N, hNN⟩ : ∃ N, val a * 2 ^ k = N := ⟨_, rfl⟩
  have HF : Hid (∀ w', Below w.heap.size w w' → Calls Tryd.prog 65 #[.slice A n c, .int .i64 (k : Int)] w' (Gives N w')) := Lib.hid fun w' hb => by
    obtain ⟨h1, l1⟩ := ok_num hA la hc hok hb
    rw [← hNN]; exact shl_N k h1 (by omega) (by omega)
  simp only [Int.toNat_natCast, hNN] at hN ⊢
  clear hA hok hNN
  go_enter_defers Tryd.func103, Tryd.ntmps103
  go_wp2_with fail
  refine (HT.out _ _ bel blk0).mono ?_
  rintro e w1 ⟨rfl, rfl⟩
  go_wp2_with (go_at_call 56; (with_reducible refine (nneed_true _ _).mono ?_); rintro e w2 ⟨rfl, rfl⟩)
  refine (HF.out _ bel).mono ?_
  rintro e w1 ⟨A1, n1, c1, rfl, h1, b1⟩
  rw [Num.len h1] at hN
  go_wp2_with fail
  refine (given_no hN).mono ?_
  rintro e w2 ⟨rfl, rfl⟩
  go_wp2
  (refine leaves_cons (f := 47) (args := #[.pointer (some ⟨w.heap.size, 0, none⟩)]) (by simp) (by simp [go_sem]) ?_; refine (ncaught_panic (w.heap.size) (2) 0 [] _ (BlkIs.one blk0)).mono ?_; rintro e u' w'' ⟨rfl, rfl, hch, hp⟩; have hp' : BlkIs w'' (w.heap.size) 25 (· = #[.int .i64 (2)]) := ⟨_, hp, rfl⟩)
  exact ⟨.tuple #[.slice none 0 0, .int .i64 2], rresults (rs := [.tmp 4, .cell 5 25]) rfl (by simp) (.tmp rfl (.cell w.heap.size rfl (load_one (t := 25) hp' (by kernel_rfl)) .nil)), NumErr.of_nil (below_chg bel hch (by omega))⟩
set_option maxHeartbeats 2000000 in
theorem shl_zero {A : Option Addr} {n c : Nat} {a : List Int} (s : Int) (w : World) (hA : Kd.C (Kd.int .u32) w A n a) (la : Lim a) (hok : okN a = true) (hs : 0 ≤ s) (hl : n = 0) :
    Calls Tryd.prog 103 #[.slice A n c, .int .i64 s] w (NumErr [] 0 w) := by
  have HT : Hid (∀ (g : Nat) w', Below w.heap.size w w' → BlkIs w' g 32 (· = #[.slice A n c]) → Calls Tryd.prog 48 #[.slice (some ⟨g, 0, none⟩) 1 1] w' (TakenP (okN a) w')) := Lib.hid fun g w' h h0 => one_ok g hA la h h0
  rw [hok] at HT
  have d0 : decide (0 ≤ s) = true := decide_eq_true hs
  subst hl
  clear hA hok
  go_enter_defers Tryd.func103, Tryd.ntmps103
  go_wp2_with fail
  refine (HT.out _ _ bel blk0).mono ?_
  rintro e w1 ⟨rfl, rfl⟩
  go_wp2_with (go_at_call 56; (with_reducible refine (nneed_true _ _).mono ?_); rintro e w2 ⟨rfl, rfl⟩)
  (refine leaves_cons (f := 47) (args := #[.pointer (some ⟨w.heap.size, 0, none⟩)]) (by simp) (by simp [go_sem]) ?_; refine (ncaught_idle _ _).mono ?_; rintro e u' w'' ⟨rfl, rfl, rfl⟩)
  exact ⟨.tuple #[.slice none 0 0, .int .i64 0], rresults (rs := [.tmp 4, .cell 5 25]) rfl (by simp) (.tmp rfl (.cell w.heap.size rfl (load_one (t := 25) blk0 (by kernel_rfl)) .nil)), NumErr.of_nil bel⟩
set_option maxHeartbeats 2000000 in
theorem shl_far {A : Option Addr} {n c : Nat} {a : List Int} (s : Int) (w : World) (hA : Kd.C (Kd.int .u32) w A n a) (la : Lim a) (hok : okN a = true) (hs : 32768 < s) (hl : 0 < n) :
    Calls Tryd.prog 103 #[.slice A n c, .int .i64 s] w (NumErr [] 2 w) := by
  have HT : Hid (∀ (g : Nat) w', Below w.heap.size w w' → BlkIs w' g 32 (· = #[.slice A n c]) → Calls Tryd.prog 48 #[.slice (some ⟨g, 0, none⟩) 1 1] w' (TakenP (okN a) w')) := Lib.hid fun g w' h h0 => one_ok g hA la h h0
  rw [hok] at HT
  have d0 : decide (0 ≤ s) = true := decide_eq_true (by omega)
  have t0 : ((n : Int) == 0) = false := by simp; omega
  have d1 : decide (s ≤ 32768) = false := decide_eq_false (by omega)
  clear hA hok
  go_enter_defers Tryd.func103, Tryd.ntmps103
  go_wp2_with fail
  refine (HT.out _ _ bel blk0).mono ?_
  rintro e w1 ⟨rfl, rfl⟩
  go_wp2_with (first | (go_at_call 56; (with_reducible refine (nneed_true _ _).mono ?_); rintro e w2 ⟨rfl, rfl⟩) | (go_at_call 56; (with_reducible refine (nneed_false _ _).mono ?_); rintro e w2 ⟨rfl, rfl⟩))
  (refine leaves_cons (f := 47) (args := #[.pointer (some ⟨w.heap.size, 0, none⟩)]) (by simp) (by simp [go_sem]) ?_; refine (ncaught_panic (w.heap.size) (2) 0 [] _ (BlkIs.one blk0)).mono ?_; rintro e u' w'' ⟨rfl, rfl, hch, hp⟩; have hp' : BlkIs w'' (w.heap.size) 25 (· = #[.int .i64 (2)]) := ⟨_, hp, rfl⟩)
  exact ⟨.tuple #[.slice none 0 0, .int .i64 2], rresults (rs := [.tmp 4, .cell 5 25]) rfl (by simp) (.tmp rfl (.cell w.heap.size rfl (load_one (t := 25) hp' (by kernel_rfl)) .nil)), NumErr.of_nil (below_chg bel hch (by omega))⟩
set_option maxHeartbeats 2000000 in
theorem shr_bad {A : Option Addr} {n c : Nat} {a : List Int} (s : Int) (w : World) (hA : Kd.C (Kd.int .u32) w A n a) (la : Lim a) (hok : okN a = false) :
    Calls Tryd.prog 116 #[.slice A n c, .int .i64 s] w (NumErr [] 1 w) := by
  have HT : Hid (∀ (g : Nat) w', Below w.heap.size w w' → BlkIs w' g 32 (· = #[.slice A n c]) → Calls Tryd.prog 48 #[.slice (some ⟨g, 0, none⟩) 1 1] w' (TakenP (okN a) w')) := Lib.hid fun g w' h h0 => one_ok g hA la h h0
  rw [hok] at HT
  clear hA hok
  go_enter_defers Tryd.func116, Tryd.ntmps116
  go_wp2_with fail
  refine (HT.out _ _ bel blk0).mono ?_
  rintro e w1 ⟨rfl, rfl⟩
  go_wp2
  (refine leaves_cons (f := 47) (args := #[.pointer (some ⟨w.heap.size, 0, none⟩)]) (by simp) (by simp [go_sem]) ?_; refine (ncaught_panic (w.heap.size) (1) 0 [] _ (BlkIs.one blk0)).mono ?_; rintro e u' w'' ⟨rfl, rfl, hch, hp⟩; have hp' : BlkIs w'' (w.heap.size) 25 (· = #[.int .i64 (1)]) := ⟨_, hp, rfl⟩)
  exact ⟨.tuple #[.slice none 0 0, .int .i64 1], rresults (rs := [.tmp 4, .cell 5 25]) rfl (by simp) (.tmp rfl (.cell w.heap.size rfl (load_one (t := 25) hp' (by kernel_rfl)) .nil)), NumErr.of_nil (below_chg bel hch (by omega))⟩
set_option maxHeartbeats 2000000 in
theorem shr_neg {A : Option Addr} {n c : Nat} {a : List Int} (s : Int) (w : World) (hA : Kd.C (Kd.int .u32) w A n a) (la : Lim a) (hok : okN a = true) (hs : s < 0) :
    Calls Tryd.prog 116 #[.slice A n c, .int .i64 s] w (NumErr [] 1 w) := by
  have HT : Hid (∀ (g : Nat) w', Below w.heap.size w w' → BlkIs w' g 32 (· = #[.slice A n c]) → Calls Tryd.prog 48 #[.slice (some ⟨g, 0, none⟩) 1 1] w' (TakenP (okN a) w')) := Lib.hid fun g w' h h0 => one_ok g hA la h h0
  rw [hok] at HT
  have d0 : decide (0 ≤ s) = false := decide_eq_false (by omega)
  clear hA hok
  go_enter_defers Tryd.func116, Tryd.ntmps116
  go_wp2_with fail
  refine (HT.out _ _ bel blk0).mono ?_
  rintro e w1 ⟨rfl, rfl⟩
  go_wp2_with (go_at_call 56; (with_reducible refine (nneed_false _ _).mono ?_); rintro e w2 ⟨rfl, rfl⟩)
  (refine leaves_cons (f := 47) (args := #[.pointer (some ⟨w.heap.size, 0, none⟩)]) (by simp) (by simp [go_sem]) ?_; refine (ncaught_panic (w.heap.size) (1) 0 [] _ (BlkIs.one blk0)).mono ?_; rintro e u' w'' ⟨rfl, rfl, hch, hp⟩; have hp' : BlkIs w'' (w.heap.size) 25 (· = #[.int .i64 (1)]) := ⟨_, hp, rfl⟩)
  exact ⟨.tuple #[.slice none 0 0, .int .i64 1], rresults (rs := [.tmp 4, .cell 5 25]) rfl (by simp) (.tmp rfl (.cell w.heap.size rfl (load_one (t := 25) hp' (by kernel_rfl)) .nil)), NumErr.of_nil (below_chg bel hch (by omega))⟩
set_option maxHeartbeats 2000000 in
theorem shr_ok {A : Option Addr} {n c : Nat} {a : List Int} (s : Int) (w : World) (hA : Kd.C (Kd.int .u32) w A n a) (la : Lim a) (hc : n ≤ c) (hok : okN a = true) (hs : 0 ≤ s) (h3 : s ≤ 1000000000000) (hN : (ofN (val a / 2 ^ s.toNat)).length ≤ 1024) :
    Calls Tryd.prog 116 #[.slice A n c, .int .i64 s] w (NumErr (ofN (val a / 2 ^ s.toNat)) 0 w) := by
  have HT : Hid (∀ (g : Nat) w', Below w.heap.size w w' → BlkIs w' g 32 (· = #[.slice A n c]) → Calls Tryd.prog 48 #[.slice (some ⟨g, 0, none⟩) 1 1] w' (TakenP (okN a) w')) := Lib.hid fun g w' h h0 => one_ok g hA la h h0
  rw [hok] at HT
  have d0 : decide (0 ≤ s) = true := decide_eq_true hs
  obtain ⟨k, rfl⟩ := Int.eq_ofNat_of_zero_le hs
  obtain ⟨N, hNN⟩ : ∃ N, val a / 2 ^ k = N := ⟨_, rfl⟩
  have HF : Hid (∀ w', Below w.heap.size w w' → Calls Tryd.prog 70 #[.slice A n c, .int .i64 (k : Int)] w' (Gives N w')) := Lib.hid fun w' hb => by
    obtain ⟨h1, l1⟩ := ok_num hA la hc hok hb
    rw [← hNN]; exact shr_N k h1 (by omega) (by omega)
  simp only [Int.toNat_natCast, hNN] at hN ⊢
  clear hA hok hNN
  go_enter_defers Tryd.func116, Tryd.ntmps116
  go_wp2_with fail
  refine (HT.out _ _ bel blk0).mono ?_
  rintro e w1 ⟨rfl, rfl⟩
  go_wp2_with (go_at_call 56; (with_reducible refine (nneed_true _ _).mono ?_); rintro e w2 ⟨rfl, rfl⟩)
  refine (HF.out _ bel).mono ?_
  rintro e w1 ⟨A1, n1, c1, rfl, h1, b1⟩
  rw [Num.len h1] at hN
  obtain ⟨hc1, hf1⟩ := bcell b1
  have hz1 := below_size b1
  simp at hz1
  have z0 : w.heap.size < w1.heap.size := by omega
  go_wp2_with fail
  refine (given_ok h1 hN).mono ?_
  rintro e w2 ⟨v2, rfl, hv2, b2⟩
  obtain ⟨A2, c2, rfl⟩ := Kd.R_slice hv2
  have HV := Lib.hid hv2
  clear hv2
  obtain ⟨hc2, hf2⟩ := bcell b2
  have hz2 := below_size b2
  have y0 : w.heap.size < w2.heap.size := by omega
  go_wp2
  (refine leaves_cons (f := 47) (args := #[.pointer (some ⟨w.heap.size, 0, none⟩)]) (by simp) (by simp [go_sem]) ?_; refine (ncaught_idle _ _).mono ?_; rintro e u' w'' ⟨rfl, rfl, rfl⟩)
  exact ⟨.tuple #[.slice A2 (ofN N).length c2, .int .i64 0], rresults (rs := [.tmp 4, .cell 5 25]) rfl (by simp) (.tmp rfl (.cell w.heap.size rfl (load_one (t := 25) blk0 (by kernel_rfl)) .nil)), ⟨_, rfl, Kd.R_set (Kd.R_lower HV.out (by omega)) (cells := #[.int .i64 0]) (t := 25) (BlkIs.one blk0) (by decide) 0 _, bel⟩⟩

def natShl (a : List Int) (s : Int) : List Int × Int := if okN a && decide (0 ≤ s) then (if a = [] then ([], 0) else if s ≤ 32768 then numOut (0, val a * 2 ^ s.toNat) else ([], 2)) else ([], 1)
theorem nShl_any {A : Option Addr} {n c : Nat} {a : List Int} (s : Int) (w : World) (hA : Kd.C (Kd.int .u32) w A n a) (la : Lim a) (hc : n ≤ c) :
    Calls Tryd.prog 103 #[.slice A n c, .int .i64 s] w (NumErr (natShl a s).1 (natShl a s).2 w) := by
  have hl : a.length = n := hA.1
  unfold natShl
  cases hok : okN a with
  | false => exact shl_bad s w hA la hok
  | true =>
    by_cases hs : 0 ≤ s
    · simp only [hs, decide_true, Bool.and_true, if_true]
      by_cases h0 : a = []
      · subst h0; exact shl_zero s w hA la hok hs hl.symm
      · have hp : 0 < n := by rw [← hl]; exact List.length_pos_iff.2 h0
        rw [if_neg h0]
        by_cases h3 : s ≤ 32768
        · rw [if_pos h3]
          simp only [numOut, if_true]
          by_cases hN : (ofN (val a * 2 ^ s.toNat)).length ≤ 1024
          · rw [if_pos hN]; exact shl_ok s w hA la hc hok hs hp h3 hN
          · rw [if_neg hN]; exact shl_lim s w hA la hc hok hs hp h3 (by omega)
        · rw [if_neg h3]; exact shl_far s w hA la hok (by omega) hp
    · simp only [hs, decide_false, Bool.and_false]
      exact shl_neg s w hA la hok (by omega)
def natShr (a : List Int) (s : Int) : List Int × Int := if okN a && decide (0 ≤ s) then (ofN (val a / 2 ^ s.toNat), 0) else ([], 1)
theorem nShr_any {A : Option Addr} {n c : Nat} {a : List Int} (s : Int) (w : World) (hA : Kd.C (Kd.int .u32) w A n a) (la : Lim a) (hc : n ≤ c) (h3 : s ≤ 1000000000000) :
    Calls Tryd.prog 116 #[.slice A n c, .int .i64 s] w (NumErr (natShr a s).1 (natShr a s).2 w) := by
  unfold natShr
  cases hok : okN a with
  | false => exact shr_bad s w hA la hok
  | true =>
    by_cases hs : 0 ≤ s
    · simp only [hs, decide_true, Bool.and_true, if_true]
      refine shr_ok s w hA la hc hok hs h3 ?_
      obtain ⟨h1, h2⟩ := okN_iff.1 hok
      have h4 := len_mono (Nat.div_le_self (val a) (2 ^ s.toNat))
      rw [ofN_val la h2] at h4
      omega
    · simp only [hs, decide_false, Bool.and_false]
      exact shr_neg s w hA la hok (by omega)
end Go.Proofs.YtiplbpfdkcddlaaDoor

set_option linter.unusedSimpArgs false
set_option linter.unusedVariables false
set_option linter.unnecessarySimpa false
namespace Go.Proofs.YtiplbpfdkcddlaaDoor
open Go.RowKit Go.Proofs.YtiplbpfdkcddlaaDoorW.PrintWords Go.Proofs.YtiplbpfdkcddlaaDoorW.PrintLast Go.Proofs.YtiplbpfdkcddlaaDoorW.PrintMore Go.Proofs.YtiplbpfdkcddlaaDoor.NL
set_option maxRecDepth 100000

def natCmp (a b : List Int) : Int × Int := if okN a && okN b then (cmpN (val a) (val b), 0) else (0, 1)
/-- Two whole numbers come back. -/
def IntErr (x er : Int) (w : World) (e : Ending) (w' : World) : Prop := e = .returned (.tuple #[.int .i64 x, .int .i64 er]) ∧ Below w.heap.size w w'

set_option maxHeartbeats 2000000 in
theorem nCmp_any {A B : Option Addr} {n m c d : Nat} {a b : List Int} (w : World) (hA : Kd.C (Kd.int .u32) w A n a) (hB : Kd.C (Kd.int .u32) w B m b) (la : Lim a) (lb : Lim b) (hc : n ≤ c) (hd : m ≤ d) :
    Calls Tryd.prog 33 #[.slice A n c, .slice B m d] w (IntErr (natCmp a b).1 (natCmp a b).2 w) := by
  have HT : Hid (∀ (g : Nat) w', Below w.heap.size w w' → BlkIs w' g 32 (· = #[.slice A n c, .slice B m d]) → Calls Tryd.prog 48 #[.slice (some ⟨g, 0, none⟩) 2 2] w' (TakenP (okN a && okN b) w')) := Lib.hid fun g w' h h0 => two_ok g hA hB la lb h h0
  unfold natCmp
  cases hok : okN a && okN b with
  | false =>
    rw [hok] at HT
    clear hA hB hok
    go_enter_defers Tryd.func33, Tryd.ntmps33
    go_wp2_with fail
    refine (HT.out _ _ bel blk0).mono ?_
    rintro e w1 ⟨rfl, rfl⟩
    go_wp2
    (refine leaves_cons (f := 47) (args := #[.pointer (some ⟨w.heap.size, 0, none⟩)]) (by simp) (by simp [go_sem]) ?_; refine (ncaught_panic (w.heap.size) (1) 0 [] _ (BlkIs.one blk0)).mono ?_; rintro e u' w'' ⟨rfl, rfl, hch, hp⟩; have hp' : BlkIs w'' (w.heap.size) 25 (· = #[.int .i64 (1)]) := ⟨_, hp, rfl⟩)
    exact ⟨.tuple #[.int .i64 0, .int .i64 1], rresults (rs := [.tmp 4, .cell 5 25]) rfl (by simp) (.tmp rfl (.cell w.heap.size rfl (load_one (t := 25) hp' (by kernel_rfl)) .nil)), rfl, below_chg bel hch (by omega)⟩
  | true =>
    rw [hok] at HT
    have hok2 := hok
    simp only [Bool.and_eq_true] at hok2
    have HC : Hid (∀ w', Below w.heap.size w w' → Calls Tryd.prog 49 #[.slice A n c, .slice B m d] w' fun e w'' => e = .returned (.int .i64 (cmpN (val a) (val b))) ∧ Below w'.heap.size w' w'') := Lib.hid fun w' hb => by
      obtain ⟨h1, l1⟩ := ok_num hA la hc hok2.1 hb
      obtain ⟨h3, l3⟩ := ok_num hB lb hd hok2.2 hb
      exact cmp_N h1 h3 (by omega)
    rw [if_pos rfl]
    generalize cmpN (val a) (val b) = z at *
    clear hA hB hok hok2
    go_enter_defers Tryd.func33, Tryd.ntmps33
    go_wp2_with fail
    refine (HT.out _ _ bel blk0).mono ?_
    rintro e w1 ⟨rfl, rfl⟩
    go_wp2_with fail
    refine (HC.out _ bel).mono ?_
    rintro e w1 ⟨rfl, b1⟩
    obtain ⟨hc1, hf1⟩ := bcell b1
    have hz1 := below_size b1
    simp at hz1
    have z0 : w.heap.size < w1.heap.size := by omega
    go_wp2
    (refine leaves_cons (f := 47) (args := #[.pointer (some ⟨w.heap.size, 0, none⟩)]) (by simp) (by simp [go_sem]) ?_; refine (ncaught_idle _ _).mono ?_; rintro e u' w'' ⟨rfl, rfl, rfl⟩)
    exact ⟨.tuple #[.int .i64 z, .int .i64 0], rresults (rs := [.tmp 4, .cell 5 25]) rfl (by simp) (.tmp rfl (.cell w.heap.size rfl (load_one (t := 25) blk0 (by kernel_rfl)) .nil)), rfl, bel⟩

set_option maxHeartbeats 1000000 in
theorem nFromUint_any (x : Int) (w : World) (x0 : 0 ≤ x) (x1 : x < 18446744073709551616) : Calls Tryd.prog 104 #[.int .u64 x] w (Gives x.toNat w) := by
  go_enter Tryd.func104, Tryd.ntmps104
  go_wp2_with (go_at_call 85; (with_reducible refine (of_any _ _ x0 x1).mono ?_); rintro e w1 ⟨A1, n1, c1, rfl, h1, b1⟩)
  go_ret
  exact ⟨A1, n1, c1, rfl, h1, b1⟩

def natToUint (a : List Int) : Int × Int := if okN a then (if a.length ≤ 2 then ((val a : Nat), 0) else (0, 3)) else (0, 1)
set_option maxHeartbeats 2000000 in
theorem nToUint_any {A : Option Addr} {n c : Nat} {a : List Int} (w : World) (hA : Kd.C (Kd.int .u32) w A n a) (la : Lim a) (hc : n ≤ c) :
    Calls Tryd.prog 110 #[.slice A n c] w fun e w' => e = .returned (.tuple #[.int .u64 (natToUint a).1, .int .i64 (natToUint a).2]) ∧ w = w' := by
  have HV := Lib.hid (valid_any A n c a w hA la)
  have hl : a.length = n := hA.1
  unfold natToUint
  rw [hl]
  cases hok : okN a with
  | false =>
    rw [hok] at HV
    clear hA hok hl
    go_enter Tryd.func110, Tryd.ntmps110
    go_wp2_with (go_at_call 26; (with_reducible refine (HV.out).mono ?_); rintro e w2 ⟨rfl, rfl⟩)
    go_ret2
    exact ⟨rfl, rfl⟩
  | true =>
    rw [hok] at HV
    by_cases h2 : n ≤ 2
    · rw [if_pos rfl, if_pos h2]
      have hv : val a = (a.getD 0 0).toNat + 4294967296 * (a.getD 1 0).toNat := by
        have e := val_take_succ a 1
        rw [take_all (by omega), val_take_succ a 0] at e
        simpa [W, val] using e
      have H0 : Hid (Calls Tryd.prog 83 #[.slice A n c, .int .i64 0] w fun e w' => e = .returned (.int .u64 (a.getD 0 0)) ∧ w = w') := Lib.hid (at_any A n c a 0 w hA la (by omega) (by omega))
      have H1 : Hid (Calls Tryd.prog 83 #[.slice A n c, .int .i64 1] w fun e w' => e = .returned (.int .u64 (a.getD 1 0)) ∧ w = w') := Lib.hid (at_any A n c a 1 w hA la (by omega) (by omega))
      obtain ⟨x0, x1⟩ := lim_getD la 0
      obtain ⟨y0, y1⟩ := lim_getD la 1
      have HW := Lib.hid hv
      clear hv hl hA hok
      generalize a.getD 0 0 = x at *
      generalize a.getD 1 0 = y at *
      have d0 : decide (2 < (n : Int)) = false := decide_eq_false (by omega)
      go_enter Tryd.func110, Tryd.ntmps110
      go_wp2_with (first | (go_at_call 26; (with_reducible refine (HV.out).mono ?_); rintro e w2 ⟨rfl, rfl⟩) | (go_at_call 83; (with_reducible refine (H0.out).mono ?_); rintro e w2 ⟨rfl, rfl⟩) | (go_at_call 83; (with_reducible refine (H1.out).mono ?_); rintro e w2 ⟨rfl, rfl⟩))
      rw [or_two x y x0 x1 y0 y1]
      go_ret2
      refine ⟨?_, rfl⟩
      rw [HW.out]
      have e : x + y * 4294967296 = ((x.toNat + 4294967296 * y.toNat : Nat) : Int) := by omega
      rw [e]
      rfl
    · rw [if_pos rfl, if_neg h2]
      have d0 : decide (2 < (n : Int)) = true := decide_eq_true (by omega)
      clear hA hok hl
      go_enter Tryd.func110, Tryd.ntmps110
      go_wp2_with (go_at_call 26; (with_reducible refine (HV.out).mono ?_); rintro e w2 ⟨rfl, rfl⟩)
      go_ret2
      exact ⟨rfl, rfl⟩
end Go.Proofs.YtiplbpfdkcddlaaDoor

set_option linter.unusedSimpArgs false
set_option linter.unusedVariables false
set_option linter.unnecessarySimpa false
namespace Go.Proofs.YtiplbpfdkcddlaaDoor
open Go.RowKit Go.Proofs.YtiplbpfdkcddlaaDoorW.PrintWords Go.Proofs.YtiplbpfdkcddlaaDoorW.PrintLast Go.Proofs.YtiplbpfdkcddlaaDoorW.PrintMore Go.Proofs.YtiplbpfdkcddlaaDoor.NL
set_option maxRecDepth 100000
set_option exponentiation.threshold 300

theorem num_one (W : World) (q : Nat) (hq : q = W.heap.size) : Num (W.alloc (.cells #[.int .u32 1] 46)) (some ⟨q, 0, none⟩) 1 1 1 := by
  subst hq
  have h := R_C (R_fresh W W.heap.size rfl [1] #[.int .u32 1] rfl 1 rfl (Nat.le_refl _) (by simp) : Kd.R (Kd.int .u32) 46 (W.alloc (.cells #[.int .u32 1] 46)) W.heap.size (fun _ => True) (.slice (some ⟨W.heap.size, 0, none⟩) 1 1) [1])
  exact Lib.hid ⟨Nat.le_refl 1, by rw [show ofN 1 = [1] from by decide +kernel]; exact h.1⟩
theorem pow_le_60 {x j : Nat} (hx : x ≤ 10) (hj : j ≤ 60) : x ^ j < 2 ^ 240 := by
  have h1 : x ^ j ≤ 10 ^ j := Nat.pow_le_pow_left hx j
  have h2 : (10 : Nat) ^ j ≤ 10 ^ 60 := Nat.pow_le_pow_right (by decide) hj
  have h3 : (10 : Nat) ^ 60 < 2 ^ 240 := by decide +kernel
  omega
theorem num_len {w : World} {A : Option Addr} {n c x : Nat} (h : Num w A n c x) (hx : x < 2 ^ 240) : n ≤ 8 := by
  rw [← Num.len h]
  exact len_ofN_le (Nat.lt_of_lt_of_le hx (by show 2 ^ 240 ≤ W 8; rw [W_two]; exact Nat.pow_le_pow_right (by omega) (by omega)))
theorem len_uint (x : Nat) (h : x < 1000000) (w : World) :
    Calls Tryd.prog 75 #[.int .u64 x] w fun r w' => r = .returned (.int .i64 (blen x)) ∧ w = w' := by
  refine (Tryd.bits_Len x w (by omega) (by omega)).mono ?_
  rintro e w' ⟨rfl, rfl⟩
  rw [Int.toNat_natCast, blen_bitLen (by omega)]
  exact ⟨rfl, rfl⟩
theorem i64_and_1 {x : Int} (h0 : 0 ≤ x) (h1 : x < 9223372036854775808) : bits .and .i64 x 1 = x % 2 := bits_mask .i64 63 (by decide) (fun n a b => by rw [IntKind.wrap_i64]; omega) 1 (by decide) x h0 h1
theorem pow_step {e k : Nat} (he : e ≤ 60) : bits .and .i64 ((e : Int) / 2 ^ k) 1 = ((e / 2 ^ k % 2 : Nat) : Int) := by
  have h : ((e : Int) / 2 ^ k) = ((e / 2 ^ k : Nat) : Int) := by rw [Int.natCast_ediv]; simp
  have h2 : e / 2 ^ k ≤ e := Nat.div_le_self _ _
  rw [h]
  generalize e / 2 ^ k = c at *
  rw [i64_and_1 (by omega) (by omega)]
  omega
set_option maxHeartbeats 8000000 in
theorem pow_N {A : Option Addr} {n c x e : Nat} {w : World} (h : Num w A n c x) (hx : x ≤ 10) (he : e ≤ 60) (he0 : 0 < e) : Calls Tryd.prog 62 #[.slice A n c, .int .i64 e] w (Gives (x ^ e) w) := by
  have HN := Lib.hid h
  have HL := Lib.hid fun w' => len_uint e (by omega) w'
  have hb : blen e ≤ 6 := blen_le.2 (by omega)
  have hb0 : 0 < blen e := Nat.pos_of_ne_zero fun h => by rw [blen_eq_zero] at h; omega
  have HB : Hid (e / 2 ^ blen e = 0) := Lib.hid (Nat.div_eq_of_lt (lt_blen e))
  generalize blen e = b at *
  clear h
  go_enter Tryd.func62, Tryd.ntmps62
  go_wp2_with (first | fail | (go_at_call 75; (with_reducible refine (HL.out _).mono ?_); rintro r w1 ⟨rfl, rfl⟩))
  go_loopw [5, 6] (fun v5 v6 wr => ∃ (k : Nat) (B : Option Addr) (m d : Nat), k ≤ b ∧ v6 = .int .i64 ((k : Int) - 1) ∧ v5 = .slice B m d ∧ Hid (Num wr B m d (x ^ (e / 2 ^ k))) ∧ Below w.heap.size w wr) (fun v5 v6 _ => (intOf v6 + 1).toNat)
  case atStart => exact ⟨b, _, _, _, Nat.le_refl _, by first | rfl | (simp; done) | (simp; omega), rfl, Lib.hid (by rw [HB.out, Nat.pow_zero]; exact num_one _ _ (by simp)), bel⟩
  case round =>
    obtain ⟨k, B, m, d, hk, rfl, rfl, HM, hbw⟩ := hrel
    by_cases h0 : k = 0
    · subst h0
      have d0 : decide ((0 : Int) ≤ ((0 : Nat) : Int) - 1) = false := by decide
      go_wp2
      go_ret
      rw [Nat.pow_zero, Nat.div_one] at HM
      exact ⟨_, _, _, rfl, HM.out, hbw⟩
    · obtain ⟨j, rfl⟩ : ∃ j, k = j + 1 := ⟨k - 1, by omega⟩
      have hj : (((j + 1 : Nat) : Int) - 1) = (j : Int) := by omega
      rw [hj]
      have hd : decide ((0 : Int) ≤ (j : Int)) = true := decide_eq_true (by omega)
      have hbit := pow_step (k := j) he
      have hq : e / 2 ^ j = 2 * (e / 2 ^ (j + 1)) + e / 2 ^ j % 2 := by rw [Nat.pow_succ, ← Nat.div_div_eq_div_mul]; omega
      have hqs : e / 2 ^ (j + 1) ≤ 60 := Nat.le_trans (Nat.div_le_self _ _) he
      have hqs2 : e / 2 ^ j ≤ 60 := Nat.le_trans (Nat.div_le_self _ _) he
      have hm8 := num_len HM.out (pow_le_60 hx hqs)
      have hn8 : n ≤ 8 := num_len HN.out (by omega)
      have HQ : Hid (e / 2 ^ j = 2 * (e / 2 ^ (j + 1)) + e / 2 ^ j % 2) := Lib.hid hq
      have hneg : decide ((j : Int) < 0) = false := decide_eq_false (by omega)
      by_cases hb1 : e / 2 ^ j % 2 = 1
      · rw [hb1] at hbit
        have hs : 2 * (e / 2 ^ (j + 1)) ≤ 60 := by omega
        clear hq
        go_wp2_with (first | fail | (go_at_call 52; (with_reducible refine (mul_N HM.out HM.out (by omega) (by omega)).mono ?_); rintro r w1 ⟨A1, n1, c1, rfl, h1, b1⟩; rw [← Nat.pow_add, ← Nat.two_mul] at h1; have hn1 := num_len h1 (pow_le_60 hx hs)) | (go_at_call 52; (with_reducible refine (mul_N h1 (HN.out.below bel) (by omega) (by omega)).mono ?_); rintro r w2 ⟨A2, n2, c2, rfl, h2, b2⟩))
        go_round
        case rel => exact ⟨j, _, _, _, by omega, by simp, rfl, Lib.hid (by rw [HQ.out, hb1, Nat.pow_succ]; exact h2), bel⟩
        case measure => simp [intOf]
      · have hb0 : e / 2 ^ j % 2 = 0 := by omega
        rw [hb0] at hbit
        have hs : 2 * (e / 2 ^ (j + 1)) ≤ 60 := by omega
        clear hq
        go_wp2_with (first | fail | (go_at_call 52; (with_reducible refine (mul_N HM.out HM.out (by omega) (by omega)).mono ?_); rintro r w1 ⟨A1, n1, c1, rfl, h1, b1⟩; rw [← Nat.pow_add, ← Nat.two_mul] at h1))
        go_round
        case rel => exact ⟨j, _, _, _, by omega, by simp, rfl, Lib.hid (by rw [HQ.out, hb0, Nat.add_zero]; exact h1), bel⟩
        case measure => simp [intOf]
theorem w64e {n : Int} (h : -9223372036854775808 ≤ n) (h2 : n < 9223372036854775808) : wrap64 n = n := by unfold wrap64; omega
theorem ten_C (W : World) : Kd.C (Kd.int .u32) (W.alloc (.cells #[.int .u32 10] 46)) (some ⟨W.heap.size, 0, none⟩) 1 [10] := (R_C (R_fresh W W.heap.size rfl [10] #[.int .u32 10] rfl 1 rfl (Nat.le_refl _) (by simp))).1
set_option maxHeartbeats 4000000 in
theorem nPow_ten {A : Option Addr} {c e : Nat} (w : World) (hA : Kd.C (Kd.int .u32) w A 1 [10]) (hc : 1 ≤ c) (he : e ≤ 60) (he0 : 0 < e) :
    Calls Tryd.prog 50 #[.slice A 1 c, .int .i64 e] w (NumErr (ofN (10 ^ e)) 0 w) := by
  have la : Lim [10] := by intro x hx; simp at hx; omega
  have HT : Hid (∀ (g : Nat) w', Below w.heap.size w w' → BlkIs w' g 32 (· = #[.slice A 1 c]) → Calls Tryd.prog 48 #[.slice (some ⟨g, 0, none⟩) 1 1] w' (TakenP (okN [10]) w')) := Lib.hid fun g w' h h0 => one_ok g hA la h h0
  have hok : okN [10] = true := by decide
  rw [hok] at HT
  have hv : val [10] = 10 := by decide
  have HN : Hid (∀ w', Below w.heap.size w w' → Num w' A 1 c 10) := Lib.hid fun w' hb => by
    have := (ok_num hA la hc hok hb).1
    rwa [hv] at this
  have HCm : Hid (∀ w' q, Num w' A 1 c 10 → Num w' (some ⟨q, 0, none⟩) 1 1 1 → Calls Tryd.prog 49 #[.slice A 1 c, .slice (some ⟨q, 0, none⟩) 1 1] w' fun e w'' => e = .returned (.int .i64 1) ∧ Below w'.heap.size w' w'') := Lib.hid fun w' q h1 h2 => cmp_N h1 h2 (by omega)
  have HSz : Hid (∀ w', Below w.heap.size w w' → Calls Tryd.prog 61 #[.slice A 1 c] w' fun e w'' => e = .returned (.int .i64 4) ∧ w' = w'') := Lib.hid fun w' hb => by
    have := size_N (HN.out w' hb) (by omega)
    rwa [show blen 10 = 4 from by decide +kernel] at this
  have HP : Hid (∀ w', Below w.heap.size w w' → Calls Tryd.prog 62 #[.slice A 1 c, .int .i64 (e : Nat)] w' (Gives (10 ^ e) w')) := Lib.hid fun w' hb => pow_N (HN.out w' hb) (Nat.le_refl 10) he he0
  have hlen : (ofN (10 ^ e)).length ≤ 1024 := Nat.le_trans (len_ofN_le (k := 8) (Nat.lt_of_lt_of_le (pow_le_60 (Nat.le_refl 10) he) (by show 2 ^ 240 ≤ W 8; rw [W_two]; exact Nat.pow_le_pow_right (by omega) (by omega)))) (by omega)
  have d0 : decide ((0 : Int) ≤ (e : Int)) = true := decide_eq_true (by omega)
  have d1 : decide ((0 : Int) < (e : Int)) = true := decide_eq_true (by omega)
  have d2 : decide ((e : Int) ≤ 32768) = true := decide_eq_true (by omega)
  have d3 : decide (wrap64 (3 * (e : Int)) < 32768) = true := decide_eq_true (by rw [w64e (by omega) (by omega)]; omega)
  have d4 : decide (3 * (e : Int) < 32768) = true := decide_eq_true (by omega)
  clear hA
  generalize 10 ^ e = N at *
  go_enter_defers Tryd.func50, Tryd.ntmps50
  go_wp2_with fail
  refine (HT.out _ _ bel blk0).mono ?_
  rintro r w1 ⟨rfl, rfl⟩
  go_wp2_with (first | (go_at_call 56; (with_reducible refine (nneed_true _ _).mono ?_); rintro r w2 ⟨rfl, rfl⟩) | (go_at_call 49; (with_reducible refine (HCm.out _ _ (HN.out _ bel) (num_one _ _ (by first | rfl | (simp; done)))).mono ?_); rintro r w3 ⟨rfl, b3⟩; obtain ⟨hc3, hf3⟩ := bcell b3; have hz3 := below_size b3; (try simp at hz3); have z03 : w.heap.size < w3.heap.size := (by omega)) | (go_at_call 61; (with_reducible refine (HSz.out _ bel).mono ?_); rintro r w4 ⟨rfl, rfl⟩) | (go_at_call 62; (with_reducible refine (HP.out _ bel).mono ?_); rintro r w5 ⟨A1, n1, c1, rfl, h1, b5⟩; have hl1 := hlen; rw [Num.len h1] at hl1; obtain ⟨hc5, hf5⟩ := bcell b5; have hz5 := below_size b5; (try simp at hz5); have z05 : w.heap.size < w5.heap.size := (by omega)) | (go_at_call 60; (with_reducible refine (given_ok h1 hl1).mono ?_); rintro r w6 ⟨v2, rfl, hv2, b6⟩; obtain ⟨A2, c2, rfl⟩ := Kd.R_slice hv2; have HV := Lib.hid hv2; clear hv2; obtain ⟨hc6, hf6⟩ := bcell b6; have hz6 := below_size b6; have z06 : w.heap.size < w6.heap.size := (by omega)))
  (refine leaves_cons (f := 47) (args := #[.pointer (some ⟨w.heap.size, 0, none⟩)]) (by simp) (by simp [go_sem]) ?_; refine (ncaught_idle _ _).mono ?_; rintro e u' w'' ⟨rfl, rfl, rfl⟩)
  exact ⟨.tuple #[.slice A2 (ofN N).length c2, .int .i64 0], rresults (rs := [.tmp 4, .cell 5 25]) rfl (by simp) (.tmp rfl (.cell w.heap.size rfl (load_one (t := 25) blk0 (by kernel_rfl)) .nil)), ⟨_, rfl, Kd.R_set (Kd.R_lower HV.out (by omega)) (cells := #[.int .i64 0]) (t := 25) (BlkIs.one blk0) (by decide) 0 _, bel⟩⟩
end Go.Proofs.YtiplbpfdkcddlaaDoor

set_option linter.unusedSimpArgs false
set_option linter.unusedVariables false
set_option linter.unnecessarySimpa false
namespace Go.Proofs.YtiplbpfdkcddlaaDoor.NL
open Go Go.RowKit Go.Proofs

/-- Two halves of a number. -/
def Wd (N : Nat) (hi lo : Int) : Prop := 0 ≤ hi ∧ hi < 18446744073709551616 ∧ 0 ≤ lo ∧ lo < 18446744073709551616 ∧ hi.toNat * 18446744073709551616 + lo.toNat = N
abbrev W128 : Nat := 340282366920938463463374607431768211456
theorem Wd.lt {N : Nat} {hi lo : Int} (h : Wd N hi lo) : N < W128 := by
  obtain ⟨a0, a1, b0, b1, hN⟩ := h
  show N < 340282366920938463463374607431768211456
  omega
theorem Wd.nats {N : Nat} {hi lo : Int} (h : Wd N hi lo) : ∃ H L : Nat, hi = (H : Int) ∧ lo = (L : Int) ∧ H < 18446744073709551616 ∧ L < 18446744073709551616 ∧ H * 18446744073709551616 + L = N := by
  obtain ⟨a0, a1, b0, b1, hN⟩ := h
  exact ⟨hi.toNat, lo.toNat, by omega, by omega, by omega, by omega, hN⟩
theorem Wd.mk {N H L : Nat} (h1 : H < 18446744073709551616) (h2 : L < 18446744073709551616) (h : H * 18446744073709551616 + L = N) : Wd N (H : Int) (L : Int) := ⟨by omega, by omega, by omega, by omega, by simpa using h⟩
theorem Wd.of {N : Nat} (h : N < W128) : Wd N ((N / 18446744073709551616 : Nat) : Int) ((N % 18446744073709551616 : Nat) : Int) := Wd.mk (by have : N < 340282366920938463463374607431768211456 := h; omega) (by omega) (by omega)
theorem wrap_u64_nat (n : Nat) : IntKind.u64.wrap (n : Int) = ((n % 18446744073709551616 : Nat) : Int) := by rw [IntKind.wrap_u64]; omega
theorem cast_mul_pow (a k : Nat) : (a : Int) * 2 ^ k = ((a * 2 ^ k : Nat) : Int) := by push_cast; rfl
theorem cast_div_pow (a k : Nat) : (a : Int) / 2 ^ k = ((a / 2 ^ k : Nat) : Int) := by push_cast; rfl
theorem B_split {k : Nat} (h : k ≤ 64) : 18446744073709551616 = 2 ^ k * 2 ^ (64 - k) := by rw [← Nat.pow_add, show k + (64 - k) = 64 by omega]
theorem shl_word {H L k : Nat} (hL : L < 18446744073709551616) (hk : k ≤ 64) :
    (H * 18446744073709551616 + L) * 2 ^ k % 340282366920938463463374607431768211456 = (H * 2 ^ k % 18446744073709551616 + L / 2 ^ (64 - k)) * 18446744073709551616 + L * 2 ^ k % 18446744073709551616 ∧ H * 2 ^ k % 18446744073709551616 + L / 2 ^ (64 - k) < 18446744073709551616 ∧ H * 2 ^ k % 18446744073709551616 % 2 ^ k = 0 ∧ L / 2 ^ (64 - k) < 2 ^ k := by
  have hs := B_split hk
  have hp := Nat.two_pow_pos (64 - k)
  have hpk := Nat.two_pow_pos k
  have h1 : L / 2 ^ (64 - k) < 2 ^ k := by rw [Nat.div_lt_iff_lt_mul hp, ← hs]; exact hL
  have h2 : H * 2 ^ k % 18446744073709551616 = (H % 2 ^ (64 - k)) * 2 ^ k := by
    rw [hs, Nat.mul_comm H, Nat.mul_mod_mul_left, Nat.mul_comm]
  have h3 : L * 2 ^ k = L / 2 ^ (64 - k) * 18446744073709551616 + L * 2 ^ k % 18446744073709551616 := by
    have e : L * 2 ^ k / 18446744073709551616 = L / 2 ^ (64 - k) := by
      rw [hs, Nat.mul_comm L, Nat.mul_div_mul_left _ _ hpk]
    have := Nat.div_add_mod (L * 2 ^ k) 18446744073709551616
    rw [e] at this
    omega
  have h4 : (H % 2 ^ (64 - k)) * 2 ^ k + 2 ^ k ≤ 18446744073709551616 := by
    have : (H % 2 ^ (64 - k) + 1) * 2 ^ k ≤ 2 ^ (64 - k) * 2 ^ k := Nat.mul_le_mul_right _ (Nat.mod_lt _ hp)
    rw [Nat.add_mul, Nat.mul_comm (2 ^ (64 - k)), ← hs] at this
    omega
  refine ⟨?_, by omega, by rw [h2]; exact Nat.mul_mod_left _ _, h1⟩
  have h5 : (H * 18446744073709551616 + L) * 2 ^ k = H * 2 ^ k * 18446744073709551616 + L * 2 ^ k := by rw [Nat.add_mul, Nat.mul_right_comm]
  rw [h5]
  generalize H * 2 ^ k = a at *
  generalize L * 2 ^ k = b at *
  generalize L / 2 ^ (64 - k) = q at *
  omega
theorem shr_word {H L k : Nat} (hL : L < 18446744073709551616) (hk : k ≤ 64) :
    (H * 18446744073709551616 + L) / 2 ^ k = H / 2 ^ k * 18446744073709551616 + (L / 2 ^ k + H * 2 ^ (64 - k) % 18446744073709551616) ∧ L / 2 ^ k + H * 2 ^ (64 - k) % 18446744073709551616 < 18446744073709551616 ∧ H * 2 ^ (64 - k) % 18446744073709551616 % 2 ^ (64 - k) = 0 ∧ L / 2 ^ k < 2 ^ (64 - k) := by
  have hs := B_split hk
  have hp := Nat.two_pow_pos (64 - k)
  have hpk := Nat.two_pow_pos k
  have h1 : L / 2 ^ k < 2 ^ (64 - k) := by rw [Nat.div_lt_iff_lt_mul hpk, Nat.mul_comm, ← hs]; exact hL
  have h2 : H * 2 ^ (64 - k) % 18446744073709551616 = (H % 2 ^ k) * 2 ^ (64 - k) := by
    rw [hs, Nat.mul_comm (2 ^ k), Nat.mul_comm H, Nat.mul_mod_mul_left, Nat.mul_comm]
  have h4 : (H % 2 ^ k) * 2 ^ (64 - k) + 2 ^ (64 - k) ≤ 18446744073709551616 := by
    have : (H % 2 ^ k + 1) * 2 ^ (64 - k) ≤ 2 ^ k * 2 ^ (64 - k) := Nat.mul_le_mul_right _ (Nat.mod_lt _ hpk)
    rw [Nat.add_mul, ← hs] at this
    omega
  refine ⟨?_, by omega, by rw [h2]; exact Nat.mul_mod_left _ _, h1⟩
  rw [h2]
  have e : H * 18446744073709551616 + L = (H / 2 ^ k * 18446744073709551616 + H % 2 ^ k * 2 ^ (64 - k)) * 2 ^ k + L := by
    have h5 := Nat.div_add_mod H (2 ^ k)
    have h6 : H % 2 ^ k * 2 ^ (64 - k) * 2 ^ k = H % 2 ^ k * 18446744073709551616 := by rw [Nat.mul_assoc, Nat.mul_comm (2 ^ (64 - k)), ← hs]
    rw [Nat.add_mul, h6]
    generalize H / 2 ^ k = a at *
    generalize H % 2 ^ k = b at *
    have h7 : a * 18446744073709551616 * 2 ^ k = 2 ^ k * a * 18446744073709551616 := by rw [Nat.mul_right_comm, Nat.mul_comm a]
    rw [h7, ← Nat.add_mul, h5]
  rw [e, Nat.add_comm (_ * 2 ^ k), Nat.add_mul_div_right _ _ hpk]
  omega
theorem or_dis {a b k : Nat} (ha : a < 18446744073709551616) (hb : b < 18446744073709551616) (h1 : a % 2 ^ k = 0) (h2 : b < 2 ^ k) : bits .or .u64 (a : Int) (b : Int) = ((a + b : Nat) : Int) := by
  rw [u64_or_nat _ _ ha hb, nat_join k a b h1 h2]
theorem or_dis' {a b k : Nat} (ha : a < 18446744073709551616) (hb : b < 18446744073709551616) (h1 : a % 2 ^ k = 0) (h2 : b < 2 ^ k) : bits .or .u64 (b : Int) (a : Int) = ((b + a : Nat) : Int) := by
  rw [u64_or_nat _ _ hb ha, Nat.or_comm, nat_join k a b h1 h2, Nat.add_comm]
theorem Wd.shlA {N : Nat} {hi lo : Int} {k : Nat} (h : Wd N hi lo) (hk : k ≤ 64) : Wd (N * 2 ^ k % W128) (bits .or .u64 (IntKind.u64.wrap (hi * 2 ^ k)) (lo / 2 ^ (64 - k))) (IntKind.u64.wrap (lo * 2 ^ k)) := by
  obtain ⟨H, L, rfl, rfl, h1, h2, rfl⟩ := h.nats
  obtain ⟨e1, e2, e3, e4⟩ := shl_word (H := H) h2 hk
  rw [cast_mul_pow, cast_mul_pow, cast_div_pow, wrap_u64_nat, wrap_u64_nat, or_dis (Nat.mod_lt _ (by omega)) (Nat.lt_of_le_of_lt (Nat.div_le_self _ _) h2) e3 e4]
  exact Wd.mk e2 (Nat.mod_lt _ (by omega)) e1.symm
theorem Wd.shlB {N : Nat} {hi lo : Int} {k : Nat} (h : Wd N hi lo) (hk : 64 ≤ k) : Wd (N * 2 ^ k % W128) (IntKind.u64.wrap (lo * 2 ^ (k - 64))) 0 := by
  obtain ⟨H, L, rfl, rfl, h1, h2, rfl⟩ := h.nats
  obtain ⟨m, rfl⟩ : ∃ m, k = m + 64 := ⟨k - 64, by omega⟩
  rw [Nat.add_sub_cancel, cast_mul_pow, wrap_u64_nat]
  refine Wd.mk (L := 0) (Nat.mod_lt _ (by omega)) (by omega) ?_
  rw [Nat.pow_add, ← Nat.mul_assoc, Nat.add_mul, Nat.mul_right_comm]
  show _ = ((H * 2 ^ m * 18446744073709551616 + L * 2 ^ m) * 18446744073709551616) % 340282366920938463463374607431768211456
  generalize H * 2 ^ m = a
  generalize L * 2 ^ m = b
  omega
theorem Wd.shrA {N : Nat} {hi lo : Int} {k : Nat} (h : Wd N hi lo) (hk : k ≤ 64) : Wd (N / 2 ^ k) (hi / 2 ^ k) (bits .or .u64 (lo / 2 ^ k) (IntKind.u64.wrap (hi * 2 ^ (64 - k)))) := by
  obtain ⟨H, L, rfl, rfl, h1, h2, rfl⟩ := h.nats
  obtain ⟨e1, e2, e3, e4⟩ := shr_word (H := H) h2 hk
  rw [cast_mul_pow, cast_div_pow, cast_div_pow, wrap_u64_nat, or_dis' (Nat.mod_lt _ (by omega)) (Nat.lt_of_le_of_lt (Nat.div_le_self _ _) h2) e3 e4]
  exact Wd.mk (Nat.lt_of_le_of_lt (Nat.div_le_self _ _) h1) e2 e1.symm
theorem Wd.shrB {N : Nat} {hi lo : Int} {k : Nat} (h : Wd N hi lo) (hk : 64 ≤ k) : Wd (N / 2 ^ k) 0 (hi / 2 ^ (k - 64)) := by
  obtain ⟨H, L, rfl, rfl, h1, h2, rfl⟩ := h.nats
  obtain ⟨m, rfl⟩ : ∃ m, k = m + 64 := ⟨k - 64, by omega⟩
  rw [Nat.add_sub_cancel, cast_div_pow]
  refine Wd.mk (H := 0) (by omega) (Nat.lt_of_le_of_lt (Nat.div_le_self _ _) h1) ?_
  rw [Nat.add_comm m, Nat.pow_add, ← Nat.div_div_eq_div_mul]
  show _ = (H * 18446744073709551616 + L) / 18446744073709551616 / 2 ^ m
  rw [show (H * 18446744073709551616 + L) / 18446744073709551616 = H by omega]
  omega
/-- Bits of two numbers that have none together. -/
theorem Wd.or {M N k : Nat} {hi lo hi' lo' : Int} (h : Wd M hi lo) (h' : Wd N hi' lo') (hm : M % 2 ^ k = 0) (hn : N < 2 ^ k) : Wd (M + N) (bits .or .u64 hi hi') (bits .or .u64 lo lo') := by
  have hMN : M + N < W128 := by
    have h1 := h.lt
    have h2 := h'.lt
    rcases Nat.lt_or_ge k 129 with hk | hk
    · have e : W128 = 2 ^ k * 2 ^ (128 - k) := by rw [← Nat.pow_add, show k + (128 - k) = 128 by omega]
      obtain ⟨q, rfl⟩ : ∃ q, M = 2 ^ k * q := ⟨M / 2 ^ k, by have := Nat.div_add_mod M (2 ^ k); omega⟩
      have : q < 2 ^ (128 - k) := by
        rw [e] at h1; exact Nat.lt_of_mul_lt_mul_left h1
      have h3 : 2 ^ k * (q + 1) ≤ 2 ^ k * 2 ^ (128 - k) := Nat.mul_le_mul_left _ this
      rw [← e, Nat.mul_add] at h3
      omega
    · have hM : M = 0 := by
        have h3 : 2 ^ 128 ≤ 2 ^ k := Nat.pow_le_pow_right (by omega) (by omega)
        have h4 : M < 2 ^ k := Nat.lt_of_lt_of_le h1 h3
        rw [Nat.mod_eq_of_lt h4] at hm
        exact hm
      omega
  have key : M ||| N = M + N := nat_join k M N hm hn
  obtain ⟨H, L, rfl, rfl, h1, h2, rfl⟩ := h.nats
  obtain ⟨H', L', rfl, rfl, h3, h4, rfl⟩ := h'.nats
  rw [u64_or_nat _ _ h1 h3, u64_or_nat _ _ h2 h4]
  have hl : L ||| L' < 18446744073709551616 := Nat.or_lt_two_pow (n := 64) h2 h4
  have hh : H ||| H' < 18446744073709551616 := Nat.or_lt_two_pow (n := 64) h1 h3
  refine Wd.mk hh hl ?_
  rw [← key]
  have e1 : H * 18446744073709551616 + L = (H <<< 64) ||| L := by rw [← Nat.shiftLeft_add_eq_or_of_lt (by exact h2), Nat.shiftLeft_eq]
  have e2 : H' * 18446744073709551616 + L' = (H' <<< 64) ||| L' := by rw [← Nat.shiftLeft_add_eq_or_of_lt (by exact h4), Nat.shiftLeft_eq]
  have e3 : (H ||| H') * 18446744073709551616 + (L ||| L') = ((H ||| H') <<< 64) ||| (L ||| L') := by rw [← Nat.shiftLeft_add_eq_or_of_lt (by exact hl), Nat.shiftLeft_eq]
  rw [e1, e2, e3, Nat.shiftLeft_or_distrib]
  rw [Nat.or_assoc, Nat.or_assoc, ← Nat.or_assoc (H' <<< 64) L, Nat.or_comm (H' <<< 64) L, Nat.or_assoc L]
end Go.Proofs.YtiplbpfdkcddlaaDoor.NL

set_option linter.unusedSimpArgs false
set_option linter.unusedVariables false
set_option linter.unnecessarySimpa false
namespace Go.Proofs.YtiplbpfdkcddlaaDoor
open Go.RowKit Go.Proofs.YtiplbpfdkcddlaaDoorW.PrintWords Go.Proofs.YtiplbpfdkcddlaaDoorW.PrintLast Go.Proofs.YtiplbpfdkcddlaaDoorW.PrintMore Go.Proofs.YtiplbpfdkcddlaaDoor.NL
set_option maxRecDepth 100000

@[go_sem] abbrev wV (hi lo : Int) : Value := .agg #[.int .u64 hi, .int .u64 lo]
def GivesW (N : Nat) (w : World) (e : Ending) (w' : World) : Prop := ∃ hi lo : Int, e = .returned (wV hi lo) ∧ Hid (Wd N hi lo) ∧ Below w.heap.size w w'

set_option maxHeartbeats 2000000 in
theorem wleft_any {N : Nat} {hi lo : Int} (k : Nat) (w : World) (hw : Wd N hi lo) (hk : k ≤ 128) :
    Calls Tryd.prog 22 #[wV hi lo, .int .i64 k] w (GivesW (N * 2 ^ k % W128) w) := by
  have HW := Lib.hid hw
  obtain ⟨a0, a1, b0, b1, -⟩ := hw
  by_cases h1 : 64 ≤ k
  · have d0 : decide (64 ≤ (k : Int)) = true := decide_eq_true (by omega)
    have HV := Lib.hid (HW.out.shlB h1)
    generalize N * 2 ^ k % W128 = M at *
    obtain ⟨m, rfl⟩ : ∃ m, k = m + 64 := ⟨k - 64, by omega⟩
    rw [Nat.add_sub_cancel] at HV
    have e0 : ((m : Int) + 64 - 64) = m := by omega
    have hm : m ≤ 64 := by omega
    go_enter Tryd.func22, Tryd.ntmps22
    go_wp2
    exact bodyPost_ret (v := wV (IntKind.u64.wrap (lo * 2 ^ m)) 0) (by simp [results, Tryd.results22, go_sem]) rfl ⟨_, _, rfl, HV, bel⟩
  · have d0 : decide (64 ≤ (k : Int)) = false := decide_eq_false (by omega)
    have h2 : k < 64 := by omega
    have HV := Lib.hid (HW.out.shlA (k := k) (by omega))
    generalize N * 2 ^ k % W128 = M at *
    go_enter Tryd.func22, Tryd.ntmps22
    go_wp2
    go_region
    go_wp2
    exact bodyPost_ret (v := wV (bits .or .u64 (IntKind.u64.wrap (hi * 2 ^ k)) (lo / 2 ^ (64 - k))) (IntKind.u64.wrap (lo * 2 ^ k))) (by simp [results, Tryd.results22, go_sem]) rfl ⟨_, _, rfl, HV, bel⟩
set_option maxHeartbeats 2000000 in
theorem wright_any {N : Nat} {hi lo : Int} (k : Nat) (w : World) (hw : Wd N hi lo) (hk : k ≤ 128) :
    Calls Tryd.prog 25 #[wV hi lo, .int .i64 k] w (GivesW (N / 2 ^ k) w) := by
  have HW := Lib.hid hw
  obtain ⟨a0, a1, b0, b1, -⟩ := hw
  by_cases h1 : 64 ≤ k
  · have d0 : decide (64 ≤ (k : Int)) = true := decide_eq_true (by omega)
    have HV := Lib.hid (HW.out.shrB h1)
    generalize N / 2 ^ k = M at *
    obtain ⟨m, rfl⟩ : ∃ m, k = m + 64 := ⟨k - 64, by omega⟩
    rw [Nat.add_sub_cancel] at HV
    have e0 : ((m : Int) + 64 - 64) = m := by omega
    have hm : m ≤ 64 := by omega
    go_enter Tryd.func25, Tryd.ntmps25
    go_wp2
    exact bodyPost_ret (v := wV 0 (hi / 2 ^ m)) (by simp [results, Tryd.results25, go_sem]) rfl ⟨_, _, rfl, HV, bel⟩
  · have d0 : decide (64 ≤ (k : Int)) = false := decide_eq_false (by omega)
    have h2 : k < 64 := by omega
    have HV := Lib.hid (HW.out.shrA (k := k) (by omega))
    generalize N / 2 ^ k = M at *
    go_enter Tryd.func25, Tryd.ntmps25
    go_wp2
    go_region
    go_wp2
    exact bodyPost_ret (v := wV (hi / 2 ^ k) (bits .or .u64 (lo / 2 ^ k) (IntKind.u64.wrap (hi * 2 ^ (64 - k))))) (by simp [results, Tryd.results25, go_sem]) rfl ⟨_, _, rfl, HV, bel⟩
set_option maxHeartbeats 1000000 in
theorem wjoin_any {M N k : Nat} {hi lo hi' lo' : Int} (w : World) (h : Wd M hi lo) (h' : Wd N hi' lo') (hm : M % 2 ^ k = 0) (hn : N < 2 ^ k) :
    Calls Tryd.prog 21 #[wV hi lo, wV hi' lo'] w (GivesW (M + N) w) := by
  have HV := Lib.hid (h.or h' hm hn)
  obtain ⟨a0, a1, b0, b1, -⟩ := h
  obtain ⟨c0, c1, d0, d1, -⟩ := h'
  go_enter Tryd.func21, Tryd.ntmps21
  go_wp2
  try go_region
  try go_wp2
  exact bodyPost_ret (v := wV (bits .or .u64 hi hi') (bits .or .u64 lo lo')) (by simp [results, Tryd.results21, go_sem]) rfl ⟨_, _, rfl, HV, bel⟩
set_option maxHeartbeats 1000000 in
theorem wlow_any {N : Nat} {hi lo : Int} (k : Nat) (w : World) (hw : Wd N hi lo) (hk : k ≤ 128) :
    Calls Tryd.prog 23 #[wV hi lo, .int .i64 k] w (GivesW (N % 2 ^ k) w) := by
  obtain ⟨m, hm⟩ : ∃ m, 128 - k = m := ⟨_, rfl⟩
  have hmi : (128 - (k : Int)) = (m : Int) := by omega
  have hm2 : m ≤ 128 := by omega
  have HL : Hid (∀ w', Calls Tryd.prog 22 #[wV hi lo, .int .i64 m] w' (GivesW (N * 2 ^ m % W128) w')) := Lib.hid fun w' => wleft_any m w' hw hm2
  have hv : N * 2 ^ m % W128 / 2 ^ m = N % 2 ^ k := by
    have e : W128 = 2 ^ k * 2 ^ m := by rw [← Nat.pow_add, show k + m = 128 by omega]
    rw [e, Nat.mul_comm N, Nat.mul_comm (2 ^ k), Nat.mul_mod_mul_left, Nat.mul_div_cancel_left _ (Nat.two_pow_pos m)]
  rw [← hv]
  generalize N * 2 ^ m % W128 = M at *
  obtain ⟨a0, a1, b0, b1, -⟩ := hw
  clear hm hv
  go_enter Tryd.func23, Tryd.ntmps23
  go_wp2_with fail
  refine (HL.out _).mono ?_
  rintro e w1 ⟨h1, l1, rfl, hw1, b1⟩
  go_wp2_with fail
  refine (wright_any m _ hw1.out hm2).mono ?_
  rintro e w2 ⟨h2, l2, rfl, hw2, b2⟩
  obtain ⟨hc1, hf1⟩ := bcell b1
  obtain ⟨hc2, hf2⟩ := bcell b2
  have hz1 := below_size b1
  have hz2 := below_size b2
  simp at hz1
  have z0 : w.heap.size < w1.heap.size := by omega
  have z1 : w.heap.size + 1 < w1.heap.size := by omega
  have y0 : w.heap.size < w2.heap.size := by omega
  have y1 : w.heap.size + 1 < w2.heap.size := by omega
  go_wp2
  exact bodyPost_ret (v := wV h2 l2) (by simp [results, Tryd.results23, go_sem, hc1, hc2, hz1, hz2, z0, z1, y0, y1]) rfl ⟨_, _, rfl, hw2, bel⟩
end Go.Proofs.YtiplbpfdkcddlaaDoor
