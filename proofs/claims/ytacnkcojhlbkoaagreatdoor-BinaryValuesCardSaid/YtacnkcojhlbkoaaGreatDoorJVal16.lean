/- binary: Index. The contracts of the functions of 'binary' and 'nat' that the laws call, in the form that the printed walks ask for. The specification's Trim, in the form that the printed walks ask for. -/
import Derived.Test.YtacnkcojhlbkoaaGreatDoorJVal14
import Derived.Test.YtacnkcojhlbkoaaGreatDoorJVal12
import Derived.Test.YtacnkcojhlbkoaaGreatDoorJVal15
import Derived.Test.YtacnkcojhlbkoaaGreatDoorJVal3
set_option linter.unusedSimpArgs false
set_option linter.unusedVariables false
set_option linter.unnecessarySimpa false
namespace Go.Proofs.YtacnkcojhlbkoaaGreatDoor
open Go.RowKit Go.Proofs.YtacnkcojhlbkoaaGreatDoorW.PrintWords Go.Proofs.YtacnkcojhlbkoaaGreatDoorW.PrintLast Go.Proofs.YtacnkcojhlbkoaaGreatDoorW.PrintMore Go.Proofs.YtacnkcojhlbkoaaGreatDoor.NL
set_option maxRecDepth 100000
set_option exponentiation.threshold 33000

theorem pow_le3 {a b : Nat} (h : a ≤ b) : 2 ^ a ≤ 2 ^ b := Nat.pow_le_pow_right (by omega) h
theorem pow_lt3 {a b : Nat} (h : a < b) : 2 ^ a < 2 ^ b := Nat.pow_lt_pow_right (by omega) h
theorem small_len {x k : Nat} (h : x < 2 ^ k) (hk : k ≤ 1000) : (ofN x).length ≤ 1024 := by
  refine Nat.le_trans (len_ofN_le (k := 32) (Nat.lt_of_lt_of_le h ?_)) (by omega)
  rw [show (4294967296 : Nat) = 2 ^ 32 from rfl, ← Nat.pow_mul]
  exact pow_le3 (by omega)
theorem okN_small {x k : Nat} (h : x < 2 ^ k) (hk : k ≤ 1000) : okN (ofN x) = true := okN_iff.2 ⟨small_len h hk, top_ofN x⟩
/-- An integer and an error. -/
def IntE (ng : Bool) (a : List Int) (er : Int) (w : World) (e : Ending) (w' : World) : Prop := ∃ v, e = .returned (.tuple #[.agg #[.bool ng, v], .int .i64 er]) ∧ Kd.R (Kd.int .u32) 40 w' w.heap.size (fun _ => True) v a ∧ Below w.heap.size w w'
abbrev I0P (er : Int) := IntE false [] er
set_option maxHeartbeats 4000000 in
theorem index_no {f cl ex : Int} {ng : Bool} {A : Option Addr} {n c : Nat} {a : List Int} (w : World) (hf : isFm f = false) : Calls Tryz.prog 22 #[dV f cl ng A n c ex] w (I0P 1 w) := by
  have HK := Lib.hid fun w' => kindOf_no hf w'
  clear hf
  go_enter_defers Tryz.func22, Tryz.ntmps22
  go_wp2_with (first | (go_at_call 41; (with_reducible refine (HK.out _).mono ?_); rintro e w1 ⟨rfl, b1⟩))
  (refine leaves_cons (f := 39) (args := #[.pointer (some ⟨w.heap.size + 1 + 1, 0, none⟩)]) (by simp) (by simp [go_sem]) ?_; refine (bcaught_panic (w.heap.size + 1 + 1) (1) 0 [] _ (BlkIs.one blk0)).mono ?_; rintro e u' w'' ⟨rfl, rfl, hch, hp⟩; have hp' : BlkIs w'' (w.heap.size + 1 + 1) 28 (· = #[.int .i64 (1)]) := ⟨_, hp, rfl⟩)
  have hd : BlkIs w'' (w.heap.size + 1) 48 (· = #[.bool false, .slice none 0 0]) := blk0
  exact ⟨.tuple #[.agg #[.bool false, .slice none 0 0], .int .i64 1], rresults (rs := [.cell 2 48, .cell 3 28]) rfl (by simp) (.cell (w.heap.size + 1) rfl (load_agg (t := 48) hd Tryz.underlying48 rfl (by kernel_rfl)) (.cell (w.heap.size + 1 + 1) rfl (load_one (t := 28) hp' (by kernel_rfl)) .nil)), .slice none 0 0, rfl, Kd.R_nil _ _ _ _ _, below_chg bel hch (by omega)⟩

set_option maxHeartbeats 8000000 in
theorem index_bad {f cl ex : Int} {ng : Bool} {A : Option Addr} {n c : Nat} {a : List Int} (w : World) (hf : isFm f = true) (hA : Kd.C (Kd.int .u32) w A n a) (la : Lim a) (hc : n ≤ c) (hh : hasB f cl a ex = false) : Calls Tryz.prog 22 #[dV f cl ng A n c ex] w (I0P 1 w) := by
  have HK := Lib.hid fun w' => kindOf_ok hf w'
  have HH := has_hid (f := f) (cl := cl) (ng := ng) (ex := ex) hA la hc
  rw [hh] at HH
  clear hA hh hf
  unfold kV at *
  generalize fmD f = D at *
  generalize fmE f = E at *
  generalize fmL f = L at *
  generalize fmH f = H at *
  generalize fmW f = W at *
  go_enter_defers Tryz.func22, Tryz.ntmps22
  go_wp2_with (first | (go_at_call 41; (with_reducible refine (HK.out _).mono ?_); rintro e w1 ⟨rfl, b1⟩; obtain ⟨hc1, hf1⟩ := bcell b1; (try simp only [dr_size, dr_cell] at hc1); (try simp only [dr_size, dr_frozen] at hf1); have hz1 := below_size b1; (try simp at hz1); (try have z01 : w.heap.size < w1.heap.size := (by omega)); (try have z11 : w.heap.size + 1 < w1.heap.size := (by omega)); (try have z21 : w.heap.size + 1 + 1 < w1.heap.size := (by omega)); (try have z31 : w.heap.size + 1 + 1 + 1 < w1.heap.size := (by omega))) | (go_at_call 42; (with_reducible refine (HH.out _ bel).mono ?_); rintro e w2 ⟨rfl, b2⟩; obtain ⟨hc2, hf2⟩ := bcell b2; (try simp only [dr_size, dr_cell] at hc2); (try simp only [dr_size, dr_frozen] at hf2); have hz2 := below_size b2; (try simp at hz2); (try have z02 : w.heap.size < w2.heap.size := (by omega)); (try have z12 : w.heap.size + 1 < w2.heap.size := (by omega)); (try have z22 : w.heap.size + 1 + 1 < w2.heap.size := (by omega)); (try have z32 : w.heap.size + 1 + 1 + 1 < w2.heap.size := (by omega)); (try have yw12 : w1.heap.size < w2.heap.size := (by omega))) | (go_at_call 40; (with_reducible refine (bneed_false _ _).mono ?_); rintro e w9 ⟨rfl, rfl⟩))
  (refine leaves_cons (f := 39) (args := #[.pointer (some ⟨w.heap.size + 1 + 1, 0, none⟩)]) (by simp) (by simp [go_sem]) ?_; refine (bcaught_panic (w.heap.size + 1 + 1) (1) 0 [] _ (BlkIs.one blk0)).mono ?_; rintro e u' w'' ⟨rfl, rfl, hch, hp⟩; have hp' : BlkIs w'' (w.heap.size + 1 + 1) 28 (· = #[.int .i64 (1)]) := ⟨_, hp, rfl⟩)
  have hd : BlkIs w'' (w.heap.size + 1) 48 (· = #[.bool false, .slice none 0 0]) := blk0
  exact ⟨.tuple #[.agg #[.bool false, .slice none 0 0], .int .i64 1], rresults (rs := [.cell 2 48, .cell 3 28]) rfl (by simp) (.cell (w.heap.size + 1) rfl (load_agg (t := 48) hd Tryz.underlying48 rfl (by kernel_rfl)) (.cell (w.heap.size + 1 + 1) rfl (load_one (t := 28) hp' (by kernel_rfl)) .nil)), .slice none 0 0, rfl, Kd.R_nil _ _ _ _ _, below_chg bel hch (by omega)⟩

set_option maxHeartbeats 8000000 in
theorem index_nan {f cl ex : Int} {ng : Bool} {A : Option Addr} {n c : Nat} {a : List Int} (w : World) (hf : isFm f = true) (hA : Kd.C (Kd.int .u32) w A n a) (la : Lim a) (hc : n ≤ c) (hh : hasB f cl a ex = true) (c3 : cl = 3 ∨ cl = 4) : Calls Tryz.prog 22 #[dV f cl ng A n c ex] w (I0P 5 w) := by
  have HK := Lib.hid fun w' => kindOf_ok hf w'
  have HH := has_hid (f := f) (cl := cl) (ng := ng) (ex := ex) hA la hc
  rw [hh] at HH
  clear hA hh hf
  unfold kV at *
  generalize fmD f = D at *
  generalize fmE f = E at *
  generalize fmL f = L at *
  generalize fmH f = H at *
  generalize fmW f = W at *
  rcases c3 with rfl | rfl
  all_goals
    go_enter_defers Tryz.func22, Tryz.ntmps22
    go_wp2_with (first | (go_at_call 41; (with_reducible refine (HK.out _).mono ?_); rintro e w1 ⟨rfl, b1⟩; obtain ⟨hc1, hf1⟩ := bcell b1; (try simp only [dr_size, dr_cell] at hc1); (try simp only [dr_size, dr_frozen] at hf1); have hz1 := below_size b1; (try simp at hz1); (try have z01 : w.heap.size < w1.heap.size := (by omega)); (try have z11 : w.heap.size + 1 < w1.heap.size := (by omega)); (try have z21 : w.heap.size + 1 + 1 < w1.heap.size := (by omega)); (try have z31 : w.heap.size + 1 + 1 + 1 < w1.heap.size := (by omega))) | (go_at_call 42; (with_reducible refine (HH.out _ bel).mono ?_); rintro e w2 ⟨rfl, b2⟩; obtain ⟨hc2, hf2⟩ := bcell b2; (try simp only [dr_size, dr_cell] at hc2); (try simp only [dr_size, dr_frozen] at hf2); have hz2 := below_size b2; (try simp at hz2); (try have z02 : w.heap.size < w2.heap.size := (by omega)); (try have z12 : w.heap.size + 1 < w2.heap.size := (by omega)); (try have z22 : w.heap.size + 1 + 1 < w2.heap.size := (by omega)); (try have z32 : w.heap.size + 1 + 1 + 1 < w2.heap.size := (by omega)); (try have yw12 : w1.heap.size < w2.heap.size := (by omega))) | (go_at_call 40; (with_reducible refine (bneed_true _ _).mono ?_); rintro e w9 ⟨rfl, rfl⟩) | (go_at_call 40; (with_reducible refine (bneed_false _ _).mono ?_); rintro e w9 ⟨rfl, rfl⟩))
    (refine leaves_cons (f := 39) (args := #[.pointer (some ⟨w.heap.size + 1 + 1, 0, none⟩)]) (by simp) (by simp [go_sem]) ?_; refine (bcaught_panic (w.heap.size + 1 + 1) (5) 0 [] _ (BlkIs.one blk0)).mono ?_; rintro e u' w'' ⟨rfl, rfl, hch, hp⟩; have hp' : BlkIs w'' (w.heap.size + 1 + 1) 28 (· = #[.int .i64 (5)]) := ⟨_, hp, rfl⟩)
    have hd : BlkIs w'' (w.heap.size + 1) 48 (· = #[.bool false, .slice none 0 0]) := blk0
    exact ⟨.tuple #[.agg #[.bool false, .slice none 0 0], .int .i64 5], rresults (rs := [.cell 2 48, .cell 3 28]) rfl (by simp) (.cell (w.heap.size + 1) rfl (load_agg (t := 48) hd Tryz.underlying48 rfl (by kernel_rfl)) (.cell (w.heap.size + 1 + 1) rfl (load_one (t := 28) hp' (by kernel_rfl)) .nil)), .slice none 0 0, rfl, Kd.R_nil _ _ _ _ _, below_chg bel hch (by omega)⟩

theorem len_dec (P : Nat) : decide (0 < P) = decide (0 < (ofN P).length) := by
  by_cases h : P = 0
  · subst h; rw [ofN_zero]; rfl
  · have : (ofN P).length ≠ 0 := fun h2 => h (ofN_nil.1 (List.length_eq_zero_iff.1 h2))
    rw [decide_eq_true (by omega), decide_eq_true (by omega)]
set_option maxHeartbeats 16000000 in
theorem index_fin {f ex : Int} {ng : Bool} {A : Option Addr} {n c : Nat} {a : List Int} (w : World) (hf : isFm f = true) (hA : Kd.C (Kd.int .u32) w A n a) (la : Lim a) (hc : n ≤ c) (hh : hasB f 1 a ex = true) : Calls Tryz.prog 22 #[dV f 1 ng A n c ex] w (IntE (ng && decide (0 < 2 ^ oneN f * (ex - fmL f).toNat + val a)) (ofN (2 ^ oneN f * (ex - fmL f).toNat + val a)) 0 w) := by
  have HK := Lib.hid fun w' => kindOf_ok hf w'
  have HH := has_hid (f := f) (cl := 1) (ng := ng) (ex := ex) hA la hc
  rw [hh] at HH
  obtain ⟨o1, o2, o3, o4⟩ : fmD f - 1 = (oneN f : Nat) ∧ oneN f ≤ 112 ∧ fmD f = ((oneN f + 1 : Nat) : Int) ∧ fmH f - fmL f ≤ 40000 := by
    rcases fm_cases hf with rfl | rfl | rfl | rfl | rfl <;> decide
  obtain ⟨l1, l2⟩ := fmL_bd f
  obtain ⟨h1, h2⟩ := fmH_bd f
  have hfit : (blen (val a) : Int) ≤ fmD f ∧ fmL f ≤ ex ∧ ex ≤ fmH f ∧ okN a = true := by
    unfold hasB fits at hh
    simp only [if_true, Bool.and_eq_true, decide_eq_true_eq] at hh
    obtain ⟨hk, ⟨⟨g1, g2⟩, g3⟩, g4⟩ := hh
    exact ⟨g1, g2, g3, hk⟩
  obtain ⟨g1, g2, g3, hxo⟩ := hfit
  obtain ⟨m, hm⟩ : ∃ m : Nat, ex - fmL f = m := ⟨(ex - fmL f).toNat, by omega⟩
  have hm2 : (ex - fmL f).toNat = m := by omega
  rw [hm2]
  have hm3 : m ≤ 40000 := by omega
  have HPW : Hid (∀ w', Calls Tryz.prog 50 #[.int .i64 (oneN f : Nat)] w' (NewRow w' (ofN (2 ^ oneN f)))) := Lib.hid fun w' => power_any (oneN f) w' (by omega)
  have HFU : Hid (∀ w', Calls Tryz.prog 60 #[.int .u64 (m : Nat)] w' (Gives m w')) := Lib.hid fun w' => by
    have := nFromUint_any (m : Nat) w' (by omega) (by omega)
    rwa [Int.toNat_natCast] at this
  have hMl : (ofN (2 ^ oneN f * m)).length ≤ 1024 := small_len (k := 128) (by
    have h1 : 2 ^ oneN f * m < 2 ^ oneN f * 2 ^ 16 := Nat.mul_lt_mul_of_pos_left (by omega) (Nat.two_pow_pos _)
    rw [← Nat.pow_add] at h1
    exact Nat.lt_of_lt_of_le h1 (pow_le3 (by omega))) (by omega)
  have HMU : Hid (∀ A2 c2 A3 n3 c3 w', Kd.C (Kd.int .u32) w' A2 (ofN (2 ^ oneN f)).length (ofN (2 ^ oneN f)) → (ofN (2 ^ oneN f)).length ≤ c2 → Kd.C (Kd.int .u32) w' A3 n3 (ofN m) → n3 ≤ c3 → Calls Tryz.prog 59 #[.slice A2 (ofN (2 ^ oneN f)).length c2, .slice A3 n3 c3] w' (NumErr (ofN (2 ^ oneN f * m)) 0 w')) := Lib.hid fun A2 c2 A3 n3 c3 w' h1 h2 h3 h4 => by
    have := nMul_any w' h1 h3 (lim_ofN _) (lim_ofN _) h2 h4
    unfold natMul numRes numOut at this
    rw [okN_small (k := 128) (pow_lt3 (by omega)) (by omega), okN_small (k := 128) (Nat.lt_of_lt_of_le (show m < 2 ^ 16 by omega) (pow_le3 (by omega))) (by omega)] at this
    simp only [Bool.and_self, if_true] at this
    rw [val_ofN, val_ofN, if_pos hMl] at this
    exact this
  have hX : val a < 2 ^ 113 := Nat.lt_of_lt_of_le (lt_blen _) (pow_le3 (by omega))
  have hM : 2 ^ oneN f * m < 2 ^ 129 := by
    have h1 : 2 ^ oneN f * m < 2 ^ oneN f * 2 ^ 16 := Nat.mul_lt_mul_of_pos_left (by omega) (Nat.two_pow_pos _)
    rw [← Nat.pow_add] at h1
    exact Nat.lt_of_lt_of_le h1 (pow_le3 (by omega))
  have hMX : 2 ^ oneN f * m + val a < 2 ^ 130 := by
    have q1 := pow_le3 (show 113 ≤ 129 by omega)
    have q2 : 2 ^ 130 = 2 ^ 129 + 2 ^ 129 := by rw [Nat.pow_succ, Nat.mul_two]
    omega
  have hw1 : IntKind.i64.wrap (ex - fmL f) = (m : Int) := by rw [IntKind.wrap_i64]; omega
  have hw3 : IntKind.i64.wrap (m : Int) = (m : Int) := by rw [IntKind.wrap_i64]; omega
  have hw2 : IntKind.u64.wrap (m : Int) = (m : Int) := by rw [IntKind.wrap_u64]; omega
  have hwo : IntKind.i64.wrap (oneN f : Int) = oneN f := by rw [IntKind.wrap_i64]; omega
  obtain ⟨X, hxv⟩ : ∃ X, val a = X := ⟨_, rfl⟩
  have hxl := la
  rw [hxv] at hMX ⊢
  rw [len_dec]
  generalize 2 ^ oneN f * m = M at *
  have HAD : Hid (∀ A2 c2 w', Kd.C (Kd.int .u32) w' A2 (ofN M).length (ofN M) → (ofN M).length ≤ c2 → Kd.C (Kd.int .u32) w' A n a → n ≤ c → Calls Tryz.prog 61 #[.slice A2 (ofN M).length c2, .slice A n c] w' (NumErr (ofN (M + X)) 0 w')) := Lib.hid fun A2 c2 w' h1 h2 h3 h4 => by
    have := nAdd_any w' h1 h3 (lim_ofN _) hxl h2 h4
    unfold natAdd numRes numOut at this
    rw [okN_small (k := 129) hM (by omega), hxo] at this
    simp only [Bool.and_self, if_true] at this
    rw [val_ofN, hxv, if_pos (small_len (k := 130) hMX (by omega))] at this
    exact this
  have HV6w := Lib.hid (And.intro hA hc)
  clear hA hh hf hxv hX hM hMX hMl g1 g2 g3 hm3 hm2 hxo la hxl o3 o4
  unfold kV at *
  generalize fmD f = D at *
  generalize fmE f = E at *
  generalize fmL f = L at *
  generalize fmH f = H at *
  generalize oneN f = on at *
  generalize ofN (2 ^ on) = pw at *
  generalize fmW f = W at *
  go_enter_defers Tryz.func22, Tryz.ntmps22
  go_upto_region 12 with (first | (go_at_call 41; (with_reducible refine (HK.out _).mono ?_); rintro e w1 ⟨rfl, b1⟩; obtain ⟨hc1, hf1⟩ := bcell b1; (try simp only [dr_size, dr_cell] at hc1); (try simp only [dr_size, dr_frozen] at hf1); have hz1 := below_size b1; (try simp at hz1); (try have z01 : w.heap.size < w1.heap.size := (by omega)); (try have z11 : w.heap.size + 1 < w1.heap.size := (by omega)); (try have z21 : w.heap.size + 1 + 1 < w1.heap.size := (by omega)); (try have z31 : w.heap.size + 1 + 1 + 1 < w1.heap.size := (by omega))) | (go_at_call 42; (with_reducible refine (HH.out _ bel).mono ?_); rintro e w2 ⟨rfl, b2⟩; obtain ⟨hc2, hf2⟩ := bcell b2; (try simp only [dr_size, dr_cell] at hc2); (try simp only [dr_size, dr_frozen] at hf2); have hz2 := below_size b2; (try simp at hz2); (try have z02 : w.heap.size < w2.heap.size := (by omega)); (try have z12 : w.heap.size + 1 < w2.heap.size := (by omega)); (try have z22 : w.heap.size + 1 + 1 < w2.heap.size := (by omega)); (try have z32 : w.heap.size + 1 + 1 + 1 < w2.heap.size := (by omega)); (try have yw12 : w1.heap.size < w2.heap.size := (by omega))) | (go_at_call 40; (with_reducible refine (bneed_true _ _).mono ?_); rintro e w9 ⟨rfl, rfl⟩))
  have HV6 := Lib.hid (And.intro (Kd.C_below HV6w.out.1 (show Below w.heap.size w w2 from bel)) HV6w.out.2)
  go_cut [7] from 9 to 67 (fun v7 wx => ∃ A5 c5, v7 = .slice A5 (ofN M).length c5 ∧ Hid (Kd.C (Kd.int .u32) wx A5 (ofN M).length (ofN M) ∧ (ofN M).length ≤ c5) ∧ Hid (Kd.C (Kd.int .u32) wx A n a ∧ n ≤ c) ∧ (BlkIs wx w.heap.size 25 (· = #[.int .i64 f, .int .i64 1, .bool ng, .slice A n c, .int .i64 ex]) ∧ BlkIs wx (w.heap.size + 1) 48 (· = #[.bool false, .slice none 0 0]) ∧ BlkIs wx (w.heap.size + 1 + 1) 28 (· = #[.int .i64 0]) ∧ Below w.heap.size w wx))
  case first =>
    go_region_held3 (fun w' => Below (w2).heap.size (w2) w' ∧ ∀ b o, b < (w2).heap.size → w'.cell? ⟨b, o, none⟩ = (w2).cell? ⟨b, o, none⟩) (first | ((try go_split_ands); refine below_S ?_; ((repeat (first | with_reducible assumption | with_reducible exact Below.refl _ _ | with_reducible refine below_alloc ?_ _ | with_reducible refine pw_below_drewN ?_ _ | with_reducible refine below_drew1 ?_ | ((with_reducible refine below_set ?_ ?hle); (case hle => first | (simp; done) | omega | (simp; omega))) | with_reducible refine below_step ?_ (by with_reducible assumption))); done))) (first | (go_at_call 50; (with_reducible refine (HPW.out _).mono ?_); rintro e w3 ⟨v3, rfl, hv3, b3⟩; obtain ⟨A3, c3, rfl⟩ := Kd.R_slice hv3; have HV3 := Lib.hid (R_C hv3); clear hv3; obtain ⟨hc3, hf3⟩ := bcell b3; (try simp only [dr_size, dr_cell] at hc3); (try simp only [dr_size, dr_frozen] at hf3); have hz3 := below_size b3; (try simp at hz3); (try have z03 : w.heap.size < w3.heap.size := (by omega)); (try have z13 : w.heap.size + 1 < w3.heap.size := (by omega)); (try have z23 : w.heap.size + 1 + 1 < w3.heap.size := (by omega)); (try have z33 : w.heap.size + 1 + 1 + 1 < w3.heap.size := (by omega)); (try have yw13 : w1.heap.size < w3.heap.size := (by omega)); (try have yw23 : w2.heap.size < w3.heap.size := (by omega)); (try have ywc3 : wc.heap.size < w3.heap.size := (by omega))) | (go_at_call 60; (with_reducible refine (HFU.out _).mono ?_); rintro e w4 ⟨A4, n4, c4, rfl, HV4, b4⟩; obtain ⟨hc4, hf4⟩ := bcell b4; (try simp only [dr_size, dr_cell] at hc4); (try simp only [dr_size, dr_frozen] at hf4); have hz4 := below_size b4; (try simp at hz4); (try have z04 : w.heap.size < w4.heap.size := (by omega)); (try have z14 : w.heap.size + 1 < w4.heap.size := (by omega)); (try have z24 : w.heap.size + 1 + 1 < w4.heap.size := (by omega)); (try have z34 : w.heap.size + 1 + 1 + 1 < w4.heap.size := (by omega)); (try have yw14 : w1.heap.size < w4.heap.size := (by omega)); (try have yw24 : w2.heap.size < w4.heap.size := (by omega)); (try have ywc4 : wc.heap.size < w4.heap.size := (by omega)); (try have yw34 : w3.heap.size < w4.heap.size := (by omega))) | (go_at_call 59; (with_reducible refine (HMU.out _ _ _ _ _ _ (Kd.C_below HV3.out.1 bel) HV3.out.2 (Kd.C_below HV4.out.2 bel) HV4.out.1).mono ?_); rintro e w5 ⟨v5, rfl, hv5, b5⟩; obtain ⟨A5, c5, rfl⟩ := Kd.R_slice hv5; have HV5 := Lib.hid (R_C hv5); clear hv5; obtain ⟨hc5, hf5⟩ := bcell b5; (try simp only [dr_size, dr_cell] at hc5); (try simp only [dr_size, dr_frozen] at hf5); have hz5 := below_size b5; (try simp at hz5); (try have z05 : w.heap.size < w5.heap.size := (by omega)); (try have z15 : w.heap.size + 1 < w5.heap.size := (by omega)); (try have z25 : w.heap.size + 1 + 1 < w5.heap.size := (by omega)); (try have z35 : w.heap.size + 1 + 1 + 1 < w5.heap.size := (by omega)); (try have yw15 : w1.heap.size < w5.heap.size := (by omega)); (try have yw25 : w2.heap.size < w5.heap.size := (by omega)); (try have ywc5 : wc.heap.size < w5.heap.size := (by omega)); (try have yw35 : w3.heap.size < w5.heap.size := (by omega)); (try have yw45 : w4.heap.size < w5.heap.size := (by omega))))
    all_goals
      go_wp2_with fail
      go_meet
      exact ⟨_, _, rfl, Lib.hid ⟨Kd.C_below HV5.out.1 bel, HV5.out.2⟩, Lib.hid ⟨Kd.C_below HV6.out.1 bel, HV6.out.2⟩, blk0, blk0, blk0, bel⟩
  case rest =>
    obtain ⟨A5, c5, rfl, HV5, HV6, hin⟩ := hcut
    obtain ⟨HBD, HBY, HBE, hbw⟩ := hin
    have HBDh := Lib.hid HBD
    have HBYh := Lib.hid HBY
    have HBEh := Lib.hid HBE
    obtain ⟨csd, hbkd, rfl⟩ := HBD
    obtain ⟨csy, hbky, rfl⟩ := HBY
    obtain ⟨cse, hbke, rfl⟩ := HBE
    have d0 : wc.cell? ⟨w.heap.size, 0, none⟩ = some (.int .i64 f) := by simpa using blk_cell hbkd 0
    have d1 : wc.cell? ⟨w.heap.size, 1, none⟩ = some (.int .i64 1) := by simpa using blk_cell hbkd 1
    have d2 : wc.cell? ⟨w.heap.size, 2, none⟩ = some (.bool ng) := by simpa using blk_cell hbkd 2
    have d3 : wc.cell? ⟨w.heap.size, 3, none⟩ = some (.slice A n c) := by simpa using blk_cell hbkd 3
    have d4 : wc.cell? ⟨w.heap.size, 4, none⟩ = some (.int .i64 ex) := by simpa using blk_cell hbkd 4
    have dz : w.heap.size < wc.heap.size := blk_lt hbkd
    have y0 : wc.cell? ⟨w.heap.size + 1, 0, none⟩ = some (.bool false) := by simpa using blk_cell hbky 0
    have yf0 : wc.frozen? ⟨w.heap.size + 1, 0, none⟩ = false := blk_frozen hbky 0
    have y1 : wc.cell? ⟨w.heap.size + 1, 1, none⟩ = some (.slice none 0 0) := by simpa using blk_cell hbky 1
    have yf1 : wc.frozen? ⟨w.heap.size + 1, 1, none⟩ = false := blk_frozen hbky 1
    have yz : w.heap.size + 1 < wc.heap.size := blk_lt hbky
    have e0 : wc.cell? ⟨w.heap.size + 1 + 1, 0, none⟩ = some (.int .i64 0) := by simpa using blk_cell hbke 0
    have ef0 : wc.frozen? ⟨w.heap.size + 1 + 1, 0, none⟩ = false := blk_frozen hbke 0
    have ez : w.heap.size + 1 + 1 < wc.heap.size := blk_lt hbke
    have HYr := Lib.hid hbky
    have HEr := Lib.hid hbke
    clear hbkd hbky hbke
    cases ng
    · go_wp2_with (first | (go_at_call 61; (with_reducible refine (HAD.out _ _ _ (Kd.C_below HV5.out.1 bel) HV5.out.2 (Kd.C_below HV6.out.1 bel) HV6.out.2).mono ?_); rintro e w8 ⟨v8, rfl, hv8, b8⟩; obtain ⟨A8, c8, rfl⟩ := Kd.R_slice hv8; have HV8 := Lib.hid hv8; clear hv8; obtain ⟨hc8, hf8⟩ := bcell b8; (try simp only [dr_size, dr_cell] at hc8); (try simp only [dr_size, dr_frozen] at hf8); have hz8 := below_size b8; (try simp at hz8); (try have z08 : w.heap.size < w8.heap.size := (by omega)); (try have z18 : w.heap.size + 1 < w8.heap.size := (by omega)); (try have z28 : w.heap.size + 1 + 1 < w8.heap.size := (by omega)); (try have z38 : w.heap.size + 1 + 1 + 1 < w8.heap.size := (by omega)); (try have ywc8 : wc.heap.size < w8.heap.size := (by omega))))
      have hbky := HYr.out
      have hbke := HEr.out
      (refine leaves_cons (f := 39) (args := #[.pointer (some ⟨w.heap.size + 1 + 1, 0, none⟩)]) (by simp) (by simp [go_sem]) ?_; refine (bcaught_idle _ _).mono ?_; rintro e u' w'' ⟨rfl, rfl, rfl⟩)
      exact ⟨.tuple #[.agg #[.bool false, .slice A8 (ofN (M + X)).length c8], .int .i64 0], rresults (rs := [.cell 2 48, .cell 3 28]) rfl (by simp) (.cell (w.heap.size + 1) rfl (load_agg (t := 48) blk1 Tryz.underlying48 rfl (by kernel_rfl)) (.cell (w.heap.size + 1 + 1) rfl (load_one (t := 28) blk1 (by kernel_rfl)) .nil)), _, by simp [*], Kd.R_lower (R_chg (S := fun k => k = w.heap.size + 1 ∨ k = w.heap.size + 1 + 1) HV8.out chg2 (by intro k hk; (try simp at hk ⊢); omega)) (by first | omega | (simp; omega)), bel⟩
    · go_wp2_with (first | (go_at_call 61; (with_reducible refine (HAD.out _ _ _ (Kd.C_below HV5.out.1 bel) HV5.out.2 (Kd.C_below HV6.out.1 bel) HV6.out.2).mono ?_); rintro e w8 ⟨v8, rfl, hv8, b8⟩; obtain ⟨A8, c8, rfl⟩ := Kd.R_slice hv8; have HV8 := Lib.hid hv8; clear hv8; obtain ⟨hc8, hf8⟩ := bcell b8; (try simp only [dr_size, dr_cell] at hc8); (try simp only [dr_size, dr_frozen] at hf8); have hz8 := below_size b8; (try simp at hz8); (try have z08 : w.heap.size < w8.heap.size := (by omega)); (try have z18 : w.heap.size + 1 < w8.heap.size := (by omega)); (try have z28 : w.heap.size + 1 + 1 < w8.heap.size := (by omega)); (try have z38 : w.heap.size + 1 + 1 + 1 < w8.heap.size := (by omega)); (try have ywc8 : wc.heap.size < w8.heap.size := (by omega))))
      have hbky := HYr.out
      have hbke := HEr.out
      (refine leaves_cons (f := 39) (args := #[.pointer (some ⟨w.heap.size + 1 + 1, 0, none⟩)]) (by simp) (by simp [go_sem]) ?_; refine (bcaught_idle _ _).mono ?_; rintro e u' w'' ⟨rfl, rfl, rfl⟩)
      exact ⟨.tuple #[.agg #[.bool (decide (0 < (ofN (M + X)).length)), .slice A8 (ofN (M + X)).length c8], .int .i64 0], rresults (rs := [.cell 2 48, .cell 3 28]) rfl (by simp) (.cell (w.heap.size + 1) rfl (load_agg (t := 48) blk1 Tryz.underlying48 rfl (by kernel_rfl)) (.cell (w.heap.size + 1 + 1) rfl (load_one (t := 28) blk1 (by kernel_rfl)) .nil)), _, by simp [*], Kd.R_lower (R_chg (S := fun k => k = w.heap.size + 1 ∨ k = w.heap.size + 1 + 1) HV8.out chg2 (by intro k hk; (try simp at hk ⊢); omega)) (by first | omega | (simp; omega)), bel⟩

set_option maxHeartbeats 16000000 in
theorem index_inf {f ex : Int} {ng : Bool} {A : Option Addr} {n c : Nat} {a : List Int} (w : World) (hf : isFm f = true) (hA : Kd.C (Kd.int .u32) w A n a) (la : Lim a) (hc : n ≤ c) (hh : hasB f 2 a ex = true) : Calls Tryz.prog 22 #[dV f 2 ng A n c ex] w (IntE (ng && decide (0 < 2 ^ oneN f * (fmH f - fmL f).toNat + 2 ^ (oneN f + 1))) (ofN (2 ^ oneN f * (fmH f - fmL f).toNat + 2 ^ (oneN f + 1))) 0 w) := by
  have HK := Lib.hid fun w' => kindOf_ok hf w'
  have HH := has_hid (f := f) (cl := 2) (ng := ng) (ex := ex) hA la hc
  rw [hh] at HH
  obtain ⟨o1, o2, o3, o4⟩ : fmD f - 1 = (oneN f : Nat) ∧ oneN f ≤ 112 ∧ fmD f = ((oneN f + 1 : Nat) : Int) ∧ fmH f - fmL f ≤ 40000 := by
    rcases fm_cases hf with rfl | rfl | rfl | rfl | rfl <;> decide
  obtain ⟨l1, l2⟩ := fmL_bd f
  obtain ⟨h1, h2⟩ := fmH_bd f
  have hfit : val a = 0 ∧ ex = 0 ∧ okN a = true := by
    unfold hasB fits at hh
    rw [if_neg (by decide), if_pos rfl] at hh
    simp only [Bool.and_eq_true, decide_eq_true_eq] at hh
    obtain ⟨hk, g1, g2⟩ := hh
    exact ⟨blen_eq_zero.1 (by omega), g2, hk⟩
  obtain ⟨m, hm⟩ : ∃ m : Nat, fmH f - fmL f = m := ⟨(fmH f - fmL f).toNat, by omega⟩
  have hm2 : (fmH f - fmL f).toNat = m := by omega
  rw [hm2]
  have hm3 : m ≤ 40000 := by omega
  have HPW : Hid (∀ w', Calls Tryz.prog 50 #[.int .i64 (oneN f : Nat)] w' (NewRow w' (ofN (2 ^ oneN f)))) := Lib.hid fun w' => power_any (oneN f) w' (by omega)
  have HFU : Hid (∀ w', Calls Tryz.prog 60 #[.int .u64 (m : Nat)] w' (Gives m w')) := Lib.hid fun w' => by
    have := nFromUint_any (m : Nat) w' (by omega) (by omega)
    rwa [Int.toNat_natCast] at this
  have hMl : (ofN (2 ^ oneN f * m)).length ≤ 1024 := small_len (k := 128) (by
    have h1 : 2 ^ oneN f * m < 2 ^ oneN f * 2 ^ 16 := Nat.mul_lt_mul_of_pos_left (by omega) (Nat.two_pow_pos _)
    rw [← Nat.pow_add] at h1
    exact Nat.lt_of_lt_of_le h1 (pow_le3 (by omega))) (by omega)
  have HMU : Hid (∀ A2 c2 A3 n3 c3 w', Kd.C (Kd.int .u32) w' A2 (ofN (2 ^ oneN f)).length (ofN (2 ^ oneN f)) → (ofN (2 ^ oneN f)).length ≤ c2 → Kd.C (Kd.int .u32) w' A3 n3 (ofN m) → n3 ≤ c3 → Calls Tryz.prog 59 #[.slice A2 (ofN (2 ^ oneN f)).length c2, .slice A3 n3 c3] w' (NumErr (ofN (2 ^ oneN f * m)) 0 w')) := Lib.hid fun A2 c2 A3 n3 c3 w' h1 h2 h3 h4 => by
    have := nMul_any w' h1 h3 (lim_ofN _) (lim_ofN _) h2 h4
    unfold natMul numRes numOut at this
    rw [okN_small (k := 128) (pow_lt3 (by omega)) (by omega), okN_small (k := 128) (Nat.lt_of_lt_of_le (show m < 2 ^ 16 by omega) (pow_le3 (by omega))) (by omega)] at this
    simp only [Bool.and_self, if_true] at this
    rw [val_ofN, val_ofN, if_pos hMl] at this
    exact this
  have HPH : Hid (∀ w', Calls Tryz.prog 50 #[.int .i64 (fmD f)] w' (NewRow w' (ofN (2 ^ (oneN f + 1))))) := Lib.hid fun w' => by rw [o3]; exact power_any (oneN f + 1) w' (by omega)
  have hX : 2 ^ (oneN f + 1) < 2 ^ 129 := pow_lt3 (by omega)
  have hM : 2 ^ oneN f * m < 2 ^ 129 := by
    have h1 : 2 ^ oneN f * m < 2 ^ oneN f * 2 ^ 16 := Nat.mul_lt_mul_of_pos_left (by omega) (Nat.two_pow_pos _)
    rw [← Nat.pow_add] at h1
    exact Nat.lt_of_lt_of_le h1 (pow_le3 (by omega))
  have hMX : 2 ^ oneN f * m + 2 ^ (oneN f + 1) < 2 ^ 130 := by
    have q2 : 2 ^ 130 = 2 ^ 129 + 2 ^ 129 := by rw [Nat.pow_succ, Nat.mul_two]
    omega
  have hw1 : IntKind.i64.wrap (fmH f - fmL f) = (m : Int) := by rw [IntKind.wrap_i64]; omega
  have hw3 : IntKind.i64.wrap (m : Int) = (m : Int) := by rw [IntKind.wrap_i64]; omega
  have hw2 : IntKind.u64.wrap (m : Int) = (m : Int) := by rw [IntKind.wrap_u64]; omega
  have hwo : IntKind.i64.wrap (oneN f : Int) = oneN f := by rw [IntKind.wrap_i64]; omega
  have hxo : okN (ofN (2 ^ (oneN f + 1))) = true := okN_small hX (by omega)
  have hxl := lim_ofN (2 ^ (oneN f + 1))
  have hxv := val_ofN (2 ^ (oneN f + 1))
  rw [len_dec]
  generalize 2 ^ oneN f * m = M at *
  generalize 2 ^ (oneN f + 1) = X at *
  have HAD : Hid (∀ A2 c2 A6 c6 w', Kd.C (Kd.int .u32) w' A2 (ofN M).length (ofN M) → (ofN M).length ≤ c2 → Kd.C (Kd.int .u32) w' A6 (ofN X).length (ofN X) → (ofN X).length ≤ c6 → Calls Tryz.prog 61 #[.slice A2 (ofN M).length c2, .slice A6 (ofN X).length c6] w' (NumErr (ofN (M + X)) 0 w')) := Lib.hid fun A2 c2 A6 c6 w' h1 h2 h3 h4 => by
    have := nAdd_any w' h1 h3 (lim_ofN _) hxl h2 h4
    unfold natAdd numRes numOut at this
    rw [okN_small (k := 129) hM (by omega), hxo] at this
    simp only [Bool.and_self, if_true] at this
    rw [val_ofN, hxv, if_pos (small_len (k := 130) hMX (by omega))] at this
    exact this
  obtain ⟨g1, rfl, g3⟩ := hfit
  clear hA hh hf hxv hX hM hMX hMl g1 g3 hm3 hm2 hxo la hxl o3 o4
  unfold kV at *
  generalize fmD f = D at *
  generalize fmE f = E at *
  generalize fmL f = L at *
  generalize fmH f = H at *
  generalize oneN f = on at *
  generalize ofN (2 ^ on) = pw at *
  generalize fmW f = W at *
  go_enter_defers Tryz.func22, Tryz.ntmps22
  go_upto_region 8 with (first | (go_at_call 41; (with_reducible refine (HK.out _).mono ?_); rintro e w1 ⟨rfl, b1⟩; obtain ⟨hc1, hf1⟩ := bcell b1; (try simp only [dr_size, dr_cell] at hc1); (try simp only [dr_size, dr_frozen] at hf1); have hz1 := below_size b1; (try simp at hz1); (try have z01 : w.heap.size < w1.heap.size := (by omega)); (try have z11 : w.heap.size + 1 < w1.heap.size := (by omega)); (try have z21 : w.heap.size + 1 + 1 < w1.heap.size := (by omega)); (try have z31 : w.heap.size + 1 + 1 + 1 < w1.heap.size := (by omega))) | (go_at_call 42; (with_reducible refine (HH.out _ bel).mono ?_); rintro e w2 ⟨rfl, b2⟩; obtain ⟨hc2, hf2⟩ := bcell b2; (try simp only [dr_size, dr_cell] at hc2); (try simp only [dr_size, dr_frozen] at hf2); have hz2 := below_size b2; (try simp at hz2); (try have z02 : w.heap.size < w2.heap.size := (by omega)); (try have z12 : w.heap.size + 1 < w2.heap.size := (by omega)); (try have z22 : w.heap.size + 1 + 1 < w2.heap.size := (by omega)); (try have z32 : w.heap.size + 1 + 1 + 1 < w2.heap.size := (by omega)); (try have yw12 : w1.heap.size < w2.heap.size := (by omega))) | (go_at_call 40; (with_reducible refine (bneed_true _ _).mono ?_); rintro e w9 ⟨rfl, rfl⟩))
  go_region_held3 (fun w' => Below (w2).heap.size (w2) w' ∧ ∀ b o, b < (w2).heap.size → w'.cell? ⟨b, o, none⟩ = (w2).cell? ⟨b, o, none⟩) (first | ((try go_split_ands); refine below_S ?_; ((repeat (first | with_reducible assumption | with_reducible exact Below.refl _ _ | with_reducible refine below_alloc ?_ _ | with_reducible refine pw_below_drewN ?_ _ | with_reducible refine below_drew1 ?_ | ((with_reducible refine below_set ?_ ?hle); (case hle => first | (simp; done) | omega | (simp; omega))) | with_reducible refine below_step ?_ (by with_reducible assumption))); done))) (first | (go_at_call 50; (with_reducible refine (HPH.out _).mono ?_); rintro e w6 ⟨v6, rfl, hv6, b6⟩; obtain ⟨A6, c6, rfl⟩ := Kd.R_slice hv6; have HV6 := Lib.hid (R_C hv6); clear hv6; obtain ⟨hc6, hf6⟩ := bcell b6; (try simp only [dr_size, dr_cell] at hc6); (try simp only [dr_size, dr_frozen] at hf6); have hz6 := below_size b6; (try simp at hz6); (try have z06 : w.heap.size < w6.heap.size := (by omega)); (try have z16 : w.heap.size + 1 < w6.heap.size := (by omega)); (try have z26 : w.heap.size + 1 + 1 < w6.heap.size := (by omega)); (try have z36 : w.heap.size + 1 + 1 + 1 < w6.heap.size := (by omega)); (try have yw16 : w1.heap.size < w6.heap.size := (by omega)); (try have yw26 : w2.heap.size < w6.heap.size := (by omega)); (try have ywc6 : wc.heap.size < w6.heap.size := (by omega))))
  all_goals
    go_upto_region 12 with fail
    go_cut [7] from 9 to 67 (fun v7 wx => ∃ A5 c5, v7 = .slice A5 (ofN M).length c5 ∧ Hid (Kd.C (Kd.int .u32) wx A5 (ofN M).length (ofN M) ∧ (ofN M).length ≤ c5) ∧ Hid (Kd.C (Kd.int .u32) wx A6 (ofN X).length (ofN X) ∧ (ofN X).length ≤ c6) ∧ (BlkIs wx w.heap.size 25 (· = #[.int .i64 f, .int .i64 2, .bool ng, .slice A n c, .int .i64 0]) ∧ BlkIs wx (w.heap.size + 1) 48 (· = #[.bool false, .slice none 0 0]) ∧ BlkIs wx (w.heap.size + 1 + 1) 28 (· = #[.int .i64 0]) ∧ Below w.heap.size w wx))
    case first =>
      go_region_held3 (fun w' => Below (w6).heap.size (w6) w' ∧ ∀ b o, b < (w6).heap.size → w'.cell? ⟨b, o, none⟩ = (w6).cell? ⟨b, o, none⟩) (first | ((try go_split_ands); refine below_S ?_; ((repeat (first | with_reducible assumption | with_reducible exact Below.refl _ _ | with_reducible refine below_alloc ?_ _ | with_reducible refine pw_below_drewN ?_ _ | with_reducible refine below_drew1 ?_ | ((with_reducible refine below_set ?_ ?hle); (case hle => first | (simp; done) | omega | (simp; omega))) | with_reducible refine below_step ?_ (by with_reducible assumption))); done))) (first | (go_at_call 50; (with_reducible refine (HPW.out _).mono ?_); rintro e w3 ⟨v3, rfl, hv3, b3⟩; obtain ⟨A3, c3, rfl⟩ := Kd.R_slice hv3; have HV3 := Lib.hid (R_C hv3); clear hv3; obtain ⟨hc3, hf3⟩ := bcell b3; (try simp only [dr_size, dr_cell] at hc3); (try simp only [dr_size, dr_frozen] at hf3); have hz3 := below_size b3; (try simp at hz3); (try have z03 : w.heap.size < w3.heap.size := (by omega)); (try have z13 : w.heap.size + 1 < w3.heap.size := (by omega)); (try have z23 : w.heap.size + 1 + 1 < w3.heap.size := (by omega)); (try have z33 : w.heap.size + 1 + 1 + 1 < w3.heap.size := (by omega)); (try have yw13 : w1.heap.size < w3.heap.size := (by omega)); (try have yw23 : w2.heap.size < w3.heap.size := (by omega)); (try have ywc3 : wc.heap.size < w3.heap.size := (by omega))) | (go_at_call 60; (with_reducible refine (HFU.out _).mono ?_); rintro e w4 ⟨A4, n4, c4, rfl, HV4, b4⟩; obtain ⟨hc4, hf4⟩ := bcell b4; (try simp only [dr_size, dr_cell] at hc4); (try simp only [dr_size, dr_frozen] at hf4); have hz4 := below_size b4; (try simp at hz4); (try have z04 : w.heap.size < w4.heap.size := (by omega)); (try have z14 : w.heap.size + 1 < w4.heap.size := (by omega)); (try have z24 : w.heap.size + 1 + 1 < w4.heap.size := (by omega)); (try have z34 : w.heap.size + 1 + 1 + 1 < w4.heap.size := (by omega)); (try have yw14 : w1.heap.size < w4.heap.size := (by omega)); (try have yw24 : w2.heap.size < w4.heap.size := (by omega)); (try have ywc4 : wc.heap.size < w4.heap.size := (by omega)); (try have yw34 : w3.heap.size < w4.heap.size := (by omega))) | (go_at_call 59; (with_reducible refine (HMU.out _ _ _ _ _ _ (Kd.C_below HV3.out.1 bel) HV3.out.2 (Kd.C_below HV4.out.2 bel) HV4.out.1).mono ?_); rintro e w5 ⟨v5, rfl, hv5, b5⟩; obtain ⟨A5, c5, rfl⟩ := Kd.R_slice hv5; have HV5 := Lib.hid (R_C hv5); clear hv5; obtain ⟨hc5, hf5⟩ := bcell b5; (try simp only [dr_size, dr_cell] at hc5); (try simp only [dr_size, dr_frozen] at hf5); have hz5 := below_size b5; (try simp at hz5); (try have z05 : w.heap.size < w5.heap.size := (by omega)); (try have z15 : w.heap.size + 1 < w5.heap.size := (by omega)); (try have z25 : w.heap.size + 1 + 1 < w5.heap.size := (by omega)); (try have z35 : w.heap.size + 1 + 1 + 1 < w5.heap.size := (by omega)); (try have yw15 : w1.heap.size < w5.heap.size := (by omega)); (try have yw25 : w2.heap.size < w5.heap.size := (by omega)); (try have ywc5 : wc.heap.size < w5.heap.size := (by omega)); (try have yw35 : w3.heap.size < w5.heap.size := (by omega)); (try have yw45 : w4.heap.size < w5.heap.size := (by omega))))
      all_goals
        go_wp2_with fail
        go_meet
        exact ⟨_, _, rfl, Lib.hid ⟨Kd.C_below HV5.out.1 bel, HV5.out.2⟩, Lib.hid ⟨Kd.C_below HV6.out.1 bel, HV6.out.2⟩, blk0, blk0, blk0, bel⟩
    case rest =>
      obtain ⟨A5, c5, rfl, HV5, HV6, hin⟩ := hcut
      obtain ⟨HBD, HBY, HBE, hbw⟩ := hin
      have HBDh := Lib.hid HBD
      have HBYh := Lib.hid HBY
      have HBEh := Lib.hid HBE
      obtain ⟨csd, hbkd, rfl⟩ := HBD
      obtain ⟨csy, hbky, rfl⟩ := HBY
      obtain ⟨cse, hbke, rfl⟩ := HBE
      have d0 : wc.cell? ⟨w.heap.size, 0, none⟩ = some (.int .i64 f) := by simpa using blk_cell hbkd 0
      have d1 : wc.cell? ⟨w.heap.size, 1, none⟩ = some (.int .i64 2) := by simpa using blk_cell hbkd 1
      have d2 : wc.cell? ⟨w.heap.size, 2, none⟩ = some (.bool ng) := by simpa using blk_cell hbkd 2
      have d3 : wc.cell? ⟨w.heap.size, 3, none⟩ = some (.slice A n c) := by simpa using blk_cell hbkd 3
      have d4 : wc.cell? ⟨w.heap.size, 4, none⟩ = some (.int .i64 0) := by simpa using blk_cell hbkd 4
      have dz : w.heap.size < wc.heap.size := blk_lt hbkd
      have y0 : wc.cell? ⟨w.heap.size + 1, 0, none⟩ = some (.bool false) := by simpa using blk_cell hbky 0
      have yf0 : wc.frozen? ⟨w.heap.size + 1, 0, none⟩ = false := blk_frozen hbky 0
      have y1 : wc.cell? ⟨w.heap.size + 1, 1, none⟩ = some (.slice none 0 0) := by simpa using blk_cell hbky 1
      have yf1 : wc.frozen? ⟨w.heap.size + 1, 1, none⟩ = false := blk_frozen hbky 1
      have yz : w.heap.size + 1 < wc.heap.size := blk_lt hbky
      have e0 : wc.cell? ⟨w.heap.size + 1 + 1, 0, none⟩ = some (.int .i64 0) := by simpa using blk_cell hbke 0
      have ef0 : wc.frozen? ⟨w.heap.size + 1 + 1, 0, none⟩ = false := blk_frozen hbke 0
      have ez : w.heap.size + 1 + 1 < wc.heap.size := blk_lt hbke
      have HYr := Lib.hid hbky
      have HEr := Lib.hid hbke
      clear hbkd hbky hbke
      cases ng
      · go_wp2_with (first | (go_at_call 61; (with_reducible refine (HAD.out _ _ _ _ _ (Kd.C_below HV5.out.1 bel) HV5.out.2 (Kd.C_below HV6.out.1 bel) HV6.out.2).mono ?_); rintro e w8 ⟨v8, rfl, hv8, b8⟩; obtain ⟨A8, c8, rfl⟩ := Kd.R_slice hv8; have HV8 := Lib.hid hv8; clear hv8; obtain ⟨hc8, hf8⟩ := bcell b8; (try simp only [dr_size, dr_cell] at hc8); (try simp only [dr_size, dr_frozen] at hf8); have hz8 := below_size b8; (try simp at hz8); (try have z08 : w.heap.size < w8.heap.size := (by omega)); (try have z18 : w.heap.size + 1 < w8.heap.size := (by omega)); (try have z28 : w.heap.size + 1 + 1 < w8.heap.size := (by omega)); (try have z38 : w.heap.size + 1 + 1 + 1 < w8.heap.size := (by omega)); (try have ywc8 : wc.heap.size < w8.heap.size := (by omega))))
        have hbky := HYr.out
        have hbke := HEr.out
        (refine leaves_cons (f := 39) (args := #[.pointer (some ⟨w.heap.size + 1 + 1, 0, none⟩)]) (by simp) (by simp [go_sem]) ?_; refine (bcaught_idle _ _).mono ?_; rintro e u' w'' ⟨rfl, rfl, rfl⟩)
        exact ⟨.tuple #[.agg #[.bool false, .slice A8 (ofN (M + X)).length c8], .int .i64 0], rresults (rs := [.cell 2 48, .cell 3 28]) rfl (by simp) (.cell (w.heap.size + 1) rfl (load_agg (t := 48) blk1 Tryz.underlying48 rfl (by kernel_rfl)) (.cell (w.heap.size + 1 + 1) rfl (load_one (t := 28) blk1 (by kernel_rfl)) .nil)), _, by simp [*], Kd.R_lower (R_chg (S := fun k => k = w.heap.size + 1 ∨ k = w.heap.size + 1 + 1) HV8.out chg2 (by intro k hk; (try simp at hk ⊢); omega)) (by first | omega | (simp; omega)), bel⟩
      · go_wp2_with (first | (go_at_call 61; (with_reducible refine (HAD.out _ _ _ _ _ (Kd.C_below HV5.out.1 bel) HV5.out.2 (Kd.C_below HV6.out.1 bel) HV6.out.2).mono ?_); rintro e w8 ⟨v8, rfl, hv8, b8⟩; obtain ⟨A8, c8, rfl⟩ := Kd.R_slice hv8; have HV8 := Lib.hid hv8; clear hv8; obtain ⟨hc8, hf8⟩ := bcell b8; (try simp only [dr_size, dr_cell] at hc8); (try simp only [dr_size, dr_frozen] at hf8); have hz8 := below_size b8; (try simp at hz8); (try have z08 : w.heap.size < w8.heap.size := (by omega)); (try have z18 : w.heap.size + 1 < w8.heap.size := (by omega)); (try have z28 : w.heap.size + 1 + 1 < w8.heap.size := (by omega)); (try have z38 : w.heap.size + 1 + 1 + 1 < w8.heap.size := (by omega)); (try have ywc8 : wc.heap.size < w8.heap.size := (by omega))))
        have hbky := HYr.out
        have hbke := HEr.out
        (refine leaves_cons (f := 39) (args := #[.pointer (some ⟨w.heap.size + 1 + 1, 0, none⟩)]) (by simp) (by simp [go_sem]) ?_; refine (bcaught_idle _ _).mono ?_; rintro e u' w'' ⟨rfl, rfl, rfl⟩)
        exact ⟨.tuple #[.agg #[.bool (decide (0 < (ofN (M + X)).length)), .slice A8 (ofN (M + X)).length c8], .int .i64 0], rresults (rs := [.cell 2 48, .cell 3 28]) rfl (by simp) (.cell (w.heap.size + 1) rfl (load_agg (t := 48) blk1 Tryz.underlying48 rfl (by kernel_rfl)) (.cell (w.heap.size + 1 + 1) rfl (load_one (t := 28) blk1 (by kernel_rfl)) .nil)), _, by simp [*], Kd.R_lower (R_chg (S := fun k => k = w.heap.size + 1 ∨ k = w.heap.size + 1 + 1) HV8.out chg2 (by intro k hk; (try simp at hk ⊢); omega)) (by first | omega | (simp; omega)), bel⟩
end Go.Proofs.YtacnkcojhlbkoaaGreatDoor

set_option linter.unusedSimpArgs false
set_option linter.unusedVariables false
set_option linter.unnecessarySimpa false
namespace Go.Proofs.YtacnkcojhlbkoaaGreatDoor
open Go.RowKit Go.Proofs.YtacnkcojhlbkoaaGreatDoorW.PrintWords Go.Proofs.YtacnkcojhlbkoaaGreatDoorW.PrintLast Go.Proofs.YtacnkcojhlbkoaaGreatDoorW.PrintMore Go.Proofs.YtacnkcojhlbkoaaGreatDoor.NL
set_option maxRecDepth 100000
set_option exponentiation.threshold 130

def u32L (l : List Int) : Bool := l.all (fun x => decide (0 ≤ x ∧ x < 4294967296))
theorem u32L_of {l : List Int} (h : u32L l = true) : Lim l := fun x hx => by simpa using List.all_eq_true.1 h x hx
theorem u32L_mk {l : List Int} (h : Lim l) : u32L l = true := List.all_eq_true.2 (fun x hx => by simpa using h x hx)
theorem u32L_ofN (n : Nat) : u32L (ofN n) = true := u32L_mk (lim_ofN n)
def u64B (x : Int) : Bool := decide (0 ≤ x ∧ x < 18446744073709551616)
/-- The number of a raw's two words. -/
def rawN (hi lo : Int) : Nat := hi.toNat * 18446744073709551616 + lo.toNat
theorem rawN_wd {hi lo : Int} (h : u64B hi = true) (h2 : u64B lo = true) : Wd (rawN hi lo) hi lo := by
  simp only [u64B, decide_eq_true_eq] at h h2
  exact ⟨h.1, h.2, h2.1, h2.2, rfl⟩
theorem wd_words {N : Nat} {hi lo : Int} (h : Wd N hi lo) : hi = ((N / 18446744073709551616 : Nat) : Int) ∧ lo = ((N % 18446744073709551616 : Nat) : Int) := by
  obtain ⟨a0, a1, b0, b1, hN⟩ := h
  omega
def encN (f cl : Int) (ng : Bool) (l : List Int) (ex : Int) : Nat := if datOk f cl l ex then packN f cl ng (val l) ex else 0
def encE (f cl : Int) (l : List Int) (ex : Int) : Int := if datOk f cl l ex then 0 else 1

def binary_Encode.f (a0_0 a0_1 : Int) (a0_2 : Bool) (l0_3 : List Int) (a0_4 : Int) : Option (Int × Int × Int) :=
  if u32L l0_3 then some (((encN a0_0 a0_1 a0_2 l0_3 a0_4 / 18446744073709551616 : Nat) : Int), ((encN a0_0 a0_1 a0_2 l0_3 a0_4 % 18446744073709551616 : Nat) : Int), encE a0_0 a0_1 l0_3 a0_4) else none
theorem binary_Encode.calls (a0_0 a0_1 : Int) (a0_2 : Bool) (A0_3 : Option Addr) (c0_3 : Nat) (l0_3 : List Int) (a0_4 : Int) (r1 r2 r3 : Int) (w : World) (hr0_3 : Kd.C (Kd.int .u32) w A0_3 l0_3.length l0_3) (hc0_3 : l0_3.length ≤ c0_3) (h : binary_Encode.f a0_0 a0_1 a0_2 l0_3 a0_4 = some (r1, r2, r3)) :
    Calls Tryz.prog 30 #[.agg #[.int .i64 a0_0, .int .i64 a0_1, .bool a0_2, .slice A0_3 l0_3.length c0_3, .int .i64 a0_4]] w fun e w' => e = .returned (.tuple #[.agg #[.int .u64 r1, .int .u64 r2], .int .i64 r3]) ∧ Below w.heap.size w w' := by
  unfold binary_Encode.f at h
  split at h
  · rename_i hb
    simp only [Option.some.injEq, Prod.mk.injEq] at h
    obtain ⟨rfl, rfl, rfl⟩ := h
    refine (encode_any w hr0_3 (u32L_of hb) hc0_3).mono ?_
    rintro e w' ⟨hi, lo, rfl, hw, hb⟩
    obtain ⟨rfl, rfl⟩ := wd_words hw.out
    exact ⟨rfl, hb⟩
  · cases h

def decodeR (f : Int) (N : Nat) : Int × Int × Bool × List Int × Int × Int :=
  if isFm f = true ∧ N < 2 ^ (topN f + 1) then (f, (decN f N).1, decNeg f N, ofN (decN f N).2.1, (decN f N).2.2, 0) else (0, 0, false, [], 0, 1)
def binary_Decode.f (a0 a1_0 a1_1 : Int) : Option (Int × Int × Bool × List Int × Int × Int) := if u64B a1_0 && u64B a1_1 then some (decodeR a0 (rawN a1_0 a1_1)) else none
theorem binary_Decode.calls (a0 a1_0 a1_1 : Int) (r1 r2 : Int) (r3 : Bool) (r4 : List Int) (r5 r6 : Int) (w : World) (h : binary_Decode.f a0 a1_0 a1_1 = some (r1, r2, r3, r4, r5, r6)) :
    Calls Tryz.prog 31 #[.int .i64 a0, .agg #[.int .u64 a1_0, .int .u64 a1_1]] w fun e w' => ∃ v3_ : Value, e = .returned (.tuple #[.agg #[.int .i64 r1, .int .i64 r2, .bool r3, v3_, .int .i64 r5], .int .i64 r6]) ∧ Kd.R (Kd.int .u32) 40 w' w.heap.size (fun _ => True) v3_ r4 ∧ Below w.heap.size w w' := by
  unfold binary_Decode.f at h
  split at h
  · rename_i hb
    simp only [Bool.and_eq_true] at hb
    have hw := rawN_wd hb.1 hb.2
    unfold decodeR at h
    split at h
    · rename_i hd
      simp only [Option.some.injEq, Prod.mk.injEq] at h
      obtain ⟨rfl, rfl, rfl, rfl, rfl, rfl⟩ := h
      exact decode_ok a0 w hw hd.1 hd.2
    · rename_i hd
      simp only [Option.some.injEq, Prod.mk.injEq] at h
      obtain ⟨rfl, rfl, rfl, rfl, rfl, rfl⟩ := h
      cases hf : isFm a0 with
      | false => exact decode_no a0 w hf
      | true => exact decode_far a0 w hw hf (Nat.le_of_not_lt fun h => hd ⟨hf, h⟩)
  · cases h

def makeR (f : Int) (ng : Bool) (l : List Int) (ex : Int) : Int × Int × Bool × List Int × Int × Int :=
  if isFm f = false ∨ okN l = false then (0, 0, false, [], 0, 1)
  else if val l = 0 then (f, 1, ng, [], fmL f, 0)
  else if makeC1 f ex = false ∨ makeC2 f ex l = false then (0, 0, false, [], 0, 3)
  else (f, 1, ng, if makeQ f ex (blen (val l)) ≤ ex then ofN (val l * 2 ^ (ex - makeQ f ex (blen (val l))).toNat) else ofN (val l / 2 ^ (makeQ f ex (blen (val l)) - ex).toNat), makeQ f ex (blen (val l)), 0)
def binary_Make.f (a0 : Int) (a1 : Bool) (l2 : List Int) (a3 : Int) : Option (Int × Int × Bool × List Int × Int × Int) := if u32L l2 then some (makeR a0 a1 l2 a3) else none
theorem binary_Make.calls (a0 : Int) (a1 : Bool) (A2 : Option Addr) (c2 : Nat) (l2 : List Int) (a3 : Int) (r1 r2 : Int) (r3 : Bool) (r4 : List Int) (r5 r6 : Int) (w : World) (hr2 : Kd.C (Kd.int .u32) w A2 l2.length l2) (hc2 : l2.length ≤ c2) (h : binary_Make.f a0 a1 l2 a3 = some (r1, r2, r3, r4, r5, r6)) (hT : Tab w) :
    Calls Tryz.prog 35 #[.int .i64 a0, .bool a1, .slice A2 l2.length c2, .int .i64 a3] w fun e w' => ∃ v3_ : Value, e = .returned (.tuple #[.agg #[.int .i64 r1, .int .i64 r2, .bool r3, v3_, .int .i64 r5], .int .i64 r6]) ∧ Kd.R (Kd.int .u32) 40 w' w.heap.size (fun _ => True) v3_ r4 ∧ Below w.heap.size w w' := by
  unfold binary_Make.f at h
  split at h
  · rename_i hb
    have la := u32L_of hb
    unfold makeR at h
    cases hf : isFm a0 with
    | false =>
      rw [if_pos (.inl hf)] at h
      simp only [Option.some.injEq, Prod.mk.injEq] at h
      obtain ⟨rfl, rfl, rfl, rfl, rfl, rfl⟩ := h
      exact make_nofm (a := l2) w hf
    | true =>
      cases hok : okN l2 with
      | false =>
        rw [if_pos (.inr hok)] at h
        simp only [Option.some.injEq, Prod.mk.injEq] at h
        obtain ⟨rfl, rfl, rfl, rfl, rfl, rfl⟩ := h
        exact make_bad w hf hr2 la hok
      | true =>
        rw [if_neg (by rw [hf, hok]; simp)] at h
        by_cases hz : val l2 = 0
        · rw [if_pos hz] at h
          simp only [Option.some.injEq, Prod.mk.injEq] at h
          obtain ⟨rfl, rfl, rfl, rfl, rfl, rfl⟩ := h
          exact make_zero w hf hr2 la hc2 hok hz
        · rw [if_neg hz] at h
          cases h1 : makeC1 a0 a3 with
          | false =>
            rw [if_pos (.inl h1)] at h
            simp only [Option.some.injEq, Prod.mk.injEq] at h
            obtain ⟨rfl, rfl, rfl, rfl, rfl, rfl⟩ := h
            exact make_c1 w hT hf hr2 la hc2 hok hz h1
          | true =>
            cases h2 : makeC2 a0 a3 l2 with
            | false =>
              rw [if_pos (.inr h2)] at h
              simp only [Option.some.injEq, Prod.mk.injEq] at h
              obtain ⟨rfl, rfl, rfl, rfl, rfl, rfl⟩ := h
              exact make_c2 w hT hf hr2 la hc2 hok hz h1 h2
            | true =>
              rw [if_neg (by rw [h1, h2]; simp)] at h
              simp only [Option.some.injEq, Prod.mk.injEq] at h
              obtain ⟨rfl, rfl, rfl, rfl, rfl, rfl⟩ := h
              by_cases hq : makeQ a0 a3 (blen (val l2)) ≤ a3
              · rw [if_pos hq]; exact make_shl w hT hf hr2 la hc2 hok hz h1 h2 hq
              · rw [if_neg hq]; exact make_shr w hT hf hr2 la hc2 hok hz h1 h2 (by omega)
  · cases h

def valueR (f cl : Int) (ng : Bool) (l : List Int) (ex : Int) : Bool × List Int × Int × Int :=
  if datOk f cl l ex = false then (false, [], 0, 1) else if cl ≠ 1 then (false, [], 0, 5) else if val l = 0 then (false, [], 0, 0) else (ng, ofN (val l / 2 ^ tz (val l)), ex + (tz (val l) : Nat), 0)
def binary_Value.f (a0_0 a0_1 : Int) (a0_2 : Bool) (l0_3 : List Int) (a0_4 : Int) : Option (Bool × List Int × Int × Int) := if u32L l0_3 then some (valueR a0_0 a0_1 a0_2 l0_3 a0_4) else none
theorem binary_Value.calls (a0_0 a0_1 : Int) (a0_2 : Bool) (A0_3 : Option Addr) (c0_3 : Nat) (l0_3 : List Int) (a0_4 : Int) (r1 : Bool) (r2 : List Int) (r3 r4 : Int) (w : World) (hr0_3 : Kd.C (Kd.int .u32) w A0_3 l0_3.length l0_3) (hc0_3 : l0_3.length ≤ c0_3) (h : binary_Value.f a0_0 a0_1 a0_2 l0_3 a0_4 = some (r1, r2, r3, r4)) (hT : Tab w) :
    Calls Tryz.prog 21 #[.agg #[.int .i64 a0_0, .int .i64 a0_1, .bool a0_2, .slice A0_3 l0_3.length c0_3, .int .i64 a0_4]] w fun e w' => ∃ v1_ : Value, e = .returned (.tuple #[.agg #[.bool r1, v1_, .int .i64 r3], .int .i64 r4]) ∧ Kd.R (Kd.int .u32) 40 w' w.heap.size (fun _ => True) v1_ r2 ∧ Below w.heap.size w w' := by
  unfold binary_Value.f at h
  split at h
  · rename_i hb
    have la := u32L_of hb
    unfold valueR datOk at h
    cases hf : isFm a0_0 with
    | false =>
      rw [hf, if_pos (by simp)] at h
      simp only [Option.some.injEq, Prod.mk.injEq] at h
      obtain ⟨rfl, rfl, rfl, rfl⟩ := h
      exact value_no (a := l0_3) w hf
    | true =>
      cases hh : hasB a0_0 a0_1 l0_3 a0_4 with
      | false =>
        rw [hf, hh, if_pos (by simp)] at h
        simp only [Option.some.injEq, Prod.mk.injEq] at h
        obtain ⟨rfl, rfl, rfl, rfl⟩ := h
        exact value_bad w hf hr0_3 la hc0_3 hh
      | true =>
        rw [hf, hh, if_neg (by simp)] at h
        by_cases h1 : a0_1 = 1
        · subst h1
          rw [if_neg (by simp)] at h
          by_cases hz : val l0_3 = 0
          · rw [if_pos hz] at h
            simp only [Option.some.injEq, Prod.mk.injEq] at h
            obtain ⟨rfl, rfl, rfl, rfl⟩ := h
            have hok : okN l0_3 = true := by unfold hasB at hh; exact ((Bool.and_eq_true _ _).mp hh).1
            have hl : l0_3 = [] := by
              rw [← ofN_val la (okN_iff.1 hok).2, hz, ofN_zero]
            subst hl
            exact value_zero w hf hr0_3 hh
          · rw [if_neg hz] at h
            simp only [Option.some.injEq, Prod.mk.injEq] at h
            obtain ⟨rfl, rfl, rfl, rfl⟩ := h
            exact value_ok w hT hf hr0_3 la hc0_3 hh hz
        · rw [if_pos h1] at h
          simp only [Option.some.injEq, Prod.mk.injEq] at h
          obtain ⟨rfl, rfl, rfl, rfl⟩ := h
          exact value_cls w hf hr0_3 la hc0_3 hh h1
  · cases h

/-- The place of a datum that is no NaN, without its sign. -/
def placeN (f cl : Int) (x : Nat) (ex : Int) : Nat := if cl = 2 then 2 ^ oneN f * (fmH f - fmL f).toNat + 2 ^ (oneN f + 1) else 2 ^ oneN f * (ex - fmL f).toNat + x
def indexR (f cl : Int) (ng : Bool) (l : List Int) (ex : Int) : Bool × List Int × Int :=
  if datOk f cl l ex = false then (false, [], 1) else if cl = 3 ∨ cl = 4 then (false, [], 5) else (ng && decide (0 < placeN f cl (val l) ex), ofN (placeN f cl (val l) ex), 0)
def binary_Index.f (a0_0 a0_1 : Int) (a0_2 : Bool) (l0_3 : List Int) (a0_4 : Int) : Option (Bool × List Int × Int) := if u32L l0_3 then some (indexR a0_0 a0_1 a0_2 l0_3 a0_4) else none
theorem binary_Index.calls (a0_0 a0_1 : Int) (a0_2 : Bool) (A0_3 : Option Addr) (c0_3 : Nat) (l0_3 : List Int) (a0_4 : Int) (r1 : Bool) (r2 : List Int) (r3 : Int) (w : World) (hr0_3 : Kd.C (Kd.int .u32) w A0_3 l0_3.length l0_3) (hc0_3 : l0_3.length ≤ c0_3) (h : binary_Index.f a0_0 a0_1 a0_2 l0_3 a0_4 = some (r1, r2, r3)) :
    Calls Tryz.prog 22 #[.agg #[.int .i64 a0_0, .int .i64 a0_1, .bool a0_2, .slice A0_3 l0_3.length c0_3, .int .i64 a0_4]] w fun e w' => ∃ v1_ : Value, e = .returned (.tuple #[.agg #[.bool r1, v1_], .int .i64 r3]) ∧ Kd.R (Kd.int .u32) 40 w' w.heap.size (fun _ => True) v1_ r2 ∧ Below w.heap.size w w' := by
  unfold binary_Index.f at h
  split at h
  · rename_i hb
    have la := u32L_of hb
    unfold indexR datOk at h
    cases hf : isFm a0_0 with
    | false =>
      rw [hf, if_pos (by simp)] at h
      simp only [Option.some.injEq, Prod.mk.injEq] at h
      obtain ⟨rfl, rfl, rfl⟩ := h
      exact index_no (a := l0_3) w hf
    | true =>
      cases hh : hasB a0_0 a0_1 l0_3 a0_4 with
      | false =>
        rw [hf, hh, if_pos (by simp)] at h
        simp only [Option.some.injEq, Prod.mk.injEq] at h
        obtain ⟨rfl, rfl, rfl⟩ := h
        exact index_bad w hf hr0_3 la hc0_3 hh
      | true =>
        rw [hf, hh, if_neg (by simp)] at h
        by_cases h3 : a0_1 = 3 ∨ a0_1 = 4
        · rw [if_pos h3] at h
          simp only [Option.some.injEq, Prod.mk.injEq] at h
          obtain ⟨rfl, rfl, rfl⟩ := h
          exact index_nan w hf hr0_3 la hc0_3 hh h3
        · rw [if_neg h3] at h
          simp only [Option.some.injEq, Prod.mk.injEq] at h
          obtain ⟨rfl, rfl, rfl⟩ := h
          unfold placeN
          by_cases h1 : a0_1 = 1
          · subst h1
            rw [if_neg (by decide)]
            exact index_fin w hf hr0_3 la hc0_3 hh
          · have h2 : a0_1 = 2 := by
              have := hh
              unfold hasB fits at this
              rw [if_neg h1] at this
              by_cases h2 : a0_1 = 2
              · exact h2
              · rw [if_neg h2, if_neg (fun h => h3 (.inl h)), if_neg (fun h => h3 (.inr h))] at this
                simp at this
            subst h2
            rw [if_pos rfl]
            exact index_inf w hf hr0_3 la hc0_3 hh
  · cases h

end Go.Proofs.YtacnkcojhlbkoaaGreatDoor

set_option linter.unusedSimpArgs false
set_option linter.unusedVariables false
set_option linter.unnecessarySimpa false
namespace Go.Proofs.YtacnkcojhlbkoaaGreatDoor
open Go.RowKit Go.Proofs.YtacnkcojhlbkoaaGreatDoorW.PrintWords Go.Proofs.YtacnkcojhlbkoaaGreatDoorW.PrintLast Go.Proofs.YtacnkcojhlbkoaaGreatDoorW.PrintMore Go.Proofs.YtacnkcojhlbkoaaGreatDoor.NL
def sorobanref01_Trim.f (l0 : List Int) : Option (List Int) := if u32L l0 && decide (l0.length ≤ 1000000000) then some (ofN (val l0)) else none
theorem sorobanref01_Trim.calls (A0 : Option Addr) (c0 : Nat) (l0 : List Int) (r : List Int) (w : World) (hr0 : Kd.C (Kd.int .u32) w A0 l0.length l0) (hc0 : l0.length ≤ c0) (h : sorobanref01_Trim.f l0 = some r) :
    Calls Tryz.prog 84 #[.slice A0 l0.length c0] w fun e w' => ∃ v0_ : Value, e = .returned (v0_) ∧ Kd.R (Kd.int .u32) 40 w' w.heap.size (fun _ => True) v0_ r ∧ Below w.heap.size w w' := by
  unfold sorobanref01_Trim.f at h
  split at h
  · rename_i hb
    simp only [Bool.and_eq_true, decide_eq_true_eq] at hb
    simp only [Option.some.injEq] at h
    subst h
    exact rtrim_any A0 c0 l0 w hr0 (u32L_of hb.1) hc0 hb.2
  · cases h
end Go.Proofs.YtacnkcojhlbkoaaGreatDoor
