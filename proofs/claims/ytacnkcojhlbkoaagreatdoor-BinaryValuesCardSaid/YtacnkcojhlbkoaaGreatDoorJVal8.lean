/- binary: words of 128 bits, as numbers. binary: the formats; what stops, what is caught. The specification's Shl: a number times a power of 2. The specification's Mul: a product. binary: whether a format has a datum. -/
import Derived.Test.YtacnkcojhlbkoaaGreatDoorJVal7
import Derived.Deep.WholeRow
import Derived.Deep.CutBlock
import Derived.Great.BuildSlice
import Derived.Deep.DeepCutAuto
import Derived.Test.YtacnkcojhlbkoaaGreatDoorJVal3
import Derived.Test.YtacnkcojhlbkoaaGreatDoorJVal5
import Derived.Laws.OwnMore
set_option linter.unusedSimpArgs false
set_option linter.unusedVariables false
set_option linter.unnecessarySimpa false
namespace Go.Proofs.YtacnkcojhlbkoaaGreatDoor
open Go.RowKit Go.Proofs.YtacnkcojhlbkoaaGreatDoorW.PrintWords Go.Proofs.YtacnkcojhlbkoaaGreatDoorW.PrintLast Go.Proofs.YtacnkcojhlbkoaaGreatDoorW.PrintMore Go.Proofs.YtacnkcojhlbkoaaGreatDoor.NL
set_option maxRecDepth 100000

@[go_sem] abbrev wV (hi lo : Int) : Value := .agg #[.int .u64 hi, .int .u64 lo]
def GivesW (N : Nat) (w : World) (e : Ending) (w' : World) : Prop := ∃ hi lo : Int, e = .returned (wV hi lo) ∧ Hid (Wd N hi lo) ∧ Below w.heap.size w w'

set_option maxHeartbeats 2000000 in
theorem wshl_any {N : Nat} {hi lo : Int} (k : Nat) (w : World) (hw : Wd N hi lo) (hk : k ≤ 128) :
    Calls Tryz.prog 100 #[wV hi lo, .int .i64 k] w (GivesW (N * 2 ^ k % W128) w) := by
  have HW := Lib.hid hw
  obtain ⟨a0, a1, b0, b1, -⟩ := hw
  by_cases h0 : k = 0
  · subst h0
    have hm : N * 2 ^ 0 % W128 = N := by rw [Nat.pow_zero, Nat.mul_one, Nat.mod_eq_of_lt HW.out.lt]
    rw [hm]
    clear hm
    go_enter Tryz.func100, Tryz.ntmps100
    go_wp2
    exact bodyPost_ret (v := wV hi lo) (by simp [results, Tryz.results100, go_sem]) rfl ⟨_, _, rfl, HW, bel⟩
  · have t0 : ((k : Int) == 0) = false := by simp; omega
    by_cases h1 : 64 ≤ k
    · have d0 : decide (64 ≤ (k : Int)) = true := decide_eq_true (by omega)
      have HV := Lib.hid (HW.out.shlB h1)
      generalize N * 2 ^ k % W128 = M at *
      obtain ⟨m, rfl⟩ : ∃ m, k = m + 64 := ⟨k - 64, by omega⟩
      rw [Nat.add_sub_cancel] at HV
      have e0 : ((m : Int) + 64 - 64) = m := by omega
      go_enter Tryz.func100, Tryz.ntmps100
      go_wp2
      exact bodyPost_ret (v := wV (IntKind.u64.wrap (lo * 2 ^ m)) 0) (by simp [results, Tryz.results100, go_sem]) rfl ⟨_, _, rfl, HV, bel⟩
    · have d0 : decide (64 ≤ (k : Int)) = false := decide_eq_false (by omega)
      have h2 : k < 64 := by omega
      have HV := Lib.hid (HW.out.shlA (k := k) (by omega))
      generalize N * 2 ^ k % W128 = M at *
      go_enter Tryz.func100, Tryz.ntmps100
      go_wp2
      go_region
      go_wp2
      exact bodyPost_ret (v := wV (bits .or .u64 (IntKind.u64.wrap (hi * 2 ^ k)) (lo / 2 ^ (64 - k))) (IntKind.u64.wrap (lo * 2 ^ k))) (by simp [results, Tryz.results100, go_sem]) rfl ⟨_, _, rfl, HV, bel⟩

set_option maxHeartbeats 2000000 in
theorem wshr_any {N : Nat} {hi lo : Int} (k : Nat) (w : World) (hw : Wd N hi lo) (hk : k ≤ 128) :
    Calls Tryz.prog 105 #[wV hi lo, .int .i64 k] w (GivesW (N / 2 ^ k) w) := by
  have HW := Lib.hid hw
  obtain ⟨a0, a1, b0, b1, -⟩ := hw
  by_cases h0 : k = 0
  · subst h0
    rw [Nat.pow_zero, Nat.div_one]
    go_enter Tryz.func105, Tryz.ntmps105
    go_wp2
    exact bodyPost_ret (v := wV hi lo) (by simp [results, Tryz.results105, go_sem]) rfl ⟨_, _, rfl, HW, bel⟩
  · have t0 : ((k : Int) == 0) = false := by simp; omega
    by_cases h1 : 64 ≤ k
    · have d0 : decide (64 ≤ (k : Int)) = true := decide_eq_true (by omega)
      have HV := Lib.hid (HW.out.shrB h1)
      generalize N / 2 ^ k = M at *
      obtain ⟨m, rfl⟩ : ∃ m, k = m + 64 := ⟨k - 64, by omega⟩
      rw [Nat.add_sub_cancel] at HV
      have e0 : ((m : Int) + 64 - 64) = m := by omega
      have hm : m ≤ 64 := by omega
      go_enter Tryz.func105, Tryz.ntmps105
      go_wp2
      exact bodyPost_ret (v := wV 0 (hi / 2 ^ m)) (by simp [results, Tryz.results105, go_sem]) rfl ⟨_, _, rfl, HV, bel⟩
    · have d0 : decide (64 ≤ (k : Int)) = false := decide_eq_false (by omega)
      have h2 : k < 64 := by omega
      have HV := Lib.hid (HW.out.shrA (k := k) (by omega))
      generalize N / 2 ^ k = M at *
      go_enter Tryz.func105, Tryz.ntmps105
      go_wp2
      go_region
      go_wp2
      exact bodyPost_ret (v := wV (hi / 2 ^ k) (bits .or .u64 (lo / 2 ^ k) (IntKind.u64.wrap (hi * 2 ^ (64 - k))))) (by simp [results, Tryz.results105, go_sem]) rfl ⟨_, _, rfl, HV, bel⟩

set_option maxHeartbeats 1000000 in
theorem wlow_any {N : Nat} {hi lo : Int} (k : Nat) (w : World) (hw : Wd N hi lo) (hk : k ≤ 128) :
    Calls Tryz.prog 106 #[wV hi lo, .int .i64 k] w (GivesW (N % 2 ^ k) w) := by
  obtain ⟨m, hm⟩ : ∃ m, 128 - k = m := ⟨_, rfl⟩
  have hmi : (128 - (k : Int)) = (m : Int) := by omega
  have hm2 : m ≤ 128 := by omega
  have HL : Hid (∀ w', Calls Tryz.prog 100 #[wV hi lo, .int .i64 m] w' (GivesW (N * 2 ^ m % W128) w')) := Lib.hid fun w' => wshl_any m w' hw hm2
  have hv : N * 2 ^ m % W128 / 2 ^ m = N % 2 ^ k := by
    have e : W128 = 2 ^ k * 2 ^ m := by rw [← Nat.pow_add, show k + m = 128 by omega]
    rw [e, Nat.mul_comm N, Nat.mul_comm (2 ^ k), Nat.mul_mod_mul_left, Nat.mul_div_cancel_left _ (Nat.two_pow_pos m)]
  rw [← hv]
  generalize N * 2 ^ m % W128 = M at *
  obtain ⟨a0, a1, b0, b1, -⟩ := hw
  clear hm hv
  go_enter Tryz.func106, Tryz.ntmps106
  go_wp2_with fail
  refine (HL.out _).mono ?_
  rintro e w1 ⟨h1, l1, rfl, hw1, b1⟩
  go_wp2_with fail
  refine (wshr_any m _ hw1.out hm2).mono ?_
  rintro e w2 ⟨h2, l2, rfl, hw2, b2⟩
  obtain ⟨hc1, hf1⟩ := bcell b1
  obtain ⟨hc2, hf2⟩ := bcell b2
  have hz1 := below_size b1
  have hz2 := below_size b2
  simp at hz1
  have z0 : w.heap.size < w1.heap.size := by omega
  have z1 : w.heap.size + 1 < w1.heap.size := by omega
  have y0 : w.heap.size < w2.heap.size := by omega
  have y1 : w.heap.size + 1 < w2.heap.size := by omega
  go_wp2
  exact bodyPost_ret (v := wV h2 l2) (by simp [results, Tryz.results106, go_sem, hc1, hc2, hz1, hz2, z0, z1, y0, y1]) rfl ⟨_, _, rfl, hw2, bel⟩

theorem len64 (x : Int) (h0 : 0 ≤ x) (h1 : x < 18446744073709551616) (w : World) :
    Calls Tryz.prog 104 #[.int .u64 x] w fun r w' => r = .returned (.int .i64 (blen x.toNat)) ∧ w = w' := by
  refine (Tryz.bits_Len64 x w h0 (by omega)).mono ?_
  rintro e w' ⟨rfl, rfl⟩
  exact ⟨by rw [blen_bitLen (by omega)], rfl⟩

set_option maxHeartbeats 1000000 in
theorem wsize_any {N : Nat} {hi lo : Int} (w : World) (hw : Wd N hi lo) :
    Calls Tryz.prog 73 #[wV hi lo] w fun e w' => e = .returned (.int .i64 (blen N)) ∧ Below w.heap.size w w' := by
  have HH : Hid (∀ w', Calls Tryz.prog 104 #[.int .u64 hi] w' fun r w'' => r = .returned (.int .i64 (blen hi.toNat)) ∧ w' = w'') := Lib.hid fun w' => len64 hi hw.1 hw.2.1 w'
  have HL : Hid (∀ w', Calls Tryz.prog 104 #[.int .u64 lo] w' fun r w'' => r = .returned (.int .i64 (blen lo.toNat)) ∧ w' = w'') := Lib.hid fun w' => len64 lo hw.2.2.1 hw.2.2.2.1 w'
  obtain ⟨a0, a1, b0, b1, hN⟩ := hw
  have hs1 : blen hi.toNat ≤ 64 := blen_le.2 (by omega)
  have hs2 : blen lo.toNat ≤ 64 := blen_le.2 (by omega)
  have HV : Hid (if 0 < hi then (64 : Int) + blen hi.toNat = blen N else (blen lo.toNat : Int) = blen N) := Lib.hid (by
    split
    · have h := blen_div (n := N) (k := 64) (by omega)
      have e : N / 2 ^ 64 = hi.toNat := by omega
      rw [e] at h
      rw [h]; push_cast; rfl
    · have e : N = lo.toNat := by omega
      rw [e])
  clear hN
  generalize blen hi.toNat = x at *
  generalize blen lo.toNat = y at *
  generalize blen N = z at *
  by_cases h : 0 < hi
  · have HV2 := Lib.hid HV.out
    rw [if_pos h] at HV2
    go_enter Tryz.func73, Tryz.ntmps73
    go_wp2_with (go_at_call 104; (with_reducible refine (HH.out _).mono ?_); rintro e w2 ⟨rfl, rfl⟩)
    go_ret
    exact ⟨by rw [← HV2.out]; rfl, bel⟩
  · have HV2 := Lib.hid HV.out
    rw [if_neg h] at HV2
    have h2 : hi ≤ 0 := by omega
    have d0 : decide (0 < hi) = false := decide_eq_false h
    clear h
    go_enter Tryz.func73, Tryz.ntmps73
    go_wp2_with (go_at_call 104; (with_reducible refine (HL.out _).mono ?_); rintro e w2 ⟨rfl, rfl⟩)
    go_ret
    exact ⟨by rw [← HV2.out]; rfl, bel⟩

theorem word_list {a : List Int} (la : Lim a) : Wd (val [a.getD 0 0, a.getD 1 0, a.getD 2 0, a.getD 3 0]) (a.getD 3 0 * 4294967296 + a.getD 2 0) (a.getD 1 0 * 4294967296 + a.getD 0 0) := by
  obtain ⟨x0, x1⟩ := lim_getD la 0
  obtain ⟨y0, y1⟩ := lim_getD la 1
  obtain ⟨z0, z1⟩ := lim_getD la 2
  obtain ⟨u0, u1⟩ := lim_getD la 3
  refine ⟨by omega, by omega, by omega, by omega, ?_⟩
  simp only [val]
  omega
theorem val4 {a : List Int} (la : Lim a) (h : a.length ≤ 4) : val [a.getD 0 0, a.getD 1 0, a.getD 2 0, a.getD 3 0] = val a := by
  have e := val_take_succ a 3
  rw [take_all (by omega), val_take_succ a 2, val_take_succ a 1, val_take_succ a 0] at e
  rw [e]
  simp only [val, List.take_zero, W]
  omega
theorem or_two' (x y : Int) (x0 : 0 ≤ x) (x1 : x < 4294967296) (y0 : 0 ≤ y) (y1 : y < 4294967296) : bits .or .u64 (y * 4294967296) x = y * 4294967296 + x := by
  rw [u64_or _ _ (by omega) (by omega) x0 (by omega), nat_join 32]
  · omega
  · rw [Int.toNat_mul y0 (by omega)]; exact Nat.mul_mod_left _ _
  · omega
def wc (a : List Int) (i k : Nat) : Int := if i < k then a.getD i 0 else 0
def WoRel (a : List Int) (w0 : World) (vi : Value) (wr : World) : Prop :=
  ∃ (k : Nat), k ≤ a.length ∧ vi = .int .i64 k ∧ BlkIs wr (w0.heap.size + 1) 168 (· = #[.int .u64 (wc a 0 k), .int .u64 (wc a 1 k), .int .u64 (wc a 2 k), .int .u64 (wc a 3 k)]) ∧ BlkIs wr w0.heap.size 106 (· = #[.int .u64 0, .int .u64 0]) ∧ Below w0.heap.size w0 wr
theorem wc_end {a : List Int} {n : Nat} (h : a.length = n) (i : Nat) : wc a i n = a.getD i 0 := by
  unfold wc
  split
  · rfl
  · rw [List.getD_eq_getElem?_getD, List.getElem?_eq_none (by omega)]; rfl

set_option maxHeartbeats 4000000 in
theorem wordOf_any {A : Option Addr} {n c : Nat} {a : List Int} (w : World) (hA : Kd.C (Kd.int .u32) w A n a) (la : Lim a) (hn : n ≤ 4) :
    Calls Tryz.prog 122 #[.slice A n c] w (GivesW (val a) w) := by
  have hl : a.length = n := hA.1
  have HL := Lib.hid hl
  have HA := Lib.hid hA
  clear hl hA
  go_enter Tryz.func122, Tryz.ntmps122
  go_wp2
  go_loopw [8] (fun vi wr => WoRel a w vi wr) (fun vi _ => n - (intOf vi).toNat)
  case atStart => exact ⟨0, by omega, rfl, by simpa [wc] using (blk0 (t := 168) (f := (· = #[.int .u64 0, .int .u64 0, .int .u64 0, .int .u64 0]))), blk0, bel⟩
  case round =>
    obtain ⟨k, hk, rfl, hb1, hb2, hbw⟩ := hrel
    rw [HL.out] at hk
    obtain ⟨cs, hbk, rfl⟩ := hb1
    obtain ⟨cs2, hbk2, rfl⟩ := hb2
    have k0 : wr.cell? ⟨w.heap.size + 1, 0, none⟩ = some (.int .u64 (wc a 0 k)) := by simpa using blk_cell hbk 0
    have k1 : wr.cell? ⟨w.heap.size + 1, 1, none⟩ = some (.int .u64 (wc a 1 k)) := by simpa using blk_cell hbk 1
    have k2 : wr.cell? ⟨w.heap.size + 1, 2, none⟩ = some (.int .u64 (wc a 2 k)) := by simpa using blk_cell hbk 2
    have k3 : wr.cell? ⟨w.heap.size + 1, 3, none⟩ = some (.int .u64 (wc a 3 k)) := by simpa using blk_cell hbk 3
    have f1 := fun i => blk_frozen hbk i
    have r0 : wr.cell? ⟨w.heap.size, 0, none⟩ = some (.int .u64 0) := by simpa using blk_cell hbk2 0
    have r1 : wr.cell? ⟨w.heap.size, 1, none⟩ = some (.int .u64 0) := by simpa using blk_cell hbk2 1
    have f2 := fun i => blk_frozen hbk2 i
    have z1 := blk_lt hbk
    have HB1 : Hid (BlkIs wr (w.heap.size + 1) 168 (· = #[.int .u64 (wc a 0 k), .int .u64 (wc a 1 k), .int .u64 (wc a 2 k), .int .u64 (wc a 3 k)])) := Lib.hid ⟨_, hbk, rfl⟩
    have HB2 : Hid (BlkIs wr w.heap.size 106 (· = #[.int .u64 0, .int .u64 0])) := Lib.hid ⟨_, hbk2, rfl⟩
    have z2 := blk_lt hbk2
    clear hbk hbk2
    by_cases hlt : k < n
    · obtain ⟨b, off, rfl, hb, hcs⟩ := open_C (Kd.C_below HA.out hbw) (by omega)
      have hcell := hcs k hlt
      obtain ⟨x0, x1⟩ := lim_getD la k
      obtain ⟨x, hx⟩ : ∃ x, a.getD k 0 = x := ⟨_, rfl⟩
      rw [hx] at hcell x0 x1
      have HX := Lib.hid hx
      clear hcs hx
      obtain ⟨v, hv⟩ : ∃ v, wr.cell? ⟨w.heap.size + 1, k, none⟩ = some (.int .u64 v) := by
        rcases (by omega : k = 0 ∨ k = 1 ∨ k = 2 ∨ k = 3) with rfl | rfl | rfl | rfl
        · exact ⟨_, k0⟩
        · exact ⟨_, k1⟩
        · exact ⟨_, k2⟩
        · exact ⟨_, k3⟩
      have hk4 : k < 4 := by omega
      have fk := f1 k
      clear f1 f2 k0 k1 k2 k3 r0 r1
      go_wp2
      go_roundw
      case rel =>
        refine ⟨k + 1, by rw [HL.out]; omega, by simp, ?_, BlkIs.far HB2.out (by simp), bel⟩
        refine BlkIs.set ?_
        obtain ⟨cs, hcs, rfl⟩ := HB1.out
        refine ⟨_, hcs, ?_⟩
        rw [← HX.out]
        rcases (by omega : k = 0 ∨ k = 1 ∨ k = 2 ∨ k = 3) with rfl | rfl | rfl | rfl <;> simp [wc]
      case measure => simp [intOf]; omega
    · obtain rfl : k = n := by omega
      have e0 := wc_end HL.out 0
      have e1 := wc_end HL.out 1
      have e2 := wc_end HL.out 2
      have e3 := wc_end HL.out 3
      rw [e0] at k0
      rw [e1] at k1
      rw [e2] at k2
      rw [e3] at k3
      have hw := word_list la
      rw [val4 la (by rw [HL.out]; exact hn)] at hw
      have HW := Lib.hid hw
      obtain ⟨x0, x1⟩ := lim_getD la 0
      obtain ⟨y0, y1⟩ := lim_getD la 1
      obtain ⟨z0, z3⟩ := lim_getD la 2
      obtain ⟨u0, u1⟩ := lim_getD la 3
      clear hw e0 e1 e2 e3 HB1
      generalize a.getD 0 0 = x at *
      generalize a.getD 1 0 = y at *
      generalize a.getD 2 0 = z at *
      generalize a.getD 3 0 = u at *
      have o1 := or_two' z u z0 z3 u0 u1
      have o2 := or_two' x y x0 x1 y0 y1
      have g1 := f2 0
      have g2 := f2 1
      clear f1 f2
      go_wp2
      try go_region
      try go_wp2
      exact bodyPost_ret (v := wV (u * 4294967296 + z) (y * 4294967296 + x)) (by simp [results, Tryz.results122, go_sem, r0, r1, z2]) rfl ⟨_, _, rfl, HW, bel⟩
end Go.Proofs.YtacnkcojhlbkoaaGreatDoor

set_option linter.unusedSimpArgs false
set_option linter.unusedVariables false
set_option linter.unnecessarySimpa false
namespace Go.Proofs.YtacnkcojhlbkoaaGreatDoor
open Go.RowKit Go.Proofs.YtacnkcojhlbkoaaGreatDoorW.PrintWords Go.Proofs.YtacnkcojhlbkoaaGreatDoorW.PrintLast Go.Proofs.YtacnkcojhlbkoaaGreatDoorW.PrintMore Go.Proofs.YtacnkcojhlbkoaaGreatDoor.NL
set_option maxRecDepth 100000

theorem R_pre {w : World} {base n c k : Nat} {A : Option Addr} {xs : List Int} {ok : Nat → Prop} (h : Kd.R (Kd.int .u32) 40 w base ok (.slice A n c) xs) (hk : k ≤ n) : Kd.R (Kd.int .u32) 40 w base ok (.slice A k c) (xs.take k) := by
  have hl : xs.length = n := (R_C h).1.1
  exact Kd.R_take h (by omega)

set_option maxHeartbeats 2000000 in
theorem wnat_any {N : Nat} {hi lo : Int} (w : World) (hw : Wd N hi lo) :
    Calls Tryz.prog 108 #[wV hi lo] w (NewRow w (ofN N)) := by
  obtain ⟨a0, a1, b0, b1, hN⟩ := hw
  obtain ⟨xs, hxs⟩ : ∃ xs : List Int, xs = [lo % 4294967296, lo / 4294967296, hi % 4294967296, hi / 4294967296] := ⟨_, rfl⟩
  have la : Lim xs := by rw [hxs]; intro y hy; simp at hy; omega
  have hlen : xs.length = 4 := by rw [hxs]; rfl
  have hv : val xs = N := by rw [hxs]; simp only [val]; omega
  have HR : Hid (Kd.R (Kd.int .u32) 40 ((w.alloc (.cells #[.int .u64 hi, .int .u64 lo] 106)).alloc (.cells #[.int .u32 (lo % 4294967296), .int .u32 (lo / 4294967296), .int .u32 (hi % 4294967296), .int .u32 (hi / 4294967296)] 40)) w.heap.size (fun _ => True) (.slice (some ⟨w.heap.size + 1, 0, none⟩) 4 4) xs) := Lib.hid
    (R_fresh _ _ (by simp) xs _ (by rw [hxs]; rfl) 4 hlen.symm (by simp) (by rw [hlen]; omega))
  have HV := Lib.hid hv
  have HL := Lib.hid hlen
  clear hxs hv hlen hN
  go_enter Tryz.func108, Tryz.ntmps108
  go_wp2
  generalize hW : ((w.alloc (.cells #[.int .u64 hi, .int .u64 lo] 106)).alloc (.cells #[.int .u32 (lo % 4294967296), .int .u32 (lo / 4294967296), .int .u32 (hi % 4294967296), .int .u32 (hi / 4294967296)] 40)) = W at *
  have HB : Hid (Below w.heap.size w W) := Lib.hid (by rw [← hW]; exact bel)
  clear hW
  go_loop [3] (fun v => TrimRel (some ⟨w.heap.size + 1, 0, none⟩) 4 xs v) (fun v => match v with | .slice _ k _ => k | _ => 0)
  case atStart => exact ⟨4, rfl, by rw [HL.out]; omega, by rw [take_all (by rw [HL.out]; omega)]⟩
  case round =>
    obtain ⟨k, rfl, hk, hv⟩ := hrel
    rw [HL.out] at hk
    have HVK := Lib.hid hv
    clear hv
    rcases Nat.eq_zero_or_pos k with rfl | hpos
    · go_wp2
      go_ret
      have e := trim_end la (by omega) HVK.out (.inl rfl)
      rw [HV.out] at e
      exact ⟨_, rfl, by rw [← e]; exact R_pre HR.out (by omega), HB.out⟩
    · obtain ⟨j, rfl⟩ : ∃ j, k = j + 1 := ⟨k - 1, by omega⟩
      obtain ⟨b, off, hA, hlt, hcs⟩ := open_C (R_C HR.out).1 (by omega)
      injection hA with hA
      injection hA with hA1 hA2
      subst hA1
      subst hA2
      have hcell := hcs j (by omega)
      rw [Nat.zero_add] at hcell
      obtain ⟨x0, x1⟩ := elem_lim la (i := j) (by rw [HL.out]; omega)
      obtain ⟨x, hx⟩ : ∃ x, xs.getD j 0 = x := ⟨_, rfl⟩
      rw [hx] at hcell x0 x1
      have HX := Lib.hid hx
      clear hcs hx
      have hj1 : ((j : Int) + 1 - 1) = (j : Int) := by omega
      by_cases h0 : x = 0
      · subst h0
        go_wp2
        go_round
        case rel => exact TrimRel.step (by rw [HL.out]; omega) HVK.out HX.out
        case measure => simp
      · have t0 : (x == 0) = false := by simpa using h0
        have HN := Lib.hid h0
        clear h0
        go_wp2
        go_ret
        have e := trim_end la (by rw [HL.out]; omega) HVK.out (.inr ⟨j, rfl, by rw [HX.out]; exact HN.out⟩)
        rw [HV.out] at e
        exact ⟨_, rfl, by rw [← e]; exact R_pre HR.out (by omega), HB.out⟩

/-- A format's digits, greatest exponent, and so on. -/
def fmD (f : Int) : Int := if f = 1 then 11 else if f = 2 then 24 else if f = 3 then 53 else if f = 4 then 64 else 113
def fmE (f : Int) : Int := if f = 1 then 15 else if f = 2 then 127 else if f = 3 then 1023 else 16383
def fmL (f : Int) : Int := if f = 1 then -24 else if f = 2 then -149 else if f = 3 then -1074 else if f = 4 then -16445 else -16494
def fmH (f : Int) : Int := if f = 1 then 5 else if f = 2 then 104 else if f = 3 then 971 else if f = 4 then 16320 else 16271
def fmW (f : Int) : Int := if f = 1 then 16 else if f = 2 then 32 else if f = 3 then 64 else if f = 4 then 80 else 128
def isFm (f : Int) : Bool := decide (1 ≤ f ∧ f ≤ 5)
theorem fm_cases {f : Int} (h : isFm f = true) : f = 1 ∨ f = 2 ∨ f = 3 ∨ f = 4 ∨ f = 5 := by
  simp [isFm] at h
  omega

def fmCells : List (List Value) := [[.int .i64 0, .int .i64 0, .int .i64 0, .int .i64 0, .int .i64 0], [.int .i64 11, .int .i64 15, .int .i64 (-24), .int .i64 5, .int .i64 16], [.int .i64 24, .int .i64 127, .int .i64 (-149), .int .i64 104, .int .i64 32], [.int .i64 53, .int .i64 1023, .int .i64 (-1074), .int .i64 971, .int .i64 64], [.int .i64 64, .int .i64 16383, .int .i64 (-16445), .int .i64 16320, .int .i64 80], [.int .i64 113, .int .i64 16383, .int .i64 (-16494), .int .i64 16271, .int .i64 128]]
def fmA : Array Value := fmCells.flatten.toArray
theorem fmA_one : fmA.all (·.oneCell') = true := by kernel_rfl
theorem fmA_info : (Tryz.prog.info? 84).map (·.size) = some fmA.size := by kernel_rfl
set_option maxHeartbeats 1000000 in
theorem formats_any (w : World) : Calls Tryz.prog 44 #[] w fun r w' => r = .returned (.agg fmA) ∧ Below w.heap.size w w' := by
  go_enter Tryz.func44, Tryz.ntmps44
  go_upto_region 1 with (fail)
  apply wp_region_lit
  refine wpList_buildTo rfl 33 _ rfl (some 1) rfl #[.int .i64 0, .int .i64 0, .int .i64 0, .int .i64 0, .int .i64 0] (by as_aux_lemma => kernel_rfl) ?_
  refine wpList_buildTo rfl 33 _ rfl (some 2) rfl #[.int .i64 11, .int .i64 15, .int .i64 (-24), .int .i64 5, .int .i64 16] (by as_aux_lemma => kernel_rfl) ?_
  refine wpList_buildTo rfl 33 _ rfl (some 3) rfl #[.int .i64 24, .int .i64 127, .int .i64 (-149), .int .i64 104, .int .i64 32] (by as_aux_lemma => kernel_rfl) ?_
  refine wpList_buildTo rfl 33 _ rfl (some 4) rfl #[.int .i64 53, .int .i64 1023, .int .i64 (-1074), .int .i64 971, .int .i64 64] (by as_aux_lemma => kernel_rfl) ?_
  refine wpList_buildTo rfl 33 _ rfl (some 5) rfl #[.int .i64 64, .int .i64 16383, .int .i64 (-16445), .int .i64 16320, .int .i64 80] (by as_aux_lemma => kernel_rfl) ?_
  refine wpList_buildTo rfl 33 _ rfl (some 6) rfl #[.int .i64 113, .int .i64 16383, .int .i64 (-16494), .int .i64 16271, .int .i64 128] (by as_aux_lemma => kernel_rfl) ?_
  refine wpList_buildTo rfl 84 _ rfl (some 7) rfl fmA (by as_aux_lemma => kernel_rfl) ?_
  refine wpList_store_rowTo rfl 84 (.tmp 0) (.tmp 7) rfl rfl w.heap.size fmA (by as_aux_lemma => kernel_rfl) (by as_aux_lemma => kernel_rfl) 84 _ (heap_alloc_new w _) fmA_info (by as_aux_lemma => kernel_rfl) fmA_one ?_
  rw [World.setRow_alloc_new]
  apply wpList_nil
  simp only [Exit.then]
  go_at_K
  go_wp2
  exact bodyPost_ret (results_cell_row rfl _ _ w.heap.size 84 fmA (0, 0) _ (by as_aux_lemma => kernel_rfl) (heap_alloc_new w _) Tryz.underlying84 rfl fmA_info) rfl ⟨rfl, bel⟩
theorem fm_at1 (w : World) : (Instr.index 84 (.agg fmA) (.int .i64 1)).run Tryz.prog w = .ok (.agg #[.int .i64 11, .int .i64 15, .int .i64 (-24), .int .i64 5, .int .i64 16]) w := by kernel_rfl
set_option maxHeartbeats 1000000 in
theorem format_1 (w : World) : Calls Tryz.prog 11 #[.int .i64 1] w fun e w' => e = .returned (.tuple #[.agg #[.int .i64 11, .int .i64 15, .int .i64 (-24), .int .i64 5, .int .i64 16], .int .i64 0]) ∧ Below w.heap.size w w' := by
  have hi := fm_at1
  go_enter Tryz.func11, Tryz.ntmps11
  go_wp2_with (go_at_call 44; (with_reducible refine (formats_any _).mono ?_); rintro e w1 ⟨rfl, b1⟩; obtain ⟨hc1, hf1⟩ := bcell b1; have hz1 := below_size b1; simp at hz1; have z0 : w.heap.size < w1.heap.size := (by omega))
  exact bodyPost_ret (v := .tuple #[.agg #[.int .i64 11, .int .i64 15, .int .i64 (-24), .int .i64 5, .int .i64 16], .int .i64 0]) (by simp [results, Tryz.results11, go_sem, hc1, z0]) rfl ⟨rfl, bel⟩
theorem fm_at2 (w : World) : (Instr.index 84 (.agg fmA) (.int .i64 2)).run Tryz.prog w = .ok (.agg #[.int .i64 24, .int .i64 127, .int .i64 (-149), .int .i64 104, .int .i64 32]) w := by kernel_rfl
set_option maxHeartbeats 1000000 in
theorem format_2 (w : World) : Calls Tryz.prog 11 #[.int .i64 2] w fun e w' => e = .returned (.tuple #[.agg #[.int .i64 24, .int .i64 127, .int .i64 (-149), .int .i64 104, .int .i64 32], .int .i64 0]) ∧ Below w.heap.size w w' := by
  have hi := fm_at2
  go_enter Tryz.func11, Tryz.ntmps11
  go_wp2_with (go_at_call 44; (with_reducible refine (formats_any _).mono ?_); rintro e w1 ⟨rfl, b1⟩; obtain ⟨hc1, hf1⟩ := bcell b1; have hz1 := below_size b1; simp at hz1; have z0 : w.heap.size < w1.heap.size := (by omega))
  exact bodyPost_ret (v := .tuple #[.agg #[.int .i64 24, .int .i64 127, .int .i64 (-149), .int .i64 104, .int .i64 32], .int .i64 0]) (by simp [results, Tryz.results11, go_sem, hc1, z0]) rfl ⟨rfl, bel⟩
theorem fm_at3 (w : World) : (Instr.index 84 (.agg fmA) (.int .i64 3)).run Tryz.prog w = .ok (.agg #[.int .i64 53, .int .i64 1023, .int .i64 (-1074), .int .i64 971, .int .i64 64]) w := by kernel_rfl
set_option maxHeartbeats 1000000 in
theorem format_3 (w : World) : Calls Tryz.prog 11 #[.int .i64 3] w fun e w' => e = .returned (.tuple #[.agg #[.int .i64 53, .int .i64 1023, .int .i64 (-1074), .int .i64 971, .int .i64 64], .int .i64 0]) ∧ Below w.heap.size w w' := by
  have hi := fm_at3
  go_enter Tryz.func11, Tryz.ntmps11
  go_wp2_with (go_at_call 44; (with_reducible refine (formats_any _).mono ?_); rintro e w1 ⟨rfl, b1⟩; obtain ⟨hc1, hf1⟩ := bcell b1; have hz1 := below_size b1; simp at hz1; have z0 : w.heap.size < w1.heap.size := (by omega))
  exact bodyPost_ret (v := .tuple #[.agg #[.int .i64 53, .int .i64 1023, .int .i64 (-1074), .int .i64 971, .int .i64 64], .int .i64 0]) (by simp [results, Tryz.results11, go_sem, hc1, z0]) rfl ⟨rfl, bel⟩
theorem fm_at4 (w : World) : (Instr.index 84 (.agg fmA) (.int .i64 4)).run Tryz.prog w = .ok (.agg #[.int .i64 64, .int .i64 16383, .int .i64 (-16445), .int .i64 16320, .int .i64 80]) w := by kernel_rfl
set_option maxHeartbeats 1000000 in
theorem format_4 (w : World) : Calls Tryz.prog 11 #[.int .i64 4] w fun e w' => e = .returned (.tuple #[.agg #[.int .i64 64, .int .i64 16383, .int .i64 (-16445), .int .i64 16320, .int .i64 80], .int .i64 0]) ∧ Below w.heap.size w w' := by
  have hi := fm_at4
  go_enter Tryz.func11, Tryz.ntmps11
  go_wp2_with (go_at_call 44; (with_reducible refine (formats_any _).mono ?_); rintro e w1 ⟨rfl, b1⟩; obtain ⟨hc1, hf1⟩ := bcell b1; have hz1 := below_size b1; simp at hz1; have z0 : w.heap.size < w1.heap.size := (by omega))
  exact bodyPost_ret (v := .tuple #[.agg #[.int .i64 64, .int .i64 16383, .int .i64 (-16445), .int .i64 16320, .int .i64 80], .int .i64 0]) (by simp [results, Tryz.results11, go_sem, hc1, z0]) rfl ⟨rfl, bel⟩
theorem fm_at5 (w : World) : (Instr.index 84 (.agg fmA) (.int .i64 5)).run Tryz.prog w = .ok (.agg #[.int .i64 113, .int .i64 16383, .int .i64 (-16494), .int .i64 16271, .int .i64 128]) w := by kernel_rfl
set_option maxHeartbeats 1000000 in
theorem format_5 (w : World) : Calls Tryz.prog 11 #[.int .i64 5] w fun e w' => e = .returned (.tuple #[.agg #[.int .i64 113, .int .i64 16383, .int .i64 (-16494), .int .i64 16271, .int .i64 128], .int .i64 0]) ∧ Below w.heap.size w w' := by
  have hi := fm_at5
  go_enter Tryz.func11, Tryz.ntmps11
  go_wp2_with (go_at_call 44; (with_reducible refine (formats_any _).mono ?_); rintro e w1 ⟨rfl, b1⟩; obtain ⟨hc1, hf1⟩ := bcell b1; have hz1 := below_size b1; simp at hz1; have z0 : w.heap.size < w1.heap.size := (by omega))
  exact bodyPost_ret (v := .tuple #[.agg #[.int .i64 113, .int .i64 16383, .int .i64 (-16494), .int .i64 16271, .int .i64 128], .int .i64 0]) (by simp [results, Tryz.results11, go_sem, hc1, z0]) rfl ⟨rfl, bel⟩
theorem format_any {f : Int} (h : isFm f = true) (w : World) : Calls Tryz.prog 11 #[.int .i64 f] w fun e w' => e = .returned (.tuple #[.agg #[.int .i64 (fmD f), .int .i64 (fmE f), .int .i64 (fmL f), .int .i64 (fmH f), .int .i64 (fmW f)], .int .i64 0]) ∧ Below w.heap.size w w' := by
  rcases fm_cases h with rfl | rfl | rfl | rfl | rfl
  · exact format_1 w
  · exact format_2 w
  · exact format_3 w
  · exact format_4 w
  · exact format_5 w
set_option maxHeartbeats 1000000 in
theorem format_no {f : Int} (h : isFm f = false) (w : World) : Calls Tryz.prog 11 #[.int .i64 f] w fun e w' => e = .returned (.tuple #[.agg #[.int .i64 0, .int .i64 0, .int .i64 0, .int .i64 0, .int .i64 0], .int .i64 1]) ∧ Below w.heap.size w w' := by
  have h2 : f < 1 ∨ 5 < f := by
    simp [isFm] at h
    omega
  clear h
  by_cases h3 : f < 1
  · clear h2
    go_enter Tryz.func11, Tryz.ntmps11
    go_wp2
    exact bodyPost_ret (v := .tuple #[.agg #[.int .i64 0, .int .i64 0, .int .i64 0, .int .i64 0, .int .i64 0], .int .i64 1]) (by simp [results, Tryz.results11, go_sem]) rfl ⟨rfl, bel⟩
  · have h4 : 5 < f := by omega
    have d0 : decide (f < 1) = false := decide_eq_false h3
    clear h2 h3
    go_enter Tryz.func11, Tryz.ntmps11
    go_wp2
    exact bodyPost_ret (v := .tuple #[.agg #[.int .i64 0, .int .i64 0, .int .i64 0, .int .i64 0, .int .i64 0], .int .i64 1]) (by simp [results, Tryz.results11, go_sem]) rfl ⟨rfl, bel⟩

abbrev binFail (e : Int) : List PanicEntry := [{ v := .iface 111 (.agg #[.int .i64 e]), recovered := false }]
set_option maxHeartbeats 400000 in
theorem bneed_true (e : Int) (w : World) :
    Calls Tryz.prog 40 #[.bool true, .int .i64 e] w fun r w' => r = .returned (.tuple #[]) ∧ w = w' := by
  go_enter Tryz.func40, Tryz.ntmps40
  go_wp2
  go_end0
  exact ⟨rfl, rfl⟩
set_option maxHeartbeats 400000 in
theorem bneed_false (e : Int) (w : World) :
    Calls Tryz.prog 40 #[.bool false, .int .i64 e] w fun r w' => r = .panicked (binFail e) ∧ w = w' := by
  go_enter Tryz.func40, Tryz.ntmps40
  go_wp2
  exact ⟨rfl, rfl, rfl⟩

set_option maxRecDepth 100000 in
set_option maxHeartbeats 1000000 in
theorem bcaught_panic (p : Nat) (e e0 : Int) (older : List PanicEntry) (w : World) (hp : One w p 28 (.int .i64 e0)) :
    CallsD Tryz.prog 39 #[.pointer (some ⟨p, 0, none⟩)] (.panicking ({ v := .iface 111 (.agg #[.int .i64 e]), recovered := false } :: older)) w fun r u' w' =>
      r = .returned (.tuple #[]) ∧ u' = .panicking ({ v := .iface 111 (.agg #[.int .i64 e]), recovered := true } :: older) ∧
      Chg w w' (fun k => k = p) ∧ One w' p 28 (.int .i64 e) := by
  have c1 := blk_cell hp 0
  have f1 := blk_frozen hp 0
  simp only [List.getElem?_toArray, List.getElem?_cons_zero] at c1
  have hltp := blk_lt hp
  have hta : ∀ w, (Instr.typeAssert (.iface 111 (.agg #[.int .i64 e])) 20 111 true).run Tryz.prog w = .ok (.tuple #[.agg #[.int .i64 e], .bool true]) w := fun _ => by kernel_rfl
  have HP := Lib.hid hp
  clear hp
  refine callsD_of_wpS Tryz.func39 rfl fun c₀ cs hu => ?_
  apply wpS_seq
  apply wpS_region
  simp [wpOpsS, go_sem, recoverD, hu, Tryz.ntmps39, Exit.thenS]
  simp only [List.size_toArray, List.length_cons, List.length_nil, Nat.reduceAdd, Nat.reduceSub, Array.replicate_succ, Array.replicate_zero, List.push_toArray, List.append_toArray, List.nil_append, List.cons_append, List.setIfInBounds_toArray, List.set_cons_zero, List.set_cons_succ]
  refine wpS_of_wp ?_
  have HU := Lib.hid hu
  clear hu
  generalize hcs : (({ fn := c₀.fn, tmps := c₀.tmps, todo := c₀.todo, defers := c₀.defers, mode := FrameMode.panicking ({ v := Value.iface 111 (Value.agg #[Value.int IntKind.i64 e]), recovered := true } :: older), kind := c₀.kind, roundOf := c₀.roundOf } : Frame) :: cs) = cs1
  have HCS := Lib.hid hcs
  clear hcs
  go_wp2
  try go_region
  refine ⟨rfl, _, HCS.out.symm, .tuple #[], by simp [results, Tryz.results39], rfl, rfl, ?_, ?_⟩
  · refine ⟨rfl, rfl, rfl, by simp [World.setCell], fun k hk hn => ?_⟩
    first
      | (show ((w.setCell ⟨p, 0, none⟩ (.int .i64 e)).alloc _).heap[k]? = _; rw [Below.heap_alloc _ _ _ (by simpa [World.setCell] using hk), Below.heap_setCell _ _ _ _ (fun h => hn h)])
      | (show ((w.alloc _).setCell ⟨p, 0, none⟩ (.int .i64 e)).heap[k]? = _; rw [Below.heap_setCell _ _ _ _ (fun h => hn h), Below.heap_alloc _ _ _ hk])
  · first
      | exact blk_alloc (blk_put HP.out 0 _ rfl) _
      | exact blk_put (blk_alloc HP.out _) 0 _ rfl
      | exact blk_drew (blk_alloc (blk_put HP.out 0 _ rfl) _)

theorem bcaught_idle (p : Nat) (w : World) : CallsD Tryz.prog 39 #[.pointer (some ⟨p, 0, none⟩)] .returning w fun r u' w' => r = .returned (.tuple #[]) ∧ u' = .returning ∧ w = w' := by
  refine callsD_of_wpS Tryz.func39 rfl fun c₀ cs hu => ?_
  apply wpS_seq
  apply wpS_region
  simp [wpOpsS, go_sem, recoverD, hu, Tryz.ntmps39, Exit.thenS]
  simp only [List.size_toArray, List.length_cons, List.length_nil, Nat.reduceAdd, Nat.reduceSub, Array.replicate_succ, Array.replicate_zero, List.push_toArray, List.append_toArray, List.nil_append, List.cons_append, List.setIfInBounds_toArray, List.set_cons_zero, List.set_cons_succ]
  refine wpS_of_wp ?_
  have HU := Lib.hid hu
  clear hu
  go_wp2
  refine ⟨rfl, .returning, ?_, .tuple #[], by simp [results, Tryz.results39], rfl, rfl, rfl⟩
  have hu := HU.out
  cases c₀
  simp_all

@[go_sem] abbrev kV (f : Int) : Value := .agg #[.int .i64 (fmD f), .int .i64 (fmE f), .int .i64 (fmL f), .int .i64 (fmH f), .int .i64 (fmW f), .int .i64 f]
set_option maxHeartbeats 1000000 in
theorem kindOf_ok {f : Int} (h : isFm f = true) (w : World) : Calls Tryz.prog 41 #[.int .i64 f] w fun e w' => e = .returned (kV f) ∧ Below w.heap.size w w' := by
  have HF := Lib.hid fun w' => format_any h w'
  clear h
  show Calls Tryz.prog 41 #[.int .i64 f] w fun e w' => e = .returned (.agg #[.int .i64 (fmD f), .int .i64 (fmE f), .int .i64 (fmL f), .int .i64 (fmH f), .int .i64 (fmW f), .int .i64 f]) ∧ Below w.heap.size w w'
  generalize fmD f = D at *
  generalize fmE f = E at *
  generalize fmL f = L at *
  generalize fmH f = H at *
  generalize fmW f = W at *
  go_enter Tryz.func41, Tryz.ntmps41
  go_wp2_with (first | (go_at_call 11; (with_reducible refine (HF.out _).mono ?_); rintro e w1 ⟨rfl, b1⟩; obtain ⟨hc1, hf1⟩ := bcell b1; have hz1 := below_size b1; simp at hz1; have z0 : w.heap.size < w1.heap.size := (by omega)) | (go_at_call 40; (with_reducible refine (bneed_true _ _).mono ?_); rintro e w2 ⟨rfl, rfl⟩))
  exact bodyPost_ret (v := .agg #[.int .i64 D, .int .i64 E, .int .i64 L, .int .i64 H, .int .i64 W, .int .i64 f]) (by simp [results, Tryz.results41, go_sem, hc1, z0]) rfl ⟨rfl, bel⟩
set_option maxHeartbeats 1000000 in
theorem kindOf_no {f : Int} (h : isFm f = false) (w : World) : Calls Tryz.prog 41 #[.int .i64 f] w fun e w' => e = .panicked (binFail 1) ∧ Below w.heap.size w w' := by
  have HF := Lib.hid fun w' => format_no h w'
  clear h
  go_enter Tryz.func41, Tryz.ntmps41
  go_wp2_with (first | (go_at_call 11; (with_reducible refine (HF.out _).mono ?_); rintro e w1 ⟨rfl, b1⟩; obtain ⟨hc1, hf1⟩ := bcell b1; have hz1 := below_size b1; simp at hz1; have z0 : w.heap.size < w1.heap.size := (by omega)) | (go_at_call 40; (with_reducible refine (bneed_false _ _).mono ?_); rintro e w2 ⟨rfl, rfl⟩))
  exact ⟨rfl, rfl, bel⟩
set_option maxHeartbeats 1000000 in
theorem bsize_any {A : Option Addr} {n c N : Nat} {w : World} (h : Num w A n c N) (hn : n ≤ 1024) : Calls Tryz.prog 75 #[.slice A n c] w fun e w' => e = .returned (.int .i64 (blen N)) ∧ w = w' := by
  have HB := Lib.hid (nBits_any w h.out.2 (lim_ofN N) h.out.1)
  have hb : natBits (ofN N) = (((blen N : Nat) : Int), 0) := by
    unfold natBits
    rw [if_pos (ofN_ok (by rw [Num.len h]; exact hn)), val_ofN]
  rw [hb] at HB
  clear h hb
  generalize blen N = z at *
  go_enter Tryz.func75, Tryz.ntmps75
  go_wp2_with (go_at_call 109; (with_reducible refine (HB.out).mono ?_); rintro e w2 ⟨rfl, rfl⟩)
  go_ret
  exact ⟨rfl, rfl⟩
end Go.Proofs.YtacnkcojhlbkoaaGreatDoor

set_option linter.unusedSimpArgs false
set_option linter.unusedVariables false
set_option linter.unnecessarySimpa false
namespace Go.Proofs.YtacnkcojhlbkoaaGreatDoor
open Go.RowKit Go.Proofs.YtacnkcojhlbkoaaGreatDoorW.PrintWords Go.Proofs.YtacnkcojhlbkoaaGreatDoorW.PrintLast Go.Proofs.YtacnkcojhlbkoaaGreatDoorW.PrintMore Go.Proofs.YtacnkcojhlbkoaaGreatDoor.NL
set_option maxRecDepth 100000

/-- 'make' with a length and a capacity. -/
theorem make_row2 {P : Program} {ops : Array Oper} {rest : List Oper} {o : Oper} {a : Act} {Q : Exit → Act → World → Prop} {W w0 : World} (hp : P = Tryz.prog) (hgd : o.guard = none) (x y : Operand) (ho : o.op = .makeSlice 23 x y) (n c : Nat)
    (hx : a.eval x = .int .i64 n) (hy : a.eval y = .int .i64 c) (hnc : n ≤ c) (hl : c ≤ 1000000000) (HB : Below w0.heap.size w0 W)
    (h : ∀ A w1, OwnI .u32 40 w0.heap.size w1 (.slice A n c) (List.replicate n 0) → Below w0.heap.size w0 w1 → wpList P ops Q rest (a.put o.dst (.slice A n c)) w1) : wpList P ops Q (o :: rest) a W := by
  subst hp
  obtain ⟨i, hi, hzz⟩ := Option.map_eq_some_iff.1 infoU32
  simp only [Prod.mk.injEq] at hzz
  obtain ⟨hz0, hz1, hz2⟩ := hzz
  have hr := run_make (P := Tryz.prog) W 23 40 i (.int .u32 0) Tryz.underlying23 hi hz0 .i64 .i64 (n : Int) (c : Int) (by omega) (by omega) (by rw [hz2]; omega) (by omega)
  simp only [Int.toNat_natCast] at hr
  rw [hz1] at hr
  refine wpList_plain hgd fun K hK' => ?_
  unfold Oper.wp
  simp [execOp, ho, hx, hy, hr, Result.andThen]
  refine hK' _ _ (h _ _ ?_ (below_alloc HB _))
  have h1 := R_fresh (k := .u32) (e := 40) (base := w0.heap.size) W W.heap.size rfl (List.replicate c 0) (madeCells (Value.int .u32 0).cells c) (by
    apply Array.toList_inj.1
    show (madeCells #[Value.int .u32 0] c).toList = _
    rw [toList_madeCells_one]
    simp [nums]) c (by simp) HB.size (by simp; omega)
  have h2 := R_pre h1 hnc
  rwa [List.take_replicate, Nat.min_eq_left hnc] at h2
/-- The same, as the printed walks ask for it. -/
theorem make_two {P : Program} {ops : Array Oper} {rest : List Oper} {o : Oper} {a : Act} {Q : Exit → Act → World → Prop} {W : World} (hp : P = Tryz.prog) (hgd : o.guard = none) (x y : Operand) (ho : o.op = .makeSlice 23 x y) (n c : Int)
    (hx : a.eval x = .int .i64 n) (hy : a.eval y = .int .i64 c) (h0 : 0 ≤ n) (hnc : n ≤ c) (hl : c ≤ 1000000000)
    (h : ∀ v w1, Kd.R (Kd.int .u32) 40 w1 W.heap.size (fun _ => True) v (List.replicate n.toNat 0) → Below W.heap.size W w1 → wpList P ops Q rest (a.put o.dst v) w1) : wpList P ops Q (o :: rest) a W := by
  obtain ⟨n, rfl⟩ := Int.eq_ofNat_of_zero_le h0
  obtain ⟨c, rfl⟩ := Int.eq_ofNat_of_zero_le (show 0 ≤ c by omega)
  exact make_row2 (w0 := W) hp hgd x y ho n c hx hy (by omega) (by omega) (Below.refl _ _) fun A w1 h1 h2 => h _ w1 h1 h2
end Go.Proofs.YtacnkcojhlbkoaaGreatDoor

set_option linter.unusedSimpArgs false
set_option linter.unusedVariables false
set_option linter.unnecessarySimpa false
namespace Go.Proofs.YtacnkcojhlbkoaaGreatDoor
open Go.RowKit Go.Proofs.YtacnkcojhlbkoaaGreatDoorW.PrintWords Go.Proofs.YtacnkcojhlbkoaaGreatDoorW.PrintLast Go.Proofs.YtacnkcojhlbkoaaGreatDoorW.PrintMore Go.Proofs.YtacnkcojhlbkoaaGreatDoor.NL
set_option maxRecDepth 100000

set_option maxHeartbeats 8000000 in
theorem rmul_any (A B : Option Addr) (n m c d : Nat) (a b : List Int) (w : World) (hA : Kd.C (Kd.int .u32) w A n a) (hB : Kd.C (Kd.int .u32) w B m b) (la : Lim a) (lb : Lim b) (hn : n ≤ 100000000) (hm : m ≤ 100000000) :
    Calls Tryz.prog 70 #[.slice A n c, .slice B m d] w (NewRow w (ofN (val a * val b))) := by
  have hla : a.length = n := hA.1
  have hlb : b.length = m := hB.1
  have HLA := Lib.hid hla
  have HLB := Lib.hid hlb
  have HA := Lib.hid hA
  have HB := Lib.hid hB
  clear hla hlb hA hB
  go_enter Tryz.func70, Tryz.ntmps70
  go_wp2_with ((with_reducible refine gate_dst (N := 15) rfl ?_); refine make_row2 (w0 := w) rfl rfl _ _ rfl (n + m) (n + m) rfl rfl (Nat.le_refl _) (by omega) bel ?_; intro A5 w5 hr5 hb5)
  have HR5 := Lib.hid hr5
  clear hr5
  go_loopw [6] (fun vi wr => SchRel a b (n + m) w A5 (n + m) vi wr) (fun vi _ => n - (intOf vi).toNat)
  case atStart => exact ⟨0, _, by omega, rfl, by simp, HR5.out, hb5, MulAt.start a b _⟩
  case round =>
    obtain ⟨i, ys, hi, rfl, hy, hown, hbw, hmul⟩ := hrel
    obtain ⟨wo, hwo⟩ : ∃ wo : World, wr = wo := ⟨_, rfl⟩
    subst hwo
    rw [HLA.out] at hi
    have HY := Lib.hid hy
    have HO := Lib.hid hown
    have HD := Lib.hid hmul
    clear hy hown hmul
    by_cases hlt : i < n
    · obtain ⟨ba, oa, rfl, hba, hcs⟩ := open_C (Kd.C_below HA.out hbw) (by omega)
      have hca := hcs i hlt
      clear hcs
      obtain ⟨x0, x1⟩ := lim_getD la i
      obtain ⟨x, hx⟩ : ∃ x, a.getD i 0 = x := ⟨_, rfl⟩
      rw [hx] at hca x0 x1
      have HX := Lib.hid hx
      clear hx
      go_wp2
      go_loopw [7, 8] (fun vc vk w2 => SchIn a b (n + m) i w A5 (n + m) vc vk w2) (fun _ vk _ => m - (intOf vk).toNat)
      case atStart => exact ⟨0, 0, _, by omega, rfl, rfl, HY.out, HO.out, hbw, HD.out⟩
      case round =>
        obtain ⟨k, cy, ys2, hk, rfl, rfl, hy2, hown2, hbw2, hmul2⟩ := hrel
        have hca3 : wr.cell? ⟨ba, oa + i, none⟩ = some (.int .u32 x) := by
          obtain ⟨b2, o2, e2, -, h2⟩ := open_C (Kd.C_below HA.out hbw2) (by omega)
          have h3 := h2 i hlt
          rw [HX.out] at h3
          injection e2 with e2
          injection e2 with e3 e4
          rw [e3, e4]
          exact h3
        rw [HLB.out] at hk
        have HY2 := Lib.hid hy2
        have HO2 := Lib.hid hown2
        have HD2 := Lib.hid hmul2
        obtain ⟨c0, c1, ly, -, -⟩ := hmul2
        clear hy2 hown2
        obtain ⟨g, rfl, hg0, hg1, hgc, hgf⟩ := own_open HO2.out (by omega)
        by_cases hlt2 : k < m
        · obtain ⟨bb, ob, rfl, hbb, hcs⟩ := open_C (Kd.C_below HB.out hbw2) (by omega)
          have hcb := hcs k hlt2
          clear hcs
          obtain ⟨y0, y1⟩ := lim_getD lb k
          obtain ⟨u0, u1⟩ := lim_getD ly (i + k)
          have hcell := hgc (i + k) (by omega)
          have hfr := hgf (i + k)
          have hst := MulAt.step la lb HD2.out (by rw [HLB.out]; exact hlt2) (by rw [HY2.out]; omega)
          rw [HX.out, Int.add_comm cy] at hst
          have HST := Lib.hid hst
          obtain ⟨y, hy⟩ : ∃ y, b.getD k 0 = y := ⟨_, rfl⟩
          obtain ⟨u, hu⟩ : ∃ u, ys2.getD (i + k) 0 = u := ⟨_, rfl⟩
          rw [hy] at hcb y0 y1 HST
          rw [hu] at hcell u0 u1 HST
          obtain ⟨m0, m1, m2, m3⟩ := mul_bound x0 x1 y0 y1 u0 u1 c0 c1
          clear hgc hgf hst hy hu ly
          have m4 : x * y + u + cy < 18446744073709551616 := by omega
          have m5 : 0 ≤ x * y + u + cy := by omega
          clear m2 m3
          go_wp2
          go_region
          go_wp2
          go_roundw
          case rel =>
            exact ⟨k + 1, _, _, by rw [HLB.out]; omega, by simp, rfl, by simp [HY2.out], Kd.R_putn HO2.out ((i + k : Nat) : Int) _, bel, HST.out⟩
          case measure => simp [intOf]; omega
        · obtain rfl : k = m := by omega
          have hcell := hgc (i + k) (by omega)
          have hfr := hgf (i + k)
          have hm2 := HD2.out
          rw [← HLB.out] at hm2
          have hst := MulAt.next hm2 (by rw [HY2.out, HLB.out]; omega)
          rw [HLB.out] at hst
          have HST := Lib.hid hst
          clear hgc hgf hst hm2 ly
          go_wp2
          go_roundw
          case rel => exact ⟨i + 1, _, by rw [HLA.out]; omega, by simp, by simp [HY2.out], Kd.R_putn HO2.out ((i + k : Nat) : Int) _, bel, HST.out⟩
          case measure => simp [intOf]; omega
    · obtain rfl : i = n := by omega
      have hm2 := HD.out
      rw [← HLA.out] at hm2
      obtain ⟨ly, hv⟩ := MulAt.done hm2 rfl
      have HV := Lib.hid hv
      clear hv hm2
      obtain ⟨hC, hcc⟩ := R_C HO.out
      have HC := Lib.hid hC
      have HYL := HY.out
      clear hC
      go_wp2_with fail
      have := rtrim_any A5 (i + m) ys wr (by rw [HYL]; exact HC.out) ly (by omega) (by omega)
      rw [HYL, HV.out] at this
      refine this.mono ?_
      rintro e w1 ⟨v, rfl, hv1, hb1⟩
      go_wp2
      go_ret
      exact ⟨v, rfl, Kd.R_lower hv1 (by have := hbw.size; omega), bel⟩
end Go.Proofs.YtacnkcojhlbkoaaGreatDoor

set_option linter.unusedSimpArgs false
set_option linter.unusedVariables false
set_option linter.unnecessarySimpa false
namespace Go.Proofs.YtacnkcojhlbkoaaGreatDoor
open Go.RowKit Go.Proofs.YtacnkcojhlbkoaaGreatDoorW.PrintWords Go.Proofs.YtacnkcojhlbkoaaGreatDoorW.PrintLast Go.Proofs.YtacnkcojhlbkoaaGreatDoorW.PrintMore Go.Proofs.YtacnkcojhlbkoaaGreatDoor.NL
set_option maxRecDepth 100000

@[go_sem] abbrev dV (f cl : Int) (ng : Bool) (A : Option Addr) (n c : Nat) (ex : Int) : Value := .agg #[.int .i64 f, .int .i64 cl, .bool ng, .slice A n c, .int .i64 ex]
/-- How many digits, a class and an exponent: whether they fit. -/
def fits (D L H cl z ex : Int) : Bool :=
  if cl = 1 then decide (z ≤ D) && decide (L ≤ ex) && decide (ex ≤ H) && (decide (ex = L) || decide (z = D))
  else if cl = 2 then decide (z = 0) && decide (ex = 0)
  else if cl = 3 then decide (z ≤ D - 2) && decide (ex = 0)
  else if cl = 4 then decide (0 < z) && decide (z ≤ D - 2) && decide (ex = 0)
  else false
def hasB (f cl : Int) (a : List Int) (ex : Int) : Bool := okN a && fits (fmD f) (fmL f) (fmH f) cl (blen (val a)) ex

def HasP (D L H cl z ex : Int) (w : World) (e : Ending) (w' : World) : Prop := e = .returned (.bool (fits D L H cl z ex)) ∧ Below w.heap.size w w'
set_option maxHeartbeats 8000000 in
theorem has_core (D E L H W F f cl : Int) (ng : Bool) (A : Option Addr) (n c : Nat) (z : Nat) (ex : Int) (w : World) (hD : 2 ≤ D ∧ D ≤ 1000)
    (hv : ∀ w', Below w.heap.size w w' → Calls Tryz.prog 62 #[.slice A n c] w' fun e w'' => e = .returned (.bool true) ∧ w' = w'')
    (hs : ∀ w', Below w.heap.size w w' → Calls Tryz.prog 75 #[.slice A n c] w' fun e w'' => e = .returned (.int .i64 z) ∧ w' = w'') :
    Calls Tryz.prog 42 #[.agg #[.int .i64 D, .int .i64 E, .int .i64 L, .int .i64 H, .int .i64 W, .int .i64 F], dV f cl ng A n c ex] w (HasP D L H cl z ex w) := by
  have HV := Lib.hid hv
  have HS := Lib.hid hs
  obtain ⟨hd1, hd2⟩ := hD
  clear hv hs
  by_cases c1 : cl = 1
  · subst c1
    go_enter Tryz.func42, Tryz.ntmps42
    go_wp2_with (first | (go_at_call 62; (with_reducible refine (HV.out _ bel).mono ?_); rintro e w1 ⟨rfl, rfl⟩) | (go_at_call 75; (with_reducible refine (HS.out _ bel).mono ?_); rintro e w1 ⟨rfl, rfl⟩))
    all_goals
      go_ret
      refine ⟨?_, bel⟩
      simp [fits, *] <;> first | omega | (rw [Bool.eq_iff_iff]; simp [*]; done) | (rw [Bool.eq_iff_iff]; simp; omega)
  · by_cases c2 : cl = 2
    · subst c2
      go_enter Tryz.func42, Tryz.ntmps42
      go_wp2_with (first | (go_at_call 62; (with_reducible refine (HV.out _ bel).mono ?_); rintro e w1 ⟨rfl, rfl⟩) | (go_at_call 75; (with_reducible refine (HS.out _ bel).mono ?_); rintro e w1 ⟨rfl, rfl⟩))
      all_goals
        go_ret
        refine ⟨?_, bel⟩
        simp [fits, *] <;> first | omega | (rw [Bool.eq_iff_iff]; simp [*]; done) | (rw [Bool.eq_iff_iff]; simp; omega)
    · by_cases c3 : cl = 3
      · subst c3
        go_enter Tryz.func42, Tryz.ntmps42
        go_wp2_with (first | (go_at_call 62; (with_reducible refine (HV.out _ bel).mono ?_); rintro e w1 ⟨rfl, rfl⟩) | (go_at_call 75; (with_reducible refine (HS.out _ bel).mono ?_); rintro e w1 ⟨rfl, rfl⟩))
        all_goals
          go_ret
          refine ⟨?_, bel⟩
          simp [fits, *] <;> first | omega | (rw [Bool.eq_iff_iff]; simp [*]; done) | (rw [Bool.eq_iff_iff]; simp; omega)
      · by_cases c4 : cl = 4
        · subst c4
          go_enter Tryz.func42, Tryz.ntmps42
          go_wp2_with (first | (go_at_call 62; (with_reducible refine (HV.out _ bel).mono ?_); rintro e w1 ⟨rfl, rfl⟩) | (go_at_call 75; (with_reducible refine (HS.out _ bel).mono ?_); rintro e w1 ⟨rfl, rfl⟩))
          all_goals
            go_ret
            refine ⟨?_, bel⟩
            simp [fits, *] <;> first | omega | (rw [Bool.eq_iff_iff]; simp [*]; done) | (rw [Bool.eq_iff_iff]; simp; omega)
        · have t1 : (cl == 1) = false := by simpa using c1
          have t2 : (cl == 2) = false := by simpa using c2
          have t3 : (cl == 3) = false := by simpa using c3
          have t4 : (cl == 4) = false := by simpa using c4
          have HF : Hid (fits D L H cl z ex = false) := Lib.hid (by unfold fits; rw [if_neg c1, if_neg c2, if_neg c3, if_neg c4])
          clear c1 c2 c3 c4
          go_enter Tryz.func42, Tryz.ntmps42
          go_wp2_with (first | (go_at_call 62; (with_reducible refine (HV.out _ bel).mono ?_); rintro e w1 ⟨rfl, rfl⟩) | (go_at_call 75; (with_reducible refine (HS.out _ bel).mono ?_); rintro e w1 ⟨rfl, rfl⟩))
          go_ret
          exact ⟨by rw [HF.out]; rfl, bel⟩
end Go.Proofs.YtacnkcojhlbkoaaGreatDoor
