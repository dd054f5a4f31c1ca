/- nat: the estimate of one element of a quotient. nat: division element by element, in plain numbers. nat: division by one element; division element by element. nat: division element by element. nat: Div, for divisors of less than 32 elements. -/
import Derived.Test.YtacnkcojhlbkoaaGreatDoorJVal22
import Derived.Deep.CutBlock
import Derived.Test.YtacnkcojhlbkoaaGreatDoorJVal4
import Derived.Test.YtacnkcojhlbkoaaGreatDoorJVal7
set_option linter.unusedSimpArgs false
set_option linter.unusedVariables false
set_option linter.unnecessarySimpa false
namespace Go.Proofs.YtacnkcojhlbkoaaGreatDoor
open Go.RowKit Go.Proofs.YtacnkcojhlbkoaaGreatDoorW.PrintWords Go.Proofs.YtacnkcojhlbkoaaGreatDoorW.PrintLast Go.Proofs.YtacnkcojhlbkoaaGreatDoorW.PrintMore Go.Proofs.YtacnkcojhlbkoaaGreatDoor.NL
set_option maxRecDepth 100000

theorem or_high (x y : Int) (x0 : 0 ≤ x) (x1 : x < 4294967296) (y0 : 0 ≤ y) (y1 : y < 4294967296) : bits .or .u64 (y * 4294967296) x = y * 4294967296 + x := by
  rw [u64_or _ _ (by omega) (by omega) x0 (by omega), nat_join 32]
  · omega
  · rw [Int.toNat_mul y0 (by omega)]; exact Nat.mul_mod_left _ _
  · omega
theorem below_S2 {n : Nat} {W0 w' : World} (h : Below n W0 w') (hn : n = W0.heap.size := by rfl) : Below n W0 w' ∧ ∀ b o, b < n → w'.cell? ⟨b, o, none⟩ = W0.cell? ⟨b, o, none⟩ := by
  subst hn
  exact ⟨h, (bcell h).1⟩
theorem est_start {T : Nat} {x : Int} (_x0 : 0 ≤ x) (x1 : 1 ≤ x) (hT : T < 18446744073709551616) : min (IntKind.u64.wrap ((T : Int) / x)) 4294967295 = ((min (T / x.toNat) 4294967295 : Nat) : Int) ∧
    IntKind.u64.wrap ((T : Int) - IntKind.u64.wrap (((min (T / x.toNat) 4294967295 : Nat) : Int) * x)) = ((T - min (T / x.toNat) 4294967295 * x.toNat : Nat) : Int) := by
  obtain ⟨k, rfl⟩ := Int.eq_ofNat_of_zero_le _x0
  rw [Int.toNat_natCast]
  have h1 : ((T : Int) / (k : Int)) = ((T / k : Nat) : Int) := (Int.natCast_ediv T k).symm
  have h2 : T / k ≤ T := Nat.div_le_self _ _
  have h3 : min (T / k) 4294967295 * k ≤ T := Nat.le_trans (Nat.mul_le_mul_right _ (Nat.min_le_left _ _)) (Nat.div_mul_le_self _ _)
  have h4 : ((min (T / k) 4294967295 : Nat) : Int) * (k : Int) = ((min (T / k) 4294967295 * k : Nat) : Int) := (Int.natCast_mul _ _).symm
  rw [h1, h4]
  generalize min (T / k) 4294967295 * k = z at *
  generalize T / k = y at *
  rw [IntKind.wrap_u64, IntKind.wrap_u64, IntKind.wrap_u64]
  omega
def EstRel (qt d1 top : Nat) (vq vr : Value) : Prop := ∃ q r : Nat, vq = .int .u64 q ∧ vr = .int .u64 r ∧ r < 18446744073709551616 ∧ EstAt qt d1 top q r
def BakRel (zs d : List Int) (o m L c g : Nat) (w0 w : World) (vc vi : Value) (wr : World) : Prop :=
  ∃ (k : Nat) (cy : Int) (ys : List Int), k ≤ m ∧ vi = .int .i64 k ∧ vc = .int .u64 cy ∧ ys.length = L ∧ OwnI .u32 40 w0.heap.size wr (.slice (some ⟨g, 0, none⟩) L c) ys ∧ Below w0.heap.size w0 wr ∧ Chg w wr (fun k => k = g) ∧ BackAt zs d o (o + m) k cy ys
def EstP (qt : Nat) (zs d : List Int) (o L c g : Nat) (w0 w : World) (e : Ending) (w' : World) : Prop :=
  ∃ (ys : List Int), e = .returned (.int .u32 (qt : Nat)) ∧ OwnI .u32 40 w0.heap.size w' (.slice (some ⟨g, 0, none⟩) L c) ys ∧ ys.length = L ∧ Lim ys ∧ val ys = val zs % (W o * val d) ∧ Below w0.heap.size w0 w' ∧ Chg w w' (fun k => k = g)
set_option maxHeartbeats 8000000 in
theorem estimate_any {w0 : World} (g o p n c' L c : Nat) (zs : List Int) (D : Option Addr) (cd : Nat) (d : List Int) (w : World) (hn : n = p + 2)
    (hO : OwnI .u32 40 w0.heap.size w (.slice (some ⟨g, 0, none⟩) L c) zs) (hz : zs.length = L) (lz : Lim zs) (hm : o + (n + 1) ≤ L) (hL : L ≤ 1000000000) (hD : Kd.C (Kd.int .u32) w0 D n d) (ld : Lim d) (hb0 : Below w0.heap.size w0 w) (hW : W (p + 1) ≤ val d) (hU : val zs < val d * W (o + 1)) :
    Calls Tryz.prog 130 #[.slice (some ⟨g, o, none⟩) (n + 1) c', .slice D n cd] w (EstP (val zs / (W o * val d)) zs d o L c g w0 w) := by
  have hd : d.length = n := hD.1
  have hE := EstIn.of lz ld (hd.trans hn) hW hU
  generalize val zs / (W o * val d) = qt at *
  have ht := hE.top_lt
  have hd1 := hE.d1_pos
  have hU2 := hE.U_lt
  have HD := Lib.hid hD
  have HDL := Lib.hid hd
  have HO := Lib.hid hO
  have HZ := Lib.hid hz
  obtain ⟨g', hg', hg0, hg1, hgc, hgf⟩ := own_open hO (by omega)
  obtain rfl : g = g' := by injection hg' with h1; injection h1
  clear hg'
  have z2 := hgc (o + n) (by omega)
  have z1 := hgc (o + (n - 1)) (by omega)
  have z0 := hgc (o + (n - 2)) (by omega)
  obtain ⟨b, off, rfl, hbl, hcs⟩ := open_C (Kd.C_below hD hb0) (by omega)
  have e1 := hcs (n - 1) (by omega)
  have e0 := hcs (n - 2) (by omega)
  obtain ⟨r0, r1⟩ := lim_getD lz (o + n)
  obtain ⟨s0, s1⟩ := lim_getD lz (o + (n - 1))
  obtain ⟨t0, t1⟩ := lim_getD lz (o + (n - 2))
  obtain ⟨x0, x1⟩ := lim_getD ld (n - 1)
  obtain ⟨y0, y1⟩ := lim_getD ld (n - 2)
  clear hgc hgf hcs hD hd hO hz
  rw [show o + p + 2 = o + n by omega, show o + p + 1 = o + (n - 1) by omega] at hE ht
  rw [show o + p = o + (n - 2) by omega, show p + 1 = n - 1 by omega] at hE
  rw [show d.getD p 0 = d.getD (n - 2) 0 by congr 1; omega] at hE
  rw [show p + 1 = n - 1 by omega] at hd1
  have HE := Lib.hid hE
  clear hE
  generalize zs.getD (o + n) 0 = zr at *
  generalize zs.getD (o + (n - 1)) 0 = zt at *
  generalize zs.getD (o + (n - 2)) 0 = zu at *
  generalize d.getD (n - 1) 0 = x at *
  generalize d.getD (n - 2) 0 = y at *
  have or1 := or_high zt zr s0 s1 r0 r1
  have xp : (x == 0) = false := by have := hd1.1; simp; omega
  obtain ⟨T, hT⟩ : ∃ T : Nat, T = zr.toNat * 4294967296 + zt.toNat := ⟨_, rfl⟩
  have hT2 : zr * 4294967296 + zt = (T : Int) := by omega
  rw [← hT] at HE ht
  have hn2 : 2 ≤ n := by omega
  have HN := Lib.hid hn
  have HT := Lib.hid hT
  clear hn hT
  obtain ⟨hq0, hr0⟩ := est_start x0 (by omega : 1 ≤ x) ht
  have HST := Lib.hid (EstIn.start HE.out)
  have H0 := Lib.hid (Nat.lt_of_le_of_lt (Nat.sub_le T (min (T / x.toNat) 4294967295 * x.toNat)) ht)
  go_enter Tryz.func130, Tryz.ntmps130
  go_wp2_with fail
  go_region
  go_upto_block 0 with fail
  go_cut [7] (fun vq wx => ∃ q : Nat, vq = .int .u64 q ∧ q < 4294967296 ∧ (q = qt ∨ q = qt + 1) ∧ Below w.heap.size w wx)
  case first =>
    go_wp2_with fail
    go_loopw [7, 8] (fun vq vr wr => EstRel qt x.toNat T vq vr ∧ Below w.heap.size w wr) (fun vq _ _ => (intOf vq).toNat)
    case atStart => exact ⟨⟨_, _, rfl, rfl, H0.out, HST.out⟩, bel⟩
    case round =>
      obtain ⟨⟨q, r, rfl, rfl, hr, hE2⟩, hbw⟩ := hrel
      have hcx := (bcell hbw).1
      have k0 := (hcx _ _ hg1).trans z0
      have k1 := (hcx _ _ hbl).trans e1
      have k2 := (hcx _ _ hbl).trans e0
      have hql := hE2.2.1
      have hsz := below_size hbw
      have kg : g < wr.heap.size := by omega
      have kb : b < wr.heap.size := by omega
      clear hcx z0 z1 z2 e0 e1 or1 hq0 hr0 H0 HST hsz hg1 hbl
      have HE2 := Lib.hid hE2
      clear hE2
      obtain ⟨m0, m1, -, -⟩ := mul_bound (x := (q : Int)) (by omega) (by omega) y0 y1 (u := 0) (c := 0) (by omega) (by omega) (by omega) (by omega)
      by_cases hr2 : r < 4294967296
      · have d0 : decide ((r : Int) < 4294967296) = true := decide_eq_true (by omega)
        have or2 := or_high zu (r : Int) t0 t1 (by omega) (by omega)
        by_cases hc : (r : Int) * 4294967296 + zu < (q : Int) * y
        · have tc : decide ((q : Int) * y > (r : Int) * 4294967296 + zu) = true := decide_eq_true hc
          obtain ⟨p1, p2⟩ := EstAt.step HE.out HE2.out (by
            have h2 : ((r * 4294967296 + zu.toNat : Nat) : Int) < ((q * y.toNat : Nat) : Int) := by
              rw [Int.natCast_mul, Int.toNat_of_nonneg y0]; omega
            omega)
          have P2 := Lib.hid p2
          have hq1 : IntKind.u64.wrap ((q : Int) - 1) = ((q - 1 : Nat) : Int) := by rw [IntKind.wrap_u64]; omega
          have hr1 : IntKind.u64.wrap ((r : Int) + x) = ((r + x.toNat : Nat) : Int) := by rw [IntKind.wrap_u64]; omega
          clear p2 hc
          go_wp2_with fail
          go_region
          go_wp2_with fail
          go_roundw
          case rel =>
            have e9 : (r : Int) + max x 0 = ((r + x.toNat : Nat) : Int) := by omega
            exact ⟨⟨q - 1, r + x.toNat, rfl, by rw [e9], by omega, P2.out⟩, bel⟩
          case measure => simp [intOf]; omega
        · have tc : decide ((q : Int) * y > (r : Int) * 4294967296 + zu) = false := decide_eq_false hc
          have hst := EstAt.stop HE.out HE2.out (.inr (by
            have h2 : ((q * y.toNat : Nat) : Int) ≤ ((r * 4294967296 + zu.toNat : Nat) : Int) := by
              rw [Int.natCast_mul, Int.toNat_of_nonneg y0]; omega
            omega))
          have HS := Lib.hid hst
          clear hst hc
          go_wp2_with fail
          go_region
          go_wp2_with fail
          go_meet
          exact ⟨q, rfl, hql, HS.out, bel⟩
      · have d0 : decide ((r : Int) < 4294967296) = false := decide_eq_false (by omega)
        have hst := EstAt.stop HE.out HE2.out (.inl (by omega))
        have HS := Lib.hid hst
        clear hst
        go_wp2_with fail
        go_region
        go_wp2_with fail
        go_meet
        exact ⟨q, rfl, hql, HS.out, bel⟩
  case rest =>
    obtain ⟨q, rfl, hq, hqt, hbw⟩ := hcut
    clear z0 z1 z2 e0 e1 or1 hq0 hr0 H0 HST
    have HQT := Lib.hid hqt
    have HQ : Hid ((q : Int).toNat * val d < W (n + 1)) := Lib.hid (by
      rw [Int.toNat_natCast, W_succ]
      have h1 := val_lt ld
      rw [HDL.out] at h1
      exact Nat.mul_lt_mul_of_lt_of_lt hq h1)
    have HO2 := Lib.hid (Kd.R_below HO.out hbw)
    have hb2 := below_step hb0 hbw
    clear hqt HO
    go_wp2_with (first | fail | (go_at_call 132; (with_reducible refine (takes_any g o (n + 1) c' L c zs (some ⟨b, off, none⟩) n cd d (q : Int) _ HO2.out HZ.out lz hm hL HD.out ld hb2 (by omega) (by omega) (by omega) HQ.out).mono ?_); rintro e w1 ⟨bo, ys, rfl, ho0, ho1, hO1, hy1, ly1, hdr1, hv1, hbw1, hch1⟩; have HO1 := Lib.hid hO1; have HY1 := Lib.hid hy1; have HDR := Lib.hid hdr1; have HV1 := Lib.hid hv1; clear hO1 hy1 hdr1 hv1))
    · obtain rfl : bo = 1 := by omega
      go_loopw [9, 85] (fun vc vi wr => BakRel ys d o (n + 1) L c g w0 w1 vc vi wr) (fun _ vi _ => n + 1 - (intOf vi).toNat)
      case atStart => exact ⟨0, 0, ys, by omega, rfl, rfl, HY1.out, HO1.out, hbw1, Chg.id _ _, BackAt.start ly1⟩
      case round =>
        obtain ⟨k, cy, y2, hk, rfl, rfl, hy, hown, hbr, hchr, hbk⟩ := hrel
        have HY := Lib.hid hy
        have HR := Lib.hid hown
        have HT2 := Lib.hid hbk
        obtain ⟨c0, c1, l2, -, -⟩ := hbk
        obtain ⟨g', hg', hg0, hg1, hgc, hgf⟩ := own_open hown (by omega)
        obtain rfl : g = g' := by injection hg' with h1; injection h1
        clear hg' hy hown
        by_cases hlt : k < n + 1
        · have hcell := hgc (o + k) (by omega)
          have hfr := hgf (o + k)
          obtain ⟨r0, r1⟩ := lim_getD l2 (o + k)
          obtain ⟨x0, x1⟩ := lim_getD ld k
          have hst := BackAt.step ld HT2.out (by omega) (by rw [HY.out]; omega)
          have HST := Lib.hid hst
          have ata : ∀ w', Below wr.heap.size wr w' → Calls Tryz.prog 96 #[.slice (some ⟨b, off, none⟩) n cd, .int .i64 k] w' fun e w'' => e = .returned (.int .u64 (d.getD k 0)) ∧ w' = w'' := fun w' hb' =>
            at_any _ n cd d k w' (Kd.C_below HD.out (below_step hbr hb')) ld (by omega) (by omega)
          have HAT := Lib.hid ata
          clear hgc hgf hst ata l2
          generalize d.getD k 0 = y at *
          generalize y2.getD (o + k) 0 = r at *
          go_wp2_with fail
          go_region_held3 (fun w' => Below (wr).heap.size (wr) w' ∧ ∀ b o, b < (wr).heap.size → w'.cell? ⟨b, o, none⟩ = (wr).cell? ⟨b, o, none⟩) (first | ((try go_split_ands); refine below_S2 ?_; ((repeat (first | with_reducible assumption | with_reducible exact Below.refl _ _ | with_reducible refine below_alloc ?_ _ | with_reducible refine pw_below_drewN ?_ _ | with_reducible refine below_drew1 ?_ | ((with_reducible refine below_set ?_ ?hle); (case hle => first | (simp; done) | omega | (simp; omega))) | with_reducible refine below_step ?_ (by with_reducible assumption))); done))) (first | (go_at_call 96; (with_reducible refine (HAT.out _ bel).mono ?_); rintro e w3 ⟨rfl, rfl⟩))
          all_goals
            go_wp2_with fail
            go_roundw
            case rel =>
              refine ⟨_, _, _, _, _, _, _, _, _, _, _, _, _, _, _, _, _, _, _, _, _, _, _, _, ?hB, rfl⟩
              exact ⟨k + 1, _, _, by omega, by simp, rfl, by simp [HY.out], Kd.R_drew (Kd.R_putn HR.out ((o + k : Nat) : Int) _), bel, Chg.tr (Chg.setCell hchr rfl _) (Chg.of_below (below_drew1 (Below.refl _ _))), HST.out⟩
            case measure => simp [intOf]; omega
        · obtain rfl : k = n + 1 := by omega
          have hbk := HT2.out.2.2.2.2
          have et : d.take (n + 1) = d := List.take_of_length_le (by rw [HDL.out]; omega)
          rw [et] at hbk
          have e3 : o + (n + 1) = o + (p + 3) := by rw [HN.out]
          have ht0 := small_drop (t := o + (n + 1)) (by rw [HZ.out]; exact hm) (by rw [e3]; exact HE.out.U_lt)
          have hV := drop_small ly1 (by rw [HY1.out]; exact hm) ht0 HDR.out
          have hY := drop_small l2 (by rw [HY.out]; exact hm) (by rw [HDR.out]; exact ht0) HT2.out.2.2.2.1
          have hv := HV1.out
          rw [show ((1 : Int)).toNat = 1 from rfl, Nat.mul_one, Int.toNat_natCast] at hv
          rw [e3] at hV hY hv hbk
          obtain ⟨p1, p2⟩ := EstIn.fin1 HE.out HQT.out hv hV (by omega) hY hbk
          have hqe : IntKind.u64.wrap ((q : Int) - 1) = ((qt : Nat) : Int) := by rw [IntKind.wrap_u64]; omega
          have hqm : ((qt : Nat) : Int) % 4294967296 = ((qt : Nat) : Int) := by omega
          have P2 := Lib.hid p2
          have HM := Lib.hid hqm
          clear hgc hgf p1 p2 hbk hv hV hY ht0 hqm
          rw [hqe]
          go_wp2_with fail
          go_ret
          exact ⟨y2, by first | rfl | (rw [HM.out]; rfl), HR.out, HY.out, l2, P2.out, hbr, Chg.tr (Chg.of_below hbw) (Chg.tr hch1 hchr)⟩
    · obtain rfl : bo = 0 := by omega
      have hv := HV1.out
      rw [show ((0 : Int)).toNat = 0 from rfl, Nat.mul_zero, Nat.add_zero, Int.toNat_natCast] at hv
      obtain ⟨p1, p2⟩ := EstIn.fin0 HE.out HQT.out hv
      have hqm : (q : Int) % 4294967296 = ((qt : Nat) : Int) := by omega
      go_ret
      exact ⟨ys, by subst p1; first | rfl | (rw [hqm]; rfl), HO1.out, HY1.out, ly1, p2, hbw1, Chg.tr (Chg.of_below hbw) hch1⟩
end Go.Proofs.YtacnkcojhlbkoaaGreatDoor

set_option linter.unusedSimpArgs false
set_option linter.unusedVariables false
set_option linter.unnecessarySimpa false
namespace Go.Proofs.YtacnkcojhlbkoaaGreatDoor.NL
set_option maxRecDepth 100000

theorem val_drop_succ {a : List Int} {k : Nat} (h : k < a.length) : val (a.drop k) = (a.getD k 0).toNat + 4294967296 * val (a.drop (k + 1)) := by
  rw [List.drop_eq_getElem_cons h, List.getD_eq_getElem?_getD, List.getElem?_eq_getElem h]; rfl
theorem drop_set_at {ys : List Int} {k : Nat} {v : Int} (h : k < ys.length) : val ((ys.set k v).drop k) = v.toNat + 4294967296 * val (ys.drop (k + 1)) := by
  have h2 : k < (ys.set k v).length := by rw [List.length_set]; exact h
  rw [val_drop_succ h2, getD_set _ _ _ h]
  congr 3
  apply List.ext_getElem?
  intro i
  rw [List.getElem?_drop, List.getElem?_drop, List.getElem?_set_ne (by omega)]
theorem drop_all {a : List Int} {k : Nat} (h : a.length ≤ k) : val (a.drop k) = 0 := by rw [List.drop_eq_nil_of_le h]; rfl

/-- A number is being divided by one element: what stands from k on is done. -/
def ShortAt (a : List Int) (x : Int) (k : Nat) (r : Int) (ys : List Int) : Prop := 0 ≤ r ∧ r < x ∧ Lim ys ∧ val (ys.drop k) * x.toNat + r.toNat = val (a.drop k)
theorem ShortAt.start {a : List Int} {x : Int} {n : Nat} (hn : a.length = n) (x0 : 0 < x) : ShortAt a x n 0 (List.replicate n 0) := by
  refine ⟨by omega, x0, lim_zeros n, ?_⟩
  rw [drop_all (a := a) (by omega), drop_all (a := List.replicate n 0) (by rw [List.length_replicate]; exact Nat.le_refl _)]; simp
theorem short_nums {r x y : Int} (r0 : 0 ≤ r) (r1 : r < x) (x1 : x < 4294967296) (y0 : 0 ≤ y) (y1 : y < 4294967296) :
    0 ≤ r * 4294967296 + y ∧ r * 4294967296 + y < 18446744073709551616 ∧ 0 ≤ (r * 4294967296 + y) / x ∧ (r * 4294967296 + y) / x < 4294967296 ∧ 0 ≤ (r * 4294967296 + y) % x ∧ (r * 4294967296 + y) % x < x := by
  have hx : 0 < x := by omega
  refine ⟨by omega, by omega, Int.ediv_nonneg (by omega) (by omega), ?_, Int.emod_nonneg _ (by omega), Int.emod_lt_of_pos _ hx⟩
  refine Int.ediv_lt_of_lt_mul hx ?_
  omega
theorem ShortAt.step {a ys : List Int} {x r : Int} {k : Nat} (la : Lim a) (x1 : x < 4294967296) (h : ShortAt a x (k + 1) r ys) (hk : k < a.length) (hy : k < ys.length) :
    ShortAt a x k ((r * 4294967296 + a.getD k 0) % x) (ys.set k ((r * 4294967296 + a.getD k 0) / x)) := by
  obtain ⟨h0, h1, h2, h3⟩ := h
  obtain ⟨y0, y1⟩ := lim_getD la k
  obtain ⟨b0, b1, b2, b3, b4, b5⟩ := short_nums h0 h1 x1 y0 y1
  refine ⟨b4, b5, lim_set h2 ⟨b2, b3⟩, ?_⟩
  rw [drop_set_at hy, val_drop_succ hk, ← h3]
  have e : x * ((r * 4294967296 + a.getD k 0) / x) + (r * 4294967296 + a.getD k 0) % x = r * 4294967296 + a.getD k 0 := Int.mul_ediv_add_emod _ _
  generalize (r * 4294967296 + a.getD k 0) / x = v at *
  generalize (r * 4294967296 + a.getD k 0) % x = r' at *
  generalize a.getD k 0 = y at *
  have e2 : v.toNat * x.toNat + r'.toNat = r.toNat * 4294967296 + y.toNat := by
    have : ((v.toNat * x.toNat + r'.toNat : Nat) : Int) = ((r.toNat * 4294967296 + y.toNat : Nat) : Int) := by
      rw [Int.natCast_add, Int.natCast_mul, Int.natCast_add, Int.natCast_mul, Int.toNat_of_nonneg b2, Int.toNat_of_nonneg (by omega : 0 ≤ x), Int.toNat_of_nonneg b4, Int.toNat_of_nonneg h0, Int.toNat_of_nonneg y0, Int.mul_comm v x]
      exact e
    omega
  generalize val (ys.drop (k + 1)) = Y
  rw [Nat.add_mul, Nat.mul_add, Nat.mul_assoc]
  omega
theorem ShortAt.done {a ys : List Int} {x r : Int} (h : ShortAt a x 0 r ys) : val ys = val a / x.toNat ∧ r.toNat = val a % x.toNat := by
  obtain ⟨h0, h1, h2, h3⟩ := h
  rw [List.drop_zero, List.drop_zero] at h3
  have hx : r.toNat < x.toNat := by omega
  rw [← h3, Nat.mul_comm, Nat.mul_add_div (by omega), Nat.mul_add_mod, Nat.div_eq_of_lt hx, Nat.mod_eq_of_lt hx]
  exact ⟨rfl, rfl⟩

/-- A number is being divided, element by element: X is it, D the divisor, R what is left; the quotient's elements from k on are done. -/
def LongAt (X D k : Nat) (R : Nat) (ys : List Int) : Prop := Lim ys ∧ R < D * W k ∧ val (ys.drop k) * (W k * D) + R = X
theorem LongAt.step {X D R k : Nat} {ys : List Int} (h : LongAt X D (k + 1) R ys) (hD : 0 < D) (hy : k < ys.length) (hq : R / (W k * D) < 4294967296) :
    LongAt X D k (R % (W k * D)) (ys.set k ((R / (W k * D) : Nat) : Int)) := by
  obtain ⟨h1, h2, h3⟩ := h
  have hp : 0 < W k * D := Nat.mul_pos (W_pos k) hD
  refine ⟨lim_set h1 ⟨Int.natCast_nonneg _, Int.ofNat_lt.2 hq⟩, by rw [Nat.mul_comm D]; exact Nat.mod_lt _ hp, ?_⟩
  rw [drop_set_at hy, Int.toNat_natCast, ← h3, W_succ]
  have e := Nat.div_add_mod R (W k * D)
  generalize R / (W k * D) = q at *
  generalize R % (W k * D) = R' at *
  rw [← e, Nat.add_mul, Nat.mul_comm (W k * D) q, Nat.mul_assoc 4294967296 (W k) D, Nat.mul_left_comm (val _) 4294967296, Nat.mul_assoc 4294967296]
  omega
theorem LongAt.done {X D R : Nat} {ys : List Int} (h : LongAt X D 0 R ys) : val ys = X / D ∧ R = X % D := by
  obtain ⟨h1, h2, h3⟩ := h
  rw [List.drop_zero, W_zero, Nat.one_mul] at h3
  rw [W_zero, Nat.mul_one] at h2
  rw [← h3, Nat.mul_comm, Nat.mul_add_div (by omega), Nat.mul_add_mod, Nat.div_eq_of_lt h2, Nat.mod_eq_of_lt h2]
  exact ⟨rfl, rfl⟩
/-- A divisor is moved so that it fills its elements. -/
theorem norm_lt {b : List Int} {n : Nat} (lb : Lim b) (hn : b.length = n + 1) : val b * 2 ^ (32 - blen (b.getD n 0).toNat) < W (n + 1) := by
  obtain ⟨t0, t1⟩ := lim_getD lb n
  have h1 : val b = val (b.take n) + W n * (b.getD n 0).toNat := by
    have := val_take_succ b n
    rwa [← hn, List.take_length] at this
  have h2 : val (b.take n) < W n := by
    have := val_lt (l := b.take n) (fun x hx => lb x (List.mem_of_mem_take hx))
    rwa [List.length_take, Nat.min_eq_left (by omega)] at this
  have h3 := lt_blen (b.getD n 0).toNat
  have h4 : blen (b.getD n 0).toNat ≤ 32 := blen_le.2 (by omega)
  generalize (b.getD n 0).toNat = t at *
  have h5 : val b < W n * 2 ^ blen t := by
    have : W n * (t + 1) ≤ W n * 2 ^ blen t := Nat.mul_le_mul_left _ h3
    rw [Nat.mul_add, Nat.mul_one] at this
    omega
  have h6 : val b * 2 ^ (32 - blen t) < W n * 2 ^ blen t * 2 ^ (32 - blen t) := Nat.mul_lt_mul_of_pos_right h5 (Nat.two_pow_pos _)
  rw [Nat.mul_assoc, ← Nat.pow_add, show blen t + (32 - blen t) = 32 by omega] at h6
  rw [W_succ, Nat.mul_comm 4294967296]
  exact h6
end Go.Proofs.YtacnkcojhlbkoaaGreatDoor.NL

set_option linter.unusedSimpArgs false
set_option linter.unusedVariables false
set_option linter.unnecessarySimpa false
namespace Go.Proofs.YtacnkcojhlbkoaaGreatDoor
open Go.RowKit Go.Proofs.YtacnkcojhlbkoaaGreatDoorW.PrintWords Go.Proofs.YtacnkcojhlbkoaaGreatDoorW.PrintLast Go.Proofs.YtacnkcojhlbkoaaGreatDoorW.PrintMore Go.Proofs.YtacnkcojhlbkoaaGreatDoor.NL
set_option maxRecDepth 100000

/-- Two numbers handed back. -/
def Gives2 (Q R : Nat) (w : World) (e : Ending) (w' : World) : Prop :=
  ∃ (A : Option Addr) (n c : Nat) (A' : Option Addr) (n' c' : Nat), e = .returned (.tuple #[.slice A n c, .slice A' n' c']) ∧ Num w' A n c Q ∧ Num w' A' n' c' R ∧ Below w.heap.size w w'
def ShortRel (a : List Int) (x : Int) (n : Nat) (w0 : World) (A : Option Addr) (c : Nat) (vr vi : Value) (wr : World) : Prop :=
  ∃ (k : Nat) (r : Int) (ys : List Int), k ≤ n ∧ vi = .int .i64 ((k : Int) - 1) ∧ vr = .int .u64 r ∧ ys.length = n ∧ OwnI .u32 40 w0.heap.size wr (.slice A n c) ys ∧ Below w0.heap.size w0 wr ∧ ShortAt a x k r ys
set_option maxHeartbeats 4000000 in
theorem short_any (A : Option Addr) (n c : Nat) (a : List Int) (x : Int) (w : World) (hA : Kd.C (Kd.int .u32) w A n a) (la : Lim a) (hn : n ≤ 1000000000) (x0 : 0 < x) (x1 : x < 4294967296) :
    Calls Tryz.prog 128 #[.slice A n c, .int .u32 x] w (Gives2 (val a / x.toNat) (val a % x.toNat) w) := by
  have ha : a.length = n := hA.1
  have HA := Lib.hid hA
  have HLA := Lib.hid ha
  have xp : (x == 0) = false := by simp; omega
  clear hA ha
  go_enter Tryz.func128, Tryz.ntmps128
  go_wp2_with ((with_reducible refine gate_dst (N := 11) rfl ?_); refine make_row (w0 := w) rfl rfl 11 rfl _ _ rfl n rfl rfl (by omega) bel ?_; intro A5 c5 w5 hr5 hb5 _)
  have HR5 := Lib.hid hr5
  clear hr5
  go_loopw [7, 8] (fun vr vi wr => ShortRel a x n w A5 c5 vr vi wr) (fun _ vi _ => (intOf vi + 1).toNat)
  case atStart => exact ⟨n, 0, _, by omega, rfl, rfl, by simp, HR5.out, hb5, ShortAt.start HLA.out x0⟩
  case round =>
    obtain ⟨k, r, ys, hk, rfl, rfl, hy, hown, hbw, hs⟩ := hrel
    have HY := Lib.hid hy
    have HO := Lib.hid hown
    have HD := Lib.hid hs
    obtain ⟨r0, r1, ly, -⟩ := hs
    clear hy hown
    cases k with
    | zero =>
      have hv := ShortAt.done HD.out
      have HV := Lib.hid hv
      obtain ⟨hC, hcc⟩ := R_C HO.out
      have HC := Lib.hid hC
      clear hC hv
      go_wp2_with (first | fail | (go_at_call 112; (with_reducible refine (trim_any _ _ _ ys _ HC.out ly (by omega) hcc).mono ?_); rintro e w1 ⟨k, rfl, hk, rfl⟩) | (go_at_call 91; (with_reducible refine (of_any r _ r0 (by omega)).mono ?_); rintro e w2 ⟨A2, n2, c2, rfl, HV2, b2⟩))
      exact bodyPost_ret (v := .tuple #[.slice A5 k c5, .slice A2 n2 c2]) (by simp [results, Tryz.results128, go_sem, *]) rfl ⟨_, k, c5, _, n2, c2, rfl, Lib.hid ⟨by have := hk.out.1; omega, by have := C_head HC.out hk.out.1; rw [hk.out.2, HV.out.1] at this; exact Kd.C_below this b2⟩, by rw [← HV.out.2]; exact HV2, bel⟩
    | succ j =>
      have e1 : (((j + 1 : Nat) : Int) - 1) = (j : Int) := by omega
      rw [e1]
      obtain ⟨g, rfl, hg0, hg1, hgc, hgf⟩ := own_open HO.out (by omega)
      obtain ⟨b, off, rfl, hbl, hcs⟩ := open_C (Kd.C_below HA.out hbw) (by omega)
      have hcell := hgc j (by omega)
      have hfr := hgf j
      have hac := hcs j (by omega)
      obtain ⟨y0, y1⟩ := lim_getD la j
      have hst := ShortAt.step la x1 HD.out (by rw [HLA.out]; omega) (by rw [HY.out]; omega)
      have HST := Lib.hid hst
      clear hgc hgf hcs hst ly
      generalize a.getD j 0 = y at *
      generalize ys.getD j 0 = z at *
      have or1 := or_high y r y0 y1 r0 (by omega)
      obtain ⟨b0, b1, b2, b3, b4, b5⟩ := short_nums r0 r1 x1 y0 y1
      go_wp2_with fail
      go_roundw
      case rel => exact ⟨j, _, _, by omega, rfl, rfl, by simp [HY.out], Kd.R_putn HO.out (j : Int) _, bel, HST.out⟩
      case measure => first | (simp [intOf]; done) | (simp [intOf]; omega)
end Go.Proofs.YtacnkcojhlbkoaaGreatDoor

set_option linter.unusedSimpArgs false
set_option linter.unusedVariables false
set_option linter.unnecessarySimpa false
namespace Go.Proofs.YtacnkcojhlbkoaaGreatDoor
open Go.RowKit Go.Proofs.YtacnkcojhlbkoaaGreatDoorW.PrintWords Go.Proofs.YtacnkcojhlbkoaaGreatDoorW.PrintLast Go.Proofs.YtacnkcojhlbkoaaGreatDoorW.PrintMore Go.Proofs.YtacnkcojhlbkoaaGreatDoor.NL
set_option maxRecDepth 100000

theorem cmpS_lt {a b : List Int} (la : Lim a) (ta : Top a) (lb : Lim b) (tb : Top b) : cmpS a b < 0 ↔ val a < val b := by
  have key : ∀ {a b : List Int}, Lim a → Lim b → Top b → a.length < b.length → val a < val b := fun {a b} la lb tb h =>
    Nat.lt_of_lt_of_le (val_lt la) (Nat.le_trans (W_le (by omega)) (val_top lb tb (by intro h0; rw [h0] at h; simp at h)))
  unfold cmpS
  by_cases h1 : a.length < b.length
  · rw [if_pos h1]; exact ⟨fun _ => key la lb tb h1, fun _ => by decide⟩
  · rw [if_neg h1]
    by_cases h2 : b.length < a.length
    · rw [if_pos h2]
      have := key lb la ta h2
      constructor
      · intro h; exact absurd h (by decide)
      · intro h; omega
    · rw [if_neg h2]
      unfold cmpN
      by_cases h3 : val a < val b
      · rw [if_pos h3]; exact ⟨fun _ => h3, fun _ => by decide⟩
      · rw [if_neg h3]
        split
        · exact ⟨fun h => absurd h (by decide), fun h => absurd h h3⟩
        · exact ⟨fun h => absurd h (by decide), fun h => absurd h h3⟩
theorem own_far {w : World} {base g L c : Nat} {zs : List Int} (h : OwnI .u32 40 base w (.slice (some ⟨g, 0, none⟩) L c) zs) {p : Addr} (hne : g ≠ p.block) (u : Value) : OwnI .u32 40 base (w.setCell p u) (.slice (some ⟨g, 0, none⟩) L c) zs :=
  Kd.R_mono (Kd.R_far (Kd.R_reok rfl h (ok := fun k => k = g) (fun k hk => by simpa [Value.ownBlock] using hk.symm)) (fun k hk => by rw [hk]; exact hne) u) (fun _ _ => trivial)
theorem own_chg {w1 w2 : World} {base : Nat} {v : Value} {xs : List Int} {S : Nat → Prop} (h : OwnI .u32 40 base w1 v xs) (hc : Chg w1 w2 S) (hS : ∀ k, base ≤ k → ¬ S k) : OwnI .u32 40 base w2 v xs :=
  Kd.R_mono (Kd.R_step (Kd.R_bound h) (fun k hk hlt => hc.block k hlt (hS k hk.2.1))) (fun _ _ => trivial)
theorem lead32 (x : Int) (h0 : 0 ≤ x) (h1 : x < 4294967296) (w : World) :
    Calls Tryz.prog 129 #[.int .u32 x] w fun r w' => r = .returned (.int .i64 ((32 - blen x.toNat : Nat) : Int)) ∧ w = w' := by
  refine (Tryz.bits_LeadingZeros32 x w h0 (by omega)).mono ?_
  rintro e w' ⟨rfl, rfl⟩
  have h2 : blen x.toNat ≤ 32 := blen_le.2 (by omega)
  exact ⟨by rw [blen_bitLen (by omega)]; congr 2; omega, rfl⟩
theorem long_one {A B : Option Addr} {n c d : Nat} {a : List Int} {x : Int} (w : World) (hA : Kd.C (Kd.int .u32) w A n a) (hB : Kd.C (Kd.int .u32) w B 1 [x]) (la : Lim a) (hn : n ≤ 1000000000) (x0 : 0 < x) (x1 : x < 4294967296) :
    Calls Tryz.prog 118 #[.slice A n c, .slice B 1 d] w (Gives2 (val a / x.toNat) (val a % x.toNat) w) := by
  obtain ⟨b, off, rfl, hbl, hcs⟩ := open_C hB (by omega)
  have hcell := hcs 0 (by omega)
  simp only [Nat.add_zero, List.getD_cons_zero] at hcell
  have HA := Lib.hid hA
  clear hcs hA hB
  go_enter Tryz.func118, Tryz.ntmps118
  go_wp2_with (first | fail | (go_at_call 128; (with_reducible refine (short_any A n c a x _ HA.out la hn x0 x1).mono ?_); rintro e w1 ⟨A1, n1, c1, A2, n2, c2, rfl, HQ, HR, b1⟩))
  exact bodyPost_ret (v := .tuple #[.slice A1 n1 c1, .slice A2 n2 c2]) (by simp [results, Tryz.results118, go_sem, *]) rfl ⟨_, _, _, _, _, _, rfl, HQ, HR, b1⟩
theorem long_less {A B : Option Addr} {n m c d : Nat} {a b : List Int} (w : World) (hA : Kd.C (Kd.int .u32) w A n a) (hB : Kd.C (Kd.int .u32) w B m b) (la : Lim a) (ta : Top a) (lb : Lim b) (tb : Top b) (hc : n ≤ c) (hn : n ≤ 1000000000) (hm : 2 ≤ m) (hlt : val a < val b) :
    Calls Tryz.prog 118 #[.slice A n c, .slice B m d] w (Gives2 (val a / val b) (val a % val b) w) := by
  have t0 : ((m : Int) == 1) = false := by simp; omega
  have hcv : decide (cmpS a b < 0) = true := decide_eq_true ((cmpS_lt la ta lb tb).2 hlt)
  have HC := Lib.hid (cmp_any A B n m c d a b w hA hB (by omega) la lb)
  have HA := Lib.hid hA
  generalize cmpS a b = cv at *
  go_enter Tryz.func118, Tryz.ntmps118
  go_wp2_with (first | fail | (go_at_call 80; (with_reducible refine (HC.out).mono ?_); rintro e w1 ⟨rfl, b1⟩))
  refine bodyPost_ret (v := .tuple #[.slice none 0 0, .slice A n c]) (by simp [results, Tryz.results118, go_sem, *]) rfl ⟨_, _, _, _, _, _, rfl, ?_, ?_, b1⟩
  · rw [Nat.div_eq_of_lt hlt]
    exact Lib.hid ⟨Nat.le_refl _, by rw [ofN_zero]; exact R_nilC _⟩
  · rw [Nat.mod_eq_of_lt hlt]
    exact (num_of HA.out la ta hc).below b1
/-- A copy to the front of a row of its own. -/
theorem copy_row {P : Program} {ops : Array Oper} {rest : List Oper} {o : Oper} {a : Act} {Q : Exit → Act → World → Prop} {W w0 : World} (hp : P = Tryz.prog) (hgd : o.guard = none) (x y : Operand) (ho : o.op = .call { callee := .builtin .copy, args := #[x, y], argTypes := #[115, 115] })
    {A A' : Option Addr} {n c m c' : Nat} {xs ys : List Int} (hx : a.eval x = .slice A n c) (hy : a.eval y = .slice A' m c') (HO : OwnI .u32 40 w0.heap.size W (.slice A n c) xs) (HR : Kd.C (Kd.int .u32) W A' m ys) (HB : Below w0.heap.size w0 W) (hm : m ≤ n) (hn : xs.length = n)
    (h : ∀ w1, OwnI .u32 40 w0.heap.size w1 (.slice A n c) (ys ++ xs.drop m) → Below w0.heap.size w0 w1 → wpList P ops Q rest (a.put o.dst (.int .i64 (m : Nat))) w1) : wpList P ops Q (o :: rest) a W := by
  subst hp
  have hl : ys.length = m := HR.1
  refine Kd.R_copy (0 : Int) (w0 := w0) w0.heap.size hgd x y 115 115 40 ho Tryz.underlying115 (by kernel_rfl) (.slice A n c) xs ys A' m c' (fun _ => True) hx hy HO HR HB HB.size ?_
  intro w1 hr hb _
  rw [hn, Nat.min_eq_left hm, List.take_of_length_le (by omega)] at hr
  rw [hn, Nat.min_eq_left hm]
  exact h w1 hr hb
def LongRel (X D n m : Nat) (w1 w4 : World) (g c2 : Nat) (Aq : Option Addr) (cq : Nat) (vi : Value) (wr : World) : Prop :=
  ∃ (k : Nat) (zs ys : List Int), k ≤ n + 1 - m ∧ vi = .int .i64 ((k : Int) - 1) ∧ zs.length = n + 1 ∧ Lim zs ∧ OwnI .u32 40 w1.heap.size wr (.slice (some ⟨g, 0, none⟩) (n + 1) c2) zs ∧ ys.length = n + 1 - m ∧ OwnI .u32 40 w4.heap.size wr (.slice Aq (n + 1 - m) cq) ys ∧ Below w1.heap.size w1 wr ∧ LongAt X D k (val zs) ys
set_option maxHeartbeats 8000000 in
theorem long_main {A B : Option Addr} {n m p c d : Nat} {a b : List Int} (w : World) (hp : m = p + 2) (hA : Kd.C (Kd.int .u32) w A n a) (hB : Kd.C (Kd.int .u32) w B m b) (la : Lim a) (ta : Top a) (lb : Lim b) (tb : Top b) (hc : n ≤ c) (hd : m ≤ d) (hn : n ≤ 1000000) (hle : val b ≤ val a) :
    Calls Tryz.prog 118 #[.slice A n c, .slice B m d] w (Gives2 (val a / val b) (val a % val b) w) := by
  have hbl : b.length = m := hB.1
  have hal : a.length = n := hA.1
  have t0 : ((m : Int) == 1) = false := by simp; omega
  have hcv : decide (cmpS a b < 0) = false := decide_eq_false (fun h => by have := (cmpS_lt la ta lb tb).1 h; omega)
  have HC := Lib.hid (cmp_any A B n m c d a b w hA hB (by omega) la lb)
  generalize cmpS a b = cv at *
  have hnorm := norm_lt (n := m - 1) lb (by omega)
  have hbp : 0 < val b := val_pos lb tb (by intro h; rw [h] at hbl; simp at hbl; omega)
  have hwb : W (m - 1) ≤ val b := by
    have := val_top lb tb (by intro h; rw [h] at hbl; simp at hbl; omega)
    rwa [hbl] at this
  have hwa : val a < W n := by
    have := val_lt la
    rwa [hal] at this
  have hmn : m ≤ n := by
    refine Nat.le_of_not_lt fun h => ?_
    have := W_le (a := n) (b := m - 1) (by omega)
    omega
  obtain ⟨t0', t1'⟩ := lim_getD lb (m - 1)
  obtain ⟨bb, ob, rfl, hbb, hcs⟩ := open_C hB (by omega)
  have htop := hcs (m - 1) (by omega)
  generalize b.getD (m - 1) 0 = t at *
  obtain ⟨s, hs⟩ : ∃ s, 32 - blen t.toNat = s := ⟨_, rfl⟩
  rw [hs] at hnorm
  have hs2 : s ≤ 32 := by omega
  have HLZ := Lib.hid fun w' => lead32 t t0' t1' w'
  rw [hs] at HLZ
  have NA := num_of hA la ta hc
  have NB := num_of hB lb tb hd
  clear hcs hs
  generalize hva : val a = Va at *
  generalize hvb : val b = Vb at *
  have hm1 : m - 1 + 1 = m := by omega
  rw [hm1] at hnorm
  have hD1 : W (p + 1) ≤ Vb * 2 ^ s := by
    have h1 : Vb * 1 ≤ Vb * 2 ^ s := Nat.mul_le_mul_left _ (Nat.two_pow_pos s)
    rw [show p + 1 = m - 1 by omega]; omega
  have hX : Va * 2 ^ s < Vb * 2 ^ s * W (n + 1 - m) := by
    rw [Nat.mul_right_comm]
    refine Nat.mul_lt_mul_of_pos_right ?_ (Nat.two_pow_pos s)
    refine Nat.lt_of_lt_of_le hwa ?_
    have : W (m - 1) * W (n + 1 - m) ≤ Vb * W (n + 1 - m) := Nat.mul_le_mul_right _ hwb
    rw [← W_add, show m - 1 + (n + 1 - m) = n by omega] at this
    exact this
  have hdiv : Va * 2 ^ s / (Vb * 2 ^ s) = Va / Vb := Nat.mul_div_mul_right _ _ (Nat.two_pow_pos s)
  have hmod : Va * 2 ^ s % (Vb * 2 ^ s) / 2 ^ s = Va % Vb := by rw [Nat.mul_mod_mul_right, Nat.mul_div_cancel _ (Nat.two_pow_pos s)]
  have hDl : (ofN (Vb * 2 ^ s)).length = m := by
    have h1 := len_ofN_le (n := Vb * 2 ^ s) (k := m) hnorm
    have h2 : Vb * 2 ^ s < W (ofN (Vb * 2 ^ s)).length := lt_of_len (n := Vb * 2 ^ s) (Nat.le_refl _)
    have h3 : p + 1 < (ofN (Vb * 2 ^ s)).length := by
      refine Nat.lt_of_not_le fun h => ?_
      have := W_le h
      omega
    omega
  have hXl : (ofN (Va * 2 ^ s)).length ≤ n + 1 := by
    refine len_ofN_le ?_
    refine Nat.lt_of_lt_of_le hX ?_
    have : Vb * 2 ^ s * W (n + 1 - m) ≤ W m * W (n + 1 - m) := Nat.mul_le_mul_right _ (Nat.le_of_lt hnorm)
    rw [← W_add, show m + (n + 1 - m) = n + 1 by omega] at this
    exact this
  have HF := Lib.hid (And.intro hdiv hmod)
  have HDl := Lib.hid hDl
  have HXl := Lib.hid hXl
  have HX := Lib.hid hX
  have HD1 := Lib.hid hD1
  have HP := Lib.hid hp
  have HSB := Lib.hid fun w' (h : Below w.heap.size w w') => shl_N s (NB.below h) (by omega) (by omega)
  have HSA := Lib.hid fun w' (h : Below w.heap.size w w') => shl_N s (NA.below h) (by omega) (by omega)
  have hDpos : 0 < Vb * 2 ^ s := Nat.mul_pos hbp (Nat.two_pow_pos s)
  clear hdiv hmod hDl hXl hX hD1 hnorm hwb hwa hle hbp hA hB hal hbl hva hvb NA NB lb la ta tb hp hm1
  generalize hXX : Va * 2 ^ s = X at *
  generalize hDD : Vb * 2 ^ s = D at *
  have hm2 : 2 ≤ m := by have := HP.out; omega
  have hq9 : ((n : Int) + 1 - (m : Int)) = ((n + 1 - m : Nat) : Int) := by omega
  go_enter Tryz.func118, Tryz.ntmps118
  go_wp2_with (first | fail | (go_at_call 80; (with_reducible refine (HC.out).mono ?_); rintro e w0 ⟨rfl, b0⟩; obtain ⟨hc0, hf0⟩ := bcell b0) | (go_at_call 129; (with_reducible refine (HLZ.out _).mono ?_); rintro e w9 ⟨rfl, rfl⟩) | (go_at_call 110; (with_reducible refine (HSB.out _ bel).mono ?_); rintro e w1 ⟨A1, n1, c1, rfl, HV1, b1⟩; obtain rfl : m = n1 := HDl.out.symm.trans HV1.out.2.1) | (go_at_call 110; (with_reducible refine (HSA.out _ bel).mono ?_); rintro e w3 ⟨A3, n3, c3, rfl, HV3, b3⟩) | ((with_reducible refine gate_dst (N := 44) rfl ?_); refine make_row (w0 := w1) rfl rfl 44 rfl _ _ rfl (n + 1) rfl rfl (by omega) bel ?_; intro A2 c2 w2 hr2 hb2 hb2x; have HR2 := Lib.hid hr2; clear hr2) | ((with_reducible refine gate_dst (N := 49) rfl ?_); refine copy_row (w0 := w1) rfl rfl _ _ rfl rfl rfl (Kd.R_below HR2.out b3) HV3.out.2 bel (by have := HXl.out; have := HV3.out.2.1; omega) (by simp) ?_; intro w4 hr4 hb4; have HR4 := Lib.hid hr4; clear hr4) | ((with_reducible refine gate_dst (N := 54) rfl ?_); refine make_row (w0 := w4) rfl rfl 54 rfl _ _ rfl (n + 1 - m) rfl rfl (by omega) (Below.refl _ _) ?_; intro A5 c5 w5 hr5 hb5 hb5x; have HR5 := Lib.hid hr5; clear hr5))
  obtain ⟨zs, hzs⟩ : ∃ zs, ofN X ++ (List.replicate (n + 1) (0 : Int)).drop n3 = zs := ⟨_, rfl⟩
  have hzl : zs.length = n + 1 := by
    rw [← hzs, List.length_append, List.length_drop, List.length_replicate, HV3.out.2.1]
    have := HXl.out
    have := HV3.out.2.1
    omega
  have hzm : Lim zs := by
    rw [← hzs, List.drop_replicate]
    exact (lim_ofN X).append (lim_zeros _)
  have hzv : val zs = X := by
    rw [← hzs, List.drop_replicate, val_append, val_ofN, val_zeros, Nat.mul_zero, Nat.add_zero]
  rw [hzs] at HR4
  have HZ := Lib.hid (And.intro hzl (And.intro hzm hzv))
  obtain ⟨g, rfl, hg0, hg1, -, -⟩ := own_open HR4.out (by omega)
  have hD0 : 0 < D := hDpos
  clear hzs hzl hzm hzv HR2 HV3 hDpos
  have b5w : Below w1.heap.size w1 w5 := below_step hb4 hb5
  have s14 : w1.heap.size ≤ w4.heap.size := hb4.size
  go_loopw [11] (fun vi wr => LongRel X D n m w1 w4 g c2 A5 c5 vi wr) (fun vi _ => (intOf vi + 1).toNat)
  case atStart => exact ⟨n + 1 - m, zs, _, Nat.le_refl _, rfl, HZ.out.1, HZ.out.2.1, Kd.R_below HR4.out hb5, by simp, HR5.out, b5w, lim_zeros _, by rw [HZ.out.2.2]; exact HX.out, by rw [drop_all (a := List.replicate (n + 1 - m) 0) (by rw [List.length_replicate]; exact Nat.le_refl _), Nat.zero_mul, Nat.zero_add]; exact HZ.out.2.2⟩
  case round =>
    obtain ⟨k, ys, qs, hk, rfl, hy, ly, hown, hq, hqown, hbw, hl⟩ := hrel
    have HY := Lib.hid hy
    have HO := Lib.hid hown
    have HQL := Lib.hid hq
    have HQ := Lib.hid hqown
    have HL := Lib.hid hl
    clear hy hown hq hqown
    have hww : Below w.heap.size w wr := below_step (below_step b0 b1) hbw
    cases k with
    | zero =>
      obtain ⟨p1, p2⟩ := LongAt.done HL.out
      have lq := HL.out.1
      obtain ⟨hC, hcc⟩ := R_C HO.out
      obtain ⟨hCq, hccq⟩ := R_C HQ.out
      have H1 := Lib.hid p1
      have H2 := Lib.hid p2
      have HC1 := Lib.hid hC
      have HC2 := Lib.hid hCq
      clear p1 p2 hC hCq
      go_wp2_with (first | fail | (go_at_call 112; (with_reducible refine (trim_any _ _ _ qs _ HC2.out lq (by omega) hccq).mono ?_); rintro e w6 ⟨k6, rfl, hk6, rfl⟩) | (go_at_call 112; (with_reducible refine (trim_any _ _ _ ys _ HC1.out ly (by omega) hcc).mono ?_); rintro e w7 ⟨k7, rfl, hk7, rfl⟩) | (go_at_call 89; (with_reducible refine (shr_N (x := val ys) s (Lib.hid ⟨by have := hk7.out.1; omega, by have := C_head HC1.out hk7.out.1; rw [hk7.out.2] at this; exact this⟩) (by have := hk7.out.1; omega) (by omega)).mono ?_); rintro e w8 ⟨A8, n8, c8, rfl, HV8, b8⟩))
      refine bodyPost_ret (v := .tuple #[.slice A5 k6 c5, .slice A8 n8 c8]) (by simp [results, Tryz.results118, go_sem, *]) rfl ⟨_, _, _, _, _, _, rfl, ?_, ?_, bel⟩
      · have := C_head HC2.out hk6.out.1
        rw [hk6.out.2, H1.out, HF.out.1] at this
        exact Lib.hid ⟨by have := hk6.out.1; omega, Kd.C_below this b8⟩
      · rw [H2.out, HF.out.2] at HV8
        exact HV8
    | succ j =>
      have e1 : (((j + 1 : Nat) : Int) - 1) = (j : Int) := by omega
      rw [e1]
      obtain ⟨gq, rfl, hgq0, hgq1, -, -⟩ := own_open HQ.out (by omega)
      have hne : g ≠ gq := by omega
      obtain ⟨hcr, hcc⟩ := R_C HO.out
      have hqv : val ys / (W j * D) < 4294967296 := by
        refine Nat.div_lt_of_lt_mul ?_
        have := HL.out.2.1
        rw [W_succ, Nat.mul_left_comm, Nat.mul_comm D (W j), Nat.mul_comm] at this
        exact this
      have hst := LongAt.step HL.out hD0 (by rw [HQL.out]; omega) hqv
      have HST := Lib.hid hst
      have HU := Lib.hid HL.out.2.1
      have hEs : Hid (∀ w', w' = wr → Calls Tryz.prog 130 #[.slice (some ⟨g, j, none⟩) (j + m + 1 - j) (c2 - j), .slice A1 m c1] w' (EstP (val ys / (W j * D)) ys (ofN D) j (n + 1) c2 g w1 wr)) := Lib.hid fun w' hw => by
        subst hw
        have h := estimate_any (w0 := w1) g j p m (c2 - j) (n + 1) c2 ys A1 c1 (ofN D) w' HP.out HO.out HY.out ly (by omega) (by omega) HV1.out.2 (lim_ofN D) hbw (by rw [val_ofN]; exact HD1.out) (by rw [val_ofN]; exact HU.out)
        rw [val_ofN] at h
        rwa [show j + m + 1 - j = m + 1 by omega]
      clear hst hl
      generalize hQQ : val ys / (W j * D) = Qv at *
      go_wp2_with (first | fail | (go_at_call 130; (with_reducible refine (hEs.out _ rfl).mono ?_); rintro e w6 ⟨zs2, rfl, hO2, hl2, lz2, hv2, hb2w, hch⟩; have HO2 := Lib.hid hO2; have HV2 := Lib.hid hv2; clear hO2 hv2; have HQ6 := Lib.hid (own_chg HQ.out hch (by intro k hk hk2; have hk3 : k = g := hk2; omega)); obtain ⟨gq', hgq', hq60, hq61, hqc, hqf⟩ := own_open HQ6.out (by omega); obtain rfl : gq = gq' := (by injection hgq' with h1; injection h1); have hcell := hqc j (by omega); have hfr := hqf j; clear hqc hqf hgq'))
      go_roundw
      case rel => exact ⟨j, zs2, _, by omega, rfl, hl2, lz2, own_far HO2.out hne _, by simp [HQL.out], Kd.R_putn HQ6.out (j : Int) _, bel, by rw [HV2.out, val_ofN]; exact HST.out⟩
      case measure => first | (simp [intOf]; done) | (simp [intOf]; omega)
end Go.Proofs.YtacnkcojhlbkoaaGreatDoor

set_option linter.unusedSimpArgs false
set_option linter.unusedVariables false
set_option linter.unnecessarySimpa false
namespace Go.Proofs.YtacnkcojhlbkoaaGreatDoor
open Go.RowKit Go.Proofs.YtacnkcojhlbkoaaGreatDoorW.PrintWords Go.Proofs.YtacnkcojhlbkoaaGreatDoorW.PrintLast Go.Proofs.YtacnkcojhlbkoaaGreatDoorW.PrintMore Go.Proofs.YtacnkcojhlbkoaaGreatDoor.NL
set_option maxRecDepth 100000

theorem long_any {A B : Option Addr} {n m c d : Nat} {a b : List Int} (w : World) (hA : Kd.C (Kd.int .u32) w A n a) (hB : Kd.C (Kd.int .u32) w B m b) (la : Lim a) (ta : Top a) (lb : Lim b) (tb : Top b) (hc : n ≤ c) (hd : m ≤ d) (hn : n ≤ 1000000) (hm : 0 < m) :
    Calls Tryz.prog 118 #[.slice A n c, .slice B m d] w (Gives2 (val a / val b) (val a % val b) w) := by
  have hbl : b.length = m := hB.1
  by_cases h1 : m = 1
  · subst h1
    obtain ⟨x, rfl⟩ : ∃ x, b = [x] := by
      match b, hbl with
      | [x], _ => exact ⟨x, rfl⟩
    obtain ⟨x0, x1⟩ := lb x (by simp)
    have hx : x ≠ 0 := by intro h; subst h; exact tb rfl
    have hv : val [x] = x.toNat := by simp [val]
    rw [hv]
    exact long_one w hA hB la (by omega) (by omega) x1
  · by_cases hlt : val a < val b
    · exact long_less w hA hB la ta lb tb hc (by omega) (by omega) hlt
    · exact long_main (p := m - 2) w (by omega) hA hB la ta lb tb hc hd hn (by omega)
set_option maxHeartbeats 1000000 in
theorem blocks_small {A B : Option Addr} {n m c d : Nat} {a b : List Int} (w : World) (hA : Kd.C (Kd.int .u32) w A n a) (hB : Kd.C (Kd.int .u32) w B m b) (la : Lim a) (ta : Top a) (lb : Lim b) (tb : Top b) (hc : n ≤ c) (hd : m ≤ d) (hn : n ≤ 1000000) (hm : 0 < m) (hm2 : m < 32) :
    Calls Tryz.prog 95 #[.slice A n c, .slice B m d, .int .i64 32] w (Gives2 (val a / val b) (val a % val b) w) := by
  have HL := Lib.hid (long_any w hA hB la ta lb tb hc hd hn hm)
  have d0 : decide ((m : Int) < 32) = true := decide_eq_true (by omega)
  clear hA hB ta tb
  generalize val a / val b = Q at *
  generalize val a % val b = R at *
  go_enter Tryz.func95, Tryz.ntmps95
  go_wp2_with (first | fail | (go_at_call 118; (with_reducible refine (HL.out).mono ?_); rintro e w1 ⟨A1, n1, c1, A2, n2, c2, rfl, HQ, HR, b1⟩))
  exact bodyPost_ret (v := .tuple #[.slice A1 n1 c1, .slice A2 n2 c2]) (by simp [results, Tryz.results95, go_sem, *]) rfl ⟨_, _, _, _, _, _, rfl, HQ, HR, b1⟩
set_option maxHeartbeats 1000000 in
theorem div1_small {A B : Option Addr} {n m c d : Nat} {a b : List Int} (w : World) (hA : Kd.C (Kd.int .u32) w A n a) (hB : Kd.C (Kd.int .u32) w B m b) (la : Lim a) (ta : Top a) (lb : Lim b) (tb : Top b) (hc : n ≤ c) (hd : m ≤ d) (hn : n ≤ 1000000) (hm : 0 < m) (hm2 : m < 32) :
    Calls Tryz.prog 94 #[.slice A n c, .slice B m d] w (Gives2 (val a / val b) (val a % val b) w) := by
  have HL := Lib.hid (blocks_small w hA hB la ta lb tb hc hd hn hm hm2)
  clear hA hB ta tb
  generalize val a / val b = Q at *
  generalize val a % val b = R at *
  go_enter Tryz.func94, Tryz.ntmps94
  go_wp2_with (first | fail | (go_at_call 95; (with_reducible refine (HL.out).mono ?_); rintro e w1 ⟨A1, n1, c1, A2, n2, c2, rfl, HQ, HR, b1⟩))
  exact bodyPost_ret (v := .tuple #[.slice A1 n1 c1, .slice A2 n2 c2]) (by simp [results, Tryz.results94, go_sem, *]) rfl ⟨_, _, _, _, _, _, rfl, HQ, HR, b1⟩

/-- Two numbers and an error come back. -/
def NumErr2 (xs ys : List Int) (er : Int) (w : World) (e : Ending) (w' : World) : Prop := ∃ v u, e = .returned (.tuple #[v, u, .int .i64 er]) ∧ Kd.R (Kd.int .u32) 40 w' w.heap.size (fun _ => True) v xs ∧ Kd.R (Kd.int .u32) 40 w' w.heap.size (fun _ => True) u ys ∧ Below w.heap.size w w'
theorem NumErr2.of_nil {w w' : World} {er : Int} (h : Below w.heap.size w w') : NumErr2 [] [] er w (.returned (.tuple #[.slice none 0 0, .slice none 0 0, .int .i64 er])) w' := ⟨_, _, rfl, Kd.R_nil _ _ _ _ _, Kd.R_nil _ _ _ _ _, h⟩
set_option maxHeartbeats 2000000 in
theorem divided_ok (f : Nat) {A B : Option Addr} {n m c d : Nat} {a b : List Int} (w : World) (hA : Kd.C (Kd.int .u32) w A n a) (hB : Kd.C (Kd.int .u32) w B m b) (la : Lim a) (lb : Lim b) {Q R : Nat} (hok : (okN a && okN b) = true) (hm : 0 < m) (hf : ∀ w', Below w.heap.size w w' → Calls Tryz.prog f #[.slice A n c, .slice B m d] w' (Gives2 Q R w')) (hQ : (ofN Q).length ≤ 1024) (hR : (ofN R).length ≤ 1024) (ef : ∀ args w, (callFunc f args).run Tryz.prog w = .ok (.enter f args) w) :
    Calls Tryz.prog 93 #[.slice A n c, .slice B m d, .agg #[.nilFunc, .func (.func f) #[] #[]]] w (NumErr2 (ofN Q) (ofN R) 0 w) := by
  have HT : Hid (∀ (g : Nat) w', Below w.heap.size w w' → BlkIs w' g 23 (· = #[.slice A n c, .slice B m d]) → Calls Tryz.prog 87 #[.slice (some ⟨g, 0, none⟩) 2 2] w' (TakenP true w')) := Lib.hid fun g w' h h0 => by
    have := two_ok g hA hB la lb h h0
    rw [hok] at this
    exact this
  have HEF := Lib.hid ef
  have d0 : decide ((m : Int) > 0) = true := decide_eq_true (by omega)
  clear hA hB hok ef
  have HF := Lib.hid hf
  clear hf
  go_enter_defers Tryz.func93, Tryz.ntmps93
  go_wp2_with fail
  refine (HT.out _ _ bel blk0).mono ?_
  rintro e w1 ⟨rfl, rfl⟩
  have ef := HEF.out
  go_wp2_with (first | fail | (go_at_call 79; (with_reducible refine (nneed_true _ _).mono ?_); rintro e w1 ⟨rfl, rfl⟩))
  refine (HF.out _ bel).mono ?_
  rintro e w1 ⟨A1, n1, c1, A2, n2, c2, rfl, h1, h2, b1⟩
  clear ef
  have l1 := Num.len h1
  have l2 := Num.len h2
  rw [l1] at hQ
  rw [l2] at hR
  clear l1 l2
  obtain ⟨hc1, hf1⟩ := bcell b1
  have hz1 := below_size b1
  simp at hz1
  have z0 : w.heap.size < w1.heap.size := by omega
  have z1 : w.heap.size + 1 < w1.heap.size := by omega
  go_wp2_with fail
  refine (given_ok h1 hQ).mono ?_
  rintro e w2 ⟨v2, rfl, hv2, b2⟩
  obtain ⟨A3, c3, rfl⟩ := Kd.R_slice hv2
  have HV := Lib.hid hv2
  clear hv2
  obtain ⟨hc2, hf2⟩ := bcell b2
  have hz2 := below_size b2
  have y0 : w.heap.size < w2.heap.size := by omega
  have y1 : w.heap.size + 1 < w2.heap.size := by omega
  go_wp2_with fail
  refine (given_ok (Num.below h2 b2) hR).mono ?_
  rintro e w3 ⟨v3, rfl, hv3, b3⟩
  obtain ⟨A4, c4, rfl⟩ := Kd.R_slice hv3
  have HU := Lib.hid hv3
  clear hv3
  obtain ⟨hc3, hf3⟩ := bcell b3
  have hz3 := below_size b3
  have x0 : w.heap.size < w3.heap.size := by omega
  have x1 : w.heap.size + 1 < w3.heap.size := by omega
  go_wp2
  (refine leaves_cons (f := 86) (args := #[.pointer (some ⟨w.heap.size + 1, 0, none⟩)]) (by simp) (by simp [go_sem]) ?_; refine (ncaught_idle _ _).mono ?_; rintro e u' w'' ⟨rfl, rfl, rfl⟩)
  exact ⟨.tuple #[.slice A3 (ofN Q).length c3, .slice A4 (ofN R).length c4, .int .i64 0], rresults (rs := [.tmp 6, .tmp 7, .cell 8 28]) rfl (by simp) (.tmp rfl (.tmp rfl (.cell (w.heap.size + 1) rfl (load_one (t := 28) blk0 (by kernel_rfl)) .nil))), ⟨_, _, rfl, Kd.R_set (Kd.R_lower (Kd.R_below HV.out b3) (by omega)) (cells := #[.int .i64 0]) (t := 28) (BlkIs.one blk0) (by decide) 0 _, Kd.R_set (Kd.R_lower HU.out (by omega)) (cells := #[.int .i64 0]) (t := 28) (BlkIs.one blk0) (by decide) 0 _, bel⟩⟩
set_option maxHeartbeats 2000000 in
theorem divided_bad (f : Nat) {A B : Option Addr} {n m c d : Nat} {a b : List Int} (w : World) (hA : Kd.C (Kd.int .u32) w A n a) (hB : Kd.C (Kd.int .u32) w B m b) (la : Lim a) (lb : Lim b) (hok : (okN a && okN b) = false) :
    Calls Tryz.prog 93 #[.slice A n c, .slice B m d, .agg #[.nilFunc, .func (.func f) #[] #[]]] w (NumErr2 [] [] 1 w) := by
  have HT : Hid (∀ (g : Nat) w', Below w.heap.size w w' → BlkIs w' g 23 (· = #[.slice A n c, .slice B m d]) → Calls Tryz.prog 87 #[.slice (some ⟨g, 0, none⟩) 2 2] w' (TakenP false w')) := Lib.hid fun g w' h h0 => by
    have := two_ok g hA hB la lb h h0
    rw [hok] at this
    exact this
  clear hA hB hok
  go_enter_defers Tryz.func93, Tryz.ntmps93
  go_wp2_with fail
  refine (HT.out _ _ bel blk0).mono ?_
  rintro e w1 ⟨rfl, rfl⟩
  go_wp2
  (refine leaves_cons (f := 86) (args := #[.pointer (some ⟨w.heap.size + 1, 0, none⟩)]) (by simp) (by simp [go_sem]) ?_; refine (ncaught_panic (w.heap.size + 1) (1) 0 [] _ (BlkIs.one blk0)).mono ?_; rintro e u' w'' ⟨rfl, rfl, hch, hp⟩; have hp' : BlkIs w'' (w.heap.size + 1) 28 (· = #[.int .i64 (1)]) := ⟨_, hp, rfl⟩)
  exact ⟨.tuple #[.slice none 0 0, .slice none 0 0, .int .i64 1], rresults (rs := [.tmp 6, .tmp 7, .cell 8 28]) rfl (by simp) (.tmp rfl (.tmp rfl (.cell (w.heap.size + 1) rfl (load_one (t := 28) hp' (by kernel_rfl)) .nil))), NumErr2.of_nil (below_chg bel hch (by omega))⟩
set_option maxHeartbeats 2000000 in
theorem divided_zero (f : Nat) {A B : Option Addr} {n m c d : Nat} {a b : List Int} (w : World) (hA : Kd.C (Kd.int .u32) w A n a) (hB : Kd.C (Kd.int .u32) w B m b) (la : Lim a) (lb : Lim b) (hok : (okN a && okN b) = true) (hm : m = 0) :
    Calls Tryz.prog 93 #[.slice A n c, .slice B m d, .agg #[.nilFunc, .func (.func f) #[] #[]]] w (NumErr2 [] [] 8 w) := by
  have HT : Hid (∀ (g : Nat) w', Below w.heap.size w w' → BlkIs w' g 23 (· = #[.slice A n c, .slice B m d]) → Calls Tryz.prog 87 #[.slice (some ⟨g, 0, none⟩) 2 2] w' (TakenP true w')) := Lib.hid fun g w' h h0 => by
    have := two_ok g hA hB la lb h h0
    rw [hok] at this
    exact this
  subst hm
  clear hA hB hok
  go_enter_defers Tryz.func93, Tryz.ntmps93
  go_wp2_with fail
  refine (HT.out _ _ bel blk0).mono ?_
  rintro e w1 ⟨rfl, rfl⟩
  go_wp2_with (first | fail | (go_at_call 79; (with_reducible refine (nneed_false _ _).mono ?_); rintro e w1 ⟨rfl, rfl⟩))
  (refine leaves_cons (f := 86) (args := #[.pointer (some ⟨w.heap.size + 1, 0, none⟩)]) (by simp) (by simp [go_sem]) ?_; refine (ncaught_panic (w.heap.size + 1) (8) 0 [] _ (BlkIs.one blk0)).mono ?_; rintro e u' w'' ⟨rfl, rfl, hch, hp⟩; have hp' : BlkIs w'' (w.heap.size + 1) 28 (· = #[.int .i64 (8)]) := ⟨_, hp, rfl⟩)
  exact ⟨.tuple #[.slice none 0 0, .slice none 0 0, .int .i64 8], rresults (rs := [.tmp 6, .tmp 7, .cell 8 28]) rfl (by simp) (.tmp rfl (.tmp rfl (.cell (w.heap.size + 1) rfl (load_one (t := 28) hp' (by kernel_rfl)) .nil))), NumErr2.of_nil (below_chg bel hch (by omega))⟩
/-- What Div returns. -/
def natDiv (a b : List Int) : List Int × List Int × Int := if okN a && okN b then (if val b = 0 then ([], [], 8) else (ofN (val a / val b), ofN (val a % val b), 0)) else ([], [], 1)
set_option maxHeartbeats 1000000 in
theorem nDiv_any {A B : Option Addr} {n m c d : Nat} {a b : List Int} (w : World) (hA : Kd.C (Kd.int .u32) w A n a) (hB : Kd.C (Kd.int .u32) w B m b) (la : Lim a) (lb : Lim b) (hc : n ≤ c) (hd : m ≤ d) (hm2 : m < 32) :
    Calls Tryz.prog 64 #[.slice A n c, .slice B m d] w (NumErr2 (natDiv a b).1 (natDiv a b).2.1 (natDiv a b).2.2 w) := by
  have hal : a.length = n := hA.1
  have hbl : b.length = m := hB.1
  have H : Hid (∀ w', Below w.heap.size w w' → Calls Tryz.prog 93 #[.slice A n c, .slice B m d, .agg #[.nilFunc, .func (.func 94) #[] #[]]] w' (NumErr2 (natDiv a b).1 (natDiv a b).2.1 (natDiv a b).2.2 w')) := Lib.hid fun w' hb => by
    have ef := enters_of Tryz.func94 (by kernel_rfl) rfl
    unfold natDiv
    cases hok : okN a && okN b with
    | false => exact divided_bad _ w' (Kd.C_below hA hb) (Kd.C_below hB hb) la lb hok
    | true =>
      have hok2 := hok
      simp only [Bool.and_eq_true] at hok2
      obtain ⟨h1, ta⟩ := okN_iff.1 hok2.1
      obtain ⟨h2, tb⟩ := okN_iff.1 hok2.2
      by_cases h0 : val b = 0
      · have hm : m = 0 := by
          rw [← hbl, ← ofN_val lb tb, h0, ofN_zero]; rfl
        simp only [h0, if_true]
        exact divided_zero _ w' (Kd.C_below hA hb) (Kd.C_below hB hb) la lb hok hm
      · have hm : 0 < m := by
          rcases Nat.eq_zero_or_pos m with h | h
          · exact absurd (by rw [List.eq_nil_of_length_eq_zero (hbl.trans h)]; rfl) h0
          · exact h
        simp only [h0, if_true, if_false]
        have hva : (ofN (val a)).length ≤ 1024 := by rw [ofN_val la ta]; omega
        exact divided_ok _ w' (Kd.C_below hA hb) (Kd.C_below hB hb) la lb hok hm (fun w2 h3 => div1_small w2 (Kd.C_below hA (below_step hb h3)) (Kd.C_below hB (below_step hb h3)) la ta lb tb hc hd (by omega) hm hm2) (Nat.le_trans (len_mono (Nat.div_le_self _ _)) hva) (Nat.le_trans (len_mono (Nat.mod_le _ _)) hva) ef
  generalize natDiv a b = r at *
  clear hA hB
  go_enter Tryz.func64, Tryz.ntmps64
  go_wp2_with (first | fail | (go_at_call 93; (with_reducible refine (H.out _ bel).mono ?_); rintro e w1 ⟨v1, u1, rfl, hv1, hu1, hb1⟩; obtain ⟨A1, c1, rfl⟩ := Kd.R_slice hv1; obtain ⟨A2, c2, rfl⟩ := Kd.R_slice hu1; have HV := Lib.hid hv1; have HU := Lib.hid hu1; clear hv1 hu1))
  exact bodyPost_ret (v := .tuple #[.slice A1 r.1.length c1, .slice A2 r.2.1.length c2, .int .i64 r.2.2]) (by simp [results, Tryz.results64, go_sem, *]) rfl ⟨_, _, rfl, HV.out, HU.out, hb1⟩
end Go.Proofs.YtacnkcojhlbkoaaGreatDoor
