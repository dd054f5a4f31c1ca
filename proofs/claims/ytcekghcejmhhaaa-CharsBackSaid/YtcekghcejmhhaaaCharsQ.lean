import Derived.Test.YtcekghcejmhhaaaCharsP
set_option linter.unusedSimpArgs false
set_option linter.unusedVariables false
set_option linter.unnecessarySimpa false
namespace Go.Proofs.Ytcekghcejmhhaaa
open Go.RowKit Go.Proofs.YtcekghcejmhhaaaW.PrintWords Go.Proofs.YtcekghcejmhhaaaW.PrintLast Go.Proofs.YtcekghcejmhhaaaW.PrintMore
set_option maxRecDepth 100000

set_option maxHeartbeats 4000000 in
theorem iter_2 (A : Option Addr) (c : Nat) (xs : List Int) (hm : xs.length ≤ 1000000000) (hc : xs.length ≤ c) (hx : Byt xs) (L gx gb : Nat) (J : List (Int × Int) → World → Prop)
    (hJ : ∀ pre W, J pre W → One W gx 79 (.iface 101 (.agg #[])) ∧ One W gb 24 (.slice A xs.length c) ∧ Kd.C (Kd.int .u8) W A xs.length xs)
    (hJb : ∀ pre W W', J pre W → Below W.heap.size W W' → J pre W')
    (hY : ∀ pre (x : Int × Int) W, J pre W → pre.length < xs.length → YieldAt Fence.wide 0 Try.prog L #[.int .i64 x.1, .int .u32 x.2] W fun e W' => e = .returned (.bool true) ∧ J (pre ++ [x]) W' ∧ KeepsT 45 W W')
    (W : World) (h0 : J [] W) :
    Calls Try.prog 50 #[.func (.yield L) #[] #[], .pointer (some ⟨gx, 0, none⟩), .pointer (some ⟨gb, 0, none⟩)] W (IterPost 2 xs J) := by
  have HST : Hid (IterRel 2 xs J W (.int .i64 0) (.int .i64 0)) := Lib.hid ⟨0, xs.length, 0, [], Nat.zero_le _, by omega, Nat.le_refl _, rfl, rfl, fun _ => .inl rfl, h0, by simp⟩
  have m1 := meth_next_2
  have m2 := nil_next_2
  have HJ := Lib.hid hJ
  have HJB := Lib.hid hJb
  have HY := Lib.hid hY
  clear hJ hJb hY h0
  go_enter Try.func50, Try.ntmps50
  go_wp2
  go_loopw [4, 5] (fun vs va wr => IterRel 2 xs J wr vs va) (fun _ va _ => xs.length - (intOf va).toNat)
  case atStart => exact HST.out
  case round =>
    obtain ⟨k, f, st, pre, hk, hf, hpk, rfl, rfl, hst, hj, hr⟩ := hrel
    have HK := Lib.hid hk
    have HF := Lib.hid hf
    have HPK := Lib.hid hpk
    have HS := Lib.hid hst
    have HJ0 := Lib.hid hj
    have HR := Lib.hid hr
    obtain ⟨hgx, hgb, hC⟩ := HJ.out _ _ hj
    have HGX := Lib.hid hgx
    have HGB := Lib.hid hgb
    have HC := Lib.hid hC
    have cx : wr.cell? ⟨gx, 0, none⟩ = some (.iface 101 (.agg #[])) := by simpa using blk_cell hgx 0
    have cb : wr.cell? ⟨gb, 0, none⟩ = some (.slice A xs.length c) := by simpa using blk_cell hgb 0
    have lx := blk_lt hgx
    have lb := blk_lt hgb
    obtain ⟨A', hsl, hC', hcc⟩ := drop_int (P := Try.prog) 24 5 Try.underlying24 (by kernel_rfl) A c xs k hk hc
    have HC' : Hid (∀ w, Below wr.heap.size wr w → Kd.C (Kd.int .u8) w A' (xs.length - k) (xs.drop k)) := Lib.hid (fun w hb => hC' _ _ (C_of_below hC hb))
    clear hk hf hpk hst hj hr hgx hgb hC hC'
    by_cases hp : passedC 2 (xs.drop k) = true
    · have HP := Lib.hid hp
      clear hp
      go_wp2
      go_region_held3 (fun w' => w'.cell? ⟨gx, 0, none⟩ = some (.iface 101 (.agg #[])) ∧ w'.cell? ⟨gb, 0, none⟩ = some (.slice A xs.length c)) (first | (go_keep; done) | (go_split_ands; refine ⟨?_, ?_⟩ <;> (rw [hc1 _ _ (by simp; omega)]; assumption))) ((go_at_call 51; refine (passed_2 A' (xs.length - k) _ (xs.drop k) _ (HC'.out _ (by repeat (first | with_reducible assumption | with_reducible exact Below.refl _ _ | with_reducible refine below_alloc ?_ _ | with_reducible refine pw_below_drewN ?_ _ | with_reducible refine below_drew1 ?_ | ((with_reducible refine below_set ?_ ?hle); (case hle => first | (simp; done) | omega | (simp; omega))) | with_reducible refine below_step ?_ (by assumption))))).mono ?_; rintro e w1 ⟨rfl, hb1⟩; obtain ⟨hc1, hf1⟩ := bcell hb1))
      rename_i hHeld
      clear hHeld
      have hpt : (Value.bool !passedC 2 (xs.drop k)) = .bool false := by rw [HP.out]; rfl
      rw [hpt, HP.out]
      go_wp2
      have he : decodeLoop 2 xs.length 0 0 xs = (pre, none) := by rw [HR.out, decodeLoop_stop HP.out]; simp
      go_end0
      exact ⟨by rw [he]; exact HJB.out _ _ _ HJ0.out (by repeat (first | with_reducible assumption | with_reducible exact Below.refl _ _ | with_reducible refine below_alloc ?_ _ | with_reducible refine pw_below_drewN ?_ _ | with_reducible refine below_drew1 ?_ | ((with_reducible refine below_set ?_ ?hle); (case hle => first | (simp; done) | omega | (simp; omega))) | with_reducible refine below_step ?_ (by assumption))), .inl ⟨by rw [he], rfl⟩⟩
    · have hp2 : passedC 2 (xs.drop k) = false := by simpa using hp
      have HP := Lib.hid hp2
      clear hp hp2
      have hkn : k < xs.length := by
        rcases Nat.lt_or_ge k xs.length with h | h
        · exact h
        · have := HP.out
          rw [List.drop_eq_nil_of_le h, passedC_nil] at this
          simp at this
      go_wp2
      go_region_held3 (fun w' => w'.cell? ⟨gx, 0, none⟩ = some (.iface 101 (.agg #[])) ∧ w'.cell? ⟨gb, 0, none⟩ = some (.slice A xs.length c)) (first | (go_keep; done) | (go_split_ands; refine ⟨?_, ?_⟩ <;> (rw [hc1 _ _ (by simp; omega)]; assumption))) ((go_at_call 51; refine (passed_2 A' (xs.length - k) _ (xs.drop k) _ (HC'.out _ (by repeat (first | with_reducible assumption | with_reducible exact Below.refl _ _ | with_reducible refine below_alloc ?_ _ | with_reducible refine pw_below_drewN ?_ _ | with_reducible refine below_drew1 ?_ | ((with_reducible refine below_set ?_ ?hle); (case hle => first | (simp; done) | omega | (simp; omega))) | with_reducible refine below_step ?_ (by assumption))))).mono ?_; rintro e w1 ⟨rfl, hb1⟩; obtain ⟨hc1, hf1⟩ := bcell hb1))
      rename_i hHeld
      have hpt : (Value.bool !passedC 2 (xs.drop k)) = .bool true := by rw [HP.out]; rfl
      rw [hpt, HP.out]
      obtain ⟨cx1, cb1⟩ := hHeld
      have hz1 := below_size hb1
      simp at hz1
      have lx1 : gx < w1.heap.size := by omega
      have lb1 : gb < w1.heap.size := by omega
      clear cx cb
      go_wp2
      go_cut [6] (fun s6 wx => StepAt (nextC 2 st (xs.drop k)) wr s6 wx)
      case first =>
        go_region_held3 (fun w' => w'.cell? ⟨gx, 0, none⟩ = some (.iface 101 (.agg #[])) ∧ w'.cell? ⟨gb, 0, none⟩ = some (.slice A xs.length c)) (first | (go_keep; done) | (go_split_ands; refine ⟨?_, ?_⟩ <;> (rw [hc2 _ _ (by simp; omega)]; first | assumption | (simp; done))) | (go_split_ands; refine ⟨?_, ?_⟩ <;> ((repeat rw [World.cell?_setCell_far _ _ _ _ (by simp; omega)]); assumption)) | (go_split_ands; refine ⟨?_, ?_⟩ <;> (rw [World.cell?_alloc_past _ _ _ (by first | assumption | (simp; omega))]; assumption))) ((with_reducible show Calls Try.prog 75 #[_, _, _] _ _; refine (utf8_next' _ A' (xs.length - k) _ (xs.drop k) _ (HC'.out _ (by repeat (first | with_reducible assumption | with_reducible exact Below.refl _ _ | with_reducible refine below_alloc ?_ _ | with_reducible refine pw_below_drewN ?_ _ | with_reducible refine below_drew1 ?_ | ((with_reducible refine below_set ?_ ?hle); (case hle => first | (simp; done) | omega | (simp; omega))) | with_reducible refine below_step ?_ (by assumption)))) ?hbx).mono ?_; (case hbx => exact hx.drop k); rintro e w2 ⟨rfl, hb2⟩; obtain ⟨hc2, hf2⟩ := bcell hb2; have hz2 := below_size hb2; simp at hz2; have lx2 : gx < w2.heap.size := (by omega); have lb2 : gb < w2.heap.size := (by omega); have cx2 : w2.cell? ⟨gx, 0, none⟩ = some (.iface 101 (.agg #[])) := (by go_split_ands; rw [hc2 _ _ (by simp; omega)]; first | assumption | (simp; assumption)); have cb2 : w2.cell? ⟨gb, 0, none⟩ = some (.slice A xs.length c) := (by go_split_ands; rw [hc2 _ _ (by simp; omega)]; first | assumption | (simp; assumption))))
        all_goals (rename_i hHeld; clear hHeld; go_wp2_with fail; go_meet; exact ⟨_, rfl, (by repeat (first | with_reducible assumption | ((with_reducible refine BlkIs.new ?hg ?hf); (case hg => (simp; done)); (case hf => first | rfl | (simp; done))) | with_reducible refine BlkIs.alloc ?_ | with_reducible refine BlkIs.drewN ?_ | with_reducible refine BlkIs.drew ?_ | with_reducible refine BlkIs.set ?_ | ((with_reducible refine BlkIs.far ?_ ?hne); (case hne => first | (simp; done) | omega | (simp; omega))) | with_reducible refine BlkIs.below ?_ (by assumption) | ((with_reducible refine BlkIs.chg ?_ (by assumption) ?hnn); (case hnn => first | (simp; done) | omega | (simp; omega) | (intro hs; have := hs.1; omega))) | ((with_reducible refine BlkIs.of (by assumption) ?hf); (case hf => first | rfl | (simp; done))))), (by repeat (first | with_reducible assumption | with_reducible exact Below.refl _ _ | with_reducible refine below_alloc ?_ _ | with_reducible refine pw_below_drewN ?_ _ | with_reducible refine below_drew1 ?_ | ((with_reducible refine below_set ?_ ?hle); (case hle => first | (simp; done) | omega | (simp; omega))) | with_reducible refine below_step ?_ (by assumption)))⟩)
      case rest =>
        obtain ⟨g, rfl, ⟨_, hstep, rfl⟩, hb3⟩ := hcut
        have hj3 := HJB.out _ _ _ HJ0.out hb3
        clear cx1 cb1 lx1 lb1 hz1 hb1 hc1 hf1 hpt
        have d0 : wc.cell? ⟨g, 0, none⟩ = some (.int .i64 (nextC 2 st (xs.drop k)).kind) := by simpa using blk_cell hstep 0
        have d1 : wc.cell? ⟨g, 1, none⟩ = some (.int .u32 (nextC 2 st (xs.drop k)).ch) := by simpa using blk_cell hstep 1
        have HJ3 := Lib.hid hj3
        have HSTEP := Lib.hid hstep
        clear hj3 hstep
        obtain ⟨f', hf'⟩ : ∃ f', f = f' + 1 := ⟨f - 1, by have := HF.out; omega⟩
        have HF' := Lib.hid hf'
        clear hf'
        by_cases hkind : (nextC 2 st (xs.drop k)).kind = 1
        · have HKD := Lib.hid hkind
          clear hkind
          have hkb : ((nextC 2 st (xs.drop k)).kind == 1) = true := by have := HKD.out; simp [this]
          obtain ⟨fn, tm, asg, bd, hy, hR⟩ := HY.out pre ((k : Int), (nextC 2 st (xs.drop k)).ch) wc HJ3.out (by have := HPK.out; omega)
          dsimp only at hy
          go_upto_region 4 with (go_at_call 41; (with_reducible refine (need_true _ _ _).mono ?_); rintro e w5 ⟨rfl, rfl⟩)
          refine (wpIn_wide (n := 0)).1 ?_
          gi_wp2
          refine ⟨rfl, hR.mono ?_⟩
          rintro e W5 ⟨rfl, hj5, hkeep⟩
          have hs5 := hkeep _ _ HSTEP.out
          have e2 : W5.cell? ⟨g, 2, none⟩ = some (.int .i64 (nextC 2 st (xs.drop k)).bytes) := by simpa using blk_cell hs5 2
          have e3 : W5.cell? ⟨g, 3, none⟩ = some (.int .i64 (nextC 2 st (xs.drop k)).st) := by simpa using blk_cell hs5 3
          have HJ5 := Lib.hid hj5
          clear hj5 hkeep hs5 hR hy
          have hbb := nextC_bytes HKD.out
          rw [List.length_drop] at hbb
          have HBB := Lib.hid hbb
          clear hbb
          have hadd : IntKind.i64.wrap ((k : Int) + (nextC 2 st (xs.drop k)).bytes) = (k : Int) + (nextC 2 st (xs.drop k)).bytes := by
            have := HBB.out
            have := HK.out
            exact IntWalk.i64_in _ (by omega)
          gi_wp2
          go_wp2
          go_quiet (fail)
          go_wp2
          obtain ⟨hb0, hb1⟩ := HBB.out
          have hk0 := HK.out
          have hf0 := HF.out
          have hf1 := HF'.out
          have hp0 := HPK.out
          have hkt : ((k + (nextC 2 st (xs.drop k)).bytes.toNat : Nat) : Int) = (k : Int) + (nextC 2 st (xs.drop k)).bytes := by omega
          refine ⟨⟨k + (nextC 2 st (xs.drop k)).bytes.toNat, f', (nextC 2 st (xs.drop k)).st, pre ++ [((k : Int), (nextC 2 st (xs.drop k)).ch)], by omega, by omega, by simp; omega, by rw [hkt], rfl, fun h => by first | exact nextC_st3 (HS.out (by first | exact h | trivial)) | (simp at h), ?_, ?_⟩, ?_⟩
          · exact HJB.out _ _ _ HJ5.out (by repeat (first | with_reducible assumption | with_reducible exact Below.refl _ _ | with_reducible refine below_alloc ?_ _ | with_reducible refine pw_below_drewN ?_ _ | with_reducible refine below_drew1 ?_ | ((with_reducible refine below_set ?_ ?hle); (case hle => first | (simp; done) | omega | (simp; omega))) | with_reducible refine below_step ?_ (by assumption)))
          · rw [HR.out, hf1, decodeLoop_step HP.out HKD.out, List.drop_drop, hkt, List.append_assoc]
            rfl
          · show (_ : Nat) < _
            simp only [intOf]
            omega
        · have hkb : ((nextC 2 st (xs.drop k)).kind == 1) = false := by simpa using hkind
          have HKD := Lib.hid hkind
          clear hkind
          go_wp2_with (go_at_call 41; (with_reducible refine (need_false _ _ _).mono ?_); rintro e w1 ⟨rfl, rfl⟩)
          have he : decodeLoop 2 xs.length 0 0 xs = (pre, some (k : Int)) := by
            rw [HR.out, HF'.out, decodeLoop_fail HP.out HKD.out]; simp
          exact ⟨rfl, by rw [he]; exact HJB.out _ _ _ HJ3.out (by repeat (first | with_reducible assumption | with_reducible exact Below.refl _ _ | with_reducible refine below_alloc ?_ _ | with_reducible refine pw_below_drewN ?_ _ | with_reducible refine below_drew1 ?_ | ((with_reducible refine below_set ?_ ?hle); (case hle => first | (simp; done) | omega | (simp; omega))) | with_reducible refine below_step ?_ (by assumption))), .inr ⟨(k : Int), by rw [he], rfl⟩⟩

set_option maxHeartbeats 4000000 in
theorem iter_3 (A : Option Addr) (c : Nat) (xs : List Int) (hm : xs.length ≤ 1000000000) (hc : xs.length ≤ c) (hx : Byt xs) (L gx gb : Nat) (J : List (Int × Int) → World → Prop)
    (hJ : ∀ pre W, J pre W → One W gx 79 (.iface 102 (.agg #[])) ∧ One W gb 24 (.slice A xs.length c) ∧ Kd.C (Kd.int .u8) W A xs.length xs)
    (hJb : ∀ pre W W', J pre W → Below W.heap.size W W' → J pre W')
    (hY : ∀ pre (x : Int × Int) W, J pre W → pre.length < xs.length → YieldAt Fence.wide 0 Try.prog L #[.int .i64 x.1, .int .u32 x.2] W fun e W' => e = .returned (.bool true) ∧ J (pre ++ [x]) W' ∧ KeepsT 45 W W')
    (W : World) (h0 : J [] W) :
    Calls Try.prog 50 #[.func (.yield L) #[] #[], .pointer (some ⟨gx, 0, none⟩), .pointer (some ⟨gb, 0, none⟩)] W (IterPost 3 xs J) := by
  have HST : Hid (IterRel 3 xs J W (.int .i64 0) (.int .i64 0)) := Lib.hid ⟨0, xs.length, 0, [], Nat.zero_le _, by omega, Nat.le_refl _, rfl, rfl, fun _ => .inl rfl, h0, by simp⟩
  have m1 := meth_next_3
  have m2 := nil_next_3
  have HJ := Lib.hid hJ
  have HJB := Lib.hid hJb
  have HY := Lib.hid hY
  clear hJ hJb hY h0
  go_enter Try.func50, Try.ntmps50
  go_wp2
  go_loopw [4, 5] (fun vs va wr => IterRel 3 xs J wr vs va) (fun _ va _ => xs.length - (intOf va).toNat)
  case atStart => exact HST.out
  case round =>
    obtain ⟨k, f, st, pre, hk, hf, hpk, rfl, rfl, hst, hj, hr⟩ := hrel
    have HK := Lib.hid hk
    have HF := Lib.hid hf
    have HPK := Lib.hid hpk
    have HS := Lib.hid hst
    have HJ0 := Lib.hid hj
    have HR := Lib.hid hr
    obtain ⟨hgx, hgb, hC⟩ := HJ.out _ _ hj
    have HGX := Lib.hid hgx
    have HGB := Lib.hid hgb
    have HC := Lib.hid hC
    have cx : wr.cell? ⟨gx, 0, none⟩ = some (.iface 102 (.agg #[])) := by simpa using blk_cell hgx 0
    have cb : wr.cell? ⟨gb, 0, none⟩ = some (.slice A xs.length c) := by simpa using blk_cell hgb 0
    have lx := blk_lt hgx
    have lb := blk_lt hgb
    obtain ⟨A', hsl, hC', hcc⟩ := drop_int (P := Try.prog) 24 5 Try.underlying24 (by kernel_rfl) A c xs k hk hc
    have HC' : Hid (∀ w, Below wr.heap.size wr w → Kd.C (Kd.int .u8) w A' (xs.length - k) (xs.drop k)) := Lib.hid (fun w hb => hC' _ _ (C_of_below hC hb))
    clear hk hf hpk hst hj hr hgx hgb hC hC'
    by_cases hp : passedC 3 (xs.drop k) = true
    · have HP := Lib.hid hp
      clear hp
      go_wp2
      go_region_held3 (fun w' => w'.cell? ⟨gx, 0, none⟩ = some (.iface 102 (.agg #[])) ∧ w'.cell? ⟨gb, 0, none⟩ = some (.slice A xs.length c)) (first | (go_keep; done) | (go_split_ands; refine ⟨?_, ?_⟩ <;> (rw [hc1 _ _ (by simp; omega)]; assumption))) ((go_at_call 51; refine (passed_3 A' (xs.length - k) _ (xs.drop k) _ (HC'.out _ (by repeat (first | with_reducible assumption | with_reducible exact Below.refl _ _ | with_reducible refine below_alloc ?_ _ | with_reducible refine pw_below_drewN ?_ _ | with_reducible refine below_drew1 ?_ | ((with_reducible refine below_set ?_ ?hle); (case hle => first | (simp; done) | omega | (simp; omega))) | with_reducible refine below_step ?_ (by assumption))))).mono ?_; rintro e w1 ⟨rfl, hb1⟩; obtain ⟨hc1, hf1⟩ := bcell hb1))
      rename_i hHeld
      clear hHeld
      have hpt : (Value.bool !passedC 3 (xs.drop k)) = .bool false := by rw [HP.out]; rfl
      rw [hpt, HP.out]
      go_wp2
      have he : decodeLoop 3 xs.length 0 0 xs = (pre, none) := by rw [HR.out, decodeLoop_stop HP.out]; simp
      go_end0
      exact ⟨by rw [he]; exact HJB.out _ _ _ HJ0.out (by repeat (first | with_reducible assumption | with_reducible exact Below.refl _ _ | with_reducible refine below_alloc ?_ _ | with_reducible refine pw_below_drewN ?_ _ | with_reducible refine below_drew1 ?_ | ((with_reducible refine below_set ?_ ?hle); (case hle => first | (simp; done) | omega | (simp; omega))) | with_reducible refine below_step ?_ (by assumption))), .inl ⟨by rw [he], rfl⟩⟩
    · have hp2 : passedC 3 (xs.drop k) = false := by simpa using hp
      have HP := Lib.hid hp2
      clear hp hp2
      have hkn : k < xs.length := by
        rcases Nat.lt_or_ge k xs.length with h | h
        · exact h
        · have := HP.out
          rw [List.drop_eq_nil_of_le h, passedC_nil] at this
          simp at this
      go_wp2
      go_region_held3 (fun w' => w'.cell? ⟨gx, 0, none⟩ = some (.iface 102 (.agg #[])) ∧ w'.cell? ⟨gb, 0, none⟩ = some (.slice A xs.length c)) (first | (go_keep; done) | (go_split_ands; refine ⟨?_, ?_⟩ <;> (rw [hc1 _ _ (by simp; omega)]; assumption))) ((go_at_call 51; refine (passed_3 A' (xs.length - k) _ (xs.drop k) _ (HC'.out _ (by repeat (first | with_reducible assumption | with_reducible exact Below.refl _ _ | with_reducible refine below_alloc ?_ _ | with_reducible refine pw_below_drewN ?_ _ | with_reducible refine below_drew1 ?_ | ((with_reducible refine below_set ?_ ?hle); (case hle => first | (simp; done) | omega | (simp; omega))) | with_reducible refine below_step ?_ (by assumption))))).mono ?_; rintro e w1 ⟨rfl, hb1⟩; obtain ⟨hc1, hf1⟩ := bcell hb1))
      rename_i hHeld
      have hpt : (Value.bool !passedC 3 (xs.drop k)) = .bool true := by rw [HP.out]; rfl
      rw [hpt, HP.out]
      obtain ⟨cx1, cb1⟩ := hHeld
      have hz1 := below_size hb1
      simp at hz1
      have lx1 : gx < w1.heap.size := by omega
      have lb1 : gb < w1.heap.size := by omega
      clear cx cb
      go_wp2
      go_cut [6] (fun s6 wx => StepAt (nextC 3 st (xs.drop k)) wr s6 wx)
      case first =>
        go_region_held3 (fun w' => w'.cell? ⟨gx, 0, none⟩ = some (.iface 102 (.agg #[])) ∧ w'.cell? ⟨gb, 0, none⟩ = some (.slice A xs.length c)) (first | (go_keep; done) | (go_split_ands; refine ⟨?_, ?_⟩ <;> (rw [hc2 _ _ (by simp; omega)]; first | assumption | (simp; done))) | (go_split_ands; refine ⟨?_, ?_⟩ <;> ((repeat rw [World.cell?_setCell_far _ _ _ _ (by simp; omega)]); assumption)) | (go_split_ands; refine ⟨?_, ?_⟩ <;> (rw [World.cell?_alloc_past _ _ _ (by first | assumption | (simp; omega))]; assumption))) ((with_reducible show Calls Try.prog 82 #[_, _, _] _ _; refine (shift_next' _ (HS.out (by first | rfl | trivial)) A' (xs.length - k) _ (xs.drop k) _ (HC'.out _ (by repeat (first | with_reducible assumption | with_reducible exact Below.refl _ _ | with_reducible refine below_alloc ?_ _ | with_reducible refine pw_below_drewN ?_ _ | with_reducible refine below_drew1 ?_ | ((with_reducible refine below_set ?_ ?hle); (case hle => first | (simp; done) | omega | (simp; omega))) | with_reducible refine below_step ?_ (by assumption)))) ?hbx).mono ?_; (case hbx => exact hx.drop k); rintro e w2 ⟨rfl, hb2⟩; obtain ⟨hc2, hf2⟩ := bcell hb2; have hz2 := below_size hb2; simp at hz2; have lx2 : gx < w2.heap.size := (by omega); have lb2 : gb < w2.heap.size := (by omega); have cx2 : w2.cell? ⟨gx, 0, none⟩ = some (.iface 102 (.agg #[])) := (by go_split_ands; rw [hc2 _ _ (by simp; omega)]; first | assumption | (simp; assumption)); have cb2 : w2.cell? ⟨gb, 0, none⟩ = some (.slice A xs.length c) := (by go_split_ands; rw [hc2 _ _ (by simp; omega)]; first | assumption | (simp; assumption))))
        all_goals (rename_i hHeld; clear hHeld; go_wp2_with fail; go_meet; exact ⟨_, rfl, (by repeat (first | with_reducible assumption | ((with_reducible refine BlkIs.new ?hg ?hf); (case hg => (simp; done)); (case hf => first | rfl | (simp; done))) | with_reducible refine BlkIs.alloc ?_ | with_reducible refine BlkIs.drewN ?_ | with_reducible refine BlkIs.drew ?_ | with_reducible refine BlkIs.set ?_ | ((with_reducible refine BlkIs.far ?_ ?hne); (case hne => first | (simp; done) | omega | (simp; omega))) | with_reducible refine BlkIs.below ?_ (by assumption) | ((with_reducible refine BlkIs.chg ?_ (by assumption) ?hnn); (case hnn => first | (simp; done) | omega | (simp; omega) | (intro hs; have := hs.1; omega))) | ((with_reducible refine BlkIs.of (by assumption) ?hf); (case hf => first | rfl | (simp; done))))), (by repeat (first | with_reducible assumption | with_reducible exact Below.refl _ _ | with_reducible refine below_alloc ?_ _ | with_reducible refine pw_below_drewN ?_ _ | with_reducible refine below_drew1 ?_ | ((with_reducible refine below_set ?_ ?hle); (case hle => first | (simp; done) | omega | (simp; omega))) | with_reducible refine below_step ?_ (by assumption)))⟩)
      case rest =>
        obtain ⟨g, rfl, ⟨_, hstep, rfl⟩, hb3⟩ := hcut
        have hj3 := HJB.out _ _ _ HJ0.out hb3
        clear cx1 cb1 lx1 lb1 hz1 hb1 hc1 hf1 hpt
        have d0 : wc.cell? ⟨g, 0, none⟩ = some (.int .i64 (nextC 3 st (xs.drop k)).kind) := by simpa using blk_cell hstep 0
        have d1 : wc.cell? ⟨g, 1, none⟩ = some (.int .u32 (nextC 3 st (xs.drop k)).ch) := by simpa using blk_cell hstep 1
        have HJ3 := Lib.hid hj3
        have HSTEP := Lib.hid hstep
        clear hj3 hstep
        obtain ⟨f', hf'⟩ : ∃ f', f = f' + 1 := ⟨f - 1, by have := HF.out; omega⟩
        have HF' := Lib.hid hf'
        clear hf'
        by_cases hkind : (nextC 3 st (xs.drop k)).kind = 1
        · have HKD := Lib.hid hkind
          clear hkind
          have hkb : ((nextC 3 st (xs.drop k)).kind == 1) = true := by have := HKD.out; simp [this]
          obtain ⟨fn, tm, asg, bd, hy, hR⟩ := HY.out pre ((k : Int), (nextC 3 st (xs.drop k)).ch) wc HJ3.out (by have := HPK.out; omega)
          dsimp only at hy
          go_upto_region 4 with (go_at_call 41; (with_reducible refine (need_true _ _ _).mono ?_); rintro e w5 ⟨rfl, rfl⟩)
          refine (wpIn_wide (n := 0)).1 ?_
          gi_wp2
          refine ⟨rfl, hR.mono ?_⟩
          rintro e W5 ⟨rfl, hj5, hkeep⟩
          have hs5 := hkeep _ _ HSTEP.out
          have e2 : W5.cell? ⟨g, 2, none⟩ = some (.int .i64 (nextC 3 st (xs.drop k)).bytes) := by simpa using blk_cell hs5 2
          have e3 : W5.cell? ⟨g, 3, none⟩ = some (.int .i64 (nextC 3 st (xs.drop k)).st) := by simpa using blk_cell hs5 3
          have HJ5 := Lib.hid hj5
          clear hj5 hkeep hs5 hR hy
          have hbb := nextC_bytes HKD.out
          rw [List.length_drop] at hbb
          have HBB := Lib.hid hbb
          clear hbb
          have hadd : IntKind.i64.wrap ((k : Int) + (nextC 3 st (xs.drop k)).bytes) = (k : Int) + (nextC 3 st (xs.drop k)).bytes := by
            have := HBB.out
            have := HK.out
            exact IntWalk.i64_in _ (by omega)
          gi_wp2
          go_wp2
          go_quiet (fail)
          go_wp2
          obtain ⟨hb0, hb1⟩ := HBB.out
          have hk0 := HK.out
          have hf0 := HF.out
          have hf1 := HF'.out
          have hp0 := HPK.out
          have hkt : ((k + (nextC 3 st (xs.drop k)).bytes.toNat : Nat) : Int) = (k : Int) + (nextC 3 st (xs.drop k)).bytes := by omega
          refine ⟨⟨k + (nextC 3 st (xs.drop k)).bytes.toNat, f', (nextC 3 st (xs.drop k)).st, pre ++ [((k : Int), (nextC 3 st (xs.drop k)).ch)], by omega, by omega, by simp; omega, by rw [hkt], rfl, fun h => by first | exact nextC_st3 (HS.out (by first | exact h | trivial)) | (simp at h), ?_, ?_⟩, ?_⟩
          · exact HJB.out _ _ _ HJ5.out (by repeat (first | with_reducible assumption | with_reducible exact Below.refl _ _ | with_reducible refine below_alloc ?_ _ | with_reducible refine pw_below_drewN ?_ _ | with_reducible refine below_drew1 ?_ | ((with_reducible refine below_set ?_ ?hle); (case hle => first | (simp; done) | omega | (simp; omega))) | with_reducible refine below_step ?_ (by assumption)))
          · rw [HR.out, hf1, decodeLoop_step HP.out HKD.out, List.drop_drop, hkt, List.append_assoc]
            rfl
          · show (_ : Nat) < _
            simp only [intOf]
            omega
        · have hkb : ((nextC 3 st (xs.drop k)).kind == 1) = false := by simpa using hkind
          have HKD := Lib.hid hkind
          clear hkind
          go_wp2_with (go_at_call 41; (with_reducible refine (need_false _ _ _).mono ?_); rintro e w1 ⟨rfl, rfl⟩)
          have he : decodeLoop 3 xs.length 0 0 xs = (pre, some (k : Int)) := by
            rw [HR.out, HF'.out, decodeLoop_fail HP.out HKD.out]; simp
          exact ⟨rfl, by rw [he]; exact HJB.out _ _ _ HJ3.out (by repeat (first | with_reducible assumption | with_reducible exact Below.refl _ _ | with_reducible refine below_alloc ?_ _ | with_reducible refine pw_below_drewN ?_ _ | with_reducible refine below_drew1 ?_ | ((with_reducible refine below_set ?_ ?hle); (case hle => first | (simp; done) | omega | (simp; omega))) | with_reducible refine below_step ?_ (by assumption))), .inr ⟨(k : Int), by rw [he], rfl⟩⟩

end Go.Proofs.Ytcekghcejmhhaaa
