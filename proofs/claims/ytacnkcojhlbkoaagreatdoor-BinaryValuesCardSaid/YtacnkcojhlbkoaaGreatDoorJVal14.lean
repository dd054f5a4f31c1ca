/- binary: Decode. binary: power, Special. -/
import Derived.Test.YtacnkcojhlbkoaaGreatDoorJVal13
import Derived.Test.YtacnkcojhlbkoaaGreatDoorJVal9
set_option linter.unusedSimpArgs false
set_option linter.unusedVariables false
set_option linter.unnecessarySimpa false
namespace Go.Proofs.YtacnkcojhlbkoaaGreatDoor
open Go.RowKit Go.Proofs.YtacnkcojhlbkoaaGreatDoorW.PrintWords Go.Proofs.YtacnkcojhlbkoaaGreatDoorW.PrintLast Go.Proofs.YtacnkcojhlbkoaaGreatDoorW.PrintMore Go.Proofs.YtacnkcojhlbkoaaGreatDoor.NL
set_option maxRecDepth 100000
set_option exponentiation.threshold 130

set_option maxHeartbeats 4000000 in
theorem decode_no {hi lo : Int} (f : Int) (w : World) (hf : isFm f = false) :
    Calls Tryz.prog 31 #[.int .i64 f, wV hi lo] w (D0P 1 w) := by
  have HK := Lib.hid fun w' => kindOf_no hf w'
  clear hf
  go_enter_defers Tryz.func31, Tryz.ntmps31
  go_wp2_with (first | (go_at_call 41; (with_reducible refine (HK.out _).mono ?_); rintro e w1 ⟨rfl, b1⟩))
  (refine leaves_cons (f := 39) (args := #[.pointer (some ⟨w.heap.size + 1 + 1, 0, none⟩)]) (by simp) (by simp [go_sem]) ?_; refine (bcaught_panic (w.heap.size + 1 + 1) (1) 0 [] _ (BlkIs.one blk0)).mono ?_; rintro e u' w'' ⟨rfl, rfl, hch, hp⟩; have hp' : BlkIs w'' (w.heap.size + 1 + 1) 28 (· = #[.int .i64 (1)]) := ⟨_, hp, rfl⟩)
  have hd : BlkIs w'' (w.heap.size + 1) 25 (· = #[.int .i64 0, .int .i64 0, .bool false, .slice none 0 0, .int .i64 0]) := blk0
  exact ⟨.tuple #[.agg #[.int .i64 0, .int .i64 0, .bool false, .slice none 0 0, .int .i64 0], .int .i64 1], rresults (rs := [.cell 4 25, .cell 5 28]) rfl (by simp) (.cell (w.heap.size + 1) rfl (load_agg (t := 25) hd Tryz.underlying25 rfl (by kernel_rfl)) (.cell (w.heap.size + 1 + 1) rfl (load_one (t := 28) hp' (by kernel_rfl)) .nil)), .slice none 0 0, rfl, Kd.R_nil _ _ _ _ _, below_chg bel hch (by omega)⟩

set_option maxHeartbeats 8000000 in
theorem decode_far {N : Nat} {hi lo : Int} (f : Int) (w : World) (hw : Wd N hi lo) (hf : isFm f = true) (hN : 2 ^ (topN f + 1) ≤ N) :
    Calls Tryz.prog 31 #[.int .i64 f, wV hi lo] w (D0P 1 w) := by
  have HK := Lib.hid fun w' => kindOf_ok hf w'
  have HSZ := Lib.hid fun w' => wsize_any w' hw
  obtain ⟨ww1, ww2⟩ := fmW_bd f
  have hW : fmW f = ((topN f + 1 : Nat) : Int) := by unfold topN; omega
  have hb : ¬ blen N ≤ topN f + 1 := fun h => by have := blen_le.1 h; omega
  have hd : decide ((blen N : Int) ≤ fmW f) = false := decide_eq_false (by omega)
  unfold kV at HK
  clear hw hf hN hb hW ww1 ww2
  generalize blen N = z at *
  generalize fmD f = D at *
  generalize fmE f = E at *
  generalize fmL f = L at *
  generalize fmH f = H at *
  generalize fmW f = W at *
  go_enter_defers Tryz.func31, Tryz.ntmps31
  go_upto_region 4 with (first | (go_at_call 41; (with_reducible refine (HK.out _).mono ?_); rintro e w1 ⟨rfl, b1⟩; obtain ⟨hc1, hf1⟩ := bcell b1; (try simp only [dr_size, dr_cell] at hc1); (try simp only [dr_size, dr_frozen] at hf1); have hz1 := below_size b1; (try simp at hz1); (try have z01 : w.heap.size < w1.heap.size := (by omega)); (try have z11 : w.heap.size + 1 < w1.heap.size := (by omega)); (try have z21 : w.heap.size + 1 + 1 < w1.heap.size := (by omega)); (try have z31 : w.heap.size + 1 + 1 + 1 < w1.heap.size := (by omega))))
  refine region_any (by kernel_rfl) ?_
  refine wpAny_ready (rs := [0, 2]) (by kernel_rfl) (by decide) ?_
  refine AllReady.cons rfl (fun K hK => ?_) (AllReady.cons rfl (fun K hK => ?_) (AllReady.nil))
  · go_simp
    refine hK _ _ ?_
    clear hK K
    refine wpAny_ready (rs := [1, 2]) (by kernel_rfl) (by decide) ?_
    refine AllReady.cons rfl (fun K hK => ?_) (AllReady.cons rfl (fun K hK => ?_) (AllReady.nil))
    · go_simp
      refine (HSZ.out _).mono ?_
      rintro e w2 ⟨rfl, b2⟩
      obtain ⟨hc2, hf2⟩ := bcell b2
      (try simp only [dr_size, dr_cell] at hc2)
      (try simp only [dr_size, dr_frozen] at hf2)
      have hz2 := below_size b2
      (try simp at hz2)
      (try have z02 : w.heap.size < w2.heap.size := (by omega))
      (try have z12 : w.heap.size + 1 < w2.heap.size := (by omega))
      (try have z22 : w.heap.size + 1 + 1 < w2.heap.size := (by omega))
      (try have z32 : w.heap.size + 1 + 1 + 1 < w2.heap.size := (by omega))
      (try have yw12 : w1.heap.size < w2.heap.size := (by omega))
      dsimp only
      refine hK _ _ ?_
      clear hK K
      refine wpAny_ready (rs := [2]) (by kernel_rfl) (by decide) ?_
      refine AllReady.cons rfl (fun K hK => ?_) (AllReady.nil)
      go_simp
      refine hK _ _ ?_
      clear hK K
      refine wpAny_ready (rs := [3]) (by kernel_rfl) (by decide) ?_
      refine AllReady.cons rfl (fun K hK => ?_) (AllReady.nil)
      go_simp
      refine hK _ _ ?_
      clear hK K
      refine wpAny_ready (rs := [4]) (by kernel_rfl) (by decide) ?_
      refine AllReady.cons rfl (fun K hK => ?_) (AllReady.nil)
      go_simp
      refine hK _ _ ?_
      clear hK K
      refine wpAny_ready (rs := [5]) (by kernel_rfl) (by decide) ?_
      refine AllReady.cons rfl (fun K hK => ?_) (AllReady.nil)
      go_simp
      refine hK _ _ ?_
      clear hK K
      refine wpAny_ready (rs := [6]) (by kernel_rfl) (by decide) ?_
      refine AllReady.cons rfl (fun K hK => ?_) (AllReady.nil)
      go_simp
      refine (bneed_false _ _).mono ?_
      rintro e w3 ⟨rfl, rfl⟩
      go_simp
      (refine leaves_cons (f := 39) (args := #[.pointer (some ⟨w.heap.size + 1 + 1, 0, none⟩)]) (by simp) (by simp [go_sem]) ?_; refine (bcaught_panic (w.heap.size + 1 + 1) (1) 0 [] _ (BlkIs.one blk0)).mono ?_; rintro e u' w'' ⟨rfl, rfl, hch, hp⟩; have hp' : BlkIs w'' (w.heap.size + 1 + 1) 28 (· = #[.int .i64 (1)]) := ⟨_, hp, rfl⟩)
      have hd : BlkIs w'' (w.heap.size + 1) 25 (· = #[.int .i64 0, .int .i64 0, .bool false, .slice none 0 0, .int .i64 0]) := blk0
      exact ⟨.tuple #[.agg #[.int .i64 0, .int .i64 0, .bool false, .slice none 0 0, .int .i64 0], .int .i64 1], rresults (rs := [.cell 4 25, .cell 5 28]) rfl (by simp) (.cell (w.heap.size + 1) rfl (load_agg (t := 25) hd Tryz.underlying25 rfl (by kernel_rfl)) (.cell (w.heap.size + 1 + 1) rfl (load_one (t := 28) hp' (by kernel_rfl)) .nil)), .slice none 0 0, rfl, Kd.R_nil _ _ _ _ _, below_chg bel hch (by omega)⟩
    · go_simp
      refine hK _ _ ?_
      clear hK K
      refine wpAny_ready (rs := [1, 3]) (by kernel_rfl) (by decide) ?_
      refine AllReady.cons rfl (fun K hK => ?_) (AllReady.cons rfl (fun K hK => ?_) (AllReady.nil))
      · go_simp
        refine (HSZ.out _).mono ?_
        rintro e w2 ⟨rfl, b2⟩
        obtain ⟨hc2, hf2⟩ := bcell b2
        (try simp only [dr_size, dr_cell] at hc2)
        (try simp only [dr_size, dr_frozen] at hf2)
        have hz2 := below_size b2
        (try simp at hz2)
        (try have z02 : w.heap.size < w2.heap.size := (by omega))
        (try have z12 : w.heap.size + 1 < w2.heap.size := (by omega))
        (try have z22 : w.heap.size + 1 + 1 < w2.heap.size := (by omega))
        (try have z32 : w.heap.size + 1 + 1 + 1 < w2.heap.size := (by omega))
        (try have yw12 : w1.heap.size < w2.heap.size := (by omega))
        dsimp only
        refine hK _ _ ?_
        clear hK K
        refine wpAny_ready (rs := [3]) (by kernel_rfl) (by decide) ?_
        refine AllReady.cons rfl (fun K hK => ?_) (AllReady.nil)
        go_simp
        refine hK _ _ ?_
        clear hK K
        refine wpAny_ready (rs := [4]) (by kernel_rfl) (by decide) ?_
        refine AllReady.cons rfl (fun K hK => ?_) (AllReady.nil)
        go_simp
        refine hK _ _ ?_
        clear hK K
        refine wpAny_ready (rs := [5]) (by kernel_rfl) (by decide) ?_
        refine AllReady.cons rfl (fun K hK => ?_) (AllReady.nil)
        go_simp
        refine hK _ _ ?_
        clear hK K
        refine wpAny_ready (rs := [6]) (by kernel_rfl) (by decide) ?_
        refine AllReady.cons rfl (fun K hK => ?_) (AllReady.nil)
        go_simp
        refine (bneed_false _ _).mono ?_
        rintro e w3 ⟨rfl, rfl⟩
        go_simp
        (refine leaves_cons (f := 39) (args := #[.pointer (some ⟨w.heap.size + 1 + 1, 0, none⟩)]) (by simp) (by simp [go_sem]) ?_; refine (bcaught_panic (w.heap.size + 1 + 1) (1) 0 [] _ (BlkIs.one blk0)).mono ?_; rintro e u' w'' ⟨rfl, rfl, hch, hp⟩; have hp' : BlkIs w'' (w.heap.size + 1 + 1) 28 (· = #[.int .i64 (1)]) := ⟨_, hp, rfl⟩)
        have hd : BlkIs w'' (w.heap.size + 1) 25 (· = #[.int .i64 0, .int .i64 0, .bool false, .slice none 0 0, .int .i64 0]) := blk0
        exact ⟨.tuple #[.agg #[.int .i64 0, .int .i64 0, .bool false, .slice none 0 0, .int .i64 0], .int .i64 1], rresults (rs := [.cell 4 25, .cell 5 28]) rfl (by simp) (.cell (w.heap.size + 1) rfl (load_agg (t := 25) hd Tryz.underlying25 rfl (by kernel_rfl)) (.cell (w.heap.size + 1 + 1) rfl (load_one (t := 28) hp' (by kernel_rfl)) .nil)), .slice none 0 0, rfl, Kd.R_nil _ _ _ _ _, below_chg bel hch (by omega)⟩
      · go_simp
        refine hK _ _ ?_
        clear hK K
        refine wpAny_ready (rs := [1, 4]) (by kernel_rfl) (by decide) ?_
        refine AllReady.cons rfl (fun K hK => ?_) (AllReady.cons rfl (fun K hK => ?_) (AllReady.nil))
        · go_simp
          refine (HSZ.out _).mono ?_
          rintro e w2 ⟨rfl, b2⟩
          obtain ⟨hc2, hf2⟩ := bcell b2
          (try simp only [dr_size, dr_cell] at hc2)
          (try simp only [dr_size, dr_frozen] at hf2)
          have hz2 := below_size b2
          (try simp at hz2)
          (try have z02 : w.heap.size < w2.heap.size := (by omega))
          (try have z12 : w.heap.size + 1 < w2.heap.size := (by omega))
          (try have z22 : w.heap.size + 1 + 1 < w2.heap.size := (by omega))
          (try have z32 : w.heap.size + 1 + 1 + 1 < w2.heap.size := (by omega))
          (try have yw12 : w1.heap.size < w2.heap.size := (by omega))
          dsimp only
          refine hK _ _ ?_
          clear hK K
          refine wpAny_ready (rs := [4]) (by kernel_rfl) (by decide) ?_
          refine AllReady.cons rfl (fun K hK => ?_) (AllReady.nil)
          go_simp
          refine hK _ _ ?_
          clear hK K
          refine wpAny_ready (rs := [5]) (by kernel_rfl) (by decide) ?_
          refine AllReady.cons rfl (fun K hK => ?_) (AllReady.nil)
          go_simp
          refine hK _ _ ?_
          clear hK K
          refine wpAny_ready (rs := [6]) (by kernel_rfl) (by decide) ?_
          refine AllReady.cons rfl (fun K hK => ?_) (AllReady.nil)
          go_simp
          refine (bneed_false _ _).mono ?_
          rintro e w3 ⟨rfl, rfl⟩
          go_simp
          (refine leaves_cons (f := 39) (args := #[.pointer (some ⟨w.heap.size + 1 + 1, 0, none⟩)]) (by simp) (by simp [go_sem]) ?_; refine (bcaught_panic (w.heap.size + 1 + 1) (1) 0 [] _ (BlkIs.one blk0)).mono ?_; rintro e u' w'' ⟨rfl, rfl, hch, hp⟩; have hp' : BlkIs w'' (w.heap.size + 1 + 1) 28 (· = #[.int .i64 (1)]) := ⟨_, hp, rfl⟩)
          have hd : BlkIs w'' (w.heap.size + 1) 25 (· = #[.int .i64 0, .int .i64 0, .bool false, .slice none 0 0, .int .i64 0]) := blk0
          exact ⟨.tuple #[.agg #[.int .i64 0, .int .i64 0, .bool false, .slice none 0 0, .int .i64 0], .int .i64 1], rresults (rs := [.cell 4 25, .cell 5 28]) rfl (by simp) (.cell (w.heap.size + 1) rfl (load_agg (t := 25) hd Tryz.underlying25 rfl (by kernel_rfl)) (.cell (w.heap.size + 1 + 1) rfl (load_one (t := 28) hp' (by kernel_rfl)) .nil)), .slice none 0 0, rfl, Kd.R_nil _ _ _ _ _, below_chg bel hch (by omega)⟩
        · go_simp
          refine hK _ _ ?_
          clear hK K
          refine wpAny_ready (rs := [1]) (by kernel_rfl) (by decide) ?_
          refine AllReady.cons rfl (fun K hK => ?_) (AllReady.nil)
          go_simp
          refine (HSZ.out _).mono ?_
          rintro e w2 ⟨rfl, b2⟩
          obtain ⟨hc2, hf2⟩ := bcell b2
          (try simp only [dr_size, dr_cell] at hc2)
          (try simp only [dr_size, dr_frozen] at hf2)
          have hz2 := below_size b2
          (try simp at hz2)
          (try have z02 : w.heap.size < w2.heap.size := (by omega))
          (try have z12 : w.heap.size + 1 < w2.heap.size := (by omega))
          (try have z22 : w.heap.size + 1 + 1 < w2.heap.size := (by omega))
          (try have z32 : w.heap.size + 1 + 1 + 1 < w2.heap.size := (by omega))
          (try have yw12 : w1.heap.size < w2.heap.size := (by omega))
          dsimp only
          refine hK _ _ ?_
          clear hK K
          refine wpAny_ready (rs := [5]) (by kernel_rfl) (by decide) ?_
          refine AllReady.cons rfl (fun K hK => ?_) (AllReady.nil)
          go_simp
          refine hK _ _ ?_
          clear hK K
          refine wpAny_ready (rs := [6]) (by kernel_rfl) (by decide) ?_
          refine AllReady.cons rfl (fun K hK => ?_) (AllReady.nil)
          go_simp
          refine (bneed_false _ _).mono ?_
          rintro e w3 ⟨rfl, rfl⟩
          go_simp
          (refine leaves_cons (f := 39) (args := #[.pointer (some ⟨w.heap.size + 1 + 1, 0, none⟩)]) (by simp) (by simp [go_sem]) ?_; refine (bcaught_panic (w.heap.size + 1 + 1) (1) 0 [] _ (BlkIs.one blk0)).mono ?_; rintro e u' w'' ⟨rfl, rfl, hch, hp⟩; have hp' : BlkIs w'' (w.heap.size + 1 + 1) 28 (· = #[.int .i64 (1)]) := ⟨_, hp, rfl⟩)
          have hd : BlkIs w'' (w.heap.size + 1) 25 (· = #[.int .i64 0, .int .i64 0, .bool false, .slice none 0 0, .int .i64 0]) := blk0
          exact ⟨.tuple #[.agg #[.int .i64 0, .int .i64 0, .bool false, .slice none 0 0, .int .i64 0], .int .i64 1], rresults (rs := [.cell 4 25, .cell 5 28]) rfl (by simp) (.cell (w.heap.size + 1) rfl (load_agg (t := 25) hd Tryz.underlying25 rfl (by kernel_rfl)) (.cell (w.heap.size + 1 + 1) rfl (load_one (t := 28) hp' (by kernel_rfl)) .nil)), .slice none 0 0, rfl, Kd.R_nil _ _ _ _ _, below_chg bel hch (by omega)⟩
  · go_simp
    refine hK _ _ ?_
    clear hK K
    refine wpAny_ready (rs := [0, 3]) (by kernel_rfl) (by decide) ?_
    refine AllReady.cons rfl (fun K hK => ?_) (AllReady.cons rfl (fun K hK => ?_) (AllReady.nil))
    · go_simp
      refine hK _ _ ?_
      clear hK K
      refine wpAny_ready (rs := [1, 3]) (by kernel_rfl) (by decide) ?_
      refine AllReady.cons rfl (fun K hK => ?_) (AllReady.cons rfl (fun K hK => ?_) (AllReady.nil))
      · go_simp
        refine (HSZ.out _).mono ?_
        rintro e w2 ⟨rfl, b2⟩
        obtain ⟨hc2, hf2⟩ := bcell b2
        (try simp only [dr_size, dr_cell] at hc2)
        (try simp only [dr_size, dr_frozen] at hf2)
        have hz2 := below_size b2
        (try simp at hz2)
        (try have z02 : w.heap.size < w2.heap.size := (by omega))
        (try have z12 : w.heap.size + 1 < w2.heap.size := (by omega))
        (try have z22 : w.heap.size + 1 + 1 < w2.heap.size := (by omega))
        (try have z32 : w.heap.size + 1 + 1 + 1 < w2.heap.size := (by omega))
        (try have yw12 : w1.heap.size < w2.heap.size := (by omega))
        dsimp only
        refine hK _ _ ?_
        clear hK K
        refine wpAny_ready (rs := [3]) (by kernel_rfl) (by decide) ?_
        refine AllReady.cons rfl (fun K hK => ?_) (AllReady.nil)
        go_simp
        refine hK _ _ ?_
        clear hK K
        refine wpAny_ready (rs := [4]) (by kernel_rfl) (by decide) ?_
        refine AllReady.cons rfl (fun K hK => ?_) (AllReady.nil)
        go_simp
        refine hK _ _ ?_
        clear hK K
        refine wpAny_ready (rs := [5]) (by kernel_rfl) (by decide) ?_
        refine AllReady.cons rfl (fun K hK => ?_) (AllReady.nil)
        go_simp
        refine hK _ _ ?_
        clear hK K
        refine wpAny_ready (rs := [6]) (by kernel_rfl) (by decide) ?_
        refine AllReady.cons rfl (fun K hK => ?_) (AllReady.nil)
        go_simp
        refine (bneed_false _ _).mono ?_
        rintro e w3 ⟨rfl, rfl⟩
        go_simp
        (refine leaves_cons (f := 39) (args := #[.pointer (some ⟨w.heap.size + 1 + 1, 0, none⟩)]) (by simp) (by simp [go_sem]) ?_; refine (bcaught_panic (w.heap.size + 1 + 1) (1) 0 [] _ (BlkIs.one blk0)).mono ?_; rintro e u' w'' ⟨rfl, rfl, hch, hp⟩; have hp' : BlkIs w'' (w.heap.size + 1 + 1) 28 (· = #[.int .i64 (1)]) := ⟨_, hp, rfl⟩)
        have hd : BlkIs w'' (w.heap.size + 1) 25 (· = #[.int .i64 0, .int .i64 0, .bool false, .slice none 0 0, .int .i64 0]) := blk0
        exact ⟨.tuple #[.agg #[.int .i64 0, .int .i64 0, .bool false, .slice none 0 0, .int .i64 0], .int .i64 1], rresults (rs := [.cell 4 25, .cell 5 28]) rfl (by simp) (.cell (w.heap.size + 1) rfl (load_agg (t := 25) hd Tryz.underlying25 rfl (by kernel_rfl)) (.cell (w.heap.size + 1 + 1) rfl (load_one (t := 28) hp' (by kernel_rfl)) .nil)), .slice none 0 0, rfl, Kd.R_nil _ _ _ _ _, below_chg bel hch (by omega)⟩
      · go_simp
        refine hK _ _ ?_
        clear hK K
        refine wpAny_ready (rs := [1, 4]) (by kernel_rfl) (by decide) ?_
        refine AllReady.cons rfl (fun K hK => ?_) (AllReady.cons rfl (fun K hK => ?_) (AllReady.nil))
        · go_simp
          refine (HSZ.out _).mono ?_
          rintro e w2 ⟨rfl, b2⟩
          obtain ⟨hc2, hf2⟩ := bcell b2
          (try simp only [dr_size, dr_cell] at hc2)
          (try simp only [dr_size, dr_frozen] at hf2)
          have hz2 := below_size b2
          (try simp at hz2)
          (try have z02 : w.heap.size < w2.heap.size := (by omega))
          (try have z12 : w.heap.size + 1 < w2.heap.size := (by omega))
          (try have z22 : w.heap.size + 1 + 1 < w2.heap.size := (by omega))
          (try have z32 : w.heap.size + 1 + 1 + 1 < w2.heap.size := (by omega))
          (try have yw12 : w1.heap.size < w2.heap.size := (by omega))
          dsimp only
          refine hK _ _ ?_
          clear hK K
          refine wpAny_ready (rs := [4]) (by kernel_rfl) (by decide) ?_
          refine AllReady.cons rfl (fun K hK => ?_) (AllReady.nil)
          go_simp
          refine hK _ _ ?_
          clear hK K
          refine wpAny_ready (rs := [5]) (by kernel_rfl) (by decide) ?_
          refine AllReady.cons rfl (fun K hK => ?_) (AllReady.nil)
          go_simp
          refine hK _ _ ?_
          clear hK K
          refine wpAny_ready (rs := [6]) (by kernel_rfl) (by decide) ?_
          refine AllReady.cons rfl (fun K hK => ?_) (AllReady.nil)
          go_simp
          refine (bneed_false _ _).mono ?_
          rintro e w3 ⟨rfl, rfl⟩
          go_simp
          (refine leaves_cons (f := 39) (args := #[.pointer (some ⟨w.heap.size + 1 + 1, 0, none⟩)]) (by simp) (by simp [go_sem]) ?_; refine (bcaught_panic (w.heap.size + 1 + 1) (1) 0 [] _ (BlkIs.one blk0)).mono ?_; rintro e u' w'' ⟨rfl, rfl, hch, hp⟩; have hp' : BlkIs w'' (w.heap.size + 1 + 1) 28 (· = #[.int .i64 (1)]) := ⟨_, hp, rfl⟩)
          have hd : BlkIs w'' (w.heap.size + 1) 25 (· = #[.int .i64 0, .int .i64 0, .bool false, .slice none 0 0, .int .i64 0]) := blk0
          exact ⟨.tuple #[.agg #[.int .i64 0, .int .i64 0, .bool false, .slice none 0 0, .int .i64 0], .int .i64 1], rresults (rs := [.cell 4 25, .cell 5 28]) rfl (by simp) (.cell (w.heap.size + 1) rfl (load_agg (t := 25) hd Tryz.underlying25 rfl (by kernel_rfl)) (.cell (w.heap.size + 1 + 1) rfl (load_one (t := 28) hp' (by kernel_rfl)) .nil)), .slice none 0 0, rfl, Kd.R_nil _ _ _ _ _, below_chg bel hch (by omega)⟩
        · go_simp
          refine hK _ _ ?_
          clear hK K
          refine wpAny_ready (rs := [1]) (by kernel_rfl) (by decide) ?_
          refine AllReady.cons rfl (fun K hK => ?_) (AllReady.nil)
          go_simp
          refine (HSZ.out _).mono ?_
          rintro e w2 ⟨rfl, b2⟩
          obtain ⟨hc2, hf2⟩ := bcell b2
          (try simp only [dr_size, dr_cell] at hc2)
          (try simp only [dr_size, dr_frozen] at hf2)
          have hz2 := below_size b2
          (try simp at hz2)
          (try have z02 : w.heap.size < w2.heap.size := (by omega))
          (try have z12 : w.heap.size + 1 < w2.heap.size := (by omega))
          (try have z22 : w.heap.size + 1 + 1 < w2.heap.size := (by omega))
          (try have z32 : w.heap.size + 1 + 1 + 1 < w2.heap.size := (by omega))
          (try have yw12 : w1.heap.size < w2.heap.size := (by omega))
          dsimp only
          refine hK _ _ ?_
          clear hK K
          refine wpAny_ready (rs := [5]) (by kernel_rfl) (by decide) ?_
          refine AllReady.cons rfl (fun K hK => ?_) (AllReady.nil)
          go_simp
          refine hK _ _ ?_
          clear hK K
          refine wpAny_ready (rs := [6]) (by kernel_rfl) (by decide) ?_
          refine AllReady.cons rfl (fun K hK => ?_) (AllReady.nil)
          go_simp
          refine (bneed_false _ _).mono ?_
          rintro e w3 ⟨rfl, rfl⟩
          go_simp
          (refine leaves_cons (f := 39) (args := #[.pointer (some ⟨w.heap.size + 1 + 1, 0, none⟩)]) (by simp) (by simp [go_sem]) ?_; refine (bcaught_panic (w.heap.size + 1 + 1) (1) 0 [] _ (BlkIs.one blk0)).mono ?_; rintro e u' w'' ⟨rfl, rfl, hch, hp⟩; have hp' : BlkIs w'' (w.heap.size + 1 + 1) 28 (· = #[.int .i64 (1)]) := ⟨_, hp, rfl⟩)
          have hd : BlkIs w'' (w.heap.size + 1) 25 (· = #[.int .i64 0, .int .i64 0, .bool false, .slice none 0 0, .int .i64 0]) := blk0
          exact ⟨.tuple #[.agg #[.int .i64 0, .int .i64 0, .bool false, .slice none 0 0, .int .i64 0], .int .i64 1], rresults (rs := [.cell 4 25, .cell 5 28]) rfl (by simp) (.cell (w.heap.size + 1) rfl (load_agg (t := 25) hd Tryz.underlying25 rfl (by kernel_rfl)) (.cell (w.heap.size + 1 + 1) rfl (load_one (t := 28) hp' (by kernel_rfl)) .nil)), .slice none 0 0, rfl, Kd.R_nil _ _ _ _ _, below_chg bel hch (by omega)⟩
    · go_simp
      refine hK _ _ ?_
      clear hK K
      refine wpAny_ready (rs := [0, 4]) (by kernel_rfl) (by decide) ?_
      refine AllReady.cons rfl (fun K hK => ?_) (AllReady.cons rfl (fun K hK => ?_) (AllReady.nil))
      · go_simp
        refine hK _ _ ?_
        clear hK K
        refine wpAny_ready (rs := [1, 4]) (by kernel_rfl) (by decide) ?_
        refine AllReady.cons rfl (fun K hK => ?_) (AllReady.cons rfl (fun K hK => ?_) (AllReady.nil))
        · go_simp
          refine (HSZ.out _).mono ?_
          rintro e w2 ⟨rfl, b2⟩
          obtain ⟨hc2, hf2⟩ := bcell b2
          (try simp only [dr_size, dr_cell] at hc2)
          (try simp only [dr_size, dr_frozen] at hf2)
          have hz2 := below_size b2
          (try simp at hz2)
          (try have z02 : w.heap.size < w2.heap.size := (by omega))
          (try have z12 : w.heap.size + 1 < w2.heap.size := (by omega))
          (try have z22 : w.heap.size + 1 + 1 < w2.heap.size := (by omega))
          (try have z32 : w.heap.size + 1 + 1 + 1 < w2.heap.size := (by omega))
          (try have yw12 : w1.heap.size < w2.heap.size := (by omega))
          dsimp only
          refine hK _ _ ?_
          clear hK K
          refine wpAny_ready (rs := [4]) (by kernel_rfl) (by decide) ?_
          refine AllReady.cons rfl (fun K hK => ?_) (AllReady.nil)
          go_simp
          refine hK _ _ ?_
          clear hK K
          refine wpAny_ready (rs := [5]) (by kernel_rfl) (by decide) ?_
          refine AllReady.cons rfl (fun K hK => ?_) (AllReady.nil)
          go_simp
          refine hK _ _ ?_
          clear hK K
          refine wpAny_ready (rs := [6]) (by kernel_rfl) (by decide) ?_
          refine AllReady.cons rfl (fun K hK => ?_) (AllReady.nil)
          go_simp
          refine (bneed_false _ _).mono ?_
          rintro e w3 ⟨rfl, rfl⟩
          go_simp
          (refine leaves_cons (f := 39) (args := #[.pointer (some ⟨w.heap.size + 1 + 1, 0, none⟩)]) (by simp) (by simp [go_sem]) ?_; refine (bcaught_panic (w.heap.size + 1 + 1) (1) 0 [] _ (BlkIs.one blk0)).mono ?_; rintro e u' w'' ⟨rfl, rfl, hch, hp⟩; have hp' : BlkIs w'' (w.heap.size + 1 + 1) 28 (· = #[.int .i64 (1)]) := ⟨_, hp, rfl⟩)
          have hd : BlkIs w'' (w.heap.size + 1) 25 (· = #[.int .i64 0, .int .i64 0, .bool false, .slice none 0 0, .int .i64 0]) := blk0
          exact ⟨.tuple #[.agg #[.int .i64 0, .int .i64 0, .bool false, .slice none 0 0, .int .i64 0], .int .i64 1], rresults (rs := [.cell 4 25, .cell 5 28]) rfl (by simp) (.cell (w.heap.size + 1) rfl (load_agg (t := 25) hd Tryz.underlying25 rfl (by kernel_rfl)) (.cell (w.heap.size + 1 + 1) rfl (load_one (t := 28) hp' (by kernel_rfl)) .nil)), .slice none 0 0, rfl, Kd.R_nil _ _ _ _ _, below_chg bel hch (by omega)⟩
        · go_simp
          refine hK _ _ ?_
          clear hK K
          refine wpAny_ready (rs := [1]) (by kernel_rfl) (by decide) ?_
          refine AllReady.cons rfl (fun K hK => ?_) (AllReady.nil)
          go_simp
          refine (HSZ.out _).mono ?_
          rintro e w2 ⟨rfl, b2⟩
          obtain ⟨hc2, hf2⟩ := bcell b2
          (try simp only [dr_size, dr_cell] at hc2)
          (try simp only [dr_size, dr_frozen] at hf2)
          have hz2 := below_size b2
          (try simp at hz2)
          (try have z02 : w.heap.size < w2.heap.size := (by omega))
          (try have z12 : w.heap.size + 1 < w2.heap.size := (by omega))
          (try have z22 : w.heap.size + 1 + 1 < w2.heap.size := (by omega))
          (try have z32 : w.heap.size + 1 + 1 + 1 < w2.heap.size := (by omega))
          (try have yw12 : w1.heap.size < w2.heap.size := (by omega))
          dsimp only
          refine hK _ _ ?_
          clear hK K
          refine wpAny_ready (rs := [5]) (by kernel_rfl) (by decide) ?_
          refine AllReady.cons rfl (fun K hK => ?_) (AllReady.nil)
          go_simp
          refine hK _ _ ?_
          clear hK K
          refine wpAny_ready (rs := [6]) (by kernel_rfl) (by decide) ?_
          refine AllReady.cons rfl (fun K hK => ?_) (AllReady.nil)
          go_simp
          refine (bneed_false _ _).mono ?_
          rintro e w3 ⟨rfl, rfl⟩
          go_simp
          (refine leaves_cons (f := 39) (args := #[.pointer (some ⟨w.heap.size + 1 + 1, 0, none⟩)]) (by simp) (by simp [go_sem]) ?_; refine (bcaught_panic (w.heap.size + 1 + 1) (1) 0 [] _ (BlkIs.one blk0)).mono ?_; rintro e u' w'' ⟨rfl, rfl, hch, hp⟩; have hp' : BlkIs w'' (w.heap.size + 1 + 1) 28 (· = #[.int .i64 (1)]) := ⟨_, hp, rfl⟩)
          have hd : BlkIs w'' (w.heap.size + 1) 25 (· = #[.int .i64 0, .int .i64 0, .bool false, .slice none 0 0, .int .i64 0]) := blk0
          exact ⟨.tuple #[.agg #[.int .i64 0, .int .i64 0, .bool false, .slice none 0 0, .int .i64 0], .int .i64 1], rresults (rs := [.cell 4 25, .cell 5 28]) rfl (by simp) (.cell (w.heap.size + 1) rfl (load_agg (t := 25) hd Tryz.underlying25 rfl (by kernel_rfl)) (.cell (w.heap.size + 1 + 1) rfl (load_one (t := 28) hp' (by kernel_rfl)) .nil)), .slice none 0 0, rfl, Kd.R_nil _ _ _ _ _, below_chg bel hch (by omega)⟩
      · go_simp
        refine hK _ _ ?_
        clear hK K
        refine wpAny_ready (rs := [0]) (by kernel_rfl) (by decide) ?_
        refine AllReady.cons rfl (fun K hK => ?_) (AllReady.nil)
        go_simp
        refine hK _ _ ?_
        clear hK K
        refine wpAny_ready (rs := [1]) (by kernel_rfl) (by decide) ?_
        refine AllReady.cons rfl (fun K hK => ?_) (AllReady.nil)
        go_simp
        refine (HSZ.out _).mono ?_
        rintro e w2 ⟨rfl, b2⟩
        obtain ⟨hc2, hf2⟩ := bcell b2
        (try simp only [dr_size, dr_cell] at hc2)
        (try simp only [dr_size, dr_frozen] at hf2)
        have hz2 := below_size b2
        (try simp at hz2)
        (try have z02 : w.heap.size < w2.heap.size := (by omega))
        (try have z12 : w.heap.size + 1 < w2.heap.size := (by omega))
        (try have z22 : w.heap.size + 1 + 1 < w2.heap.size := (by omega))
        (try have z32 : w.heap.size + 1 + 1 + 1 < w2.heap.size := (by omega))
        (try have yw12 : w1.heap.size < w2.heap.size := (by omega))
        dsimp only
        refine hK _ _ ?_
        clear hK K
        refine wpAny_ready (rs := [5]) (by kernel_rfl) (by decide) ?_
        refine AllReady.cons rfl (fun K hK => ?_) (AllReady.nil)
        go_simp
        refine hK _ _ ?_
        clear hK K
        refine wpAny_ready (rs := [6]) (by kernel_rfl) (by decide) ?_
        refine AllReady.cons rfl (fun K hK => ?_) (AllReady.nil)
        go_simp
        refine (bneed_false _ _).mono ?_
        rintro e w3 ⟨rfl, rfl⟩
        go_simp
        (refine leaves_cons (f := 39) (args := #[.pointer (some ⟨w.heap.size + 1 + 1, 0, none⟩)]) (by simp) (by simp [go_sem]) ?_; refine (bcaught_panic (w.heap.size + 1 + 1) (1) 0 [] _ (BlkIs.one blk0)).mono ?_; rintro e u' w'' ⟨rfl, rfl, hch, hp⟩; have hp' : BlkIs w'' (w.heap.size + 1 + 1) 28 (· = #[.int .i64 (1)]) := ⟨_, hp, rfl⟩)
        have hd : BlkIs w'' (w.heap.size + 1) 25 (· = #[.int .i64 0, .int .i64 0, .bool false, .slice none 0 0, .int .i64 0]) := blk0
        exact ⟨.tuple #[.agg #[.int .i64 0, .int .i64 0, .bool false, .slice none 0 0, .int .i64 0], .int .i64 1], rresults (rs := [.cell 4 25, .cell 5 28]) rfl (by simp) (.cell (w.heap.size + 1) rfl (load_agg (t := 25) hd Tryz.underlying25 rfl (by kernel_rfl)) (.cell (w.heap.size + 1 + 1) rfl (load_one (t := 28) hp' (by kernel_rfl)) .nil)), .slice none 0 0, rfl, Kd.R_nil _ _ _ _ _, below_chg bel hch (by omega)⟩

set_option maxHeartbeats 8000000 in
theorem decode_ok {N : Nat} {hi lo : Int} (f : Int) (w : World) (hw : Wd N hi lo) (hf : isFm f = true) (hN : N < 2 ^ (topN f + 1)) :
    Calls Tryz.prog 31 #[.int .i64 f, wV hi lo] w (DatumE f (decN f N).1 (decNeg f N) (ofN (decN f N).2.1) (decN f N).2.2 0 w) := by
  have HK := Lib.hid fun w' => kindOf_ok hf w'
  have HSZ := Lib.hid fun w' => wsize_any w' hw
  have HU := Lib.hid fun w' => unpack_core f w' hw hf hN
  obtain ⟨ww1, ww2⟩ := fmW_bd f
  have hW : fmW f = ((topN f + 1 : Nat) : Int) := by unfold topN; omega
  have hb : blen N ≤ topN f + 1 := blen_le.2 hN
  have hd : decide ((blen N : Int) ≤ fmW f) = true := decide_eq_true (by omega)
  generalize (decN f N).1 = cl at *
  generalize ofN (decN f N).2.1 = co at *
  generalize (decN f N).2.2 = ex at *
  generalize decNeg f N = ng at *
  unfold kV at HK HU
  clear hw hf hN hb hW ww1 ww2
  generalize blen N = z at *
  generalize fmD f = D at *
  generalize fmE f = E at *
  generalize fmL f = L at *
  generalize fmH f = H at *
  generalize fmW f = W at *
  go_enter_defers Tryz.func31, Tryz.ntmps31
  go_upto_region 4 with (first | (go_at_call 41; (with_reducible refine (HK.out _).mono ?_); rintro e w1 ⟨rfl, b1⟩; obtain ⟨hc1, hf1⟩ := bcell b1; (try simp only [dr_size, dr_cell] at hc1); (try simp only [dr_size, dr_frozen] at hf1); have hz1 := below_size b1; (try simp at hz1); (try have z01 : w.heap.size < w1.heap.size := (by omega)); (try have z11 : w.heap.size + 1 < w1.heap.size := (by omega)); (try have z21 : w.heap.size + 1 + 1 < w1.heap.size := (by omega)); (try have z31 : w.heap.size + 1 + 1 + 1 < w1.heap.size := (by omega))))
  go_cut [] from 8 to 24 (fun wc => BlkIs wc (w.heap.size + 1) 25 (· = #[.int .i64 0, .int .i64 0, .bool false, .slice none 0 0, .int .i64 0]) ∧ BlkIs wc (w.heap.size + 1 + 1) 28 (· = #[.int .i64 0]) ∧ BlkIs wc w1.heap.size 82 (· = #[.int .i64 D, .int .i64 E, .int .i64 L, .int .i64 H, .int .i64 W, .int .i64 f]) ∧ BlkIs wc (w1.heap.size + 1) 106 (· = #[.int .u64 hi, .int .u64 lo]) ∧ Below w.heap.size w wc)
  case first =>
    go_region_held3 (fun w' => Below ((w1.alloc (.cells #[.int .i64 D, .int .i64 E, .int .i64 L, .int .i64 H, .int .i64 W, .int .i64 f] 82)).alloc (.cells #[.int .u64 hi, .int .u64 lo] 106)).heap.size ((w1.alloc (.cells #[.int .i64 D, .int .i64 E, .int .i64 L, .int .i64 H, .int .i64 W, .int .i64 f] 82)).alloc (.cells #[.int .u64 hi, .int .u64 lo] 106)) w' ∧ ∀ b o, b < ((w1.alloc (.cells #[.int .i64 D, .int .i64 E, .int .i64 L, .int .i64 H, .int .i64 W, .int .i64 f] 82)).alloc (.cells #[.int .u64 hi, .int .u64 lo] 106)).heap.size → w'.cell? ⟨b, o, none⟩ = ((w1.alloc (.cells #[.int .i64 D, .int .i64 E, .int .i64 L, .int .i64 H, .int .i64 W, .int .i64 f] 82)).alloc (.cells #[.int .u64 hi, .int .u64 lo] 106)).cell? ⟨b, o, none⟩) (first | ((try go_split_ands); refine below_S ?_; ((repeat (first | with_reducible assumption | with_reducible exact Below.refl _ _ | with_reducible refine below_alloc ?_ _ | with_reducible refine pw_below_drewN ?_ _ | with_reducible refine below_drew1 ?_ | ((with_reducible refine below_set ?_ ?hle); (case hle => first | (simp; done) | omega | (simp; omega))) | with_reducible refine below_step ?_ (by with_reducible assumption))); done))) (first | (go_at_call 73; (with_reducible refine (HSZ.out _).mono ?_); rintro e w2 ⟨rfl, b2⟩; obtain ⟨hc2, hf2⟩ := bcell b2; (try simp only [dr_size, dr_cell] at hc2); (try simp only [dr_size, dr_frozen] at hf2); have hz2 := below_size b2; (try simp at hz2); (try have z02 : w.heap.size < w2.heap.size := (by omega)); (try have z12 : w.heap.size + 1 < w2.heap.size := (by omega)); (try have z22 : w.heap.size + 1 + 1 < w2.heap.size := (by omega)); (try have z32 : w.heap.size + 1 + 1 + 1 < w2.heap.size := (by omega)); (try have yw12 : w1.heap.size < w2.heap.size := (by omega))) | (go_at_call 40; (with_reducible refine (bneed_true _ _).mono ?_); rintro e w9 ⟨rfl, rfl⟩))
    all_goals
      go_wp2_with fail
      go_meet
      exact ⟨blk0, blk0, blk0, blk0, bel⟩
  case rest =>
    obtain ⟨HBD, HBE, HBK, HBW, hbw⟩ := hcut
    have HBEh := Lib.hid HBE
    have HBDh := Lib.hid HBD
    obtain ⟨csk, hbkk, rfl⟩ := HBK
    obtain ⟨csw, hbkw, rfl⟩ := HBW
    obtain ⟨csd, hbkd, rfl⟩ := HBD
    obtain ⟨cse, hbke, rfl⟩ := HBE
    have k0 : wc.cell? ⟨w1.heap.size, 0, none⟩ = some (.int .i64 D) := by simpa using blk_cell hbkk 0
    have k1 : wc.cell? ⟨w1.heap.size, 1, none⟩ = some (.int .i64 E) := by simpa using blk_cell hbkk 1
    have k2 : wc.cell? ⟨w1.heap.size, 2, none⟩ = some (.int .i64 L) := by simpa using blk_cell hbkk 2
    have k3 : wc.cell? ⟨w1.heap.size, 3, none⟩ = some (.int .i64 H) := by simpa using blk_cell hbkk 3
    have k4 : wc.cell? ⟨w1.heap.size, 4, none⟩ = some (.int .i64 W) := by simpa using blk_cell hbkk 4
    have k5 : wc.cell? ⟨w1.heap.size, 5, none⟩ = some (.int .i64 f) := by simpa using blk_cell hbkk 5
    have kz : w1.heap.size < wc.heap.size := blk_lt hbkk
    have u0 : wc.cell? ⟨w1.heap.size + 1, 0, none⟩ = some (.int .u64 hi) := by simpa using blk_cell hbkw 0
    have u1 : wc.cell? ⟨w1.heap.size + 1, 1, none⟩ = some (.int .u64 lo) := by simpa using blk_cell hbkw 1
    have uz : w1.heap.size + 1 < wc.heap.size := blk_lt hbkw
    have d0 : wc.cell? ⟨w.heap.size + 1, 0, none⟩ = some (.int .i64 0) := by simpa using blk_cell hbkd 0
    have df0 : wc.frozen? ⟨w.heap.size + 1, 0, none⟩ = false := blk_frozen hbkd 0
    have d1 : wc.cell? ⟨w.heap.size + 1, 1, none⟩ = some (.int .i64 0) := by simpa using blk_cell hbkd 1
    have df1 : wc.frozen? ⟨w.heap.size + 1, 1, none⟩ = false := blk_frozen hbkd 1
    have d2 : wc.cell? ⟨w.heap.size + 1, 2, none⟩ = some (.bool false) := by simpa using blk_cell hbkd 2
    have df2 : wc.frozen? ⟨w.heap.size + 1, 2, none⟩ = false := blk_frozen hbkd 2
    have d3 : wc.cell? ⟨w.heap.size + 1, 3, none⟩ = some (.slice none 0 0) := by simpa using blk_cell hbkd 3
    have df3 : wc.frozen? ⟨w.heap.size + 1, 3, none⟩ = false := blk_frozen hbkd 3
    have d4 : wc.cell? ⟨w.heap.size + 1, 4, none⟩ = some (.int .i64 0) := by simpa using blk_cell hbkd 4
    have df4 : wc.frozen? ⟨w.heap.size + 1, 4, none⟩ = false := blk_frozen hbkd 4
    have dz : w.heap.size + 1 < wc.heap.size := blk_lt hbkd
    have e0 : wc.cell? ⟨w.heap.size + 1 + 1, 0, none⟩ = some (.int .i64 0) := by simpa using blk_cell hbke 0
    have ef0 : wc.frozen? ⟨w.heap.size + 1 + 1, 0, none⟩ = false := blk_frozen hbke 0
    have ez : w.heap.size + 1 + 1 < wc.heap.size := blk_lt hbke
    have HDr := Lib.hid hbkd
    have HEr := Lib.hid hbke
    clear hbkk hbkw hbkd hbke
    go_wp2_with (first | (go_at_call 74; (with_reducible refine (HU.out _).mono ?_); rintro e w4 ⟨v4, rfl, hv4, b4⟩; obtain ⟨A4, c4, rfl⟩ := Kd.R_slice hv4; have HV4 := Lib.hid hv4; clear hv4; obtain ⟨hc4, hf4⟩ := bcell b4; (try simp only [dr_size, dr_cell] at hc4); (try simp only [dr_size, dr_frozen] at hf4); have hz4 := below_size b4; (try simp at hz4); (try have z04 : w.heap.size < w4.heap.size := (by omega)); (try have z14 : w.heap.size + 1 < w4.heap.size := (by omega)); (try have z24 : w.heap.size + 1 + 1 < w4.heap.size := (by omega)); (try have z34 : w.heap.size + 1 + 1 + 1 < w4.heap.size := (by omega)); (try have yw14 : w1.heap.size < w4.heap.size := (by omega)); (try have yw24 : w2.heap.size < w4.heap.size := (by omega))))
    have hbkd := HDr.out
    have hbke := HEr.out
    (refine leaves_cons (f := 39) (args := #[.pointer (some ⟨w.heap.size + 1 + 1, 0, none⟩)]) (by simp) (by simp [go_sem]) ?_; refine (bcaught_idle _ _).mono ?_; rintro e u' w'' ⟨rfl, rfl, rfl⟩)
    exact ⟨.tuple #[.agg #[.int .i64 f, .int .i64 cl, .bool ng, .slice A4 co.length c4, .int .i64 ex], .int .i64 0], rresults (rs := [.cell 4 25, .cell 5 28]) rfl (by simp) (.cell (w.heap.size + 1) rfl (load_agg (t := 25) blk1 Tryz.underlying25 rfl (by kernel_rfl)) (.cell (w.heap.size + 1 + 1) rfl (load_one (t := 28) blk1 (by kernel_rfl)) .nil)), _, rfl, Kd.R_lower (R_chg (S := fun k => k = w.heap.size + 1 ∨ k = w.heap.size + 1 + 1) HV4.out chg2 (by intro k hk; (try simp at hk ⊢); omega)) (by first | omega | (simp; omega)), bel⟩
end Go.Proofs.YtacnkcojhlbkoaaGreatDoor

set_option linter.unusedSimpArgs false
set_option linter.unusedVariables false
set_option linter.unnecessarySimpa false
namespace Go.Proofs.YtacnkcojhlbkoaaGreatDoor
open Go.RowKit Go.Proofs.YtacnkcojhlbkoaaGreatDoorW.PrintWords Go.Proofs.YtacnkcojhlbkoaaGreatDoorW.PrintLast Go.Proofs.YtacnkcojhlbkoaaGreatDoorW.PrintMore Go.Proofs.YtacnkcojhlbkoaaGreatDoor.NL
set_option maxRecDepth 100000
set_option exponentiation.threshold 33000

set_option maxHeartbeats 2000000 in
theorem power_any (s : Nat) (w : World) (hs : s ≤ 1000) : Calls Tryz.prog 50 #[.int .i64 (s : Nat)] w (NewRow w (ofN (2 ^ s))) := by
  have HS : Hid (∀ w' A, Kd.C (Kd.int .u32) w' A 1 [1] → Calls Tryz.prog 76 #[.slice A 1 1, .int .i64 (s : Nat)] w' (NumErr (ofN (2 ^ s)) 0 w')) := Lib.hid fun w' A hC => by
    have h := nShl_any (s : Nat) w' hC (by intro x hx; simp at hx; omega) (Nat.le_refl 1)
    unfold natShl at h
    have h1 : okN [1] = true := okN_iff.2 ⟨by decide, by decide⟩
    rw [h1] at h
    have h2 : decide ((0 : Int) ≤ (s : Nat)) = true := by simp
    rw [h2] at h
    have h3 : (ofN (2 ^ s)).length ≤ 1024 := by
      refine Nat.le_trans (len_ofN_le (k := 32) ?_) (by omega)
      rw [show (4294967296 : Nat) = 2 ^ 32 from rfl, ← Nat.pow_mul]
      exact Nat.pow_lt_pow_right (by omega) (by omega)
    have h4 : val [1] * 2 ^ ((s : Nat) : Int).toNat = 2 ^ s := by simp [val]
    simp only [Bool.and_true, if_true] at h
    rw [if_neg (by simp), if_pos (by omega)] at h
    unfold numOut at h
    simp only [if_true] at h
    rw [h4, if_pos h3] at h
    exact h
  have HR : Hid (Kd.C (Kd.int .u32) (w.alloc (.cells #[.int .u32 1] 40)) (some ⟨w.heap.size, 0, none⟩) 1 [1]) := Lib.hid (R_C (R_fresh w w.heap.size rfl [1] #[.int .u32 1] rfl 1 rfl (Nat.le_refl _) (by decide))).1
  go_enter Tryz.func50, Tryz.ntmps50
  go_wp2_with (go_at_call 76; (with_reducible refine (HS.out _ _ HR.out).mono ?_); rintro e w1 ⟨v1, rfl, hv1, b1⟩; obtain ⟨A1, c1, rfl⟩ := Kd.R_slice hv1; have HV := Lib.hid hv1; clear hv1; have hz1 := below_size b1; (try simp at hz1))
  go_ret
  exact ⟨_, rfl, Kd.R_lower HV.out (by simp), bel⟩

end Go.Proofs.YtacnkcojhlbkoaaGreatDoor
