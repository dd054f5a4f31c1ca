/- binary: Value. -/
import Derived.Test.YtacnkcojhlbkoaaGreatDoorJVal14
import Derived.Test.YtacnkcojhlbkoaaGreatDoorJVal10
set_option linter.unusedSimpArgs false
set_option linter.unusedVariables false
set_option linter.unnecessarySimpa false
namespace Go.Proofs.YtacnkcojhlbkoaaGreatDoor
open Go.RowKit Go.Proofs.YtacnkcojhlbkoaaGreatDoorW.PrintWords Go.Proofs.YtacnkcojhlbkoaaGreatDoorW.PrintLast Go.Proofs.YtacnkcojhlbkoaaGreatDoorW.PrintMore Go.Proofs.YtacnkcojhlbkoaaGreatDoor.NL
set_option maxRecDepth 100000
set_option exponentiation.threshold 33000

/-- A number and an error. -/
def DyadE (ng : Bool) (a : List Int) (ex er : Int) (w : World) (e : Ending) (w' : World) : Prop := ∃ v, e = .returned (.tuple #[.agg #[.bool ng, v, .int .i64 ex], .int .i64 er]) ∧ Kd.R (Kd.int .u32) 40 w' w.heap.size (fun _ => True) v a ∧ Below w.heap.size w w'
abbrev Y0P (er : Int) := DyadE false [] 0 er
set_option maxHeartbeats 4000000 in
theorem value_no {f cl ex : Int} {ng : Bool} {A : Option Addr} {n c : Nat} {a : List Int} (w : World) (hf : isFm f = false) : Calls Tryz.prog 21 #[dV f cl ng A n c ex] w (Y0P 1 w) := by
  have HK := Lib.hid fun w' => kindOf_no hf w'
  clear hf
  go_enter_defers Tryz.func21, Tryz.ntmps21
  go_upto_region 2 with fail
  refine region_any (by kernel_rfl) ?_
  refine wpAny_ready (rs := [0, 3]) (by kernel_rfl) (by decide) ?_
  refine AllReady.cons rfl (fun K hK => ?_) (AllReady.cons rfl (fun K hK => ?_) (AllReady.nil))
  · go_simp
    refine hK _ _ ?_
    clear hK K
    refine wpAny_ready (rs := [1, 3]) (by kernel_rfl) (by decide) ?_
    refine AllReady.cons rfl (fun K hK => ?_) (AllReady.cons rfl (fun K hK => ?_) (AllReady.nil))
    · go_simp
      refine hK _ _ ?_
      clear hK K
      refine wpAny_ready (rs := [2, 3]) (by kernel_rfl) (by decide) ?_
      refine AllReady.cons rfl (fun K hK => ?_) (AllReady.cons rfl (fun K hK => ?_) (AllReady.nil))
      · go_simp
        refine (HK.out _).mono ?_
        rintro e w1 ⟨rfl, b1⟩
        go_simp
        (refine leaves_cons (f := 39) (args := #[.pointer (some ⟨w.heap.size + 1 + 1, 0, none⟩)]) (by simp) (by simp [go_sem]) ?_; refine (bcaught_panic (w.heap.size + 1 + 1) (1) 0 [] _ (BlkIs.one blk0)).mono ?_; rintro e u' w'' ⟨rfl, rfl, hch, hp⟩; have hp' : BlkIs w'' (w.heap.size + 1 + 1) 28 (· = #[.int .i64 (1)]) := ⟨_, hp, rfl⟩)
        have hd : BlkIs w'' (w.heap.size + 1) 50 (· = #[.bool false, .slice none 0 0, .int .i64 0]) := blk0
        exact ⟨.tuple #[.agg #[.bool false, .slice none 0 0, .int .i64 0], .int .i64 1], rresults (rs := [.cell 2 50, .cell 3 28]) rfl (by simp) (.cell (w.heap.size + 1) rfl (load_agg (t := 50) hd Tryz.underlying50 rfl (by kernel_rfl)) (.cell (w.heap.size + 1 + 1) rfl (load_one (t := 28) hp' (by kernel_rfl)) .nil)), .slice none 0 0, rfl, Kd.R_nil _ _ _ _ _, below_chg bel hch (by omega)⟩
      · go_simp
        refine hK _ _ ?_
        clear hK K
        refine wpAny_ready (rs := [2]) (by kernel_rfl) (by decide) ?_
        refine AllReady.cons rfl (fun K hK => ?_) (AllReady.nil)
        go_simp
        refine (HK.out _).mono ?_
        rintro e w1 ⟨rfl, b1⟩
        go_simp
        (refine leaves_cons (f := 39) (args := #[.pointer (some ⟨w.heap.size + 1 + 1, 0, none⟩)]) (by simp) (by simp [go_sem]) ?_; refine (bcaught_panic (w.heap.size + 1 + 1) (1) 0 [] _ (BlkIs.one blk0)).mono ?_; rintro e u' w'' ⟨rfl, rfl, hch, hp⟩; have hp' : BlkIs w'' (w.heap.size + 1 + 1) 28 (· = #[.int .i64 (1)]) := ⟨_, hp, rfl⟩)
        have hd : BlkIs w'' (w.heap.size + 1) 50 (· = #[.bool false, .slice none 0 0, .int .i64 0]) := blk0
        exact ⟨.tuple #[.agg #[.bool false, .slice none 0 0, .int .i64 0], .int .i64 1], rresults (rs := [.cell 2 50, .cell 3 28]) rfl (by simp) (.cell (w.heap.size + 1) rfl (load_agg (t := 50) hd Tryz.underlying50 rfl (by kernel_rfl)) (.cell (w.heap.size + 1 + 1) rfl (load_one (t := 28) hp' (by kernel_rfl)) .nil)), .slice none 0 0, rfl, Kd.R_nil _ _ _ _ _, below_chg bel hch (by omega)⟩
    · go_simp
      refine hK _ _ ?_
      clear hK K
      refine wpAny_ready (rs := [1]) (by kernel_rfl) (by decide) ?_
      refine AllReady.cons rfl (fun K hK => ?_) (AllReady.nil)
      go_simp
      refine hK _ _ ?_
      clear hK K
      refine wpAny_ready (rs := [2]) (by kernel_rfl) (by decide) ?_
      refine AllReady.cons rfl (fun K hK => ?_) (AllReady.nil)
      go_simp
      refine (HK.out _).mono ?_
      rintro e w1 ⟨rfl, b1⟩
      go_simp
      (refine leaves_cons (f := 39) (args := #[.pointer (some ⟨w.heap.size + 1 + 1, 0, none⟩)]) (by simp) (by simp [go_sem]) ?_; refine (bcaught_panic (w.heap.size + 1 + 1) (1) 0 [] _ (BlkIs.one blk0)).mono ?_; rintro e u' w'' ⟨rfl, rfl, hch, hp⟩; have hp' : BlkIs w'' (w.heap.size + 1 + 1) 28 (· = #[.int .i64 (1)]) := ⟨_, hp, rfl⟩)
      have hd : BlkIs w'' (w.heap.size + 1) 50 (· = #[.bool false, .slice none 0 0, .int .i64 0]) := blk0
      exact ⟨.tuple #[.agg #[.bool false, .slice none 0 0, .int .i64 0], .int .i64 1], rresults (rs := [.cell 2 50, .cell 3 28]) rfl (by simp) (.cell (w.heap.size + 1) rfl (load_agg (t := 50) hd Tryz.underlying50 rfl (by kernel_rfl)) (.cell (w.heap.size + 1 + 1) rfl (load_one (t := 28) hp' (by kernel_rfl)) .nil)), .slice none 0 0, rfl, Kd.R_nil _ _ _ _ _, below_chg bel hch (by omega)⟩
  · go_simp
    refine hK _ _ ?_
    clear hK K
    refine wpAny_ready (rs := [0]) (by kernel_rfl) (by decide) ?_
    refine AllReady.cons rfl (fun K hK => ?_) (AllReady.nil)
    go_simp
    refine hK _ _ ?_
    clear hK K
    refine wpAny_ready (rs := [1]) (by kernel_rfl) (by decide) ?_
    refine AllReady.cons rfl (fun K hK => ?_) (AllReady.nil)
    go_simp
    refine hK _ _ ?_
    clear hK K
    refine wpAny_ready (rs := [2]) (by kernel_rfl) (by decide) ?_
    refine AllReady.cons rfl (fun K hK => ?_) (AllReady.nil)
    go_simp
    refine (HK.out _).mono ?_
    rintro e w1 ⟨rfl, b1⟩
    go_simp
    (refine leaves_cons (f := 39) (args := #[.pointer (some ⟨w.heap.size + 1 + 1, 0, none⟩)]) (by simp) (by simp [go_sem]) ?_; refine (bcaught_panic (w.heap.size + 1 + 1) (1) 0 [] _ (BlkIs.one blk0)).mono ?_; rintro e u' w'' ⟨rfl, rfl, hch, hp⟩; have hp' : BlkIs w'' (w.heap.size + 1 + 1) 28 (· = #[.int .i64 (1)]) := ⟨_, hp, rfl⟩)
    have hd : BlkIs w'' (w.heap.size + 1) 50 (· = #[.bool false, .slice none 0 0, .int .i64 0]) := blk0
    exact ⟨.tuple #[.agg #[.bool false, .slice none 0 0, .int .i64 0], .int .i64 1], rresults (rs := [.cell 2 50, .cell 3 28]) rfl (by simp) (.cell (w.heap.size + 1) rfl (load_agg (t := 50) hd Tryz.underlying50 rfl (by kernel_rfl)) (.cell (w.heap.size + 1 + 1) rfl (load_one (t := 28) hp' (by kernel_rfl)) .nil)), .slice none 0 0, rfl, Kd.R_nil _ _ _ _ _, below_chg bel hch (by omega)⟩

set_option maxHeartbeats 8000000 in
theorem value_bad {f cl ex : Int} {ng : Bool} {A : Option Addr} {n c : Nat} {a : List Int} (w : World) (hf : isFm f = true) (hA : Kd.C (Kd.int .u32) w A n a) (la : Lim a) (hc : n ≤ c) (hh : hasB f cl a ex = false) : Calls Tryz.prog 21 #[dV f cl ng A n c ex] w (Y0P 1 w) := by
  have HK := Lib.hid fun w' => kindOf_ok hf w'
  have HH := has_hid (f := f) (cl := cl) (ng := ng) (ex := ex) hA la hc
  rw [hh] at HH
  clear hA hh hf
  unfold kV at *
  generalize fmD f = D at *
  generalize fmE f = E at *
  generalize fmL f = L at *
  generalize fmH f = H at *
  generalize fmW f = W at *
  go_enter_defers Tryz.func21, Tryz.ntmps21
  go_upto_region 2 with fail
  refine region_any (by kernel_rfl) ?_
  refine wpAny_ready (rs := [0, 3]) (by kernel_rfl) (by decide) ?_
  refine AllReady.cons rfl (fun K hK => ?_) (AllReady.cons rfl (fun K hK => ?_) (AllReady.nil))
  · go_simp
    refine hK _ _ ?_
    clear hK K
    refine wpAny_ready (rs := [1, 3]) (by kernel_rfl) (by decide) ?_
    refine AllReady.cons rfl (fun K hK => ?_) (AllReady.cons rfl (fun K hK => ?_) (AllReady.nil))
    · go_simp
      refine hK _ _ ?_
      clear hK K
      refine wpAny_ready (rs := [2, 3]) (by kernel_rfl) (by decide) ?_
      refine AllReady.cons rfl (fun K hK => ?_) (AllReady.cons rfl (fun K hK => ?_) (AllReady.nil))
      · go_simp
        refine (HK.out _).mono ?_
        rintro e w1 ⟨rfl, b1⟩
        obtain ⟨hc1, hf1⟩ := bcell b1
        (try simp only [dr_size, dr_cell] at hc1)
        (try simp only [dr_size, dr_frozen] at hf1)
        have hz1 := below_size b1
        (try simp at hz1)
        (try have z01 : w.heap.size < w1.heap.size := (by omega))
        (try have z11 : w.heap.size + 1 < w1.heap.size := (by omega))
        (try have z21 : w.heap.size + 1 + 1 < w1.heap.size := (by omega))
        (try have z31 : w.heap.size + 1 + 1 + 1 < w1.heap.size := (by omega))
        dsimp only
        refine hK _ _ ?_
        clear hK K
        refine wpAny_ready (rs := [3]) (by kernel_rfl) (by decide) ?_
        refine AllReady.cons rfl (fun K hK => ?_) (AllReady.nil)
        go_simp
        refine hK _ _ ?_
        clear hK K
        refine wpAny_ready (rs := [4]) (by kernel_rfl) (by decide) ?_
        refine AllReady.cons rfl (fun K hK => ?_) (AllReady.nil)
        go_simp
        refine (HH.out _ bel).mono ?_
        rintro e w2 ⟨rfl, b2⟩
        dsimp only
        refine hK _ _ ?_
        clear hK K
        refine wpAny_ready (rs := [5]) (by kernel_rfl) (by decide) ?_
        refine AllReady.cons rfl (fun K hK => ?_) (AllReady.nil)
        go_simp
        refine (bneed_false _ _).mono ?_
        rintro e w3 ⟨rfl, rfl⟩
        go_simp
        (refine leaves_cons (f := 39) (args := #[.pointer (some ⟨w.heap.size + 1 + 1, 0, none⟩)]) (by simp) (by simp [go_sem]) ?_; refine (bcaught_panic (w.heap.size + 1 + 1) (1) 0 [] _ (BlkIs.one blk0)).mono ?_; rintro e u' w'' ⟨rfl, rfl, hch, hp⟩; have hp' : BlkIs w'' (w.heap.size + 1 + 1) 28 (· = #[.int .i64 (1)]) := ⟨_, hp, rfl⟩)
        have hd : BlkIs w'' (w.heap.size + 1) 50 (· = #[.bool false, .slice none 0 0, .int .i64 0]) := blk0
        exact ⟨.tuple #[.agg #[.bool false, .slice none 0 0, .int .i64 0], .int .i64 1], rresults (rs := [.cell 2 50, .cell 3 28]) rfl (by simp) (.cell (w.heap.size + 1) rfl (load_agg (t := 50) hd Tryz.underlying50 rfl (by kernel_rfl)) (.cell (w.heap.size + 1 + 1) rfl (load_one (t := 28) hp' (by kernel_rfl)) .nil)), .slice none 0 0, rfl, Kd.R_nil _ _ _ _ _, below_chg bel hch (by omega)⟩
      · go_simp
        refine hK _ _ ?_
        clear hK K
        refine wpAny_ready (rs := [2]) (by kernel_rfl) (by decide) ?_
        refine AllReady.cons rfl (fun K hK => ?_) (AllReady.nil)
        go_simp
        refine (HK.out _).mono ?_
        rintro e w1 ⟨rfl, b1⟩
        obtain ⟨hc1, hf1⟩ := bcell b1
        (try simp only [dr_size, dr_cell] at hc1)
        (try simp only [dr_size, dr_frozen] at hf1)
        have hz1 := below_size b1
        (try simp at hz1)
        (try have z01 : w.heap.size < w1.heap.size := (by omega))
        (try have z11 : w.heap.size + 1 < w1.heap.size := (by omega))
        (try have z21 : w.heap.size + 1 + 1 < w1.heap.size := (by omega))
        (try have z31 : w.heap.size + 1 + 1 + 1 < w1.heap.size := (by omega))
        dsimp only
        refine hK _ _ ?_
        clear hK K
        refine wpAny_ready (rs := [4]) (by kernel_rfl) (by decide) ?_
        refine AllReady.cons rfl (fun K hK => ?_) (AllReady.nil)
        go_simp
        refine (HH.out _ bel).mono ?_
        rintro e w2 ⟨rfl, b2⟩
        dsimp only
        refine hK _ _ ?_
        clear hK K
        refine wpAny_ready (rs := [5]) (by kernel_rfl) (by decide) ?_
        refine AllReady.cons rfl (fun K hK => ?_) (AllReady.nil)
        go_simp
        refine (bneed_false _ _).mono ?_
        rintro e w3 ⟨rfl, rfl⟩
        go_simp
        (refine leaves_cons (f := 39) (args := #[.pointer (some ⟨w.heap.size + 1 + 1, 0, none⟩)]) (by simp) (by simp [go_sem]) ?_; refine (bcaught_panic (w.heap.size + 1 + 1) (1) 0 [] _ (BlkIs.one blk0)).mono ?_; rintro e u' w'' ⟨rfl, rfl, hch, hp⟩; have hp' : BlkIs w'' (w.heap.size + 1 + 1) 28 (· = #[.int .i64 (1)]) := ⟨_, hp, rfl⟩)
        have hd : BlkIs w'' (w.heap.size + 1) 50 (· = #[.bool false, .slice none 0 0, .int .i64 0]) := blk0
        exact ⟨.tuple #[.agg #[.bool false, .slice none 0 0, .int .i64 0], .int .i64 1], rresults (rs := [.cell 2 50, .cell 3 28]) rfl (by simp) (.cell (w.heap.size + 1) rfl (load_agg (t := 50) hd Tryz.underlying50 rfl (by kernel_rfl)) (.cell (w.heap.size + 1 + 1) rfl (load_one (t := 28) hp' (by kernel_rfl)) .nil)), .slice none 0 0, rfl, Kd.R_nil _ _ _ _ _, below_chg bel hch (by omega)⟩
    · go_simp
      refine hK _ _ ?_
      clear hK K
      refine wpAny_ready (rs := [1]) (by kernel_rfl) (by decide) ?_
      refine AllReady.cons rfl (fun K hK => ?_) (AllReady.nil)
      go_simp
      refine hK _ _ ?_
      clear hK K
      refine wpAny_ready (rs := [2]) (by kernel_rfl) (by decide) ?_
      refine AllReady.cons rfl (fun K hK => ?_) (AllReady.nil)
      go_simp
      refine (HK.out _).mono ?_
      rintro e w1 ⟨rfl, b1⟩
      obtain ⟨hc1, hf1⟩ := bcell b1
      (try simp only [dr_size, dr_cell] at hc1)
      (try simp only [dr_size, dr_frozen] at hf1)
      have hz1 := below_size b1
      (try simp at hz1)
      (try have z01 : w.heap.size < w1.heap.size := (by omega))
      (try have z11 : w.heap.size + 1 < w1.heap.size := (by omega))
      (try have z21 : w.heap.size + 1 + 1 < w1.heap.size := (by omega))
      (try have z31 : w.heap.size + 1 + 1 + 1 < w1.heap.size := (by omega))
      dsimp only
      refine hK _ _ ?_
      clear hK K
      refine wpAny_ready (rs := [4]) (by kernel_rfl) (by decide) ?_
      refine AllReady.cons rfl (fun K hK => ?_) (AllReady.nil)
      go_simp
      refine (HH.out _ bel).mono ?_
      rintro e w2 ⟨rfl, b2⟩
      dsimp only
      refine hK _ _ ?_
      clear hK K
      refine wpAny_ready (rs := [5]) (by kernel_rfl) (by decide) ?_
      refine AllReady.cons rfl (fun K hK => ?_) (AllReady.nil)
      go_simp
      refine (bneed_false _ _).mono ?_
      rintro e w3 ⟨rfl, rfl⟩
      go_simp
      (refine leaves_cons (f := 39) (args := #[.pointer (some ⟨w.heap.size + 1 + 1, 0, none⟩)]) (by simp) (by simp [go_sem]) ?_; refine (bcaught_panic (w.heap.size + 1 + 1) (1) 0 [] _ (BlkIs.one blk0)).mono ?_; rintro e u' w'' ⟨rfl, rfl, hch, hp⟩; have hp' : BlkIs w'' (w.heap.size + 1 + 1) 28 (· = #[.int .i64 (1)]) := ⟨_, hp, rfl⟩)
      have hd : BlkIs w'' (w.heap.size + 1) 50 (· = #[.bool false, .slice none 0 0, .int .i64 0]) := blk0
      exact ⟨.tuple #[.agg #[.bool false, .slice none 0 0, .int .i64 0], .int .i64 1], rresults (rs := [.cell 2 50, .cell 3 28]) rfl (by simp) (.cell (w.heap.size + 1) rfl (load_agg (t := 50) hd Tryz.underlying50 rfl (by kernel_rfl)) (.cell (w.heap.size + 1 + 1) rfl (load_one (t := 28) hp' (by kernel_rfl)) .nil)), .slice none 0 0, rfl, Kd.R_nil _ _ _ _ _, below_chg bel hch (by omega)⟩
  · go_simp
    refine hK _ _ ?_
    clear hK K
    refine wpAny_ready (rs := [0]) (by kernel_rfl) (by decide) ?_
    refine AllReady.cons rfl (fun K hK => ?_) (AllReady.nil)
    go_simp
    refine hK _ _ ?_
    clear hK K
    refine wpAny_ready (rs := [1]) (by kernel_rfl) (by decide) ?_
    refine AllReady.cons rfl (fun K hK => ?_) (AllReady.nil)
    go_simp
    refine hK _ _ ?_
    clear hK K
    refine wpAny_ready (rs := [2]) (by kernel_rfl) (by decide) ?_
    refine AllReady.cons rfl (fun K hK => ?_) (AllReady.nil)
    go_simp
    refine (HK.out _).mono ?_
    rintro e w1 ⟨rfl, b1⟩
    obtain ⟨hc1, hf1⟩ := bcell b1
    (try simp only [dr_size, dr_cell] at hc1)
    (try simp only [dr_size, dr_frozen] at hf1)
    have hz1 := below_size b1
    (try simp at hz1)
    (try have z01 : w.heap.size < w1.heap.size := (by omega))
    (try have z11 : w.heap.size + 1 < w1.heap.size := (by omega))
    (try have z21 : w.heap.size + 1 + 1 < w1.heap.size := (by omega))
    (try have z31 : w.heap.size + 1 + 1 + 1 < w1.heap.size := (by omega))
    dsimp only
    refine hK _ _ ?_
    clear hK K
    refine wpAny_ready (rs := [4]) (by kernel_rfl) (by decide) ?_
    refine AllReady.cons rfl (fun K hK => ?_) (AllReady.nil)
    go_simp
    refine (HH.out _ bel).mono ?_
    rintro e w2 ⟨rfl, b2⟩
    dsimp only
    refine hK _ _ ?_
    clear hK K
    refine wpAny_ready (rs := [5]) (by kernel_rfl) (by decide) ?_
    refine AllReady.cons rfl (fun K hK => ?_) (AllReady.nil)
    go_simp
    refine (bneed_false _ _).mono ?_
    rintro e w3 ⟨rfl, rfl⟩
    go_simp
    (refine leaves_cons (f := 39) (args := #[.pointer (some ⟨w.heap.size + 1 + 1, 0, none⟩)]) (by simp) (by simp [go_sem]) ?_; refine (bcaught_panic (w.heap.size + 1 + 1) (1) 0 [] _ (BlkIs.one blk0)).mono ?_; rintro e u' w'' ⟨rfl, rfl, hch, hp⟩; have hp' : BlkIs w'' (w.heap.size + 1 + 1) 28 (· = #[.int .i64 (1)]) := ⟨_, hp, rfl⟩)
    have hd : BlkIs w'' (w.heap.size + 1) 50 (· = #[.bool false, .slice none 0 0, .int .i64 0]) := blk0
    exact ⟨.tuple #[.agg #[.bool false, .slice none 0 0, .int .i64 0], .int .i64 1], rresults (rs := [.cell 2 50, .cell 3 28]) rfl (by simp) (.cell (w.heap.size + 1) rfl (load_agg (t := 50) hd Tryz.underlying50 rfl (by kernel_rfl)) (.cell (w.heap.size + 1 + 1) rfl (load_one (t := 28) hp' (by kernel_rfl)) .nil)), .slice none 0 0, rfl, Kd.R_nil _ _ _ _ _, below_chg bel hch (by omega)⟩

set_option maxHeartbeats 8000000 in
theorem value_cls {f cl ex : Int} {ng : Bool} {A : Option Addr} {n c : Nat} {a : List Int} (w : World) (hf : isFm f = true) (hA : Kd.C (Kd.int .u32) w A n a) (la : Lim a) (hc : n ≤ c) (hh : hasB f cl a ex = true) (c1 : cl ≠ 1) : Calls Tryz.prog 21 #[dV f cl ng A n c ex] w (Y0P 5 w) := by
  have HK := Lib.hid fun w' => kindOf_ok hf w'
  have HH := has_hid (f := f) (cl := cl) (ng := ng) (ex := ex) hA la hc
  rw [hh] at HH
  have t0 : (cl == 1) = false := by simpa using c1
  clear hA hh hf c1
  unfold kV at *
  generalize fmD f = D at *
  generalize fmE f = E at *
  generalize fmL f = L at *
  generalize fmH f = H at *
  generalize fmW f = W at *
  go_enter_defers Tryz.func21, Tryz.ntmps21
  go_upto_region 2 with fail
  go_cut [] from 8 to 44 (fun wc => BlkIs wc w.heap.size 25 (· = #[.int .i64 f, .int .i64 cl, .bool ng, .slice A n c, .int .i64 ex]) ∧ BlkIs wc (w.heap.size + 1) 50 (· = #[.bool false, .slice none 0 0, .int .i64 0]) ∧ BlkIs wc (w.heap.size + 1 + 1) 28 (· = #[.int .i64 0]) ∧ Below w.heap.size w wc)
  case first =>
    go_region_held3 (fun w' => Below (((w.alloc (.cells #[.int .i64 f, .int .i64 cl, .bool ng, .slice A n c, .int .i64 ex] 25)).alloc (.cells #[.bool false, .slice none 0 0, .int .i64 0] 50)).alloc (.cells #[.int .i64 0] 28)).heap.size (((w.alloc (.cells #[.int .i64 f, .int .i64 cl, .bool ng, .slice A n c, .int .i64 ex] 25)).alloc (.cells #[.bool false, .slice none 0 0, .int .i64 0] 50)).alloc (.cells #[.int .i64 0] 28)) w' ∧ ∀ b o, b < (((w.alloc (.cells #[.int .i64 f, .int .i64 cl, .bool ng, .slice A n c, .int .i64 ex] 25)).alloc (.cells #[.bool false, .slice none 0 0, .int .i64 0] 50)).alloc (.cells #[.int .i64 0] 28)).heap.size → w'.cell? ⟨b, o, none⟩ = (((w.alloc (.cells #[.int .i64 f, .int .i64 cl, .bool ng, .slice A n c, .int .i64 ex] 25)).alloc (.cells #[.bool false, .slice none 0 0, .int .i64 0] 50)).alloc (.cells #[.int .i64 0] 28)).cell? ⟨b, o, none⟩) (first | ((try go_split_ands); refine below_S ?_; ((repeat (first | with_reducible assumption | with_reducible exact Below.refl _ _ | with_reducible refine below_alloc ?_ _ | with_reducible refine pw_below_drewN ?_ _ | with_reducible refine below_drew1 ?_ | ((with_reducible refine below_set ?_ ?hle); (case hle => first | (simp; done) | omega | (simp; omega))) | with_reducible refine below_step ?_ (by with_reducible assumption))); done))) (first | (go_at_call 41; (with_reducible refine (HK.out _).mono ?_); rintro e w1 ⟨rfl, b1⟩; obtain ⟨hc1, hf1⟩ := bcell b1; (try simp only [dr_size, dr_cell] at hc1); (try simp only [dr_size, dr_frozen] at hf1); have hz1 := below_size b1; (try simp at hz1); (try have z01 : w.heap.size < w1.heap.size := (by omega)); (try have z11 : w.heap.size + 1 < w1.heap.size := (by omega)); (try have z21 : w.heap.size + 1 + 1 < w1.heap.size := (by omega)); (try have z31 : w.heap.size + 1 + 1 + 1 < w1.heap.size := (by omega))) | (go_at_call 42; (with_reducible refine (HH.out _ bel).mono ?_); rintro e w2 ⟨rfl, b2⟩; obtain ⟨hc2, hf2⟩ := bcell b2; (try simp only [dr_size, dr_cell] at hc2); (try simp only [dr_size, dr_frozen] at hf2); have hz2 := below_size b2; (try simp at hz2); (try have z02 : w.heap.size < w2.heap.size := (by omega)); (try have z12 : w.heap.size + 1 < w2.heap.size := (by omega)); (try have z22 : w.heap.size + 1 + 1 < w2.heap.size := (by omega)); (try have z32 : w.heap.size + 1 + 1 + 1 < w2.heap.size := (by omega)); (try have yw12 : w1.heap.size < w2.heap.size := (by omega))) | (go_at_call 40; (with_reducible refine (bneed_true _ _).mono ?_); rintro e w9 ⟨rfl, rfl⟩))
    all_goals
      go_wp2_with fail
      go_meet
      exact ⟨blk0, blk0, blk0, bel⟩
  case rest =>
    obtain ⟨HBD, HBY, HBE, hbw⟩ := hcut
    have HBYh := Lib.hid HBY
    have HBEh := Lib.hid HBE
    obtain ⟨csd, hbkd, rfl⟩ := HBD
    obtain ⟨csy, hbky, rfl⟩ := HBY
    obtain ⟨cse, hbke, rfl⟩ := HBE
    have d0 : wc.cell? ⟨w.heap.size, 0, none⟩ = some (.int .i64 f) := by simpa using blk_cell hbkd 0
    have d1 : wc.cell? ⟨w.heap.size, 1, none⟩ = some (.int .i64 cl) := by simpa using blk_cell hbkd 1
    have d2 : wc.cell? ⟨w.heap.size, 2, none⟩ = some (.bool ng) := by simpa using blk_cell hbkd 2
    have d3 : wc.cell? ⟨w.heap.size, 3, none⟩ = some (.slice A n c) := by simpa using blk_cell hbkd 3
    have d4 : wc.cell? ⟨w.heap.size, 4, none⟩ = some (.int .i64 ex) := by simpa using blk_cell hbkd 4
    have dz : w.heap.size < wc.heap.size := blk_lt hbkd
    have y0 : wc.cell? ⟨w.heap.size + 1, 0, none⟩ = some (.bool false) := by simpa using blk_cell hbky 0
    have yf0 : wc.frozen? ⟨w.heap.size + 1, 0, none⟩ = false := blk_frozen hbky 0
    have y1 : wc.cell? ⟨w.heap.size + 1, 1, none⟩ = some (.slice none 0 0) := by simpa using blk_cell hbky 1
    have yf1 : wc.frozen? ⟨w.heap.size + 1, 1, none⟩ = false := blk_frozen hbky 1
    have y2 : wc.cell? ⟨w.heap.size + 1, 2, none⟩ = some (.int .i64 0) := by simpa using blk_cell hbky 2
    have yf2 : wc.frozen? ⟨w.heap.size + 1, 2, none⟩ = false := blk_frozen hbky 2
    have yz : w.heap.size + 1 < wc.heap.size := blk_lt hbky
    have e0 : wc.cell? ⟨w.heap.size + 1 + 1, 0, none⟩ = some (.int .i64 0) := by simpa using blk_cell hbke 0
    have ef0 : wc.frozen? ⟨w.heap.size + 1 + 1, 0, none⟩ = false := blk_frozen hbke 0
    have ez : w.heap.size + 1 + 1 < wc.heap.size := blk_lt hbke
    have HYr := Lib.hid hbky
    have HEr := Lib.hid hbke
    clear hbkd hbky hbke
    go_wp2_with (first | (go_at_call 40; (with_reducible refine (bneed_false _ _).mono ?_); rintro e w9 ⟨rfl, rfl⟩))
    have HBY := HBYh.out
    have HBE := HBEh.out
    (refine leaves_cons (f := 39) (args := #[.pointer (some ⟨w.heap.size + 1 + 1, 0, none⟩)]) (by simp) (by simp [go_sem]) ?_; refine (bcaught_panic (w.heap.size + 1 + 1) (5) 0 [] _ (BlkIs.one blk0)).mono ?_; rintro e u' w'' ⟨rfl, rfl, hch, hp⟩; have hp' : BlkIs w'' (w.heap.size + 1 + 1) 28 (· = #[.int .i64 (5)]) := ⟨_, hp, rfl⟩)
    have hd : BlkIs w'' (w.heap.size + 1) 50 (· = #[.bool false, .slice none 0 0, .int .i64 0]) := blk0
    exact ⟨.tuple #[.agg #[.bool false, .slice none 0 0, .int .i64 0], .int .i64 5], rresults (rs := [.cell 2 50, .cell 3 28]) rfl (by simp) (.cell (w.heap.size + 1) rfl (load_agg (t := 50) hd Tryz.underlying50 rfl (by kernel_rfl)) (.cell (w.heap.size + 1 + 1) rfl (load_one (t := 28) hp' (by kernel_rfl)) .nil)), .slice none 0 0, rfl, Kd.R_nil _ _ _ _ _, below_chg bel hch (by omega)⟩

set_option maxHeartbeats 8000000 in
theorem value_zero {f ex : Int} {ng : Bool} {A : Option Addr} {c : Nat} (w : World) (hf : isFm f = true) (hA : Kd.C (Kd.int .u32) w A 0 []) (hh : hasB f 1 [] ex = true) : Calls Tryz.prog 21 #[dV f 1 ng A 0 c ex] w (Y0P 0 w) := by
  have HK := Lib.hid fun w' => kindOf_ok hf w'
  have HH := has_hid (f := f) (cl := 1) (ng := ng) (ex := ex) hA (by intro x hx; simp at hx) (Nat.zero_le c)
  rw [hh] at HH
  clear hA hh hf
  unfold kV at *
  generalize fmD f = D at *
  generalize fmE f = E at *
  generalize fmL f = L at *
  generalize fmH f = H at *
  generalize fmW f = W at *
  go_enter_defers Tryz.func21, Tryz.ntmps21
  go_upto_region 2 with fail
  go_cut [] from 8 to 44 (fun wc => BlkIs wc w.heap.size 25 (· = #[.int .i64 f, .int .i64 1, .bool ng, .slice A 0 c, .int .i64 ex]) ∧ BlkIs wc (w.heap.size + 1) 50 (· = #[.bool false, .slice none 0 0, .int .i64 0]) ∧ BlkIs wc (w.heap.size + 1 + 1) 28 (· = #[.int .i64 0]) ∧ Below w.heap.size w wc)
  case first =>
    go_region_held3 (fun w' => Below (((w.alloc (.cells #[.int .i64 f, .int .i64 1, .bool ng, .slice A 0 c, .int .i64 ex] 25)).alloc (.cells #[.bool false, .slice none 0 0, .int .i64 0] 50)).alloc (.cells #[.int .i64 0] 28)).heap.size (((w.alloc (.cells #[.int .i64 f, .int .i64 1, .bool ng, .slice A 0 c, .int .i64 ex] 25)).alloc (.cells #[.bool false, .slice none 0 0, .int .i64 0] 50)).alloc (.cells #[.int .i64 0] 28)) w' ∧ ∀ b o, b < (((w.alloc (.cells #[.int .i64 f, .int .i64 1, .bool ng, .slice A 0 c, .int .i64 ex] 25)).alloc (.cells #[.bool false, .slice none 0 0, .int .i64 0] 50)).alloc (.cells #[.int .i64 0] 28)).heap.size → w'.cell? ⟨b, o, none⟩ = (((w.alloc (.cells #[.int .i64 f, .int .i64 1, .bool ng, .slice A 0 c, .int .i64 ex] 25)).alloc (.cells #[.bool false, .slice none 0 0, .int .i64 0] 50)).alloc (.cells #[.int .i64 0] 28)).cell? ⟨b, o, none⟩) (first | ((try go_split_ands); refine below_S ?_; ((repeat (first | with_reducible assumption | with_reducible exact Below.refl _ _ | with_reducible refine below_alloc ?_ _ | with_reducible refine pw_below_drewN ?_ _ | with_reducible refine below_drew1 ?_ | ((with_reducible refine below_set ?_ ?hle); (case hle => first | (simp; done) | omega | (simp; omega))) | with_reducible refine below_step ?_ (by with_reducible assumption))); done))) (first | (go_at_call 41; (with_reducible refine (HK.out _).mono ?_); rintro e w1 ⟨rfl, b1⟩; obtain ⟨hc1, hf1⟩ := bcell b1; (try simp only [dr_size, dr_cell] at hc1); (try simp only [dr_size, dr_frozen] at hf1); have hz1 := below_size b1; (try simp at hz1); (try have z01 : w.heap.size < w1.heap.size := (by omega)); (try have z11 : w.heap.size + 1 < w1.heap.size := (by omega)); (try have z21 : w.heap.size + 1 + 1 < w1.heap.size := (by omega)); (try have z31 : w.heap.size + 1 + 1 + 1 < w1.heap.size := (by omega))) | (go_at_call 42; (with_reducible refine (HH.out _ bel).mono ?_); rintro e w2 ⟨rfl, b2⟩; obtain ⟨hc2, hf2⟩ := bcell b2; (try simp only [dr_size, dr_cell] at hc2); (try simp only [dr_size, dr_frozen] at hf2); have hz2 := below_size b2; (try simp at hz2); (try have z02 : w.heap.size < w2.heap.size := (by omega)); (try have z12 : w.heap.size + 1 < w2.heap.size := (by omega)); (try have z22 : w.heap.size + 1 + 1 < w2.heap.size := (by omega)); (try have z32 : w.heap.size + 1 + 1 + 1 < w2.heap.size := (by omega)); (try have yw12 : w1.heap.size < w2.heap.size := (by omega))) | (go_at_call 40; (with_reducible refine (bneed_true _ _).mono ?_); rintro e w9 ⟨rfl, rfl⟩))
    all_goals
      go_wp2_with fail
      go_meet
      exact ⟨blk0, blk0, blk0, bel⟩
  case rest =>
    obtain ⟨HBD, HBY, HBE, hbw⟩ := hcut
    have HBYh := Lib.hid HBY
    have HBEh := Lib.hid HBE
    obtain ⟨csd, hbkd, rfl⟩ := HBD
    obtain ⟨csy, hbky, rfl⟩ := HBY
    obtain ⟨cse, hbke, rfl⟩ := HBE
    have d0 : wc.cell? ⟨w.heap.size, 0, none⟩ = some (.int .i64 f) := by simpa using blk_cell hbkd 0
    have d1 : wc.cell? ⟨w.heap.size, 1, none⟩ = some (.int .i64 1) := by simpa using blk_cell hbkd 1
    have d2 : wc.cell? ⟨w.heap.size, 2, none⟩ = some (.bool ng) := by simpa using blk_cell hbkd 2
    have d3 : wc.cell? ⟨w.heap.size, 3, none⟩ = some (.slice A 0 c) := by simpa using blk_cell hbkd 3
    have d4 : wc.cell? ⟨w.heap.size, 4, none⟩ = some (.int .i64 ex) := by simpa using blk_cell hbkd 4
    have dz : w.heap.size < wc.heap.size := blk_lt hbkd
    have y0 : wc.cell? ⟨w.heap.size + 1, 0, none⟩ = some (.bool false) := by simpa using blk_cell hbky 0
    have yf0 : wc.frozen? ⟨w.heap.size + 1, 0, none⟩ = false := blk_frozen hbky 0
    have y1 : wc.cell? ⟨w.heap.size + 1, 1, none⟩ = some (.slice none 0 0) := by simpa using blk_cell hbky 1
    have yf1 : wc.frozen? ⟨w.heap.size + 1, 1, none⟩ = false := blk_frozen hbky 1
    have y2 : wc.cell? ⟨w.heap.size + 1, 2, none⟩ = some (.int .i64 0) := by simpa using blk_cell hbky 2
    have yf2 : wc.frozen? ⟨w.heap.size + 1, 2, none⟩ = false := blk_frozen hbky 2
    have yz : w.heap.size + 1 < wc.heap.size := blk_lt hbky
    have e0 : wc.cell? ⟨w.heap.size + 1 + 1, 0, none⟩ = some (.int .i64 0) := by simpa using blk_cell hbke 0
    have ef0 : wc.frozen? ⟨w.heap.size + 1 + 1, 0, none⟩ = false := blk_frozen hbke 0
    have ez : w.heap.size + 1 + 1 < wc.heap.size := blk_lt hbke
    have HYr := Lib.hid hbky
    have HEr := Lib.hid hbke
    clear hbkd hbky hbke
    go_wp2_with (first | (go_at_call 40; (with_reducible refine (bneed_true _ _).mono ?_); rintro e w9 ⟨rfl, rfl⟩))
    have hbky := HYr.out
    have hbke := HEr.out
    (refine leaves_cons (f := 39) (args := #[.pointer (some ⟨w.heap.size + 1 + 1, 0, none⟩)]) (by simp) (by simp [go_sem]) ?_; refine (bcaught_idle _ _).mono ?_; rintro e u' w'' ⟨rfl, rfl, rfl⟩)
    exact ⟨.tuple #[.agg #[.bool false, .slice none 0 0, .int .i64 0], .int .i64 0], rresults (rs := [.cell 2 50, .cell 3 28]) rfl (by simp) (.cell (w.heap.size + 1) rfl (load_agg (t := 50) blk1 Tryz.underlying50 rfl (by kernel_rfl)) (.cell (w.heap.size + 1 + 1) rfl (load_one (t := 28) blk1 (by kernel_rfl)) .nil)), .slice none 0 0, rfl, Kd.R_nil _ _ _ _ _, bel⟩

set_option maxHeartbeats 8000000 in
theorem value_ok {f ex : Int} {ng : Bool} {A : Option Addr} {n c : Nat} {a : List Int} (w : World) (hT : Tab w) (hf : isFm f = true) (hA : Kd.C (Kd.int .u32) w A n a) (la : Lim a) (hc : n ≤ c) (hh : hasB f 1 a ex = true) (hz : val a ≠ 0) : Calls Tryz.prog 21 #[dV f 1 ng A n c ex] w (DyadE ng (ofN (val a / 2 ^ tz (val a))) (ex + (tz (val a) : Nat)) 0 w) := by
  have hok : okN a = true := by unfold hasB at hh; exact ((Bool.and_eq_true _ _).mp hh).1
  have hx : -20000 ≤ ex ∧ ex ≤ 20000 := by
    unfold hasB fits at hh
    simp only [if_true, Bool.and_eq_true, decide_eq_true_eq] at hh
    obtain ⟨-, ⟨⟨h1, h2⟩, h3⟩, h4⟩ := hh
    have := fmL_bd f
    have := fmH_bd f
    omega
  have hzs : blen (val a) ≤ 32768 := by
    obtain ⟨h1, h2⟩ := okN_iff.1 hok
    rw [blen_le, show 32768 = 32 * 1024 from rfl, ← W_two]
    exact Nat.lt_of_lt_of_le (val_lt la) (W_le h1)
  have htz : tz (val a) ≤ 32768 := by
    obtain ⟨m, h1, h2⟩ := tz_spec hz
    have h3 : blen (val a) = blen m + tz (val a) := by
      have := blen_mul_pow (n := m) (by omega) (tz (val a))
      rwa [← h2] at this
    omega
  have HZ : Hid (∀ w', Below w.heap.size w w' → Calls Tryz.prog 57 #[.slice A n c] w' fun e w'' => e = .returned (.tuple #[.int .i64 (tz (val a) : Nat), .int .i64 0]) ∧ w' = w'') := Lib.hid fun w' hb => by
    have := nZeros_any w' (hT.below hb) (Kd.C_below hA hb) la hc
    unfold natZeros at this
    rwa [if_pos hok] at this
  have HSH : Hid (∀ w', Below w.heap.size w w' → Calls Tryz.prog 58 #[.slice A n c, .int .i64 (tz (val a) : Nat)] w' (NumErr (ofN (val a / 2 ^ tz (val a))) 0 w')) := Lib.hid fun w' hb => by
    have := nShr_any (tz (val a) : Nat) w' (Kd.C_below hA hb) la hc (by omega)
    unfold natShr at this
    have h2 : decide ((0 : Int) ≤ (tz (val a) : Nat)) = true := by simp
    rw [hok, h2] at this
    simpa using this
  have hn : n ≠ 0 := by
    intro h
    have hl : a.length = n := hA.1
    have : a = [] := List.length_eq_zero_iff.1 (by omega)
    subst this
    exact hz rfl
  have t0 : ((n : Int) == 0) = false := by simp; omega
  have HK := Lib.hid fun w' => kindOf_ok hf w'
  have HH := has_hid (f := f) (cl := 1) (ng := ng) (ex := ex) hA la hc
  rw [hh] at HH
  generalize ofN (val a / 2 ^ tz (val a)) = lst at *
  generalize tz (val a) = z at *
  have hw1 : IntKind.i64.wrap (ex + (z : Int)) = ex + z := by rw [IntKind.wrap_i64]; omega
  clear hA hh hf hz hT hok hzs hn
  unfold kV at *
  generalize fmD f = D at *
  generalize fmE f = E at *
  generalize fmL f = L at *
  generalize fmH f = H at *
  generalize fmW f = W at *
  go_enter_defers Tryz.func21, Tryz.ntmps21
  go_upto_region 2 with fail
  go_cut [] from 8 to 44 (fun wc => BlkIs wc w.heap.size 25 (· = #[.int .i64 f, .int .i64 1, .bool ng, .slice A n c, .int .i64 ex]) ∧ BlkIs wc (w.heap.size + 1) 50 (· = #[.bool false, .slice none 0 0, .int .i64 0]) ∧ BlkIs wc (w.heap.size + 1 + 1) 28 (· = #[.int .i64 0]) ∧ Below w.heap.size w wc)
  case first =>
    go_region_held3 (fun w' => Below (((w.alloc (.cells #[.int .i64 f, .int .i64 1, .bool ng, .slice A n c, .int .i64 ex] 25)).alloc (.cells #[.bool false, .slice none 0 0, .int .i64 0] 50)).alloc (.cells #[.int .i64 0] 28)).heap.size (((w.alloc (.cells #[.int .i64 f, .int .i64 1, .bool ng, .slice A n c, .int .i64 ex] 25)).alloc (.cells #[.bool false, .slice none 0 0, .int .i64 0] 50)).alloc (.cells #[.int .i64 0] 28)) w' ∧ ∀ b o, b < (((w.alloc (.cells #[.int .i64 f, .int .i64 1, .bool ng, .slice A n c, .int .i64 ex] 25)).alloc (.cells #[.bool false, .slice none 0 0, .int .i64 0] 50)).alloc (.cells #[.int .i64 0] 28)).heap.size → w'.cell? ⟨b, o, none⟩ = (((w.alloc (.cells #[.int .i64 f, .int .i64 1, .bool ng, .slice A n c, .int .i64 ex] 25)).alloc (.cells #[.bool false, .slice none 0 0, .int .i64 0] 50)).alloc (.cells #[.int .i64 0] 28)).cell? ⟨b, o, none⟩) (first | ((try go_split_ands); refine below_S ?_; ((repeat (first | with_reducible assumption | with_reducible exact Below.refl _ _ | with_reducible refine below_alloc ?_ _ | with_reducible refine pw_below_drewN ?_ _ | with_reducible refine below_drew1 ?_ | ((with_reducible refine below_set ?_ ?hle); (case hle => first | (simp; done) | omega | (simp; omega))) | with_reducible refine below_step ?_ (by with_reducible assumption))); done))) (first | (go_at_call 41; (with_reducible refine (HK.out _).mono ?_); rintro e w1 ⟨rfl, b1⟩; obtain ⟨hc1, hf1⟩ := bcell b1; (try simp only [dr_size, dr_cell] at hc1); (try simp only [dr_size, dr_frozen] at hf1); have hz1 := below_size b1; (try simp at hz1); (try have z01 : w.heap.size < w1.heap.size := (by omega)); (try have z11 : w.heap.size + 1 < w1.heap.size := (by omega)); (try have z21 : w.heap.size + 1 + 1 < w1.heap.size := (by omega)); (try have z31 : w.heap.size + 1 + 1 + 1 < w1.heap.size := (by omega))) | (go_at_call 42; (with_reducible refine (HH.out _ bel).mono ?_); rintro e w2 ⟨rfl, b2⟩; obtain ⟨hc2, hf2⟩ := bcell b2; (try simp only [dr_size, dr_cell] at hc2); (try simp only [dr_size, dr_frozen] at hf2); have hz2 := below_size b2; (try simp at hz2); (try have z02 : w.heap.size < w2.heap.size := (by omega)); (try have z12 : w.heap.size + 1 < w2.heap.size := (by omega)); (try have z22 : w.heap.size + 1 + 1 < w2.heap.size := (by omega)); (try have z32 : w.heap.size + 1 + 1 + 1 < w2.heap.size := (by omega)); (try have yw12 : w1.heap.size < w2.heap.size := (by omega))) | (go_at_call 40; (with_reducible refine (bneed_true _ _).mono ?_); rintro e w9 ⟨rfl, rfl⟩))
    all_goals
      go_wp2_with fail
      go_meet
      exact ⟨blk0, blk0, blk0, bel⟩
  case rest =>
    obtain ⟨HBD, HBY, HBE, hbw⟩ := hcut
    have HBYh := Lib.hid HBY
    have HBEh := Lib.hid HBE
    obtain ⟨csd, hbkd, rfl⟩ := HBD
    obtain ⟨csy, hbky, rfl⟩ := HBY
    obtain ⟨cse, hbke, rfl⟩ := HBE
    have d0 : wc.cell? ⟨w.heap.size, 0, none⟩ = some (.int .i64 f) := by simpa using blk_cell hbkd 0
    have d1 : wc.cell? ⟨w.heap.size, 1, none⟩ = some (.int .i64 1) := by simpa using blk_cell hbkd 1
    have d2 : wc.cell? ⟨w.heap.size, 2, none⟩ = some (.bool ng) := by simpa using blk_cell hbkd 2
    have d3 : wc.cell? ⟨w.heap.size, 3, none⟩ = some (.slice A n c) := by simpa using blk_cell hbkd 3
    have d4 : wc.cell? ⟨w.heap.size, 4, none⟩ = some (.int .i64 ex) := by simpa using blk_cell hbkd 4
    have dz : w.heap.size < wc.heap.size := blk_lt hbkd
    have y0 : wc.cell? ⟨w.heap.size + 1, 0, none⟩ = some (.bool false) := by simpa using blk_cell hbky 0
    have yf0 : wc.frozen? ⟨w.heap.size + 1, 0, none⟩ = false := blk_frozen hbky 0
    have y1 : wc.cell? ⟨w.heap.size + 1, 1, none⟩ = some (.slice none 0 0) := by simpa using blk_cell hbky 1
    have yf1 : wc.frozen? ⟨w.heap.size + 1, 1, none⟩ = false := blk_frozen hbky 1
    have y2 : wc.cell? ⟨w.heap.size + 1, 2, none⟩ = some (.int .i64 0) := by simpa using blk_cell hbky 2
    have yf2 : wc.frozen? ⟨w.heap.size + 1, 2, none⟩ = false := blk_frozen hbky 2
    have yz : w.heap.size + 1 < wc.heap.size := blk_lt hbky
    have e0 : wc.cell? ⟨w.heap.size + 1 + 1, 0, none⟩ = some (.int .i64 0) := by simpa using blk_cell hbke 0
    have ef0 : wc.frozen? ⟨w.heap.size + 1 + 1, 0, none⟩ = false := blk_frozen hbke 0
    have ez : w.heap.size + 1 + 1 < wc.heap.size := blk_lt hbke
    have HYr := Lib.hid hbky
    have HEr := Lib.hid hbke
    clear hbkd hbky hbke
    go_wp2_with (first | (go_at_call 40; (with_reducible refine (bneed_true _ _).mono ?_); rintro e w9 ⟨rfl, rfl⟩) | (go_at_call 57; (with_reducible refine (HZ.out _ bel).mono ?_); rintro e w9 ⟨rfl, rfl⟩) | (go_at_call 58; (with_reducible refine (HSH.out _ bel).mono ?_); rintro e w4 ⟨v4, rfl, hv4, b4⟩; obtain ⟨A4, c4, rfl⟩ := Kd.R_slice hv4; have HV4 := Lib.hid hv4; clear hv4; obtain ⟨hc4, hf4⟩ := bcell b4; (try simp only [dr_size, dr_cell] at hc4); (try simp only [dr_size, dr_frozen] at hf4); have hz4 := below_size b4; (try simp at hz4); (try have z04 : w.heap.size < w4.heap.size := (by omega)); (try have z14 : w.heap.size + 1 < w4.heap.size := (by omega)); (try have z24 : w.heap.size + 1 + 1 < w4.heap.size := (by omega)); (try have z34 : w.heap.size + 1 + 1 + 1 < w4.heap.size := (by omega)); (try have ywc4 : wc.heap.size < w4.heap.size := (by omega))))
    have hbky := HYr.out
    have hbke := HEr.out
    (refine leaves_cons (f := 39) (args := #[.pointer (some ⟨w.heap.size + 1 + 1, 0, none⟩)]) (by simp) (by simp [go_sem]) ?_; refine (bcaught_idle _ _).mono ?_; rintro e u' w'' ⟨rfl, rfl, rfl⟩)
    exact ⟨.tuple #[.agg #[.bool ng, .slice A4 lst.length c4, .int .i64 (ex + (z : Int))], .int .i64 0], rresults (rs := [.cell 2 50, .cell 3 28]) rfl (by simp) (.cell (w.heap.size + 1) rfl (load_agg (t := 50) blk1 Tryz.underlying50 rfl (by kernel_rfl)) (.cell (w.heap.size + 1 + 1) rfl (load_one (t := 28) blk1 (by kernel_rfl)) .nil)), _, rfl, Kd.R_lower (R_chg (S := fun k => k = w.heap.size + 1 ∨ k = w.heap.size + 1 + 1) HV4.out chg2 (by intro k hk; (try simp at hk ⊢); omega)) (by first | omega | (simp; omega)), bel⟩

end Go.Proofs.YtacnkcojhlbkoaaGreatDoor
