import Derived.Test.YtcekghcejmhhaaaCharsQ
import Derived.Test.YtcekghcejmhhaaaCharsR
set_option linter.unusedSimpArgs false
set_option linter.unusedVariables false
set_option linter.unnecessarySimpa false
namespace Go.Proofs.Ytcekghcejmhhaaa
open Go.RowKit Go.Proofs.YtcekghcejmhhaaaW.PrintWords Go.Proofs.YtcekghcejmhhaaaW.PrintLast Go.Proofs.YtcekghcejmhhaaaW.PrintMore
set_option maxRecDepth 100000

theorem iter_any (enc : Int) (h : encOk enc) (A : Option Addr) (c : Nat) (xs : List Int) (hm : xs.length ≤ 1000000000) (hc : xs.length ≤ c) (hx : Byt xs) (L gx gb : Nat) (J : List (Int × Int) → World → Prop)
    (hJ : ∀ pre W, J pre W → One W gx 79 (encV enc) ∧ One W gb 24 (.slice A xs.length c) ∧ Kd.C (Kd.int .u8) W A xs.length xs)
    (hJb : ∀ pre W W', J pre W → Below W.heap.size W W' → J pre W')
    (hY : ∀ pre (x : Int × Int) W, J pre W → pre.length < xs.length → YieldAt Fence.wide 0 Try.prog L #[.int .i64 x.1, .int .u32 x.2] W fun e W' => e = .returned (.bool true) ∧ J (pre ++ [x]) W' ∧ KeepsT 45 W W')
    (W : World) (h0 : J [] W) :
    Calls Try.prog 50 #[.func (.yield L) #[] #[], .pointer (some ⟨gx, 0, none⟩), .pointer (some ⟨gb, 0, none⟩)] W (IterPost enc xs J) := by
  rcases enc_cases h with rfl | rfl | rfl
  · exact iter_1 A c xs hm hc hx L gx gb J hJ hJb hY W h0
  · exact iter_2 A c xs hm hc hx L gx gb J hJ hJb hY W h0
  · exact iter_3 A c xs hm hc hx L gx gb J hJ hJb hY W h0

/-- What 'Decode' does last. -/
theorem dec_last_idle (pe pb : Nat) (u : FrameMode) (w : World) (he : One w pe 25 (.int .i64 0)) :
    CallsD Try.prog 44 #[.pointer (some ⟨pe, 0, none⟩), .pointer (some ⟨pb, 0, none⟩)] u w fun e u' w' => u' = u ∧ e = .returned (.tuple #[]) ∧ w = w' := by
  have c1 : w.cell? ⟨pe, 0, none⟩ = some (.int .i64 0) := by simpa using blk_cell he 0
  go_enter_d Try.func44, Try.ntmps44
  go_wp2
  go_end0
  exact ⟨rfl, rfl⟩
theorem dec_last (pe pb : Nat) (u : FrameMode) (w : World) (bv : Value) (e : Int) (h0 : ¬ e = 0) (he : One w pe 25 (.int .i64 e)) (hb : One w pb 22 bv) (h2 : pe ≠ pb) :
    CallsD Try.prog 44 #[.pointer (some ⟨pe, 0, none⟩), .pointer (some ⟨pb, 0, none⟩)] u w fun r u' w' => u' = u ∧ r = .returned (.tuple #[]) ∧
      Chg w w' (fun k => k = pb) ∧ BlkIs w' pb 22 (· = #[.slice none 0 0]) ∧ BlkIs w' pe 25 (· = #[.int .i64 e]) := by
  have c1 : w.cell? ⟨pe, 0, none⟩ = some (.int .i64 e) := by simpa using blk_cell he 0
  have c2 : w.cell? ⟨pb, 0, none⟩ = some bv := by simpa using blk_cell hb 0
  have f2 := blk_frozen hb 0
  have hd : (e == 0) = false := by simpa using h0
  have HE := Lib.hid he
  have HB := Lib.hid hb
  clear he hb
  go_enter_d Try.func44, Try.ntmps44
  go_wp2
  go_end0
  exact ⟨rfl, ⟨rfl, rfl, rfl, by simp [World.setCell], fun k hk hk2 => by rw [Below.heap_setCell _ _ _ _ hk2]⟩,
    ⟨_, blk_put HB.out 0 _ rfl, rfl⟩, ⟨_, blk_far HE.out h2 _, rfl⟩⟩

def DecPost (enc : Int) (l : List Int) (w : World) (r : Ending) (w' : World) : Prop :=
  ∃ v, r = .returned (.tuple #[v, .int .i64 (decodeC enc l).2.1, .int .i64 (decodeC enc l).2.2]) ∧ OwnI .u32 43 w.heap.size w' v (decodeC enc l).1 ∧ Below w.heap.size w w'

/-- Between two rounds of 'Decode'. -/
structure DecJ (w0 : World) (h : Nat) (ev bv : Value) (rec : Loop) (pre : List (Int × Int)) (W : World) : Prop where
  box : ∃ v, One W h 22 v ∧ OwnI .u32 43 (h + 1 + 1 + 1 + 1 + 1 + 1 + 1) W v (pre.map (·.2))
  he : One W (h + 1) 25 (.int .i64 0)
  ha : One W (h + 1 + 1) 3 (.int .i64 0)
  hx : One W (h + 1 + 1 + 1) 79 ev
  hb : One W (h + 1 + 1 + 1 + 1) 24 bv
  hD : W.heap[h + 1 + 1 + 1 + 1 + 1]? = some (.deferred (some []))
  hL : W.heap[h + 1 + 1 + 1 + 1 + 1 + 1]? = some (.loop rec)
  bel : Below w0.heap.size w0 W

theorem DecJ.below {w0 : World} {h : Nat} {ev bv : Value} {rec : Loop} {pre : List (Int × Int)} {W W' : World} (j : DecJ w0 h ev bv rec pre W) (hb : Below W.heap.size W W') : DecJ w0 h ev bv rec pre W' := by
  obtain ⟨v, h1, h2⟩ := j.box
  exact ⟨⟨v, blk_below h1 hb, OwnI.below h2 hb⟩, blk_below j.he hb, blk_below j.ha hb, blk_below j.hx hb, blk_below j.hb hb, blk_below j.hD hb, blk_below j.hL hb, below_step j.bel hb⟩

theorem info_u32 : (Try.prog.info? 43).map (fun i => (i.zero, i.size, i.bytes)) = some (some (.int .u32 0), 1, 4) := by kernel_rfl
set_option maxHeartbeats 4000000 in
theorem dec_1 (enc : Int) (h : encOk enc) (A : Option Addr) (n c : Nat) (l : List Int) (w : World) (hn : n ≤ 20000) (hnc : n ≤ c) (hC : Kd.C (Kd.int .u8) w A n l) (hx : Byt l) :
    Calls Try.prog 20 #[.int .i64 enc, .slice A n c] w (DecPost enc l w) := by
  have hl : l.length = n := hC.1
  subst hl
  have HC := Lib.hid hC
  have H := Lib.hid h
  clear hC h
  have hn2 : (l.length : Int) ≤ 20000 := by omega
  refine calls_of_wp_dm Try.func20 rfl ?_
  simp only [Try.ntmps20, List.size_toArray, List.length_cons, List.length_nil, Nat.reduceAdd, Nat.reduceSub, Array.replicate_succ, Array.replicate_zero, List.push_toArray, List.append_toArray, List.nil_append, List.cons_append]
  go_wp2_with (first | (go_at_call 37; (with_reducible refine (of_ok _ H.out _).mono ?_); rintro e w1 ⟨rfl, rfl⟩) | (go_at_call 38; (with_reducible refine (few_ok _ hn2 _).mono ?_); rintro e w1 ⟨rfl, rfl⟩) | (go_at_call 45; (with_reducible refine (characters_any _ ?hone _ _ _ _).mono ?_); (case hone => unfold encV; split <;> (try split) <;> rfl); rintro e w1 ⟨rfl, rfl⟩))
  obtain ⟨W0, hW0⟩ : ∃ W0, ((((w.alloc (Obj.cells #[.slice none 0 0] 22)).alloc (Obj.cells #[.int .i64 0] 25)).alloc (Obj.cells #[.int .i64 0] 3)).alloc (Obj.cells #[encV enc] 79)).alloc (Obj.cells #[.slice A l.length c] 24) = W0 := ⟨_, rfl⟩
  have hs0 : W0.heap.size = w.heap.size + 1 + 1 + 1 + 1 + 1 := by rw [← hW0]; simp
  refine wp_rangeFunc2 (gf := 50) (lb := #[.pointer (some ⟨w.heap.size + 1 + 1 + 1, 0, none⟩), .pointer (some ⟨w.heap.size + 1 + 1 + 1 + 1, 0, none⟩)]) rfl (fun _ _ => rfl) ?_
  rw [hW0, hs0]
  intro fn rec hrec
  have h0 : DecJ w w.heap.size (encV enc) (.slice A l.length c) (rec .ready) [] ((W0.alloc (.deferred (some []))).alloc (.loop (rec .ready))) := by
    have b0 : One W0 w.heap.size 22 (.slice none 0 0) := by rw [← hW0]; exact BlkIs.one (by repeat (first | with_reducible assumption | ((with_reducible refine BlkIs.new ?hg ?hf); (case hg => (simp; done)); (case hf => first | rfl | (simp; done))) | with_reducible refine BlkIs.alloc ?_ | with_reducible refine BlkIs.drewN ?_ | with_reducible refine BlkIs.drew ?_ | with_reducible refine BlkIs.set ?_ | ((with_reducible refine BlkIs.far ?_ ?hne); (case hne => first | (simp; done) | omega | (simp; omega))) | with_reducible refine BlkIs.below ?_ (by assumption) | ((with_reducible refine BlkIs.chg ?_ (by assumption) ?hnn); (case hnn => first | (simp; done) | omega | (simp; omega) | (intro hs; have := hs.1; omega))) | ((with_reducible refine BlkIs.of (by assumption) ?hf); (case hf => first | rfl | (simp; done)))))
    have b1 : One W0 (w.heap.size + 1) 25 (.int .i64 0) := by rw [← hW0]; exact BlkIs.one (by repeat (first | with_reducible assumption | ((with_reducible refine BlkIs.new ?hg ?hf); (case hg => (simp; done)); (case hf => first | rfl | (simp; done))) | with_reducible refine BlkIs.alloc ?_ | with_reducible refine BlkIs.drewN ?_ | with_reducible refine BlkIs.drew ?_ | with_reducible refine BlkIs.set ?_ | ((with_reducible refine BlkIs.far ?_ ?hne); (case hne => first | (simp; done) | omega | (simp; omega))) | with_reducible refine BlkIs.below ?_ (by assumption) | ((with_reducible refine BlkIs.chg ?_ (by assumption) ?hnn); (case hnn => first | (simp; done) | omega | (simp; omega) | (intro hs; have := hs.1; omega))) | ((with_reducible refine BlkIs.of (by assumption) ?hf); (case hf => first | rfl | (simp; done)))))
    have b2 : One W0 (w.heap.size + 1 + 1) 3 (.int .i64 0) := by rw [← hW0]; exact BlkIs.one (by repeat (first | with_reducible assumption | ((with_reducible refine BlkIs.new ?hg ?hf); (case hg => (simp; done)); (case hf => first | rfl | (simp; done))) | with_reducible refine BlkIs.alloc ?_ | with_reducible refine BlkIs.drewN ?_ | with_reducible refine BlkIs.drew ?_ | with_reducible refine BlkIs.set ?_ | ((with_reducible refine BlkIs.far ?_ ?hne); (case hne => first | (simp; done) | omega | (simp; omega))) | with_reducible refine BlkIs.below ?_ (by assumption) | ((with_reducible refine BlkIs.chg ?_ (by assumption) ?hnn); (case hnn => first | (simp; done) | omega | (simp; omega) | (intro hs; have := hs.1; omega))) | ((with_reducible refine BlkIs.of (by assumption) ?hf); (case hf => first | rfl | (simp; done)))))
    have b3 : One W0 (w.heap.size + 1 + 1 + 1) 79 (encV enc) := by rw [← hW0]; exact BlkIs.one (by repeat (first | with_reducible assumption | ((with_reducible refine BlkIs.new ?hg ?hf); (case hg => (simp; done)); (case hf => first | rfl | (simp; done))) | with_reducible refine BlkIs.alloc ?_ | with_reducible refine BlkIs.drewN ?_ | with_reducible refine BlkIs.drew ?_ | with_reducible refine BlkIs.set ?_ | ((with_reducible refine BlkIs.far ?_ ?hne); (case hne => first | (simp; done) | omega | (simp; omega))) | with_reducible refine BlkIs.below ?_ (by assumption) | ((with_reducible refine BlkIs.chg ?_ (by assumption) ?hnn); (case hnn => first | (simp; done) | omega | (simp; omega) | (intro hs; have := hs.1; omega))) | ((with_reducible refine BlkIs.of (by assumption) ?hf); (case hf => first | rfl | (simp; done)))))
    have b4 : One W0 (w.heap.size + 1 + 1 + 1 + 1) 24 (.slice A l.length c) := by rw [← hW0]; exact BlkIs.one (by repeat (first | with_reducible assumption | ((with_reducible refine BlkIs.new ?hg ?hf); (case hg => (simp; done)); (case hf => first | rfl | (simp; done))) | with_reducible refine BlkIs.alloc ?_ | with_reducible refine BlkIs.drewN ?_ | with_reducible refine BlkIs.drew ?_ | with_reducible refine BlkIs.set ?_ | ((with_reducible refine BlkIs.far ?_ ?hne); (case hne => first | (simp; done) | omega | (simp; omega))) | with_reducible refine BlkIs.below ?_ (by assumption) | ((with_reducible refine BlkIs.chg ?_ (by assumption) ?hnn); (case hnn => first | (simp; done) | omega | (simp; omega) | (intro hs; have := hs.1; omega))) | ((with_reducible refine BlkIs.of (by assumption) ?hf); (case hf => first | rfl | (simp; done)))))
    have bb : Below w.heap.size w W0 := by rw [← hW0]; exact (by repeat (first | with_reducible assumption | with_reducible exact Below.refl _ _ | with_reducible refine below_alloc ?_ _ | with_reducible refine pw_below_drewN ?_ _ | with_reducible refine below_drew1 ?_ | ((with_reducible refine below_set ?_ ?hle); (case hle => first | (simp; done) | omega | (simp; omega))) | with_reducible refine below_step ?_ (by assumption)))
    exact ⟨⟨_, blk_alloc (blk_alloc b0 _) _, Kd.R_nil _ _ _ _ _⟩, blk_alloc (blk_alloc b1 _) _, blk_alloc (blk_alloc b2 _) _, blk_alloc (blk_alloc b3 _) _, blk_alloc (blk_alloc b4 _) _, blk_alloc (blk_new' _ hs0.symm) _, blk_new' _ (by simp [hs0]), below_alloc (below_alloc bb _) _⟩
  refine (iter_any enc H.out A c l (by omega) hnc hx (w.heap.size + 1 + 1 + 1 + 1 + 1 + 1) (w.heap.size + 1 + 1 + 1) (w.heap.size + 1 + 1 + 1 + 1) (DecJ w w.heap.size (encV enc) (.slice A l.length c) (rec .ready)) (fun pre W j => ⟨j.hx, j.hb, C_of_below HC.out j.bel⟩) (fun pre W W' j hb => j.below hb) ?hY _ h0).mono ?_
  case hY =>
    clear h0 hW0
    rintro pre x W hj hlen
    obtain ⟨v, hbox, hv⟩ := hj.box
    refine yield_round hrec hj.hL rfl ?act1 ?ha ?hb
    case ha =>
      intro K hK
      gi_wp2_with (rw [Oper.semAt_eq _ _ _ (fun c h => by cases h)]; go_simp; try go_bits)
      exact hK
    case hb =>
      have HJ := Lib.hid hj
      have HREC := Lib.hid hrec
      have HX := Lib.hid hlen
      have hLlt := blk_lt hj.hL
      obtain ⟨W2, hW2⟩ : ∃ W2, W.putObj (w.heap.size + 1 + 1 + 1 + 1 + 1 + 1) (.loop (rec .busy)) = W2 := ⟨_, rfl⟩
      have hbox2 : One W2 w.heap.size 22 v := by rw [← hW2]; exact blk_putObj hbox (by omega)
      have hv2 : OwnI .u32 43 (w.heap.size + 1 + 1 + 1 + 1 + 1 + 1 + 1) W2 v (pre.map (·.2)) := by rw [← hW2]; exact OwnI.putObj hv (by omega)
      have hL2 : W2.heap[w.heap.size + 1 + 1 + 1 + 1 + 1 + 1]? = some (.loop (rec .busy)) := by rw [← hW2]; exact World.putObj_heap_same hLlt
      have hz2 : W2.heap.size = W.heap.size := by rw [← hW2]; simp
      rw [hW2]
      have HW2 := Lib.hid hW2
      clear hj hrec hlen hW2
      obtain ⟨i0, hi, q0, q1, q2⟩ := info_parts info_u32
      obtain ⟨ys, hys⟩ : ∃ ys, ys = pre.map (·.2) := ⟨_, rfl⟩
      have hlen : ys.length < l.length := by rw [hys, List.length_map]; exact HX.out
      rw [← hys] at hv2
      obtain ⟨Av, cv, rfl⟩ := Kd.R_slice hv2
      have HYS := Lib.hid hys
      have HZ2 := Lib.hid hz2
      have hLs : w.heap.size + 1 + 1 + 1 + 1 + 1 + 1 < W2.heap.size := by omega
      clear hys hz2 hbox
      have HV2 := Lib.hid hv2
      obtain ⟨_, inner, hrow, hreps⟩ := hv2
      have HREPS := Lib.hid hreps
      clear hreps hv
      (have cb2 : World.cell? W2 ⟨w.heap.size, 0, none⟩ = some (.slice Av ys.length cv) := (by simpa using blk_cell hbox2 0)); have fb2 := blk_frozen hbox2 0
      gi_wp2_with (first
        | (gi_at_builtin; refine wpListIn_append_own _ rfl _ _ 22 rfl (w.heap.size + 1 + 1 + 1 + 1 + 1 + 1 + 1) 43 i0 (.int .u32 0) 1 4 Try.underlying22 hi q0 q1 q2 rfl (by decide) _ _ _ rfl (World.ownsRow.alloc hrow _) ⟨W2.heap.size, 0, none⟩ 1 1 [.int .u32 x.2] rfl rfl (cell_one_new' _ _ _) (by simp [Value.oneCell']) (by simp [maxLen]; omega) (by omega) (by simp; omega) ?_; intro v' w3 hown' hg3 hnil3; obtain ⟨g', cap', rfl⟩ := ownsRow_succ hown'; have HG3 := Lib.hid hg3; have HOWN := Lib.hid hown'; have hbox3 : One w3 w.heap.size 22 (.slice Av ys.length cv) := (hg3.block _ (by simp; omega) (fun he => by have := own_base_le hrow he.symm; omega)).trans (blk_alloc hbox2 _); (have cb3 : World.cell? w3 ⟨w.heap.size, 0, none⟩ = some (.slice Av ys.length cv) := (by simpa using blk_cell hbox3 0)); have fb3 := blk_frozen hbox3 0; clear hg3 hown' hnil3; go_frame)
        | (rw [Oper.semAt_eq _ _ _ (fun c h => by cases h)]; go_simp; try go_bits))
      have hj := HJ.out
      have hg3 := HG3.out
      have hW2 := HW2.out
      have old : ∀ (j : Nat) (o : Obj), j < w.heap.size + 1 + 1 + 1 + 1 + 1 + 1 + 1 → W2.heap[j]? = some o → w3.heap[j]? = some o := fun j o hjl ho =>
        (hg3.block j (by have := blk_lt ho; simp; omega) (fun he => by have := own_base_le hrow he.symm; omega)).trans (blk_alloc ho _)
      have fin : ∀ (j : Nat) (o : Obj), j < w.heap.size + 1 + 1 + 1 + 1 + 1 + 1 → j ≠ w.heap.size → W.heap[j]? = some o → ((w3.setCell ⟨w.heap.size, 0, none⟩ (.slice (some ⟨g', 0, none⟩) (ys.length + 1) cap')).putObj (w.heap.size + 1 + 1 + 1 + 1 + 1 + 1) (.loop (rec .ready))).heap[j]? = some o := fun j o h1 h2 ho =>
        blk_putObj (obj_set (old j o (by omega) (by rw [← hW2]; exact blk_putObj ho (by omega))) h2) (by omega)
      have hL3 : w3.heap[w.heap.size + 1 + 1 + 1 + 1 + 1 + 1]? = some (.loop (rec .busy)) := old _ _ (by omega) hL2
      have hv3 : OwnI .u32 43 (w.heap.size + 1 + 1 + 1 + 1 + 1 + 1 + 1) w3 (.slice (some ⟨g', 0, none⟩) (ys.length + 1) cap') (ys ++ [x.2]) := OwnI.snoc HREPS.out HOWN.out
      have hz3 : W2.heap.size ≤ w3.heap.size := by have := hg3.size; simp at this; omega
      refine ⟨obj_set hL3 (by omega), ⟨⟨_, blk_putObj (blk_put hbox3 0 _ rfl) (by omega), ?_⟩, fin _ _ (by omega) (by omega) hj.he, fin _ _ (by omega) (by omega) hj.ha, fin _ _ (by omega) (by omega) hj.hx, fin _ _ (by omega) (by omega) hj.hb, fin _ _ (by omega) (by omega) hj.hD, World.putObj_heap_same (by have := blk_lt hL3; simpa [World.setCell] using this), ?_⟩, ?_⟩
      · rw [List.map_append, ← HYS.out]
        exact OwnI.putObj (OwnI.set hv3 (by simp; omega)) (by omega)
      · refine below_putObj (below_set ?_ (by simp)) (by omega)
        refine Below.grown (w := W2.alloc (.cells #[.int .u32 x.2] 43)) ?_ hg3 (by simp; have := HZ2.out; have := hj.bel.size; omega) (fun k e => by have := own_base_le hrow e; omega)
        refine below_alloc ?_ _
        rw [← hW2]
        exact below_putObj hj.bel (by omega)
      · refine KeepsT.trans (B := W2) (by rw [← hW2]; exact KeepsT.putObj _ hj.hL rfl) (KeepsT.trans (KeepsT.alloc _) (KeepsT.trans (KeepsT.grown hg3 (World.ownsRow.alloc hrow _) (by decide)) (KeepsT.trans (KeepsT.setCell hbox3 (by decide)) (KeepsT.putObj _ (obj_set hL3 (by omega)) rfl))))
  rintro e w3 ⟨hj, (⟨hn0, rfl⟩ | ⟨a, ha, rfl⟩)⟩
  · refine .inl ⟨_, rfl, hj.hL, ?_⟩
    obtain ⟨v, hbox, hv⟩ := hj.box
    have HJ := Lib.hid hj
    have HN := Lib.hid hn0
    have hz3 := hj.bel.size
    have hLl := blk_lt hj.hL
    obtain ⟨W4, hW4⟩ : ∃ W4, w3.putObj (w.heap.size + 1 + 1 + 1 + 1 + 1 + 1) (.loop (rec .exhausted)) = W4 := ⟨_, rfl⟩
    have hbox4 : One W4 w.heap.size 22 v := by rw [← hW4]; exact blk_putObj hbox (by omega)
    have he4 : One W4 (w.heap.size + 1) 25 (.int .i64 0) := by rw [← hW4]; exact blk_putObj hj.he (by omega)
    have ha4 : One W4 (w.heap.size + 1 + 1) 3 (.int .i64 0) := by rw [← hW4]; exact blk_putObj hj.ha (by omega)
    have hD4 : W4.heap[w.heap.size + 1 + 1 + 1 + 1 + 1]? = some (.deferred (some [])) := by rw [← hW4]; exact blk_putObj hj.hD (by omega)
    have hv4 : OwnI .u32 43 (w.heap.size + 1 + 1 + 1 + 1 + 1 + 1 + 1) W4 v ((decodeLoop enc l.length 0 0 l).1.map (·.2)) := by rw [← hW4]; exact OwnI.putObj hv (by omega)
    have hb4 : Below w.heap.size w W4 := by rw [← hW4]; exact below_putObj hj.bel (by omega)
    have hz4 : w.heap.size + 1 + 1 + 1 + 1 + 1 + 1 < W4.heap.size := by rw [← hW4]; simpa using hLl
    rw [hW4]
    clear h0 hW0 hrec hj hn0 hbox hv hW4 hs0
    obtain ⟨ys, hys⟩ : ∃ ys, ys = (decodeLoop enc l.length 0 0 l).1.map (·.2) := ⟨_, rfl⟩
    rw [← hys] at hv4
    obtain ⟨Av, cv, rfl⟩ := Kd.R_slice hv4
    have HYS := Lib.hid hys
    have HV4 := Lib.hid hv4
    have HB4 := Lib.hid hb4
    clear hys hv4 hb4
    (have cb4 : World.cell? W4 ⟨w.heap.size, 0, none⟩ = some (.slice Av ys.length cv) := (by simpa using blk_cell hbox4 0)); have fb4 := blk_frozen hbox4 0
    (have ce4 : World.cell? W4 ⟨w.heap.size + 1, 0, none⟩ = some (.int .i64 0) := (by simpa using blk_cell he4 0)); have fe4 := blk_frozen he4 0
    (have ca4 : World.cell? W4 ⟨w.heap.size + 1 + 1, 0, none⟩ = some (.int .i64 0) := (by simpa using blk_cell ha4 0)); have fa4 := blk_frozen ha4 0
    go_wp2
    have b6 : One (((W4.setCell ⟨w.heap.size, 0, none⟩ (.slice Av ys.length cv)).setCell ⟨w.heap.size + 1, 0, none⟩ (.int .i64 0)).setCell ⟨w.heap.size + 1 + 1, 0, none⟩ (.int .i64 0)) w.heap.size 22 (.slice Av ys.length cv) := BlkIs.one (by repeat (first | with_reducible assumption | ((with_reducible refine BlkIs.new ?hg ?hf); (case hg => (simp; done)); (case hf => first | rfl | (simp; done))) | with_reducible refine BlkIs.alloc ?_ | with_reducible refine BlkIs.drewN ?_ | with_reducible refine BlkIs.drew ?_ | with_reducible refine BlkIs.set ?_ | ((with_reducible refine BlkIs.far ?_ ?hne); (case hne => first | (simp; done) | omega | (simp; omega))) | with_reducible refine BlkIs.below ?_ (by assumption) | ((with_reducible refine BlkIs.chg ?_ (by assumption) ?hnn); (case hnn => first | (simp; done) | omega | (simp; omega) | (intro hs; have := hs.1; omega))) | ((with_reducible refine BlkIs.of (by assumption) ?hf); (case hf => first | rfl | (simp; done)))))
    have e6 : One (((W4.setCell ⟨w.heap.size, 0, none⟩ (.slice Av ys.length cv)).setCell ⟨w.heap.size + 1, 0, none⟩ (.int .i64 0)).setCell ⟨w.heap.size + 1 + 1, 0, none⟩ (.int .i64 0)) (w.heap.size + 1) 25 (.int .i64 0) := BlkIs.one (by repeat (first | with_reducible assumption | ((with_reducible refine BlkIs.new ?hg ?hf); (case hg => (simp; done)); (case hf => first | rfl | (simp; done))) | with_reducible refine BlkIs.alloc ?_ | with_reducible refine BlkIs.drewN ?_ | with_reducible refine BlkIs.drew ?_ | with_reducible refine BlkIs.set ?_ | ((with_reducible refine BlkIs.far ?_ ?hne); (case hne => first | (simp; done) | omega | (simp; omega))) | with_reducible refine BlkIs.below ?_ (by assumption) | ((with_reducible refine BlkIs.chg ?_ (by assumption) ?hnn); (case hnn => first | (simp; done) | omega | (simp; omega) | (intro hs; have := hs.1; omega))) | ((with_reducible refine BlkIs.of (by assumption) ?hf); (case hf => first | rfl | (simp; done)))))
    have a6 : One (((W4.setCell ⟨w.heap.size, 0, none⟩ (.slice Av ys.length cv)).setCell ⟨w.heap.size + 1, 0, none⟩ (.int .i64 0)).setCell ⟨w.heap.size + 1 + 1, 0, none⟩ (.int .i64 0)) (w.heap.size + 1 + 1) 3 (.int .i64 0) := BlkIs.one (by repeat (first | with_reducible assumption | ((with_reducible refine BlkIs.new ?hg ?hf); (case hg => (simp; done)); (case hf => first | rfl | (simp; done))) | with_reducible refine BlkIs.alloc ?_ | with_reducible refine BlkIs.drewN ?_ | with_reducible refine BlkIs.drew ?_ | with_reducible refine BlkIs.set ?_ | ((with_reducible refine BlkIs.far ?_ ?hne); (case hne => first | (simp; done) | omega | (simp; omega))) | with_reducible refine BlkIs.below ?_ (by assumption) | ((with_reducible refine BlkIs.chg ?_ (by assumption) ?hnn); (case hnn => first | (simp; done) | omega | (simp; omega) | (intro hs; have := hs.1; omega))) | ((with_reducible refine BlkIs.of (by assumption) ?hf); (case hf => first | rfl | (simp; done)))))
    have d6 := obj_set (u := .int .i64 0) (p := w.heap.size + 1 + 1) (obj_set (u := .int .i64 0) (p := w.heap.size + 1) (obj_set (u := .slice Av ys.length cv) (p := w.heap.size) hD4 (by omega)) (by omega)) (by omega)
    have v6 : OwnI .u32 43 (w.heap.size + 1 + 1 + 1 + 1 + 1 + 1 + 1) (((W4.setCell ⟨w.heap.size, 0, none⟩ (.slice Av ys.length cv)).setCell ⟨w.heap.size + 1, 0, none⟩ (.int .i64 0)).setCell ⟨w.heap.size + 1 + 1, 0, none⟩ (.int .i64 0)) (.slice Av ys.length cv) ys :=
      OwnI.set (OwnI.set (OwnI.set HV4.out (by first | (simp; done) | (simp; omega))) (by first | (simp; done) | (simp; omega))) (by first | (simp; done) | (simp; omega))
    have w6 : Below w.heap.size w (((W4.setCell ⟨w.heap.size, 0, none⟩ (.slice Av ys.length cv)).setCell ⟨w.heap.size + 1, 0, none⟩ (.int .i64 0)).setCell ⟨w.heap.size + 1 + 1, 0, none⟩ (.int .i64 0)) := by have := HB4.out; exact (by repeat (first | with_reducible assumption | with_reducible exact Below.refl _ _ | with_reducible refine below_alloc ?_ _ | with_reducible refine pw_below_drewN ?_ _ | with_reducible refine below_drew1 ?_ | ((with_reducible refine below_set ?_ ?hle); (case hle => first | (simp; done) | omega | (simp; omega))) | with_reducible refine below_step ?_ (by assumption)))
    generalize (((W4.setCell ⟨w.heap.size, 0, none⟩ (.slice Av ys.length cv)).setCell ⟨w.heap.size + 1, 0, none⟩ (.int .i64 0)).setCell ⟨w.heap.size + 1 + 1, 0, none⟩ (.int .i64 0)) = W6 at b6 e6 a6 d6 v6 w6 ⊢
    refine leavesM_mark (by simp) (run_takeDeferred d6) ?_
    refine leavesM_cons (f := 36) (args := #[.pointer (some ⟨w.heap.size + 1, 0, none⟩), .pointer (some ⟨w.heap.size + 1 + 1, 0, none⟩)]) (by simp [settle]) (by simp [go_sem]) ?_
    refine (caught_idle _ _ _).mono ?_
    rintro e u' w'' ⟨rfl, rfl, rfl⟩
    refine leavesM_cons (f := 44) (args := #[.pointer (some ⟨w.heap.size + 1, 0, none⟩), .pointer (some ⟨w.heap.size, 0, none⟩)]) (by simp [settle]) (by simp [go_sem]) ?_
    refine (dec_last_idle _ _ _ _ (blk_putObj e6 (by omega))).mono ?_
    rintro e u' w'' ⟨rfl, rfl, rfl⟩
    have hE : decodeC enc l = (ys, 0, 0) := by
      unfold decodeC
      rw [if_neg (by simpa using H.out), if_neg (by omega)]
      simp only [HN.out, HYS.out]
    exact ⟨.tuple #[.slice Av ys.length cv, .int .i64 0, .int .i64 0], rresults (rs := [.cell 4 22, .cell 5 25, .cell 6 3]) rfl (by simp) (.cell w.heap.size rfl (load_one (t := 22) ⟨_, blk_putObj b6 (by omega), rfl⟩ (by kernel_rfl)) (.cell (w.heap.size + 1) rfl (load_one (t := 25) ⟨_, blk_putObj e6 (by omega), rfl⟩ (by kernel_rfl)) (.cell (w.heap.size + 1 + 1) rfl (load_one (t := 3) ⟨_, blk_putObj a6 (by omega), rfl⟩ (by kernel_rfl)) .nil))), _, by rw [hE], by rw [hE]; exact OwnI.lower (OwnI.putObj v6 (by omega)) (by omega), below_putObj w6 (by omega)⟩
  · refine .inr ⟨_, rfl, ?_⟩
    obtain ⟨v, hbox, hv⟩ := hj.box
    refine leavesM_mark (by simp) (run_takeDeferred hj.hD) ?_
    refine leavesM_cons (f := 36) (args := #[.pointer (some ⟨w.heap.size + 1, 0, none⟩), .pointer (some ⟨w.heap.size + 1 + 1, 0, none⟩)]) (by simp [settle]) (by simp [go_sem]) ?_
    refine (caught_panic (w.heap.size + 1) (w.heap.size + 1 + 1) 15 a 0 0 [] _ (blk_putObj hj.he (by omega)) (blk_putObj hj.ha (by omega)) (by omega)).mono ?_
    rintro e u' w'' ⟨rfl, rfl, hch, hp, hq⟩
    refine leavesM_cons (f := 44) (args := #[.pointer (some ⟨w.heap.size + 1, 0, none⟩), .pointer (some ⟨w.heap.size, 0, none⟩)]) (by simp [settle]) (by simp [go_sem]) ?_
    refine (dec_last _ _ _ _ v 15 (by decide) hp (blk_chg (blk_putObj hbox (by omega)) hch (by omega)) (by omega)).mono ?_
    rintro e u' w4 ⟨rfl, rfl, hch4, q1, q2⟩
    have hE : decodeC enc l = ([], 15, a) := by
      unfold decodeC
      rw [if_neg (by simpa using H.out), if_neg (by omega)]
      simp only [ha]
    exact ⟨.tuple #[.slice none 0 0, .int .i64 15, .int .i64 a], rresults (rs := [.cell 4 22, .cell 5 25, .cell 6 3]) rfl (by simp) (.cell w.heap.size rfl (load_one (t := 22) q1 (by kernel_rfl)) (.cell (w.heap.size + 1) rfl (load_one (t := 25) q2 (by kernel_rfl)) (.cell (w.heap.size + 1 + 1) rfl (load_one (t := 3) ⟨_, blk_chg hq hch4 (by omega), rfl⟩ (by kernel_rfl)) .nil))), _, by rw [hE], by rw [hE]; exact Kd.R_nil _ _ _ _ _, below_chg (below_chg (below_putObj hj.bel (by omega)) hch (by omega)) hch4 (by omega)⟩

set_option maxHeartbeats 4000000 in
theorem Decode_any (enc : Int) (A : Option Addr) (n c : Nat) (l : List Int) (w : World) (hnc : n ≤ c) (hC : Kd.C (Kd.int .u8) w A n l) (hx : Byt l) :
    Calls Try.prog 20 #[.int .i64 enc, .slice A n c] w (DecPost enc l w) := by
  have hl : l.length = n := hC.1
  by_cases h : encOk enc
  · by_cases hn : n ≤ 20000
    · exact dec_1 enc h A n c l w hn hnc hC hx
    · have HE : Hid (decodeC enc l = ([], 2, 0)) := Lib.hid (by unfold decodeC; rw [if_neg (by simpa using h), if_pos (by omega)])
      have H := Lib.hid h
      have hn2 : 20000 < (n : Int) := by omega
      clear h hl hC hx hn
      go_enter_defers Try.func20, Try.ntmps20
      go_wp2_with (first | (go_at_call 37; (with_reducible refine (of_ok _ H.out _).mono ?_); rintro e w1 ⟨rfl, rfl⟩) | (go_at_call 38; (with_reducible refine (few_no _ hn2 _).mono ?_); rintro e w1 ⟨rfl, rfl⟩))
      refine leaves_cons (f := 36) (args := #[.pointer (some ⟨w.heap.size + 1, 0, none⟩), .pointer (some ⟨w.heap.size + 1 + 1, 0, none⟩)]) (by simp [settle]) (by simp [go_sem]) ?_
      refine (caught_panic (w.heap.size + 1) (w.heap.size + 1 + 1) 2 0 0 0 [] _ (BlkIs.one (by repeat (first | with_reducible assumption | ((with_reducible refine BlkIs.new ?hg ?hf); (case hg => (simp; done)); (case hf => first | rfl | (simp; done))) | with_reducible refine BlkIs.alloc ?_ | with_reducible refine BlkIs.drewN ?_ | with_reducible refine BlkIs.drew ?_ | with_reducible refine BlkIs.set ?_ | ((with_reducible refine BlkIs.far ?_ ?hne); (case hne => first | (simp; done) | omega | (simp; omega))) | with_reducible refine BlkIs.below ?_ (by assumption) | ((with_reducible refine BlkIs.chg ?_ (by assumption) ?hnn); (case hnn => first | (simp; done) | omega | (simp; omega) | (intro hs; have := hs.1; omega))) | ((with_reducible refine BlkIs.of (by assumption) ?hf); (case hf => first | rfl | (simp; done)))))) (BlkIs.one (by repeat (first | with_reducible assumption | ((with_reducible refine BlkIs.new ?hg ?hf); (case hg => (simp; done)); (case hf => first | rfl | (simp; done))) | with_reducible refine BlkIs.alloc ?_ | with_reducible refine BlkIs.drewN ?_ | with_reducible refine BlkIs.drew ?_ | with_reducible refine BlkIs.set ?_ | ((with_reducible refine BlkIs.far ?_ ?hne); (case hne => first | (simp; done) | omega | (simp; omega))) | with_reducible refine BlkIs.below ?_ (by assumption) | ((with_reducible refine BlkIs.chg ?_ (by assumption) ?hnn); (case hnn => first | (simp; done) | omega | (simp; omega) | (intro hs; have := hs.1; omega))) | ((with_reducible refine BlkIs.of (by assumption) ?hf); (case hf => first | rfl | (simp; done)))))) (by omega)).mono ?_
      rintro e u' w'' ⟨rfl, rfl, hch, hp, hq⟩
      refine leaves_cons (f := 44) (args := #[.pointer (some ⟨w.heap.size + 1, 0, none⟩), .pointer (some ⟨w.heap.size, 0, none⟩)]) (by simp [settle]) (by simp [go_sem]) ?_
      refine (dec_last _ _ _ _ (.slice none 0 0) 2 (by decide) hp (blk_chg (BlkIs.one (by repeat (first | with_reducible assumption | ((with_reducible refine BlkIs.new ?hg ?hf); (case hg => (simp; done)); (case hf => first | rfl | (simp; done))) | with_reducible refine BlkIs.alloc ?_ | with_reducible refine BlkIs.drewN ?_ | with_reducible refine BlkIs.drew ?_ | with_reducible refine BlkIs.set ?_ | ((with_reducible refine BlkIs.far ?_ ?hne); (case hne => first | (simp; done) | omega | (simp; omega))) | with_reducible refine BlkIs.below ?_ (by assumption) | ((with_reducible refine BlkIs.chg ?_ (by assumption) ?hnn); (case hnn => first | (simp; done) | omega | (simp; omega) | (intro hs; have := hs.1; omega))) | ((with_reducible refine BlkIs.of (by assumption) ?hf); (case hf => first | rfl | (simp; done)))))) hch (by omega)) (by omega)).mono ?_
      rintro e u' w4 ⟨rfl, rfl, hch4, q1, q2⟩
      exact ⟨.tuple #[.slice none 0 0, .int .i64 2, .int .i64 0], rresults (rs := [.cell 4 22, .cell 5 25, .cell 6 3]) rfl (by simp) (.cell w.heap.size rfl (load_one (t := 22) q1 (by kernel_rfl)) (.cell (w.heap.size + 1) rfl (load_one (t := 25) q2 (by kernel_rfl)) (.cell (w.heap.size + 1 + 1) rfl (load_one (t := 3) ⟨_, blk_chg hq hch4 (by omega), rfl⟩ (by kernel_rfl)) .nil))), _, by rw [HE.out], by rw [HE.out]; exact Kd.R_nil _ _ _ _ _, below_chg (below_chg (by repeat (first | with_reducible assumption | with_reducible exact Below.refl _ _ | with_reducible refine below_alloc ?_ _ | with_reducible refine pw_below_drewN ?_ _ | with_reducible refine below_drew1 ?_ | ((with_reducible refine below_set ?_ ?hle); (case hle => first | (simp; done) | omega | (simp; omega))) | with_reducible refine below_step ?_ (by assumption))) hch (by omega)) hch4 (by omega)⟩
  · have HE : Hid (decodeC enc l = ([], 1, 0)) := Lib.hid (by unfold decodeC; rw [if_pos h])
    have H := Lib.hid h
    clear h hl hC hx
    go_enter_defers Try.func20, Try.ntmps20
    go_wp2_with (go_at_call 37; (with_reducible refine (of_no _ H.out _).mono ?_); rintro e w1 ⟨rfl, rfl⟩)
    refine leaves_cons (f := 36) (args := #[.pointer (some ⟨w.heap.size + 1, 0, none⟩), .pointer (some ⟨w.heap.size + 1 + 1, 0, none⟩)]) (by simp [settle]) (by simp [go_sem]) ?_
    refine (caught_panic (w.heap.size + 1) (w.heap.size + 1 + 1) 1 0 0 0 [] _ (BlkIs.one (by repeat (first | with_reducible assumption | ((with_reducible refine BlkIs.new ?hg ?hf); (case hg => (simp; done)); (case hf => first | rfl | (simp; done))) | with_reducible refine BlkIs.alloc ?_ | with_reducible refine BlkIs.drewN ?_ | with_reducible refine BlkIs.drew ?_ | with_reducible refine BlkIs.set ?_ | ((with_reducible refine BlkIs.far ?_ ?hne); (case hne => first | (simp; done) | omega | (simp; omega))) | with_reducible refine BlkIs.below ?_ (by assumption) | ((with_reducible refine BlkIs.chg ?_ (by assumption) ?hnn); (case hnn => first | (simp; done) | omega | (simp; omega) | (intro hs; have := hs.1; omega))) | ((with_reducible refine BlkIs.of (by assumption) ?hf); (case hf => first | rfl | (simp; done)))))) (BlkIs.one (by repeat (first | with_reducible assumption | ((with_reducible refine BlkIs.new ?hg ?hf); (case hg => (simp; done)); (case hf => first | rfl | (simp; done))) | with_reducible refine BlkIs.alloc ?_ | with_reducible refine BlkIs.drewN ?_ | with_reducible refine BlkIs.drew ?_ | with_reducible refine BlkIs.set ?_ | ((with_reducible refine BlkIs.far ?_ ?hne); (case hne => first | (simp; done) | omega | (simp; omega))) | with_reducible refine BlkIs.below ?_ (by assumption) | ((with_reducible refine BlkIs.chg ?_ (by assumption) ?hnn); (case hnn => first | (simp; done) | omega | (simp; omega) | (intro hs; have := hs.1; omega))) | ((with_reducible refine BlkIs.of (by assumption) ?hf); (case hf => first | rfl | (simp; done)))))) (by omega)).mono ?_
    rintro e u' w'' ⟨rfl, rfl, hch, hp, hq⟩
    refine leaves_cons (f := 44) (args := #[.pointer (some ⟨w.heap.size + 1, 0, none⟩), .pointer (some ⟨w.heap.size, 0, none⟩)]) (by simp [settle]) (by simp [go_sem]) ?_
    refine (dec_last _ _ _ _ (.slice none 0 0) 1 (by decide) hp (blk_chg (BlkIs.one (by repeat (first | with_reducible assumption | ((with_reducible refine BlkIs.new ?hg ?hf); (case hg => (simp; done)); (case hf => first | rfl | (simp; done))) | with_reducible refine BlkIs.alloc ?_ | with_reducible refine BlkIs.drewN ?_ | with_reducible refine BlkIs.drew ?_ | with_reducible refine BlkIs.set ?_ | ((with_reducible refine BlkIs.far ?_ ?hne); (case hne => first | (simp; done) | omega | (simp; omega))) | with_reducible refine BlkIs.below ?_ (by assumption) | ((with_reducible refine BlkIs.chg ?_ (by assumption) ?hnn); (case hnn => first | (simp; done) | omega | (simp; omega) | (intro hs; have := hs.1; omega))) | ((with_reducible refine BlkIs.of (by assumption) ?hf); (case hf => first | rfl | (simp; done)))))) hch (by omega)) (by omega)).mono ?_
    rintro e u' w4 ⟨rfl, rfl, hch4, q1, q2⟩
    exact ⟨.tuple #[.slice none 0 0, .int .i64 1, .int .i64 0], rresults (rs := [.cell 4 22, .cell 5 25, .cell 6 3]) rfl (by simp) (.cell w.heap.size rfl (load_one (t := 22) q1 (by kernel_rfl)) (.cell (w.heap.size + 1) rfl (load_one (t := 25) q2 (by kernel_rfl)) (.cell (w.heap.size + 1 + 1) rfl (load_one (t := 3) ⟨_, blk_chg hq hch4 (by omega), rfl⟩ (by kernel_rfl)) .nil))), _, by rw [HE.out], by rw [HE.out]; exact Kd.R_nil _ _ _ _ _, below_chg (below_chg (by repeat (first | with_reducible assumption | with_reducible exact Below.refl _ _ | with_reducible refine below_alloc ?_ _ | with_reducible refine pw_below_drewN ?_ _ | with_reducible refine below_drew1 ?_ | ((with_reducible refine below_set ?_ ?hle); (case hle => first | (simp; done) | omega | (simp; omega))) | with_reducible refine below_step ?_ (by assumption))) hch (by omega)) hch4 (by omega)⟩

set_option maxHeartbeats 4000000 in
theorem Count_any (enc : Int) (A : Option Addr) (n c : Nat) (l : List Int) (w : World) (hnc : n ≤ c) (hC : Kd.C (Kd.int .u8) w A n l) (hx : Byt l) :
    Calls Try.prog 25 #[.int .i64 enc, .slice A n c] w fun r w' => r = .returned (.tuple #[.int .i64 (decodeC enc l).1.length, .int .i64 (decodeC enc l).2.1, .int .i64 (decodeC enc l).2.2]) ∧ Below w.heap.size w w' := by
  have HC := Lib.hid hC
  clear hC
  go_enter Try.func25, Try.ntmps25
  go_wp2_with (go_at_call 20; (with_reducible refine (Decode_any enc A n c l _ hnc HC.out hx).mono ?_); rintro e w1 ⟨v, rfl, hv, hb⟩; obtain ⟨A1, c1, rfl⟩ := Kd.R_slice hv)
  exact bodyPost_ret (v := .tuple #[.int .i64 (decodeC enc l).1.length, .int .i64 (decodeC enc l).2.1, .int .i64 (decodeC enc l).2.2]) (by simp [results, Try.results25, go_sem]) rfl ⟨rfl, hb⟩
end Go.Proofs.Ytcekghcejmhhaaa
