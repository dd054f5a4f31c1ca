/- nat: two numbers are compared from the greatest element down (a range over slices.Backward). nat: a result in new memory; products and the like by a road. -/
import Derived.Test.YtiplbpfdkcddlaaDoorProg
import Derived.Test.YtiplbpfdkcddlaaDoorJD3
import Derived.RangeFuncBox
import Derived.RangeFuncLeaves
import Derived.RangeFuncOwn
import Derived.RangeFuncMany
import Derived.Shelf.Abstract
import Derived.WalkKit
import Derived.OwnWalkIn
import Derived.TacticsInMore
import Derived.LoopNIn
import Derived.LoopIn
import Derived.Outline
import Derived.Test.YtiplbpfdkcddlaaDoorJD5
set_option linter.unusedSimpArgs false
set_option linter.unusedVariables false
set_option linter.unnecessarySimpa false
namespace Go.Proofs.YtiplbpfdkcddlaaDoor
open Go.RowKit Go.Proofs.YtiplbpfdkcddlaaDoorW.PrintWords Go.Proofs.YtiplbpfdkcddlaaDoorW.PrintLast Go.Proofs.YtiplbpfdkcddlaaDoorW.PrintMore Go.Shelf Go.Proofs.YtiplbpfdkcddlaaDoor.NL
set_option maxRecDepth 100000
attribute [local go_sem] Oper.semAt_some

/-- What has come when k rounds are over. -/
def upto {α : Type} (f : Nat → α) (k : Nat) : List α := (List.range k).map f
theorem upto_succ {α : Type} (f : Nat → α) (k : Nat) : upto f (k + 1) = upto f k ++ [f k] := by simp [upto, List.range_succ]
theorem upto_length {α : Type} (f : Nat → α) (k : Nat) : (upto f k).length = k := by simp [upto]
theorem mem_upto {α : Type} {f : Nat → α} {k : Nat} {x : α} : x ∈ upto f k ↔ ∃ j, j < k ∧ f j = x := by simp [upto]
/-- The places that slices.Backward yields: from the last one down. -/
abbrev Pl (zs : List Int) := { j : Nat // j < zs.length }
def backF (zs : List Int) (h : 0 < zs.length) (j : Nat) : Pl zs := ⟨zs.length - 1 - j, by omega⟩
abbrev encP (zs : List Int) (x : Pl zs) : Array Value := #[.int .i64 x.1, .int .u32 (zs.getD x.1 0)]

set_option maxHeartbeats 2000000 in
theorem back1_in (Bs b off len cap : Nat) (zs : List Int) (hz : zs.length = len) (hp : 0 < zs.length) (hreach : len * 4 ≤ 140737488351232) (Kp : World → World → Prop) (hKc : ∀ W W', Kp W W' → W'.cell? ⟨Bs, 0, none⟩ = W.cell? ⟨Bs, 0, none⟩ ∧ ∀ j, W'.cell? ⟨b, off + j, none⟩ = W.cell? ⟨b, off + j, none⟩) (l : Nat) (J Jx : List (Pl zs) → World → Prop)
    (hY : ∀ pre x W, J pre W → pre.length < len → YieldAt Fence.wide (3 - 1 - 1) Tryd.prog l (encP zs x) W fun e W' =>
      (e = .returned (.bool true) ∧ J (pre ++ [x]) W' ∧ Kp W W') ∨ (e = .returned (.bool false) ∧ Jx (pre ++ [x]) W'))
    (W : World) (hBs : W.cell? ⟨Bs, 0, none⟩ = some (.slice (some ⟨b, off, none⟩) len cap)) (hc : ∀ j, j < len → W.cell? ⟨b, off + j, none⟩ = some (.int .u32 (zs.getD j 0))) (h0 : J [] W) :
    CallsIn Fence.wide (3 - 1) Tryd.prog 72 #[.func (.yield l) #[] #[], .pointer (some ⟨Bs, 0, none⟩)] W fun e W' => (∃ v, e = .returned v) ∧
      ((∃ ys, ys = upto (backF zs hp) len ∧ J ys W') ∨ (∃ pre, (∃ k, k ≤ len ∧ pre = upto (backF zs hp) k) ∧ Jx pre W')) := by
  subst hz
  have HK := Lib.hid hKc
  have HBS := Lib.hid hBs
  have HC := Lib.hid hc
  have H0 := Lib.hid h0
  clear hKc hc h0
  refine callsIn_of_wp Tryd.func72 rfl trivial ?_ rfl
  simp only [Tryd.ntmps72, List.size_toArray, List.length_cons, List.length_nil, Nat.reduceAdd, Nat.reduceSub, Array.replicate_succ, Array.replicate_zero, List.push_toArray, List.append_toArray, List.nil_append, List.cons_append]
  gi_wp2
  gi_loopw [3] (fun i wr => ∃ k : Nat, k ≤ zs.length ∧ i = .int .i64 ((zs.length : Int) - 1 - k) ∧ J (upto (backF zs hp) k) wr ∧ wr.cell? ⟨Bs, 0, none⟩ = some (.slice (some ⟨b, off, none⟩) zs.length cap) ∧ ∀ j, j < zs.length → wr.cell? ⟨b, off + j, none⟩ = some (.int .u32 (zs.getD j 0)))
    (fun i _ => (intOf i + 1).toNat)
  case atStart => exact ⟨0, Nat.zero_le _, by simp, H0.out, HBS.out, HC.out⟩
  case round =>
    obtain ⟨k, hk, rfl, hJs, hbs2, hcx⟩ := hrel
    have HBS2 := Lib.hid hbs2
    have HCX := Lib.hid hcx
    by_cases hlt : k < zs.length
    · obtain ⟨fn, tmps, assign, body, hy, hR⟩ := hY _ (backF zs hp k) wr hJs (by rw [upto_length]; exact hlt)
      dsimp only [backF, encP] at hy
      have hcx' := hcx (zs.length - 1 - k) (by omega)
      obtain ⟨d, hd⟩ : ∃ d, zs.length - 1 - k = d := ⟨_, rfl⟩
      have hdi : (zs.length : Int) - 1 - k = (d : Int) := by omega
      have hdl : d < zs.length := by omega
      rw [hd] at hy hcx'
      rw [hdi]
      obtain ⟨x, hx⟩ : ∃ x, zs.getD d 0 = x := ⟨_, rfl⟩
      rw [hx] at hy hcx'
      have HD := Lib.hid hdi
      clear hcx hd hdi hx
      gi_wp2
      refine hR.mono ?_
      rintro e W3 (⟨rfl, hJ3, hk3⟩ | ⟨rfl, hJx3⟩)
      · gi_wp2
        go_roundw
        case rel => exact ⟨k + 1, by omega, by have := HD.out; congr 1 <;> omega, by rw [upto_succ]; exact hJ3, ((HK.out _ _ hk3).1).trans HBS2.out, fun j hj => ((HK.out _ _ hk3).2 j).trans (HCX.out j hj)⟩
        case measure => simp [intOf] <;> omega
      · gi_wp2
        refine bodyPost_ret (results_none rfl _ _ _) rfl ?_
        exact ⟨⟨_, rfl⟩, .inr ⟨_, ⟨k + 1, by omega, (upto_succ _ _).symm⟩, hJx3⟩⟩
    · obtain rfl : k = zs.length := by omega
      have hm : (zs.length : Int) - 1 - (zs.length : Nat) = -1 := by omega
      rw [hm]
      clear hm
      gi_wp2
      go_end0
      exact ⟨⟨_, rfl⟩, .inl ⟨_, rfl, hJs⟩⟩

set_option maxHeartbeats 1000000 in
theorem back_in (a : Option Addr) (len cap : Nat) (w : World) :
    CallsIn Fence.wide (3 - 1) Tryd.prog 59 #[.slice a len cap] w fun e w' => e = .returned (.func (.func 72) #[] #[.pointer (some ⟨w.heap.size, 0, none⟩)]) ∧ w' = w.alloc (.cells #[.slice a len cap] 95) := by
  refine callsIn_of_wp Tryd.func59 rfl trivial ?_ rfl
  simp only [Tryd.ntmps59, List.size_toArray, List.length_cons, List.length_nil, Nat.reduceAdd, Nat.reduceSub, Array.replicate_succ, Array.replicate_zero, List.push_toArray, List.append_toArray, List.nil_append, List.cons_append]
  gi_wp2
  go_ret
  exact ⟨rfl, rfl⟩

/-- Blocks below N but R are as they were. -/
def KeepR (N R : Nat) (W W' : World) : Prop := W.heap.size ≤ W'.heap.size ∧ ∀ k, k < N → k ≠ R → W'.heap[k]? = W.heap[k]?
theorem KeepR.refl (N R : Nat) (W : World) : KeepR N R W W := ⟨Nat.le_refl _, fun _ _ _ => rfl⟩
theorem KeepR.cell {N R : Nat} {W W' : World} (h : KeepR N R W W') {b o : Nat} (hb : b < N) (hr : b ≠ R) : W'.cell? ⟨b, o, none⟩ = W.cell? ⟨b, o, none⟩ := by
  have := h.2 b hb hr
  simp [World.cell?, this]
theorem KeepR.set {N R : Nat} {W W' : World} (h : KeepR N R W W') (o : Nat) (u : Value) : KeepR N R W (W'.setCell ⟨R, o, none⟩ u) :=
  ⟨by simpa [World.setCell] using h.1, fun k hk hr => (Below.heap_setCell _ _ _ _ hr).trans (h.2 k hk hr)⟩
theorem keepR_t {N R : Nat} {A B C : World} (h : KeepR N R A B) (k : KeepR N R B C) : KeepR N R A C := ⟨Nat.le_trans h.1 k.1, fun i hi hr => (k.2 i hi hr).trans (h.2 i hi hr)⟩
theorem keepR_b {N R : Nat} {w : World} (hn : N ≤ w.heap.size) (W : World) (l : Nat) (o o' : Obj) (hl : w.heap.size ≤ l) (_ : W.heap[l]? = some o) (_ : o.isCells = false) (_ : o.isWalk = false) : KeepR N R W (W.putObj l o') :=
  ⟨by simp, fun k hk _ => World.putObj_heap_other (by omega)⟩
theorem ownFrom_keepR {β : Type} {N R B : Nat} {w₀ : World} (hN : N ≤ w₀.heap.size) (hB : N ≤ B) : OwnFrom B (fun (_ : β) W => KeepR N R w₀ W) := fun s W W' row hs hg hr =>
  ⟨Nat.le_trans hs.1 hg.size, fun k hk hk2 => (hg.block k (Nat.lt_of_lt_of_le hk (Nat.le_trans hN hs.1)) (fun e => by have := (hr k e.symm).1; omega)).trans (hs.2 k hk hk2)⟩
theorem back_stops (Bs N R b off cap : Nat) (zs : List Int) (hp : 0 < zs.length) (hreach : zs.length * 4 ≤ 140737488351232) (w : World) (hBs : Bs < N) (hBr : Bs ≠ R) (hn : N ≤ w.heap.size)
    (hc : w.cell? ⟨Bs, 0, none⟩ = some (.slice (some ⟨b, off, none⟩) zs.length cap)) (hb : b < N) (hbr : b ≠ R) (hI : ∀ j, j < zs.length → w.cell? ⟨b, off + j, none⟩ = some (.int .u32 (zs.getD j 0))) :
    SeqStopsK Fence.wide (3 - 1) Tryd.prog 72 #[.pointer (some ⟨Bs, 0, none⟩)] (encP zs) (KeepR N R) (fun ys => ys = upto (backF zs hp) zs.length)
      (fun pre => ∃ k, k ≤ zs.length ∧ pre = upto (backF zs hp) k) zs.length w := fun l J Jx W hW _ _ hY h0 => by
  have hc' := (hW.cell (p := ⟨Bs, 0, none⟩) (by show Bs < _; omega)).trans hc
  exact back1_in Bs b off zs.length cap zs rfl hp hreach (KeepR N R) (fun W W' hk => ⟨hk.cell hBs hBr, fun j => hk.cell hb hbr⟩) l J Jx hY W hc' (fun j hj => (hW.cell (p := ⟨b, off + j, none⟩) (by show b < _; omega)).trans (hI j hj)) h0

/-- How two numbers of one length compare. -/
def cmpN (m n : Nat) : Int := if m < n then -1 else if n < m then 1 else 0
def cmpS (a b : List Int) : Int := if a.length < b.length then -1 else if b.length < a.length then 1 else cmpN (val a) (val b)
theorem val_lt_top {a b : List Int} (ha : Lim a) (hb : Lim b) (hl : a.length = b.length) {j : Nat} (hj : j < a.length) (hlt : a.getD j 0 < b.getD j 0) (he : ∀ i, j < i → i < a.length → a.getD i 0 = b.getD i 0) : val a < val b := by
  have e1 : a = a.take j ++ (a.getD j 0 :: a.drop (j + 1)) := by
    rw [List.getD_eq_getElem?_getD, List.getElem?_eq_getElem hj, Option.getD_some, List.getElem_cons_drop, List.take_append_drop]
  have e2 : b = b.take j ++ (b.getD j 0 :: b.drop (j + 1)) := by
    rw [List.getD_eq_getElem?_getD, List.getElem?_eq_getElem (by omega), Option.getD_some, List.getElem_cons_drop, List.take_append_drop]
  have e3 : a.drop (j + 1) = b.drop (j + 1) := by
    apply List.ext_getElem
    · simp [hl]
    · intro i h1 h2
      have := he (j + 1 + i) (by omega) (by simp at h1; omega)
      simp only [List.length_drop] at h1 h2
      rw [List.getD_eq_getElem?_getD, List.getElem?_eq_getElem (by omega), List.getD_eq_getElem?_getD, List.getElem?_eq_getElem (by omega)] at this
      simpa using this
  have la : Lim (a.take j) := fun x hx => ha x (List.mem_of_mem_take hx)
  have hb0 : 0 ≤ a.getD j 0 := by
    have := ha (a.getD j 0) (by rw [List.getD_eq_getElem?_getD, List.getElem?_eq_getElem hj]; exact List.getElem_mem _)
    exact this.1
  have hv := val_lt la
  have hla : (a.take j).length = j := by simp; omega
  have hlb : (b.take j).length = j := by simp; omega
  rw [hla] at hv
  rw [e1, e2, val_append, val_append, hla, hlb, val, val, e3]
  have h1 : (a.getD j 0).toNat + 1 ≤ (b.getD j 0).toNat := by omega
  generalize val (b.drop (j + 1)) = t
  have h2 : 4294967296 ^ j * ((a.getD j 0).toNat + 1 + 4294967296 * t) ≤ 4294967296 ^ j * ((b.getD j 0).toNat + 4294967296 * t) := Nat.mul_le_mul_left _ (by omega)
  have h3 : 4294967296 ^ j * ((a.getD j 0).toNat + 1 + 4294967296 * t) = 4294967296 ^ j * ((a.getD j 0).toNat + 4294967296 * t) + 4294967296 ^ j := by
    rw [← Nat.mul_succ]; congr 1; omega
  omega

set_option maxHeartbeats 1000000 in
theorem cmp_lt (A B : Option Addr) (n m c d : Nat) (w : World) (h : n < m) :
    Calls Tryd.prog 49 #[.slice A n c, .slice B m d] w fun r w' => r = .returned (.int .i64 (-1)) ∧ Below w.heap.size w w' := by
  have d0 : decide (n < m) = true := decide_eq_true h
  go_enter Tryd.func49, Tryd.ntmps49
  go_wp2
  exact bodyPost_ret (v := .int .i64 (-1)) (by simp [results, Tryd.results49, go_sem]) rfl ⟨rfl, bel⟩
set_option maxHeartbeats 1000000 in
theorem cmp_gt (A B : Option Addr) (n m c d : Nat) (w : World) (h : m < n) :
    Calls Tryd.prog 49 #[.slice A n c, .slice B m d] w fun r w' => r = .returned (.int .i64 1) ∧ Below w.heap.size w w' := by
  have d0 : decide (n < m) = false := decide_eq_false (by omega)
  have d1 : decide (m < n) = true := decide_eq_true h
  go_enter Tryd.func49, Tryd.ntmps49
  go_wp2
  exact bodyPost_ret (v := .int .i64 1) (by simp [results, Tryd.results49, go_sem]) rfl ⟨rfl, bel⟩

def CmpR (a b : List Int) (w : World) (r : Ending) (w' : World) : Prop := r = .returned (.int .i64 (cmpN (val a) (val b))) ∧ Below w.heap.size w w'
theorem cmpN_self (n : Nat) : cmpN n n = 0 := by simp [cmpN]

set_option maxHeartbeats 4000000 in
theorem cmp_eq (ba oa bb ob ca cb : Nat) (a b : List Int) (w : World) (hp : 0 < a.length) (hl : b.length = a.length) (hreach : a.length * 4 ≤ 140737488351232) (hba : ba < w.heap.size) (hbb : bb < w.heap.size) (la : Lim a) (lb : Lim b)
    (hca : ∀ j, j < a.length → w.cell? ⟨ba, oa + j, none⟩ = some (.int .u32 (a.getD j 0))) (hcb : ∀ j, j < a.length → w.cell? ⟨bb, ob + j, none⟩ = some (.int .u32 (b.getD j 0))) :
    CallsIn Fence.wide 3 Tryd.prog 49 #[.slice (some ⟨ba, oa, none⟩) a.length ca, .slice (some ⟨bb, ob, none⟩) a.length cb] w (CmpR a b w) := by
  have HL := Lib.hid hl
  have HCA := Lib.hid hca
  have HCB := Lib.hid hcb
  clear hl hca hcb
  have d0 : decide (a.length < a.length) = false := decide_eq_false (by omega)
  refine callsIn_of_wp_marks Tryd.func49 rfl trivial ?_ rfl
  simp only [Tryd.ntmps49, List.size_toArray, List.length_cons, List.length_nil, Nat.reduceAdd, Nat.reduceSub, Array.replicate_succ, Array.replicate_zero, List.push_toArray, List.append_toArray, List.nil_append, List.cons_append]
  have hfn : Fence.wide.fn 59 := trivial
  gi_wp2_with (gi_at_call 59; refine (back_in _ _ _ _).mono ?_; rintro e w' ⟨rfl, rfl⟩)
  have bB := Boxed.new w 95 (.slice (some ⟨bb, ob, none⟩) a.length cb)
  have bR := Boxed.new (w.alloc (.cells #[.slice (some ⟨bb, ob, none⟩) a.length cb] 95)) 3 (.int .i64 0)
  rw [World.size_alloc] at bR
  have bS := Boxed.new ((w.alloc (.cells #[.slice (some ⟨bb, ob, none⟩) a.length cb] 95)).alloc (.cells #[.int .i64 0] 3)) 95 (.slice (some ⟨ba, oa, none⟩) a.length ca)
  rw [World.size_alloc, World.size_alloc] at bS
  have bB2 := (bB.alloc (.cells #[.int .i64 0] 3)).alloc (.cells #[.slice (some ⟨ba, oa, none⟩) a.length ca] 95)
  have bR2 := bR.alloc (.cells #[.slice (some ⟨ba, oa, none⟩) a.length ca] 95)
  have hB0 : Below w.heap.size w (((w.alloc (.cells #[.slice (some ⟨bb, ob, none⟩) a.length cb] 95)).alloc (.cells #[.int .i64 0] 3)).alloc (.cells #[.slice (some ⟨ba, oa, none⟩) a.length ca] 95)) := bel
  have hz0 : (((w.alloc (.cells #[.slice (some ⟨bb, ob, none⟩) a.length cb] 95)).alloc (.cells #[.int .i64 0] 3)).alloc (.cells #[.slice (some ⟨ba, oa, none⟩) a.length ca] 95)).heap.size = w.heap.size + 3 := by simp
  generalize (((w.alloc (.cells #[.slice (some ⟨bb, ob, none⟩) a.length cb] 95)).alloc (.cells #[.int .i64 0] 3)).alloc (.cells #[.slice (some ⟨ba, oa, none⟩) a.length ca] 95)) = w0 at *
  clear bB bR
  have HCW : Hid (∀ W, KeepR (w.heap.size + 3) (w.heap.size + 1) w0 W → (∀ j, j < a.length → W.cell? ⟨ba, oa + j, none⟩ = some (.int .u32 (a.getD j 0))) ∧ (∀ j, j < a.length → W.cell? ⟨bb, ob + j, none⟩ = some (.int .u32 (b.getD j 0))) ∧ W.cell? ⟨w.heap.size, 0, none⟩ = some (.slice (some ⟨bb, ob, none⟩) a.length cb)) := Lib.hid fun W hk =>
    ⟨fun j hj => (hk.cell (by omega) (by omega)).trans ((hB0.cell (p := ⟨ba, oa + j, none⟩) hba).trans (HCA.out j hj)), fun j hj => (hk.cell (by omega) (by omega)).trans ((hB0.cell (p := ⟨bb, ob + j, none⟩) hbb).trans (HCB.out j hj)), (hk.cell (by omega) (by omega)).trans bB2.cell⟩
  refine wpIn_rangeFunc_ownG rfl (by decide) (gf := 72) (lb := #[.pointer (some ⟨w.heap.size + 1 + 1, 0, none⟩)]) rfl trivial (enters_of Tryd.func72 (by kernel_rfl) rfl)
    (back_stops (w.heap.size + 1 + 1) (w.heap.size + 3) (w.heap.size + 1) ba oa ca a hp hreach w0 (by omega) (by omega) (by omega) bS.cell (by omega) (by omega) (HCW.out w0 (KeepR.refl _ _ _)).1) keepR_t (keepR_b (by omega)) (Below.refl _ _) (fun _ => rfl)
    (fun pre W => ((∀ p ∈ pre, a.getD p.1 0 = b.getD p.1 0) ∧ W.cell? ⟨w.heap.size + 1, 0, none⟩ = some (.int .i64 0) ∧ W.frozen? ⟨w.heap.size + 1, 0, none⟩ = false) ∧ KeepR (w.heap.size + 3) (w.heap.size + 1) w0 W ∧ Below w.heap.size w W)
    (fun c pre W => (c = .ret ∧ ∃ (ini : List (Pl a)) (last : Pl a) (v : Int), pre = ini ++ [last] ∧ (∀ p ∈ ini, a.getD p.1 0 = b.getD p.1 0) ∧ ((a.getD last.1 0 < b.getD last.1 0 ∧ v = -1) ∨ (b.getD last.1 0 < a.getD last.1 0 ∧ v = 1)) ∧ W.cell? ⟨w.heap.size + 1, 0, none⟩ = some (.int .i64 v)) ∧ Below w.heap.size w W)
    (OwnFrom.and (Own.from (fun s A B row hs hg hr => ⟨hs.1, cell_kept hs.2.1 hg hr, (frozen_kept hs.2.1 hg hr).trans hs.2.2⟩) _) (OwnFrom.and (ownFrom_keepR (by omega) (by omega)) (ownFrom_below (Nat.le_refl _) (by omega))))
    (fun c => OwnFrom.and (Own.from (fun s A B row hs hg hr => by obtain ⟨hc, ini, last, v, e1, e2, e3, e4⟩ := hs; exact ⟨hc, ini, last, v, e1, e2, e3, cell_kept e4 hg hr⟩) _) (ownFrom_below (Nat.le_refl _) (by omega)))
    ⟨⟨(by intro p h9; cases h9), bR2.cell, bR2.frozen⟩, KeepR.refl _ _ _, hB0⟩
    (fun x : Pl a => { tmps := #[.slice (some ⟨ba, oa, none⟩) a.length ca, .slice (some ⟨bb, ob, none⟩) a.length cb, undef, .pointer (some ⟨w.heap.size, 0, none⟩), .pointer (some ⟨w.heap.size + 1, 0, none⟩), .int .i64 x.1, .int .u32 (a.getD x.1 0), .bool false, .slice (some ⟨ba, oa, none⟩) a.length ca, .int .i64 a.length, .slice (some ⟨bb, ob, none⟩) a.length cb, .int .i64 a.length, .bool false, .bool false, .slice (some ⟨ba, oa, none⟩) a.length ca, .int .i64 a.length, .slice (some ⟨bb, ob, none⟩) a.length cb, .int .i64 a.length, .bool false, .slice (some ⟨ba, oa, none⟩) a.length ca, .func (.func 72) #[] #[.pointer (some ⟨w.heap.size + 1 + 1, 0, none⟩)], .int .i64 x.1, .int .u32 (a.getD x.1 0), undef, undef, undef, undef, undef, undef, undef, undef, undef, undef, undef, undef, undef, undef], defers := [] }) ?assign ?body ?done ?stop
  case assign =>
    intro l x W K hK
    gi_wp2
    exact hK
  case body =>
    rintro l pre ⟨j, hj⟩ W ⟨⟨hpre, hcr, hfr⟩, hK, hB⟩ hN
    obtain ⟨h1, h2, h3⟩ := HCW.out W hK
    have h2' := h2 j hj
    have HJ := Lib.hid hpre
    obtain ⟨x, hx⟩ : ∃ x, a.getD j 0 = x := ⟨_, rfl⟩
    obtain ⟨y, hy⟩ : ∃ y, b.getD j 0 = y := ⟨_, rfl⟩
    have HX := Lib.hid hx
    have HY := Lib.hid hy
    rw [hy] at h2'
    dsimp only
    rw [hx]
    have hj2 : (j : Int) < (a.length : Int) := by omega
    clear h1 h2 hpre hx hy hN
    gi_wp2
    · have hlt : x < y := by assumption
      exact ⟨(KeepsOthers.setCell _ _ _).from _, ⟨rfl, pre, ⟨j, hj⟩, -1, rfl, HJ.out, .inl ⟨by show a.getD j 0 < b.getD j 0; rw [HX.out, HY.out]; exact hlt, rfl⟩, World.cell?_setCell_same' _ _ _ (by rw [hcr]; rfl)⟩, hB.setCell (p := ⟨w.heap.size + 1, 0, none⟩) (by simp) _⟩
    · have hlt : y < x := by assumption
      exact ⟨(KeepsOthers.setCell _ _ _).from _, ⟨rfl, pre, ⟨j, hj⟩, 1, rfl, HJ.out, .inr ⟨by show b.getD j 0 < a.getD j 0; rw [HX.out, HY.out]; exact hlt, rfl⟩, World.cell?_setCell_same' _ _ _ (by rw [hcr]; rfl)⟩, hB.setCell (p := ⟨w.heap.size + 1, 0, none⟩) (by simp) _⟩
    · have e1 : y ≤ x := by assumption
      have e2 : x ≤ y := by assumption
      exact ⟨KeepsFrom.refl _ _, KeepR.refl _ _ _, ⟨fun p hp' => (List.mem_append.1 hp').elim (HJ.out p) (fun e => by simp at e; subst e; show a.getD j 0 = b.getD j 0; rw [HX.out, HY.out]; omega), hcr, hfr⟩, hK, hB⟩
  case done =>
    rintro D ys W hD rfl ⟨⟨hne, hcr, hfr⟩, hK, hB⟩ hd
    have he : Hid (val a = val b) := Lib.hid (by
      have : a = b := by
        apply List.ext_getElem
        · exact HL.out.symm
        · intro i h1 h2
          have := hne ⟨i, h1⟩ (mem_upto.2 ⟨a.length - 1 - i, by omega, by unfold backF; congr 1; omega⟩)
          simpa [h1, h2] using this
      rw [this])
    clear hne
    gi_wp2
    have hK' := (KeepsOthers.setCell W ⟨w.heap.size + 1, 0, none⟩ (.int .i64 0)).same D _ hd rfl
    refine ⟨by simp, .inl ⟨_, _, rfl, run_takeDeferred hK', ?_⟩⟩
    have hc5 := cell_kept (World.cell?_setCell_same' W ⟨w.heap.size + 1, 0, none⟩ (.int .i64 0) (by rw [hcr]; rfl)) (grownBy_putObj' _ D (.deferred none)) (fun r e => by cases e; exact ⟨_, hK', rfl⟩)
    refine ⟨.int .i64 0, ?_, ⟨by rw [he.out, cmpN_self], (hB.setCell (p := ⟨w.heap.size + 1, 0, none⟩) (by simp) _).trans (belowK_b (w := w) (Nat.le_refl _) _ D _ _ (by omega) hK' rfl rfl)⟩⟩
    simp [results, Tryd.f49, go_sem, hc5]
  case stop =>
    rintro D c pre W hD ⟨k, hk, rfl⟩ ⟨⟨rfl, ini, last, v, e1, e2, e3, hcr⟩, hB⟩ hd
    obtain ⟨k', rfl⟩ : ∃ k', k = k' + 1 := by
      cases k with
      | zero => simp [upto] at e1
      | succ k' => exact ⟨k', rfl⟩
    rw [upto_succ] at e1
    obtain ⟨rfl, e5⟩ := List.append_inj' e1 rfl
    obtain rfl : backF a hp k' = last := by simpa using e5
    have hv : Hid (cmpN (val a) (val b) = v) := Lib.hid (by
      have heq : ∀ i, a.length - 1 - k' < i → i < a.length → a.getD i 0 = b.getD i 0 := fun i h1 h2 => e2 ⟨i, h2⟩ (mem_upto.2 ⟨a.length - 1 - i, by omega, by unfold backF; congr 1; omega⟩)
      rcases e3 with ⟨e3, rfl⟩ | ⟨e3, rfl⟩
      · have := val_lt_top la lb HL.out.symm (j := a.length - 1 - k') (by omega) e3 heq
        simp [cmpN, this]
      · have := val_lt_top lb la HL.out (j := a.length - 1 - k') (by have := HL.out; omega) e3 (fun i h1 h2 => (heq i h1 (by have := HL.out; omega)).symm)
        have h2 : ¬ val a < val b := by omega
        simp [cmpN, this, h2])
    clear e1 e2 e3 e5
    gi_wp2
    refine ⟨by simp, .inl ⟨_, _, rfl, run_takeDeferred hd, ?_⟩⟩
    have hc5 := cell_kept hcr (grownBy_putObj' _ D (.deferred none)) (fun r e => by cases e; exact ⟨_, hd, rfl⟩)
    refine ⟨.int .i64 v, ?_, ⟨by rw [hv.out], hB.trans (belowK_b (w := w) (Nat.le_refl _) W D _ _ (by omega) hd rfl rfl)⟩⟩
    simp [results, Tryd.f49, go_sem, hc5]

set_option maxHeartbeats 1000000 in
theorem back0_in (Bs : Nat) (A : Option Addr) (c : Nat) (l : Nat) (J : List Unit → World → Prop) (W : World) (hBs : W.cell? ⟨Bs, 0, none⟩ = some (.slice A 0 c)) (h0 : J [] W) :
    CallsIn Fence.wide (3 - 1) Tryd.prog 72 #[.func (.yield l) #[] #[], .pointer (some ⟨Bs, 0, none⟩)] W fun e W' => (∃ v, e = .returned v) ∧ J [] W' := by
  refine callsIn_of_wp Tryd.func72 rfl trivial ?_ rfl
  simp only [Tryd.ntmps72, List.size_toArray, List.length_cons, List.length_nil, Nat.reduceAdd, Nat.reduceSub, Array.replicate_succ, Array.replicate_zero, List.push_toArray, List.append_toArray, List.nil_append, List.cons_append]
  gi_wp2
  gi_loopw [3] (fun i wr => i = .int .i64 (-1) ∧ J [] wr) (fun _ _ => 0)
  case atStart => exact ⟨by simp, h0⟩
  case round =>
    obtain ⟨rfl, hJs⟩ := hrel
    gi_wp2
    go_end0
    exact ⟨⟨_, rfl⟩, hJs⟩

set_option maxHeartbeats 2000000 in
theorem cmp_zero (A B : Option Addr) (c d : Nat) (w : World) :
    CallsIn Fence.wide 3 Tryd.prog 49 #[.slice A 0 c, .slice B 0 d] w fun r w' => r = .returned (.int .i64 0) ∧ Below w.heap.size w w' := by
  refine callsIn_of_wp_marks Tryd.func49 rfl trivial ?_ rfl
  simp only [Tryd.ntmps49, List.size_toArray, List.length_cons, List.length_nil, Nat.reduceAdd, Nat.reduceSub, Array.replicate_succ, Array.replicate_zero, List.push_toArray, List.append_toArray, List.nil_append, List.cons_append]
  have hfn : Fence.wide.fn 59 := trivial
  gi_wp2_with (gi_at_call 59; refine (back_in _ _ _ _).mono ?_; rintro e w' ⟨rfl, rfl⟩)
  have bR := Boxed.new (w.alloc (.cells #[.slice B 0 d] 95)) 3 (.int .i64 0)
  rw [World.size_alloc] at bR
  have bS := Boxed.new ((w.alloc (.cells #[.slice B 0 d] 95)).alloc (.cells #[.int .i64 0] 3)) 95 (.slice A 0 c)
  rw [World.size_alloc, World.size_alloc] at bS
  have bR2 := bR.alloc (.cells #[.slice A 0 c] 95)
  have hB0 : Below w.heap.size w (((w.alloc (.cells #[.slice B 0 d] 95)).alloc (.cells #[.int .i64 0] 3)).alloc (.cells #[.slice A 0 c] 95)) := bel
  have hz0 : (((w.alloc (.cells #[.slice B 0 d] 95)).alloc (.cells #[.int .i64 0] 3)).alloc (.cells #[.slice A 0 c] 95)).heap.size = w.heap.size + 3 := by simp
  generalize (((w.alloc (.cells #[.slice B 0 d] 95)).alloc (.cells #[.int .i64 0] 3)).alloc (.cells #[.slice A 0 c] 95)) = w0 at *
  clear bR
  have hseq : SeqStopsK Fence.wide (3 - 1) Tryd.prog 72 #[.pointer (some ⟨w.heap.size + 1 + 1, 0, none⟩)] (fun _ : Unit => #[Value.int .i64 0, Value.int .u32 0]) (Below w.heap.size) (fun ys => ys = []) (fun _ => False) 0 w0 := fun l J Jx W hW _ _ _ h0 =>
    (back0_in _ A c l J W ((hW.cell (p := ⟨w.heap.size + 1 + 1, 0, none⟩) (by show w.heap.size + 1 + 1 < _; omega)).trans bS.cell) h0).mono fun e W' ⟨he, hj⟩ => ⟨he, .inl ⟨[], rfl, hj⟩⟩
  refine wpIn_rangeFunc_ownG rfl (by decide) (gf := 72) (lb := #[.pointer (some ⟨w.heap.size + 1 + 1, 0, none⟩)]) rfl trivial (enters_of Tryd.func72 (by kernel_rfl) rfl)
    hseq belowK_t (belowK_b (by omega)) (Below.refl _ _) (fun _ => rfl)
    (fun pre W => (W.cell? ⟨w.heap.size + 1, 0, none⟩ = some (.int .i64 0) ∧ W.frozen? ⟨w.heap.size + 1, 0, none⟩ = false) ∧ Below w.heap.size w W)
    (fun _ _ _ => False)
    (OwnFrom.and (Own.from (fun s A B row hs hg hr => ⟨cell_kept hs.1 hg hr, (frozen_kept hs.1 hg hr).trans hs.2⟩) _) (ownFrom_below (Nat.le_refl _) (by omega)))
    (fun _ _ _ _ _ hs _ _ => hs)
    ⟨⟨bR2.cell, bR2.frozen⟩, hB0⟩
    (fun x : Unit => { tmps := #[.slice A 0 c, .slice B 0 d, undef, .pointer (some ⟨w.heap.size, 0, none⟩), .pointer (some ⟨w.heap.size + 1, 0, none⟩), .int .i64 0, .int .u32 0, .bool false, .slice A 0 c, .int .i64 0, .slice B 0 d, .int .i64 0, .bool false, .bool false, .slice A 0 c, .int .i64 0, .slice B 0 d, .int .i64 0, .bool false, .slice A 0 c, .func (.func 72) #[] #[.pointer (some ⟨w.heap.size + 1 + 1, 0, none⟩)], .int .i64 0, .int .u32 0, undef, undef, undef, undef, undef, undef, undef, undef, undef, undef, undef, undef, undef, undef], defers := [] }) ?assign ?body ?done ?stop
  case assign =>
    intro l x W K hK
    gi_wp2
    exact hK
  case body =>
    rintro l pre x W _ hN
    exact absurd hN (by omega)
  case done =>
    rintro D ys W hD rfl ⟨⟨hcr, hfr⟩, hB⟩ hd
    gi_wp2
    have hK' := (KeepsOthers.setCell W ⟨w.heap.size + 1, 0, none⟩ (.int .i64 0)).same D _ hd rfl
    refine ⟨by simp, .inl ⟨_, _, rfl, run_takeDeferred hK', ?_⟩⟩
    have hc5 := cell_kept (World.cell?_setCell_same' W ⟨w.heap.size + 1, 0, none⟩ (.int .i64 0) (by rw [hcr]; rfl)) (grownBy_putObj' _ D (.deferred none)) (fun r e => by cases e; exact ⟨_, hK', rfl⟩)
    refine ⟨.int .i64 0, ?_, ⟨rfl, (hB.setCell (p := ⟨w.heap.size + 1, 0, none⟩) (by simp) _).trans (belowK_b (w := w) (Nat.le_refl _) _ D _ _ (by omega) hK' rfl rfl)⟩⟩
    simp [results, Tryd.f49, go_sem, hc5]
  case stop =>
    rintro D c pre W hD h
    exact h.elim

/-- How two numbers compare: every two lists of elements. -/
theorem cmp_any (A B : Option Addr) (n m c d : Nat) (a b : List Int) (w : World) (hA : Kd.C (Kd.int .u32) w A n a) (hB : Kd.C (Kd.int .u32) w B m b) (hreach : n * 4 ≤ 140737488351232) (la : Lim a) (lb : Lim b) :
    Calls Tryd.prog 49 #[.slice A n c, .slice B m d] w fun r w' => r = .returned (.int .i64 (cmpS a b)) ∧ Below w.heap.size w w' := by
  have h1 : a.length = n := hA.1
  have h2 : b.length = m := hB.1
  unfold cmpS
  rw [h1, h2]
  rcases Nat.lt_trichotomy n m with h | h | h
  · rw [if_pos h]; exact cmp_lt A B n m c d w h
  · subst h
    rw [if_neg (by omega), if_neg (by omega)]
    rcases Nat.eq_zero_or_pos n with h0 | h0
    · subst h0
      have ea : a = [] := List.eq_nil_of_length_eq_zero h1
      have eb : b = [] := List.eq_nil_of_length_eq_zero h2
      subst ea; subst eb
      rw [cmpN_self]
      exact callsIn_wide.1 (cmp_zero A B c d w)
    · obtain ⟨ba, oa, rfl, hba, hca⟩ := open_C hA h0
      obtain ⟨bb, ob, rfl, hbb, hcb⟩ := open_C hB h0
      subst h1
      exact callsIn_wide.1 (cmp_eq ba oa bb ob c d a b w h0 h2 hreach hba hbb la lb hca hcb)
  · rw [if_neg (by omega), if_pos h]; exact cmp_gt A B n m c d w h
end Go.Proofs.YtiplbpfdkcddlaaDoor

set_option linter.unusedSimpArgs false
set_option linter.unusedVariables false
set_option linter.unnecessarySimpa false
namespace Go.Proofs.YtiplbpfdkcddlaaDoor
open Go.RowKit Go.Proofs.YtiplbpfdkcddlaaDoorW.PrintWords Go.Proofs.YtiplbpfdkcddlaaDoorW.PrintLast Go.Proofs.YtiplbpfdkcddlaaDoorW.PrintMore Go.Proofs.YtiplbpfdkcddlaaDoor.NL
set_option maxRecDepth 100000

set_option maxHeartbeats 1000000 in
theorem given_ok {A : Option Addr} {n c N : Nat} {w : World} (h : Num w A n c N) (hn : n ≤ 1024) : Calls Tryd.prog 60 #[.slice A n c] w (NewRow w (ofN N)) := by
  have H : Hid (∀ w', Below w.heap.size w w' → Calls Tryd.prog 73 #[.slice A n c] w' (NewRow w' (ofN N))) := Lib.hid fun w' hb => clone_limbs A n c _ w' (Num.below h hb).out.2 (by omega)
  have d0 : decide ((n : Int) ≤ 1024) = true := decide_eq_true (by omega)
  clear h
  go_enter Tryd.func60, Tryd.ntmps60
  go_wp2_with (first | (go_at_call 56; (with_reducible refine (nneed_true _ _).mono ?_); rintro e w1 ⟨rfl, rfl⟩) | (go_at_call 73; (with_reducible refine (H.out _ bel).mono ?_); rintro e w1 ⟨v1, rfl, hv1, hb1⟩; obtain ⟨A1, c1, rfl⟩ := Kd.R_slice hv1; have HV := Lib.hid hv1; clear hv1))
  go_ret
  exact ⟨_, rfl, HV.out, hb1⟩
set_option maxHeartbeats 1000000 in
theorem given_no {A : Option Addr} {n c : Nat} {w : World} (hn : 1024 < n) : Calls Tryd.prog 60 #[.slice A n c] w fun e w' => e = .panicked (natFail 2) ∧ w = w' := by
  have d0 : decide ((n : Int) ≤ 1024) = false := decide_eq_false (by omega)
  go_enter Tryd.func60, Tryd.ntmps60
  go_wp2_with (go_at_call 56; (with_reducible refine (nneed_false _ _).mono ?_); rintro e w1 ⟨rfl, rfl⟩)
  exact ⟨rfl, rfl, rfl⟩

/-- A number and an error come back. -/
def NumErr (xs : List Int) (er : Int) (w : World) (e : Ending) (w' : World) : Prop := ∃ v, e = .returned (.tuple #[v, .int .i64 er]) ∧ Kd.R (Kd.int .u32) 46 w' w.heap.size (fun _ => True) v xs ∧ Below w.heap.size w w'
theorem NumErr.of_nil {w w' : World} {er : Int} (h : Below w.heap.size w w') : NumErr [] er w (.returned (.tuple #[.slice none 0 0, .int .i64 er])) w' := ⟨_, rfl, Kd.R_nil _ _ _ _ _, h⟩

/-- Two rows beside each other, as 'taken' gets them. -/
theorem two_ok {A B : Option Addr} {n m c d : Nat} {a b : List Int} {w w' : World} (g : Nat) (hA : Kd.C (Kd.int .u32) w A n a) (hB : Kd.C (Kd.int .u32) w B m b) (la : Lim a) (lb : Lim b) (hb : Below w.heap.size w w')
    (hk : BlkIs w' g 32 (· = #[.slice A n c, .slice B m d])) : Calls Tryd.prog 48 #[.slice (some ⟨g, 0, none⟩) 2 2] w' (TakenP (okN a && okN b) w') := by
  obtain ⟨cs, hg, rfl⟩ := hk
  have h0 : w'.cell? ⟨g, 0, none⟩ = some (.slice A n c) := by simpa using blk_cell hg 0
  have h1 : w'.cell? ⟨g, 1, none⟩ = some (.slice B m d) := by simpa using blk_cell hg 1
  refine taken_any g 2 2 (fun j => if j = 0 then A else B) (fun j => if j = 0 then n else m) (fun j => if j = 0 then c else d) (fun j => if j = 0 then okN a else okN b) _ ?_ w' (by omega) ?_ ?_
  · constructor
    · intro h j hj
      simp only [Bool.and_eq_true] at h
      split
      · exact h.1
      · exact h.2
    · intro h
      have e0 := h 0 (by omega)
      have e1 := h 1 (by omega)
      simp at e0 e1
      simp [e0, e1]
  · intro j hj
    rcases (by omega : j = 0 ∨ j = 1) with rfl | rfl
    · exact h0
    · exact h1
  · intro j hj
    rcases (by omega : j = 0 ∨ j = 1) with rfl | rfl
    · exact valid_any A n c a w' (Kd.C_below hA hb) la
    · exact valid_any B m d b w' (Kd.C_below hB hb) lb
theorem one_ok {A : Option Addr} {n c : Nat} {a : List Int} {w w' : World} (g : Nat) (hA : Kd.C (Kd.int .u32) w A n a) (la : Lim a) (hb : Below w.heap.size w w')
    (hk : BlkIs w' g 32 (· = #[.slice A n c])) : Calls Tryd.prog 48 #[.slice (some ⟨g, 0, none⟩) 1 1] w' (TakenP (okN a) w') := by
  obtain ⟨cs, hg, rfl⟩ := hk
  have h0 : w'.cell? ⟨g, 0, none⟩ = some (.slice A n c) := by simpa using blk_cell hg 0
  refine taken_any g 1 1 (fun _ => A) (fun _ => n) (fun _ => c) (fun _ => okN a) _ ?_ w' (by omega) ?_ ?_
  · exact ⟨fun h _ _ => h, fun h => h 0 (by omega)⟩
  · intro j hj
    obtain rfl : j = 0 := by omega
    exact h0
  · intro j hj
    exact valid_any A n c a w' (Kd.C_below hA hb) la

set_option maxHeartbeats 2000000 in
theorem multiplied_ok (f : Nat) {A B : Option Addr} {n m c d : Nat} {a b : List Int} (w : World) (hA : Kd.C (Kd.int .u32) w A n a) (hB : Kd.C (Kd.int .u32) w B m b) (la : Lim a) (lb : Lim b) {N : Nat} (hok : (okN a && okN b) = true) (hf : ∀ w', Below w.heap.size w w' → Calls Tryd.prog f #[.slice A n c, .slice B m d] w' (Gives N w')) (hN : (ofN N).length ≤ 1024) (ef : ∀ args w, (callFunc f args).run Tryd.prog w = .ok (.enter f args) w) :
    Calls Tryd.prog 51 #[.slice A n c, .slice B m d, .agg #[.func (.func f) #[] #[], .nilFunc]] w (NumErr (ofN N) 0 w) := by
  have HT : Hid (∀ (g : Nat) w', Below w.heap.size w w' → BlkIs w' g 32 (· = #[.slice A n c, .slice B m d]) → Calls Tryd.prog 48 #[.slice (some ⟨g, 0, none⟩) 2 2] w' (TakenP true w')) := Lib.hid fun g w' h h0 => by
    have := two_ok g hA hB la lb h h0
    rw [hok] at this
    exact this
  have HEF := Lib.hid ef
  clear hA hB hok ef
  have HF := Lib.hid hf
  clear hf
  go_enter_defers Tryd.func51, Tryd.ntmps51
  go_wp2_with fail
  refine (HT.out _ _ bel blk0).mono ?_
  rintro e w1 ⟨rfl, rfl⟩
  have ef := HEF.out
  go_wp2_with fail
  refine (HF.out _ bel).mono ?_
  rintro e w1 ⟨A1, n1, c1, rfl, h1, b1⟩
  clear ef
  have l1 := Num.len h1
  rw [l1] at hN
  clear l1
  obtain ⟨hc1, hf1⟩ := bcell b1
  have hz1 := below_size b1
  simp at hz1
  have z0 : w.heap.size < w1.heap.size := by omega
  have z1 : w.heap.size + 1 < w1.heap.size := by omega
  go_wp2_with fail
  refine (given_ok h1 hN).mono ?_
  rintro e w2 ⟨v2, rfl, hv2, b2⟩
  obtain ⟨A2, c2, rfl⟩ := Kd.R_slice hv2
  have HV := Lib.hid hv2
  clear hv2
  obtain ⟨hc2, hf2⟩ := bcell b2
  have hz2 := below_size b2
  have y0 : w.heap.size < w2.heap.size := by omega
  have y1 : w.heap.size + 1 < w2.heap.size := by omega
  go_wp2
  (refine leaves_cons (f := 47) (args := #[.pointer (some ⟨w.heap.size + 1, 0, none⟩)]) (by simp) (by simp [go_sem]) ?_; refine (ncaught_idle _ _).mono ?_; rintro e u' w'' ⟨rfl, rfl, rfl⟩)
  exact ⟨.tuple #[.slice A2 (ofN N).length c2, .int .i64 0], rresults (rs := [.tmp 6, .cell 7 25]) rfl (by simp) (.tmp rfl (.cell (w.heap.size + 1) rfl (load_one (t := 25) blk0 (by kernel_rfl)) .nil)), ⟨_, rfl, Kd.R_set (Kd.R_lower HV.out (by omega)) (cells := #[.int .i64 0]) (t := 25) (BlkIs.one blk0) (by decide) 0 _, bel⟩⟩
set_option maxHeartbeats 2000000 in
theorem multiplied_limit (f : Nat) {A B : Option Addr} {n m c d : Nat} {a b : List Int} (w : World) (hA : Kd.C (Kd.int .u32) w A n a) (hB : Kd.C (Kd.int .u32) w B m b) (la : Lim a) (lb : Lim b) {N : Nat} (hok : (okN a && okN b) = true) (hf : ∀ w', Below w.heap.size w w' → Calls Tryd.prog f #[.slice A n c, .slice B m d] w' (Gives N w')) (hN : 1024 < (ofN N).length) (ef : ∀ args w, (callFunc f args).run Tryd.prog w = .ok (.enter f args) w) :
    Calls Tryd.prog 51 #[.slice A n c, .slice B m d, .agg #[.func (.func f) #[] #[], .nilFunc]] w (NumErr [] 2 w) := by
  have HT : Hid (∀ (g : Nat) w', Below w.heap.size w w' → BlkIs w' g 32 (· = #[.slice A n c, .slice B m d]) → Calls Tryd.prog 48 #[.slice (some ⟨g, 0, none⟩) 2 2] w' (TakenP true w')) := Lib.hid fun g w' h h0 => by
    have := two_ok g hA hB la lb h h0
    rw [hok] at this
    exact this
  have HEF := Lib.hid ef
  clear hA hB hok ef
  have HF := Lib.hid hf
  clear hf
  go_enter_defers Tryd.func51, Tryd.ntmps51
  go_wp2_with fail
  refine (HT.out _ _ bel blk0).mono ?_
  rintro e w1 ⟨rfl, rfl⟩
  have ef := HEF.out
  go_wp2_with fail
  refine (HF.out _ bel).mono ?_
  rintro e w1 ⟨A1, n1, c1, rfl, h1, b1⟩
  clear ef
  have l1 := Num.len h1
  rw [l1] at hN
  clear l1
  go_wp2_with fail
  refine (given_no hN).mono ?_
  rintro e w2 ⟨rfl, rfl⟩
  go_wp2
  (refine leaves_cons (f := 47) (args := #[.pointer (some ⟨w.heap.size + 1, 0, none⟩)]) (by simp) (by simp [go_sem]) ?_; refine (ncaught_panic (w.heap.size + 1) (2) 0 [] _ (BlkIs.one blk0)).mono ?_; rintro e u' w'' ⟨rfl, rfl, hch, hp⟩; have hp' : BlkIs w'' (w.heap.size + 1) 25 (· = #[.int .i64 (2)]) := ⟨_, hp, rfl⟩)
  exact ⟨.tuple #[.slice none 0 0, .int .i64 2], rresults (rs := [.tmp 6, .cell 7 25]) rfl (by simp) (.tmp rfl (.cell (w.heap.size + 1) rfl (load_one (t := 25) hp' (by kernel_rfl)) .nil)), NumErr.of_nil (below_chg bel hch (by omega))⟩
set_option maxHeartbeats 2000000 in
theorem multiplied_fail (f : Nat) {A B : Option Addr} {n m c d : Nat} {a b : List Int} (w : World) (hA : Kd.C (Kd.int .u32) w A n a) (hB : Kd.C (Kd.int .u32) w B m b) (la : Lim a) (lb : Lim b) (er : Int) (hok : (okN a && okN b) = true) (hf : ∀ w', Below w.heap.size w w' → Calls Tryd.prog f #[.slice A n c, .slice B m d] w' fun e w'' => e = .panicked (natFail er) ∧ Below w'.heap.size w' w'') (ef : ∀ args w, (callFunc f args).run Tryd.prog w = .ok (.enter f args) w) :
    Calls Tryd.prog 51 #[.slice A n c, .slice B m d, .agg #[.func (.func f) #[] #[], .nilFunc]] w (NumErr [] er w) := by
  have HT : Hid (∀ (g : Nat) w', Below w.heap.size w w' → BlkIs w' g 32 (· = #[.slice A n c, .slice B m d]) → Calls Tryd.prog 48 #[.slice (some ⟨g, 0, none⟩) 2 2] w' (TakenP true w')) := Lib.hid fun g w' h h0 => by
    have := two_ok g hA hB la lb h h0
    rw [hok] at this
    exact this
  have HEF := Lib.hid ef
  clear hA hB hok ef
  have HF := Lib.hid hf
  clear hf
  go_enter_defers Tryd.func51, Tryd.ntmps51
  go_wp2_with fail
  refine (HT.out _ _ bel blk0).mono ?_
  rintro e w1 ⟨rfl, rfl⟩
  have ef := HEF.out
  go_wp2_with fail
  refine (HF.out _ bel).mono ?_
  rintro e w1 ⟨rfl, b1⟩
  clear ef
  go_wp2
  (refine leaves_cons (f := 47) (args := #[.pointer (some ⟨w.heap.size + 1, 0, none⟩)]) (by simp) (by simp [go_sem]) ?_; refine (ncaught_panic (w.heap.size + 1) (er) 0 [] _ (BlkIs.one blk0)).mono ?_; rintro e u' w'' ⟨rfl, rfl, hch, hp⟩; have hp' : BlkIs w'' (w.heap.size + 1) 25 (· = #[.int .i64 (er)]) := ⟨_, hp, rfl⟩)
  exact ⟨.tuple #[.slice none 0 0, .int .i64 er], rresults (rs := [.tmp 6, .cell 7 25]) rfl (by simp) (.tmp rfl (.cell (w.heap.size + 1) rfl (load_one (t := 25) hp' (by kernel_rfl)) .nil)), NumErr.of_nil (below_chg bel hch (by omega))⟩
set_option maxHeartbeats 2000000 in
theorem multiplied_bad (f : Nat) {A B : Option Addr} {n m c d : Nat} {a b : List Int} (w : World) (hA : Kd.C (Kd.int .u32) w A n a) (hB : Kd.C (Kd.int .u32) w B m b) (la : Lim a) (lb : Lim b) (hok : (okN a && okN b) = false) (ef : ∀ args w, (callFunc f args).run Tryd.prog w = .ok (.enter f args) w) :
    Calls Tryd.prog 51 #[.slice A n c, .slice B m d, .agg #[.func (.func f) #[] #[], .nilFunc]] w (NumErr [] 1 w) := by
  have HT : Hid (∀ (g : Nat) w', Below w.heap.size w w' → BlkIs w' g 32 (· = #[.slice A n c, .slice B m d]) → Calls Tryd.prog 48 #[.slice (some ⟨g, 0, none⟩) 2 2] w' (TakenP false w')) := Lib.hid fun g w' h h0 => by
    have := two_ok g hA hB la lb h h0
    rw [hok] at this
    exact this
  have HEF := Lib.hid ef
  clear hA hB hok ef
  go_enter_defers Tryd.func51, Tryd.ntmps51
  go_wp2_with fail
  refine (HT.out _ _ bel blk0).mono ?_
  rintro e w1 ⟨rfl, rfl⟩
  go_wp2
  (refine leaves_cons (f := 47) (args := #[.pointer (some ⟨w.heap.size + 1, 0, none⟩)]) (by simp) (by simp [go_sem]) ?_; refine (ncaught_panic (w.heap.size + 1) (1) 0 [] _ (BlkIs.one blk0)).mono ?_; rintro e u' w'' ⟨rfl, rfl, hch, hp⟩; have hp' : BlkIs w'' (w.heap.size + 1) 25 (· = #[.int .i64 (1)]) := ⟨_, hp, rfl⟩)
  exact ⟨.tuple #[.slice none 0 0, .int .i64 1], rresults (rs := [.tmp 6, .cell 7 25]) rfl (by simp) (.tmp rfl (.cell (w.heap.size + 1) rfl (load_one (t := 25) hp' (by kernel_rfl)) .nil)), NumErr.of_nil (below_chg bel hch (by omega))⟩
end Go.Proofs.YtiplbpfdkcddlaaDoor
