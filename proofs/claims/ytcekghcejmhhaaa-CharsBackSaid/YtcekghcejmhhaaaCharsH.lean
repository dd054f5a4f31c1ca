import Derived.Test.YtcekghcejmhhaaaCharsD
import Derived.Test.YtcekghcejmhhaaaCharsC
set_option linter.unusedSimpArgs false
set_option linter.unusedVariables false
set_option linter.unnecessarySimpa false
namespace Go.Proofs.Ytcekghcejmhhaaa
open Go.RowKit Go.Proofs.YtcekghcejmhhaaaW.PrintWords Go.Proofs.YtcekghcejmhhaaaW.PrintLast Go.Proofs.YtcekghcejmhhaaaW.PrintMore

theorem u32_and63 {x : Int} (h₀ : 0 ≤ x) (h₁ : x < 4294967296) : bits .and .u32 x 63 = x % 64 := bits_mask .u32 32 (by decide) wraps_u32 6 (by decide) x h₀ h₁

set_option maxHeartbeats 400000 in
theorem tail_0 (c : Int) (g : Nat) (w : World) (h0 : 0 ≤ c) (h1 : c < 4294967296) (hc : w.cell? ⟨g, 0, none⟩ = some (.int .u32 c)) :
    Calls Try.prog 80 #[.int .i64 0, .pointer (some ⟨g, 0, none⟩)] w fun r w' => r = .returned (.int .u8 (128 + c % 64)) ∧ w = w' := by
  have e1 := u32_and63 h0 h1
  have e2 : IntKind.u32.wrap c = c := wraps_u32 c h0 (by omega)
  go_enter Try.func80, Try.ntmps80
  go_wp2
  go_ret
  exact ⟨rfl, rfl⟩

set_option maxHeartbeats 400000 in
theorem tail_1 (c : Int) (g : Nat) (w : World) (h0 : 0 ≤ c) (h1 : c < 4294967296) (hc : w.cell? ⟨g, 0, none⟩ = some (.int .u32 c)) :
    Calls Try.prog 80 #[.int .i64 1, .pointer (some ⟨g, 0, none⟩)] w fun r w' => r = .returned (.int .u8 (128 + c / 64 % 64)) ∧ w = w' := by
  have e1 := u32_and63 (x := c / 64) (by omega) (by omega)
  go_enter Try.func80, Try.ntmps80
  go_wp2
  go_ret
  exact ⟨rfl, rfl⟩

set_option maxHeartbeats 400000 in
theorem tail_2 (c : Int) (g : Nat) (w : World) (h0 : 0 ≤ c) (h1 : c < 4294967296) (hc : w.cell? ⟨g, 0, none⟩ = some (.int .u32 c)) :
    Calls Try.prog 80 #[.int .i64 2, .pointer (some ⟨g, 0, none⟩)] w fun r w' => r = .returned (.int .u8 (128 + c / 4096 % 64)) ∧ w = w' := by
  have e1 := u32_and63 (x := c / 4096) (by omega) (by omega)
  go_enter Try.func80, Try.ntmps80
  go_wp2
  go_ret
  exact ⟨rfl, rfl⟩

set_option maxHeartbeats 400000 in
theorem utf8_put_a (s c : Int) (w : World) (h0 : 0 ≤ c) (h1 : c < 128) : Calls Try.prog 76 #[.agg #[], .int .i64 s, .int .u32 c] w fun r w' => ∃ v, r = .returned (.tuple #[v, .int .i64 (putC 2 s c).2]) ∧ OwnI .u8 5 w.heap.size w' v (putC 2 s c).1 ∧ Below w.heap.size w w' := by
  have hmf : ∀ (fn : Fn) (first cap : Array Value) (w : World), (Instr.makeFunc fn first cap).run Try.prog w = .ok (.func fn first cap) w := fun _ _ _ _ => rfl
  have HE : Hid (putC 2 s c = ([c], 0)) := Lib.hid (by simp [putC, h1]; omega)
  go_enter Try.func76, Try.ntmps76
  go_wp2
  go_ret2
  rw [HE.out]
  refine ⟨_, rfl, ?_, (by repeat (first | with_reducible assumption | with_reducible exact Below.refl _ _ | with_reducible refine below_alloc ?_ _ | with_reducible refine pw_below_drewN ?_ _ | with_reducible refine below_drew1 ?_ | ((with_reducible refine below_set ?_ ?hle); (case hle => first | (simp; done) | omega | (simp; omega))) | with_reducible refine below_step ?_ (by assumption)))⟩
  exact R_fresh (k := .u8) _ (w.heap.size + 1 + 1) (by simp) [c] _ (by simp [nums]) _ (by simp) (by simp; omega) (by simp)

set_option maxRecDepth 100000 in
set_option maxHeartbeats 1000000 in
theorem utf8_put_b (s c : Int) (w : World) (h0 : 128 ≤ c) (h1 : c < 2048) : Calls Try.prog 76 #[.agg #[], .int .i64 s, .int .u32 c] w fun r w' => ∃ v, r = .returned (.tuple #[v, .int .i64 (putC 2 s c).2]) ∧ OwnI .u8 5 w.heap.size w' v (putC 2 s c).1 ∧ Below w.heap.size w w' := by
  have hmf : ∀ (fn : Fn) (first cap : Array Value) (w : World), (Instr.makeFunc fn first cap).run Try.prog w = .ok (.func fn first cap) w := fun _ _ _ _ => rfl
  have c0 : 0 ≤ c := by omega
  have c1 : c < 4294967296 := by omega
  have HE : Hid (putC 2 s c = ([192 + c / 64, 128 + c % 64], 0)) := Lib.hid (by rw [putC, if_neg (by omega), if_pos rfl]; repeat (first | rw [if_neg (by omega)] | rw [if_pos (by omega)]))
  go_enter Try.func76, Try.ntmps76
  go_wp2
  go_region_held3 (fun w' => w'.cell? ⟨w.heap.size + 1, 0, none⟩ = some (.int .u32 c)) (first | (go_keep; done)) ((first | (go_at_call_of 80 (Value.int IntKind.i64 0); (with_reducible refine (tail_0 c _ _ c0 c1 ?hcc).mono ?_); (case hcc => (go_split_ands; assumption)); rintro e w1 ⟨rfl, rfl⟩)))
  rename_i hHeld
  clear hHeld
  rw [show bits .or .u8 192 (IntKind.u8.wrap (c / 64)) = 192 + c / 64 from by rw [IntKind.wrap_u8, Int.emod_eq_of_lt (by omega) (by omega)]; exact u8_or192 _ (by omega) (by omega)]
  go_wp2
  go_ret2
  rw [HE.out]
  refine ⟨_, rfl, ?_, (by repeat (first | with_reducible assumption | with_reducible exact Below.refl _ _ | with_reducible refine below_alloc ?_ _ | with_reducible refine pw_below_drewN ?_ _ | with_reducible refine below_drew1 ?_ | ((with_reducible refine below_set ?_ ?hle); (case hle => first | (simp; done) | omega | (simp; omega))) | with_reducible refine below_step ?_ (by assumption)))⟩
  exact Kd.R_drew (R_fresh (k := .u8) _ (w.heap.size + 1 + 1) (by simp) [192 + c / 64, 128 + c % 64] _ (by simp [nums]) _ (by simp) (by simp; omega) (by simp))

set_option maxRecDepth 100000 in
set_option maxHeartbeats 1000000 in
theorem utf8_put_c (s c : Int) (w : World) (h0 : 2048 ≤ c) (h1 : c < 65536) : Calls Try.prog 76 #[.agg #[], .int .i64 s, .int .u32 c] w fun r w' => ∃ v, r = .returned (.tuple #[v, .int .i64 (putC 2 s c).2]) ∧ OwnI .u8 5 w.heap.size w' v (putC 2 s c).1 ∧ Below w.heap.size w w' := by
  have hmf : ∀ (fn : Fn) (first cap : Array Value) (w : World), (Instr.makeFunc fn first cap).run Try.prog w = .ok (.func fn first cap) w := fun _ _ _ _ => rfl
  have c0 : 0 ≤ c := by omega
  have c1 : c < 4294967296 := by omega
  have HE : Hid (putC 2 s c = ([224 + c / 4096, 128 + c / 64 % 64, 128 + c % 64], 0)) := Lib.hid (by rw [putC, if_neg (by omega), if_pos rfl]; repeat (first | rw [if_neg (by omega)] | rw [if_pos (by omega)]))
  go_enter Try.func76, Try.ntmps76
  go_wp2
  go_region_held3 (fun w' => w'.cell? ⟨w.heap.size + 1, 0, none⟩ = some (.int .u32 c)) (first | (go_keep; done)) ((first | (go_at_call_of 80 (Value.int IntKind.i64 0); (with_reducible refine (tail_0 c _ _ c0 c1 ?hcc).mono ?_); (case hcc => (go_split_ands; assumption)); rintro e w1 ⟨rfl, rfl⟩) | (go_at_call_of 80 (Value.int IntKind.i64 1); (with_reducible refine (tail_1 c _ _ c0 c1 ?hcc).mono ?_); (case hcc => (go_split_ands; assumption)); rintro e w1 ⟨rfl, rfl⟩)))
  rename_i hHeld
  clear hHeld
  rw [show bits .or .u8 224 (IntKind.u8.wrap (c / 4096)) = 224 + c / 4096 from by rw [IntKind.wrap_u8, Int.emod_eq_of_lt (by omega) (by omega)]; exact u8_or224 _ (by omega) (by omega)]
  go_wp2
  go_ret2
  rw [HE.out]
  refine ⟨_, rfl, ?_, (by repeat (first | with_reducible assumption | with_reducible exact Below.refl _ _ | with_reducible refine below_alloc ?_ _ | with_reducible refine pw_below_drewN ?_ _ | with_reducible refine below_drew1 ?_ | ((with_reducible refine below_set ?_ ?hle); (case hle => first | (simp; done) | omega | (simp; omega))) | with_reducible refine below_step ?_ (by assumption)))⟩
  exact Kd.R_drew (R_fresh (k := .u8) _ (w.heap.size + 1 + 1) (by simp) [224 + c / 4096, 128 + c / 64 % 64, 128 + c % 64] _ (by simp [nums]) _ (by simp) (by simp; omega) (by simp))

set_option maxRecDepth 100000 in
set_option maxHeartbeats 1000000 in
theorem utf8_put_d (s c : Int) (w : World) (h0 : 65536 ≤ c) (h1 : c ≤ 1114111) : Calls Try.prog 76 #[.agg #[], .int .i64 s, .int .u32 c] w fun r w' => ∃ v, r = .returned (.tuple #[v, .int .i64 (putC 2 s c).2]) ∧ OwnI .u8 5 w.heap.size w' v (putC 2 s c).1 ∧ Below w.heap.size w w' := by
  have hmf : ∀ (fn : Fn) (first cap : Array Value) (w : World), (Instr.makeFunc fn first cap).run Try.prog w = .ok (.func fn first cap) w := fun _ _ _ _ => rfl
  have c0 : 0 ≤ c := by omega
  have c1 : c < 4294967296 := by omega
  have HE : Hid (putC 2 s c = ([240 + c / 262144, 128 + c / 4096 % 64, 128 + c / 64 % 64, 128 + c % 64], 0)) := Lib.hid (by rw [putC, if_neg (by omega), if_pos rfl]; repeat (first | rw [if_neg (by omega)] | rw [if_pos (by omega)]))
  go_enter Try.func76, Try.ntmps76
  go_wp2
  go_region_held3 (fun w' => w'.cell? ⟨w.heap.size + 1, 0, none⟩ = some (.int .u32 c)) (first | (go_keep; done)) ((first | (go_at_call_of 80 (Value.int IntKind.i64 0); (with_reducible refine (tail_0 c _ _ c0 c1 ?hcc).mono ?_); (case hcc => (go_split_ands; assumption)); rintro e w1 ⟨rfl, rfl⟩) | (go_at_call_of 80 (Value.int IntKind.i64 1); (with_reducible refine (tail_1 c _ _ c0 c1 ?hcc).mono ?_); (case hcc => (go_split_ands; assumption)); rintro e w1 ⟨rfl, rfl⟩) | (go_at_call_of 80 (Value.int IntKind.i64 2); (with_reducible refine (tail_2 c _ _ c0 c1 ?hcc).mono ?_); (case hcc => (go_split_ands; assumption)); rintro e w1 ⟨rfl, rfl⟩)))
  rename_i hHeld
  clear hHeld
  rw [show bits .or .u8 240 (IntKind.u8.wrap (c / 262144)) = 240 + c / 262144 from by rw [IntKind.wrap_u8, Int.emod_eq_of_lt (by omega) (by omega)]; exact u8_or240 _ (by omega) (by omega)]
  go_wp2
  go_ret2
  rw [HE.out]
  refine ⟨_, rfl, ?_, (by repeat (first | with_reducible assumption | with_reducible exact Below.refl _ _ | with_reducible refine below_alloc ?_ _ | with_reducible refine pw_below_drewN ?_ _ | with_reducible refine below_drew1 ?_ | ((with_reducible refine below_set ?_ ?hle); (case hle => first | (simp; done) | omega | (simp; omega))) | with_reducible refine below_step ?_ (by assumption)))⟩
  exact Kd.R_drew (R_fresh (k := .u8) _ (w.heap.size + 1 + 1) (by simp) [240 + c / 262144, 128 + c / 4096 % 64, 128 + c / 64 % 64, 128 + c % 64] _ (by simp [nums]) _ (by simp) (by simp; omega) (by simp))

theorem utf8_put (s c : Int) (w : World) (h0 : 0 ≤ c) (h1 : c ≤ 1114111) : Calls Try.prog 76 #[.agg #[], .int .i64 s, .int .u32 c] w fun r w' => ∃ v, r = .returned (.tuple #[v, .int .i64 (putC 2 s c).2]) ∧ OwnI .u8 5 w.heap.size w' v (putC 2 s c).1 ∧ Below w.heap.size w w' := by
  by_cases a : c < 128
  · exact utf8_put_a s c w h0 a
  · by_cases b : c < 2048
    · exact utf8_put_b s c w (by omega) b
    · by_cases d : c < 65536
      · exact utf8_put_c s c w (by omega) d
      · exact utf8_put_d s c w (by omega) h1

/-- 'joined': append to a row of the call's own. -/
theorem joined_any {w0 w : World} {v : Value} {xs : List Int} {A : Option Addr} {c : Nat} {ys : List Int} (hB : Below w0.heap.size w0 w) (ho : OwnI .u8 5 w0.heap.size w v xs)
    (hC : ∀ W, Kept w W (fun k => v.ownBlock = some k) → Kd.C (Kd.int .u8) W A ys.length ys) (hc : ys.length ≤ c) (hl : xs.length + ys.length < 140737488355328) :
    Calls Try.prog 42 #[v, .slice A ys.length c] w fun r w' => ∃ v', r = .returned v' ∧ OwnI .u8 5 w0.heap.size w' v' (xs ++ ys) ∧ Below w0.heap.size w0 w' := by
  have hR : Kd.R (Kd.int .u8) 5 w w0.heap.size (fun k => v.ownBlock = some k) v xs := ⟨fun k hk => hk, by
    obtain ⟨_, inner, h1, h2⟩ := ho
    exact ⟨inner, h1, h2⟩⟩
  refine (PCharsEncode.chars_joined.calls (fun k => v.ownBlock = some k) v xs A c ys (xs ++ ys) w0 w hB hR hC hc (by unfold PCharsEncode.chars_joined.f; rw [if_pos hl])).mono ?_
  rintro e w' ⟨v', he, hr, hb, _⟩
  exact ⟨v', he, Kd.R_mono hr (fun _ _ => trivial), hb⟩
end Go.Proofs.Ytcekghcejmhhaaa
