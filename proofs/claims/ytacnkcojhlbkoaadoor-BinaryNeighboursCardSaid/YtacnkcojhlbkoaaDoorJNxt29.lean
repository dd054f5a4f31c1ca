/- The law's sanity: it answers true. The law BinaryOrder: what its calls return, and so that it answers true. Make of a datum's value is the datum, in plain numbers. Written by this session's own program (wip/tools/xprint.sh) for the law Sdy: what the law's functions compute, and that the machine does so, given the contracts of the program's functions. -/
import Derived.Test.YtacnkcojhlbkoaaDoorJNxt28
import Derived.Test.YtacnkcojhlbkoaaDoorJNxt21
import Derived.Test.YtacnkcojhlbkoaaDoorJNxt23
import Derived.Test.YtacnkcojhlbkoaaDoorProg
import Derived.Below
import Derived.Deep.Draws
import Derived.Deep.AppendLies
import Derived.Maps.AppendAt
import Derived.OwnWalk
import Derived.Laws.BytesArg
import Derived.Laws.MakeOwn
import Derived.Laws.OwnMore
import Derived.Deep.OwnRows
import Derived.Tactics
import Derived.Lib.ConvBytes
import Derived.Laws.Slices
import Derived.WalkKit
import Derived.KernelRfl
import Derived.RowKit3
import Derived.Deep.LoopGhost
import Derived.Deep.QuietTactic
import Derived.BigQuiet
import Derived.WideLaws
import Derived.Deep.DeepCutAuto
import Derived.Deep.CutBlock
import Derived.Deep.RegionHeld3
import Derived.Laws.Rows
import Derived.Lib.AppendStr
import Derived.ArgAppend
import Derived.Laws.IdiomCopy
import Derived.OrdersHeld
import Derived.Laws.BitsLemmas
import Derived.RowKit
import Derived.Test.YtacnkcojhlbkoaaDoorJNxt17
import Derived.Test.YtacnkcojhlbkoaaDoorJNxt25
import Derived.Test.YtacnkcojhlbkoaaDoorJNxt0
import Derived.Test.YtacnkcojhlbkoaaDoorJNxt1
import Derived.Test.YtacnkcojhlbkoaaDoorJNxt2
set_option linter.unusedSimpArgs false
set_option linter.unusedVariables false
set_option linter.unnecessarySimpa false
namespace Go.Proofs.YtacnkcojhlbkoaaDoor
open Go.RowKit Go.Proofs.YtacnkcojhlbkoaaDoorW.PrintWords Go.Proofs.YtacnkcojhlbkoaaDoorW.PrintLast Go.Proofs.YtacnkcojhlbkoaaDoorW.PrintMore Go.Proofs.YtacnkcojhlbkoaaDoor.NL
set_option maxRecDepth 100000
set_option exponentiation.threshold 130

theorem lit_D {fn : FuncId} {args : Array Value} {w' : World} {f cl ex er : Int} {ng : Bool} {l : List Int} {n : Nat} (hn : l.length = n) (h : Calls Tryd.prog fn args w' fun e w'' => ∃ v3_ : Value, e = .returned (.tuple #[.agg #[.int .i64 f, .int .i64 cl, .bool ng, v3_, .int .i64 ex], .int .i64 er]) ∧ Kd.R (Kd.int .u32) 77 w'' w'.heap.size (fun _ => True) v3_ l ∧ Below w'.heap.size w' w'') :
    Calls Tryd.prog fn args w' fun e w'' => ∃ (A : Option Addr) (c : Nat), e = .returned (.tuple #[.agg #[.int .i64 f, .int .i64 cl, .bool ng, .slice A n c, .int .i64 ex], .int .i64 er]) ∧ Hid (Kd.C (Kd.int .u32) w'' A n l ∧ n ≤ c) ∧ Below w'.heap.size w' w'' := by
  subst hn
  refine h.mono ?_
  rintro e w'' ⟨v, rfl, hv, hb⟩
  obtain ⟨A, c, rfl⟩ := Kd.R_slice hv
  exact ⟨A, c, rfl, Lib.hid (R_C hv), hb⟩
theorem lit_H {fn : FuncId} {args : Array Value} {w' : World} {f cl ex : Int} {ng : Bool} {l : List Int} {n : Nat} (hn : l.length = n) (h : Calls Tryd.prog fn args w' fun e w'' => ∃ v3_ : Value, e = .returned (.agg #[.int .i64 f, .int .i64 cl, .bool ng, v3_, .int .i64 ex]) ∧ Kd.R (Kd.int .u32) 77 w'' w'.heap.size (fun _ => True) v3_ l ∧ Below w'.heap.size w' w'') :
    Calls Tryd.prog fn args w' fun e w'' => ∃ (A : Option Addr) (c : Nat), e = .returned (.agg #[.int .i64 f, .int .i64 cl, .bool ng, .slice A n c, .int .i64 ex]) ∧ Hid (Kd.C (Kd.int .u32) w'' A n l ∧ n ≤ c) ∧ Below w'.heap.size w' w'' := by
  subst hn
  refine h.mono ?_
  rintro e w'' ⟨v, rfl, hv, hb⟩
  obtain ⟨A, c, rfl⟩ := Kd.R_slice hv
  exact ⟨A, c, rfl, Lib.hid (R_C hv), hb⟩
theorem lit_I {fn : FuncId} {args : Array Value} {w' : World} {er : Int} {ng : Bool} {l : List Int} {n : Nat} (hn : l.length = n) (h : Calls Tryd.prog fn args w' fun e w'' => ∃ v1_ : Value, e = .returned (.tuple #[.agg #[.bool ng, v1_], .int .i64 er]) ∧ Kd.R (Kd.int .u32) 77 w'' w'.heap.size (fun _ => True) v1_ l ∧ Below w'.heap.size w' w'') :
    Calls Tryd.prog fn args w' fun e w'' => ∃ (A : Option Addr) (c : Nat), e = .returned (.tuple #[.agg #[.bool ng, .slice A n c], .int .i64 er]) ∧ Hid (Kd.C (Kd.int .u32) w'' A n l ∧ n ≤ c) ∧ Below w'.heap.size w' w'' := by
  subst hn
  refine h.mono ?_
  rintro e w'' ⟨v, rfl, hv, hb⟩
  obtain ⟨A, c, rfl⟩ := Kd.R_slice hv
  exact ⟨A, c, rfl, Lib.hid (R_C hv), hb⟩

set_option maxHeartbeats 16000000 in
theorem sanity_ok (w : World) (hT : Tab w) : Calls Tryd.prog 11 #[] w fun e w' => e = .returned (.bool true) ∧ Below w.heap.size w w' := by
  have HO : Hid (∀ (W : World) (x : Int), Kd.C (Kd.int .u32) (W.alloc (.cells #[.int .u32 x] 77)) (some ⟨W.heap.size, 0, none⟩) 1 [x]) := Lib.hid fun W x => (R_C (R_fresh W W.heap.size rfl [x] #[.int .u32 x] rfl 1 rfl (Nat.le_refl _) (by simp))).1
  have HE : Hid (∀ w' A, Kd.C (Kd.int .u32) w' A 1 [8388608] → Calls Tryd.prog 12 #[.agg #[.int .i64 2, .int .i64 1, .bool false, .slice A 1 1, .int .i64 (-23)]] w' fun e w'' => e = .returned (.tuple #[.agg #[.int .u64 0, .int .u64 1065353216], .int .i64 0]) ∧ Below w'.heap.size w' w'') := Lib.hid fun w' A h => binary_Encode.calls 2 1 false A 1 [8388608] (-23) 0 1065353216 0 w' h (Nat.le_refl _) li1
  have HD1 : Hid (∀ w', Calls Tryd.prog 15 #[.int .i64 4, .agg #[.int .u64 0, .int .u64 9223372036854775808]] w' fun e w'' => ∃ (A : Option Addr) (c : Nat), e = .returned (.tuple #[.agg #[.int .i64 4, .int .i64 1, .bool false, .slice A 2 c, .int .i64 (-16445)], .int .i64 0]) ∧ Hid (Kd.C (Kd.int .u32) w'' A 2 [0, 2147483648] ∧ 2 ≤ c) ∧ Below w'.heap.size w' w'') := Lib.hid fun w' => lit_D rfl (binary_Decode.calls 4 0 9223372036854775808 4 1 false [0, 2147483648] (-16445) 0 w' li2)
  have HD2 : Hid (∀ w', Calls Tryd.prog 15 #[.int .i64 4, .agg #[.int .u64 16384, .int .u64 0]] w' fun e w'' => ∃ (A : Option Addr) (c : Nat), e = .returned (.tuple #[.agg #[.int .i64 4, .int .i64 4, .bool false, .slice A 1 c, .int .i64 (0)], .int .i64 0]) ∧ Hid (Kd.C (Kd.int .u32) w'' A 1 [1] ∧ 1 ≤ c) ∧ Below w'.heap.size w' w'') := Lib.hid fun w' => lit_D rfl (binary_Decode.calls 4 16384 0 4 4 false [1] 0 0 w' li3)
  have HCN : Hid (∀ w', Calls Tryd.prog 16 #[.int .i64 4, .agg #[.int .u64 0, .int .u64 9223372036854775808]] w' fun e w'' => e = .returned (.tuple #[.bool false, .int .i64 0]) ∧ Below w'.heap.size w' w'') := Lib.hid fun w' => XCanon.binary_Canonical.calls 4 0 9223372036854775808 false 0 w' li4
  have HB : Hid (∀ w' A c, Kd.C (Kd.int .u32) w' A 2 [0, 2147483648] → 2 ≤ c → Calls Tryd.prog 39 #[.slice A 2 c] w' fun e w'' => e = .returned (.int .i64 64) ∧ Below w'.heap.size w' w'') := Lib.hid fun w' A c h1 h2 => sorobanref01_Bits.calls A c [0, 2147483648] 64 w' h1 h2 li5
  have HH0 : Hid (∀ w', Calls Tryd.prog 40 #[.int .u64 31744] w' fun e w'' => ∃ (A : Option Addr) (c : Nat), e = .returned (.agg #[.int .i64 1, .int .i64 2, .bool false, .slice A 0 c, .int .i64 (0)]) ∧ Hid (Kd.C (Kd.int .u32) w'' A 0 [] ∧ 0 ≤ c) ∧ Below w'.heap.size w' w'') := Lib.hid fun w' => lit_H rfl (XHalf.sorobanlaw05_half.calls 31744 1 2 false [] (0) w' li6)
  have HH1 : Hid (∀ w', Calls Tryd.prog 40 #[.int .u64 32257] w' fun e w'' => ∃ (A : Option Addr) (c : Nat), e = .returned (.agg #[.int .i64 1, .int .i64 3, .bool false, .slice A 1 c, .int .i64 (0)]) ∧ Hid (Kd.C (Kd.int .u32) w'' A 1 [1] ∧ 1 ≤ c) ∧ Below w'.heap.size w' w'') := Lib.hid fun w' => lit_H rfl (XHalf.sorobanlaw05_half.calls 32257 1 3 false [1] (0) w' li7)
  have HH2 : Hid (∀ w', Calls Tryd.prog 40 #[.int .u64 31749] w' fun e w'' => ∃ (A : Option Addr) (c : Nat), e = .returned (.agg #[.int .i64 1, .int .i64 4, .bool false, .slice A 1 c, .int .i64 (0)]) ∧ Hid (Kd.C (Kd.int .u32) w'' A 1 [5] ∧ 1 ≤ c) ∧ Below w'.heap.size w' w'') := Lib.hid fun w' => lit_H rfl (XHalf.sorobanlaw05_half.calls 31749 1 4 false [5] (0) w' li8)
  have HH3 : Hid (∀ w', Calls Tryd.prog 40 #[.int .u64 32768] w' fun e w'' => ∃ (A : Option Addr) (c : Nat), e = .returned (.agg #[.int .i64 1, .int .i64 1, .bool true, .slice A 0 c, .int .i64 (-24)]) ∧ Hid (Kd.C (Kd.int .u32) w'' A 0 [] ∧ 0 ≤ c) ∧ Below w'.heap.size w' w'') := Lib.hid fun w' => lit_H rfl (XHalf.sorobanlaw05_half.calls 32768 1 1 true [] (-24) w' li9)
  have HH4 : Hid (∀ w', Calls Tryd.prog 40 #[.int .u64 15360] w' fun e w'' => ∃ (A : Option Addr) (c : Nat), e = .returned (.agg #[.int .i64 1, .int .i64 1, .bool false, .slice A 1 c, .int .i64 (-10)]) ∧ Hid (Kd.C (Kd.int .u32) w'' A 1 [1024] ∧ 1 ≤ c) ∧ Below w'.heap.size w' w'') := Lib.hid fun w' => lit_H rfl (XHalf.sorobanlaw05_half.calls 15360 1 1 false [1024] (-10) w' li10)
  have HS0 : Hid (∀ w' A c, Kd.C (Kd.int .u32) w' A 0 [] → 0 ≤ c → Calls Tryd.prog 19 #[.agg #[.int .i64 1, .int .i64 2, .bool false, .slice A 0 c, .int .i64 (0)], .agg #[.int .i64 1, .int .i64 2, .bool false, .slice none 0 0, .int .i64 (0)]] w' fun e w'' => e = .returned (.bool true) ∧ Below w'.heap.size w' w'') := Lib.hid fun w' A c h1 h2 => sorobanref05_Same.calls 1 2 false A c [] (0) 1 2 false none 0 [] (0) true w' h1 h2 (R_nilC w') (Nat.le_refl _) (by decide)
  have HS1 : Hid (∀ w' A c B, Kd.C (Kd.int .u32) w' A 1 [1] → 1 ≤ c → Kd.C (Kd.int .u32) w' B 1 [1] → Calls Tryd.prog 19 #[.agg #[.int .i64 1, .int .i64 3, .bool false, .slice A 1 c, .int .i64 (0)], .agg #[.int .i64 1, .int .i64 3, .bool false, .slice B 1 1, .int .i64 (0)]] w' fun e w'' => e = .returned (.bool true) ∧ Below w'.heap.size w' w'') := Lib.hid fun w' A c B h1 h2 h3 => sorobanref05_Same.calls 1 3 false A c [1] (0) 1 3 false B 1 [1] (0) true w' h1 h2 h3 (Nat.le_refl _) (by decide)
  have HS2 : Hid (∀ w' A c B, Kd.C (Kd.int .u32) w' A 1 [5] → 1 ≤ c → Kd.C (Kd.int .u32) w' B 1 [5] → Calls Tryd.prog 19 #[.agg #[.int .i64 1, .int .i64 4, .bool false, .slice A 1 c, .int .i64 (0)], .agg #[.int .i64 1, .int .i64 4, .bool false, .slice B 1 1, .int .i64 (0)]] w' fun e w'' => e = .returned (.bool true) ∧ Below w'.heap.size w' w'') := Lib.hid fun w' A c B h1 h2 h3 => sorobanref05_Same.calls 1 4 false A c [5] (0) 1 4 false B 1 [5] (0) true w' h1 h2 h3 (Nat.le_refl _) (by decide)
  have HS3 : Hid (∀ w' A c, Kd.C (Kd.int .u32) w' A 0 [] → 0 ≤ c → Calls Tryd.prog 19 #[.agg #[.int .i64 1, .int .i64 1, .bool true, .slice A 0 c, .int .i64 (-24)], .agg #[.int .i64 1, .int .i64 1, .bool true, .slice none 0 0, .int .i64 (-24)]] w' fun e w'' => e = .returned (.bool true) ∧ Below w'.heap.size w' w'') := Lib.hid fun w' A c h1 h2 => sorobanref05_Same.calls 1 1 true A c [] (-24) 1 1 true none 0 [] (-24) true w' h1 h2 (R_nilC w') (Nat.le_refl _) (by decide)
  have HS4 : Hid (∀ w' A c B, Kd.C (Kd.int .u32) w' A 1 [1024] → 1 ≤ c → Kd.C (Kd.int .u32) w' B 1 [1024] → Calls Tryd.prog 19 #[.agg #[.int .i64 1, .int .i64 1, .bool false, .slice A 1 c, .int .i64 (2)], .agg #[.int .i64 1, .int .i64 1, .bool false, .slice B 1 1, .int .i64 (2)]] w' fun e w'' => e = .returned (.bool true) ∧ Below w'.heap.size w' w'') := Lib.hid fun w' A c B h1 h2 h3 => sorobanref05_Same.calls 1 1 false A c [1024] 2 1 1 false B 1 [1024] 2 true w' h1 h2 h3 (Nat.le_refl _) (by decide)
  have HS5 : Hid (∀ w' A c B, Kd.C (Kd.int .u32) w' A 1 [15360] → 1 ≤ c → Kd.C (Kd.int .u32) w' B 1 [15360] → Calls Tryd.prog 24 #[.slice A 1 c, .slice B 1 1] w' fun e w'' => e = .returned (.bool true) ∧ Below w'.heap.size w' w'') := Lib.hid fun w' A c B h1 h2 h3 => sorobanref01_Same.calls A c [15360] B 1 [15360] true w' h1 h2 h3 (Nat.le_refl _) (by decide)
  have HM1 : Hid (∀ w' B (_ : Below w.heap.size w w') (_ : Kd.C (Kd.int .u32) w' B 1 [4097]), Calls Tryd.prog 32 #[.int .i64 1, .bool false, .slice B 1 1, .int .i64 0] w' fun e w'' => ∃ (A : Option Addr) (c : Nat), e = .returned (.tuple #[.agg #[.int .i64 0, .int .i64 0, .bool false, .slice A 0 c, .int .i64 (0)], .int .i64 3]) ∧ Hid (Kd.C (Kd.int .u32) w'' A 0 [] ∧ 0 ≤ c) ∧ Below w'.heap.size w' w'') := Lib.hid fun w' B h1 h2 => lit_D rfl (binary_Make.calls 1 false B 1 [4097] 0 0 0 false [] 0 3 w' h2 (Nat.le_refl _) li11 (hT.below h1))
  have HM2 : Hid (∀ w' B (_ : Below w.heap.size w w') (_ : Kd.C (Kd.int .u32) w' B 1 [4096]), Calls Tryd.prog 32 #[.int .i64 1, .bool false, .slice B 1 1, .int .i64 0] w' fun e w'' => ∃ (A : Option Addr) (c : Nat), e = .returned (.tuple #[.agg #[.int .i64 1, .int .i64 1, .bool false, .slice A 1 c, .int .i64 (2)], .int .i64 0]) ∧ Hid (Kd.C (Kd.int .u32) w'' A 1 [1024] ∧ 1 ≤ c) ∧ Below w'.heap.size w' w'') := Lib.hid fun w' B h1 h2 => lit_D rfl (binary_Make.calls 1 false B 1 [4096] 0 1 1 false [1024] 2 0 w' h2 (Nat.le_refl _) li12 (hT.below h1))
  have HI : Hid (∀ w' A c, Kd.C (Kd.int .u32) w' A 1 [1024] → 1 ≤ c → Calls Tryd.prog 23 #[.agg #[.int .i64 1, .int .i64 1, .bool false, .slice A 1 c, .int .i64 (-10)]] w' fun e w'' => ∃ (A : Option Addr) (c : Nat), e = .returned (.tuple #[.agg #[.bool false, .slice A 1 c], .int .i64 0]) ∧ Hid (Kd.C (Kd.int .u32) w'' A 1 [15360] ∧ 1 ≤ c) ∧ Below w'.heap.size w' w'') := Lib.hid fun w' A c h1 h2 => lit_I rfl (binary_Index.calls 1 1 false A c [1024] (-10) false [15360] 0 w' h1 h2 li13)
  clear hT
  go_enter Tryd.func11, Tryd.ntmps11
  go_upto_region 4 with (first | (go_at_call 12; (with_reducible refine (HE.out _ _ (HO.out _ 8388608)).mono ?_); rintro e w1 ⟨rfl, b1⟩; obtain ⟨hc1, hf1⟩ := bcell b1; have hz1 := below_size b1; (try simp at hz1)) | (go_at_call 15; (with_reducible refine (HD1.out _).mono ?_); rintro e w2 ⟨A2, c2, rfl, HV2, b2⟩; obtain ⟨hc2, hf2⟩ := bcell b2; have hz2 := below_size b2; (try simp at hz2); (try have yw12 : w1.heap.size < w2.heap.size := (by omega))) | (go_at_call 15; (with_reducible refine (HD2.out _).mono ?_); rintro e w3 ⟨A3, c3, rfl, HV3, b3⟩; obtain ⟨hc3, hf3⟩ := bcell b3; have hz3 := below_size b3; (try simp at hz3); (try have yw13 : w1.heap.size < w3.heap.size := (by omega)); (try have yw23 : w2.heap.size < w3.heap.size := (by omega))))
  go_cut [1, 3, 5, 7, 8] (fun v1 v3 v5 v7 v8 wx => ∃ (p1 p3 p5 : Nat) (A : Option Addr) (c : Nat) (A' : Option Addr) (c' : Nat), v1 = .pointer (some ⟨p1, 0, none⟩) ∧ v3 = .pointer (some ⟨p3, 0, none⟩) ∧ v5 = .pointer (some ⟨p5, 0, none⟩) ∧ v7 = .bool false ∧ v8 = .int .i64 0 ∧ BlkIs wx p1 28 (· = #[.int .u64 0, .int .u64 1065353216]) ∧ BlkIs wx p3 25 (· = #[.int .i64 4, .int .i64 1, .bool false, .slice A 2 c, .int .i64 (-16445)]) ∧ BlkIs wx p5 25 (· = #[.int .i64 4, .int .i64 4, .bool false, .slice A' 1 c', .int .i64 (0)]) ∧ Hid (Kd.C (Kd.int .u32) wx A 2 [0, 2147483648] ∧ 2 ≤ c) ∧ Below w.heap.size w wx)
  case first =>
    go_wp2_with (first | (go_at_call 16; (with_reducible refine (HCN.out _).mono ?_); rintro e w4 ⟨rfl, b4⟩; obtain ⟨hc4, hf4⟩ := bcell b4; have hz4 := below_size b4; (try simp at hz4); (try have yw14 : w1.heap.size < w4.heap.size := (by omega)); (try have yw24 : w2.heap.size < w4.heap.size := (by omega)); (try have yw34 : w3.heap.size < w4.heap.size := (by omega))))
    go_meet
    exact ⟨_, _, _, _, _, _, _, rfl, rfl, rfl, rfl, rfl, blk0, blk0, blk0, Lib.hid ⟨Kd.C_below HV2.out.1 bel, HV2.out.2⟩, bel⟩
  case rest =>
    obtain ⟨p1, p3, p5, A, c, A', c', rfl, rfl, rfl, rfl, rfl, HB1, HB3, HB5, HX, hbw⟩ := hcut
    obtain ⟨cs1, hbk1, rfl⟩ := HB1
    obtain ⟨cs3, hbk3, rfl⟩ := HB3
    obtain ⟨cs5, hbk5, rfl⟩ := HB5
    have q0 : wc.cell? ⟨p1, 0, none⟩ = some (.int .u64 0) := by simpa using blk_cell hbk1 0
    have q1 : wc.cell? ⟨p1, 1, none⟩ = some (.int .u64 1065353216) := by simpa using blk_cell hbk1 1
    have qz : p1 < wc.heap.size := blk_lt hbk1
    have r0 : wc.cell? ⟨p3, 0, none⟩ = some (.int .i64 4) := by simpa using blk_cell hbk3 0
    have r1 : wc.cell? ⟨p3, 1, none⟩ = some (.int .i64 1) := by simpa using blk_cell hbk3 1
    have r2 : wc.cell? ⟨p3, 2, none⟩ = some (.bool false) := by simpa using blk_cell hbk3 2
    have r3 : wc.cell? ⟨p3, 3, none⟩ = some (.slice A 2 c) := by simpa using blk_cell hbk3 3
    have r4 : wc.cell? ⟨p3, 4, none⟩ = some (.int .i64 (-16445)) := by simpa using blk_cell hbk3 4
    have rz : p3 < wc.heap.size := blk_lt hbk3
    have s0 : wc.cell? ⟨p5, 0, none⟩ = some (.int .i64 4) := by simpa using blk_cell hbk5 0
    have s1 : wc.cell? ⟨p5, 1, none⟩ = some (.int .i64 4) := by simpa using blk_cell hbk5 1
    have s2 : wc.cell? ⟨p5, 2, none⟩ = some (.bool false) := by simpa using blk_cell hbk5 2
    have s3 : wc.cell? ⟨p5, 3, none⟩ = some (.slice A' 1 c') := by simpa using blk_cell hbk5 3
    have s4 : wc.cell? ⟨p5, 4, none⟩ = some (.int .i64 0) := by simpa using blk_cell hbk5 4
    have sz : p5 < wc.heap.size := blk_lt hbk5
    clear hbk1 hbk3 hbk5
    go_upto_region 10 with (first | (go_at_call 39; (with_reducible refine (HB.out _ _ _ (Kd.C_below HX.out.1 bel) HX.out.2).mono ?_); rintro e w5 ⟨rfl, b5⟩; obtain ⟨hc5, hf5⟩ := bcell b5; have hz5 := below_size b5; (try simp at hz5); (try have yp15 : p1 < w5.heap.size := (by omega)); (try have yp35 : p3 < w5.heap.size := (by omega)); (try have yp55 : p5 < w5.heap.size := (by omega))) | (go_at_call 40; (with_reducible refine (HH0.out _).mono ?_); rintro e w10 ⟨A10, c10, rfl, HV10, b10⟩; obtain ⟨hc10, hf10⟩ := bcell b10; have hz10 := below_size b10; (try simp at hz10)) | (go_at_call 19; (with_reducible refine (HS0.out _ _ _ (Kd.C_below HV10.out.1 bel) HV10.out.2).mono ?_); rintro e w11 ⟨rfl, b11⟩; obtain ⟨hc11, hf11⟩ := bcell b11; have hz11 := below_size b11; (try simp at hz11)) | (go_at_call 40; (with_reducible refine (HH1.out _).mono ?_); rintro e w12 ⟨A12, c12, rfl, HV12, b12⟩; obtain ⟨hc12, hf12⟩ := bcell b12; have hz12 := below_size b12; (try simp at hz12)) | (go_at_call 19; (with_reducible refine (HS1.out _ _ _ _ (Kd.C_below HV12.out.1 bel) HV12.out.2 (HO.out _ 1)).mono ?_); rintro e w13 ⟨rfl, b13⟩; obtain ⟨hc13, hf13⟩ := bcell b13; have hz13 := below_size b13; (try simp at hz13)) | (go_at_call 40; (with_reducible refine (HH2.out _).mono ?_); rintro e w14 ⟨A14, c14, rfl, HV14, b14⟩; obtain ⟨hc14, hf14⟩ := bcell b14; have hz14 := below_size b14; (try simp at hz14)) | (go_at_call 19; (with_reducible refine (HS2.out _ _ _ _ (Kd.C_below HV14.out.1 bel) HV14.out.2 (HO.out _ 5)).mono ?_); rintro e w15 ⟨rfl, b15⟩; obtain ⟨hc15, hf15⟩ := bcell b15; have hz15 := below_size b15; (try simp at hz15)) | (go_at_call 40; (with_reducible refine (HH3.out _).mono ?_); rintro e w16 ⟨A16, c16, rfl, HV16, b16⟩; obtain ⟨hc16, hf16⟩ := bcell b16; have hz16 := below_size b16; (try simp at hz16)) | (go_at_call 19; (with_reducible refine (HS3.out _ _ _ (Kd.C_below HV16.out.1 bel) HV16.out.2).mono ?_); rintro e w17 ⟨rfl, b17⟩; obtain ⟨hc17, hf17⟩ := bcell b17; have hz17 := below_size b17; (try simp at hz17)) | (go_at_call 32; (with_reducible refine (HM1.out _ _ bel (HO.out _ 4097)).mono ?_); rintro e w20 ⟨A20, c20, rfl, HV20, b20⟩; obtain ⟨hc20, hf20⟩ := bcell b20; have hz20 := below_size b20; (try simp at hz20)))
    go_cut [2, 4, 9] (fun v2 v4 v9 wx => ∃ (p9 : Nat) (A : Option Addr) (c : Nat), v2 = .int .i64 3 ∧ v4 = .int .i64 0 ∧ v9 = .pointer (some ⟨p9, 0, none⟩) ∧ BlkIs wx p9 25 (· = #[.int .i64 1, .int .i64 1, .bool false, .slice A 1 c, .int .i64 (2)]) ∧ Hid (Kd.C (Kd.int .u32) wx A 1 [1024] ∧ 1 ≤ c) ∧ Below w.heap.size w wx)
    case first =>
      go_wp2_with (first | (go_at_call 32; (with_reducible refine (HM2.out _ _ bel (HO.out _ 4096)).mono ?_); rintro e w21 ⟨A21, c21, rfl, HV21, b21⟩; obtain ⟨hc21, hf21⟩ := bcell b21; have hz21 := below_size b21; (try simp at hz21)))
      go_meet
      exact ⟨_, _, _, rfl, rfl, rfl, blk0, Lib.hid ⟨Kd.C_below HV21.out.1 bel, HV21.out.2⟩, bel⟩
    case rest =>
      clear q0 q1 qz r0 r1 r2 r3 r4 rz s0 s1 s2 s3 s4 sz hbw
      obtain ⟨p9, A, c, rfl, rfl, rfl, HB9, HX, hbw⟩ := hcut
      have HB9h := Lib.hid HB9
      have hz9 : p9 < wc.heap.size := by obtain ⟨cs, h, -⟩ := HB9; exact blk_lt h
      clear HB9
      go_upto_region 11 with fail
      go_cut [6, 10] (fun v6 v10 wx => ∃ (p10 : Nat) (A' : Option Addr) (c' : Nat), v6 = .int .i64 0 ∧ v10 = .pointer (some ⟨p10, 0, none⟩) ∧ BlkIs wx p10 48 (· = #[.bool false, .slice A' 1 c']) ∧ Hid (Kd.C (Kd.int .u32) wx A' 1 [15360] ∧ 1 ≤ c') ∧ BlkIs wx p9 25 (· = #[.int .i64 1, .int .i64 1, .bool false, .slice A 1 c, .int .i64 (2)]) ∧ Hid (Kd.C (Kd.int .u32) wx A 1 [1024] ∧ 1 ≤ c) ∧ Below w.heap.size w wx)
      case first =>
        go_wp2_with (first | (go_at_call 40; (with_reducible refine (HH4.out _).mono ?_); rintro e w22 ⟨A22, c22, rfl, HV22, b22⟩; obtain ⟨hc22, hf22⟩ := bcell b22; have hz22 := below_size b22; (try simp at hz22); (try have yp922 : p9 < w22.heap.size := (by omega))) | (go_at_call 23; (with_reducible refine (HI.out _ _ _ (Kd.C_below HV22.out.1 bel) HV22.out.2).mono ?_); rintro e w23 ⟨A23, c23, rfl, HV23, b23⟩; obtain ⟨hc23, hf23⟩ := bcell b23; have hz23 := below_size b23; (try simp at hz23); (try have yp923 : p9 < w23.heap.size := (by omega)); (try have yw2223 : w22.heap.size < w23.heap.size := (by omega))))
        go_meet
        have HB9 := HB9h.out
        exact ⟨_, _, _, rfl, rfl, blk0, Lib.hid ⟨Kd.C_below HV23.out.1 bel, HV23.out.2⟩, blk0, Lib.hid ⟨Kd.C_below HX.out.1 bel, HX.out.2⟩, bel⟩
      case rest =>
        obtain ⟨p10, A', c', rfl, rfl, HB10, HX2, HB9, HX, hbw⟩ := hcut
        obtain ⟨cs9, hbk9, rfl⟩ := HB9
        obtain ⟨cs10, hbk10, rfl⟩ := HB10
        have r0 : wc.cell? ⟨p9, 0, none⟩ = some (.int .i64 1) := by simpa using blk_cell hbk9 0
        have r1 : wc.cell? ⟨p9, 1, none⟩ = some (.int .i64 1) := by simpa using blk_cell hbk9 1
        have r2 : wc.cell? ⟨p9, 2, none⟩ = some (.bool false) := by simpa using blk_cell hbk9 2
        have r3 : wc.cell? ⟨p9, 3, none⟩ = some (.slice A 1 c) := by simpa using blk_cell hbk9 3
        have r4 : wc.cell? ⟨p9, 4, none⟩ = some (.int .i64 2) := by simpa using blk_cell hbk9 4
        have rz : p9 < wc.heap.size := blk_lt hbk9
        have s0 : wc.cell? ⟨p10, 0, none⟩ = some (.bool false) := by simpa using blk_cell hbk10 0
        have s1 : wc.cell? ⟨p10, 1, none⟩ = some (.slice A' 1 c') := by simpa using blk_cell hbk10 1
        have sz : p10 < wc.heap.size := blk_lt hbk10
        clear hbk9 hbk10
        go_wp2_with (first | (go_at_call 19; (with_reducible refine (HS4.out _ _ _ _ (Kd.C_below HX.out.1 bel) HX.out.2 (HO.out _ 1024)).mono ?_); rintro e w24 ⟨rfl, b24⟩; obtain ⟨hc24, hf24⟩ := bcell b24; have hz24 := below_size b24; (try simp at hz24); (try have yp924 : p9 < w24.heap.size := (by omega)); (try have yw2224 : w22.heap.size < w24.heap.size := (by omega)); (try have yw2324 : w23.heap.size < w24.heap.size := (by omega)); (try have yp1024 : p10 < w24.heap.size := (by omega))) | (go_at_call 24; (with_reducible refine (HS5.out _ _ _ _ (Kd.C_below HX2.out.1 bel) HX2.out.2 (HO.out _ 15360)).mono ?_); rintro e w25 ⟨rfl, b25⟩; obtain ⟨hc25, hf25⟩ := bcell b25; have hz25 := below_size b25; (try simp at hz25)))
        go_ret
        exact ⟨by simp, bel⟩
end Go.Proofs.YtacnkcojhlbkoaaDoor

set_option linter.unusedSimpArgs false
set_option linter.unusedVariables false
set_option linter.unnecessarySimpa false
namespace Go.Proofs.YtacnkcojhlbkoaaDoor
open Go.RowKit Go.Proofs.YtacnkcojhlbkoaaDoorW.PrintWords Go.Proofs.YtacnkcojhlbkoaaDoorW.PrintLast Go.Proofs.YtacnkcojhlbkoaaDoorW.PrintMore Go.Proofs.YtacnkcojhlbkoaaDoor.NL
set_option maxRecDepth 100000
set_option exponentiation.threshold 130

/-- What Index and Value return of a datum that bits mean. -/
theorem index_f {f cl ex : Int} {ng : Bool} {x : Nat} (hf : isFm f = true) (hx : x < W128) (hh : fits (fmD f) (fmL f) (fmH f) cl (blen x) ex = true) (hc : cl = 1 ∨ cl = 2) : binary_Index.f f cl ng (ofN x) ex = some (ng && decide (0 < placeN f cl x ex), ofN (placeN f cl x ex), 0) := by
  unfold binary_Index.f indexR
  rw [if_pos (u32L_ofN x), datOk_f hf hx hh, if_neg (by decide), if_neg (by omega), val_ofN]
theorem value_f {f ex : Int} {ng : Bool} {x : Nat} (hf : isFm f = true) (hx : x < W128) (hh : fits (fmD f) (fmL f) (fmH f) 1 (blen x) ex = true) : binary_Value.f f 1 ng (ofN x) ex = some (if x = 0 then (false, [], 0, 0) else (ng, ofN (x / 2 ^ tz x), ex + (tz x : Nat), 0)) := by
  unfold binary_Value.f valueR
  rw [if_pos (u32L_ofN x), datOk_f hf hx hh, if_neg (by decide), if_neg (by decide), val_ofN]
theorem same_f {f1 c1 e1 f2 c2 e2 : Int} {n1 n2 : Bool} {l m : List Int} (h : l.length ≤ 1000000000) : sorobanref05_Same.f f1 c1 n1 l e1 f2 c2 n2 m e2 = some (decide (f1 = f2 ∧ c1 = c2 ∧ n1 = n2 ∧ l = m ∧ e1 = e2)) := by
  unfold sorobanref05_Same.f; rw [if_pos h]
theorem hidI {f cl ex er : Int} {ng ni : Bool} {l li : List Int} (h : binary_Index.f f cl ng l ex = some (ni, li, er)) : Hid (∀ A c w', Kd.C (Kd.int .u32) w' A l.length l → l.length ≤ c → Calls Tryd.prog 23 #[dV f cl ng A l.length c ex] w' fun e w'' => ∃ v3 : Value, e = .returned (.tuple #[.agg #[.bool ni, v3], .int .i64 er]) ∧ Kd.R (Kd.int .u32) 77 w'' w'.heap.size (fun _ => True) v3 li ∧ Below w'.heap.size w' w'') :=
  Lib.hid fun A c w' h1 h2 => binary_Index.calls f cl ng A c l ex ni li er w' h1 h2 h
theorem hidV {f cl ex xe er : Int} {ng nx : Bool} {l lx : List Int} (h : binary_Value.f f cl ng l ex = some (nx, lx, xe, er)) : Hid (∀ A c w', Tab w' → Kd.C (Kd.int .u32) w' A l.length l → l.length ≤ c → Calls Tryd.prog 30 #[dV f cl ng A l.length c ex] w' fun e w'' => ∃ v3 : Value, e = .returned (.tuple #[.agg #[.bool nx, v3, .int .i64 xe], .int .i64 er]) ∧ Kd.R (Kd.int .u32) 77 w'' w'.heap.size (fun _ => True) v3 lx ∧ Below w'.heap.size w' w'') :=
  Lib.hid fun A c w' hT h1 h2 => binary_Value.calls f cl ng A c l ex nx lx xe er w' h1 h2 h hT
theorem hidAt {f g cl ex : Int} {ni ng : Bool} {li l : List Int} (h : atR f ni li = (g, cl, ng, l, ex, 0)) (hu : u32L li = true) : Hid (∀ A c w', Kd.C (Kd.int .u32) w' A li.length li → li.length ≤ c → Calls Tryd.prog 33 #[.int .i64 f, .agg #[.bool ni, .slice A li.length c]] w' fun e w'' => ∃ v3 : Value, e = .returned (.tuple #[.agg #[.int .i64 g, .int .i64 cl, .bool ng, v3, .int .i64 ex], .int .i64 0]) ∧ Kd.R (Kd.int .u32) 77 w'' w'.heap.size (fun _ => True) v3 l ∧ Below w'.heap.size w' w'') :=
  Lib.hid fun A c w' h1 h2 => binary_At.calls f ni A c li g cl ng l ex 0 w' h1 h2 (by unfold binary_At.f; rw [if_pos hu, h])
theorem hidS {f1 c1 e1 f2 c2 e2 : Int} {n1 n2 b : Bool} {l m : List Int} (hl : l.length ≤ 1000000000) (hb : b = decide (f1 = f2 ∧ c1 = c2 ∧ n1 = n2 ∧ l = m ∧ e1 = e2)) : Hid (∀ A c A' c' w', Kd.C (Kd.int .u32) w' A l.length l → l.length ≤ c → Kd.C (Kd.int .u32) w' A' m.length m → m.length ≤ c' → Calls Tryd.prog 19 #[.agg #[.int .i64 f1, .int .i64 c1, .bool n1, .slice A l.length c, .int .i64 e1], .agg #[.int .i64 f2, .int .i64 c2, .bool n2, .slice A' m.length c', .int .i64 e2]] w' fun e w'' => e = .returned (.bool b) ∧ Below w'.heap.size w' w'') :=
  Lib.hid fun A c A' c' w' h1 h2 h3 h4 => sorobanref05_Same.calls f1 c1 n1 A c l e1 f2 c2 n2 A' c' m e2 b w' h1 h2 h3 h4 (by rw [same_f hl, hb])
/-- The value of a finite datum, with no case. -/
theorem value_f2 {f ex : Int} {ng : Bool} {x : Nat} (hf : isFm f = true) (hx : x < W128) (hh : fits (fmD f) (fmL f) (fmH f) 1 (blen x) ex = true) : binary_Value.f f 1 ng (ofN x) ex = some ((if x = 0 then false else ng), ofN (x / 2 ^ tz x), (if x = 0 then 0 else ex + (tz x : Nat)), 0) := by
  rw [value_f hf hx hh]
  by_cases h : x = 0
  · rw [if_pos h, if_pos h, if_pos h, h, Nat.zero_div, ofN_zero]
  · rw [if_neg h, if_neg h, if_neg h]
theorem small_130 {f : Int} (hf : isFm f = true) {x : Nat} (h : x < 2 ^ (oneN f + 1)) : x < 2 ^ 130 ∧ x / 2 ^ tz x < 2 ^ 130 := by
  obtain ⟨o1, -⟩ := fm_small hf
  have h2 : x < 2 ^ 130 := Nat.lt_of_lt_of_le h (pow_le3 (by omega))
  exact ⟨h2, Nat.lt_of_le_of_lt (Nat.div_le_self _ _) h2⟩
end Go.Proofs.YtacnkcojhlbkoaaDoor

set_option linter.unusedSimpArgs false
set_option linter.unusedVariables false
set_option linter.unnecessarySimpa false
namespace Go.Proofs.YtacnkcojhlbkoaaDoor
open Go.RowKit Go.Proofs.YtacnkcojhlbkoaaDoorW.PrintWords Go.Proofs.YtacnkcojhlbkoaaDoorW.PrintLast Go.Proofs.YtacnkcojhlbkoaaDoorW.PrintMore Go.Proofs.YtacnkcojhlbkoaaDoor.NL
set_option maxRecDepth 100000
set_option exponentiation.threshold 33000

theorem long_len {x k : Nat} (h : x < 2 ^ k) (hk : k ≤ 32768) : (ofN x).length ≤ 1024 := by
  refine len_ofN_le (k := 1024) (Nat.lt_of_lt_of_le h ?_)
  rw [show (4294967296 : Nat) = 2 ^ 32 from rfl, ← Nat.pow_mul]
  exact Nat.pow_le_pow_right (by omega) (by omega)
theorem long_ok {x k : Nat} (h : x < 2 ^ k) (hk : k ≤ 32768) : okN (ofN x) = true := okN_iff.2 ⟨long_len h hk, top_ofN x⟩
theorem fits_fin {f ex : Int} {n : Nat} (hh : fits (fmD f) (fmL f) (fmH f) 1 (n : Nat) ex = true) : (n : Int) ≤ fmD f ∧ fmL f ≤ ex ∧ ex ≤ fmH f ∧ (ex = fmL f ∨ (n : Int) = fmD f) := by
  unfold fits at hh
  simp only [if_true, Bool.and_eq_true, Bool.or_eq_true, decide_eq_true_eq] at hh
  obtain ⟨⟨⟨h1, h2⟩, h3⟩, h4⟩ := hh
  exact ⟨h1, h2, h3, h4⟩
theorem make_remake {f ex : Int} {o z k : Nat} {ng : Bool} (hf : isFm f = true) (ho : o % 2 = 1) (hh : fits (fmD f) (fmL f) (fmH f) 1 (blen (o * 2 ^ z) : Nat) ex = true) (hk : k ≤ 2000) :
    binary_Make.f f ng (ofN (o * 2 ^ k)) (ex + z - k) = some (f, 1, ng, ofN (o * 2 ^ z), ex, 0) := by
  obtain ⟨g1, g2, g3, g4⟩ := fits_fin hh
  have h0 : o ≠ 0 := by omega
  have hb1 : blen (o * 2 ^ z) = blen o + z := blen_mul_pow h0 z
  have hb2 : blen (o * 2 ^ k) = blen o + k := blen_mul_pow h0 k
  have hpos := blen_pos h0
  obtain ⟨d1, d2⟩ := D_bd2 f
  have hne : o * 2 ^ k ≠ 0 := by have := Nat.two_pow_pos k; exact Nat.mul_ne_zero h0 (by omega)
  have hlt : o * 2 ^ k < 2 ^ (blen o + k) := by rw [← hb2]; exact lt_blen _
  have hq : makeQ f (ex + z - k) (blen (o * 2 ^ k)) = ex := by unfold makeQ; rw [hb2]; omega
  have c1 : makeC1 f (ex + z - k) = true := by
    unfold makeC1
    simp only [Bool.and_eq_true, decide_eq_true_eq]; omega
  have c2 : makeC2 f (ex + z - k) (ofN (o * 2 ^ k)) = true := by
    unfold makeC2
    rw [val_ofN, hq, tz_of ho]
    simp only [Bool.and_eq_true, decide_eq_true_eq]; omega
  unfold binary_Make.f makeR
  rw [u32L_ofN, if_pos rfl, hf, long_ok hlt (by omega), val_ofN, c1, c2, hq, if_neg (by simp), if_neg hne, if_neg (by simp)]
  congr 5
  by_cases hc : ex ≤ ex + z - k
  · rw [if_pos hc, Nat.mul_assoc, ← Nat.pow_add]
    congr 3; omega
  · rw [if_neg hc]
    have e : o * 2 ^ k = o * 2 ^ z * 2 ^ (k - z) := by rw [Nat.mul_assoc, ← Nat.pow_add]; congr 2; omega
    have e2 : (ex - (ex + z - k)).toNat = k - z := by omega
    rw [e2, e, Nat.mul_div_cancel _ (Nat.two_pow_pos _)]
end Go.Proofs.YtacnkcojhlbkoaaDoor

namespace Go.Proofs.YtacnkcojhlbkoaaDoor.XSdy
open Go.RowKit Go.Proofs.YtacnkcojhlbkoaaDoorW.PrintWords Go.Proofs.YtacnkcojhlbkoaaDoorW.PrintLast Go.Proofs.YtacnkcojhlbkoaaDoorW.PrintMore
attribute [local go_sem] max2_int min2_int max_two min_two max_three min_three max_four min_four   -- for this text's walks alone
set_option linter.unusedVariables false
set_option linter.unusedSimpArgs false

def errW : Option Int → Value
  | none => .nilIface
  | some c => .iface 0 (.int .i64 c)
theorem errW_none : errW none = .nilIface := rfl
theorem errW_some (c : Int) : errW (some c) = .iface 0 (.int .i64 c) := rfl

-- the values' own types

end Go.Proofs.YtacnkcojhlbkoaaDoor.XSdy
