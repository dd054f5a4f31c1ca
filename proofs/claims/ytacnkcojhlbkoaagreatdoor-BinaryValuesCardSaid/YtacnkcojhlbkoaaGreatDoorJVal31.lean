/- What the functions return at the literals of the law's examples. The law's sanity: it answers true. The law BinaryValues: that its calls' values make it answer true. -/
import Derived.Test.YtacnkcojhlbkoaaGreatDoorJVal18
import Derived.Test.YtacnkcojhlbkoaaGreatDoorJVal20
import Derived.Test.YtacnkcojhlbkoaaGreatDoorJVal30
import Derived.Test.YtacnkcojhlbkoaaGreatDoorJVal29
set_option linter.unusedSimpArgs false
set_option linter.unusedVariables false
set_option linter.unnecessarySimpa false
namespace Go.Proofs.YtacnkcojhlbkoaaGreatDoor
open Go.RowKit Go.Proofs.YtacnkcojhlbkoaaGreatDoorW.PrintWords Go.Proofs.YtacnkcojhlbkoaaGreatDoorW.PrintLast Go.Proofs.YtacnkcojhlbkoaaGreatDoorW.PrintMore Go.Proofs.YtacnkcojhlbkoaaGreatDoor.NL
set_option maxRecDepth 100000
set_option exponentiation.threshold 130

theorem li1 : binary_Encode.f 2 1 false [8388608] (-23) = some (0, 1065353216, 0) := by decide +kernel
theorem li2 : binary_Decode.f 4 0 9223372036854775808 = some (4, 1, false, [0, 2147483648], -16445, 0) := by decide +kernel
theorem li3 : binary_Decode.f 4 16384 0 = some (4, 4, false, [1], 0, 0) := by decide +kernel
theorem li4 : XCanon.binary_Canonical.f 4 0 9223372036854775808 = some (false, 0) := by decide +kernel
theorem li5 : sorobanref01_Bits.f [0, 2147483648] = some 64 := by decide +kernel
theorem li6 : XHalf.sorobanlaw05_half.f 31744 = some (1, 2, false, [], 0) := by decide +kernel
theorem li7 : XHalf.sorobanlaw05_half.f 32257 = some (1, 3, false, [1], 0) := by decide +kernel
theorem li8 : XHalf.sorobanlaw05_half.f 31749 = some (1, 4, false, [5], 0) := by decide +kernel
theorem li9 : XHalf.sorobanlaw05_half.f 32768 = some (1, 1, true, [], -24) := by decide +kernel
theorem li10 : XHalf.sorobanlaw05_half.f 15360 = some (1, 1, false, [1024], -10) := by decide +kernel
theorem li11 : binary_Make.f 1 false [4097] 0 = some (0, 0, false, [], 0, 3) := by decide +kernel
theorem li12 : binary_Make.f 1 false [4096] 0 = some (1, 1, false, [1024], 2, 0) := by decide +kernel
theorem li13 : binary_Index.f 1 1 false [1024] (-10) = some (false, [15360], 0) := by decide +kernel
end Go.Proofs.YtacnkcojhlbkoaaGreatDoor

set_option linter.unusedSimpArgs false
set_option linter.unusedVariables false
set_option linter.unnecessarySimpa false
namespace Go.Proofs.YtacnkcojhlbkoaaGreatDoor
open Go.RowKit Go.Proofs.YtacnkcojhlbkoaaGreatDoorW.PrintWords Go.Proofs.YtacnkcojhlbkoaaGreatDoorW.PrintLast Go.Proofs.YtacnkcojhlbkoaaGreatDoorW.PrintMore Go.Proofs.YtacnkcojhlbkoaaGreatDoor.NL
set_option maxRecDepth 100000
set_option exponentiation.threshold 130

theorem lit_D {fn : FuncId} {args : Array Value} {w' : World} {f cl ex er : Int} {ng : Bool} {l : List Int} {n : Nat} (hn : l.length = n) (h : Calls Tryz.prog fn args w' fun e w'' => ∃ v3_ : Value, e = .returned (.tuple #[.agg #[.int .i64 f, .int .i64 cl, .bool ng, v3_, .int .i64 ex], .int .i64 er]) ∧ Kd.R (Kd.int .u32) 40 w'' w'.heap.size (fun _ => True) v3_ l ∧ Below w'.heap.size w' w'') :
    Calls Tryz.prog fn args w' fun e w'' => ∃ (A : Option Addr) (c : Nat), e = .returned (.tuple #[.agg #[.int .i64 f, .int .i64 cl, .bool ng, .slice A n c, .int .i64 ex], .int .i64 er]) ∧ Hid (Kd.C (Kd.int .u32) w'' A n l ∧ n ≤ c) ∧ Below w'.heap.size w' w'' := by
  subst hn
  refine h.mono ?_
  rintro e w'' ⟨v, rfl, hv, hb⟩
  obtain ⟨A, c, rfl⟩ := Kd.R_slice hv
  exact ⟨A, c, rfl, Lib.hid (R_C hv), hb⟩
theorem lit_H {fn : FuncId} {args : Array Value} {w' : World} {f cl ex : Int} {ng : Bool} {l : List Int} {n : Nat} (hn : l.length = n) (h : Calls Tryz.prog fn args w' fun e w'' => ∃ v3_ : Value, e = .returned (.agg #[.int .i64 f, .int .i64 cl, .bool ng, v3_, .int .i64 ex]) ∧ Kd.R (Kd.int .u32) 40 w'' w'.heap.size (fun _ => True) v3_ l ∧ Below w'.heap.size w' w'') :
    Calls Tryz.prog fn args w' fun e w'' => ∃ (A : Option Addr) (c : Nat), e = .returned (.agg #[.int .i64 f, .int .i64 cl, .bool ng, .slice A n c, .int .i64 ex]) ∧ Hid (Kd.C (Kd.int .u32) w'' A n l ∧ n ≤ c) ∧ Below w'.heap.size w' w'' := by
  subst hn
  refine h.mono ?_
  rintro e w'' ⟨v, rfl, hv, hb⟩
  obtain ⟨A, c, rfl⟩ := Kd.R_slice hv
  exact ⟨A, c, rfl, Lib.hid (R_C hv), hb⟩
theorem lit_I {fn : FuncId} {args : Array Value} {w' : World} {er : Int} {ng : Bool} {l : List Int} {n : Nat} (hn : l.length = n) (h : Calls Tryz.prog fn args w' fun e w'' => ∃ v1_ : Value, e = .returned (.tuple #[.agg #[.bool ng, v1_], .int .i64 er]) ∧ Kd.R (Kd.int .u32) 40 w'' w'.heap.size (fun _ => True) v1_ l ∧ Below w'.heap.size w' w'') :
    Calls Tryz.prog fn args w' fun e w'' => ∃ (A : Option Addr) (c : Nat), e = .returned (.tuple #[.agg #[.bool ng, .slice A n c], .int .i64 er]) ∧ Hid (Kd.C (Kd.int .u32) w'' A n l ∧ n ≤ c) ∧ Below w'.heap.size w' w'' := by
  subst hn
  refine h.mono ?_
  rintro e w'' ⟨v, rfl, hv, hb⟩
  obtain ⟨A, c, rfl⟩ := Kd.R_slice hv
  exact ⟨A, c, rfl, Lib.hid (R_C hv), hb⟩

set_option maxHeartbeats 16000000 in
theorem sanity_ok (w : World) (hT : Tab w) : Calls Tryz.prog 6 #[] w fun e w' => e = .returned (.bool true) ∧ Below w.heap.size w w' := by
  have HO : Hid (∀ (W : World) (x : Int), Kd.C (Kd.int .u32) (W.alloc (.cells #[.int .u32 x] 40)) (some ⟨W.heap.size, 0, none⟩) 1 [x]) := Lib.hid fun W x => (R_C (R_fresh W W.heap.size rfl [x] #[.int .u32 x] rfl 1 rfl (Nat.le_refl _) (by simp))).1
  have HE : Hid (∀ w' A, Kd.C (Kd.int .u32) w' A 1 [8388608] → Calls Tryz.prog 30 #[.agg #[.int .i64 2, .int .i64 1, .bool false, .slice A 1 1, .int .i64 (-23)]] w' fun e w'' => e = .returned (.tuple #[.agg #[.int .u64 0, .int .u64 1065353216], .int .i64 0]) ∧ Below w'.heap.size w' w'') := Lib.hid fun w' A h => binary_Encode.calls 2 1 false A 1 [8388608] (-23) 0 1065353216 0 w' h (Nat.le_refl _) li1
  have HD1 : Hid (∀ w', Calls Tryz.prog 31 #[.int .i64 4, .agg #[.int .u64 0, .int .u64 9223372036854775808]] w' fun e w'' => ∃ (A : Option Addr) (c : Nat), e = .returned (.tuple #[.agg #[.int .i64 4, .int .i64 1, .bool false, .slice A 2 c, .int .i64 (-16445)], .int .i64 0]) ∧ Hid (Kd.C (Kd.int .u32) w'' A 2 [0, 2147483648] ∧ 2 ≤ c) ∧ Below w'.heap.size w' w'') := Lib.hid fun w' => lit_D rfl (binary_Decode.calls 4 0 9223372036854775808 4 1 false [0, 2147483648] (-16445) 0 w' li2)
  have HD2 : Hid (∀ w', Calls Tryz.prog 31 #[.int .i64 4, .agg #[.int .u64 16384, .int .u64 0]] w' fun e w'' => ∃ (A : Option Addr) (c : Nat), e = .returned (.tuple #[.agg #[.int .i64 4, .int .i64 4, .bool false, .slice A 1 c, .int .i64 (0)], .int .i64 0]) ∧ Hid (Kd.C (Kd.int .u32) w'' A 1 [1] ∧ 1 ≤ c) ∧ Below w'.heap.size w' w'') := Lib.hid fun w' => lit_D rfl (binary_Decode.calls 4 16384 0 4 4 false [1] 0 0 w' li3)
  have HCN : Hid (∀ w', Calls Tryz.prog 32 #[.int .i64 4, .agg #[.int .u64 0, .int .u64 9223372036854775808]] w' fun e w'' => e = .returned (.tuple #[.bool false, .int .i64 0]) ∧ Below w'.heap.size w' w'') := Lib.hid fun w' => XCanon.binary_Canonical.calls 4 0 9223372036854775808 false 0 w' li4
  have HB : Hid (∀ w' A c, Kd.C (Kd.int .u32) w' A 2 [0, 2147483648] → 2 ≤ c → Calls Tryz.prog 33 #[.slice A 2 c] w' fun e w'' => e = .returned (.int .i64 64) ∧ Below w'.heap.size w' w'') := Lib.hid fun w' A c h1 h2 => sorobanref01_Bits.calls A c [0, 2147483648] 64 w' h1 h2 li5
  have HH0 : Hid (∀ w', Calls Tryz.prog 34 #[.int .u64 31744] w' fun e w'' => ∃ (A : Option Addr) (c : Nat), e = .returned (.agg #[.int .i64 1, .int .i64 2, .bool false, .slice A 0 c, .int .i64 (0)]) ∧ Hid (Kd.C (Kd.int .u32) w'' A 0 [] ∧ 0 ≤ c) ∧ Below w'.heap.size w' w'') := Lib.hid fun w' => lit_H rfl (XHalf.sorobanlaw05_half.calls 31744 1 2 false [] (0) w' li6)
  have HH1 : Hid (∀ w', Calls Tryz.prog 34 #[.int .u64 32257] w' fun e w'' => ∃ (A : Option Addr) (c : Nat), e = .returned (.agg #[.int .i64 1, .int .i64 3, .bool false, .slice A 1 c, .int .i64 (0)]) ∧ Hid (Kd.C (Kd.int .u32) w'' A 1 [1] ∧ 1 ≤ c) ∧ Below w'.heap.size w' w'') := Lib.hid fun w' => lit_H rfl (XHalf.sorobanlaw05_half.calls 32257 1 3 false [1] (0) w' li7)
  have HH2 : Hid (∀ w', Calls Tryz.prog 34 #[.int .u64 31749] w' fun e w'' => ∃ (A : Option Addr) (c : Nat), e = .returned (.agg #[.int .i64 1, .int .i64 4, .bool false, .slice A 1 c, .int .i64 (0)]) ∧ Hid (Kd.C (Kd.int .u32) w'' A 1 [5] ∧ 1 ≤ c) ∧ Below w'.heap.size w' w'') := Lib.hid fun w' => lit_H rfl (XHalf.sorobanlaw05_half.calls 31749 1 4 false [5] (0) w' li8)
  have HH3 : Hid (∀ w', Calls Tryz.prog 34 #[.int .u64 32768] w' fun e w'' => ∃ (A : Option Addr) (c : Nat), e = .returned (.agg #[.int .i64 1, .int .i64 1, .bool true, .slice A 0 c, .int .i64 (-24)]) ∧ Hid (Kd.C (Kd.int .u32) w'' A 0 [] ∧ 0 ≤ c) ∧ Below w'.heap.size w' w'') := Lib.hid fun w' => lit_H rfl (XHalf.sorobanlaw05_half.calls 32768 1 1 true [] (-24) w' li9)
  have HH4 : Hid (∀ w', Calls Tryz.prog 34 #[.int .u64 15360] w' fun e w'' => ∃ (A : Option Addr) (c : Nat), e = .returned (.agg #[.int .i64 1, .int .i64 1, .bool false, .slice A 1 c, .int .i64 (-10)]) ∧ Hid (Kd.C (Kd.int .u32) w'' A 1 [1024] ∧ 1 ≤ c) ∧ Below w'.heap.size w' w'') := Lib.hid fun w' => lit_H rfl (XHalf.sorobanlaw05_half.calls 15360 1 1 false [1024] (-10) w' li10)
  have HS0 : Hid (∀ w' A c, Kd.C (Kd.int .u32) w' A 0 [] → 0 ≤ c → Calls Tryz.prog 10 #[.agg #[.int .i64 1, .int .i64 2, .bool false, .slice A 0 c, .int .i64 (0)], .agg #[.int .i64 1, .int .i64 2, .bool false, .slice none 0 0, .int .i64 (0)]] w' fun e w'' => e = .returned (.bool true) ∧ Below w'.heap.size w' w'') := Lib.hid fun w' A c h1 h2 => sorobanref05_Same.calls 1 2 false A c [] (0) 1 2 false none 0 [] (0) true w' h1 h2 (R_nilC w') (Nat.le_refl _) (by decide)
  have HS1 : Hid (∀ w' A c B, Kd.C (Kd.int .u32) w' A 1 [1] → 1 ≤ c → Kd.C (Kd.int .u32) w' B 1 [1] → Calls Tryz.prog 10 #[.agg #[.int .i64 1, .int .i64 3, .bool false, .slice A 1 c, .int .i64 (0)], .agg #[.int .i64 1, .int .i64 3, .bool false, .slice B 1 1, .int .i64 (0)]] w' fun e w'' => e = .returned (.bool true) ∧ Below w'.heap.size w' w'') := Lib.hid fun w' A c B h1 h2 h3 => sorobanref05_Same.calls 1 3 false A c [1] (0) 1 3 false B 1 [1] (0) true w' h1 h2 h3 (Nat.le_refl _) (by decide)
  have HS2 : Hid (∀ w' A c B, Kd.C (Kd.int .u32) w' A 1 [5] → 1 ≤ c → Kd.C (Kd.int .u32) w' B 1 [5] → Calls Tryz.prog 10 #[.agg #[.int .i64 1, .int .i64 4, .bool false, .slice A 1 c, .int .i64 (0)], .agg #[.int .i64 1, .int .i64 4, .bool false, .slice B 1 1, .int .i64 (0)]] w' fun e w'' => e = .returned (.bool true) ∧ Below w'.heap.size w' w'') := Lib.hid fun w' A c B h1 h2 h3 => sorobanref05_Same.calls 1 4 false A c [5] (0) 1 4 false B 1 [5] (0) true w' h1 h2 h3 (Nat.le_refl _) (by decide)
  have HS3 : Hid (∀ w' A c, Kd.C (Kd.int .u32) w' A 0 [] → 0 ≤ c → Calls Tryz.prog 10 #[.agg #[.int .i64 1, .int .i64 1, .bool true, .slice A 0 c, .int .i64 (-24)], .agg #[.int .i64 1, .int .i64 1, .bool true, .slice none 0 0, .int .i64 (-24)]] w' fun e w'' => e = .returned (.bool true) ∧ Below w'.heap.size w' w'') := Lib.hid fun w' A c h1 h2 => sorobanref05_Same.calls 1 1 true A c [] (-24) 1 1 true none 0 [] (-24) true w' h1 h2 (R_nilC w') (Nat.le_refl _) (by decide)
  have HS4 : Hid (∀ w' A c B, Kd.C (Kd.int .u32) w' A 1 [1024] → 1 ≤ c → Kd.C (Kd.int .u32) w' B 1 [1024] → Calls Tryz.prog 10 #[.agg #[.int .i64 1, .int .i64 1, .bool false, .slice A 1 c, .int .i64 (2)], .agg #[.int .i64 1, .int .i64 1, .bool false, .slice B 1 1, .int .i64 (2)]] w' fun e w'' => e = .returned (.bool true) ∧ Below w'.heap.size w' w'') := Lib.hid fun w' A c B h1 h2 h3 => sorobanref05_Same.calls 1 1 false A c [1024] 2 1 1 false B 1 [1024] 2 true w' h1 h2 h3 (Nat.le_refl _) (by decide)
  have HS5 : Hid (∀ w' A c B, Kd.C (Kd.int .u32) w' A 1 [15360] → 1 ≤ c → Kd.C (Kd.int .u32) w' B 1 [15360] → Calls Tryz.prog 36 #[.slice A 1 c, .slice B 1 1] w' fun e w'' => e = .returned (.bool true) ∧ Below w'.heap.size w' w'') := Lib.hid fun w' A c B h1 h2 h3 => sorobanref01_Same.calls A c [15360] B 1 [15360] true w' h1 h2 h3 (Nat.le_refl _) (by decide)
  have HM1 : Hid (∀ w' B (_ : Below w.heap.size w w') (_ : Kd.C (Kd.int .u32) w' B 1 [4097]), Calls Tryz.prog 35 #[.int .i64 1, .bool false, .slice B 1 1, .int .i64 0] w' fun e w'' => ∃ (A : Option Addr) (c : Nat), e = .returned (.tuple #[.agg #[.int .i64 0, .int .i64 0, .bool false, .slice A 0 c, .int .i64 (0)], .int .i64 3]) ∧ Hid (Kd.C (Kd.int .u32) w'' A 0 [] ∧ 0 ≤ c) ∧ Below w'.heap.size w' w'') := Lib.hid fun w' B h1 h2 => lit_D rfl (binary_Make.calls 1 false B 1 [4097] 0 0 0 false [] 0 3 w' h2 (Nat.le_refl _) li11 (hT.below h1))
  have HM2 : Hid (∀ w' B (_ : Below w.heap.size w w') (_ : Kd.C (Kd.int .u32) w' B 1 [4096]), Calls Tryz.prog 35 #[.int .i64 1, .bool false, .slice B 1 1, .int .i64 0] w' fun e w'' => ∃ (A : Option Addr) (c : Nat), e = .returned (.tuple #[.agg #[.int .i64 1, .int .i64 1, .bool false, .slice A 1 c, .int .i64 (2)], .int .i64 0]) ∧ Hid (Kd.C (Kd.int .u32) w'' A 1 [1024] ∧ 1 ≤ c) ∧ Below w'.heap.size w' w'') := Lib.hid fun w' B h1 h2 => lit_D rfl (binary_Make.calls 1 false B 1 [4096] 0 1 1 false [1024] 2 0 w' h2 (Nat.le_refl _) li12 (hT.below h1))
  have HI : Hid (∀ w' A c, Kd.C (Kd.int .u32) w' A 1 [1024] → 1 ≤ c → Calls Tryz.prog 22 #[.agg #[.int .i64 1, .int .i64 1, .bool false, .slice A 1 c, .int .i64 (-10)]] w' fun e w'' => ∃ (A : Option Addr) (c : Nat), e = .returned (.tuple #[.agg #[.bool false, .slice A 1 c], .int .i64 0]) ∧ Hid (Kd.C (Kd.int .u32) w'' A 1 [15360] ∧ 1 ≤ c) ∧ Below w'.heap.size w' w'') := Lib.hid fun w' A c h1 h2 => lit_I rfl (binary_Index.calls 1 1 false A c [1024] (-10) false [15360] 0 w' h1 h2 li13)
  clear hT
  go_enter Tryz.func6, Tryz.ntmps6
  go_upto_region 4 with (first | (go_at_call 30; (with_reducible refine (HE.out _ _ (HO.out _ 8388608)).mono ?_); rintro e w1 ⟨rfl, b1⟩; obtain ⟨hc1, hf1⟩ := bcell b1; have hz1 := below_size b1; (try simp at hz1)) | (go_at_call 31; (with_reducible refine (HD1.out _).mono ?_); rintro e w2 ⟨A2, c2, rfl, HV2, b2⟩; obtain ⟨hc2, hf2⟩ := bcell b2; have hz2 := below_size b2; (try simp at hz2); (try have yw12 : w1.heap.size < w2.heap.size := (by omega))) | (go_at_call 31; (with_reducible refine (HD2.out _).mono ?_); rintro e w3 ⟨A3, c3, rfl, HV3, b3⟩; obtain ⟨hc3, hf3⟩ := bcell b3; have hz3 := below_size b3; (try simp at hz3); (try have yw13 : w1.heap.size < w3.heap.size := (by omega)); (try have yw23 : w2.heap.size < w3.heap.size := (by omega))))
  go_cut [1, 3, 5, 7, 8] (fun v1 v3 v5 v7 v8 wx => ∃ (p1 p3 p5 : Nat) (A : Option Addr) (c : Nat) (A' : Option Addr) (c' : Nat), v1 = .pointer (some ⟨p1, 0, none⟩) ∧ v3 = .pointer (some ⟨p3, 0, none⟩) ∧ v5 = .pointer (some ⟨p5, 0, none⟩) ∧ v7 = .bool false ∧ v8 = .int .i64 0 ∧ BlkIs wx p1 66 (· = #[.int .u64 0, .int .u64 1065353216]) ∧ BlkIs wx p3 25 (· = #[.int .i64 4, .int .i64 1, .bool false, .slice A 2 c, .int .i64 (-16445)]) ∧ BlkIs wx p5 25 (· = #[.int .i64 4, .int .i64 4, .bool false, .slice A' 1 c', .int .i64 (0)]) ∧ Hid (Kd.C (Kd.int .u32) wx A 2 [0, 2147483648] ∧ 2 ≤ c) ∧ Below w.heap.size w wx)
  case first =>
    go_wp2_with (first | (go_at_call 32; (with_reducible refine (HCN.out _).mono ?_); rintro e w4 ⟨rfl, b4⟩; obtain ⟨hc4, hf4⟩ := bcell b4; have hz4 := below_size b4; (try simp at hz4); (try have yw14 : w1.heap.size < w4.heap.size := (by omega)); (try have yw24 : w2.heap.size < w4.heap.size := (by omega)); (try have yw34 : w3.heap.size < w4.heap.size := (by omega))))
    go_meet
    exact ⟨_, _, _, _, _, _, _, rfl, rfl, rfl, rfl, rfl, blk0, blk0, blk0, Lib.hid ⟨Kd.C_below HV2.out.1 bel, HV2.out.2⟩, bel⟩
  case rest =>
    obtain ⟨p1, p3, p5, A, c, A', c', rfl, rfl, rfl, rfl, rfl, HB1, HB3, HB5, HX, hbw⟩ := hcut
    obtain ⟨cs1, hbk1, rfl⟩ := HB1
    obtain ⟨cs3, hbk3, rfl⟩ := HB3
    obtain ⟨cs5, hbk5, rfl⟩ := HB5
    have q0 : wc.cell? ⟨p1, 0, none⟩ = some (.int .u64 0) := by simpa using blk_cell hbk1 0
    have q1 : wc.cell? ⟨p1, 1, none⟩ = some (.int .u64 1065353216) := by simpa using blk_cell hbk1 1
    have qz : p1 < wc.heap.size := blk_lt hbk1
    have r0 : wc.cell? ⟨p3, 0, none⟩ = some (.int .i64 4) := by simpa using blk_cell hbk3 0
    have r1 : wc.cell? ⟨p3, 1, none⟩ = some (.int .i64 1) := by simpa using blk_cell hbk3 1
    have r2 : wc.cell? ⟨p3, 2, none⟩ = some (.bool false) := by simpa using blk_cell hbk3 2
    have r3 : wc.cell? ⟨p3, 3, none⟩ = some (.slice A 2 c) := by simpa using blk_cell hbk3 3
    have r4 : wc.cell? ⟨p3, 4, none⟩ = some (.int .i64 (-16445)) := by simpa using blk_cell hbk3 4
    have rz : p3 < wc.heap.size := blk_lt hbk3
    have s0 : wc.cell? ⟨p5, 0, none⟩ = some (.int .i64 4) := by simpa using blk_cell hbk5 0
    have s1 : wc.cell? ⟨p5, 1, none⟩ = some (.int .i64 4) := by simpa using blk_cell hbk5 1
    have s2 : wc.cell? ⟨p5, 2, none⟩ = some (.bool false) := by simpa using blk_cell hbk5 2
    have s3 : wc.cell? ⟨p5, 3, none⟩ = some (.slice A' 1 c') := by simpa using blk_cell hbk5 3
    have s4 : wc.cell? ⟨p5, 4, none⟩ = some (.int .i64 0) := by simpa using blk_cell hbk5 4
    have sz : p5 < wc.heap.size := blk_lt hbk5
    clear hbk1 hbk3 hbk5
    go_upto_region 10 with (first | (go_at_call 33; (with_reducible refine (HB.out _ _ _ (Kd.C_below HX.out.1 bel) HX.out.2).mono ?_); rintro e w5 ⟨rfl, b5⟩; obtain ⟨hc5, hf5⟩ := bcell b5; have hz5 := below_size b5; (try simp at hz5); (try have yp15 : p1 < w5.heap.size := (by omega)); (try have yp35 : p3 < w5.heap.size := (by omega)); (try have yp55 : p5 < w5.heap.size := (by omega))) | (go_at_call 34; (with_reducible refine (HH0.out _).mono ?_); rintro e w10 ⟨A10, c10, rfl, HV10, b10⟩; obtain ⟨hc10, hf10⟩ := bcell b10; have hz10 := below_size b10; (try simp at hz10)) | (go_at_call 10; (with_reducible refine (HS0.out _ _ _ (Kd.C_below HV10.out.1 bel) HV10.out.2).mono ?_); rintro e w11 ⟨rfl, b11⟩; obtain ⟨hc11, hf11⟩ := bcell b11; have hz11 := below_size b11; (try simp at hz11)) | (go_at_call 34; (with_reducible refine (HH1.out _).mono ?_); rintro e w12 ⟨A12, c12, rfl, HV12, b12⟩; obtain ⟨hc12, hf12⟩ := bcell b12; have hz12 := below_size b12; (try simp at hz12)) | (go_at_call 10; (with_reducible refine (HS1.out _ _ _ _ (Kd.C_below HV12.out.1 bel) HV12.out.2 (HO.out _ 1)).mono ?_); rintro e w13 ⟨rfl, b13⟩; obtain ⟨hc13, hf13⟩ := bcell b13; have hz13 := below_size b13; (try simp at hz13)) | (go_at_call 34; (with_reducible refine (HH2.out _).mono ?_); rintro e w14 ⟨A14, c14, rfl, HV14, b14⟩; obtain ⟨hc14, hf14⟩ := bcell b14; have hz14 := below_size b14; (try simp at hz14)) | (go_at_call 10; (with_reducible refine (HS2.out _ _ _ _ (Kd.C_below HV14.out.1 bel) HV14.out.2 (HO.out _ 5)).mono ?_); rintro e w15 ⟨rfl, b15⟩; obtain ⟨hc15, hf15⟩ := bcell b15; have hz15 := below_size b15; (try simp at hz15)) | (go_at_call 34; (with_reducible refine (HH3.out _).mono ?_); rintro e w16 ⟨A16, c16, rfl, HV16, b16⟩; obtain ⟨hc16, hf16⟩ := bcell b16; have hz16 := below_size b16; (try simp at hz16)) | (go_at_call 10; (with_reducible refine (HS3.out _ _ _ (Kd.C_below HV16.out.1 bel) HV16.out.2).mono ?_); rintro e w17 ⟨rfl, b17⟩; obtain ⟨hc17, hf17⟩ := bcell b17; have hz17 := below_size b17; (try simp at hz17)) | (go_at_call 35; (with_reducible refine (HM1.out _ _ bel (HO.out _ 4097)).mono ?_); rintro e w20 ⟨A20, c20, rfl, HV20, b20⟩; obtain ⟨hc20, hf20⟩ := bcell b20; have hz20 := below_size b20; (try simp at hz20)))
    go_cut [2, 4, 9] (fun v2 v4 v9 wx => ∃ (p9 : Nat) (A : Option Addr) (c : Nat), v2 = .int .i64 3 ∧ v4 = .int .i64 0 ∧ v9 = .pointer (some ⟨p9, 0, none⟩) ∧ BlkIs wx p9 25 (· = #[.int .i64 1, .int .i64 1, .bool false, .slice A 1 c, .int .i64 (2)]) ∧ Hid (Kd.C (Kd.int .u32) wx A 1 [1024] ∧ 1 ≤ c) ∧ Below w.heap.size w wx)
    case first =>
      go_wp2_with (first | (go_at_call 35; (with_reducible refine (HM2.out _ _ bel (HO.out _ 4096)).mono ?_); rintro e w21 ⟨A21, c21, rfl, HV21, b21⟩; obtain ⟨hc21, hf21⟩ := bcell b21; have hz21 := below_size b21; (try simp at hz21)))
      go_meet
      exact ⟨_, _, _, rfl, rfl, rfl, blk0, Lib.hid ⟨Kd.C_below HV21.out.1 bel, HV21.out.2⟩, bel⟩
    case rest =>
      clear q0 q1 qz r0 r1 r2 r3 r4 rz s0 s1 s2 s3 s4 sz hbw
      obtain ⟨p9, A, c, rfl, rfl, rfl, HB9, HX, hbw⟩ := hcut
      have HB9h := Lib.hid HB9
      have hz9 : p9 < wc.heap.size := by obtain ⟨cs, h, -⟩ := HB9; exact blk_lt h
      clear HB9
      go_upto_region 11 with fail
      go_cut [6, 10] (fun v6 v10 wx => ∃ (p10 : Nat) (A' : Option Addr) (c' : Nat), v6 = .int .i64 0 ∧ v10 = .pointer (some ⟨p10, 0, none⟩) ∧ BlkIs wx p10 48 (· = #[.bool false, .slice A' 1 c']) ∧ Hid (Kd.C (Kd.int .u32) wx A' 1 [15360] ∧ 1 ≤ c') ∧ BlkIs wx p9 25 (· = #[.int .i64 1, .int .i64 1, .bool false, .slice A 1 c, .int .i64 (2)]) ∧ Hid (Kd.C (Kd.int .u32) wx A 1 [1024] ∧ 1 ≤ c) ∧ Below w.heap.size w wx)
      case first =>
        go_wp2_with (first | (go_at_call 34; (with_reducible refine (HH4.out _).mono ?_); rintro e w22 ⟨A22, c22, rfl, HV22, b22⟩; obtain ⟨hc22, hf22⟩ := bcell b22; have hz22 := below_size b22; (try simp at hz22); (try have yp922 : p9 < w22.heap.size := (by omega))) | (go_at_call 22; (with_reducible refine (HI.out _ _ _ (Kd.C_below HV22.out.1 bel) HV22.out.2).mono ?_); rintro e w23 ⟨A23, c23, rfl, HV23, b23⟩; obtain ⟨hc23, hf23⟩ := bcell b23; have hz23 := below_size b23; (try simp at hz23); (try have yp923 : p9 < w23.heap.size := (by omega)); (try have yw2223 : w22.heap.size < w23.heap.size := (by omega))))
        go_meet
        have HB9 := HB9h.out
        exact ⟨_, _, _, rfl, rfl, blk0, Lib.hid ⟨Kd.C_below HV23.out.1 bel, HV23.out.2⟩, blk0, Lib.hid ⟨Kd.C_below HX.out.1 bel, HX.out.2⟩, bel⟩
      case rest =>
        obtain ⟨p10, A', c', rfl, rfl, HB10, HX2, HB9, HX, hbw⟩ := hcut
        obtain ⟨cs9, hbk9, rfl⟩ := HB9
        obtain ⟨cs10, hbk10, rfl⟩ := HB10
        have r0 : wc.cell? ⟨p9, 0, none⟩ = some (.int .i64 1) := by simpa using blk_cell hbk9 0
        have r1 : wc.cell? ⟨p9, 1, none⟩ = some (.int .i64 1) := by simpa using blk_cell hbk9 1
        have r2 : wc.cell? ⟨p9, 2, none⟩ = some (.bool false) := by simpa using blk_cell hbk9 2
        have r3 : wc.cell? ⟨p9, 3, none⟩ = some (.slice A 1 c) := by simpa using blk_cell hbk9 3
        have r4 : wc.cell? ⟨p9, 4, none⟩ = some (.int .i64 2) := by simpa using blk_cell hbk9 4
        have rz : p9 < wc.heap.size := blk_lt hbk9
        have s0 : wc.cell? ⟨p10, 0, none⟩ = some (.bool false) := by simpa using blk_cell hbk10 0
        have s1 : wc.cell? ⟨p10, 1, none⟩ = some (.slice A' 1 c') := by simpa using blk_cell hbk10 1
        have sz : p10 < wc.heap.size := blk_lt hbk10
        clear hbk9 hbk10
        go_wp2_with (first | (go_at_call 10; (with_reducible refine (HS4.out _ _ _ _ (Kd.C_below HX.out.1 bel) HX.out.2 (HO.out _ 1024)).mono ?_); rintro e w24 ⟨rfl, b24⟩; obtain ⟨hc24, hf24⟩ := bcell b24; have hz24 := below_size b24; (try simp at hz24); (try have yp924 : p9 < w24.heap.size := (by omega)); (try have yw2224 : w22.heap.size < w24.heap.size := (by omega)); (try have yw2324 : w23.heap.size < w24.heap.size := (by omega)); (try have yp1024 : p10 < w24.heap.size := (by omega))) | (go_at_call 36; (with_reducible refine (HS5.out _ _ _ _ (Kd.C_below HX2.out.1 bel) HX2.out.2 (HO.out _ 15360)).mono ?_); rintro e w25 ⟨rfl, b25⟩; obtain ⟨hc25, hf25⟩ := bcell b25; have hz25 := below_size b25; (try simp at hz25)))
        go_ret
        exact ⟨by simp, bel⟩
end Go.Proofs.YtacnkcojhlbkoaaGreatDoor

set_option linter.unusedSimpArgs false
set_option linter.unusedVariables false
set_option linter.unnecessarySimpa false
namespace Go.Proofs.YtacnkcojhlbkoaaGreatDoor
open Go.RowKit Go.Proofs.YtacnkcojhlbkoaaGreatDoorW.PrintWords Go.Proofs.YtacnkcojhlbkoaaGreatDoorW.PrintLast Go.Proofs.YtacnkcojhlbkoaaGreatDoorW.PrintMore Go.Proofs.YtacnkcojhlbkoaaGreatDoor.NL
set_option maxRecDepth 100000
set_option exponentiation.threshold 33000

theorem sint_eq (n m : Bool) (l k : List Int) (h : l.length ≤ 1000000000) : sorobanref05_SameInt.f n l m k = some (decide (n = m ∧ l = k)) := by
  unfold sorobanref05_SameInt.f XSdy.sorobanref05_SameInt.f sorobanref01_Same.f
  by_cases h1 : n = m
  · rw [if_pos (by rw [h1]; simp), if_pos h]; show some (decide (l = k)) = _; congr 1; rw [decide_eq_decide]; exact ⟨fun h => ⟨h1, h⟩, fun h => h.2⟩
  · rw [if_neg (by simpa using h1)]; congr 1; symm; rw [decide_eq_false_iff_not]; exact fun h => h1 h.1
theorem sdy_eq (n m : Bool) (l k : List Int) (e e' : Int) (h : l.length ≤ 1000000000) : sorobanref05_SameDyad.f n l e m k e' = some (decide (n = m ∧ l = k ∧ e = e')) := by
  have hs := sint_eq n m l k h
  unfold sorobanref05_SameInt.f at hs
  unfold sorobanref05_SameDyad.f XSdy.sorobanref05_SameDyad.f
  rw [hs]
  by_cases h1 : e = e'
  · rw [if_pos h1]; show some (decide (n = m ∧ l = k)) = _; congr 1; rw [decide_eq_decide]; exact ⟨fun h => ⟨h.1, h.2, h1⟩, fun h => ⟨h.1, h.2.1⟩⟩
  · rw [if_neg h1]; congr 1; symm; rw [decide_eq_false_iff_not]; exact fun h => h1 h.2.2
theorem sdy_self (n : Bool) (l : List Int) (e : Int) (h : l.length ≤ 1000000000) : sorobanref05_SameDyad.f n l e n l e = some true := by rw [sdy_eq _ _ _ _ _ _ h, decide_eq_true ⟨rfl, rfl, rfl⟩]
theorem sint_self (n : Bool) (l : List Int) (h : l.length ≤ 1000000000) : sorobanref05_SameInt.f n l n l = some true := by rw [sint_eq _ _ _ _ h, decide_eq_true ⟨rfl, rfl⟩]
theorem nil_len : ([] : List Int).length ≤ 1000000000 := by simp
theorem small_list {x : Nat} (h : x < 2 ^ 200) : (ofN x).length ≤ 1000000000 := by
  have := small_len (k := 1000) (Nat.lt_of_lt_of_le h (pow_le3 (by omega))) (by omega)
  omega
/-- What Value and Index of the program and of the specification answer. -/
theorem bv_dat {f cl ex : Int} {ng : Bool} {l : List Int} (la : Lim l) (hl : l.length ≤ 1000000000) :
    (valueR f cl ng l ex).2.1.length ≤ 1000000000 ∧ (indexR f cl ng l ex).2.1.length ≤ 1000000000 ∧
    (((valueR f cl ng l ex).1 = false ∧ (valueR f cl ng l ex).2.1 = [] ∧ (valueR f cl ng l ex).2.2.1 = 0 ∧ (indexR f cl ng l ex).1 = false ∧ (indexR f cl ng l ex).2.1 = [] ∧ (valueR f cl ng l ex).2.2.2 = (indexR f cl ng l ex).2.2 ∧ ((datOk f cl l ex = false ∧ (indexR f cl ng l ex).2.2 = 1) ∨ (datOk f cl l ex = true ∧ (cl = 3 ∨ cl = 4) ∧ (indexR f cl ng l ex).2.2 = 5))) ∨
      (datOk f cl l ex = true ∧ (indexR f cl ng l ex).2.2 = 0 ∧ sorobanref05_Index.f f cl ng l ex = some ((indexR f cl ng l ex).1, (indexR f cl ng l ex).2.1) ∧ ((cl = 2 ∧ (valueR f cl ng l ex).2.2.2 = 5 ∧ (valueR f cl ng l ex).1 = false ∧ (valueR f cl ng l ex).2.1 = [] ∧ (valueR f cl ng l ex).2.2.1 = 0) ∨ (cl = 1 ∧ (valueR f cl ng l ex).2.2.2 = 0 ∧ sorobanref05_Value.f f cl ng l ex = some ((valueR f cl ng l ex).1, (valueR f cl ng l ex).2.1, (valueR f cl ng l ex).2.2.1))))) := by
  cases hd : datOk f cl l ex with
  | false =>
    have e1 : valueR f cl ng l ex = (false, [], 0, 1) := by unfold valueR; rw [if_pos hd]
    have e2 : indexR f cl ng l ex = (false, [], 1) := by unfold indexR; rw [if_pos hd]
    rw [e1, e2]
    exact ⟨nil_len, nil_len, .inl ⟨rfl, rfl, rfl, rfl, rfl, rfl, .inl ⟨rfl, rfl⟩⟩⟩
  | true =>
    have hd' := hd
    unfold datOk hasB at hd'
    simp only [Bool.and_eq_true] at hd'
    obtain ⟨hf, hok, hfit⟩ := hd'
    obtain ⟨-, htop⟩ := okN_iff.1 hok
    have hlo : l = ofN (val l) := (ofN_val la htop).symm
    have hnf : ¬ (datOk f cl l ex = false) := by rw [hd]; decide
    by_cases h34 : cl = 3 ∨ cl = 4
    · have e1 : valueR f cl ng l ex = (false, [], 0, 5) := by unfold valueR; rw [if_neg hnf, if_pos (by omega)]
      have e2 : indexR f cl ng l ex = (false, [], 5) := by unfold indexR; rw [if_neg hnf, if_pos h34]
      rw [e1, e2]
      exact ⟨nil_len, nil_len, .inl ⟨rfl, rfl, rfl, rfl, rfl, rfl, .inr ⟨rfl, h34, rfl⟩⟩⟩
    · have e2 : indexR f cl ng l ex = (ng && decide (0 < placeN f cl (val l) ex), ofN (placeN f cl (val l) ex), 0) := by unfold indexR; rw [if_neg hnf, if_neg h34]
      by_cases h1 : cl = 1
      · subst h1
        have hfit2 := hfit
        unfold fits at hfit2
        rw [if_pos rfl] at hfit2
        simp only [Bool.and_eq_true, Bool.or_eq_true, decide_eq_true_eq] at hfit2
        obtain ⟨⟨⟨k1, k2⟩, k3⟩, -⟩ := hfit2
        obtain ⟨n1, n2, n3, n4, n5, n6, n7⟩ := fm_nums hf
        have hbl : blen (val l) ≤ 32 * 4 := by omega
        have hll : l.length ≤ 31 := by
          have := len_blen hbl
          rw [← hlo] at this; omega
        have hx : val l < 2 ^ 200 := Nat.lt_of_lt_of_le (lt_blen _) (pow_le3 (by omega))
        have hP : placeN f 1 (val l) ex < 2 ^ 200 := by
          have F : 2 ^ oneN f * (ex - fmL f).toNat ≤ 2 ^ 112 * 40000 := Nat.mul_le_mul (pow_le3 n6) (by have := at_nums hf; omega)
          have hx2 : val l < 2 ^ 128 := Nat.lt_of_lt_of_le (lt_blen _) (pow_le3 (by omega))
          have e3 : (2 : Nat) ^ 112 * 40000 + 2 ^ 128 < 2 ^ 200 := by decide +kernel
          unfold placeN; rw [if_neg (by decide)]; omega
        have hI : sorobanref05_Index.f f 1 ng l ex = some (ng && decide (0 < placeN f 1 (val l) ex), ofN (placeN f 1 (val l) ex)) := by
          unfold sorobanref05_Index.f; rw [if_pos ⟨hf, .inr ⟨hlo, hll, k2, k3⟩⟩]
        have hbd := fmL_bd f
        have hbh := fmH_bd f
        have hV : sorobanref05_Value.f f 1 ng l ex = some (if val l = 0 then (false, [], 0) else (ng, ofN (val l / 2 ^ tz (val l)), ex + (tz (val l) : Nat))) := by
          unfold sorobanref05_Value.f
          rw [u32L_mk la, hok, decide_eq_true ⟨by omega, by omega⟩]; rfl
        rw [e2]
        by_cases h0 : val l = 0
        · have e1 : valueR f 1 ng l ex = (false, [], 0, 0) := by unfold valueR; rw [if_neg hnf, if_neg (by simp), if_pos h0]
          rw [if_pos h0] at hV
          rw [e1]
          exact ⟨nil_len, small_list hP, .inr ⟨rfl, rfl, hI, .inr ⟨rfl, rfl, hV⟩⟩⟩
        · have e1 : valueR f 1 ng l ex = (ng, ofN (val l / 2 ^ tz (val l)), ex + (tz (val l) : Nat), 0) := by unfold valueR; rw [if_neg hnf, if_neg (by simp), if_neg h0]
          rw [if_neg h0] at hV
          rw [e1]
          exact ⟨small_list (Nat.lt_of_le_of_lt (Nat.div_le_self _ _) hx), small_list hP, .inr ⟨rfl, rfl, hI, .inr ⟨rfl, rfl, hV⟩⟩⟩
      · have h2 : cl = 2 := by
          unfold fits at hfit
          rw [if_neg h1] at hfit
          by_cases h2 : cl = 2
          · exact h2
          · rw [if_neg h2, if_neg (fun h => h34 (.inl h)), if_neg (fun h => h34 (.inr h))] at hfit
            simp at hfit
        subst h2
        have e1 : valueR f 2 ng l ex = (false, [], 0, 5) := by unfold valueR; rw [if_neg hnf, if_pos (by decide)]
        have hP : placeN f 2 (val l) ex < 2 ^ 200 := by
          have : placeN f 2 (val l) ex = endN f := by unfold placeN endN; rw [if_pos rfl]
          rw [this]; exact Nat.lt_trans (end_lt hf) (Nat.pow_lt_pow_right (by decide) (by decide))
        have hI : sorobanref05_Index.f f 2 ng l ex = some (ng && decide (0 < placeN f 2 (val l) ex), ofN (placeN f 2 (val l) ex)) := by
          unfold sorobanref05_Index.f; rw [if_pos ⟨hf, .inl rfl⟩]
        rw [e1, e2]
        exact ⟨nil_len, small_list hP, .inr ⟨rfl, rfl, hI, .inl ⟨rfl, rfl, rfl, rfl, rfl⟩⟩⟩
theorem is_self (f cl q bad : Int) (ng : Bool) (l : List Int) (h : l.length ≤ 1000000000) : sorobanlaw05_is.f f cl ng l q 0 f cl ng l q true bad = some true := by
  unfold sorobanlaw05_is.f XIsb.sorobanlaw05_is.f sorobanref05_Same.f
  rw [if_pos rfl, if_pos rfl, if_pos h, decide_eq_true ⟨rfl, rfl, rfl, rfl, rfl⟩]; rfl
theorem is_none (bad : Int) : sorobanlaw05_is.f 0 0 false [] 0 bad 0 0 false [] 0 false bad = some true := by
  unfold sorobanlaw05_is.f XIsb.sorobanlaw05_is.f sorobanref05_Same.f
  rw [if_neg (by decide), if_pos rfl, if_pos nil_len, decide_eq_true ⟨rfl, rfl, rfl, rfl, rfl⟩]; rfl
theorem bv_at {n : Int} {ni : Bool} {li : List Int} (hlen : li.length ≤ 1000000000) (h : ¬ (isFm n = false ∨ okN li = false ∨ (ni = true ∧ li.length = 0))) :
    sorobanlaw05_is.f (atR n ni li).1 (atR n ni li).2.1 (atR n ni li).2.2.1 (atR n ni li).2.2.2.1 (atR n ni li).2.2.2.2.1 (atR n ni li).2.2.2.2.2 (rAtR n ni li).1 (rAtR n ni li).2.1 (rAtR n ni li).2.2.1 (rAtR n ni li).2.2.2.1 (rAtR n ni li).2.2.2.2.1 (rAtR n ni li).2.2.2.2.2 3 = some true := by
  unfold atR rAtR
  rw [if_neg h]
  by_cases c1 : endN n < val li
  · rw [if_pos c1, if_pos c1]; exact is_none 3
  · rw [if_neg c1, if_neg c1]
    by_cases c2 : val li = endN n
    · rw [if_pos c2, if_pos c2]; exact is_self _ _ _ _ _ _ nil_len
    · rw [if_neg c2, if_neg c2]
      by_cases c3 : val li / 2 ^ oneN n = 0
      · rw [if_pos c3, if_pos c3]; exact is_self _ _ _ _ _ _ hlen
      · rw [if_neg c3, if_neg c3]
        refine is_self _ _ _ _ _ _ (small_list ?_)
        have hf : isFm n = true := by
          cases hf : isFm n with
          | true => rfl
          | false => exact absurd (.inl hf) h
        obtain ⟨-, o1, -⟩ := at_nums hf
        have := Nat.mod_lt (val li) (Nat.two_pow_pos (oneN n))
        have h2 : 2 ^ oneN n ≤ 2 ^ 112 := pow_le3 o1
        have h3 : (2 : Nat) ^ 112 + 2 ^ 112 < 2 ^ 200 := by decide +kernel
        omega
theorem nilV (w : World) : Kd.C (Kd.int .u32) w none 0 [] := (R_C (Kd.R_nil (Kd.int .u32) 40 w 0 (fun _ => True))).1
set_option maxHeartbeats 4000000 in
theorem binaryValues_walk (f cl : Int) (ng : Bool) (A : Option Addr) (c : Nat) (l : List Int) (ex n : Int) (ni : Bool) (B : Option Addr) (d : Nat) (li : List Int) (W : World) (hR : Kd.C (Kd.int .u32) W A l.length l) (hC : l.length ≤ c) (hL : Lim l) (hM : l.length ≤ maxLen) (_ : (Lit.int .i64 n).wf = true) (hR2 : Kd.C (Kd.int .u32) W B li.length li) (hC2 : li.length ≤ d) (hL2 : Lim li) (hM2 : li.length ≤ maxLen) (hT : Tab W) :
    Calls Tryz.prog 4 #[dV f cl ng A l.length c ex, .int .i64 n, .agg #[.bool ni, .slice B li.length d]] W fun e W' => e = .returned (.bool true) ∧ Below W.heap.size W W' := by
  have hm : l.length ≤ 9223372036854775807 := by have : maxLen = 9223372036854775807 := rfl; omega
  have hm2 : li.length ≤ 9223372036854775807 := by have : maxLen = 9223372036854775807 := rfl; omega
  have HSa := Lib.hid fun w' (h : Tab w') => sanity_ok w' h
  by_cases hlen : l.length ≤ 1100 ∧ li.length ≤ 1100
  · have hli : light2 l li = some true := by unfold light2; rw [if_pos ⟨hm, hm2⟩, decide_eq_true hlen]
    have l1 : l.length ≤ 1000000000 := by omega
    have l2 : li.length ≤ 1000000000 := by omega
    have hu := u32L_mk hL
    have hv := u32L_mk hL2
    obtain ⟨d1, d2, d3⟩ := bv_dat (f := f) (cl := cl) (ex := ex) (ng := ng) hL l1
    have HVl : Hid (∀ w', Tab w' → Kd.C (Kd.int .u32) w' A l.length l → Calls Tryz.prog 21 #[dV f cl ng A l.length c ex] w' fun e w'' => ∃ v, e = .returned (.tuple #[.agg #[.bool (valueR f cl ng l ex).1, v, .int .i64 (valueR f cl ng l ex).2.2.1], .int .i64 (valueR f cl ng l ex).2.2.2]) ∧ Kd.R (Kd.int .u32) 40 w'' w'.heap.size (fun _ => True) v (valueR f cl ng l ex).2.1 ∧ Below w'.heap.size w' w'') := Lib.hid fun w' h0 h1 => binary_Value.calls f cl ng A c l ex _ _ _ _ w' h1 hC (by unfold binary_Value.f; rw [if_pos hu]) h0
    have HIx : Hid (∀ w', Kd.C (Kd.int .u32) w' A l.length l → Calls Tryz.prog 22 #[dV f cl ng A l.length c ex] w' fun e w'' => ∃ v, e = .returned (.tuple #[.agg #[.bool (indexR f cl ng l ex).1, v], .int .i64 (indexR f cl ng l ex).2.2]) ∧ Kd.R (Kd.int .u32) 40 w'' w'.heap.size (fun _ => True) v (indexR f cl ng l ex).2.1 ∧ Below w'.heap.size w' w'') := Lib.hid fun w' h1 => binary_Index.calls f cl ng A c l ex _ _ _ w' h1 hC (by unfold binary_Index.f; rw [if_pos hu])
    have HVa := Lib.hid fun w' (h : Kd.C (Kd.int .u32) w' A l.length l) => sorobanref05_Valid.calls f cl ng A c l ex (datOk f cl l ex) w' h hC (by unfold sorobanref05_Valid.f; rw [if_pos hu])
    have HRI : ∀ i1 i2, sorobanref05_Index.f f cl ng l ex = some (i1, i2) → Hid (∀ w', Kd.C (Kd.int .u32) w' A l.length l → Calls Tryz.prog 28 #[dV f cl ng A l.length c ex] w' fun e w'' => ∃ v, e = .returned (.agg #[.bool i1, v]) ∧ Kd.R (Kd.int .u32) 40 w'' w'.heap.size (fun _ => True) v i2 ∧ Below w'.heap.size w' w'') := fun i1 i2 h => Lib.hid fun w' h1 => sorobanref05_Index.calls f cl ng A c l ex i1 i2 w' h1 hC h
    have HRV : ∀ v1 v2 v3, sorobanref05_Value.f f cl ng l ex = some (v1, v2, v3) → Hid (∀ w', Kd.C (Kd.int .u32) w' A l.length l → Calls Tryz.prog 29 #[dV f cl ng A l.length c ex] w' fun e w'' => ∃ v, e = .returned (.agg #[.bool v1, v, .int .i64 v3]) ∧ Kd.R (Kd.int .u32) 40 w'' w'.heap.size (fun _ => True) v v2 ∧ Below w'.heap.size w' w'') := fun v1 v2 v3 h => Lib.hid fun w' h1 => sorobanref05_Value.calls f cl ng A c l ex v1 v2 v3 w' h1 hC h
    generalize valueR f cl ng l ex = V at *
    generalize indexR f cl ng l ex = I at *
    have HSI : Hid (∀ A c A' c' w', Kd.C (Kd.int .u32) w' A I.2.1.length I.2.1 → I.2.1.length ≤ c → Kd.C (Kd.int .u32) w' A' I.2.1.length I.2.1 → I.2.1.length ≤ c' → Calls Tryz.prog 27 #[.agg #[.bool I.1, .slice A I.2.1.length c], .agg #[.bool I.1, .slice A' I.2.1.length c']] w' fun e w'' => e = .returned (.bool true) ∧ Below w'.heap.size w' w'') := Lib.hid fun A c A' c' w' g1 g2 g3 g4 => sorobanref05_SameInt.calls I.1 A c I.2.1 I.1 A' c' I.2.1 true w' g1 g2 g3 g4 (sint_self _ _ d2)
    have HSV : Hid (∀ A c A' c' w', Kd.C (Kd.int .u32) w' A V.2.1.length V.2.1 → V.2.1.length ≤ c → Kd.C (Kd.int .u32) w' A' V.2.1.length V.2.1 → V.2.1.length ≤ c' → Calls Tryz.prog 26 #[.agg #[.bool V.1, .slice A V.2.1.length c, .int .i64 V.2.2.1], .agg #[.bool V.1, .slice A' V.2.1.length c', .int .i64 V.2.2.1]] w' fun e w'' => e = .returned (.bool true) ∧ Below w'.heap.size w' w'') := Lib.hid fun A c A' c' w' g1 g2 g3 g4 => sorobanref05_SameDyad.calls V.1 A c V.2.1 V.2.2.1 V.1 A' c' V.2.1 V.2.2.1 true w' g1 g2 g3 g4 (sdy_self _ _ _ d1)
    have HD : (datOk f cl l ex = false ∧ V.2.2.2 = 1 ∧ I.2.2 = 1 ∧ decide (V.1 = false ∧ V.2.1 = [] ∧ V.2.2.1 = 0) = true ∧ decide (I.1 = false ∧ I.2.1 = []) = true) ∨ (datOk f cl l ex = true ∧ (cl = 3 ∨ cl = 4) ∧ V.2.2.2 = 5 ∧ I.2.2 = 5 ∧ decide (V.1 = false ∧ V.2.1 = [] ∧ V.2.2.1 = 0) = true ∧ decide (I.1 = false ∧ I.2.1 = []) = true) ∨ (datOk f cl l ex = true ∧ cl = 2 ∧ V.2.2.2 = 5 ∧ I.2.2 = 0 ∧ decide (V.1 = false ∧ V.2.1 = [] ∧ V.2.2.1 = 0) = true ∧ sorobanref05_Index.f f cl ng l ex = some (I.1, I.2.1)) ∨ (datOk f cl l ex = true ∧ cl = 1 ∧ V.2.2.2 = 0 ∧ I.2.2 = 0 ∧ sorobanref05_Index.f f cl ng l ex = some (I.1, I.2.1) ∧ sorobanref05_Value.f f cl ng l ex = some (V.1, V.2.1, V.2.2.1)) := by
      rcases d3 with ⟨h1, h2, h3, h4, h5, h6, h⟩ | ⟨hd, he, hi, h⟩
      · have k1 : decide (V.1 = false ∧ V.2.1 = [] ∧ V.2.2.1 = 0) = true := decide_eq_true ⟨h1, h2, h3⟩
        have k2 : decide (I.1 = false ∧ I.2.1 = []) = true := decide_eq_true ⟨h4, h5⟩
        rcases h with ⟨h7, h8⟩ | ⟨h7, h8, h9⟩
        · exact .inl ⟨h7, h6.trans h8, h8, k1, k2⟩
        · exact .inr (.inl ⟨h7, h8, h6.trans h9, h9, k1, k2⟩)
      · rcases h with ⟨h1, h2, h3, h4, h5⟩ | ⟨h1, h2, h3⟩
        · exact .inr (.inr (.inl ⟨hd, h1, h2, he, decide_eq_true ⟨h3, h4, h5⟩, hi⟩))
        · exact .inr (.inr (.inr ⟨hd, h1, h2, he, hi, h3⟩))
    clear d3
    have hIF := Lib.hid fun w' => risf_any n w'
    have hVI := Lib.hid fun w' (h : Kd.C (Kd.int .u32) w' B li.length li) => sorobanref05_ValidInt.calls ni B d li (okN li && (!ni || decide (0 < li.length))) w' h hC2 (by unfold sorobanref05_ValidInt.f; rw [if_pos hv])
    refine vals_walk (t1 := (rAtR n ni li).1) (t2 := (rAtR n ni li).2.1) (t3 := (rAtR n ni li).2.2.1) (t4 := (rAtR n ni li).2.2.2.1) (t5 := (rAtR n ni li).2.2.2.2.1) (t6 := (rAtR n ni li).2.2.2.2.2) (d1 := decide (V.1 = false ∧ V.2.1 = [] ∧ V.2.2.1 = 0)) (d2 := decide (I.1 = false ∧ I.2.1 = [])) W hR hC hR2 hC2 hli hT HSa HVl HIx (Lib.hid fun w' h => bat_any (f := n) (ng := ni) w' h hL2 hC2) hIF hVI ?_
      (Lib.hid fun A c w' g1 g2 => sorobanref05_SameDyad.calls V.1 A c V.2.1 V.2.2.1 false none 0 [] 0 _ w' g1 g2 (nilV w') (Nat.le_refl 0) (sdy_eq _ _ _ _ _ _ d1))
      (Lib.hid fun A c w' g1 g2 => sorobanref05_SameInt.calls I.1 A c I.2.1 false none 0 [] _ w' g1 g2 (nilV w') (Nat.le_refl 0) (sint_eq _ _ _ _ d2)) HVa ?_
    · by_cases h : isFm n = false ∨ okN li = false ∨ (ni = true ∧ li.length = 0)
      · refine .inl ⟨?_, ?_, ?_⟩
        · cases hf : isFm n with
          | false => exact .inl rfl
          | true =>
            refine .inr ⟨rfl, ?_⟩
            rw [hf] at h
            rcases h with h | h | ⟨rfl, h⟩
            · cases h
            · rw [h]; rfl
            · rw [decide_eq_false (by omega)]; simp
        · unfold atR; rw [if_pos h]
        · have ea : atR n ni li = (0, 0, false, [], 0, 1) := by unfold atR; rw [if_pos h]
          rw [ea]
          exact Lib.hid fun A c w' g1 g2 => sorobanref05_Same.calls 0 0 false A c [] 0 0 0 false none 0 [] 0 true w' g1 g2 (nilV w') (Nat.le_refl 0) (by unfold sorobanref05_Same.f; rw [if_pos (by simp), decide_eq_true ⟨rfl, rfl, rfl, rfl, rfl⟩])
      · have hf : isFm n = true := by
          cases hf : isFm n with
          | true => rfl
          | false => exact absurd (.inl hf) h
        have hok : okN li = true := by
          cases hok : okN li with
          | true => rfl
          | false => exact absurd (.inr (.inl hok)) h
        refine .inr ⟨hf, ?_, Lib.hid fun w' g => rAt_any (f := n) (ng := ni) w' hf g hC2 hL2 hok, Lib.hid fun A c A' c' w' g1 g2 g3 g4 => sorobanlaw05_is.calls _ _ _ A c _ _ _ _ _ _ A' c' _ _ _ 3 true w' g1 g2 g3 g4 (bv_at l2 h)⟩
        rw [hok]
        cases ni with
        | false => rfl
        | true => rw [decide_eq_true (Nat.pos_of_ne_zero fun h2 => h (.inr (.inr ⟨rfl, h2⟩)))]; rfl
    · rcases HD with h | h | ⟨h1, h2, h3, h4, h5, h6⟩ | ⟨h1, h2, h3, h4, h5, h6⟩
      · exact .inl h
      · exact .inr (.inl h)
      · exact .inr (.inr (.inl ⟨h1, h2, h3, h4, h5, HRI _ _ h6, HSI⟩))
      · exact .inr (.inr (.inr ⟨h1, h2, h3, h4, HRI _ _ h5, HSI, HRV _ _ _ h6, HSV⟩))
  · have hli : light2 l li = some false := by unfold light2; rw [if_pos ⟨hm, hm2⟩, decide_eq_false hlen]
    exact vals_long W hli hT HSa
end Go.Proofs.YtacnkcojhlbkoaaGreatDoor
