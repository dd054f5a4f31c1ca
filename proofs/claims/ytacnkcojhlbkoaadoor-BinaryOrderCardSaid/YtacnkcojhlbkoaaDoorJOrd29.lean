/- The law's sanity: it answers true. The law BinaryOrder: what its calls return, and so that it answers true. -/
import Derived.Test.YtacnkcojhlbkoaaDoorJOrd28
import Derived.Test.YtacnkcojhlbkoaaDoorJOrd18
set_option linter.unusedSimpArgs false
set_option linter.unusedVariables false
set_option linter.unnecessarySimpa false
namespace Go.Proofs.YtacnkcojhlbkoaaDoor
open Go.RowKit Go.Proofs.YtacnkcojhlbkoaaDoorW.PrintWords Go.Proofs.YtacnkcojhlbkoaaDoorW.PrintLast Go.Proofs.YtacnkcojhlbkoaaDoorW.PrintMore Go.Proofs.YtacnkcojhlbkoaaDoor.NL
set_option maxRecDepth 100000
set_option exponentiation.threshold 130

theorem lit_D {fn : FuncId} {args : Array Value} {w' : World} {f cl ex er : Int} {ng : Bool} {l : List Int} {n : Nat} (hn : l.length = n) (h : Calls Tryd.prog fn args w' fun e w'' => ∃ v3_ : Value, e = .returned (.tuple #[.agg #[.int .i64 f, .int .i64 cl, .bool ng, v3_, .int .i64 ex], .int .i64 er]) ∧ Kd.R (Kd.int .u32) 77 w'' w'.heap.size (fun _ => True) v3_ l ∧ Below w'.heap.size w' w'') :
    Calls Tryd.prog fn args w' fun e w'' => ∃ (A : Option Addr) (c : Nat), e = .returned (.tuple #[.agg #[.int .i64 f, .int .i64 cl, .bool ng, .slice A n c, .int .i64 ex], .int .i64 er]) ∧ Hid (Kd.C (Kd.int .u32) w'' A n l ∧ n ≤ c) ∧ Below w'.heap.size w' w'' := by
  subst hn
  refine h.mono ?_
  rintro e w'' ⟨v, rfl, hv, hb⟩
  obtain ⟨A, c, rfl⟩ := Kd.R_slice hv
  exact ⟨A, c, rfl, Lib.hid (R_C hv), hb⟩
theorem lit_H {fn : FuncId} {args : Array Value} {w' : World} {f cl ex : Int} {ng : Bool} {l : List Int} {n : Nat} (hn : l.length = n) (h : Calls Tryd.prog fn args w' fun e w'' => ∃ v3_ : Value, e = .returned (.agg #[.int .i64 f, .int .i64 cl, .bool ng, v3_, .int .i64 ex]) ∧ Kd.R (Kd.int .u32) 77 w'' w'.heap.size (fun _ => True) v3_ l ∧ Below w'.heap.size w' w'') :
    Calls Tryd.prog fn args w' fun e w'' => ∃ (A : Option Addr) (c : Nat), e = .returned (.agg #[.int .i64 f, .int .i64 cl, .bool ng, .slice A n c, .int .i64 ex]) ∧ Hid (Kd.C (Kd.int .u32) w'' A n l ∧ n ≤ c) ∧ Below w'.heap.size w' w'' := by
  subst hn
  refine h.mono ?_
  rintro e w'' ⟨v, rfl, hv, hb⟩
  obtain ⟨A, c, rfl⟩ := Kd.R_slice hv
  exact ⟨A, c, rfl, Lib.hid (R_C hv), hb⟩
theorem lit_I {fn : FuncId} {args : Array Value} {w' : World} {er : Int} {ng : Bool} {l : List Int} {n : Nat} (hn : l.length = n) (h : Calls Tryd.prog fn args w' fun e w'' => ∃ v1_ : Value, e = .returned (.tuple #[.agg #[.bool ng, v1_], .int .i64 er]) ∧ Kd.R (Kd.int .u32) 77 w'' w'.heap.size (fun _ => True) v1_ l ∧ Below w'.heap.size w' w'') :
    Calls Tryd.prog fn args w' fun e w'' => ∃ (A : Option Addr) (c : Nat), e = .returned (.tuple #[.agg #[.bool ng, .slice A n c], .int .i64 er]) ∧ Hid (Kd.C (Kd.int .u32) w'' A n l ∧ n ≤ c) ∧ Below w'.heap.size w' w'' := by
  subst hn
  refine h.mono ?_
  rintro e w'' ⟨v, rfl, hv, hb⟩
  obtain ⟨A, c, rfl⟩ := Kd.R_slice hv
  exact ⟨A, c, rfl, Lib.hid (R_C hv), hb⟩

set_option maxHeartbeats 16000000 in
theorem sanity_ok (w : World) (hT : Tab w) : Calls Tryd.prog 11 #[] w fun e w' => e = .returned (.bool true) ∧ Below w.heap.size w w' := by
  have HO : Hid (∀ (W : World) (x : Int), Kd.C (Kd.int .u32) (W.alloc (.cells #[.int .u32 x] 77)) (some ⟨W.heap.size, 0, none⟩) 1 [x]) := Lib.hid fun W x => (R_C (R_fresh W W.heap.size rfl [x] #[.int .u32 x] rfl 1 rfl (Nat.le_refl _) (by simp))).1
  have HE : Hid (∀ w' A, Kd.C (Kd.int .u32) w' A 1 [8388608] → Calls Tryd.prog 12 #[.agg #[.int .i64 2, .int .i64 1, .bool false, .slice A 1 1, .int .i64 (-23)]] w' fun e w'' => e = .returned (.tuple #[.agg #[.int .u64 0, .int .u64 1065353216], .int .i64 0]) ∧ Below w'.heap.size w' w'') := Lib.hid fun w' A h => binary_Encode.calls 2 1 false A 1 [8388608] (-23) 0 1065353216 0 w' h (Nat.le_refl _) li1
  have HD1 : Hid (∀ w', Calls Tryd.prog 15 #[.int .i64 4, .agg #[.int .u64 0, .int .u64 9223372036854775808]] w' fun e w'' => ∃ (A : Option Addr) (c : Nat), e = .returned (.tuple #[.agg #[.int .i64 4, .int .i64 1, .bool false, .slice A 2 c, .int .i64 (-16445)], .int .i64 0]) ∧ Hid (Kd.C (Kd.int .u32) w'' A 2 [0, 2147483648] ∧ 2 ≤ c) ∧ Below w'.heap.size w' w'') := Lib.hid fun w' => lit_D rfl (binary_Decode.calls 4 0 9223372036854775808 4 1 false [0, 2147483648] (-16445) 0 w' li2)
  have HD2 : Hid (∀ w', Calls Tryd.prog 15 #[.int .i64 4, .agg #[.int .u64 16384, .int .u64 0]] w' fun e w'' => ∃ (A : Option Addr) (c : Nat), e = .returned (.tuple #[.agg #[.int .i64 4, .int .i64 4, .bool false, .slice A 1 c, .int .i64 (0)], .int .i64 0]) ∧ Hid (Kd.C (Kd.int .u32) w'' A 1 [1] ∧ 1 ≤ c) ∧ Below w'.heap.size w' w'') := Lib.hid fun w' => lit_D rfl (binary_Decode.calls 4 16384 0 4 4 false [1] 0 0 w' li3)
  have HCN : Hid (∀ w', Calls Tryd.prog 16 #[.int .i64 4, .agg #[.int .u64 0, .int .u64 9223372036854775808]] w' fun e w'' => e = .returned (.tuple #[.bool false, .int .i64 0]) ∧ Below w'.heap.size w' w'') := Lib.hid fun w' => XCanon.binary_Canonical.calls 4 0 9223372036854775808 false 0 w' li4
  have HB : Hid (∀ w' A c, Kd.C (Kd.int .u32) w' A 2 [0, 2147483648] → 2 ≤ c → Calls Tryd.prog 39 #[.slice A 2 c] w' fun e w'' => e = .returned (.int .i64 64) ∧ Below w'.heap.size w' w'') := Lib.hid fun w' A c h1 h2 => sorobanref01_Bits.calls A c [0, 2147483648] 64 w' h1 h2 li5
  have HH0 : Hid (∀ w', Calls Tryd.prog 40 #[.int .u64 31744] w' fun e w'' => ∃ (A : Option Addr) (c : Nat), e = .returned (.agg #[.int .i64 1, .int .i64 2, .bool false, .slice A 0 c, .int .i64 (0)]) ∧ Hid (Kd.C (Kd.int .u32) w'' A 0 [] ∧ 0 ≤ c) ∧ Below w'.heap.size w' w'') := Lib.hid fun w' => lit_H rfl (XHalf.sorobanlaw05_half.calls 31744 1 2 false [] (0) w' li6)
  have HH1 : Hid (∀ w', Calls Tryd.prog 40 #[.int .u64 32257] w' fun e w'' => ∃ (A : Option Addr) (c : Nat), e = .returned (.agg #[.int .i64 1, .int .i64 3, .bool false, .slice A 1 c, .int .i64 (0)]) ∧ Hid (Kd.C (Kd.int .u32) w'' A 1 [1] ∧ 1 ≤ c) ∧ Below w'.heap.size w' w'') := Lib.hid fun w' => lit_H rfl (XHalf.sorobanlaw05_half.calls 32257 1 3 false [1] (0) w' li7)
  have HH2 : Hid (∀ w', Calls Tryd.prog 40 #[.int .u64 31749] w' fun e w'' => ∃ (A : Option Addr) (c : Nat), e = .returned (.agg #[.int .i64 1, .int .i64 4, .bool false, .slice A 1 c, .int .i64 (0)]) ∧ Hid (Kd.C (Kd.int .u32) w'' A 1 [5] ∧ 1 ≤ c) ∧ Below w'.heap.size w' w'') := Lib.hid fun w' => lit_H rfl (XHalf.sorobanlaw05_half.calls 31749 1 4 false [5] (0) w' li8)
  have HH3 : Hid (∀ w', Calls Tryd.prog 40 #[.int .u64 32768] w' fun e w'' => ∃ (A : Option Addr) (c : Nat), e = .returned (.agg #[.int .i64 1, .int .i64 1, .bool true, .slice A 0 c, .int .i64 (-24)]) ∧ Hid (Kd.C (Kd.int .u32) w'' A 0 [] ∧ 0 ≤ c) ∧ Below w'.heap.size w' w'') := Lib.hid fun w' => lit_H rfl (XHalf.sorobanlaw05_half.calls 32768 1 1 true [] (-24) w' li9)
  have HH4 : Hid (∀ w', Calls Tryd.prog 40 #[.int .u64 15360] w' fun e w'' => ∃ (A : Option Addr) (c : Nat), e = .returned (.agg #[.int .i64 1, .int .i64 1, .bool false, .slice A 1 c, .int .i64 (-10)]) ∧ Hid (Kd.C (Kd.int .u32) w'' A 1 [1024] ∧ 1 ≤ c) ∧ Below w'.heap.size w' w'') := Lib.hid fun w' => lit_H rfl (XHalf.sorobanlaw05_half.calls 15360 1 1 false [1024] (-10) w' li10)
  have HS0 : Hid (∀ w' A c, Kd.C (Kd.int .u32) w' A 0 [] → 0 ≤ c → Calls Tryd.prog 19 #[.agg #[.int .i64 1, .int .i64 2, .bool false, .slice A 0 c, .int .i64 (0)], .agg #[.int .i64 1, .int .i64 2, .bool false, .slice none 0 0, .int .i64 (0)]] w' fun e w'' => e = .returned (.bool true) ∧ Below w'.heap.size w' w'') := Lib.hid fun w' A c h1 h2 => sorobanref05_Same.calls 1 2 false A c [] (0) 1 2 false none 0 [] (0) true w' h1 h2 (R_nilC w') (Nat.le_refl _) (by decide)
  have HS1 : Hid (∀ w' A c B, Kd.C (Kd.int .u32) w' A 1 [1] → 1 ≤ c → Kd.C (Kd.int .u32) w' B 1 [1] → Calls Tryd.prog 19 #[.agg #[.int .i64 1, .int .i64 3, .bool false, .slice A 1 c, .int .i64 (0)], .agg #[.int .i64 1, .int .i64 3, .bool false, .slice B 1 1, .int .i64 (0)]] w' fun e w'' => e = .returned (.bool true) ∧ Below w'.heap.size w' w'') := Lib.hid fun w' A c B h1 h2 h3 => sorobanref05_Same.calls 1 3 false A c [1] (0) 1 3 false B 1 [1] (0) true w' h1 h2 h3 (Nat.le_refl _) (by decide)
  have HS2 : Hid (∀ w' A c B, Kd.C (Kd.int .u32) w' A 1 [5] → 1 ≤ c → Kd.C (Kd.int .u32) w' B 1 [5] → Calls Tryd.prog 19 #[.agg #[.int .i64 1, .int .i64 4, .bool false, .slice A 1 c, .int .i64 (0)], .agg #[.int .i64 1, .int .i64 4, .bool false, .slice B 1 1, .int .i64 (0)]] w' fun e w'' => e = .returned (.bool true) ∧ Below w'.heap.size w' w'') := Lib.hid fun w' A c B h1 h2 h3 => sorobanref05_Same.calls 1 4 false A c [5] (0) 1 4 false B 1 [5] (0) true w' h1 h2 h3 (Nat.le_refl _) (by decide)
  have HS3 : Hid (∀ w' A c, Kd.C (Kd.int .u32) w' A 0 [] → 0 ≤ c → Calls Tryd.prog 19 #[.agg #[.int .i64 1, .int .i64 1, .bool true, .slice A 0 c, .int .i64 (-24)], .agg #[.int .i64 1, .int .i64 1, .bool true, .slice none 0 0, .int .i64 (-24)]] w' fun e w'' => e = .returned (.bool true) ∧ Below w'.heap.size w' w'') := Lib.hid fun w' A c h1 h2 => sorobanref05_Same.calls 1 1 true A c [] (-24) 1 1 true none 0 [] (-24) true w' h1 h2 (R_nilC w') (Nat.le_refl _) (by decide)
  have HS4 : Hid (∀ w' A c B, Kd.C (Kd.int .u32) w' A 1 [1024] → 1 ≤ c → Kd.C (Kd.int .u32) w' B 1 [1024] → Calls Tryd.prog 19 #[.agg #[.int .i64 1, .int .i64 1, .bool false, .slice A 1 c, .int .i64 (2)], .agg #[.int .i64 1, .int .i64 1, .bool false, .slice B 1 1, .int .i64 (2)]] w' fun e w'' => e = .returned (.bool true) ∧ Below w'.heap.size w' w'') := Lib.hid fun w' A c B h1 h2 h3 => sorobanref05_Same.calls 1 1 false A c [1024] 2 1 1 false B 1 [1024] 2 true w' h1 h2 h3 (Nat.le_refl _) (by decide)
  have HS5 : Hid (∀ w' A c B, Kd.C (Kd.int .u32) w' A 1 [15360] → 1 ≤ c → Kd.C (Kd.int .u32) w' B 1 [15360] → Calls Tryd.prog 24 #[.slice A 1 c, .slice B 1 1] w' fun e w'' => e = .returned (.bool true) ∧ Below w'.heap.size w' w'') := Lib.hid fun w' A c B h1 h2 h3 => sorobanref01_Same.calls A c [15360] B 1 [15360] true w' h1 h2 h3 (Nat.le_refl _) (by decide)
  have HM1 : Hid (∀ w' B (_ : Below w.heap.size w w') (_ : Kd.C (Kd.int .u32) w' B 1 [4097]), Calls Tryd.prog 32 #[.int .i64 1, .bool false, .slice B 1 1, .int .i64 0] w' fun e w'' => ∃ (A : Option Addr) (c : Nat), e = .returned (.tuple #[.agg #[.int .i64 0, .int .i64 0, .bool false, .slice A 0 c, .int .i64 (0)], .int .i64 3]) ∧ Hid (Kd.C (Kd.int .u32) w'' A 0 [] ∧ 0 ≤ c) ∧ Below w'.heap.size w' w'') := Lib.hid fun w' B h1 h2 => lit_D rfl (binary_Make.calls 1 false B 1 [4097] 0 0 0 false [] 0 3 w' h2 (Nat.le_refl _) li11 (hT.below h1))
  have HM2 : Hid (∀ w' B (_ : Below w.heap.size w w') (_ : Kd.C (Kd.int .u32) w' B 1 [4096]), Calls Tryd.prog 32 #[.int .i64 1, .bool false, .slice B 1 1, .int .i64 0] w' fun e w'' => ∃ (A : Option Addr) (c : Nat), e = .returned (.tuple #[.agg #[.int .i64 1, .int .i64 1, .bool false, .slice A 1 c, .int .i64 (2)], .int .i64 0]) ∧ Hid (Kd.C (Kd.int .u32) w'' A 1 [1024] ∧ 1 ≤ c) ∧ Below w'.heap.size w' w'') := Lib.hid fun w' B h1 h2 => lit_D rfl (binary_Make.calls 1 false B 1 [4096] 0 1 1 false [1024] 2 0 w' h2 (Nat.le_refl _) li12 (hT.below h1))
  have HI : Hid (∀ w' A c, Kd.C (Kd.int .u32) w' A 1 [1024] → 1 ≤ c → Calls Tryd.prog 23 #[.agg #[.int .i64 1, .int .i64 1, .bool false, .slice A 1 c, .int .i64 (-10)]] w' fun e w'' => ∃ (A : Option Addr) (c : Nat), e = .returned (.tuple #[.agg #[.bool false, .slice A 1 c], .int .i64 0]) ∧ Hid (Kd.C (Kd.int .u32) w'' A 1 [15360] ∧ 1 ≤ c) ∧ Below w'.heap.size w' w'') := Lib.hid fun w' A c h1 h2 => lit_I rfl (binary_Index.calls 1 1 false A c [1024] (-10) false [15360] 0 w' h1 h2 li13)
  clear hT
  go_enter Tryd.func11, Tryd.ntmps11
  go_upto_region 4 with (first | (go_at_call 12; (with_reducible refine (HE.out _ _ (HO.out _ 8388608)).mono ?_); rintro e w1 ⟨rfl, b1⟩; obtain ⟨hc1, hf1⟩ := bcell b1; have hz1 := below_size b1; (try simp at hz1)) | (go_at_call 15; (with_reducible refine (HD1.out _).mono ?_); rintro e w2 ⟨A2, c2, rfl, HV2, b2⟩; obtain ⟨hc2, hf2⟩ := bcell b2; have hz2 := below_size b2; (try simp at hz2); (try have yw12 : w1.heap.size < w2.heap.size := (by omega))) | (go_at_call 15; (with_reducible refine (HD2.out _).mono ?_); rintro e w3 ⟨A3, c3, rfl, HV3, b3⟩; obtain ⟨hc3, hf3⟩ := bcell b3; have hz3 := below_size b3; (try simp at hz3); (try have yw13 : w1.heap.size < w3.heap.size := (by omega)); (try have yw23 : w2.heap.size < w3.heap.size := (by omega))))
  go_cut [1, 3, 5, 7, 8] (fun v1 v3 v5 v7 v8 wx => ∃ (p1 p3 p5 : Nat) (A : Option Addr) (c : Nat) (A' : Option Addr) (c' : Nat), v1 = .pointer (some ⟨p1, 0, none⟩) ∧ v3 = .pointer (some ⟨p3, 0, none⟩) ∧ v5 = .pointer (some ⟨p5, 0, none⟩) ∧ v7 = .bool false ∧ v8 = .int .i64 0 ∧ BlkIs wx p1 28 (· = #[.int .u64 0, .int .u64 1065353216]) ∧ BlkIs wx p3 25 (· = #[.int .i64 4, .int .i64 1, .bool false, .slice A 2 c, .int .i64 (-16445)]) ∧ BlkIs wx p5 25 (· = #[.int .i64 4, .int .i64 4, .bool false, .slice A' 1 c', .int .i64 (0)]) ∧ Hid (Kd.C (Kd.int .u32) wx A 2 [0, 2147483648] ∧ 2 ≤ c) ∧ Below w.heap.size w wx)
  case first =>
    go_wp2_with (first | (go_at_call 16; (with_reducible refine (HCN.out _).mono ?_); rintro e w4 ⟨rfl, b4⟩; obtain ⟨hc4, hf4⟩ := bcell b4; have hz4 := below_size b4; (try simp at hz4); (try have yw14 : w1.heap.size < w4.heap.size := (by omega)); (try have yw24 : w2.heap.size < w4.heap.size := (by omega)); (try have yw34 : w3.heap.size < w4.heap.size := (by omega))))
    go_meet
    exact ⟨_, _, _, _, _, _, _, rfl, rfl, rfl, rfl, rfl, blk0, blk0, blk0, Lib.hid ⟨Kd.C_below HV2.out.1 bel, HV2.out.2⟩, bel⟩
  case rest =>
    obtain ⟨p1, p3, p5, A, c, A', c', rfl, rfl, rfl, rfl, rfl, HB1, HB3, HB5, HX, hbw⟩ := hcut
    obtain ⟨cs1, hbk1, rfl⟩ := HB1
    obtain ⟨cs3, hbk3, rfl⟩ := HB3
    obtain ⟨cs5, hbk5, rfl⟩ := HB5
    have q0 : wc.cell? ⟨p1, 0, none⟩ = some (.int .u64 0) := by simpa using blk_cell hbk1 0
    have q1 : wc.cell? ⟨p1, 1, none⟩ = some (.int .u64 1065353216) := by simpa using blk_cell hbk1 1
    have qz : p1 < wc.heap.size := blk_lt hbk1
    have r0 : wc.cell? ⟨p3, 0, none⟩ = some (.int .i64 4) := by simpa using blk_cell hbk3 0
    have r1 : wc.cell? ⟨p3, 1, none⟩ = some (.int .i64 1) := by simpa using blk_cell hbk3 1
    have r2 : wc.cell? ⟨p3, 2, none⟩ = some (.bool false) := by simpa using blk_cell hbk3 2
    have r3 : wc.cell? ⟨p3, 3, none⟩ = some (.slice A 2 c) := by simpa using blk_cell hbk3 3
    have r4 : wc.cell? ⟨p3, 4, none⟩ = some (.int .i64 (-16445)) := by simpa using blk_cell hbk3 4
    have rz : p3 < wc.heap.size := blk_lt hbk3
    have s0 : wc.cell? ⟨p5, 0, none⟩ = some (.int .i64 4) := by simpa using blk_cell hbk5 0
    have s1 : wc.cell? ⟨p5, 1, none⟩ = some (.int .i64 4) := by simpa using blk_cell hbk5 1
    have s2 : wc.cell? ⟨p5, 2, none⟩ = some (.bool false) := by simpa using blk_cell hbk5 2
    have s3 : wc.cell? ⟨p5, 3, none⟩ = some (.slice A' 1 c') := by simpa using blk_cell hbk5 3
    have s4 : wc.cell? ⟨p5, 4, none⟩ = some (.int .i64 0) := by simpa using blk_cell hbk5 4
    have sz : p5 < wc.heap.size := blk_lt hbk5
    clear hbk1 hbk3 hbk5
    go_upto_region 10 with (first | (go_at_call 39; (with_reducible refine (HB.out _ _ _ (Kd.C_below HX.out.1 bel) HX.out.2).mono ?_); rintro e w5 ⟨rfl, b5⟩; obtain ⟨hc5, hf5⟩ := bcell b5; have hz5 := below_size b5; (try simp at hz5); (try have yp15 : p1 < w5.heap.size := (by omega)); (try have yp35 : p3 < w5.heap.size := (by omega)); (try have yp55 : p5 < w5.heap.size := (by omega))) | (go_at_call 40; (with_reducible refine (HH0.out _).mono ?_); rintro e w10 ⟨A10, c10, rfl, HV10, b10⟩; obtain ⟨hc10, hf10⟩ := bcell b10; have hz10 := below_size b10; (try simp at hz10)) | (go_at_call 19; (with_reducible refine (HS0.out _ _ _ (Kd.C_below HV10.out.1 bel) HV10.out.2).mono ?_); rintro e w11 ⟨rfl, b11⟩; obtain ⟨hc11, hf11⟩ := bcell b11; have hz11 := below_size b11; (try simp at hz11)) | (go_at_call 40; (with_reducible refine (HH1.out _).mono ?_); rintro e w12 ⟨A12, c12, rfl, HV12, b12⟩; obtain ⟨hc12, hf12⟩ := bcell b12; have hz12 := below_size b12; (try simp at hz12)) | (go_at_call 19; (with_reducible refine (HS1.out _ _ _ _ (Kd.C_below HV12.out.1 bel) HV12.out.2 (HO.out _ 1)).mono ?_); rintro e w13 ⟨rfl, b13⟩; obtain ⟨hc13, hf13⟩ := bcell b13; have hz13 := below_size b13; (try simp at hz13)) | (go_at_call 40; (with_reducible refine (HH2.out _).mono ?_); rintro e w14 ⟨A14, c14, rfl, HV14, b14⟩; obtain ⟨hc14, hf14⟩ := bcell b14; have hz14 := below_size b14; (try simp at hz14)) | (go_at_call 19; (with_reducible refine (HS2.out _ _ _ _ (Kd.C_below HV14.out.1 bel) HV14.out.2 (HO.out _ 5)).mono ?_); rintro e w15 ⟨rfl, b15⟩; obtain ⟨hc15, hf15⟩ := bcell b15; have hz15 := below_size b15; (try simp at hz15)) | (go_at_call 40; (with_reducible refine (HH3.out _).mono ?_); rintro e w16 ⟨A16, c16, rfl, HV16, b16⟩; obtain ⟨hc16, hf16⟩ := bcell b16; have hz16 := below_size b16; (try simp at hz16)) | (go_at_call 19; (with_reducible refine (HS3.out _ _ _ (Kd.C_below HV16.out.1 bel) HV16.out.2).mono ?_); rintro e w17 ⟨rfl, b17⟩; obtain ⟨hc17, hf17⟩ := bcell b17; have hz17 := below_size b17; (try simp at hz17)) | (go_at_call 32; (with_reducible refine (HM1.out _ _ bel (HO.out _ 4097)).mono ?_); rintro e w20 ⟨A20, c20, rfl, HV20, b20⟩; obtain ⟨hc20, hf20⟩ := bcell b20; have hz20 := below_size b20; (try simp at hz20)))
    go_cut [2, 4, 9] (fun v2 v4 v9 wx => ∃ (p9 : Nat) (A : Option Addr) (c : Nat), v2 = .int .i64 3 ∧ v4 = .int .i64 0 ∧ v9 = .pointer (some ⟨p9, 0, none⟩) ∧ BlkIs wx p9 25 (· = #[.int .i64 1, .int .i64 1, .bool false, .slice A 1 c, .int .i64 (2)]) ∧ Hid (Kd.C (Kd.int .u32) wx A 1 [1024] ∧ 1 ≤ c) ∧ Below w.heap.size w wx)
    case first =>
      go_wp2_with (first | (go_at_call 32; (with_reducible refine (HM2.out _ _ bel (HO.out _ 4096)).mono ?_); rintro e w21 ⟨A21, c21, rfl, HV21, b21⟩; obtain ⟨hc21, hf21⟩ := bcell b21; have hz21 := below_size b21; (try simp at hz21)))
      go_meet
      exact ⟨_, _, _, rfl, rfl, rfl, blk0, Lib.hid ⟨Kd.C_below HV21.out.1 bel, HV21.out.2⟩, bel⟩
    case rest =>
      clear q0 q1 qz r0 r1 r2 r3 r4 rz s0 s1 s2 s3 s4 sz hbw
      obtain ⟨p9, A, c, rfl, rfl, rfl, HB9, HX, hbw⟩ := hcut
      have HB9h := Lib.hid HB9
      have hz9 : p9 < wc.heap.size := by obtain ⟨cs, h, -⟩ := HB9; exact blk_lt h
      clear HB9
      go_upto_region 11 with fail
      go_cut [6, 10] (fun v6 v10 wx => ∃ (p10 : Nat) (A' : Option Addr) (c' : Nat), v6 = .int .i64 0 ∧ v10 = .pointer (some ⟨p10, 0, none⟩) ∧ BlkIs wx p10 48 (· = #[.bool false, .slice A' 1 c']) ∧ Hid (Kd.C (Kd.int .u32) wx A' 1 [15360] ∧ 1 ≤ c') ∧ BlkIs wx p9 25 (· = #[.int .i64 1, .int .i64 1, .bool false, .slice A 1 c, .int .i64 (2)]) ∧ Hid (Kd.C (Kd.int .u32) wx A 1 [1024] ∧ 1 ≤ c) ∧ Below w.heap.size w wx)
      case first =>
        go_wp2_with (first | (go_at_call 40; (with_reducible refine (HH4.out _).mono ?_); rintro e w22 ⟨A22, c22, rfl, HV22, b22⟩; obtain ⟨hc22, hf22⟩ := bcell b22; have hz22 := below_size b22; (try simp at hz22); (try have yp922 : p9 < w22.heap.size := (by omega))) | (go_at_call 23; (with_reducible refine (HI.out _ _ _ (Kd.C_below HV22.out.1 bel) HV22.out.2).mono ?_); rintro e w23 ⟨A23, c23, rfl, HV23, b23⟩; obtain ⟨hc23, hf23⟩ := bcell b23; have hz23 := below_size b23; (try simp at hz23); (try have yp923 : p9 < w23.heap.size := (by omega)); (try have yw2223 : w22.heap.size < w23.heap.size := (by omega))))
        go_meet
        have HB9 := HB9h.out
        exact ⟨_, _, _, rfl, rfl, blk0, Lib.hid ⟨Kd.C_below HV23.out.1 bel, HV23.out.2⟩, blk0, Lib.hid ⟨Kd.C_below HX.out.1 bel, HX.out.2⟩, bel⟩
      case rest =>
        obtain ⟨p10, A', c', rfl, rfl, HB10, HX2, HB9, HX, hbw⟩ := hcut
        obtain ⟨cs9, hbk9, rfl⟩ := HB9
        obtain ⟨cs10, hbk10, rfl⟩ := HB10
        have r0 : wc.cell? ⟨p9, 0, none⟩ = some (.int .i64 1) := by simpa using blk_cell hbk9 0
        have r1 : wc.cell? ⟨p9, 1, none⟩ = some (.int .i64 1) := by simpa using blk_cell hbk9 1
        have r2 : wc.cell? ⟨p9, 2, none⟩ = some (.bool false) := by simpa using blk_cell hbk9 2
        have r3 : wc.cell? ⟨p9, 3, none⟩ = some (.slice A 1 c) := by simpa using blk_cell hbk9 3
        have r4 : wc.cell? ⟨p9, 4, none⟩ = some (.int .i64 2) := by simpa using blk_cell hbk9 4
        have rz : p9 < wc.heap.size := blk_lt hbk9
        have s0 : wc.cell? ⟨p10, 0, none⟩ = some (.bool false) := by simpa using blk_cell hbk10 0
        have s1 : wc.cell? ⟨p10, 1, none⟩ = some (.slice A' 1 c') := by simpa using blk_cell hbk10 1
        have sz : p10 < wc.heap.size := blk_lt hbk10
        clear hbk9 hbk10
        go_wp2_with (first | (go_at_call 19; (with_reducible refine (HS4.out _ _ _ _ (Kd.C_below HX.out.1 bel) HX.out.2 (HO.out _ 1024)).mono ?_); rintro e w24 ⟨rfl, b24⟩; obtain ⟨hc24, hf24⟩ := bcell b24; have hz24 := below_size b24; (try simp at hz24); (try have yp924 : p9 < w24.heap.size := (by omega)); (try have yw2224 : w22.heap.size < w24.heap.size := (by omega)); (try have yw2324 : w23.heap.size < w24.heap.size := (by omega)); (try have yp1024 : p10 < w24.heap.size := (by omega))) | (go_at_call 24; (with_reducible refine (HS5.out _ _ _ _ (Kd.C_below HX2.out.1 bel) HX2.out.2 (HO.out _ 15360)).mono ?_); rintro e w25 ⟨rfl, b25⟩; obtain ⟨hc25, hf25⟩ := bcell b25; have hz25 := below_size b25; (try simp at hz25)))
        go_ret
        exact ⟨by simp, bel⟩
end Go.Proofs.YtacnkcojhlbkoaaDoor

set_option linter.unusedSimpArgs false
set_option linter.unusedVariables false
set_option linter.unnecessarySimpa false
namespace Go.Proofs.YtacnkcojhlbkoaaDoor
open Go.RowKit Go.Proofs.YtacnkcojhlbkoaaDoorW.PrintWords Go.Proofs.YtacnkcojhlbkoaaDoorW.PrintLast Go.Proofs.YtacnkcojhlbkoaaDoorW.PrintMore Go.Proofs.YtacnkcojhlbkoaaDoor.NL
set_option maxRecDepth 100000
set_option exponentiation.threshold 130

/-- What orderInt finds. -/
def cmpI (n1 : Bool) (P1 : Nat) (n2 : Bool) (P2 : Nat) : Int := ordN n1 P1 n2 P2 (rcmpN P1 P2)
theorem ord_fin {n1 n2 m1 m2 : Bool} {x y P1 P2 : Nat} {t : Int} (z1 : P1 = 0 ↔ x = 0) (z2 : P2 = 0 ↔ y = 0) (h1 : x ≠ 0 → m1 = n1) (h2 : y ≠ 0 → m2 = n2) (ht : x ≠ 0 → y ≠ 0 → t = rcmpN P1 P2) : cmpI (n1 && decide (0 < P1)) P1 (n2 && decide (0 < P2)) P2 = ordN m1 x m2 y t := by
  unfold cmpI ordN sgN
  by_cases hx : x = 0
  · have hp : P1 = 0 := z1.2 hx
    by_cases hy : y = 0
    · have hq : P2 = 0 := z2.2 hy
      simp [hx, hy, hp, hq]
    · have q2 : P2 ≠ 0 := fun h => hy (z2.1 h)
      have p2 : 0 < P2 := Nat.pos_of_ne_zero q2
      simp [hx, hp, hy, q2, h2 hy, p2]
  · have q1 : P1 ≠ 0 := fun h => hx (z1.1 h)
    have p1 : 0 < P1 := Nat.pos_of_ne_zero q1
    by_cases hy : y = 0
    · have hq : P2 = 0 := z2.2 hy
      simp [hx, hy, hq, q1, p1, h1 hx]
    · have q2 : P2 ≠ 0 := fun h => hy (z2.1 h)
      have p2 : 0 < P2 := Nat.pos_of_ne_zero q2
      simp [hx, hy, q1, q2, p1, p2, h1 hx, h2 hy, ht hx hy]
theorem rc_gt {a b : Nat} (h : b < a) : rcmpN a b = 1 := by unfold rcmpN; rw [if_neg (by omega), if_pos h]
theorem rc_lt {a b : Nat} (h : a < b) : rcmpN a b = -1 := by unfold rcmpN; rw [if_pos h]
theorem rc_eq (a : Nat) : rcmpN a a = 0 := by unfold rcmpN; rw [if_neg (by omega), if_neg (by omega)]
theorem ord_inf {n1 n2 : Bool} {E : Nat} (hE : 0 < E) : (cmpI n1 E n2 E == 0) = (n1 == n2) := by
  unfold cmpI ordN sgN
  rw [rc_eq]
  have : E ≠ 0 := by omega
  cases n1 <;> cases n2 <;> simp [this]
theorem ord_if {n1 n2 : Bool} {E P : Nat} (hE : P < E) : decide (cmpI n1 E n2 P < 0) = n1 ∧ (cmpI n1 E n2 P != 0) = true := by
  unfold cmpI ordN sgN
  rw [rc_gt hE]
  have h0 : E ≠ 0 := by omega
  by_cases hP : P = 0
  · cases n1 <;> cases n2 <;> simp [h0, hP]
  · cases n1 <;> cases n2 <;> simp [h0, hP]
theorem ord_fi {n1 n2 : Bool} {E P : Nat} (hE : P < E) : decide (cmpI n1 P n2 E > 0) = n2 ∧ (cmpI n1 P n2 E != 0) = true := by
  unfold cmpI ordN sgN
  rw [rc_lt hE]
  have h0 : E ≠ 0 := by omega
  by_cases hP : P = 0
  · cases n1 <;> cases n2 <;> simp [h0, hP]
  · cases n1 <;> cases n2 <;> simp [h0, hP]
theorem val_tz {x : Nat} (hx : x ≠ 0) : x / 2 ^ tz x ≠ 0 := by
  intro h
  have := odd_back hx
  rw [h, Nat.zero_mul] at this
  exact hx this.symm
/-- What Index and Value return of a datum that bits mean. -/
theorem index_f {f cl ex : Int} {ng : Bool} {x : Nat} (hf : isFm f = true) (hx : x < W128) (hh : fits (fmD f) (fmL f) (fmH f) cl (blen x) ex = true) (hc : cl = 1 ∨ cl = 2) : binary_Index.f f cl ng (ofN x) ex = some (ng && decide (0 < placeN f cl x ex), ofN (placeN f cl x ex), 0) := by
  unfold binary_Index.f indexR
  rw [if_pos (u32L_ofN x), datOk_f hf hx hh, if_neg (by decide), if_neg (by omega), val_ofN]
theorem index_nan_f {f cl ex : Int} {ng : Bool} {x : Nat} (hf : isFm f = true) (hx : x < W128) (hh : fits (fmD f) (fmL f) (fmH f) cl (blen x) ex = true) (hc : cl = 3 ∨ cl = 4) : binary_Index.f f cl ng (ofN x) ex = some (false, [], 5) := by
  unfold binary_Index.f indexR
  rw [if_pos (u32L_ofN x), datOk_f hf hx hh, if_neg (by decide), if_pos hc]
theorem value_f {f ex : Int} {ng : Bool} {x : Nat} (hf : isFm f = true) (hx : x < W128) (hh : fits (fmD f) (fmL f) (fmH f) 1 (blen x) ex = true) : binary_Value.f f 1 ng (ofN x) ex = some (if x = 0 then (false, [], 0, 0) else (ng, ofN (x / 2 ^ tz x), ex + (tz x : Nat), 0)) := by
  unfold binary_Value.f valueR
  rw [if_pos (u32L_ofN x), datOk_f hf hx hh, if_neg (by decide), if_neg (by decide), val_ofN]
theorem value_inf_f {f ex : Int} {ng : Bool} {x : Nat} (hf : isFm f = true) (hx : x < W128) (hh : fits (fmD f) (fmL f) (fmH f) 2 (blen x) ex = true) : binary_Value.f f 2 ng (ofN x) ex = some (false, [], 0, 5) := by
  unfold binary_Value.f valueR
  rw [if_pos (u32L_ofN x), datOk_f hf hx hh, if_neg (by decide), if_pos (by decide)]
theorem same_f {f1 c1 e1 f2 c2 e2 : Int} {n1 n2 : Bool} {l m : List Int} (h : l.length ≤ 1000000000) : sorobanref05_Same.f f1 c1 n1 l e1 f2 c2 n2 m e2 = some (decide (f1 = f2 ∧ c1 = c2 ∧ n1 = n2 ∧ l = m ∧ e1 = e2)) := by
  unfold sorobanref05_Same.f; rw [if_pos h]
theorem cl_cases {f cl ex : Int} {z : Nat} (hh : fits (fmD f) (fmL f) (fmH f) cl (z : Nat) ex = true) : cl = 1 ∨ cl = 2 ∨ cl = 3 ∨ cl = 4 := by
  unfold fits at hh
  by_cases h1 : cl = 1
  · exact .inl h1
  · by_cases h2 : cl = 2
    · exact .inr (.inl h2)
    · by_cases h3 : cl = 3
      · exact .inr (.inr (.inl h3))
      · by_cases h4 : cl = 4
        · exact .inr (.inr (.inr h4))
        · rw [if_neg h1, if_neg h2, if_neg h3, if_neg h4] at hh; cases hh
theorem inf_zero {f ex : Int} {x : Nat} (hh : fits (fmD f) (fmL f) (fmH f) 2 (blen x) ex = true) : x = 0 ∧ ex = 0 := by
  unfold fits at hh
  rw [if_neg (by decide), if_pos rfl] at hh
  simp only [Bool.and_eq_true, decide_eq_true_eq] at hh
  exact ⟨blen_eq_zero.1 (by omega), hh.2⟩
theorem place_inf {f ex : Int} {x : Nat} : placeN f 2 x ex = endN f := by unfold placeN endN; rw [if_pos rfl]
theorem hidI {f cl ex er : Int} {ng ni : Bool} {l li : List Int} (h : binary_Index.f f cl ng l ex = some (ni, li, er)) : Hid (∀ A c w', Kd.C (Kd.int .u32) w' A l.length l → l.length ≤ c → Calls Tryd.prog 23 #[dV f cl ng A l.length c ex] w' fun e w'' => ∃ v3 : Value, e = .returned (.tuple #[.agg #[.bool ni, v3], .int .i64 er]) ∧ Kd.R (Kd.int .u32) 77 w'' w'.heap.size (fun _ => True) v3 li ∧ Below w'.heap.size w' w'') :=
  Lib.hid fun A c w' h1 h2 => binary_Index.calls f cl ng A c l ex ni li er w' h1 h2 h
theorem hidV {f cl ex xe er : Int} {ng nx : Bool} {l lx : List Int} (h : binary_Value.f f cl ng l ex = some (nx, lx, xe, er)) : Hid (∀ A c w', Tab w' → Kd.C (Kd.int .u32) w' A l.length l → l.length ≤ c → Calls Tryd.prog 30 #[dV f cl ng A l.length c ex] w' fun e w'' => ∃ v3 : Value, e = .returned (.tuple #[.agg #[.bool nx, v3, .int .i64 xe], .int .i64 er]) ∧ Kd.R (Kd.int .u32) 77 w'' w'.heap.size (fun _ => True) v3 lx ∧ Below w'.heap.size w' w'') :=
  Lib.hid fun A c w' hT h1 h2 => binary_Value.calls f cl ng A c l ex nx lx xe er w' h1 h2 h hT
theorem hidAt {f g cl ex : Int} {ni ng : Bool} {li l : List Int} (h : atR f ni li = (g, cl, ng, l, ex, 0)) (hu : u32L li = true) : Hid (∀ A c w', Kd.C (Kd.int .u32) w' A li.length li → li.length ≤ c → Calls Tryd.prog 33 #[.int .i64 f, .agg #[.bool ni, .slice A li.length c]] w' fun e w'' => ∃ v3 : Value, e = .returned (.tuple #[.agg #[.int .i64 g, .int .i64 cl, .bool ng, v3, .int .i64 ex], .int .i64 0]) ∧ Kd.R (Kd.int .u32) 77 w'' w'.heap.size (fun _ => True) v3 l ∧ Below w'.heap.size w' w'') :=
  Lib.hid fun A c w' h1 h2 => binary_At.calls f ni A c li g cl ng l ex 0 w' h1 h2 (by unfold binary_At.f; rw [if_pos hu, h])
theorem hidS {f1 c1 e1 f2 c2 e2 : Int} {n1 n2 b : Bool} {l m : List Int} (hl : l.length ≤ 1000000000) (hb : b = decide (f1 = f2 ∧ c1 = c2 ∧ n1 = n2 ∧ l = m ∧ e1 = e2)) : Hid (∀ A c A' c' w', Kd.C (Kd.int .u32) w' A l.length l → l.length ≤ c → Kd.C (Kd.int .u32) w' A' m.length m → m.length ≤ c' → Calls Tryd.prog 19 #[.agg #[.int .i64 f1, .int .i64 c1, .bool n1, .slice A l.length c, .int .i64 e1], .agg #[.int .i64 f2, .int .i64 c2, .bool n2, .slice A' m.length c', .int .i64 e2]] w' fun e w'' => e = .returned (.bool b) ∧ Below w'.heap.size w' w'') :=
  Lib.hid fun A c A' c' w' h1 h2 h3 h4 => sorobanref05_Same.calls f1 c1 n1 A c l e1 f2 c2 n2 A' c' m e2 b w' h1 h2 h3 h4 (by rw [same_f hl, hb])
theorem hidO {n1 n2 : Bool} {x y : Nat} (hx : x < 2 ^ 130) (hy : y < 2 ^ 130) : Hid (∀ A c A' c' w', Kd.C (Kd.int .u32) w' A (ofN x).length (ofN x) → (ofN x).length ≤ c → Kd.C (Kd.int .u32) w' A' (ofN y).length (ofN y) → (ofN y).length ≤ c' → Calls Tryd.prog 34 #[.agg #[.bool n1, .slice A (ofN x).length c], .agg #[.bool n2, .slice A' (ofN y).length c']] w' fun e w'' => e = .returned (.int .i64 (cmpI n1 x n2 y)) ∧ Below w'.heap.size w' w'') :=
  Lib.hid fun A c A' c' w' h1 h2 h3 h4 => XOrd.sorobanlaw05_orderInt.calls 1 n1 A c (ofN x) n2 A' c' (ofN y) (cmpI n1 x n2 y) w' h1 h2 h3 h4 (orderInt_f 0 (a := 130) (by omega) hx hy)
theorem hidOr {n1 n2 : Bool} {x y : Nat} {e0 e1 : Int} (hx : x < 2 ^ 130) (hy : y < 2 ^ 130) (h0 : -40000 ≤ e0 ∧ e0 ≤ 40000) (h1 : -40000 ≤ e1 ∧ e1 ≤ 40000) : Hid (∀ A c A' c' w', Kd.C (Kd.int .u32) w' A (ofN x).length (ofN x) → (ofN x).length ≤ c → Kd.C (Kd.int .u32) w' A' (ofN y).length (ofN y) → (ofN y).length ≤ c' → Calls Tryd.prog 35 #[.agg #[.bool n1, .slice A (ofN x).length c, .int .i64 e0], .agg #[.bool n2, .slice A' (ofN y).length c', .int .i64 e1]] w' fun e w'' => e = .returned (.int .i64 (ordN n1 x n2 y (rcmpN (x * 2 ^ (e0 - mn e0 e1).toNat) (y * 2 ^ (e1 - mn e0 e1).toNat)))) ∧ Below w'.heap.size w' w'') :=
  Lib.hid fun A c A' c' w' g1 g2 g3 g4 => XOrd.sorobanlaw05_order.calls 1 n1 A c (ofN x) e0 n2 A' c' (ofN y) e1 _ w' g1 g2 g3 g4 (order_f 0 (a := 130) (by omega) hx hy h0 h1)
/-- The value of a finite datum, with no case. -/
theorem value_f2 {f ex : Int} {ng : Bool} {x : Nat} (hf : isFm f = true) (hx : x < W128) (hh : fits (fmD f) (fmL f) (fmH f) 1 (blen x) ex = true) : binary_Value.f f 1 ng (ofN x) ex = some ((if x = 0 then false else ng), ofN (x / 2 ^ tz x), (if x = 0 then 0 else ex + (tz x : Nat)), 0) := by
  rw [value_f hf hx hh]
  by_cases h : x = 0
  · rw [if_pos h, if_pos h, if_pos h, h, Nat.zero_div, ofN_zero]
  · rw [if_neg h, if_neg h, if_neg h]
theorem order_vals {f ex ey : Int} {n1 n2 : Bool} {x y : Nat} (hf : isFm f = true) (hx : FinOk f x ex) (hy : FinOk f y ey) (e0 e1 : Int) (h0 : e0 = if x = 0 then 0 else ex + (tz x : Nat)) (h1 : e1 = if y = 0 then 0 else ey + (tz y : Nat)) :
    cmpI (n1 && decide (0 < placeN f 1 x ex)) (placeN f 1 x ex) (n2 && decide (0 < placeN f 1 y ey)) (placeN f 1 y ey) = ordN (if x = 0 then false else n1) (x / 2 ^ tz x) (if y = 0 then false else n2) (y / 2 ^ tz y) (rcmpN (x / 2 ^ tz x * 2 ^ (e0 - mn e0 e1).toNat) (y / 2 ^ tz y * 2 ^ (e1 - mn e0 e1).toNat)) ∧ (-40000 ≤ e0 ∧ e0 ≤ 40000) ∧ (-40000 ≤ e1 ∧ e1 ≤ 40000) := by
  obtain ⟨o1, o2, o3, o4⟩ := fm_small hf
  have z : ∀ {x : Nat}, x = 0 ↔ x / 2 ^ tz x = 0 := fun {x} => ⟨fun h => by rw [h, Nat.zero_div], fun h => Decidable.byContradiction fun h2 => val_tz h2 h⟩
  refine ⟨ord_fin ((place_zero hx).trans z) ((place_zero hy).trans z) (fun h => if_neg (fun h2 => h (z.1 h2))) (fun h => if_neg (fun h2 => h (z.1 h2))) ?_, ?_, ?_⟩
  · intro hx1 hy1
    have hx0 : x ≠ 0 := fun h => hx1 (z.1 h)
    have hy0 : y ≠ 0 := fun h => hy1 (z.1 h)
    rw [if_neg hx0] at h0
    rw [if_neg hy0] at h1
    subst h0 h1
    exact val_cmp hx hy hx0 hy0
  · have a1 := hx.h1
    have a2 := hx.h2
    by_cases h : x = 0
    · rw [h0, if_pos h]; omega
    · have := tz_le h hx.hx
      rw [h0, if_neg h]; omega
  · have a1 := hy.h1
    have a2 := hy.h2
    by_cases h : y = 0
    · rw [h1, if_pos h]; omega
    · have := tz_le h hy.hx
      rw [h1, if_neg h]; omega
theorem small_130 {f : Int} (hf : isFm f = true) {x : Nat} (h : x < 2 ^ (oneN f + 1)) : x < 2 ^ 130 ∧ x / 2 ^ tz x < 2 ^ 130 := by
  obtain ⟨o1, -⟩ := fm_small hf
  have h2 : x < 2 ^ 130 := Nat.lt_of_lt_of_le h (pow_le3 (by omega))
  exact ⟨h2, Nat.lt_of_le_of_lt (Nat.div_le_self _ _) h2⟩
set_option maxHeartbeats 4000000 in
theorem binaryOrder_walk (a0 a1_0 a1_1 a2_0 a2_1 : Int) (W : World) (w0 : (Lit.int .u8 a0).wf = true) (w1 : (Lit.int .u64 a1_0).wf = true) (w2 : (Lit.int .u64 a1_1).wf = true) (w3 : (Lit.int .u64 a2_0).wf = true) (w4 : (Lit.int .u64 a2_1).wf = true) (hT : Tab W) :
    Calls Tryd.prog 8 #[.int .u8 a0, .agg #[.int .u64 a1_0, .int .u64 a1_1], .agg #[.int .u64 a2_0, .int .u64 a2_1]] W fun e W' => e = .returned (.bool true) ∧ Below W.heap.size W W' := by
  simp [Lit.wf, IntKind.min, IntKind.max, IntKind.signed, IntKind.bits] at w0 w1 w2 w3 w4
  obtain ⟨f, ef, hf⟩ := which_f (a0 := a0) (by omega)
  obtain ⟨N1, hN1, ec1⟩ := cut_f (f := f) (hi := a1_0) (lo := a1_1) hf (by simp only [u64B, decide_eq_true_eq]; omega) (by simp only [u64B, decide_eq_true_eq]; omega)
  obtain ⟨N2, hN2, ec2⟩ := cut_f (f := f) (hi := a2_0) (lo := a2_1) hf (by simp only [u64B, decide_eq_true_eq]; omega) (by simp only [u64B, decide_eq_true_eq]; omega)
  have HSa := Lib.hid fun w' (h : Tab w') => sanity_ok w' h
  have HWh := Lib.hid fun w' => sorobanlaw05_which.calls a0 f w' ef
  have HC1 := Lib.hid fun w' => sorobanlaw05_cut.calls f a1_0 a1_1 (wHi N1) (wLo N1) w' ec1
  have HC2 := Lib.hid fun w' => sorobanlaw05_cut.calls f a2_0 a2_1 (wHi N2) (wLo N2) w' ec2
  have HD1 := Lib.hid fun w' => binary_Decode.calls f (wHi N1) (wLo N1) _ _ _ _ _ _ w' (decode_f hf hN1)
  have HD2 := Lib.hid fun w' => binary_Decode.calls f (wHi N2) (wLo N2) _ _ _ _ _ _ w' (decode_f hf hN2)
  have hx1 := dec_128 hf N1
  have hh1 := (dec_ok hf N1).1
  have hx2 := dec_128 hf N2
  have hh2 := (dec_ok hf N2).1
  generalize wHi N1 = H1 at *
  generalize wLo N1 = L1 at *
  generalize wHi N2 = H2 at *
  generalize wLo N2 = L2 at *
  generalize (decN f N1).1 = cl1 at *
  generalize (decN f N1).2.1 = x1 at *
  generalize (decN f N1).2.2 = ex1 at *
  generalize decNeg f N1 = ng1 at *
  generalize (decN f N2).1 = cl2 at *
  generalize (decN f N2).2.1 = x2 at *
  generalize (decN f N2).2.2 = ex2 at *
  generalize decNeg f N2 = ng2 at *
  have hl1 : (ofN x1).length ≤ 1000000000 := by have := ofN_len hx1; omega
  have hel := end_lt hf
  have hE : 0 < endN f := by unfold endN; have := Nat.two_pow_pos (oneN f + 1); omega
  by_cases c1 : cl1 = 3 ∨ cl1 = 4
  · obtain ⟨ni2, li2, e2, hi2⟩ : ∃ ni li e, binary_Index.f f cl2 ng2 (ofN x2) ex2 = some (ni, li, e) := by
      by_cases c2 : cl2 = 3 ∨ cl2 = 4
      · exact ⟨_, _, _, index_nan_f hf hx2 hh2 c2⟩
      · exact ⟨_, _, _, index_f hf hx2 hh2 (by have := cl_cases hh2; omega)⟩
    exact ord_A W hT HWh HC1 HD1 (hidI (index_nan_f hf hx1 hh1 c1)) HC2 HD2 (hidI hi2) HSa (decide_eq_true (by omega))
  · have c1' : cl1 = 1 ∨ cl1 = 2 := by have := cl_cases hh1; omega
    have HI1 := hidI (ng := ng1) (index_f hf hx1 hh1 c1')
    by_cases c2 : cl2 = 3 ∨ cl2 = 4
    · exact ord_B W hT HWh HC1 HD1 HI1 HC2 HD2 (hidI (index_nan_f hf hx2 hh2 c2)) HSa (decide_eq_false (by omega)) (decide_eq_true (by omega))
    · have c2' : cl2 = 1 ∨ cl2 = 2 := by have := cl_cases hh2; omega
      have HI2 := hidI (ng := ng2) (index_f hf hx2 hh2 c2')
      rcases c1' with rfl | rfl
      · have F1 := finOk hf hh1
        obtain ⟨s1, s2⟩ := small_130 hf F1.hx
        have hP1 : placeN f 1 x1 ex1 < 2 ^ 130 := Nat.lt_trans (place_end F1) hel
        have hn1 : (ng1 && decide (0 < placeN f 1 x1 ex1)) = true → x1 ≠ 0 := by
          intro h h0
          rw [(place_zero F1).2 h0] at h
          simp at h
        have HAt := hidAt (at_place (ni := ng1 && decide (0 < placeN f 1 x1 ex1)) hf F1 hn1) (u32L_ofN _)
        have HV1 := hidV (ng := ng1) (value_f2 hf hx1 hh1)
        by_cases hs : (ng1 && decide (0 < placeN f 1 x1 ex1)) = ng1
        · have HSm := hidS (f1 := f) (c1 := 1) (e1 := ex1) (f2 := f) (c2 := 1) (e2 := ex1) (n1 := ng1 && decide (0 < placeN f 1 x1 ex1)) (n2 := ng1) (b := true) (l := ofN x1) (m := ofN x1) hl1 (decide_eq_true ⟨rfl, rfl, hs, rfl, rfl⟩).symm
          rcases c2' with rfl | rfl
          · have F2 := finOk hf hh2
            obtain ⟨t1, t2⟩ := small_130 hf F2.hx
            have hP2 : placeN f 1 x2 ex2 < 2 ^ 130 := Nat.lt_trans (place_end F2) hel
            obtain ⟨v1, v2, v3⟩ := order_vals (n1 := ng1) (n2 := ng2) hf F1 F2 _ _ rfl rfl
            exact ord_FFs W hT HWh HC1 HD1 HI1 HC2 HD2 HI2 HSa HAt HSm (hidO hP1 hP2) HV1 (hidV (ng := ng2) (value_f2 hf hx2 hh2)) (hidOr s2 t2 v2 v3) (by rw [v1]) (by rw [v1])
          · obtain ⟨rfl, rfl⟩ := inf_zero hh2
            rw [place_inf] at HI2
            obtain ⟨u1, u2⟩ := ord_fi (n1 := ng1 && decide (0 < placeN f 1 x1 ex1)) (n2 := ng2 && decide (0 < endN f)) (place_end F1)
            rw [decide_eq_true hE, Bool.and_true] at HI2 u1 u2
            exact ord_FIs W hT HWh HC1 HD1 HI1 HC2 HD2 HI2 HSa HAt HSm (hidO hP1 hel) HV1 (hidV (ng := ng2) (value_inf_f hf hx2 hh2)) u1 u2
        · have hx0 : x1 = 0 := by
            refine Decidable.byContradiction fun h => hs ?_
            rw [decide_eq_true (Nat.pos_of_ne_zero (fun h2 => h ((place_zero F1).1 h2))), Bool.and_true]
          have hg : ng1 = true := by
            cases ng1 with
            | true => rfl
            | false => exact absurd (Bool.false_and _) hs
          subst hg hx0
          have hz : (true && decide (0 < placeN f 1 0 ex1)) = false := by rw [(place_zero F1).2 rfl]; rfl
          rw [hz, ofN_zero] at HAt
          have HSm := hidS (f1 := f) (c1 := 1) (e1 := ex1) (f2 := f) (c2 := 1) (e2 := ex1) (n1 := false) (n2 := true) (b := false) (l := []) (m := ofN 0) (by simp) (decide_eq_false (fun h => by cases h.2.2.1)).symm
          have HSz : Hid (∀ A c w', Kd.C (Kd.int .u32) w' A (ofN 0).length (ofN 0) → (ofN 0).length ≤ c → Calls Tryd.prog 19 #[.agg #[.int .i64 f, .int .i64 1, .bool true, .slice A (ofN 0).length c, .int .i64 ex1], .agg #[.int .i64 f, .int .i64 1, .bool true, .slice none 0 0, .int .i64 ex1]] w' fun e w'' => e = .returned (.bool true) ∧ Below w'.heap.size w' w'') := Lib.hid fun A c w' g1 g2 =>
            sorobanref05_Same.calls f 1 true A c (ofN 0) ex1 f 1 true none 0 [] ex1 true w' g1 g2 (R_nilC w') (Nat.le_refl 0) (by rw [same_f hl1, decide_eq_true ⟨rfl, rfl, rfl, ofN_zero, rfl⟩])
          rcases c2' with rfl | rfl
          · have F2 := finOk hf hh2
            obtain ⟨t1, t2⟩ := small_130 hf F2.hx
            have hP2 : placeN f 1 x2 ex2 < 2 ^ 130 := Nat.lt_trans (place_end F2) hel
            obtain ⟨v1, v2, v3⟩ := order_vals (n1 := true) (n2 := ng2) hf F1 F2 _ _ rfl rfl
            rw [hz] at v1 HI1
            exact ord_FFz W hT HWh HC1 HD1 HI1 HC2 HD2 HI2 HSa HAt HSm HSz (hidO hP1 hP2) HV1 (hidV (ng := ng2) (value_f2 hf hx2 hh2)) (hidOr s2 t2 v2 v3) (by rw [v1]) (by rw [v1])
          · obtain ⟨rfl, rfl⟩ := inf_zero hh2
            rw [place_inf] at HI2
            obtain ⟨u1, u2⟩ := ord_fi (n1 := false) (n2 := ng2 && decide (0 < endN f)) (place_end F1)
            rw [decide_eq_true hE, Bool.and_true] at HI2 u1 u2
            rw [hz] at HI1
            exact ord_FIz W hT HWh HC1 HD1 HI1 HC2 HD2 HI2 HSa HAt HSm HSz (hidO hP1 hel) HV1 (hidV (ng := ng2) (value_inf_f hf hx2 hh2)) u1 u2
      · obtain ⟨rfl, rfl⟩ := inf_zero hh1
        rw [place_inf, decide_eq_true hE, Bool.and_true] at HI1
        have HAt := hidAt (at_end (ni := ng1) hf) (u32L_ofN _)
        have HSm := hidS (f1 := f) (c1 := 2) (e1 := 0) (f2 := f) (c2 := 2) (e2 := 0) (n1 := ng1) (n2 := ng1) (b := true) (l := []) (m := ofN 0) (by simp) (decide_eq_true ⟨rfl, rfl, rfl, ofN_zero.symm, rfl⟩).symm
        have HV1 := hidV (ng := ng1) (value_inf_f hf hx1 hh1)
        rcases c2' with rfl | rfl
        · have F2 := finOk hf hh2
          obtain ⟨u1, u2⟩ := ord_if (n1 := ng1) (n2 := ng2 && decide (0 < placeN f 1 x2 ex2)) (place_end F2)
          exact ord_IFs W hT HWh HC1 HD1 HI1 HC2 HD2 HI2 HSa HAt HSm (hidO hel (Nat.lt_trans (place_end F2) hel)) HV1 (hidV (ng := ng2) (value_f2 hf hx2 hh2)) u1 u2
        · obtain ⟨rfl, rfl⟩ := inf_zero hh2
          rw [place_inf, decide_eq_true hE, Bool.and_true] at HI2
          exact ord_IIs W hT HWh HC1 HD1 HI1 HC2 HD2 HI2 HSa HAt HSm (hidO hel hel) HV1 (hidV (ng := ng2) (value_inf_f hf hx2 hh2)) (ord_inf hE)
end Go.Proofs.YtacnkcojhlbkoaaDoor
