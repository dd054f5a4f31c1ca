/- The contracts of the functions of 'chars' that the laws call, in the form that the printed walks ask for: what each returns, of lists of bytes and characters. -/
import Derived.Test.YtcekghcejmhhaaaChK6
set_option linter.unusedSimpArgs false
set_option linter.unusedVariables false
set_option linter.unnecessarySimpa false
namespace Go.Proofs.Ytcekghcejmhhaaa
open Go.RowKit Go.Proofs.YtcekghcejmhhaaaW.PrintWords Go.Proofs.YtcekghcejmhhaaaW.PrintLast Go.Proofs.YtcekghcejmhhaaaW.PrintMore
set_option maxRecDepth 100000

def bytB (l : List Int) : Bool := l.all (fun x => decide (0 ≤ x ∧ x ≤ 255))
def u32B (l : List Int) : Bool := l.all (fun x => decide (0 ≤ x ∧ x < 4294967296))
theorem bytB_of {l : List Int} (h : bytB l = true) : Byt l := Byt.of (fun x hx => by simpa using List.all_eq_true.1 h x hx)
theorem u32B_of {l : List Int} (h : u32B l = true) : U32s l := U32s.of (fun x hx => by simpa using List.all_eq_true.1 h x hx)
theorem bytB_mk {l : List Int} (h : ∀ x ∈ l, 0 ≤ x ∧ x ≤ 255) : bytB l = true := List.all_eq_true.2 (fun x hx => by simpa using h x hx)
theorem u32B_mk {l : List Int} (h : ∀ x ∈ l, 0 ≤ x ∧ x < 4294967296) : u32B l = true := List.all_eq_true.2 (fun x hx => by simpa using h x hx)
instance (enc s : Int) : Decidable (stOk enc s) := inferInstanceAs (Decidable (_ ∧ _))

def sorobanlaw18_sanity.f : Option Bool := some true
theorem sorobanlaw18_sanity.calls (r : Bool) (w : World) (h : sorobanlaw18_sanity.f = some r) :
    Calls Try.prog 13 #[] w fun e w' => e = .returned (.bool r) ∧ Below w.heap.size w w' := by
  obtain rfl : true = r := by simpa [sorobanlaw18_sanity.f] using h
  exact sanity_ok w

/-- Next, with its errors. -/
def nextE (enc st : Int) (b : List Int) : Int × Int × Int × Int × Int :=
  if encOk enc ∧ stOk enc st then (if b.length ≤ 20000 then ((nextC enc st b).kind, (nextC enc st b).ch, (nextC enc st b).bytes, (nextC enc st b).st, 0) else (0, 0, 0, 0, 2)) else (0, 0, 0, 0, 1)
def chars_Next.f (a0 a1 : Int) (l2 : List Int) : Option (Int × Int × Int × Int × Int) := if bytB l2 then some (nextE a0 a1 l2) else none
theorem chars_Next.calls (a0 a1 : Int) (A2 : Option Addr) (c2 : Nat) (l2 : List Int) (r1 r2 r3 r4 r5 : Int) (w : World) (hr2 : Kd.C (Kd.int .u8) w A2 l2.length l2) (_hc2 : l2.length ≤ c2) (h : chars_Next.f a0 a1 l2 = some (r1, r2, r3, r4, r5)) :
    Calls Try.prog 22 #[.int .i64 a0, .int .i64 a1, .slice A2 l2.length c2] w fun e w' => e = .returned (.tuple #[.agg #[.int .i64 r1, .int .u32 r2, .int .i64 r3, .int .i64 r4], .int .i64 r5]) ∧ Below w.heap.size w w' := by
  unfold chars_Next.f at h
  split at h
  · rename_i hb
    unfold nextE at h
    split at h
    · rename_i ho
      split at h
      · rename_i hn
        simp only [Option.some.injEq, Prod.mk.injEq] at h
        obtain ⟨rfl, rfl, rfl, rfl, rfl⟩ := h
        exact Next_ok a0 a1 A2 _ c2 l2 w ho.1 ho.2 hn hr2 (bytB_of hb)
      · rename_i hn
        simp only [Option.some.injEq, Prod.mk.injEq] at h
        obtain ⟨rfl, rfl, rfl, rfl, rfl⟩ := h
        exact Next_no2 a0 a1 A2 _ c2 w ho.1 ho.2 hn
    · rename_i ho
      simp only [Option.some.injEq, Prod.mk.injEq] at h
      obtain ⟨rfl, rfl, rfl, rfl, rfl⟩ := h
      exact Next_no1 a0 a1 A2 _ c2 w ho
  · cases h

def chars_Encode.f (a0 : Int) (l1 : List Int) : Option (List Int × Int × Int) := if u32B l1 then some (encodeC a0 l1) else none
theorem chars_Encode.calls (a0 : Int) (A1 : Option Addr) (c1 : Nat) (l1 : List Int) (r1 : List Int) (r2 r3 : Int) (w : World) (hr1 : Kd.C (Kd.int .u32) w A1 l1.length l1) (_hc1 : l1.length ≤ c1) (h : chars_Encode.f a0 l1 = some (r1, r2, r3)) :
    Calls Try.prog 14 #[.int .i64 a0, .slice A1 l1.length c1] w fun e w' => ∃ v0_ : Value, e = .returned (.tuple #[v0_, .int .i64 r2, .int .i64 r3]) ∧ Kd.R (Kd.int .u8) 5 w' w.heap.size (fun _ => True) v0_ r1 ∧ Below w.heap.size w w' := by
  unfold chars_Encode.f at h
  split at h
  · rename_i hb
    simp only [Option.some.injEq] at h
    have := Encode_any a0 A1 _ c1 l1 w hr1 (u32B_of hb)
    unfold EncodePost at this
    rw [h] at this
    exact this
  · cases h

def chars_Fit.f (a0 : Int) (l1 : List Int) (a2 : Int) : Option (List Int × Int × Int) := if u32B l1 then some (fitC a0 l1 a2) else none
theorem chars_Fit.calls (a0 : Int) (A1 : Option Addr) (c1 : Nat) (l1 : List Int) (a2 : Int) (r1 : List Int) (r2 r3 : Int) (w : World) (hr1 : Kd.C (Kd.int .u32) w A1 l1.length l1) (_hc1 : l1.length ≤ c1) (h : chars_Fit.f a0 l1 a2 = some (r1, r2, r3)) :
    Calls Try.prog 15 #[.int .i64 a0, .slice A1 l1.length c1, .int .i64 a2] w fun e w' => ∃ v0_ : Value, e = .returned (.tuple #[v0_, .int .i64 r2, .int .i64 r3]) ∧ Kd.R (Kd.int .u8) 5 w' w.heap.size (fun _ => True) v0_ r1 ∧ Below w.heap.size w w' := by
  unfold chars_Fit.f at h
  split at h
  · rename_i hb
    simp only [Option.some.injEq] at h
    have := Fit_any a0 a2 A1 _ c1 l1 w hr1 (u32B_of hb)
    unfold FitPost at this
    rw [h] at this
    exact this
  · cases h

def chars_Decode.f (a0 : Int) (l1 : List Int) : Option (List Int × Int × Int) := if bytB l1 then some (decodeC a0 l1) else none
theorem chars_Decode.calls (a0 : Int) (A1 : Option Addr) (c1 : Nat) (l1 : List Int) (r1 : List Int) (r2 r3 : Int) (w : World) (hr1 : Kd.C (Kd.int .u8) w A1 l1.length l1) (hc1 : l1.length ≤ c1) (h : chars_Decode.f a0 l1 = some (r1, r2, r3)) :
    Calls Try.prog 20 #[.int .i64 a0, .slice A1 l1.length c1] w fun e w' => ∃ v0_ : Value, e = .returned (.tuple #[v0_, .int .i64 r2, .int .i64 r3]) ∧ Kd.R (Kd.int .u32) 43 w' w.heap.size (fun _ => True) v0_ r1 ∧ Below w.heap.size w w' := by
  unfold chars_Decode.f at h
  split at h
  · rename_i hb
    simp only [Option.some.injEq] at h
    have := Decode_any a0 A1 _ c1 l1 w hc1 hr1 (bytB_of hb)
    unfold DecPost at this
    rw [h] at this
    exact this
  · cases h

def chars_Count.f (a0 : Int) (l1 : List Int) : Option (Int × Int × Int) := if bytB l1 then some (((decodeC a0 l1).1.length : Int), (decodeC a0 l1).2.1, (decodeC a0 l1).2.2) else none
theorem chars_Count.calls (a0 : Int) (A1 : Option Addr) (c1 : Nat) (l1 : List Int) (r1 r2 r3 : Int) (w : World) (hr1 : Kd.C (Kd.int .u8) w A1 l1.length l1) (hc1 : l1.length ≤ c1) (h : chars_Count.f a0 l1 = some (r1, r2, r3)) :
    Calls Try.prog 25 #[.int .i64 a0, .slice A1 l1.length c1] w fun e w' => e = .returned (.tuple #[.int .i64 r1, .int .i64 r2, .int .i64 r3]) ∧ Below w.heap.size w w' := by
  unfold chars_Count.f at h
  split at h
  · rename_i hb
    simp only [Option.some.injEq, Prod.mk.injEq] at h
    obtain ⟨rfl, rfl, rfl⟩ := h
    exact Count_any a0 A1 _ c1 l1 w hc1 hr1 (bytB_of hb)
  · cases h

def sorobanlaw18_which.f (a0 : Int) : Option Int := if 0 ≤ a0 ∧ a0 ≤ 255 then some (1 + a0 % 3) else none
theorem sorobanlaw18_which.calls (a0 : Int) (r : Int) (w : World) (h : sorobanlaw18_which.f a0 = some r) :
    Calls Try.prog 19 #[.int .u8 a0] w fun e w' => e = .returned (.int .i64 r) ∧ Below w.heap.size w w' := by
  unfold sorobanlaw18_which.f at h
  split at h
  · rename_i hb
    simp only [Option.some.injEq] at h
    subst h
    exact (which_ok a0 hb.1 (by omega) w).mono fun e w' ⟨h1, h2⟩ => ⟨h1, h2 ▸ Below.refl _ _⟩
  · cases h

def sorobanlaw18_characters.f (l0 l1 : List Int) : Option Bool := if l0.length ≤ 1000000000 then some (decide (l0 = l1)) else none
theorem sorobanlaw18_characters.calls (A0 : Option Addr) (c0 : Nat) (l0 : List Int) (A1 : Option Addr) (c1 : Nat) (l1 : List Int) (r : Bool) (w : World) (hr0 : Kd.C (Kd.int .u32) w A0 l0.length l0) (_hc0 : l0.length ≤ c0) (hr1 : Kd.C (Kd.int .u32) w A1 l1.length l1) (_hc1 : l1.length ≤ c1) (h : sorobanlaw18_characters.f l0 l1 = some r) :
    Calls Try.prog 21 #[.slice A0 l0.length c0, .slice A1 l1.length c1] w fun e w' => e = .returned (.bool r) ∧ Below w.heap.size w w' := by
  unfold sorobanlaw18_characters.f at h
  split at h
  · rename_i hb
    simp only [Option.some.injEq] at h
    subst h
    exact characters_eq A0 _ c0 l0 A1 _ c1 l1 w hr0 hr1 hb
  · cases h
end Go.Proofs.Ytcekghcejmhhaaa
