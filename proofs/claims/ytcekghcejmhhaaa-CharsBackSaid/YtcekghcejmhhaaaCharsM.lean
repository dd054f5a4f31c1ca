import Derived.Test.YtcekghcejmhhaaaCharsL
import Derived.Test.YtcekghcejmhhaaaCharsJ
set_option linter.unusedSimpArgs false
set_option linter.unusedVariables false
set_option linter.unnecessarySimpa false
namespace Go.Proofs.Ytcekghcejmhhaaa
open Go.RowKit Go.Proofs.YtcekghcejmhhaaaW.PrintWords Go.Proofs.YtcekghcejmhhaaaW.PrintLast Go.Proofs.YtcekghcejmhhaaaW.PrintMore
set_option maxRecDepth 100000

/-- Numbers of 32 bits. -/
def U32s (xs : List Int) : Prop := ∀ i, 0 ≤ xs.getD i 0 ∧ xs.getD i 0 < 4294967296

/-- The loop of 'encoded', after k characters. -/
def EncRel (enc : Int) (l : List Int) (w0 w : World) (vb vs vi : Value) : Prop :=
  ∃ (k : Nat) (st : Int) (bs : List Int), k ≤ l.length ∧ vi = .int .i64 k ∧ vs = .int .i64 st ∧ OwnI .u8 5 w0.heap.size w vb bs ∧ Below w0.heap.size w0 w ∧ bs.length ≤ 4 * k ∧
    encLoop enc 0 0 l = (bs ++ (encLoop enc st k (l.drop k)).1, (encLoop enc st k (l.drop k)).2)

theorem encLoop_yes {enc st : Int} {k : Nat} {c : Int} {t : List Int} (h : hasC enc c = true) : encLoop enc st k (c :: t) = ((putC enc st c).1 ++ (encLoop enc (putC enc st c).2 (k + 1 : Nat) t).1, (encLoop enc (putC enc st c).2 (k + 1 : Nat) t).2) := by
  rw [encLoop, if_pos h]; push_cast; rfl
theorem encLoop_no {enc st i : Int} {c : Int} {t : List Int} (h : ¬ hasC enc c = true) : encLoop enc st i (c :: t) = ([], st, some i) := by
  rw [encLoop, if_neg h]

def EncPost (enc : Int) (l : List Int) (w : World) (r : Ending) (w' : World) : Prop :=
  Below w.heap.size w w' ∧ (((encodedC enc l).2.1 = 0 ∧ ∃ v, r = .returned v ∧ OwnI .u8 5 w.heap.size w' v (encodedC enc l).1) ∨ ((encodedC enc l).2.1 ≠ 0 ∧ r = .panicked (failed (encodedC enc l).2.1 (encodedC enc l).2.2)))

theorem EncRel.next {enc : Int} {l : List Int} {w0 w4 : World} {k : Nat} {st x : Int} {bs : List Int} {v4 : Value} (hk : k < l.length) (hd : l.drop k = x :: l.drop (k + 1)) (hh : hasC enc x = true) (hbl : bs.length ≤ 4 * k)
    (hr : encLoop enc 0 0 l = (bs ++ (encLoop enc st k (l.drop k)).1, (encLoop enc st k (l.drop k)).2)) (hv : OwnI .u8 5 w0.heap.size w4 v4 (bs ++ (putC enc st x).1)) (hb : Below w0.heap.size w0 w4) :
    EncRel enc l w0 w4 v4 (.int .i64 (putC enc st x).2) (.int .i64 (k + 1)) := by
  refine ⟨k + 1, (putC enc st x).2, _, by omega, rfl, rfl, hv, hb, ?_, ?_⟩
  · have := putC_len enc st x
    simp; omega
  · rw [hr, hd, encLoop_yes hh]; simp [List.append_assoc]
theorem encodedC_no {enc : Int} {l : List Int} {k : Nat} {st x : Int} {bs : List Int} (hd : l.drop k = x :: l.drop (k + 1)) (hh : ¬ hasC enc x = true)
    (hr : encLoop enc 0 0 l = (bs ++ (encLoop enc st k (l.drop k)).1, (encLoop enc st k (l.drop k)).2)) : encodedC enc l = ([], 15, (k : Int)) := by
  unfold encodedC
  rw [hr, hd, encLoop_no hh]
theorem encodedC_end {enc : Int} {l : List Int} {k : Nat} {st : Int} {bs : List Int} (hk : l.length ≤ k)
    (hr : encLoop enc 0 0 l = (bs ++ (encLoop enc st k (l.drop k)).1, (encLoop enc st k (l.drop k)).2)) : encodedC enc l = if 20000 < (bs ++ turnC st 0).length then ([], 2, 0) else (bs ++ turnC st 0, 0, 0) := by
  unfold encodedC
  rw [hr, List.drop_eq_nil_of_le hk]
  simp [encLoop]

set_option maxHeartbeats 4000000 in
theorem encoded_1 (enc : Int) (h : enc = 1) (A : Option Addr) (n c : Nat) (l : List Int) (w : World) (hn : n ≤ 20000) (hC : Kd.C (Kd.int .u32) w A n l) (hx : U32s l) :
    Calls Try.prog 39 #[.iface 100 (.agg #[]), .slice A n c] w (EncPost enc l w) := by
  have hl : l.length = n := hC.1
  have HL := Lib.hid hl
  have HC := Lib.hid hC
  have HX := Lib.hid hx
  have H0 : Hid (EncRel enc l w w (.slice none 0 0) (.int .i64 0) (.int .i64 0)) := Lib.hid ⟨0, 0, [], Nat.zero_le _, rfl, rfl, Kd.R_nil _ _ _ _ _, Below.refl _ _, by simp, by simp⟩
  subst h
  clear hl hC hx
  have m1 := meth_has_1
  have m2 := meth_put_1
  go_enter Try.func39, Try.ntmps39
  go_wp2
  go_loopw [5, 6, 12] (fun vb vs vi wr => EncRel 1 l w wr vb vs vi) (fun _ _ vi _ => n - (intOf vi).toNat)
  case atStart => exact H0.out
  case round =>
    obtain ⟨k, st, bs, hk, rfl, rfl, hv, hbw, hbl, hr⟩ := hrel
    have HR := Lib.hid hr
    have HV := Lib.hid hv
    have HLK := Lib.hid hk
    clear hr hv hk
    by_cases hkn : k < n
    · obtain ⟨b, off, rfl, hlt, hcs⟩ := open_C (C_of_below HC.out hbw) (by omega)
      have hcell := hcs k hkn
      clear hcs
      obtain ⟨xa, xb⟩ := HX.out k
      have hR2 : l.drop k = l.getD k 0 :: l.drop (k + 1) := by
        have := HL.out
        rw [List.drop_eq_getElem_cons (by omega), List.getD_eq_getElem?_getD, List.getElem?_eq_getElem (by omega)]; rfl
      have HR2 := Lib.hid hR2
      clear hR2
      generalize l.getD k 0 = x at *
      by_cases hh : hasC 1 x = true
      · have HH := Lib.hid hh
        go_wp2_with (first | (go_at_call 41; (with_reducible refine (need_true _ _ _).mono ?_); rintro e w3 ⟨rfl, rfl⟩) | (with_reducible show Calls Try.prog 68 #[_, _] _ _; (with_reducible refine (octets_has _ _).mono ?_); rintro e w1 ⟨rfl, hb⟩; obtain ⟨hc, hf⟩ := bcell hb) | (with_reducible show Calls Try.prog 74 #[_, _] _ _; (with_reducible refine (utf8_has _ _).mono ?_); rintro e w1 ⟨rfl, hb⟩; obtain ⟨hc, hf⟩ := bcell hb) | (with_reducible show Calls Try.prog 81 #[_, _] _ _; (with_reducible refine (shift_has _ _).mono ?_); rintro e w1 ⟨rfl, hb⟩; obtain ⟨hc, hf⟩ := bcell hb) | (with_reducible show Calls Try.prog 70 #[_, _, _] _ _; refine (octets_put' _ _ _ xa HH.out).mono ?_; rintro e w2 ⟨v2, rfl, hv2, hb2⟩; obtain ⟨A2, c2, rfl, hle2, _⟩ := Kd.R_reads hv2) | (with_reducible show Calls Try.prog 76 #[_, _, _] _ _; refine (utf8_put' _ _ _ xa HH.out).mono ?_; rintro e w2 ⟨v2, rfl, hv2, hb2⟩; obtain ⟨A2, c2, rfl, hle2, _⟩ := Kd.R_reads hv2) | (with_reducible show Calls Try.prog 83 #[_, _, _] _ _; refine (shift_put _ _ _ xa HH.out).mono ?_; rintro e w2 ⟨v2, rfl, hv2, hb2⟩; obtain ⟨A2, c2, rfl, hle2, _⟩ := Kd.R_reads hv2))
        refine (joined_any (w0 := w) (xs := bs) (ys := (putC 1 st x).1) (by repeat (first | with_reducible assumption | with_reducible exact Below.refl _ _ | with_reducible refine below_alloc ?_ _ | with_reducible refine pw_below_drewN ?_ _ | with_reducible refine below_drew1 ?_ | ((with_reducible refine below_set ?_ ?hle); (case hle => first | (simp; done) | omega | (simp; omega))) | with_reducible refine below_step ?_ (by assumption))) (Kd.R_below HV.out (below_step hb hb2)) (own_src hv2 (fun j hj he => by have := own_lt_size HV.out he; have := below_size hb; omega)) hle2 (by have := putC_len 1 st x; omega)).mono ?_
        rintro e w4 ⟨v4, rfl, hv4, hb4⟩
        go_wp2
        exact ⟨EncRel.next (by have := HL.out; omega) HR2.out HH.out hbl HR.out hv4 hb4, by simp [intOf]; omega⟩
      · have hh2 : hasC 1 x = false := by simpa using hh
        have HH := Lib.hid hh
        clear hh
        go_wp2_with (first | (go_at_call 41; (with_reducible refine (need_false _ _ _).mono ?_); rintro e w3 ⟨rfl, rfl⟩) | (with_reducible show Calls Try.prog 68 #[_, _] _ _; (with_reducible refine (octets_has _ _).mono ?_); rintro e w1 ⟨rfl, hb⟩; obtain ⟨hc, hf⟩ := bcell hb) | (with_reducible show Calls Try.prog 74 #[_, _] _ _; (with_reducible refine (utf8_has _ _).mono ?_); rintro e w1 ⟨rfl, hb⟩; obtain ⟨hc, hf⟩ := bcell hb) | (with_reducible show Calls Try.prog 81 #[_, _] _ _; (with_reducible refine (shift_has _ _).mono ?_); rintro e w1 ⟨rfl, hb⟩; obtain ⟨hc, hf⟩ := bcell hb))
        have he := encodedC_no HR2.out HH.out HR.out
        exact ⟨rfl, (by repeat (first | with_reducible assumption | with_reducible exact Below.refl _ _ | with_reducible refine below_alloc ?_ _ | with_reducible refine pw_below_drewN ?_ _ | with_reducible refine below_drew1 ?_ | ((with_reducible refine below_set ?_ ?hle); (case hle => first | (simp; done) | omega | (simp; omega))) | with_reducible refine below_step ?_ (by assumption))), .inr ⟨by rw [he]; simp, by rw [he]⟩⟩
    · have hkk : l.length ≤ k := by have := HL.out; omega
      have HE := Lib.hid (encodedC_end hkk HR.out)
      clear hkk
      go_wp2_with (go_at_call 43; (with_reducible refine (turn_any _ _ _).mono ?_); rintro e w2 ⟨v2, rfl, hv2, hb2⟩; obtain ⟨A2, c2, rfl, hle2, _⟩ := Kd.R_reads hv2)
      refine (joined_any (w0 := w) (xs := bs) (ys := turnC st 0) (by repeat (first | with_reducible assumption | with_reducible exact Below.refl _ _ | with_reducible refine below_alloc ?_ _ | with_reducible refine pw_below_drewN ?_ _ | with_reducible refine below_drew1 ?_ | ((with_reducible refine below_set ?_ ?hle); (case hle => first | (simp; done) | omega | (simp; omega))) | with_reducible refine below_step ?_ (by assumption))) (Kd.R_below HV.out hb2) (own_src hv2 (fun j hj he => by have := own_lt_size HV.out he; omega)) hle2 (by have := turnC_len st 0; have := HLK.out; have := HL.out; omega)).mono ?_
      rintro e w4 ⟨v4, rfl, hv4, hb4⟩
      obtain ⟨A4, c4, rfl, hle4, _⟩ := Kd.R_reads hv4
      have HV4 := Lib.hid hv4
      clear hv4
      by_cases h2 : 20000 < (bs ++ turnC st 0).length
      · have h3 : 20000 < (((bs ++ turnC st 0).length : Nat) : Int) := by omega
        have H2 := Lib.hid h2
        clear h2
        generalize (bs ++ turnC st 0).length = m at *
        go_wp2_with (go_at_call 38; (with_reducible refine (few_no _ h3 _).mono ?_); rintro e w5 ⟨rfl, rfl⟩)
        have he : encodedC 1 l = ([], 2, 0) := by rw [HE.out, if_pos H2.out]
        exact ⟨rfl, hb4, .inr ⟨by rw [he]; simp, by rw [he]⟩⟩
      · have h3 : (((bs ++ turnC st 0).length : Nat) : Int) ≤ 20000 := by omega
        have H2 := Lib.hid h2
        clear h2
        have he : encodedC 1 l = (bs ++ turnC st 0, 0, 0) := by rw [HE.out, if_neg H2.out]
        have HE2 := Lib.hid he
        clear he
        generalize (bs ++ turnC st 0).length = m at *
        go_wp2_with (go_at_call 38; (with_reducible refine (few_ok _ h3 _).mono ?_); rintro e w5 ⟨rfl, rfl⟩)
        go_ret
        have he := HE2.out
        exact ⟨hb4, .inl ⟨by rw [he], _, rfl, by rw [he]; exact HV4.out⟩⟩

set_option maxHeartbeats 4000000 in
theorem encoded_2 (enc : Int) (h : enc = 2) (A : Option Addr) (n c : Nat) (l : List Int) (w : World) (hn : n ≤ 20000) (hC : Kd.C (Kd.int .u32) w A n l) (hx : U32s l) :
    Calls Try.prog 39 #[.iface 101 (.agg #[]), .slice A n c] w (EncPost enc l w) := by
  have hl : l.length = n := hC.1
  have HL := Lib.hid hl
  have HC := Lib.hid hC
  have HX := Lib.hid hx
  have H0 : Hid (EncRel enc l w w (.slice none 0 0) (.int .i64 0) (.int .i64 0)) := Lib.hid ⟨0, 0, [], Nat.zero_le _, rfl, rfl, Kd.R_nil _ _ _ _ _, Below.refl _ _, by simp, by simp⟩
  subst h
  clear hl hC hx
  have m1 := meth_has_2
  have m2 := meth_put_2
  go_enter Try.func39, Try.ntmps39
  go_wp2
  go_loopw [5, 6, 12] (fun vb vs vi wr => EncRel 2 l w wr vb vs vi) (fun _ _ vi _ => n - (intOf vi).toNat)
  case atStart => exact H0.out
  case round =>
    obtain ⟨k, st, bs, hk, rfl, rfl, hv, hbw, hbl, hr⟩ := hrel
    have HR := Lib.hid hr
    have HV := Lib.hid hv
    have HLK := Lib.hid hk
    clear hr hv hk
    by_cases hkn : k < n
    · obtain ⟨b, off, rfl, hlt, hcs⟩ := open_C (C_of_below HC.out hbw) (by omega)
      have hcell := hcs k hkn
      clear hcs
      obtain ⟨xa, xb⟩ := HX.out k
      have hR2 : l.drop k = l.getD k 0 :: l.drop (k + 1) := by
        have := HL.out
        rw [List.drop_eq_getElem_cons (by omega), List.getD_eq_getElem?_getD, List.getElem?_eq_getElem (by omega)]; rfl
      have HR2 := Lib.hid hR2
      clear hR2
      generalize l.getD k 0 = x at *
      by_cases hh : hasC 2 x = true
      · have HH := Lib.hid hh
        go_wp2_with (first | (go_at_call 41; (with_reducible refine (need_true _ _ _).mono ?_); rintro e w3 ⟨rfl, rfl⟩) | (with_reducible show Calls Try.prog 68 #[_, _] _ _; (with_reducible refine (octets_has _ _).mono ?_); rintro e w1 ⟨rfl, hb⟩; obtain ⟨hc, hf⟩ := bcell hb) | (with_reducible show Calls Try.prog 74 #[_, _] _ _; (with_reducible refine (utf8_has _ _).mono ?_); rintro e w1 ⟨rfl, hb⟩; obtain ⟨hc, hf⟩ := bcell hb) | (with_reducible show Calls Try.prog 81 #[_, _] _ _; (with_reducible refine (shift_has _ _).mono ?_); rintro e w1 ⟨rfl, hb⟩; obtain ⟨hc, hf⟩ := bcell hb) | (with_reducible show Calls Try.prog 70 #[_, _, _] _ _; refine (octets_put' _ _ _ xa HH.out).mono ?_; rintro e w2 ⟨v2, rfl, hv2, hb2⟩; obtain ⟨A2, c2, rfl, hle2, _⟩ := Kd.R_reads hv2) | (with_reducible show Calls Try.prog 76 #[_, _, _] _ _; refine (utf8_put' _ _ _ xa HH.out).mono ?_; rintro e w2 ⟨v2, rfl, hv2, hb2⟩; obtain ⟨A2, c2, rfl, hle2, _⟩ := Kd.R_reads hv2) | (with_reducible show Calls Try.prog 83 #[_, _, _] _ _; refine (shift_put _ _ _ xa HH.out).mono ?_; rintro e w2 ⟨v2, rfl, hv2, hb2⟩; obtain ⟨A2, c2, rfl, hle2, _⟩ := Kd.R_reads hv2))
        refine (joined_any (w0 := w) (xs := bs) (ys := (putC 2 st x).1) (by repeat (first | with_reducible assumption | with_reducible exact Below.refl _ _ | with_reducible refine below_alloc ?_ _ | with_reducible refine pw_below_drewN ?_ _ | with_reducible refine below_drew1 ?_ | ((with_reducible refine below_set ?_ ?hle); (case hle => first | (simp; done) | omega | (simp; omega))) | with_reducible refine below_step ?_ (by assumption))) (Kd.R_below HV.out (below_step hb hb2)) (own_src hv2 (fun j hj he => by have := own_lt_size HV.out he; have := below_size hb; omega)) hle2 (by have := putC_len 2 st x; omega)).mono ?_
        rintro e w4 ⟨v4, rfl, hv4, hb4⟩
        go_wp2
        exact ⟨EncRel.next (by have := HL.out; omega) HR2.out HH.out hbl HR.out hv4 hb4, by simp [intOf]; omega⟩
      · have hh2 : hasC 2 x = false := by simpa using hh
        have HH := Lib.hid hh
        clear hh
        go_wp2_with (first | (go_at_call 41; (with_reducible refine (need_false _ _ _).mono ?_); rintro e w3 ⟨rfl, rfl⟩) | (with_reducible show Calls Try.prog 68 #[_, _] _ _; (with_reducible refine (octets_has _ _).mono ?_); rintro e w1 ⟨rfl, hb⟩; obtain ⟨hc, hf⟩ := bcell hb) | (with_reducible show Calls Try.prog 74 #[_, _] _ _; (with_reducible refine (utf8_has _ _).mono ?_); rintro e w1 ⟨rfl, hb⟩; obtain ⟨hc, hf⟩ := bcell hb) | (with_reducible show Calls Try.prog 81 #[_, _] _ _; (with_reducible refine (shift_has _ _).mono ?_); rintro e w1 ⟨rfl, hb⟩; obtain ⟨hc, hf⟩ := bcell hb))
        have he := encodedC_no HR2.out HH.out HR.out
        exact ⟨rfl, (by repeat (first | with_reducible assumption | with_reducible exact Below.refl _ _ | with_reducible refine below_alloc ?_ _ | with_reducible refine pw_below_drewN ?_ _ | with_reducible refine below_drew1 ?_ | ((with_reducible refine below_set ?_ ?hle); (case hle => first | (simp; done) | omega | (simp; omega))) | with_reducible refine below_step ?_ (by assumption))), .inr ⟨by rw [he]; simp, by rw [he]⟩⟩
    · have hkk : l.length ≤ k := by have := HL.out; omega
      have HE := Lib.hid (encodedC_end hkk HR.out)
      clear hkk
      go_wp2_with (go_at_call 43; (with_reducible refine (turn_any _ _ _).mono ?_); rintro e w2 ⟨v2, rfl, hv2, hb2⟩; obtain ⟨A2, c2, rfl, hle2, _⟩ := Kd.R_reads hv2)
      refine (joined_any (w0 := w) (xs := bs) (ys := turnC st 0) (by repeat (first | with_reducible assumption | with_reducible exact Below.refl _ _ | with_reducible refine below_alloc ?_ _ | with_reducible refine pw_below_drewN ?_ _ | with_reducible refine below_drew1 ?_ | ((with_reducible refine below_set ?_ ?hle); (case hle => first | (simp; done) | omega | (simp; omega))) | with_reducible refine below_step ?_ (by assumption))) (Kd.R_below HV.out hb2) (own_src hv2 (fun j hj he => by have := own_lt_size HV.out he; omega)) hle2 (by have := turnC_len st 0; have := HLK.out; have := HL.out; omega)).mono ?_
      rintro e w4 ⟨v4, rfl, hv4, hb4⟩
      obtain ⟨A4, c4, rfl, hle4, _⟩ := Kd.R_reads hv4
      have HV4 := Lib.hid hv4
      clear hv4
      by_cases h2 : 20000 < (bs ++ turnC st 0).length
      · have h3 : 20000 < (((bs ++ turnC st 0).length : Nat) : Int) := by omega
        have H2 := Lib.hid h2
        clear h2
        generalize (bs ++ turnC st 0).length = m at *
        go_wp2_with (go_at_call 38; (with_reducible refine (few_no _ h3 _).mono ?_); rintro e w5 ⟨rfl, rfl⟩)
        have he : encodedC 2 l = ([], 2, 0) := by rw [HE.out, if_pos H2.out]
        exact ⟨rfl, hb4, .inr ⟨by rw [he]; simp, by rw [he]⟩⟩
      · have h3 : (((bs ++ turnC st 0).length : Nat) : Int) ≤ 20000 := by omega
        have H2 := Lib.hid h2
        clear h2
        have he : encodedC 2 l = (bs ++ turnC st 0, 0, 0) := by rw [HE.out, if_neg H2.out]
        have HE2 := Lib.hid he
        clear he
        generalize (bs ++ turnC st 0).length = m at *
        go_wp2_with (go_at_call 38; (with_reducible refine (few_ok _ h3 _).mono ?_); rintro e w5 ⟨rfl, rfl⟩)
        go_ret
        have he := HE2.out
        exact ⟨hb4, .inl ⟨by rw [he], _, rfl, by rw [he]; exact HV4.out⟩⟩

set_option maxHeartbeats 4000000 in
theorem encoded_3 (enc : Int) (h : enc = 3) (A : Option Addr) (n c : Nat) (l : List Int) (w : World) (hn : n ≤ 20000) (hC : Kd.C (Kd.int .u32) w A n l) (hx : U32s l) :
    Calls Try.prog 39 #[.iface 102 (.agg #[]), .slice A n c] w (EncPost enc l w) := by
  have hl : l.length = n := hC.1
  have HL := Lib.hid hl
  have HC := Lib.hid hC
  have HX := Lib.hid hx
  have H0 : Hid (EncRel enc l w w (.slice none 0 0) (.int .i64 0) (.int .i64 0)) := Lib.hid ⟨0, 0, [], Nat.zero_le _, rfl, rfl, Kd.R_nil _ _ _ _ _, Below.refl _ _, by simp, by simp⟩
  subst h
  clear hl hC hx
  have m1 := meth_has_3
  have m2 := meth_put_3
  go_enter Try.func39, Try.ntmps39
  go_wp2
  go_loopw [5, 6, 12] (fun vb vs vi wr => EncRel 3 l w wr vb vs vi) (fun _ _ vi _ => n - (intOf vi).toNat)
  case atStart => exact H0.out
  case round =>
    obtain ⟨k, st, bs, hk, rfl, rfl, hv, hbw, hbl, hr⟩ := hrel
    have HR := Lib.hid hr
    have HV := Lib.hid hv
    have HLK := Lib.hid hk
    clear hr hv hk
    by_cases hkn : k < n
    · obtain ⟨b, off, rfl, hlt, hcs⟩ := open_C (C_of_below HC.out hbw) (by omega)
      have hcell := hcs k hkn
      clear hcs
      obtain ⟨xa, xb⟩ := HX.out k
      have hR2 : l.drop k = l.getD k 0 :: l.drop (k + 1) := by
        have := HL.out
        rw [List.drop_eq_getElem_cons (by omega), List.getD_eq_getElem?_getD, List.getElem?_eq_getElem (by omega)]; rfl
      have HR2 := Lib.hid hR2
      clear hR2
      generalize l.getD k 0 = x at *
      by_cases hh : hasC 3 x = true
      · have HH := Lib.hid hh
        go_wp2_with (first | (go_at_call 41; (with_reducible refine (need_true _ _ _).mono ?_); rintro e w3 ⟨rfl, rfl⟩) | (with_reducible show Calls Try.prog 68 #[_, _] _ _; (with_reducible refine (octets_has _ _).mono ?_); rintro e w1 ⟨rfl, hb⟩; obtain ⟨hc, hf⟩ := bcell hb) | (with_reducible show Calls Try.prog 74 #[_, _] _ _; (with_reducible refine (utf8_has _ _).mono ?_); rintro e w1 ⟨rfl, hb⟩; obtain ⟨hc, hf⟩ := bcell hb) | (with_reducible show Calls Try.prog 81 #[_, _] _ _; (with_reducible refine (shift_has _ _).mono ?_); rintro e w1 ⟨rfl, hb⟩; obtain ⟨hc, hf⟩ := bcell hb) | (with_reducible show Calls Try.prog 70 #[_, _, _] _ _; refine (octets_put' _ _ _ xa HH.out).mono ?_; rintro e w2 ⟨v2, rfl, hv2, hb2⟩; obtain ⟨A2, c2, rfl, hle2, _⟩ := Kd.R_reads hv2) | (with_reducible show Calls Try.prog 76 #[_, _, _] _ _; refine (utf8_put' _ _ _ xa HH.out).mono ?_; rintro e w2 ⟨v2, rfl, hv2, hb2⟩; obtain ⟨A2, c2, rfl, hle2, _⟩ := Kd.R_reads hv2) | (with_reducible show Calls Try.prog 83 #[_, _, _] _ _; refine (shift_put _ _ _ xa HH.out).mono ?_; rintro e w2 ⟨v2, rfl, hv2, hb2⟩; obtain ⟨A2, c2, rfl, hle2, _⟩ := Kd.R_reads hv2))
        refine (joined_any (w0 := w) (xs := bs) (ys := (putC 3 st x).1) (by repeat (first | with_reducible assumption | with_reducible exact Below.refl _ _ | with_reducible refine below_alloc ?_ _ | with_reducible refine pw_below_drewN ?_ _ | with_reducible refine below_drew1 ?_ | ((with_reducible refine below_set ?_ ?hle); (case hle => first | (simp; done) | omega | (simp; omega))) | with_reducible refine below_step ?_ (by assumption))) (Kd.R_below HV.out (below_step hb hb2)) (own_src hv2 (fun j hj he => by have := own_lt_size HV.out he; have := below_size hb; omega)) hle2 (by have := putC_len 3 st x; omega)).mono ?_
        rintro e w4 ⟨v4, rfl, hv4, hb4⟩
        go_wp2
        exact ⟨EncRel.next (by have := HL.out; omega) HR2.out HH.out hbl HR.out hv4 hb4, by simp [intOf]; omega⟩
      · have hh2 : hasC 3 x = false := by simpa using hh
        have HH := Lib.hid hh
        clear hh
        go_wp2_with (first | (go_at_call 41; (with_reducible refine (need_false _ _ _).mono ?_); rintro e w3 ⟨rfl, rfl⟩) | (with_reducible show Calls Try.prog 68 #[_, _] _ _; (with_reducible refine (octets_has _ _).mono ?_); rintro e w1 ⟨rfl, hb⟩; obtain ⟨hc, hf⟩ := bcell hb) | (with_reducible show Calls Try.prog 74 #[_, _] _ _; (with_reducible refine (utf8_has _ _).mono ?_); rintro e w1 ⟨rfl, hb⟩; obtain ⟨hc, hf⟩ := bcell hb) | (with_reducible show Calls Try.prog 81 #[_, _] _ _; (with_reducible refine (shift_has _ _).mono ?_); rintro e w1 ⟨rfl, hb⟩; obtain ⟨hc, hf⟩ := bcell hb))
        have he := encodedC_no HR2.out HH.out HR.out
        exact ⟨rfl, (by repeat (first | with_reducible assumption | with_reducible exact Below.refl _ _ | with_reducible refine below_alloc ?_ _ | with_reducible refine pw_below_drewN ?_ _ | with_reducible refine below_drew1 ?_ | ((with_reducible refine below_set ?_ ?hle); (case hle => first | (simp; done) | omega | (simp; omega))) | with_reducible refine below_step ?_ (by assumption))), .inr ⟨by rw [he]; simp, by rw [he]⟩⟩
    · have hkk : l.length ≤ k := by have := HL.out; omega
      have HE := Lib.hid (encodedC_end hkk HR.out)
      clear hkk
      go_wp2_with (go_at_call 43; (with_reducible refine (turn_any _ _ _).mono ?_); rintro e w2 ⟨v2, rfl, hv2, hb2⟩; obtain ⟨A2, c2, rfl, hle2, _⟩ := Kd.R_reads hv2)
      refine (joined_any (w0 := w) (xs := bs) (ys := turnC st 0) (by repeat (first | with_reducible assumption | with_reducible exact Below.refl _ _ | with_reducible refine below_alloc ?_ _ | with_reducible refine pw_below_drewN ?_ _ | with_reducible refine below_drew1 ?_ | ((with_reducible refine below_set ?_ ?hle); (case hle => first | (simp; done) | omega | (simp; omega))) | with_reducible refine below_step ?_ (by assumption))) (Kd.R_below HV.out hb2) (own_src hv2 (fun j hj he => by have := own_lt_size HV.out he; omega)) hle2 (by have := turnC_len st 0; have := HLK.out; have := HL.out; omega)).mono ?_
      rintro e w4 ⟨v4, rfl, hv4, hb4⟩
      obtain ⟨A4, c4, rfl, hle4, _⟩ := Kd.R_reads hv4
      have HV4 := Lib.hid hv4
      clear hv4
      by_cases h2 : 20000 < (bs ++ turnC st 0).length
      · have h3 : 20000 < (((bs ++ turnC st 0).length : Nat) : Int) := by omega
        have H2 := Lib.hid h2
        clear h2
        generalize (bs ++ turnC st 0).length = m at *
        go_wp2_with (go_at_call 38; (with_reducible refine (few_no _ h3 _).mono ?_); rintro e w5 ⟨rfl, rfl⟩)
        have he : encodedC 3 l = ([], 2, 0) := by rw [HE.out, if_pos H2.out]
        exact ⟨rfl, hb4, .inr ⟨by rw [he]; simp, by rw [he]⟩⟩
      · have h3 : (((bs ++ turnC st 0).length : Nat) : Int) ≤ 20000 := by omega
        have H2 := Lib.hid h2
        clear h2
        have he : encodedC 3 l = (bs ++ turnC st 0, 0, 0) := by rw [HE.out, if_neg H2.out]
        have HE2 := Lib.hid he
        clear he
        generalize (bs ++ turnC st 0).length = m at *
        go_wp2_with (go_at_call 38; (with_reducible refine (few_ok _ h3 _).mono ?_); rintro e w5 ⟨rfl, rfl⟩)
        go_ret
        have he := HE2.out
        exact ⟨hb4, .inl ⟨by rw [he], _, rfl, by rw [he]; exact HV4.out⟩⟩

end Go.Proofs.Ytcekghcejmhhaaa
