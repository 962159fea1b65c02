/- The law NatReads: its walk. -/
import Derived.Test.YtococmfcaobmhaaLaw0
import Derived.Test.YtococmfcaobmhaaNat9
import Derived.Test.YtococmfcaobmhaaRef9
namespace Go.Proofs.Ytococmfcaobmhaa
open Go.RowKit Go.Slip

/-- What is known of 'form' when i bytes have been looked at. -/
def FormRel (s : ByteArray) (b : Bool) (i : Nat) : Prop :=
  b = true ↔ (s.size = 0 ∨ (dg (bytesOf s) 0 = 48 ∧ 1 < s.size) ∨ ∃ j, j < i ∧ j < s.size ∧ ¬ (48 ≤ dg (bytesOf s) j ∧ dg (bytesOf s) j ≤ 57))

theorem FormRel.start (s : ByteArray) (b : Bool) (h : b = true ↔ (s.size = 0 ∨ (dg (bytesOf s) 0 = 48 ∧ 1 < s.size))) : FormRel s b 0 := by
  unfold FormRel; rw [h]
  constructor
  · rintro (h | h)
    · exact .inl h
    · exact .inr (.inl h)
  · rintro (h | h | ⟨j, hj, _⟩)
    · exact .inl h
    · exact .inr h
    · omega

theorem FormRel.stay {s : ByteArray} {i : Nat} (h : FormRel s true i) : FormRel s true (i + 1) := by
  refine ⟨fun _ => ?_, fun _ => rfl⟩
  rcases h.1 rfl with h | h | ⟨j, h1, h2⟩
  · exact .inl h
  · exact .inr (.inl h)
  · exact .inr (.inr ⟨j, by omega, h2⟩)

theorem FormRel.step {s : ByteArray} {i : Nat} (h : FormRel s false i) (hi : i < s.size) : FormRel s (!decide (48 ≤ dg (bytesOf s) i ∧ dg (bytesOf s) i ≤ 57)) (i + 1) := by
  have h0 : ¬ _ := fun hx => Bool.noConfusion (h.2 hx)
  constructor
  · intro hb
    exact .inr (.inr ⟨i, by omega, hi, by simp at hb; omega⟩)
  · rintro (h1 | h1 | ⟨j, hj, hj2, hj3⟩)
    · exact absurd (.inl h1) h0
    · exact absurd (.inr (.inl h1)) h0
    · by_cases e : j = i
      · subst e; simp; omega
      · exact absurd (.inr (.inr ⟨j, by omega, hj2, hj3⟩)) h0

theorem FormRel.done {s : ByteArray} {b : Bool} (h : FormRel s b s.size) : b = true ↔ ¬ formOk s := by
  unfold FormRel at h
  rw [h]
  unfold formOk
  constructor
  · rintro (h | h | ⟨j, h1, h2, h3⟩) ⟨h4, h5, h6⟩
    · exact h5 h
    · exact h6 h
    · exact h3 (h4 j h2)
  · intro hf
    by_cases h1 : s.size = 0
    · exact .inl h1
    · by_cases h2 : dg (bytesOf s) 0 = 48 ∧ 1 < s.size
      · exact .inr (.inl h2)
      · right; right
        refine Classical.byContradiction fun hn => hf ⟨fun j hj => ?_, h1, h2⟩
        exact Classical.byContradiction fun hc => hn ⟨j, hj, hj, hc⟩




theorem read_err (s : ByteArray) (w : World) (er : Int) (h : errRead s = er) (he : er ≠ 0) : Calls Try.prog 33 #[.string s] w (GivesE w [] er) := by
  have h1 := natRead_any s w
  rw [h] at h1
  have e1 : natE er (numOf (bytesOf s)) = er := by unfold natE; rw [if_neg he]
  have e2 : natL er (numOf (bytesOf s)) = [] := by unfold natL; rw [e1, if_neg he]
  rw [e1, e2] at h1
  exact h1

set_option maxHeartbeats 2000000 in
set_option maxRecDepth 100000 in
theorem lawRead_many (s : ByteArray) (w : World) (hs : s.size ≤ 9223372036854775807) (h12 : 12000 < s.size) :
    Calls Try.prog 8 #[.string s] w fun e w' => e = .returned (.bool true) ∧ Below w.heap.size w w' := by
  have HM := Lib.hid (read_err s w 2 (errRead_many h12) (by omega))
  have H12 := Lib.hid h12
  clear h12
  go_enter Try.func8, Try.ntmps8
  go_wp2_with fail
  refine HM.out.mono ?_
  rintro e w1 ⟨p1, c1, rfl, ho1, hb1⟩
  by_cases h0 : s.size = 0
  · have HF0 := Lib.hid (FormRel.start s true (by simp [h0]))
    have h1 : s.size ≤ 0 := by omega
    have hz : ((s.size : Int) == 0) = true := by simp [h0]
    clear h0
    go_wp2
    go_loop [7, 8] (fun fv iv => ∃ (b : Bool) (i : Nat), fv = .bool b ∧ iv = .int .i64 i ∧ i ≤ s.size ∧ Hid (FormRel s b i)) (fun _ iv => s.size - (intOf iv).toNat)
    case atStart => exact ⟨true, 0, (by first | rfl | (congr 1; simp; omega)), rfl, Nat.zero_le _, HF0⟩
    case round =>
      obtain ⟨b, i, rfl, rfl, hi, HR⟩ := hrel
      by_cases hlt : i < s.size
      · cases b with
        | true =>
          have HN := Lib.hid HR.out.stay
          go_wp2
          go_round
          case rel => exact ⟨true, i + 1, rfl, by go_num, hlt, HN⟩
          case measure => simp [intOf]; omega
        | false =>
          have HN := Lib.hid (HR.out.step hlt)
          have HI := Lib.hid (fun w => refIsDigit_any s i w hlt)
          generalize decide (48 ≤ dg (bytesOf s) i ∧ dg (bytesOf s) i ≤ 57) = d at *
          go_wp2_with (go_at_call 34; refine (HI.out _).mono ?_; rintro e w2 ⟨rfl, rfl⟩)
          go_round
          case rel => exact ⟨!d, i + 1, rfl, by go_num, hlt, HN⟩
          case measure => simp [intOf]; omega
      · obtain rfl : i = s.size := by omega
        have hD := HR.out.done
        clear hD
        have h12 := H12.out
        first
          | (exfalso; omega)
          | (go_wp2_with fail
             refine (natBegun_any _).mono ?_
             rintro e w7 ⟨rfl, hb7⟩
             go_wp2_with fail
             refine (natIs_err p1 none c1 0 0 2 _ (by omega)).mono ?_
             rintro e w8 ⟨rfl, hb8⟩
             go_wp2_with fail
             go_ret
             have hs7 := hb1.trans (hb7.mono hb1.size)
             exact ⟨rfl, hs7.trans (hb8.mono hs7.size)⟩)
  · have h1 : 1 ≤ s.size := by omega
    have hz : ((s.size : Int) == 0) = false := beq_eq_false_iff_ne.2 (by omega)
    have hg := dg_bytesOf s 0 (by omega)
    by_cases h2 : dg (bytesOf s) 0 = 48 ∧ 1 < s.size
    · have HF0 := Lib.hid (FormRel.start s true (by simp [h2]))
      obtain ⟨h3, h4⟩ := h2
      rw [h3] at hg
      clear h0 h3
      go_wp2
      go_loop [7, 8] (fun fv iv => ∃ (b : Bool) (i : Nat), fv = .bool b ∧ iv = .int .i64 i ∧ i ≤ s.size ∧ Hid (FormRel s b i)) (fun _ iv => s.size - (intOf iv).toNat)
      case atStart => exact ⟨true, 0, (by first | rfl | (congr 1; simp; omega)), rfl, Nat.zero_le _, HF0⟩
      case round =>
        obtain ⟨b, i, rfl, rfl, hi, HR⟩ := hrel
        by_cases hlt : i < s.size
        · cases b with
          | true =>
            have HN := Lib.hid HR.out.stay
            go_wp2
            go_round
            case rel => exact ⟨true, i + 1, rfl, by go_num, hlt, HN⟩
            case measure => simp [intOf]; omega
          | false =>
            have HN := Lib.hid (HR.out.step hlt)
            have HI := Lib.hid (fun w => refIsDigit_any s i w hlt)
            generalize decide (48 ≤ dg (bytesOf s) i ∧ dg (bytesOf s) i ≤ 57) = d at *
            go_wp2_with (go_at_call 34; refine (HI.out _).mono ?_; rintro e w2 ⟨rfl, rfl⟩)
            go_round
            case rel => exact ⟨!d, i + 1, rfl, by go_num, hlt, HN⟩
            case measure => simp [intOf]; omega
        · obtain rfl : i = s.size := by omega
          have hD := HR.out.done
          clear hD
          have h12 := H12.out
          first
            | (exfalso; omega)
            | (go_wp2_with fail
               refine (natBegun_any _).mono ?_
               rintro e w7 ⟨rfl, hb7⟩
               go_wp2_with fail
               refine (natIs_err p1 none c1 0 0 2 _ (by omega)).mono ?_
               rintro e w8 ⟨rfl, hb8⟩
               go_wp2_with fail
               go_ret
               have hs7 := hb1.trans (hb7.mono hb1.size)
               exact ⟨rfl, hs7.trans (hb8.mono hs7.size)⟩)
    · have HF0 := Lib.hid (FormRel.start s false (by simp only [Bool.false_eq_true, false_iff]; rintro (h | h); exact h0 h; exact h2 h))
      by_cases h3 : dg (bytesOf s) 0 = 48
      · have h4 : s.size ≤ 1 := by
          rcases Nat.lt_or_ge 1 s.size with h | h
          · exact absurd ⟨h3, h⟩ h2
          · exact h
        rw [h3] at hg
        clear h0 h2 h3
        go_wp2
        go_loop [7, 8] (fun fv iv => ∃ (b : Bool) (i : Nat), fv = .bool b ∧ iv = .int .i64 i ∧ i ≤ s.size ∧ Hid (FormRel s b i)) (fun _ iv => s.size - (intOf iv).toNat)
        case atStart => exact ⟨false, 0, (by first | rfl | (congr 1; simp; omega)), rfl, Nat.zero_le _, HF0⟩
        case round =>
          obtain ⟨b, i, rfl, rfl, hi, HR⟩ := hrel
          by_cases hlt : i < s.size
          · cases b with
            | true =>
              have HN := Lib.hid HR.out.stay
              go_wp2
              go_round
              case rel => exact ⟨true, i + 1, rfl, by go_num, hlt, HN⟩
              case measure => simp [intOf]; omega
            | false =>
              have HN := Lib.hid (HR.out.step hlt)
              have HI := Lib.hid (fun w => refIsDigit_any s i w hlt)
              generalize decide (48 ≤ dg (bytesOf s) i ∧ dg (bytesOf s) i ≤ 57) = d at *
              go_wp2_with (go_at_call 34; refine (HI.out _).mono ?_; rintro e w2 ⟨rfl, rfl⟩)
              go_round
              case rel => exact ⟨!d, i + 1, rfl, by go_num, hlt, HN⟩
              case measure => simp [intOf]; omega
          · obtain rfl : i = s.size := by omega
            have hD := HR.out.done
            clear hD
            have h12 := H12.out
            first
              | (exfalso; omega)
              | (go_wp2_with fail
                 refine (natBegun_any _).mono ?_
                 rintro e w7 ⟨rfl, hb7⟩
                 go_wp2_with fail
                 refine (natIs_err p1 none c1 0 0 2 _ (by omega)).mono ?_
                 rintro e w8 ⟨rfl, hb8⟩
                 go_wp2_with fail
                 go_ret
                 have hs7 := hb1.trans (hb7.mono hb1.size)
                 exact ⟨rfl, hs7.trans (hb8.mono hs7.size)⟩)
      · generalize hv : dg (bytesOf s) 0 = v at hg h3
        have hvb : ((v : Int) == 48) = false := by simp; omega
        clear h0 h2 h3 hv
        go_wp2
        go_loop [7, 8] (fun fv iv => ∃ (b : Bool) (i : Nat), fv = .bool b ∧ iv = .int .i64 i ∧ i ≤ s.size ∧ Hid (FormRel s b i)) (fun _ iv => s.size - (intOf iv).toNat)
        case atStart => exact ⟨false, 0, (by first | rfl | (congr 1; simp; omega)), rfl, Nat.zero_le _, HF0⟩
        case round =>
          obtain ⟨b, i, rfl, rfl, hi, HR⟩ := hrel
          by_cases hlt : i < s.size
          · cases b with
            | true =>
              have HN := Lib.hid HR.out.stay
              go_wp2
              go_round
              case rel => exact ⟨true, i + 1, rfl, by go_num, hlt, HN⟩
              case measure => simp [intOf]; omega
            | false =>
              have HN := Lib.hid (HR.out.step hlt)
              have HI := Lib.hid (fun w => refIsDigit_any s i w hlt)
              generalize decide (48 ≤ dg (bytesOf s) i ∧ dg (bytesOf s) i ≤ 57) = d at *
              go_wp2_with (go_at_call 34; refine (HI.out _).mono ?_; rintro e w2 ⟨rfl, rfl⟩)
              go_round
              case rel => exact ⟨!d, i + 1, rfl, by go_num, hlt, HN⟩
              case measure => simp [intOf]; omega
          · obtain rfl : i = s.size := by omega
            have hD := HR.out.done
            clear hD
            have h12 := H12.out
            first
              | (exfalso; omega)
              | (go_wp2_with fail
                 refine (natBegun_any _).mono ?_
                 rintro e w7 ⟨rfl, hb7⟩
                 go_wp2_with fail
                 refine (natIs_err p1 none c1 0 0 2 _ (by omega)).mono ?_
                 rintro e w8 ⟨rfl, hb8⟩
                 go_wp2_with fail
                 go_ret
                 have hs7 := hb1.trans (hb7.mono hb1.size)
                 exact ⟨rfl, hs7.trans (hb8.mono hs7.size)⟩)

set_option maxHeartbeats 2000000 in
set_option maxRecDepth 100000 in
theorem lawRead_form (s : ByteArray) (w : World) (hs : s.size ≤ 12000) (hf : ¬ formOk s) :
    Calls Try.prog 8 #[.string s] w fun e w' => e = .returned (.bool true) ∧ Below w.heap.size w w' := by
  have HM := Lib.hid (read_err s w 1 (errRead_form (by omega) hf) (by omega))
  go_enter Try.func8, Try.ntmps8
  go_wp2_with fail
  refine HM.out.mono ?_
  rintro e w1 ⟨p1, c1, rfl, ho1, hb1⟩
  by_cases h0 : s.size = 0
  · have HF0 := Lib.hid (FormRel.start s true (by simp [h0]))
    have h1 : s.size ≤ 0 := by omega
    have hz : ((s.size : Int) == 0) = true := by simp [h0]
    clear h0
    go_wp2
    go_loop [7, 8] (fun fv iv => ∃ (b : Bool) (i : Nat), fv = .bool b ∧ iv = .int .i64 i ∧ i ≤ s.size ∧ Hid (FormRel s b i)) (fun _ iv => s.size - (intOf iv).toNat)
    case atStart => exact ⟨true, 0, (by first | rfl | (congr 1; simp; omega)), rfl, Nat.zero_le _, HF0⟩
    case round =>
      obtain ⟨b, i, rfl, rfl, hi, HR⟩ := hrel
      by_cases hlt : i < s.size
      · cases b with
        | true =>
          have HN := Lib.hid HR.out.stay
          go_wp2
          go_round
          case rel => exact ⟨true, i + 1, rfl, by go_num, hlt, HN⟩
          case measure => simp [intOf]; omega
        | false =>
          have HN := Lib.hid (HR.out.step hlt)
          have HI := Lib.hid (fun w => refIsDigit_any s i w hlt)
          generalize decide (48 ≤ dg (bytesOf s) i ∧ dg (bytesOf s) i ≤ 57) = d at *
          go_wp2_with (go_at_call 34; refine (HI.out _).mono ?_; rintro e w2 ⟨rfl, rfl⟩)
          go_round
          case rel => exact ⟨!d, i + 1, rfl, by go_num, hlt, HN⟩
          case measure => simp [intOf]; omega
      · obtain rfl : i = s.size := by omega
        have hD := HR.out.done
        obtain rfl : b = true := hD.2 hf
        clear hD
        go_wp2_with fail
        refine (natBegun_any _).mono ?_
        rintro e w7 ⟨rfl, hb7⟩
        go_wp2_with fail
        refine (natIs_err p1 none c1 0 0 1 _ (by omega)).mono ?_
        rintro e w8 ⟨rfl, hb8⟩
        go_wp2_with fail
        go_ret
        have hs7 := hb1.trans (hb7.mono hb1.size)
        exact ⟨rfl, hs7.trans (hb8.mono hs7.size)⟩
  · have h1 : 1 ≤ s.size := by omega
    have hz : ((s.size : Int) == 0) = false := beq_eq_false_iff_ne.2 (by omega)
    have hg := dg_bytesOf s 0 (by omega)
    by_cases h2 : dg (bytesOf s) 0 = 48 ∧ 1 < s.size
    · have HF0 := Lib.hid (FormRel.start s true (by simp [h2]))
      obtain ⟨h3, h4⟩ := h2
      rw [h3] at hg
      clear h0 h3
      go_wp2
      go_loop [7, 8] (fun fv iv => ∃ (b : Bool) (i : Nat), fv = .bool b ∧ iv = .int .i64 i ∧ i ≤ s.size ∧ Hid (FormRel s b i)) (fun _ iv => s.size - (intOf iv).toNat)
      case atStart => exact ⟨true, 0, (by first | rfl | (congr 1; simp; omega)), rfl, Nat.zero_le _, HF0⟩
      case round =>
        obtain ⟨b, i, rfl, rfl, hi, HR⟩ := hrel
        by_cases hlt : i < s.size
        · cases b with
          | true =>
            have HN := Lib.hid HR.out.stay
            go_wp2
            go_round
            case rel => exact ⟨true, i + 1, rfl, by go_num, hlt, HN⟩
            case measure => simp [intOf]; omega
          | false =>
            have HN := Lib.hid (HR.out.step hlt)
            have HI := Lib.hid (fun w => refIsDigit_any s i w hlt)
            generalize decide (48 ≤ dg (bytesOf s) i ∧ dg (bytesOf s) i ≤ 57) = d at *
            go_wp2_with (go_at_call 34; refine (HI.out _).mono ?_; rintro e w2 ⟨rfl, rfl⟩)
            go_round
            case rel => exact ⟨!d, i + 1, rfl, by go_num, hlt, HN⟩
            case measure => simp [intOf]; omega
        · obtain rfl : i = s.size := by omega
          have hD := HR.out.done
          obtain rfl : b = true := hD.2 hf
          clear hD
          go_wp2_with fail
          refine (natBegun_any _).mono ?_
          rintro e w7 ⟨rfl, hb7⟩
          go_wp2_with fail
          refine (natIs_err p1 none c1 0 0 1 _ (by omega)).mono ?_
          rintro e w8 ⟨rfl, hb8⟩
          go_wp2_with fail
          go_ret
          have hs7 := hb1.trans (hb7.mono hb1.size)
          exact ⟨rfl, hs7.trans (hb8.mono hs7.size)⟩
    · have HF0 := Lib.hid (FormRel.start s false (by simp only [Bool.false_eq_true, false_iff]; rintro (h | h); exact h0 h; exact h2 h))
      by_cases h3 : dg (bytesOf s) 0 = 48
      · have h4 : s.size ≤ 1 := by
          rcases Nat.lt_or_ge 1 s.size with h | h
          · exact absurd ⟨h3, h⟩ h2
          · exact h
        rw [h3] at hg
        clear h0 h2 h3
        go_wp2
        go_loop [7, 8] (fun fv iv => ∃ (b : Bool) (i : Nat), fv = .bool b ∧ iv = .int .i64 i ∧ i ≤ s.size ∧ Hid (FormRel s b i)) (fun _ iv => s.size - (intOf iv).toNat)
        case atStart => exact ⟨false, 0, (by first | rfl | (congr 1; simp; omega)), rfl, Nat.zero_le _, HF0⟩
        case round =>
          obtain ⟨b, i, rfl, rfl, hi, HR⟩ := hrel
          by_cases hlt : i < s.size
          · cases b with
            | true =>
              have HN := Lib.hid HR.out.stay
              go_wp2
              go_round
              case rel => exact ⟨true, i + 1, rfl, by go_num, hlt, HN⟩
              case measure => simp [intOf]; omega
            | false =>
              have HN := Lib.hid (HR.out.step hlt)
              have HI := Lib.hid (fun w => refIsDigit_any s i w hlt)
              generalize decide (48 ≤ dg (bytesOf s) i ∧ dg (bytesOf s) i ≤ 57) = d at *
              go_wp2_with (go_at_call 34; refine (HI.out _).mono ?_; rintro e w2 ⟨rfl, rfl⟩)
              go_round
              case rel => exact ⟨!d, i + 1, rfl, by go_num, hlt, HN⟩
              case measure => simp [intOf]; omega
          · obtain rfl : i = s.size := by omega
            have hD := HR.out.done
            obtain rfl : b = true := hD.2 hf
            clear hD
            go_wp2_with fail
            refine (natBegun_any _).mono ?_
            rintro e w7 ⟨rfl, hb7⟩
            go_wp2_with fail
            refine (natIs_err p1 none c1 0 0 1 _ (by omega)).mono ?_
            rintro e w8 ⟨rfl, hb8⟩
            go_wp2_with fail
            go_ret
            have hs7 := hb1.trans (hb7.mono hb1.size)
            exact ⟨rfl, hs7.trans (hb8.mono hs7.size)⟩
      · generalize hv : dg (bytesOf s) 0 = v at hg h3
        have hvb : ((v : Int) == 48) = false := by simp; omega
        clear h0 h2 h3 hv
        go_wp2
        go_loop [7, 8] (fun fv iv => ∃ (b : Bool) (i : Nat), fv = .bool b ∧ iv = .int .i64 i ∧ i ≤ s.size ∧ Hid (FormRel s b i)) (fun _ iv => s.size - (intOf iv).toNat)
        case atStart => exact ⟨false, 0, (by first | rfl | (congr 1; simp; omega)), rfl, Nat.zero_le _, HF0⟩
        case round =>
          obtain ⟨b, i, rfl, rfl, hi, HR⟩ := hrel
          by_cases hlt : i < s.size
          · cases b with
            | true =>
              have HN := Lib.hid HR.out.stay
              go_wp2
              go_round
              case rel => exact ⟨true, i + 1, rfl, by go_num, hlt, HN⟩
              case measure => simp [intOf]; omega
            | false =>
              have HN := Lib.hid (HR.out.step hlt)
              have HI := Lib.hid (fun w => refIsDigit_any s i w hlt)
              generalize decide (48 ≤ dg (bytesOf s) i ∧ dg (bytesOf s) i ≤ 57) = d at *
              go_wp2_with (go_at_call 34; refine (HI.out _).mono ?_; rintro e w2 ⟨rfl, rfl⟩)
              go_round
              case rel => exact ⟨!d, i + 1, rfl, by go_num, hlt, HN⟩
              case measure => simp [intOf]; omega
          · obtain rfl : i = s.size := by omega
            have hD := HR.out.done
            obtain rfl : b = true := hD.2 hf
            clear hD
            go_wp2_with fail
            refine (natBegun_any _).mono ?_
            rintro e w7 ⟨rfl, hb7⟩
            go_wp2_with fail
            refine (natIs_err p1 none c1 0 0 1 _ (by omega)).mono ?_
            rintro e w8 ⟨rfl, hb8⟩
            go_wp2_with fail
            go_ret
            have hs7 := hb1.trans (hb7.mono hb1.size)
            exact ⟨rfl, hs7.trans (hb8.mono hs7.size)⟩

set_option maxHeartbeats 2000000 in
set_option maxRecDepth 100000 in
theorem lawRead_ok (s : ByteArray) (w : World) (hs : s.size ≤ 12000) (hf : formOk s) :
    Calls Try.prog 8 #[.string s] w fun e w' => e = .returned (.bool true) ∧ Below w.heap.size w w' := by
  have hM := natRead_any s w
  rw [errRead_ok (by omega) hf] at hM
  have HM := Lib.hid hM
  have HOK := Lib.hid hf
  have hln := numOf_take_len s hf.1 s.size (Nat.le_refl _)
  rw [List.take_of_length_le (by rw [bytesOf_length]; exact Nat.le_refl _)] at hln
  clear hM hf
  go_enter Try.func8, Try.ntmps8
  go_wp2_with fail
  refine HM.out.mono ?_
  rintro e w1 ⟨p1, c1, rfl, ho1, hb1⟩
  by_cases h0 : s.size = 0
  · have HF0 := Lib.hid (FormRel.start s true (by simp [h0]))
    have h1 : s.size ≤ 0 := by omega
    have hz : ((s.size : Int) == 0) = true := by simp [h0]
    clear h0
    go_wp2
    go_loop [7, 8] (fun fv iv => ∃ (b : Bool) (i : Nat), fv = .bool b ∧ iv = .int .i64 i ∧ i ≤ s.size ∧ Hid (FormRel s b i)) (fun _ iv => s.size - (intOf iv).toNat)
    case atStart => exact ⟨true, 0, (by first | rfl | (congr 1; simp; omega)), rfl, Nat.zero_le _, HF0⟩
    case round =>
      obtain ⟨b, i, rfl, rfl, hi, HR⟩ := hrel
      by_cases hlt : i < s.size
      · cases b with
        | true =>
          have HN := Lib.hid HR.out.stay
          go_wp2
          go_round
          case rel => exact ⟨true, i + 1, rfl, by go_num, hlt, HN⟩
          case measure => simp [intOf]; omega
        | false =>
          have HN := Lib.hid (HR.out.step hlt)
          have HI := Lib.hid (fun w => refIsDigit_any s i w hlt)
          generalize decide (48 ≤ dg (bytesOf s) i ∧ dg (bytesOf s) i ≤ 57) = d at *
          go_wp2_with (go_at_call 34; refine (HI.out _).mono ?_; rintro e w2 ⟨rfl, rfl⟩)
          go_round
          case rel => exact ⟨!d, i + 1, rfl, by go_num, hlt, HN⟩
          case measure => simp [intOf]; omega
      · obtain rfl : i = s.size := by omega
        have hD := HR.out.done
        obtain rfl : b = false := by
          cases b with
          | false => rfl
          | true => exact absurd HOK.out (hD.1 rfl)
        clear hD
        go_wp2_with fail
        refine (refUndecimal_any s _ (by omega) HOK.out.1).mono ?_
        rintro e w5 ⟨p5, c5, rfl, ho5, -, -, hb5⟩
        go_wp2_with fail
        refine (long_any p5 _ c5 (numOf (bytesOf s)) _ ho5 rfl (by omega)).mono ?_
        rintro e w6 ⟨rfl, hb6⟩
        go_wp2_with fail
        refine (natBegun_any _).mono ?_
        rintro e w7 ⟨rfl, hb7⟩
        have hs5 := hb1.trans (hb5.mono hb1.size)
        have hs6 := hs5.trans (hb6.mono hs5.size)
        have hs7 := hs6.trans (hb7.mono hs6.size)
        have hr7 := ((ho1.rd.past hb5).past hb6).past hb7
        have hr5 := (ho5.past hb6).past hb7
        clear hb1 hb5 hb6 hb7 hs5 hs6
        go_wp2_with fail
        refine (natIs_any p1 p5 _ c1 _ c5 0 (numOf (bytesOf s)) _ hr7 (fun _ => ⟨hr5, rfl⟩) rfl (fun _ => by omega)).mono ?_
        rintro e w8 ⟨rfl, hb8⟩
        go_wp2_with fail
        go_ret
        exact ⟨rfl, hs7.trans (hb8.mono hs7.size)⟩
  · have h1 : 1 ≤ s.size := by omega
    have hz : ((s.size : Int) == 0) = false := beq_eq_false_iff_ne.2 (by omega)
    have hg := dg_bytesOf s 0 (by omega)
    by_cases h2 : dg (bytesOf s) 0 = 48 ∧ 1 < s.size
    · have HF0 := Lib.hid (FormRel.start s true (by simp [h2]))
      obtain ⟨h3, h4⟩ := h2
      rw [h3] at hg
      clear h0 h3
      go_wp2
      go_loop [7, 8] (fun fv iv => ∃ (b : Bool) (i : Nat), fv = .bool b ∧ iv = .int .i64 i ∧ i ≤ s.size ∧ Hid (FormRel s b i)) (fun _ iv => s.size - (intOf iv).toNat)
      case atStart => exact ⟨true, 0, (by first | rfl | (congr 1; simp; omega)), rfl, Nat.zero_le _, HF0⟩
      case round =>
        obtain ⟨b, i, rfl, rfl, hi, HR⟩ := hrel
        by_cases hlt : i < s.size
        · cases b with
          | true =>
            have HN := Lib.hid HR.out.stay
            go_wp2
            go_round
            case rel => exact ⟨true, i + 1, rfl, by go_num, hlt, HN⟩
            case measure => simp [intOf]; omega
          | false =>
            have HN := Lib.hid (HR.out.step hlt)
            have HI := Lib.hid (fun w => refIsDigit_any s i w hlt)
            generalize decide (48 ≤ dg (bytesOf s) i ∧ dg (bytesOf s) i ≤ 57) = d at *
            go_wp2_with (go_at_call 34; refine (HI.out _).mono ?_; rintro e w2 ⟨rfl, rfl⟩)
            go_round
            case rel => exact ⟨!d, i + 1, rfl, by go_num, hlt, HN⟩
            case measure => simp [intOf]; omega
        · obtain rfl : i = s.size := by omega
          have hD := HR.out.done
          obtain rfl : b = false := by
            cases b with
            | false => rfl
            | true => exact absurd HOK.out (hD.1 rfl)
          clear hD
          go_wp2_with fail
          refine (refUndecimal_any s _ (by omega) HOK.out.1).mono ?_
          rintro e w5 ⟨p5, c5, rfl, ho5, -, -, hb5⟩
          go_wp2_with fail
          refine (long_any p5 _ c5 (numOf (bytesOf s)) _ ho5 rfl (by omega)).mono ?_
          rintro e w6 ⟨rfl, hb6⟩
          go_wp2_with fail
          refine (natBegun_any _).mono ?_
          rintro e w7 ⟨rfl, hb7⟩
          have hs5 := hb1.trans (hb5.mono hb1.size)
          have hs6 := hs5.trans (hb6.mono hs5.size)
          have hs7 := hs6.trans (hb7.mono hs6.size)
          have hr7 := ((ho1.rd.past hb5).past hb6).past hb7
          have hr5 := (ho5.past hb6).past hb7
          clear hb1 hb5 hb6 hb7 hs5 hs6
          go_wp2_with fail
          refine (natIs_any p1 p5 _ c1 _ c5 0 (numOf (bytesOf s)) _ hr7 (fun _ => ⟨hr5, rfl⟩) rfl (fun _ => by omega)).mono ?_
          rintro e w8 ⟨rfl, hb8⟩
          go_wp2_with fail
          go_ret
          exact ⟨rfl, hs7.trans (hb8.mono hs7.size)⟩
    · have HF0 := Lib.hid (FormRel.start s false (by simp only [Bool.false_eq_true, false_iff]; rintro (h | h); exact h0 h; exact h2 h))
      by_cases h3 : dg (bytesOf s) 0 = 48
      · have h4 : s.size ≤ 1 := by
          rcases Nat.lt_or_ge 1 s.size with h | h
          · exact absurd ⟨h3, h⟩ h2
          · exact h
        rw [h3] at hg
        clear h0 h2 h3
        go_wp2
        go_loop [7, 8] (fun fv iv => ∃ (b : Bool) (i : Nat), fv = .bool b ∧ iv = .int .i64 i ∧ i ≤ s.size ∧ Hid (FormRel s b i)) (fun _ iv => s.size - (intOf iv).toNat)
        case atStart => exact ⟨false, 0, (by first | rfl | (congr 1; simp; omega)), rfl, Nat.zero_le _, HF0⟩
        case round =>
          obtain ⟨b, i, rfl, rfl, hi, HR⟩ := hrel
          by_cases hlt : i < s.size
          · cases b with
            | true =>
              have HN := Lib.hid HR.out.stay
              go_wp2
              go_round
              case rel => exact ⟨true, i + 1, rfl, by go_num, hlt, HN⟩
              case measure => simp [intOf]; omega
            | false =>
              have HN := Lib.hid (HR.out.step hlt)
              have HI := Lib.hid (fun w => refIsDigit_any s i w hlt)
              generalize decide (48 ≤ dg (bytesOf s) i ∧ dg (bytesOf s) i ≤ 57) = d at *
              go_wp2_with (go_at_call 34; refine (HI.out _).mono ?_; rintro e w2 ⟨rfl, rfl⟩)
              go_round
              case rel => exact ⟨!d, i + 1, rfl, by go_num, hlt, HN⟩
              case measure => simp [intOf]; omega
          · obtain rfl : i = s.size := by omega
            have hD := HR.out.done
            obtain rfl : b = false := by
              cases b with
              | false => rfl
              | true => exact absurd HOK.out (hD.1 rfl)
            clear hD
            go_wp2_with fail
            refine (refUndecimal_any s _ (by omega) HOK.out.1).mono ?_
            rintro e w5 ⟨p5, c5, rfl, ho5, -, -, hb5⟩
            go_wp2_with fail
            refine (long_any p5 _ c5 (numOf (bytesOf s)) _ ho5 rfl (by omega)).mono ?_
            rintro e w6 ⟨rfl, hb6⟩
            go_wp2_with fail
            refine (natBegun_any _).mono ?_
            rintro e w7 ⟨rfl, hb7⟩
            have hs5 := hb1.trans (hb5.mono hb1.size)
            have hs6 := hs5.trans (hb6.mono hs5.size)
            have hs7 := hs6.trans (hb7.mono hs6.size)
            have hr7 := ((ho1.rd.past hb5).past hb6).past hb7
            have hr5 := (ho5.past hb6).past hb7
            clear hb1 hb5 hb6 hb7 hs5 hs6
            go_wp2_with fail
            refine (natIs_any p1 p5 _ c1 _ c5 0 (numOf (bytesOf s)) _ hr7 (fun _ => ⟨hr5, rfl⟩) rfl (fun _ => by omega)).mono ?_
            rintro e w8 ⟨rfl, hb8⟩
            go_wp2_with fail
            go_ret
            exact ⟨rfl, hs7.trans (hb8.mono hs7.size)⟩
      · generalize hv : dg (bytesOf s) 0 = v at hg h3
        have hvb : ((v : Int) == 48) = false := by simp; omega
        clear h0 h2 h3 hv
        go_wp2
        go_loop [7, 8] (fun fv iv => ∃ (b : Bool) (i : Nat), fv = .bool b ∧ iv = .int .i64 i ∧ i ≤ s.size ∧ Hid (FormRel s b i)) (fun _ iv => s.size - (intOf iv).toNat)
        case atStart => exact ⟨false, 0, (by first | rfl | (congr 1; simp; omega)), rfl, Nat.zero_le _, HF0⟩
        case round =>
          obtain ⟨b, i, rfl, rfl, hi, HR⟩ := hrel
          by_cases hlt : i < s.size
          · cases b with
            | true =>
              have HN := Lib.hid HR.out.stay
              go_wp2
              go_round
              case rel => exact ⟨true, i + 1, rfl, by go_num, hlt, HN⟩
              case measure => simp [intOf]; omega
            | false =>
              have HN := Lib.hid (HR.out.step hlt)
              have HI := Lib.hid (fun w => refIsDigit_any s i w hlt)
              generalize decide (48 ≤ dg (bytesOf s) i ∧ dg (bytesOf s) i ≤ 57) = d at *
              go_wp2_with (go_at_call 34; refine (HI.out _).mono ?_; rintro e w2 ⟨rfl, rfl⟩)
              go_round
              case rel => exact ⟨!d, i + 1, rfl, by go_num, hlt, HN⟩
              case measure => simp [intOf]; omega
          · obtain rfl : i = s.size := by omega
            have hD := HR.out.done
            obtain rfl : b = false := by
              cases b with
              | false => rfl
              | true => exact absurd HOK.out (hD.1 rfl)
            clear hD
            go_wp2_with fail
            refine (refUndecimal_any s _ (by omega) HOK.out.1).mono ?_
            rintro e w5 ⟨p5, c5, rfl, ho5, -, -, hb5⟩
            go_wp2_with fail
            refine (long_any p5 _ c5 (numOf (bytesOf s)) _ ho5 rfl (by omega)).mono ?_
            rintro e w6 ⟨rfl, hb6⟩
            go_wp2_with fail
            refine (natBegun_any _).mono ?_
            rintro e w7 ⟨rfl, hb7⟩
            have hs5 := hb1.trans (hb5.mono hb1.size)
            have hs6 := hs5.trans (hb6.mono hs5.size)
            have hs7 := hs6.trans (hb7.mono hs6.size)
            have hr7 := ((ho1.rd.past hb5).past hb6).past hb7
            have hr5 := (ho5.past hb6).past hb7
            clear hb1 hb5 hb6 hb7 hs5 hs6
            go_wp2_with fail
            refine (natIs_any p1 p5 _ c1 _ c5 0 (numOf (bytesOf s)) _ hr7 (fun _ => ⟨hr5, rfl⟩) rfl (fun _ => by omega)).mono ?_
            rintro e w8 ⟨rfl, hb8⟩
            go_wp2_with fail
            go_ret
            exact ⟨rfl, hs7.trans (hb8.mono hs7.size)⟩

theorem lawRead_row (s : ByteArray) (w : World) (hm : s.size ≤ maxLen) :
    Calls Try.prog 8 #[.string s] w fun e w' => e = .returned (.bool true) ∧ Below w.heap.size w w' := by
  by_cases h12 : 12000 < s.size
  · exact lawRead_many s w (by unfold maxLen at hm; omega) h12
  · by_cases hf : formOk s
    · exact lawRead_ok s w (by omega) hf
    · exact lawRead_form s w (by omega) hf

end Go.Proofs.Ytococmfcaobmhaa
