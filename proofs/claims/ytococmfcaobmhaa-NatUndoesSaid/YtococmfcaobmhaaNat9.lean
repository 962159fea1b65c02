/- nat.Read. -/
import Derived.Test.YtococmfcaobmhaaNat6
import Derived.Test.YtococmfcaobmhaaLimb9
import Derived.Laws.RangeAny
namespace Go.Proofs.Ytococmfcaobmhaa
open Go.RowKit Go.Slip

def formOk (s : ByteArray) : Prop := AllDig s ∧ s.size ≠ 0 ∧ ¬ (dg (bytesOf s) 0 = 48 ∧ 1 < s.size)

open Classical in
/-- What is wrong with a text that is read. -/
noncomputable def errRead (s : ByteArray) : Int := if 12000 < s.size then 2 else if formOk s then 0 else 1

theorem errRead_many {s : ByteArray} (h : 12000 < s.size) : errRead s = 2 := by unfold errRead; rw [if_pos h]
theorem errRead_form {s : ByteArray} (h : ¬ 12000 < s.size) (hf : ¬ formOk s) : errRead s = 1 := by unfold errRead; rw [if_neg h, if_neg hf]
theorem errRead_ok {s : ByteArray} (h : ¬ 12000 < s.size) (hf : formOk s) : errRead s = 0 := by unfold errRead; rw [if_neg h, if_pos hf]

theorem givesE_err {w w' : World} {e : Int} {r : Nat} (he : e ≠ 0) (hb : Below w.heap.size w w') : GivesE w (natL e r) (natE e r) (.returned (.tuple #[.slice none 0 0, .int .i64 e])) w' := by
  have h1 : natE e r = e := by unfold natE; rw [if_neg he]
  have h2 : natL e r = [] := by unfold natL; rw [h1, if_neg he]
  rw [h1, h2]
  exact ⟨none, 0, rfl, Own.nil _ _ _ _, hb⟩

theorem below_iter (w : World) (s : ByteArray) (pos : Nat) : Below w.heap.size w (w.iter s pos) := (Below.refl _ _).alloc (Nat.le_refl _) _

theorem isEmpty_size (s : ByteArray) : s.toList.isEmpty = decide (s.size = 0) := by
  rw [ByteArray.toList_eq]
  have h : s.size = s.data.toList.length := by rw [Array.length_toList]; rfl
  rw [h]
  cases s.data.toList <;> simp


set_option maxHeartbeats 1000000 in
theorem natRead_short (s : ByteArray) (w : World) (hs : s.size ≤ 12000) :
    Calls Try.prog 33 #[.string s] w (GivesE w (natL (errRead s) (numOf (bytesOf s))) (natE (errRead s) (numOf (bytesOf s)))) := by
  have HF := Lib.hid (fun hf => errRead_form (s := s) (by omega) hf)
  have HO := Lib.hid (fun hf => errRead_ok (s := s) (by omega) hf)
  go_enter Try.func33, Try.ntmps33
  go_wp2
  go_loopw [5] (fun _ wr => ∃ (pos : Nat), wr = w.iter s pos ∧ pos ≤ s.size ∧ Hid (∀ j, j < pos → 48 ≤ dg (bytesOf s) j ∧ dg (bytesOf s) j ≤ 57)) (fun _ wr => s.size - wr.iterPos w.heap.size)
  case atStart => exact ⟨0, rfl, Nat.zero_le _, fun j hj => by omega⟩
  case round =>
    obtain ⟨pos, rfl, hpos, HD⟩ := hrel
    have hbl := below_iter w s
    by_cases hp : pos < s.size
    · have hg := dg_bytesOf s pos hp
      by_cases hv : 48 ≤ dg (bytesOf s) pos ∧ dg (bytesOf s) pos ≤ 57
      · obtain ⟨hv1, hv2⟩ := hv
        have HN : Hid (∀ j, j < pos + 1 → 48 ≤ dg (bytesOf s) j ∧ dg (bytesOf s) j ≤ 57) := fun j hj => by
          by_cases hjp : j = pos
          · subst hjp; exact ⟨hv1, hv2⟩
          · exact HD.out j (by omega)
        have hnx : ∀ ty, (Instr.next (.pointer (some ⟨w.heap.size, 0, none⟩)) true ty).run Try.prog (w.iter s pos) = _ := fun ty => run_next_ascii w s pos ty hp (by rw [hg]; omega)
        rw [hg] at hnx
        generalize dg (bytesOf s) pos = v at *
        clear hg
        go_wp2
        go_roundw
        case rel => exact ⟨pos + 1, rfl, hp, HN⟩
        case measure => simp; omega
      · have HE := Lib.hid (HF.out (fun h => hv (h.1 pos hp)))
        have hr : ∃ x : Nat, (x < 48 ∨ 57 < x) ∧ x ≤ 2147483647 ∧ (Utf8.decode s pos).1 = x := by
          by_cases ha : (s[pos]'hp).toNat < 128
          · rw [decode_ascii s pos hp ha]
            exact ⟨_, by rw [hg]; omega, by omega, rfl⟩
          · exact ⟨_, .inr (by have := (decode_high s pos hp (by omega)).1; omega), decode_le s pos, rfl⟩
        obtain ⟨x, hx, hx2, hxe⟩ := hr
        have hnx : ∀ ty, (Instr.next (.pointer (some ⟨w.heap.size, 0, none⟩)) true ty).run Try.prog (w.iter s pos) = _ := fun ty => run_next_any w s pos ty hp
        rw [hxe] at hnx
        clear hxe hv hg
        rcases hx with hx | hx
        · go_wp2
          go_ret2
          rw [HE.out]
          exact givesE_err (by omega) (hbl _)
        · go_wp2
          go_ret2
          rw [HE.out]
          exact givesE_err (by omega) (hbl _)
    · have hnx : ∀ ty, (Instr.next (.pointer (some ⟨w.heap.size, 0, none⟩)) true ty).run Try.prog (w.iter s pos) = _ := fun ty => run_next_end w s pos ty hp
      obtain rfl : pos = s.size := by omega
      have HA : Hid (AllDig s) := HD.out
      have hie : s.toList.isEmpty = decide (s.size = 0) := isEmpty_size s
      by_cases h0 : s.size = 0
      · have HE := Lib.hid (HF.out (fun h => h.2.1 h0))
        have h1 : s.size ≤ 0 := by omega
        rw [decide_eq_true h0] at hie
        clear h0
        go_wp2
        go_ret2
        rw [HE.out]
        exact givesE_err (by omega) (hbl _)
      · rw [decide_eq_false h0] at hie
        have h1 : 1 ≤ s.size := by omega
        have hg := dg_bytesOf s 0 (by omega)
        by_cases h2 : dg (bytesOf s) 0 = 48 ∧ 1 < s.size
        · have HE := Lib.hid (HF.out (fun h => h.2.2 h2))
          obtain ⟨h3, h4⟩ := h2
          rw [h3] at hg
          clear h0 h3
          go_wp2
          go_ret2
          rw [HE.out]
          exact givesE_err (by omega) (hbl _)
        · have HE := Lib.hid (HO.out ⟨HA.out, h0, h2⟩)
          have hl : (dig B32 (numOf (bytesOf s))).length ≤ 12000 := by
            refine Nat.le_trans ?_ hs
            rw [dig_len_le B32_two]
            have h3 := numOf_lt (bytesOf s) (fun j hj => (HA.out j (by rw [← bytesOf_length]; exact hj)).2)
            rw [bytesOf_length] at h3
            exact Nat.lt_of_lt_of_le h3 (Nat.pow_le_pow_left (by unfold B32; omega) _)
          by_cases h3 : dg (bytesOf s) 0 = 48
          · have h4 : s.size ≤ 1 := by
              rcases Nat.lt_or_ge 1 s.size with h | h
              · exact absurd ⟨h3, h⟩ h2
              · exact h
            rw [h3] at hg
            clear h0 h2 h3
            go_wp2_with fail
            refine (parse_any s _ (by omega) HA.out).mono ?_
            rintro e w2 ⟨p2, c2, rfl, ho2, hb2⟩
            go_wp2_with fail
            refine (natDone_any p2 _ c2 w2 _ _ ho2 rfl (by omega)).mono ?_
            rintro e w3 ⟨⟨p3, c3, rfl, ho3⟩, rfl⟩
            go_wp2_with fail
            go_ret2
            have hb3 := (hbl s.size).trans (hb2.mono (hbl s.size).size)
            rw [HE.out]
            exact ⟨p3, c3, rfl, ho3.mono (hbl s.size).size, hb3⟩
          · have h4 : ¬ (dg (bytesOf s) 0 = 48) := h3
            generalize hv : dg (bytesOf s) 0 = v at hg h4
            have hvb : ((v : Int) == 48) = false := by simp; omega
            clear h0 h2 h3 h4 hv
            go_wp2_with fail
            refine (parse_any s _ (by omega) HA.out).mono ?_
            rintro e w2 ⟨p2, c2, rfl, ho2, hb2⟩
            go_wp2_with fail
            refine (natDone_any p2 _ c2 w2 _ _ ho2 rfl (by omega)).mono ?_
            rintro e w3 ⟨⟨p3, c3, rfl, ho3⟩, rfl⟩
            go_wp2_with fail
            go_ret2
            have hb3 := (hbl s.size).trans (hb2.mono (hbl s.size).size)
            rw [HE.out]
            exact ⟨p3, c3, rfl, ho3.mono (hbl s.size).size, hb3⟩


theorem natRead_any (s : ByteArray) (w : World) :
    Calls Try.prog 33 #[.string s] w (GivesE w (natL (errRead s) (numOf (bytesOf s))) (natE (errRead s) (numOf (bytesOf s)))) := by
  by_cases hs : s.size ≤ 12000
  · exact natRead_short s w hs
  · rw [errRead_many (by omega)]
    go_enter Try.func33, Try.ntmps33
    go_wp2
    go_ret2
    exact givesE_err (by omega) (Below.refl _ _)

end Go.Proofs.Ytococmfcaobmhaa
