/- Package nat: what is wrong with numbers; what came, if it is not too long. -/
import Derived.Test.YtlegnbigddhmlaaZC
import Derived.Test.YtlegnbigddhmlaaZRef1
import Derived.Deep.LoopGhost
namespace Go.Proofs.Ytlegnbigddhmlaa
open Go.RowKit Go.Slip

/-- The first thing that is wrong. -/
def firstErr : List (List Nat) → Int
  | [] => 0
  | x :: xs => if errNat x = 0 then firstErr xs else errNat x


set_option maxHeartbeats 1000000 in
set_option maxRecDepth 100000 in
theorem natCheck_any (g c : Nat) (L : List (Option Addr × Nat × List Nat)) (w : World) (hc : ∀ j (h : j < L.length), w.cell? ⟨g, j, none⟩ = some (.slice L[j].1 L[j].2.2.length L[j].2.1))
    (hr : ∀ j (h : j < L.length), Rd w .u32 L[j].1 L[j].2.2 ∧ L[j].2.2.length ≤ 9223372036854775807) (n : Nat) (hn : n = L.length) (hl : L.length ≤ 1000000) :
    Calls Try.prog 26 #[.slice (some ⟨g, 0, none⟩) n c] w fun e w' => e = .returned (.int .i64 (firstErr (L.map (·.2.2)))) ∧ w = w' := by
  subst hn
  have HC := Lib.hid hc
  have HR := Lib.hid hr
  clear hc hr
  go_enter Try.func26, Try.ntmps26
  go_wp2
  go_loopg [7] L.length (fun gk iv wr => ∃ (i : Nat), iv = .int .i64 i ∧ gk + i = L.length ∧ wr = w ∧ Hid (firstErr (L.map (·.2.2)) = firstErr ((L.drop i).map (·.2.2))))
  case atStart => exact ⟨0, rfl, rfl, rfl, rfl⟩
  case round =>
    obtain ⟨i, rfl, hg, rfl, HF⟩ := hrel
    by_cases hlt : i < L.length
    · obtain ⟨p, cc, xs, hL⟩ : ∃ p cc xs, L[i] = (p, cc, xs) := ⟨_, _, _, rfl⟩
      have hcell := HC.out i hlt
      obtain ⟨hx, hxl⟩ := HR.out i hlt
      have hF := HF.out
      rw [List.drop_eq_getElem_cons hlt, List.map_cons, hL] at hF
      rw [hL] at hcell hx hxl
      simp only [firstErr] at hcell hx hxl hF
      clear hL
      have hs := hx.solid
      have hgi : 0 < gk := by omega
      by_cases h1 : 0 < xs.length
      · have hcx := hx.cells (xs.length - 1) (by omega)
        have t1 : (0 : Int) < (xs.length : Int) := by omega
        by_cases h2 : dg xs (xs.length - 1) = 0
        · rw [h2] at hcx
          have he : errNat xs = 1 := by unfold errNat; rw [if_pos ⟨h1, h2⟩]
          rw [he] at hF
          have H := Lib.hid hF
          clear h2 he hF
          go_wp2
          go_ret
          exact ⟨ret_int (by rw [H.out]; simp), rfl⟩
        · have h3 : 0 < dg xs (xs.length - 1) := by omega
          have he : errNat xs = if 1200 < xs.length then 2 else 0 := by unfold errNat; rw [if_neg (fun h => h2 h.2)]
          clear h2
          by_cases h4 : 1200 < xs.length
          · rw [he, if_pos h4] at hF
            have H := Lib.hid hF
            clear hF he
            go_wp2
            go_ret
            exact ⟨ret_int (by rw [H.out]; simp), rfl⟩
          · rw [he, if_neg h4] at hF
            have H := Lib.hid hF
            clear hF he
            go_wp2
            go_roundg (gk - 1)
            case measure => omega
            case rel => exact ⟨i + 1, by go_num, by omega, rfl, by show firstErr _ = _; rw [H.out]; simp⟩
      · obtain rfl : xs = [] := List.eq_nil_of_length_eq_zero (by omega)
        have he : errNat [] = 0 := by simp [errNat]
        rw [he] at hF
        have H := Lib.hid hF
        clear hF he
        go_wp2
        go_roundg (gk - 1)
        case measure => omega
        case rel => exact ⟨i + 1, by go_num, by omega, rfl, by show firstErr _ = _; rw [H.out]; simp⟩
    · have H : Hid (firstErr (L.map (·.2.2)) = 0) := by
        have := HF.out
        rw [List.drop_of_length_le (by omega)] at this
        exact this
      go_wp2
      go_ret
      exact ⟨ret_int H.out.symm, rfl⟩


theorem firstErr_one (xs : List Nat) : firstErr [xs] = errNat xs := by
  simp only [firstErr]; split <;> simp_all
theorem firstErr_two (xs ys : List Nat) : firstErr [xs, ys] = err2 xs ys := by
  simp only [firstErr, err2]; split <;> (try split) <;> simp_all

set_option maxHeartbeats 400000 in
theorem check1_new (p : Option Addr) (c n : Nat) (xs : List Nat) (w : World) (hx : Rd w .u32 p xs) (hn : n = xs.length) (hl : xs.length ≤ 9223372036854775807) :
    Calls Try.prog 26 #[.slice (some ⟨w.heap.size, 0, none⟩) 1 1] (w.alloc (.cells #[.slice p n c] 23)) fun e w' => e = .returned (.int .i64 (errNat xs)) ∧ w.alloc (.cells #[.slice p n c] 23) = w' := by
  subst hn
  rw [← firstErr_one]
  refine natCheck_any w.heap.size 1 [(p, c, xs)] _ ?_ ?_ 1 rfl (by simp)
  · intro j h
    obtain rfl : j = 0 := by simp at h; omega
    simp
  · intro j h
    obtain rfl : j = 0 := by simp at h; omega
    exact ⟨hx.laid _, hl⟩

set_option maxHeartbeats 400000 in
theorem check2_new (p q : Option Addr) (c n d m : Nat) (xs ys : List Nat) (w : World) (hx : Rd w .u32 p xs) (hy : Rd w .u32 q ys) (hn : n = xs.length) (hm : m = ys.length) (hl : xs.length ≤ 9223372036854775807) (hl2 : ys.length ≤ 9223372036854775807) :
    Calls Try.prog 26 #[.slice (some ⟨w.heap.size, 0, none⟩) 2 2] (w.alloc (.cells #[.slice p n c, .slice q m d] 23)) fun e w' =>
      e = .returned (.int .i64 (err2 xs ys)) ∧ w.alloc (.cells #[.slice p n c, .slice q m d] 23) = w' := by
  subst hn hm
  rw [← firstErr_two]
  refine natCheck_any w.heap.size 2 [(p, c, xs), (q, d, ys)] _ ?_ ?_ 2 rfl (by simp)
  · intro j h
    match j, h with
    | 0, _ => simp
    | 1, _ => simp
  · intro j h
    match j, h with
    | 0, _ => exact ⟨hx.laid _, hl⟩
    | 1, _ => exact ⟨hy.laid _, hl2⟩

/-- What a call answers that makes a number, or tells why not. -/
def natE (e : Int) (r : Nat) : Int := if e = 0 then (if 1200 < (dig B32 r).length then 2 else 0) else e
def natL (e : Int) (r : Nat) : List Nat := if natE e r = 0 then dig B32 r else []

/-- Such an answer: the digits in a row of the call's own, and the errno. -/
def GivesE (w : World) (xs : List Nat) (er : Int) (en : Ending) (w' : World) : Prop :=
  ∃ p c, en = .returned (.tuple #[.slice p xs.length c, .int .i64 er]) ∧ Own w' w.heap.size .u32 26 p c xs ∧ Below w.heap.size w w'

theorem natDone_any (p : Option Addr) (n c : Nat) (w : World) (base : Nat) (r : Nat) (ho : Own w base .u32 26 p c (dig B32 r)) (hn : n = (dig B32 r).length) (hl : (dig B32 r).length ≤ 4000000000) :
    Calls Try.prog 29 #[.slice p n c] w fun e w' => (∃ p' c', e = .returned (.tuple #[.slice p' (natL 0 r).length c', .int .i64 (natE 0 r)]) ∧ Own w base .u32 26 p' c' (natL 0 r)) ∧ w = w' := by
  subst hn
  by_cases h : 1200 < (dig B32 r).length
  · have h1 : natE 0 r = 2 := by unfold natE; rw [if_pos rfl, if_pos h]
    have h2 : natL 0 r = [] := by unfold natL; rw [h1]; simp
    rw [h1, h2]
    clear h1 h2
    go_enter Try.func29, Try.ntmps29
    go_wp2
    go_ret2
    exact ⟨⟨none, 0, rfl, Own.nil _ _ _ _⟩, rfl⟩
  · have h1 : natE 0 r = 0 := by unfold natE; rw [if_pos rfl, if_neg h]
    have h2 : natL 0 r = dig B32 r := by unfold natL; rw [h1]; simp
    rw [h1, h2]
    clear h1 h2
    go_enter Try.func29, Try.ntmps29
    go_wp2
    go_ret2
    exact ⟨⟨p, c, rfl, ho⟩, rfl⟩

end Go.Proofs.Ytlegnbigddhmlaa
