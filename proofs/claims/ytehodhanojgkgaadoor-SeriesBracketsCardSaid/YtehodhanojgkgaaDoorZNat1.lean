/- Package nat: what is wrong with numbers; what came, if it is not too long. -/
import Derived.Test.YtehodhanojgkgaaDoorZC
import Derived.Test.YtehodhanojgkgaaDoorZR
import Derived.Deep.LoopGhost
namespace Go.Proofs.YtehodhanojgkgaaDoor
open Go.RowKit Go.Slip

/-- The first thing that is wrong. -/
def firstErr : List (List Nat) → Int
  | [] => 0
  | x :: xs => if errNat x = 0 then firstErr xs else errNat x

set_option maxHeartbeats 1000000 in
set_option maxRecDepth 100000 in
theorem natCheck_any (g c : Nat) (L : List (Option Addr × Nat × List Nat)) (w : World) (hc : ∀ j (h : j < L.length), w.cell? ⟨g, j, none⟩ = some (.slice L[j].1 L[j].2.2.length L[j].2.1))
    (hr : ∀ j (h : j < L.length), Rd w .u32 L[j].1 L[j].2.2 ∧ L[j].2.2.length ≤ 9223372036854775807) (n : Nat) (hn : n = L.length) (hl : L.length ≤ 1000000) :
    Calls Tryd.prog 105 #[.slice (some ⟨g, 0, none⟩) n c] w fun e w' => e = .returned (.int .i64 (firstErr (L.map (·.2.2)))) ∧ w = w' := by
  subst hn
  have HC := Lib.hid hc
  have HR := Lib.hid hr
  clear hc hr
  go_enter Tryd.func105, Tryd.ntmps105
  go_wp2
  go_loopg [7] L.length (fun gk iv wr => ∃ (i : Nat), iv = .int .i64 i ∧ gk + i = L.length ∧ wr = w ∧ Hid (firstErr (L.map (·.2.2)) = firstErr ((L.drop i).map (·.2.2))))
  case atStart => exact ⟨0, rfl, rfl, rfl, rfl⟩
  case round =>
    obtain ⟨i, rfl, hg, rfl, HF⟩ := hrel
    by_cases hlt : i < L.length
    · obtain ⟨p, cc, xs, hL⟩ : ∃ p cc xs, L[i] = (p, cc, xs) := ⟨_, _, _, rfl⟩
      have hcell := HC.out i hlt
      obtain ⟨hx, hxl⟩ := HR.out i hlt
      have hF := HF.out
      rw [List.drop_eq_getElem_cons hlt, List.map_cons, hL] at hF
      rw [hL] at hcell hx hxl
      simp only [firstErr] at hcell hx hxl hF
      clear hL
      have hs := hx.solid
      have hgi : 0 < gk := by omega
      by_cases h1 : 0 < xs.length
      · have hcx := hx.cells (xs.length - 1) (by omega)
        have t1 : (0 : Int) < (xs.length : Int) := by omega
        by_cases h2 : dg xs (xs.length - 1) = 0
        · rw [h2] at hcx
          have he : errNat xs = 1 := by unfold errNat; rw [if_pos ⟨h1, h2⟩]
          rw [he] at hF
          have H := Lib.hid hF
          clear h2 he hF
          go_wp2
          go_ret
          exact ⟨ret_int (by rw [H.out]; simp), rfl⟩
        · have h3 : 0 < dg xs (xs.length - 1) := by omega
          have he : errNat xs = if 1200 < xs.length then 2 else 0 := by unfold errNat; rw [if_neg (fun h => h2 h.2)]
          clear h2
          by_cases h4 : 1200 < xs.length
          · rw [he, if_pos h4] at hF
            have H := Lib.hid hF
            clear hF he
            go_wp2
            go_ret
            exact ⟨ret_int (by rw [H.out]; simp), rfl⟩
          · rw [he, if_neg h4] at hF
            have H := Lib.hid hF
            clear hF he
            go_wp2
            go_roundg (gk - 1)
            case measure => omega
            case rel => exact ⟨i + 1, by go_num, by omega, rfl, by show firstErr _ = _; rw [H.out]; simp⟩
      · obtain rfl : xs = [] := List.eq_nil_of_length_eq_zero (by omega)
        have he : errNat [] = 0 := by simp [errNat]
        rw [he] at hF
        have H := Lib.hid hF
        clear hF he
        go_wp2
        go_roundg (gk - 1)
        case measure => omega
        case rel => exact ⟨i + 1, by go_num, by omega, rfl, by show firstErr _ = _; rw [H.out]; simp⟩
    · have H : Hid (firstErr (L.map (·.2.2)) = 0) := by
        have := HF.out
        rw [List.drop_of_length_le (by omega)] at this
        exact this
      go_wp2
      go_ret
      exact ⟨ret_int H.out.symm, rfl⟩

theorem firstErr_one (xs : List Nat) : firstErr [xs] = errNat xs := by
  simp only [firstErr]; split <;> simp_all
set_option maxHeartbeats 400000 in
theorem check1_new (p : Option Addr) (c n : Nat) (xs : List Nat) (w : World) (hx : Rd w .u32 p xs) (hn : n = xs.length) (hl : xs.length ≤ 9223372036854775807) :
    Calls Tryd.prog 105 #[.slice (some ⟨w.heap.size, 0, none⟩) 1 1] (w.alloc (.cells #[.slice p n c] 23)) fun e w' => e = .returned (.int .i64 (errNat xs)) ∧ w.alloc (.cells #[.slice p n c] 23) = w' := by
  subst hn
  rw [← firstErr_one]
  refine natCheck_any w.heap.size 1 [(p, c, xs)] _ ?_ ?_ 1 rfl (by simp)
  · intro j h
    obtain rfl : j = 0 := by simp at h; omega
    simp
  · intro j h
    obtain rfl : j = 0 := by simp at h; omega
    exact ⟨hx.laid _, hl⟩

end Go.Proofs.YtehodhanojgkgaaDoor
