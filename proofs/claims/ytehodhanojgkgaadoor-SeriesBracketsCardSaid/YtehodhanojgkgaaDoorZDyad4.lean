/- dyad: check. -/
import Derived.Test.YtehodhanojgkgaaDoorZE
import Derived.Test.YtehodhanojgkgaaDoorZNat4
import Derived.Deep.LoopGhost
namespace Go.Proofs.YtehodhanojgkgaaDoor
open Go.RowKit Go.Slip

/-- A dyad as it came: its sign, its digits' place, capacity and list, its exponent. -/
structure Din where
  g : Bool
  p : Option Addr
  c : Nat
  xs : List Nat
  e : Int

def errDy (d : Din) : Int := if errNat d.xs = 0 then (if d.e < -20000 ∨ 20000 < d.e then 3 else 0) else errNat d.xs

def firstErrD : List Din → Int
  | [] => 0
  | x :: xs => if errDy x = 0 then firstErrD xs else errDy x

set_option maxHeartbeats 2000000 in
set_option maxRecDepth 100000 in
theorem dyCheck_any (g c : Nat) (L : List Din) (w : World)
    (hc : ∀ j (h : j < L.length), w.cell? ⟨g, j * 3, none⟩ = some (.bool L[j].g) ∧ w.cell? ⟨g, j * 3 + 1, none⟩ = some (.slice L[j].p L[j].xs.length L[j].c) ∧ w.cell? ⟨g, j * 3 + 2, none⟩ = some (.int .i64 L[j].e))
    (hr : ∀ j (h : j < L.length), Rd w .u32 L[j].p L[j].xs ∧ L[j].xs.length ≤ 9223372036854775807) (hg : g < w.heap.size) (n : Nat) (hn : n = L.length) (hl : L.length ≤ 1000000) :
    Calls Tryd.prog 89 #[.slice (some ⟨g, 0, none⟩) n c] w fun e w' => e = .returned (.int .i64 (firstErrD L)) ∧ Below w.heap.size w w' := by
  subst hn
  have HC := Lib.hid hc
  have HR := Lib.hid hr
  clear hc hr
  go_enter Tryd.func89, Tryd.ntmps89
  go_wp2
  go_loopg [8] L.length (fun gk iv wr => ∃ (i : Nat), iv = .int .i64 i ∧ gk + i = L.length ∧ Below w.heap.size w wr ∧ Hid (firstErrD L = firstErrD (L.drop i)))
  case atStart => exact ⟨0, rfl, rfl, Below.refl _ _, rfl⟩
  case round =>
    obtain ⟨i, rfl, hgk, hb, HF⟩ := hrel
    by_cases hlt : i < L.length
    · obtain ⟨gs, p, cc, xs, ex, hL⟩ : ∃ gs p cc xs ex, L[i] = ⟨gs, p, cc, xs, ex⟩ := ⟨_, _, _, _, _, rfl⟩
      obtain ⟨k0, k1, k2⟩ := HC.out i hlt
      obtain ⟨hx, hxl⟩ := HR.out i hlt
      have hF := HF.out
      rw [List.drop_eq_getElem_cons hlt, hL] at hF
      rw [hL] at k0 k1 k2 hx hxl
      simp only at k0 k1 k2 hx hxl
      rw [← Below.cell hb hg] at k0 k1 k2
      have hx1 := hx.past hb
      have HFF := Lib.hid hF
      have hgi : 0 < gk := by omega
      clear hL hF
      go_wp2_with fail
      ((with_reducible refine (natCheck1_any p _ cc xs _ (hx1.laid _) rfl hxl).mono ?_))
      rintro e2 w2 ⟨rfl, hb2⟩
      have B2 := (box3_new wr (.bool gs) (.slice p xs.length cc) (.int .i64 ex) 25).past hb2
      have hs2 := (hb.alloc hb.size (.cells #[.bool gs, .slice p xs.length cc, .int .i64 ex] 25)).trans (hb2.mono (by have := hb.size; simp; omega))
      have d2 := B2.c2
      clear hb2 k0 k1 k2
      by_cases he : errNat xs = 0
      · have hz : (errNat xs == 0) = true := by simpa using he
        have hz2 : (errNat xs != 0) = false := by simpa using he
        by_cases hr : ex < -20000 ∨ 20000 < ex
        · have HE : Hid (firstErrD L = 3) := by
            have := HFF.out
            simp only [firstErrD, errDy, he, if_true, if_pos hr] at this
            show firstErrD L = 3
            simpa using this
          rw [he]
          clear he hz hz2
          rcases hr with hr | hr
          · go_wp2
            go_ret
            exact ⟨ret_int HE.out.symm, hs2⟩
          · have h3 : ¬ ex < -20000 := by omega
            go_wp2
            go_ret
            exact ⟨ret_int HE.out.symm, hs2⟩
        · have HE : Hid (firstErrD L = firstErrD (L.drop (i + 1))) := by
            have := HFF.out
            simp only [firstErrD, errDy, he, if_true, if_neg hr] at this
            exact this
          have h3 : ¬ ex < -20000 := by omega
          have h4 : ¬ 20000 < ex := by omega
          rw [he]
          clear he hz hz2 hr
          go_wp2
          go_roundg (gk - 1)
          case measure => omega
          case rel => exact ⟨i + 1, by go_num, by omega, hs2, HE⟩
      · have hz : (errNat xs == 0) = false := by simpa using he
        have hz2 : (errNat xs != 0) = true := by simpa using he
        have HE : Hid (firstErrD L = errNat xs) := by
          have := HFF.out
          simp only [firstErrD, errDy, if_neg he] at this
          exact this
        clear he
        go_wp2
        go_ret
        exact ⟨ret_int HE.out.symm, hs2⟩
    · have H : Hid (firstErrD L = 0) := by
        have := HF.out
        rw [List.drop_of_length_le (by omega)] at this
        exact this
      go_wp2
      go_ret
      exact ⟨ret_int H.out.symm, hb⟩

theorem firstErrD_one (d : Din) : firstErrD [d] = errDy d := by simp only [firstErrD]; split <;> simp_all

/-- What is wrong with two. -/
def errDy2 (a b : Din) : Int := if errDy a = 0 then errDy b else errDy a
theorem dyCheck1_new (d : Din) (w : World) (bk : Nat) (hbk : bk = w.heap.size) (hx : Rd w .u32 d.p d.xs) (hl : d.xs.length ≤ 9223372036854775807) :
    Calls Tryd.prog 89 #[.slice (some ⟨bk, 0, none⟩) 1 1] (w.alloc (.cells #[.bool d.g, .slice d.p d.xs.length d.c, .int .i64 d.e] 25)) fun e w' =>
      e = .returned (.int .i64 (errDy d)) ∧ Below (w.heap.size + 1) (w.alloc (.cells #[.bool d.g, .slice d.p d.xs.length d.c, .int .i64 d.e] 25)) w' := by
  subst hbk
  rw [← firstErrD_one]
  have h := dyCheck_any w.heap.size 1 [d] (w.alloc (.cells #[.bool d.g, .slice d.p d.xs.length d.c, .int .i64 d.e] 25)) (fun j h => by
    obtain rfl : j = 0 := by simp at h; omega
    simp [go_sem]) (fun j h => by
    obtain rfl : j = 0 := by simp at h; omega
    exact ⟨hx.laid _, hl⟩) (by simp) 1 rfl (by simp)
  simpa using h

set_option maxHeartbeats 400000 in
theorem dyCheckOne_any (d : Din) (w : World) (hx : Rd w .u32 d.p d.xs) (hl : d.xs.length ≤ 9223372036854775807) :
    Calls Tryd.prog 70 #[.agg #[.bool d.g, .slice d.p d.xs.length d.c, .int .i64 d.e]] w fun e w' => e = .returned (.int .i64 (errDy d)) ∧ Below w.heap.size w w' := by
  have hs1 : Below w.heap.size w (w.alloc (.cells #[.bool d.g, .slice d.p d.xs.length d.c, .int .i64 d.e] 25)) := (Below.refl _ _).alloc (Nat.le_refl _) _
  go_enter Tryd.func70, Tryd.ntmps70
  go_wp2_with fail
  ((with_reducible refine (dyCheck1_new d _ _ (by simp) (hx.laid _) hl).mono ?_))
  rintro e2 w2 ⟨rfl, hb2⟩
  go_wp2_with fail
  go_ret
  exact ⟨rfl, (hs1.trans (((Below.refl _ _).alloc (Nat.le_refl _) _).mono (by simp))).trans (hb2.mono (by simp; omega))⟩

end Go.Proofs.YtehodhanojgkgaaDoor
