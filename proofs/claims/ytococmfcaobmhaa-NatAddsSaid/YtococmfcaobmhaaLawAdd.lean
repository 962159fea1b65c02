/- The law NatAdds: its walk. -/
import Derived.Test.YtococmfcaobmhaaLaw0
import Derived.Test.YtococmfcaobmhaaNat4
import Derived.Test.YtococmfcaobmhaaRef3
namespace Go.Proofs.Ytococmfcaobmhaa
open Go.RowKit Go.Slip

set_option maxHeartbeats 1000000 in
set_option maxRecDepth 100000 in
theorem lawAdd_any (p q : Option Addr) (n c m d : Nat) (xs ys : List Nat) (w : World) (hp : Rd w .u32 p xs) (hq : Rd w .u32 q ys) (hn : n = xs.length) (hm : m = ys.length) (hl : xs.length ≤ 9223372036854775807) (hl2 : ys.length ≤ 9223372036854775807)
    (hx : ∀ x ∈ xs, x < B32) (hy : ∀ x ∈ ys, x < B32) :
    Calls Try.prog 9 #[.slice p n c, .slice q m d] w fun e w' => e = .returned (.bool true) ∧ Below w.heap.size w w' := by
  subst hn hm
  have HM := Lib.hid (natAdd_any p q _ c _ d xs ys w hp hq rfl rfl hl hl2 hx hy)
  by_cases he : err2 xs ys = 0
  · have hxs : errNat xs = 0 := by unfold err2 at he; split at he <;> simp_all
    have hys : errNat ys = 0 := by unfold err2 at he; rw [if_pos hxs] at he; exact he
    obtain ⟨ex, lx⟩ := errNat_ok hx hxs
    obtain ⟨ey, ly⟩ := errNat_ok hy hys
    have hE := Lib.hid he
    rw [he] at HM
    have HX := Lib.hid hx
    have HY := Lib.hid hy
    have lxx := Nat.le_of_eq (dig_len_halves (val B32 xs)).symm
    have lyy := Nat.le_of_eq (dig_len_halves (val B32 ys)).symm
    rw [← ex] at lxx
    rw [← ey] at lyy
    have hlm := dig_len_add B16_two (val B32 xs) (val B32 ys)
    clear hxs hys hx hy he ex ey
    generalize hr : val B32 xs + val B32 ys = r at HM hlm
    have hR := Lib.hid hr
    clear hr
    go_enter Try.func9, Try.ntmps9
    go_wp2_with fail
    refine HM.out.mono ?_
    rintro e w1 ⟨p1, c1, rfl, ho1, hb1⟩
    have hp1 := hp.past hb1
    have hq1 := hq.past hb1
    go_wp2_with fail
    refine (refTwoNats_any p q _ c _ d xs ys _ hp1 hq1 rfl rfl hl hl2).mono ?_
    rintro e w2 ⟨rfl, rfl⟩
    rw [hE.out]
    go_wp2_with fail
    refine (refOf_any p _ c xs _ hp1 rfl HX.out (by omega)).mono ?_
    rintro e w3 ⟨p3, c3, rfl, ho3, -, -, hb3⟩
    go_wp2_with fail
    refine (refOf_any q _ d ys _ (hq1.past hb3) rfl HY.out (by omega)).mono ?_
    rintro e w4 ⟨p4, c4, rfl, ho4, -, -, hb4⟩
    go_wp2_with fail
    refine (refPlus_any p3 p4 _ _ c3 c4 _ _ _ (ho3.past hb4) ho4 rfl rfl (by omega)).mono ?_
    rw [hR.out]
    rintro e w5 ⟨p5, c5, rfl, ho5, -, -, hb5⟩
    go_wp2_with fail
    refine (long_any p5 _ c5 r _ ho5 rfl (by omega)).mono ?_
    rintro e w6 ⟨rfl, hb6⟩
    go_wp2_with fail
    refine (natBegun_any _).mono ?_
    rintro e w7 ⟨rfl, hb7⟩
    have hs3 := hb1.trans (hb3.mono hb1.size)
    have hs4 := hs3.trans (hb4.mono hs3.size)
    have hs5 := hs4.trans (hb5.mono hs4.size)
    have hs6 := hs5.trans (hb6.mono hs5.size)
    have hs7 := hs6.trans (hb7.mono hs6.size)
    have hr7 := ((((ho1.rd.past hb3).past hb4).past hb5).past hb6).past hb7
    have hr5 := (ho5.past hb6).past hb7
    clear hb1 hb3 hb4 hb5 hb6 hb7 hs3 hs4 hs5 hs6
    go_wp2_with fail
    refine (natIs_any p1 p5 _ c1 _ c5 0 r _ hr7 (fun _ => ⟨hr5, rfl⟩) rfl (fun _ => by omega)).mono ?_
    rintro e w8 ⟨rfl, hb8⟩
    go_wp2_with fail
    go_ret
    exact ⟨rfl, hs7.trans (hb8.mono hs7.size)⟩
  · have h1 : natE (err2 xs ys) (val B32 xs + val B32 ys) = err2 xs ys := by unfold natE; rw [if_neg he]
    have h2 : natL (err2 xs ys) (val B32 xs + val B32 ys) = [] := by unfold natL; rw [h1, if_neg he]
    rw [h1, h2] at HM
    have hb : (err2 xs ys == 0) = false := by simpa using he
    have hE := Lib.hid he
    clear h1 h2 he
    go_enter Try.func9, Try.ntmps9
    go_wp2_with fail
    refine HM.out.mono ?_
    rintro e w1 ⟨p1, c1, rfl, ho1, hb1⟩
    have hp1 := hp.past hb1
    have hq1 := hq.past hb1
    go_wp2_with fail
    refine (refTwoNats_any p q _ c _ d xs ys _ hp1 hq1 rfl rfl hl hl2).mono ?_
    rintro e w2 ⟨rfl, rfl⟩
    go_wp2_with fail
    refine (natBegun_any _).mono ?_
    rintro e w7 ⟨rfl, hb7⟩
    go_wp2_with fail
    refine (natIs_err p1 none c1 0 0 _ _ hE.out).mono ?_
    rintro e w8 ⟨rfl, hb8⟩
    go_wp2_with fail
    go_ret
    have hs7 := hb1.trans (hb7.mono hb1.size)
    exact ⟨rfl, hs7.trans (hb8.mono hs7.size)⟩


/-- In the row's order of things. -/
theorem lawAdd_row (p : Option Addr) (n c : Nat) (xs : List Nat) (q : Option Addr) (m d : Nat) (ys : List Nat) (w : World)
    (hp : Rd w .u32 p xs) (hn : n = xs.length) (hl : xs.length ≤ 9223372036854775807) (hx : ∀ x ∈ xs, x < B32)
    (hq : Rd w .u32 q ys) (hm : m = ys.length) (hl2 : ys.length ≤ 9223372036854775807) (hy : ∀ x ∈ ys, x < B32) :
    Calls Try.prog 9 #[.slice p n c, .slice q m d] w fun e w' => e = .returned (.bool true) ∧ Below w.heap.size w w' :=
  lawAdd_any p q n c m d xs ys w hp hq hn hm hl hl2 hx hy

end Go.Proofs.Ytococmfcaobmhaa
