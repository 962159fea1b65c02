/- The law NatPrints: its walk. -/
import Derived.Test.YtococmfcaobmhaaLaw0
import Derived.Test.YtococmfcaobmhaaRef8
namespace Go.Proofs.Ytococmfcaobmhaa
open Go.RowKit Go.Slip

set_option maxHeartbeats 1000000 in
theorem lawPrn_row (p : Option Addr) (n c : Nat) (xs : List Nat) (w : World)
    (hp : Rd w .u32 p xs) (hn : n = xs.length) (hl : xs.length ≤ 9223372036854775807) (hx : ∀ x ∈ xs, x < B32) :
    Calls Try.prog 4 #[.slice p n c] w fun e w' => e = .returned (.bool true) ∧ Below w.heap.size w w' := by
  subst hn
  have HM := Lib.hid (natPrint_any p _ c xs w hp rfl hl hx)
  by_cases he : errNat xs = 0
  · have hS : printS xs = strOf (decOf (val B32 xs)) := by unfold printS; rw [if_pos he]
    obtain ⟨ex, lx⟩ := errNat_ok hx he
    have hE := Lib.hid he
    rw [he, hS] at HM
    have HX := Lib.hid hx
    have lxx := Nat.le_of_eq (dig_len_halves (val B32 xs)).symm
    rw [← ex] at lxx
    have t : ((strOf (decOf (val B32 xs))).toList == (strOf (decOf (val B32 xs))).toList) = true := by simp
    clear hx he ex hS
    generalize hr : strOf (decOf (val B32 xs)) = s at HM t
    have HR := Lib.hid hr
    clear hr
    go_enter Try.func4, Try.ntmps4
    go_wp2_with fail
    refine HM.out.mono ?_
    rintro e w1 ⟨rfl, hb1⟩
    have hp1 := hp.past hb1
    go_wp2_with fail
    refine (refCheckNat_any p _ c xs _ hp1 rfl hl).mono ?_
    rintro e w2 ⟨rfl, rfl⟩
    rw [hE.out]
    go_wp2_with fail
    refine (refOf_any p _ c xs _ hp1 rfl HX.out (by omega)).mono ?_
    rintro e w3 ⟨p3, c3, rfl, ho3, -, -, hb3⟩
    go_wp2_with fail
    refine (refDecimals_any p3 _ c3 _ _ ho3 rfl (by omega)).mono ?_
    rw [HR.out]
    rintro e w5 ⟨rfl, hb5⟩
    have hs3 := hb1.trans (hb3.mono hb1.size)
    have hs5 := hs3.trans (hb5.mono hs3.size)
    go_wp2_with fail
    refine (natBegun_any _).mono ?_
    rintro e w7 ⟨rfl, hb7⟩
    have hs7 := hs5.trans (hb7.mono hs5.size)
    go_wp2_with fail
    go_ret
    exact ⟨rfl, hs7⟩
  · have hS : printS xs = ⟨#[]⟩ := by unfold printS; rw [if_neg he]
    rw [hS] at HM
    have hb : (errNat xs == 0) = false := by simpa using he
    have t : (errNat xs == errNat xs) = true := by simp
    clear hS he
    go_enter Try.func4, Try.ntmps4
    go_wp2_with fail
    refine HM.out.mono ?_
    rintro e w1 ⟨rfl, hb1⟩
    have hp1 := hp.past hb1
    go_wp2_with fail
    refine (refCheckNat_any p _ c xs _ hp1 rfl hl).mono ?_
    rintro e w2 ⟨rfl, rfl⟩
    go_wp2_with fail
    refine (natBegun_any _).mono ?_
    rintro e w7 ⟨rfl, hb7⟩
    go_wp2_with fail
    go_ret
    exact ⟨rfl, hb1.trans (hb7.mono hb1.size)⟩

end Go.Proofs.Ytococmfcaobmhaa
