/- nat.Print; what must be in any case of natural numbers; the laws' small helpers. -/
import Derived.Test.YtlegnbigddhmlaaZNat2
import Derived.Test.YtlegnbigddhmlaaZLimb5
import Derived.Test.YtlegnbigddhmlaaZRef2
namespace Go.Proofs.Ytlegnbigddhmlaa
open Go.RowKit Go.Slip

/-- What Print answers. -/
def printS (xs : List Nat) : ByteArray := if errNat xs = 0 then strOf (decOf (val B32 xs)) else ⟨#[]⟩

set_option maxHeartbeats 1000000 in
set_option maxRecDepth 100000 in
theorem natPrint_any (p : Option Addr) (n c : Nat) (xs : List Nat) (w : World) (hp : Rd w .u32 p xs) (hn : n = xs.length) (hl : xs.length ≤ 9223372036854775807) (hx : ∀ x ∈ xs, x < B32) :
    Calls Try.prog 22 #[.slice p n c] w fun e w' => e = .returned (.tuple #[.string (printS xs), .int .i64 (errNat xs)]) ∧ Below w.heap.size w w' := by
  subst hn
  by_cases he : errNat xs = 0
  · obtain ⟨ex, lx⟩ := errNat_ok hx he
    have hS : printS xs = strOf (decOf (val B32 xs)) := by unfold printS; rw [if_pos he]
    rw [hS, he]
    have hE := Lib.hid he
    clear he hS hx hl
    generalize val B32 xs = a at *
    subst ex
    go_enter Try.func22, Try.ntmps22
    go_wp2_with fail
    refine (check1_new p c _ _ _ hp rfl (by omega)).mono ?_
    rintro e w1 ⟨rfl, rfl⟩
    rw [hE.out]
    go_wp2_with fail
    refine (decimal_any p _ c a _ (hp.laid _) rfl (by omega)).mono ?_
    rintro e w2 ⟨rfl, hb2⟩
    go_wp2_with fail
    go_ret2
    exact ⟨rfl, (((Below.refl _ _).alloc (Nat.le_refl _) _)).trans (hb2.mono (by simp))⟩
  · have hS : printS xs = ⟨#[]⟩ := by unfold printS; rw [if_neg he]
    rw [hS]
    have hb : (errNat xs == 0) = false := by simpa using he
    have hb2 : (errNat xs != 0) = true := by simpa using he
    clear he hS
    go_enter Try.func22, Try.ntmps22
    go_wp2_with fail
    refine (check1_new p c _ xs _ hp rfl hl).mono ?_
    rintro e w1 ⟨rfl, rfl⟩
    go_wp2_with fail
    go_ret2
    exact ⟨rfl, ((Below.refl _ _).alloc (Nat.le_refl _) _)⟩

theorem dig_begun : dig B32 12884901888 = [0, 3] := (dig_eq B32_two [0, 3] _ (by unfold B32; simp) (by simp [Tight]) (by simp [B32])).symm
theorem dec_begun : decOf 12884901888 = [49, 50, 56, 56, 52, 57, 48, 49, 56, 56, 56] := by
  unfold decOf
  rw [if_neg (by omega), ← dig_eq (B := 10) (by omega) [8, 8, 8, 1, 0, 9, 4, 8, 8, 2, 1] 12884901888 (by simp) (by simp [Tight]) (by simp)]
  rfl
theorem mul_begun1 : natE (err2 [0, 1] [3]) (val B32 [0, 1] * val B32 [3]) = 0 := by
  have h : val B32 [0, 1] * val B32 [3] = 12884901888 := by simp [B32]
  have h2 : err2 [0, 1] [3] = 0 := by decide
  rw [h, h2]
  unfold natE
  rw [if_pos rfl, dig_begun]; rfl
theorem mul_begun2 : natL (err2 [0, 1] [3]) (val B32 [0, 1] * val B32 [3]) = [0, 3] := by
  unfold natL
  rw [if_pos mul_begun1]
  have h : val B32 [0, 1] * val B32 [3] = 12884901888 := by simp [B32]
  rw [h, dig_begun]
theorem print_begun : printS [0, 3] = ⟨#[49, 50, 56, 56, 52, 57, 48, 49, 56, 56, 56]⟩ := by
  have h : val B32 [0, 3] = 12884901888 := by simp [B32]
  have h2 : errNat [0, 3] = 0 := by decide
  unfold printS
  rw [if_pos h2, h, dec_begun]
  rfl

set_option maxHeartbeats 1000000 in
set_option maxRecDepth 100000 in
theorem natBegun_any (w : World) : Calls Try.prog 4 #[] w fun e w' => e = .returned (.bool true) ∧ Below w.heap.size w w' := by
  go_enter Try.func4, Try.ntmps4
  go_wp2_with (first
    | (refine wpl_build2 rfl _ _ _ (by rfl) tyNat 0 1 (by omega) (by omega) (by rfl) (by rfl) ?_; intro p1 w1 ho1 hb1 hz1 hp1)
    | (refine wpl_build1 rfl _ _ (by rfl) tyNat 3 (by omega) (by rfl) ?_; intro p2 w2 ho2 hb2 hz2 hp2))
  have hr1 : Rd w1 .u32 p1 [0, 1] := ho1.rd
  have hr2 : Rd w2 .u32 p2 [3] := ho2.rd
  have hr3 := hr1.past hb2
  clear ho1 ho2 hr1
  have hb3 := hb1.trans (hb2.mono hb1.size)
  refine (natMul_any p1 p2 2 2 1 1 [0, 1] [3] _ hr3 hr2 rfl rfl (by simp) (by simp) (by unfold B32; simp) (by unfold B32; simp)).mono ?_
  rw [mul_begun1, mul_begun2]
  rintro e w3 ⟨p3, c3, rfl, ho3, hb4⟩
  have hb5 := hb3.trans (hb4.mono hb3.size)
  go_wp2_with fail
  refine (natPrint_any p3 _ c3 [0, 3] _ ho3.rd rfl (by simp) (by unfold B32; simp)).mono ?_
  rw [print_begun, show errNat [0, 3] = 0 by decide]
  rintro e w4 ⟨rfl, hb6⟩
  have hb7 := hb5.trans (hb6.mono hb5.size)
  clear hb1 hb2 hb3 hb4 hb5 hb6
  go_wp2
  go_ret
  exact ⟨rfl, hb7⟩

end Go.Proofs.Ytlegnbigddhmlaa
