/- nat.Compare, nat.Bits. -/
import Derived.Test.YtcbjidcpcompoaaDoorZE
import Derived.Test.YtcbjidcpcompoaaDoorZF
namespace Go.Proofs.YtcbjidcpcompoaaDoor
open Go.RowKit Go.Slip

theorem err2_ok {xs ys : List Nat} (h : err2 xs ys = 0) : errNat xs = 0 ∧ errNat ys = 0 := by
  have hxs : errNat xs = 0 := by unfold err2 at h; split at h <;> simp_all
  exact ⟨hxs, by unfold err2 at h; rw [if_pos hxs] at h; exact h⟩

/-- What Compare answers. -/
def cmpS (xs ys : List Nat) : Int := if err2 xs ys = 0 then cmpN (val B32 xs) (val B32 ys) else 0

/-- What Bits answers. -/
def bitsS (xs : List Nat) : Int := if errNat xs = 0 then (blen (val B32 xs) : Nat) else 0

set_option maxHeartbeats 1000000 in
theorem natBits_any (p : Option Addr) (n c : Nat) (xs : List Nat) (w : World) (hp : Rd w .u32 p xs) (hn : n = xs.length) (hl : xs.length ≤ 9223372036854775807) (hx : ∀ x ∈ xs, x < B32) :
    Calls Tryd.prog 34 #[.slice p n c] w fun e w' => e = .returned (.tuple #[.int .i64 (bitsS xs), .int .i64 (errNat xs)]) ∧ Below w.heap.size w w' := by
  subst hn
  by_cases he : errNat xs = 0
  · have hS : bitsS xs = (blen (val B32 xs) : Nat) := by unfold bitsS; rw [if_pos he]
    rw [hS, he]
    obtain ⟨ex, lx⟩ := errNat_ok hx he
    have hE := Lib.hid he
    clear hx he hl hS
    generalize val B32 xs = a at *
    subst ex
    go_enter Tryd.func34, Tryd.ntmps34
    go_wp2_with fail
    refine (check1_new p c _ _ _ hp rfl (by omega)).mono ?_
    rintro e w1 ⟨rfl, rfl⟩
    rw [hE.out]
    go_wp2_with fail
    refine (len_any p _ c a _ (hp.laid _) rfl (by omega)).mono ?_
    rintro e w2 ⟨rfl, rfl⟩
    go_wp2_with fail
    go_ret2
    exact ⟨rfl, ((Below.refl _ _).alloc (Nat.le_refl _) _)⟩
  · have hS : bitsS xs = 0 := by unfold bitsS; rw [if_neg he]
    rw [hS]
    have hb : (errNat xs == 0) = false := by simpa using he
    have hb2 : (errNat xs != 0) = true := by simpa using he
    clear he hS
    go_enter Tryd.func34, Tryd.ntmps34
    go_wp2_with fail
    refine (check1_new p c _ xs _ hp rfl hl).mono ?_
    rintro e w1 ⟨rfl, rfl⟩
    go_wp2_with fail
    go_ret2
    exact ⟨rfl, ((Below.refl _ _).alloc (Nat.le_refl _) _)⟩

end Go.Proofs.YtcbjidcpcompoaaDoor
