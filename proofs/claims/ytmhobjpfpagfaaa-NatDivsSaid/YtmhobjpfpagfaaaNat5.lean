/- nat.Compare, nat.Bits. -/
import Derived.Test.YtmhobjpfpagfaaaNat1
import Derived.Test.YtmhobjpfpagfaaaLimb6
namespace Go.Proofs.Ytmhobjpfpagfaaa
open Go.RowKit Go.Slip

theorem err2_ok {xs ys : List Nat} (h : err2 xs ys = 0) : errNat xs = 0 ∧ errNat ys = 0 := by
  have hxs : errNat xs = 0 := by unfold err2 at h; split at h <;> simp_all
  exact ⟨hxs, by unfold err2 at h; rw [if_pos hxs] at h; exact h⟩

/-- What Compare answers. -/
def cmpS (xs ys : List Nat) : Int := if err2 xs ys = 0 then cmpN (val B32 xs) (val B32 ys) else 0

set_option maxHeartbeats 1000000 in
theorem natCompare_any (p q : Option Addr) (n c m d : Nat) (xs ys : List Nat) (w : World) (hp : Rd w .u32 p xs) (hq : Rd w .u32 q ys) (hn : n = xs.length) (hm : m = ys.length) (hl : xs.length ≤ 9223372036854775807) (hl2 : ys.length ≤ 9223372036854775807)
    (hx : ∀ x ∈ xs, x < B32) (hy : ∀ x ∈ ys, x < B32) :
    Calls Try.prog 15 #[.slice p n c, .slice q m d] w fun e w' => e = .returned (.tuple #[.int .i64 (cmpS xs ys), .int .i64 (err2 xs ys)]) ∧ Below w.heap.size w w' := by
  subst hn hm
  by_cases he : err2 xs ys = 0
  · obtain ⟨hxs, hys⟩ := err2_ok he
    have hS : cmpS xs ys = cmpN (val B32 xs) (val B32 ys) := by unfold cmpS; rw [if_pos he]
    rw [hS, he]
    obtain ⟨ex, lx⟩ := errNat_ok hx hxs
    obtain ⟨ey, ly⟩ := errNat_ok hy hys
    have hE := Lib.hid he
    clear hxs hys hx hy he hl hl2 hS
    generalize val B32 xs = a at *
    generalize val B32 ys = b at *
    subst ex ey
    go_enter Try.func15, Try.ntmps15
    go_wp2_with fail
    refine (check2_new p q c _ d _ _ _ _ hp hq rfl rfl (by omega) (by omega)).mono ?_
    rintro e w1 ⟨rfl, rfl⟩
    rw [hE.out]
    go_wp2_with fail
    refine (cmp_any p q _ _ c d a b _ (hp.laid _) (hq.laid _) rfl rfl (by omega) (by omega)).mono ?_
    rintro e w2 ⟨rfl, hb2⟩
    go_wp2_with fail
    go_ret2
    exact ⟨rfl, (((Below.refl _ _).alloc (Nat.le_refl _) _)).trans (hb2.mono (by simp))⟩
  · have hS : cmpS xs ys = 0 := by unfold cmpS; rw [if_neg he]
    rw [hS]
    have hb : (err2 xs ys == 0) = false := by simpa using he
    have hb2 : (err2 xs ys != 0) = true := by simpa using he
    clear he hS
    go_enter Try.func15, Try.ntmps15
    go_wp2_with fail
    refine (check2_new p q c _ d _ xs ys _ hp hq rfl rfl (by omega) (by omega)).mono ?_
    rintro e w1 ⟨rfl, rfl⟩
    go_wp2_with fail
    go_ret2
    exact ⟨rfl, ((Below.refl _ _).alloc (Nat.le_refl _) _)⟩

/-- What Bits answers. -/
def bitsS (xs : List Nat) : Int := if errNat xs = 0 then (blen (val B32 xs) : Nat) else 0

end Go.Proofs.Ytmhobjpfpagfaaa
