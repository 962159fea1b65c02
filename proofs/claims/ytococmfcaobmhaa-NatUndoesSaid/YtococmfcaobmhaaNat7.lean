/- nat.Sub. -/
import Derived.Test.YtococmfcaobmhaaNat6
import Derived.Test.YtococmfcaobmhaaLimb7
namespace Go.Proofs.Ytococmfcaobmhaa
open Go.RowKit Go.Slip

/-- What is wrong with a difference. -/
def errSub (xs ys : List Nat) : Int := if err2 xs ys = 0 then (if val B32 xs < val B32 ys then 3 else 0) else err2 xs ys

set_option maxHeartbeats 1000000 in
theorem natSub_good (p q : Option Addr) (n c m d : Nat) (a b : Nat) (w : World) (hp : Rd w .u32 p (dig B32 a)) (hq : Rd w .u32 q (dig B32 b)) (hn : n = (dig B32 a).length) (hm : m = (dig B32 b).length)
    (hl : (dig B32 a).length ≤ 1200) (hl2 : (dig B32 b).length ≤ 1200) (hab : b ≤ a) :
    Calls Try.prog 42 #[.slice p n c, .slice q m d] w (GivesE w (dig B32 (a - b)) 0) := by
  subst hn hm
  have hE := Lib.hid (err2_good (errNat_dig hl) (errNat_dig hl2))
  have hC : 0 ≤ cmpN a b := by unfold cmpN; rw [if_neg (by omega)]; split <;> omega
  go_enter Try.func42, Try.ntmps42
  go_wp2_with fail
  refine (check2_new p q c _ d _ _ _ _ hp hq rfl rfl (by omega) (by omega)).mono ?_
  rintro e w1 ⟨rfl, rfl⟩
  rw [hE.out]
  go_wp2_with fail
  refine (cmp_any p q _ _ c d a b _ (hp.laid _) (hq.laid _) rfl rfl (by omega) (by omega)).mono ?_
  rintro e w2 ⟨rfl, hb2⟩
  go_wp2_with fail
  refine (sub_any p q _ _ c d a b _ ((hp.laid _).past hb2) ((hq.laid _).past hb2) rfl rfl (by omega) hab).mono ?_
  rintro e w3 ⟨p3, c3, rfl, ho3, hb3⟩
  go_wp2_with fail
  go_ret2
  have hs2 : Below w.heap.size w w2 := ((Below.refl _ _).alloc (Nat.le_refl _) _).trans (hb2.mono (by simp))
  exact ⟨p3, c3, rfl, ho3.mono hs2.size, hs2.trans (hb3.mono hs2.size)⟩

set_option maxHeartbeats 1000000 in
theorem natSub_less (p q : Option Addr) (n c m d : Nat) (a b : Nat) (w : World) (hp : Rd w .u32 p (dig B32 a)) (hq : Rd w .u32 q (dig B32 b)) (hn : n = (dig B32 a).length) (hm : m = (dig B32 b).length)
    (hl : (dig B32 a).length ≤ 1200) (hl2 : (dig B32 b).length ≤ 1200) (hab : a < b) :
    Calls Try.prog 42 #[.slice p n c, .slice q m d] w (GivesE w [] 3) := by
  subst hn hm
  have hE := Lib.hid (err2_good (errNat_dig hl) (errNat_dig hl2))
  have hC : cmpN a b ≤ -1 := by rw [cmpN_lt hab]; omega
  go_enter Try.func42, Try.ntmps42
  go_wp2_with fail
  refine (check2_new p q c _ d _ _ _ _ hp hq rfl rfl (by omega) (by omega)).mono ?_
  rintro e w1 ⟨rfl, rfl⟩
  rw [hE.out]
  go_wp2_with fail
  refine (cmp_any p q _ _ c d a b _ (hp.laid _) (hq.laid _) rfl rfl (by omega) (by omega)).mono ?_
  rintro e w2 ⟨rfl, hb2⟩
  go_wp2_with fail
  go_ret2
  have hs2 : Below w.heap.size w w2 := ((Below.refl _ _).alloc (Nat.le_refl _) _).trans (hb2.mono (by simp))
  exact ⟨none, 0, rfl, Own.nil _ _ _ _, hs2⟩

set_option maxHeartbeats 1000000 in
theorem natSub_any (p q : Option Addr) (n c m d : Nat) (xs ys : List Nat) (w : World) (hp : Rd w .u32 p xs) (hq : Rd w .u32 q ys) (hn : n = xs.length) (hm : m = ys.length) (hl : xs.length ≤ 9223372036854775807) (hl2 : ys.length ≤ 9223372036854775807)
    (hx : ∀ x ∈ xs, x < B32) (hy : ∀ x ∈ ys, x < B32) :
    Calls Try.prog 42 #[.slice p n c, .slice q m d] w (GivesE w (natL (errSub xs ys) (val B32 xs - val B32 ys)) (natE (errSub xs ys) (val B32 xs - val B32 ys))) := by
  by_cases he : err2 xs ys = 0
  · obtain ⟨hxs, hys⟩ := err2_ok he
    obtain ⟨ex, lx⟩ := errNat_ok hx hxs
    obtain ⟨ey, ly⟩ := errNat_ok hy hys
    have hS : errSub xs ys = if val B32 xs < val B32 ys then 3 else 0 := by unfold errSub; rw [if_pos he]
    rw [hS]
    clear hxs hys hx hy he hl hl2 hS
    generalize val B32 xs = a at *
    generalize val B32 ys = b at *
    subst ex ey
    by_cases hab : a < b
    · rw [if_pos hab]
      have h1 : natE 3 (a - b) = 3 := by unfold natE; rw [if_neg (by omega)]
      have h2 : natL 3 (a - b) = [] := by unfold natL; rw [h1, if_neg (by omega)]
      rw [h1, h2]
      exact natSub_less p q n c m d a b w hp hq hn hm lx ly hab
    · rw [if_neg hab]
      have h1 : natE 0 (a - b) = 0 := natE_good rfl (Nat.le_trans (dig_len_mono B32_two (by omega)) lx)
      rw [natL_good h1, h1]
      exact natSub_good p q n c m d a b w hp hq hn hm lx ly (by omega)
  · subst hn hm
    have hS : errSub xs ys = err2 xs ys := by unfold errSub; rw [if_neg he]
    rw [hS]
    have h1 : natE (err2 xs ys) (val B32 xs - val B32 ys) = err2 xs ys := by unfold natE; rw [if_neg he]
    have h2 : natL (err2 xs ys) (val B32 xs - val B32 ys) = [] := by unfold natL; rw [h1, if_neg he]
    rw [h1, h2]
    have hb : (err2 xs ys == 0) = false := by simpa using he
    have hb2 : (err2 xs ys != 0) = true := by simpa using he
    clear h1 h2 he hS
    go_enter Try.func42, Try.ntmps42
    go_wp2_with fail
    refine (check2_new p q c _ d _ xs ys _ hp hq rfl rfl (by omega) (by omega)).mono ?_
    rintro e w1 ⟨rfl, rfl⟩
    go_wp2_with fail
    go_ret2
    exact ⟨none, 0, rfl, Own.nil _ _ _ _, ((Below.refl _ _).alloc (Nat.le_refl _) _)⟩

end Go.Proofs.Ytococmfcaobmhaa
