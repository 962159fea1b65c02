/- nat.Div, nat.Root. -/
import Derived.Test.YtlegnbigddhmlaaZNat6
import Derived.Test.YtlegnbigddhmlaaZLimb12
namespace Go.Proofs.Ytlegnbigddhmlaa
open Go.RowKit Go.Slip

/-- Such an answer of two numbers. -/
def GivesE2 (w : World) (xs ys : List Nat) (er : Int) (en : Ending) (w' : World) : Prop :=
  ∃ p c q d, en = .returned (.tuple #[.slice p xs.length c, .slice q ys.length d, .int .i64 er]) ∧ Own w' w.heap.size .u32 26 p c xs ∧ Own w' w.heap.size .u32 26 q d ys ∧ Below w.heap.size w w' ∧ (p.isSome = true → q.isSome = true → blk p ≠ blk q)

set_option maxHeartbeats 1000000 in
theorem natDiv_good (p q : Option Addr) (n c m d : Nat) (a b : Nat) (w : World) (hp : Rd w .u32 p (dig B32 a)) (hq : Rd w .u32 q (dig B32 b)) (hn : n = (dig B32 a).length) (hm : m = (dig B32 b).length)
    (hl : (dig B32 a).length ≤ 1200) (hl2 : (dig B32 b).length ≤ 1200) (hb : 0 < b) :
    Calls Try.prog 9 #[.slice p n c, .slice q m d] w (GivesE2 w (dig B32 (a / b)) (dig B32 (a % b)) 0) := by
  subst hn hm
  have hE := Lib.hid (err2_good (errNat_dig hl) (errNat_dig hl2))
  have h0 : 0 < (dig B32 b).length := by
    have := (dig_len_zero B32_two b)
    omega
  have t1 : (((dig B32 b).length : Int) == 0) = false := beq_eq_false_iff_ne.2 (by omega)
  go_enter Try.func9, Try.ntmps9
  go_wp2_with fail
  refine (check2_new p q c _ d _ _ _ _ hp hq rfl rfl (by omega) (by omega)).mono ?_
  rintro e w1 ⟨rfl, rfl⟩
  rw [hE.out]
  go_wp2_with fail
  refine (limbDiv_any p q _ _ c d a b _ (hp.laid _) (hq.laid _) rfl rfl (by omega) (by omega) hb).mono ?_
  rintro e w3 ⟨p3, c3, q3, d3, rfl, ho3, ho4, hb3, hap⟩
  go_wp2_with fail
  have hs2 : Below w.heap.size w w3 := ((Below.refl _ _).alloc (Nat.le_refl _) _).trans (hb3.mono (by simp))
  go_ret3
  exact ⟨p3, c3, q3, d3, rfl, ho3.mono (by simp), ho4.mono (by simp), hs2, hap⟩

set_option maxHeartbeats 1000000 in
theorem natDiv_range (p q : Option Addr) (n c m d : Nat) (xs : List Nat) (w : World) (hp : Rd w .u32 p xs) (hn : n = xs.length) (hm : m = 0) (hl : xs.length ≤ 9223372036854775807) (he : errNat xs = 0) :
    Calls Try.prog 9 #[.slice p n c, .slice q m d] w (GivesE2 w [] [] 3) := by
  subst hn hm
  have hE := Lib.hid (show err2 xs [] = 0 by unfold err2; rw [if_pos he]; rfl)
  clear he
  go_enter Try.func9, Try.ntmps9
  go_wp2_with fail
  refine (check2_new p q c _ d 0 xs [] _ hp (Rd.nil _ _ _) rfl rfl (by omega) (by simp)).mono ?_
  rintro e w1 ⟨rfl, rfl⟩
  rw [hE.out]
  go_wp2_with fail
  go_ret3
  exact ⟨none, 0, none, 0, rfl, Own.nil _ _ _ _, Own.nil _ _ _ _, ((Below.refl _ _).alloc (Nat.le_refl _) _), fun h => by simp at h⟩

set_option maxHeartbeats 1000000 in
theorem natDiv_err (p q : Option Addr) (n c m d : Nat) (xs ys : List Nat) (w : World) (hp : Rd w .u32 p xs) (hq : Rd w .u32 q ys) (hn : n = xs.length) (hm : m = ys.length) (hl : xs.length ≤ 9223372036854775807) (hl2 : ys.length ≤ 9223372036854775807)
    (he : err2 xs ys ≠ 0) :
    Calls Try.prog 9 #[.slice p n c, .slice q m d] w (GivesE2 w [] [] (err2 xs ys)) := by
  subst hn hm
  have hb : (err2 xs ys == 0) = false := by simpa using he
  have hb2 : (err2 xs ys != 0) = true := by simpa using he
  clear he
  go_enter Try.func9, Try.ntmps9
  go_wp2_with fail
  refine (check2_new p q c _ d _ xs ys _ hp hq rfl rfl (by omega) (by omega)).mono ?_
  rintro e w1 ⟨rfl, rfl⟩
  go_wp2_with fail
  go_ret3
  exact ⟨none, 0, none, 0, rfl, Own.nil _ _ _ _, Own.nil _ _ _ _, ((Below.refl _ _).alloc (Nat.le_refl _) _), fun h => by simp at h⟩

/-! ### nat.Root -/

set_option maxHeartbeats 1000000 in
theorem natRoot_good (p : Option Addr) (n c : Nat) (a k : Nat) (w : World) (hp : Rd w .u32 p (dig B32 a)) (hn : n = (dig B32 a).length) (hl : (dig B32 a).length ≤ 1200) (hk : 1 ≤ k) (hk2 : k ≤ 10) :
    Calls Try.prog 11 #[.slice p n c, .int .i64 k] w (RootE w a k) := by
  subst hn
  have hE := Lib.hid (errNat_dig hl)
  go_enter Try.func11, Try.ntmps11
  go_wp2_with fail
  refine (check1_new p c _ _ _ hp rfl (by omega)).mono ?_
  rintro e w1 ⟨rfl, rfl⟩
  rw [hE.out]
  go_wp2_with fail
  refine (limbRoot_any p _ c a k _ (hp.laid _) rfl (by omega) hk (by omega)).mono ?_
  rintro e w3 ⟨r, hr1, hr2, p3, c3, rfl, ho3, hb3⟩
  go_wp2_with fail
  have hs2 : Below w.heap.size w w3 := ((Below.refl _ _).alloc (Nat.le_refl _) _).trans (hb3.mono (by simp))
  go_ret2
  exact ⟨r, hr1, hr2, p3, c3, rfl, ho3.mono (by simp), hs2⟩

set_option maxHeartbeats 1000000 in
theorem natRoot_range (p : Option Addr) (n c : Nat) (xs : List Nat) (i : Int) (w : World) (hp : Rd w .u32 p xs) (hn : n = xs.length) (hl : xs.length ≤ 9223372036854775807) (he : errNat xs = 0) (hi : i < 1 ∨ 10 < i) :
    Calls Try.prog 11 #[.slice p n c, .int .i64 i] w (GivesE w [] 3) := by
  subst hn
  have hE := Lib.hid he
  clear he
  rcases hi with hi | hi
  · go_enter Try.func11, Try.ntmps11
    go_wp2_with fail
    refine (check1_new p c _ _ _ hp rfl (by omega)).mono ?_
    rintro e w1 ⟨rfl, rfl⟩
    rw [hE.out]
    go_wp2_with fail
    go_ret2
    exact ⟨none, 0, rfl, Own.nil _ _ _ _, ((Below.refl _ _).alloc (Nat.le_refl _) _)⟩
  · go_enter Try.func11, Try.ntmps11
    go_wp2_with fail
    refine (check1_new p c _ _ _ hp rfl (by omega)).mono ?_
    rintro e w1 ⟨rfl, rfl⟩
    rw [hE.out]
    go_wp2_with fail
    go_ret2
    exact ⟨none, 0, rfl, Own.nil _ _ _ _, ((Below.refl _ _).alloc (Nat.le_refl _) _)⟩

set_option maxHeartbeats 1000000 in
theorem natRoot_err (p : Option Addr) (n c : Nat) (xs : List Nat) (i : Int) (w : World) (hp : Rd w .u32 p xs) (hn : n = xs.length) (hl : xs.length ≤ 9223372036854775807) (he : errNat xs ≠ 0) :
    Calls Try.prog 11 #[.slice p n c, .int .i64 i] w (GivesE w [] (errNat xs)) := by
  subst hn
  have hb : (errNat xs == 0) = false := by simpa using he
  have hb2 : (errNat xs != 0) = true := by simpa using he
  clear he
  go_enter Try.func11, Try.ntmps11
  go_wp2_with fail
  refine (check1_new p c _ _ _ hp rfl (by omega)).mono ?_
  rintro e w1 ⟨rfl, rfl⟩
  go_wp2_with fail
  go_ret2
  exact ⟨none, 0, rfl, Own.nil _ _ _ _, ((Below.refl _ _).alloc (Nat.le_refl _) _)⟩

end Go.Proofs.Ytlegnbigddhmlaa
