/- nat.Check; nat.Add: sums of natural numbers, errors too. -/
import Derived.Test.YtlegnbigddhmlaaZNat1
import Derived.Test.YtlegnbigddhmlaaZC
namespace Go.Proofs.Ytlegnbigddhmlaa
open Go.RowKit Go.Slip

theorem natCheck1_any (p : Option Addr) (n c : Nat) (xs : List Nat) (w : World) (hp : Rd w .u32 p xs) (hn : n = xs.length) (hl : xs.length ≤ 9223372036854775807) :
    Calls Try.prog 20 #[.slice p n c] w fun e w' => e = .returned (.int .i64 (errNat xs)) ∧ Below w.heap.size w w' := by
  subst hn
  go_enter Try.func20, Try.ntmps20
  go_wp2_with fail
  refine (check1_new p c _ xs _ hp rfl hl).mono ?_
  rintro e w1 ⟨rfl, rfl⟩
  go_wp2_with fail
  go_ret
  exact ⟨rfl, (Below.refl _ _).alloc (Nat.le_refl _) _⟩

set_option maxHeartbeats 1000000 in
set_option maxRecDepth 100000 in
theorem natTwoAdd_any (p q : Option Addr) (n c m d : Nat) (xs ys : List Nat) (w : World) (hp : Rd w .u32 p xs) (hq : Rd w .u32 q ys) (hn : n = xs.length) (hm : m = ys.length) (hl : xs.length ≤ 9223372036854775807) (hl2 : ys.length ≤ 9223372036854775807)
    (hx : ∀ x ∈ xs, x < B32) (hy : ∀ x ∈ ys, x < B32) :
    Calls Try.prog 23 #[.slice p n c, .slice q m d, .func (.func 24) #[] #[]] w (GivesE w (natL (err2 xs ys) (val B32 xs + val B32 ys)) (natE (err2 xs ys) (val B32 xs + val B32 ys))) := by
  subst hn hm
  by_cases he : err2 xs ys = 0
  · have hxs : errNat xs = 0 := by unfold err2 at he; split at he <;> simp_all
    have hys : errNat ys = 0 := by unfold err2 at he; rw [if_pos hxs] at he; exact he
    obtain ⟨ex, lx⟩ := errNat_ok hx hxs
    obtain ⟨ey, ly⟩ := errNat_ok hy hys
    have hE := Lib.hid he
    rw [he]
    clear hxs hys hx hy he hl hl2
    generalize val B32 xs = a at *
    generalize val B32 ys = b at *
    subst ex ey
    have hlm := dig_len_add B32_two a b
    go_enter Try.func23, Try.ntmps23
    go_wp2_with fail
    refine (check2_new p q c _ d _ _ _ _ hp hq rfl rfl (by omega) (by omega)).mono ?_
    rintro e w1 ⟨rfl, rfl⟩
    rw [hE.out]
    go_wp2_with fail
    refine (add_any p q _ _ c d a b _ (hp.laid _) (hq.laid _) rfl rfl (by omega) (by omega)).mono ?_
    rintro e w2 ⟨p2, c2, rfl, ho2, hb2⟩
    go_wp2_with fail
    refine (natDone_any p2 _ c2 w2 _ (a + b) ho2 rfl (by omega)).mono ?_
    rintro e w3 ⟨⟨p3, c3, rfl, ho3⟩, rfl⟩
    go_wp2_with fail
    go_ret2
    exact ⟨p3, c3, rfl, ho3.mono (by simp), (((Below.refl _ _).alloc (Nat.le_refl _) _)).trans (hb2.mono (by simp))⟩
  · have h1 : natE (err2 xs ys) (val B32 xs + val B32 ys) = err2 xs ys := by unfold natE; rw [if_neg he]
    have h2 : natL (err2 xs ys) (val B32 xs + val B32 ys) = [] := by unfold natL; rw [h1, if_neg he]
    rw [h1, h2]
    have hb : (err2 xs ys == 0) = false := by simpa using he
    have hb2 : (err2 xs ys != 0) = true := by simpa using he
    clear h1 h2 he
    go_enter Try.func23, Try.ntmps23
    go_wp2_with fail
    refine (check2_new p q c _ d _ xs ys _ hp hq rfl rfl (by omega) (by omega)).mono ?_
    rintro e w1 ⟨rfl, rfl⟩
    go_wp2_with fail
    go_ret2
    exact ⟨none, 0, rfl, Own.nil _ _ _ _, ((Below.refl _ _).alloc (Nat.le_refl _) _)⟩

theorem natAdd_any (p q : Option Addr) (n c m d : Nat) (xs ys : List Nat) (w : World) (hp : Rd w .u32 p xs) (hq : Rd w .u32 q ys) (hn : n = xs.length) (hm : m = ys.length) (hl : xs.length ≤ 9223372036854775807) (hl2 : ys.length ≤ 9223372036854775807)
    (hx : ∀ x ∈ xs, x < B32) (hy : ∀ x ∈ ys, x < B32) :
    Calls Try.prog 7 #[.slice p n c, .slice q m d] w (GivesE w (natL (err2 xs ys) (val B32 xs + val B32 ys)) (natE (err2 xs ys) (val B32 xs + val B32 ys))) := by
  subst hn hm
  go_enter Try.func7, Try.ntmps7
  go_wp2_with fail
  refine (natTwoAdd_any p q _ c _ d xs ys _ hp hq rfl rfl hl hl2 hx hy).mono ?_
  rintro e w1 ⟨p1, c1, rfl, ho1, hb1⟩
  go_wp2_with fail
  go_ret2
  exact ⟨p1, c1, rfl, ho1, hb1⟩

end Go.Proofs.Ytlegnbigddhmlaa
