/- What the calls on natural numbers answer when nothing is wrong. -/
import Derived.Test.YtlegnbigddhmlaaZNat2
import Derived.Test.YtlegnbigddhmlaaZNat4
import Derived.Test.YtlegnbigddhmlaaZNat5
namespace Go.Proofs.Ytlegnbigddhmlaa
open Go.RowKit Go.Slip

theorem natE_zero {e : Int} {r : Nat} (h : natE e r = 0) : e = 0 ∧ (dig B32 r).length ≤ 1200 := by
  unfold natE at h
  by_cases he : e = 0
  · rw [if_pos he] at h
    by_cases h2 : 1200 < (dig B32 r).length
    · rw [if_pos h2] at h; simp at h
    · exact ⟨he, by omega⟩
  · rw [if_neg he] at h; exact absurd h he

theorem natE_good {e : Int} {r : Nat} (he : e = 0) (h : (dig B32 r).length ≤ 1200) : natE e r = 0 := by
  unfold natE; rw [if_pos he, if_neg (by omega)]

theorem natL_good {e : Int} {r : Nat} (h : natE e r = 0) : natL e r = dig B32 r := by unfold natL; rw [if_pos h]

theorem errNat_dig {r : Nat} (h : (dig B32 r).length ≤ 1200) : errNat (dig B32 r) = 0 := by
  unfold errNat
  rw [if_neg, if_neg (by omega)]
  rintro ⟨h1, h2⟩
  have h3 : 0 < r := by
    rcases Nat.eq_zero_or_pos r with h0 | h0
    · subst h0; rw [dig_zero] at h1; simp at h1
    · exact h0
  have := (blen_dig (B := B32) (s := 32) (by decide) B32_two r h3).2
  omega

theorem err2_good {xs ys : List Nat} (h1 : errNat xs = 0) (h2 : errNat ys = 0) : err2 xs ys = 0 := by unfold err2; rw [if_pos h1, h2]

theorem natMul_good (p q : Option Addr) (n c m d : Nat) (a b : Nat) (w : World) (hp : Rd w .u32 p (dig B32 a)) (hq : Rd w .u32 q (dig B32 b)) (hn : n = (dig B32 a).length) (hm : m = (dig B32 b).length)
    (hl : (dig B32 a).length ≤ 1200) (hl2 : (dig B32 b).length ≤ 1200) (hr : (dig B32 (a * b)).length ≤ 1200) :
    Calls Try.prog 8 #[.slice p n c, .slice q m d] w (GivesE w (dig B32 (a * b)) 0) := by
  have h := natMul_any p q n c m d _ _ w hp hq hn hm (by omega) (by omega) (dig_lt B32_two a) (dig_lt B32_two b)
  rw [val_dig B32_two, val_dig B32_two] at h
  have e := natE_good (err2_good (errNat_dig hl) (errNat_dig hl2)) hr
  rw [natL_good e, e] at h
  exact h

theorem natAdd_good (p q : Option Addr) (n c m d : Nat) (a b : Nat) (w : World) (hp : Rd w .u32 p (dig B32 a)) (hq : Rd w .u32 q (dig B32 b)) (hn : n = (dig B32 a).length) (hm : m = (dig B32 b).length)
    (hl : (dig B32 a).length ≤ 1200) (hl2 : (dig B32 b).length ≤ 1200) (hr : (dig B32 (a + b)).length ≤ 1200) :
    Calls Try.prog 7 #[.slice p n c, .slice q m d] w (GivesE w (dig B32 (a + b)) 0) := by
  have h := natAdd_any p q n c m d _ _ w hp hq hn hm (by omega) (by omega) (dig_lt B32_two a) (dig_lt B32_two b)
  rw [val_dig B32_two, val_dig B32_two] at h
  have e := natE_good (err2_good (errNat_dig hl) (errNat_dig hl2)) hr
  rw [natL_good e, e] at h
  exact h

theorem natL_lt (e : Int) (r : Nat) : ∀ x ∈ natL e r, x < B32 := by
  unfold natL
  split
  · exact dig_lt B32_two r
  · simp

theorem natL_len {e : Int} {r : Nat} : (natL e r).length ≤ 1200 := by
  unfold natL
  split
  · rename_i h; exact (natE_zero h).2
  · simp

end Go.Proofs.Ytlegnbigddhmlaa
