/- nat.Compare, nat.Bits. -/
import Derived.Test.YtlegnbigddhmlaaZNat1
import Derived.Test.YtlegnbigddhmlaaZLimb6
namespace Go.Proofs.Ytlegnbigddhmlaa
open Go.RowKit Go.Slip

theorem err2_ok {xs ys : List Nat} (h : err2 xs ys = 0) : errNat xs = 0 ∧ errNat ys = 0 := by
  have hxs : errNat xs = 0 := by unfold err2 at h; split at h <;> simp_all
  exact ⟨hxs, by unfold err2 at h; rw [if_pos hxs] at h; exact h⟩

/-- What Compare answers. -/
def cmpS (xs ys : List Nat) : Int := if err2 xs ys = 0 then cmpN (val B32 xs) (val B32 ys) else 0

/-- What Bits answers. -/
def bitsS (xs : List Nat) : Int := if errNat xs = 0 then (blen (val B32 xs) : Nat) else 0

end Go.Proofs.Ytlegnbigddhmlaa
