/- bits.LeadingZeros32, limb.Div. -/
import Derived.Test.YtlegnbigddhmlaaZC
import Derived.Test.YtlegnbigddhmlaaZLimb10
import Derived.Test.YtlegnbigddhmlaaZA
namespace Go.Proofs.Ytlegnbigddhmlaa
open Go.RowKit Go.Slip

theorem lz32_any (x : Nat) (w : World) (h1 : x < 4294967296) :
    Calls Try.prog 44 #[.int .u32 x] w fun e w' => e = .returned (.int .i64 ((32 - blen x : Nat) : Int)) ∧ w = w' := by
  have hb : blen x ≤ 32 := (blen_le x 32).2 (by omega)
  go_enter Try.func44, Try.ntmps44
  go_wp2_with (go_at_call 51; refine (len32_any x _ h1).mono ?_; rintro e w1 ⟨rfl, rfl⟩)
  go_ret
  exact ⟨ret_int (by omega), rfl⟩

theorem _root_.Go.Slip.DivRel.even' {A mm j t r : Nat} {ys U Q L : List Nat} (h : DivRel A (val B32 ys) ys.length U Q (j + 1)) (k : Knuth ys U mm j) (ht : Trial ys U mm j t r) (hj : j < Q.length) (hB : t < 4294967296)
    (hw : WinOut L U j (ys.length + 1)) (hv : val B32 L + B32 ^ j * (t * val B32 ys) = val B32 U + 0 * B32 ^ (j + (ys.length + 1))) : DivRel A (val B32 ys) ys.length L (Q.set j t) j := by
  have e := k.ly
  rw [e] at h hw hv ⊢
  exact h.even k ht hj hB hw hv

theorem _root_.Go.Slip.DivRel.owed' {A mm j t r co : Nat} {ys U Q L M : List Nat} (h : DivRel A (val B32 ys) ys.length U Q (j + 1)) (k : Knuth ys U mm j) (ht : Trial ys U mm j t r) (he : t ≤ val B32 (U.drop j) / val B32 ys + 1) (hj : j < Q.length) (hB : t < 4294967296)
    (hw : WinOut L U j (ys.length + 1)) (hv : val B32 L + B32 ^ j * (t * val B32 ys) = val B32 U + 1 * B32 ^ (j + (ys.length + 1)))
    (hw2 : WinOut M L j (ys.length + 1)) (hv2 : val B32 M + co * B32 ^ (j + (ys.length + 1)) = val B32 L + B32 ^ j * val B32 ys) : 0 < t ∧ DivRel A (val B32 ys) ys.length M (Q.set j (t - 1)) j := by
  have e := k.ly
  rw [e] at h hw hv hw2 hv2 ⊢
  exact h.owed k ht he hj hB hw hv hw2 hv2

theorem owed_pos {mm j t : Nat} {ys U L : List Nat} (k : Knuth ys U mm j) (hw : WinOut L U j (ys.length + 1)) (hv : val B32 L + B32 ^ j * (t * val B32 ys) = val B32 U + 1 * B32 ^ (j + (ys.length + 1))) : 0 < t := by
  have e := k.ly
  rw [e] at hw hv
  have h1 := win_eq hw hv
  have h2 := win_lt hw k.z
  rcases Nat.eq_zero_or_pos t with h0 | h0
  · subst h0
    rw [Nat.zero_mul] at h1
    omega
  · exact h0

/-- Two numbers, each in a row of the call's own. -/
def Gives2 (w : World) (e : TypeId) (xs ys : List Nat) (en : Ending) (w' : World) : Prop :=
  ∃ p c q d, en = .returned (.tuple #[.slice p xs.length c, .slice q ys.length d]) ∧ Own w' w.heap.size .u32 e p c xs ∧ Own w' w.heap.size .u32 e q d ys ∧ Below w.heap.size w w' ∧ (p.isSome = true → q.isSome = true → blk p ≠ blk q)

set_option maxHeartbeats 400000 in
set_option maxRecDepth 100000 in
theorem div_less (p q : Option Addr) (n m c d : Nat) (a b : Nat) (w : World) (hp : Rd w .u32 p (dig B32 a)) (hq : Rd w .u32 q (dig B32 b)) (hn : n = (dig B32 a).length) (hm : m = (dig B32 b).length)
    (hl : (dig B32 a).length ≤ 1000000000) (hl2 : (dig B32 b).length ≤ 1000000000) (hab : a < b) :
    Calls Try.prog 27 #[.slice p n c, .slice q m d] w (Gives2 w 26 [] (dig B32 a)) := by
  subst hn hm
  have hC : cmpN a b ≤ -1 := by rw [cmpN_lt hab]; omega
  go_enter Try.func27, Try.ntmps27
  go_wp2_with fail
  refine (cmp_any p q _ _ c d a b _ hp hq rfl rfl (by omega) (by omega)).mono ?_
  rintro e w1 ⟨rfl, hb1⟩
  go_wp2_with fail
  refine (clone_any p _ c _ _ (hp.past hb1) rfl hl).mono ?_
  rintro e w2 ⟨p2, c2, rfl, ho2, hb2⟩
  go_wp2_with fail
  go_ret2
  exact ⟨none, 0, p2, c2, rfl, Own.nil _ _ _ _, ho2.mono hb1.size, hb1.trans (hb2.mono hb1.size), fun h => by simp at h⟩

set_option maxHeartbeats 400000 in
set_option maxRecDepth 100000 in
theorem div_small (p q : Option Addr) (n m c d : Nat) (a b : Nat) (w : World) (hp : Rd w .u32 p (dig B32 a)) (hq : Rd w .u32 q [b]) (hn : n = (dig B32 a).length) (hm : m = 1)
    (hl : (dig B32 a).length ≤ 1000000000) (hb0 : 0 < b) (hb1 : b < 4294967296) (hab : b ≤ a) :
    Calls Try.prog 27 #[.slice p n c, .slice q m d] w (Gives2 w 26 (dig B32 (a / b)) (dig B32 (a % b))) := by
  subst hn hm
  have hC : 0 ≤ cmpN a b := by unfold cmpN; rw [if_neg (by omega)]; split <;> omega
  have eb : [b] = dig B32 b := by rw [dig_pos B32_two hb0, Nat.div_eq_of_lt (by unfold B32; omega), dig_zero, Nat.mod_eq_of_lt (by unfold B32; omega)]
  have hr : a % b < 4294967296 := Nat.lt_trans (Nat.mod_lt a hb0) hb1
  obtain ⟨r, hrr⟩ : ∃ r, a % b = r := ⟨_, rfl⟩
  have HR := Lib.hid hrr
  rw [hrr] at hr ⊢
  clear hrr
  have hX := Lib.hid (show ∀ x ∈ [r], x < B32 by simp; unfold B32; omega)
  have hV := Lib.hid (show val B32 [r] = r by simp)
  have hq2 := Lib.hid (show Rd w .u32 q (dig B32 b) by rw [← eb]; exact hq)
  have hl1 := Lib.hid (show 1 = (dig B32 b).length by rw [← eb]; rfl)
  clear eb
  have hsq := hq.solid
  simp only [List.length_singleton] at hsq
  go_enter Try.func27, Try.ntmps27
  go_wp2_with fail
  refine (cmp_any p q _ 1 c d a b _ hp hq2.out rfl hl1.out (by omega) (by rw [← hl1.out]; omega)).mono ?_
  rintro e w1 ⟨rfl, hb1'⟩
  have hcd : w1.cell? (at_ q 0) = some (.int .u32 (b : Nat)) := (hq.past hb1').cells 0 (by simp)
  go_wp2_with fail
  refine (small_any p _ c a b _ (hp.past hb1') rfl hl hb0 hb1).mono ?_
  rw [HR.out]
  rintro e w2 ⟨p2, c2, rfl, ho2, hb2⟩
  go_wp2_with (refine wpl_build1 rfl _ _ rfl tyNat _ ?_ rfl ?_; omega; intro p3 w3 ho3 hb3 hz3 hp3)
  rw [Int.toNat_natCast] at ho3
  refine (norm_any p3 1 1 [r] _ ho3.rd rfl (by simp) hX.out (by simp)).mono ?_
  rintro e w4 ⟨rfl, rfl⟩
  rw [hV.out]
  go_wp2_with fail
  go_ret2
  have ht := take_dig_len B32_two [r] hX.out
  have ho4 := ho3.take (dig B32 (val B32 [r])).length
  rw [ht, hV.out] at ho4
  have hs2 := hb1'.trans (hb2.mono hb1'.size)
  exact ⟨p2, c2, p3, _, rfl, (ho2.past hb3).mono hb1'.size, ho4.mono hs2.size, hs2.trans (hb3.mono hs2.size), fun h1 h2 => by have := (ho2.blk_lt h1).2; have := (ho4.blk_lt h2).1; omega⟩

end Go.Proofs.Ytlegnbigddhmlaa
