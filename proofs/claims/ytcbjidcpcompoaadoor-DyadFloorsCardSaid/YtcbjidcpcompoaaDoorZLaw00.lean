/- The laws' helpers on natural numbers: 'long' and 'natIs'. -/
import Derived.Test.YtcbjidcpcompoaaDoorZE
namespace Go.Proofs.YtcbjidcpcompoaaDoor
open Go.RowKit Go.Slip

set_option maxHeartbeats 400000 in
theorem long_any (p : Option Addr) (n c : Nat) (r : Nat) (w : World) (hp : Rd w .i64 p (dig B16 r)) (hn : n = (dig B16 r).length) (hl : (dig B16 r).length ≤ 1000000000) :
    Calls Tryd.prog 25 #[.int .i64 0, .slice p n c] w fun e w' => e = .returned (.int .i64 (natE 0 r)) ∧ Below w.heap.size w w' := by
  subst hn
  by_cases h : 1200 < (dig B32 r).length
  · have h1 : natE 0 r = 2 := by unfold natE; rw [if_pos rfl, if_pos h]
    rw [h1]
    clear h1
    go_enter Tryd.func25, Tryd.ntmps25
    go_wp2_with fail
    refine (refTo_any p _ c r _ _ rfl hp rfl hl).mono ?_
    rintro e w1 ⟨p1, c1, rfl, ho1, hb1⟩
    go_wp2_with fail
    go_ret
    exact ⟨rfl, hb1⟩
  · have h1 : natE 0 r = 0 := by unfold natE; rw [if_pos rfl, if_neg h]
    rw [h1]
    clear h1
    go_enter Tryd.func25, Tryd.ntmps25
    go_wp2_with fail
    refine (refTo_any p _ c r _ _ rfl hp rfl hl).mono ?_
    rintro e w1 ⟨p1, c1, rfl, ho1, hb1⟩
    go_wp2_with fail
    go_ret
    exact ⟨rfl, hb1⟩

set_option maxHeartbeats 400000 in
theorem natIs_ok (p q : Option Addr) (n c m d : Nat) (r : Nat) (w : World) (hp : Rd w .u32 p (dig B32 r)) (hq : Rd w .i64 q (dig B16 r)) (hn : n = (dig B32 r).length) (hm : m = (dig B16 r).length) (hl : (dig B16 r).length ≤ 1000000000) :
    Calls Tryd.prog 26 #[.slice p n c, .int .i64 0, .int .i64 0, .slice q m d] w fun e w' => e = .returned (.bool true) ∧ Below w.heap.size w w' := by
  subst hn hm
  have hh := Nat.le_of_eq (dig_len_halves r)
  go_enter Tryd.func26, Tryd.ntmps26
  go_wp2_with fail
  refine (refTo_any q _ d r _ _ rfl hq rfl hl).mono ?_
  rintro e w1 ⟨p1, c1, rfl, ho1, hb1⟩
  go_wp2_with fail
  refine (refSameNat_any p p1 _ c _ c1 _ _ _ (hp.past hb1) ho1.rd rfl rfl rfl (by omega)).mono ?_
  rintro e w2 ⟨rfl, hb2⟩
  go_wp2_with fail
  go_ret
  exact ⟨rfl, hb1.trans (hb2.mono hb1.size)⟩

set_option maxHeartbeats 400000 in
theorem natIs_err (p q : Option Addr) (c m d : Nat) (er : Int) (w : World) (he : er ≠ 0) :
    Calls Tryd.prog 26 #[.slice p 0 c, .int .i64 er, .int .i64 er, .slice q m d] w fun e w' => e = .returned (.bool true) ∧ Below w.heap.size w w' := by
  have h1 : (er != 0) = true := by simpa using he
  have h2 : (er == er) = true := by simp
  have H := Lib.hid he
  clear he
  go_enter Tryd.func26, Tryd.ntmps26
  go_wp2_with fail
  refine (refTo_any none _ 0 0 [] _ (by rw [dig_zero]) (Rd.nil _ _ _) rfl (by simp)).mono ?_
  rw [dig_zero]
  rintro e w1 ⟨p1, c1, rfl, ho1, hb1⟩
  go_wp2_with fail
  refine (refSameNat_any p p1 _ c _ c1 [] [] _ (Rd.nil _ _ _) ho1.rd rfl rfl rfl (by simp)).mono ?_
  rintro e w2 ⟨rfl, hb2⟩
  go_wp2_with fail
  go_ret
  exact ⟨rfl, hb1.trans (hb2.mono hb1.size)⟩

/-- What a number's call answers, held against the reference's. -/
theorem natIs_any (p q : Option Addr) (n c m d : Nat) (er : Int) (r : Nat) (w : World) (hp : Rd w .u32 p (natL er r)) (hq : natE er r = 0 → Rd w .i64 q (dig B16 r) ∧ m = (dig B16 r).length) (hn : n = (natL er r).length) (hl : natE er r = 0 → (dig B16 r).length ≤ 1000000000) :
    Calls Tryd.prog 26 #[.slice p n c, .int .i64 (natE er r), .int .i64 (natE er r), .slice q m d] w fun e w' => e = .returned (.bool true) ∧ Below w.heap.size w w' := by
  by_cases h : natE er r = 0
  · have hL : natL er r = dig B32 r := by unfold natL; rw [if_pos h]
    rw [hL] at hp hn
    rw [h]
    exact natIs_ok p q n c m d r w hp (hq h).1 hn (hq h).2 (hl h)
  · have hL : natL er r = [] := by unfold natL; rw [if_neg h]
    rw [hL] at hn
    subst hn
    exact natIs_err p q c m d _ w h

end Go.Proofs.YtcbjidcpcompoaaDoor
