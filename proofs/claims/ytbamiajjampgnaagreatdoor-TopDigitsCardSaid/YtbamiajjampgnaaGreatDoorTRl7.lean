/- limb.Of, limb.Pow, limb.Root. -/
import Derived.Laws.BitsLemmas
import Derived.Deep.LoopGhost
import Derived.Laws.RangeAny
import Derived.Lib.Strings
import Derived.Shelf.Strings.Trim
import Derived.Shelf.Strconv.Atoi
import Derived.Shelf.LaysM
import Derived.Shelf.Strconv.Itoa3
import Derived.Test.YtbamiajjampgnaaGreatDoorProg
import Derived.LaidSub
import Derived.Lib.LaidTab
import Derived.Test.YtbamiajjampgnaaGreatDoorTRl1
import Derived.Test.YtbamiajjampgnaaGreatDoorTRl2
import Derived.Test.YtbamiajjampgnaaGreatDoorTRl3
import Derived.Test.YtbamiajjampgnaaGreatDoorTRl4
import Derived.Test.YtbamiajjampgnaaGreatDoorTRl5
import Derived.Test.YtbamiajjampgnaaGreatDoorTRl6
set_option maxHeartbeats 8000000
set_option maxRecDepth 100000
namespace Go.Proofs.YtbamiajjampgnaaGreatDoor
open Go.RowKit Go.Slip
def d0o (a K e f k : Nat) : Prop := e + f * k = K ∧ (1 ≤ k → 1 ≤ f) ∧ a = a
theorem d0o.start (a K : Nat) : d0o a K 0 1 K := ⟨by omega, fun _ => by omega, rfl⟩
theorem d0o.odd {a K e f k : Nat} (h : d0o a K e f k) (h1 : k % 2 = 1) : d0o a K (e + f) (f + f) (k / 2) := by
 refine ⟨?_, fun _ => by have := h.2.1; omega, rfl⟩
 have h2 := h.1
 obtain ⟨u, rfl⟩ : ∃ u, k = 2 * u + 1 := ⟨k / 2, by omega⟩
 rw [show (2 * u + 1) / 2 = u by omega]
 grind
theorem d0o.last {a K e f : Nat} (h : d0o a K e f 1) : d0o a K (e + f) f 0 := ⟨by have := h.1; omega, fun h => by omega, rfl⟩
theorem d0o.one {a K e f k : Nat} (h : d0o a K e f k) (h1 : k = 1) : d0o a K (e + f) f (k / 2) := by subst h1; exact h.last
theorem d0o.even {a K e f k : Nat} (h : d0o a K e f k) (h0 : 0 < k) (h1 : k % 2 = 0) : d0o a K e (f + f) (k / 2) := by
 refine ⟨?_, fun _ => by have := h.2.1; omega, rfl⟩
 have h2 := h.1
 obtain ⟨u, rfl⟩ : ∃ u, k = 2 * u := ⟨k / 2, by omega⟩
 rw [show (2 * u) / 2 = u by omega]
 grind
theorem d0o.le {a K e f k : Nat} (h : d0o a K e f k) (h0 : 0 < k) : e + f ≤ K := by
 have h2 := h.1
 have : f * 1 ≤ f * k := Nat.mul_le_mul_left _ h0
 omega
theorem d0o.le2 {a K e f k : Nat} (h : d0o a K e f k) : e ≤ K := by have := h.1; omega
theorem d0o.done {a K e f : Nat} (h : d0o a K e f 0) : e = K := by have := h.1; omega
structure ElF (w : World) (g o : Nat) (a : Rw) : Prop where
 c0 : w.cell? ⟨g, o, none⟩ = some (.bool a.g)
 c1 : w.cell? ⟨g, o + 1, none⟩ = some (.slice a.p (dig B16 a.m).length a.c)
 c2 : w.cell? ⟨g, o + 2, none⟩ = some (.int .i64 a.e)
 lt : g < w.heap.size
theorem ElF.e3 {w : World} {g o : Nat} {a : Rw} (h : ElF w g o a) : w.cell? ⟨g, o, none⟩ = some (.bool a.g) ∧ w.cell? ⟨g, o + 1, none⟩ = some (.slice a.p (dig B16 a.m).length a.c) ∧ w.cell? ⟨g, o + 2, none⟩ = some (.int .i64 a.e) := ⟨h.c0, h.c1, h.c2⟩
theorem ElF.below {w w' : World} {B g o : Nat} {a : Rw} (h : ElF w g o a) (hb : Below B w w') (hB : g < B) : ElF w' g o a :=
 ⟨by rw [Below.cell hb hB]; exact h.c0, by rw [Below.cell hb hB]; exact h.c1, by rw [Below.cell hb hB]; exact h.c2, Nat.lt_of_lt_of_le h.lt hb.size⟩
theorem ElF.past {w w' : World} {g o : Nat} {a : Rw} (h : ElF w g o a) (hb : Below w.heap.size w w') : ElF w' g o a := h.below hb h.lt
theorem ElF.drew {w : World} {g o : Nat} {a : Rw} (h : ElF w g o a) : ElF w.drew g o a := ⟨h.c0, h.c1, h.c2, h.lt⟩
theorem ElF.laid {w : World} {g o : Nat} {a : Rw} (h : ElF w g o a) (ob : Obj) : ElF (w.alloc ob) g o a := h.past (c0g _ _)
theorem ElF.set {w : World} {g o k i : Nat} {a : Rw} {v : Value} (h : ElF w g o a) (hne : g < k) : ElF (w.setCell ⟨k, i, none⟩ v) g o a :=
 h.below ((Below.refl k w).setCell (p := ⟨k, i, none⟩) (Nat.le_refl _) v) hne
theorem s0b (p q : OA) (n c m d : Nat) (xs ys : List Nat) (w : World) (hp : Rd w .u32 p xs) (hq : Rd w .u32 q ys) (hn : n = xs.length) (hm : m = ys.length) (hl : xs.length ≤ 9223372036854775807) (hl2 : ys.length ≤ 9223372036854775807)
 (hx : ∀ x ∈ xs, x < B32) (hy : ∀ x ∈ ys, x < B32) :
 Calls Tryz.prog 151 #[.slice p n c, .slice q m d, .func (.func 49) #[] #[]] w (p0l w (natL (err2 xs ys) (val B32 xs * val B32 ys)) (natE (err2 xs ys) (val B32 xs * val B32 ys))) := by
 subst hn hm
 by_cases he : err2 xs ys = 0
 · have hxs : a0w xs = 0 := by unfold err2 at he; split at he <;> simp_all
   have hys : a0w ys = 0 := by unfold err2 at he; rw [if_pos hxs] at he; exact he
   obtain ⟨ex, lx⟩ := c0u hx hxs
   obtain ⟨ey, ly⟩ := c0u hy hys
   have hE := hi0 he
   rw [he]
   clear hxs hys hx hy he hl hl2
   generalize val B32 xs = a at *
   generalize val B32 ys = b at *
   subst ex ey
   have hlm := b0p a0a a b
   go_enter Tryz.func151, Tryz.ntmps151
   go_wp2_with fail
   refine (p0k p q c _ d _ _ _ _ hp hq rfl rfl (by omega) (by omega)).mono ?_
   rintro e w1 ⟨rfl, rfl⟩
   rw [hE.out]
   go_wp2_with fail
   refine (n0h p q _ _ c d a b _ (hp.laid _) (hq.laid _) rfl rfl (by omega)).mono ?_
   rintro e w2 ⟨p2, c2, rfl, ho2, hb2⟩
   go_wp2_with fail
   refine (j0a p2 _ c2 w2 _ (a * b) ho2 rfl (by omega)).mono ?_
   rintro e w3 ⟨⟨p3, c3, rfl, ho3⟩, rfl⟩
   go_wp2_with fail
   go_ret2
   exact ⟨p3, c3, rfl, ho3.mono (by simp), (((Below.refl _ _).alloc (Nat.le_refl _) _)).trans (hb2.mono (by simp))⟩
 · have h1 : natE (err2 xs ys) (val B32 xs * val B32 ys) = err2 xs ys := by unfold natE; rw [if_neg he]
   have h2 : natL (err2 xs ys) (val B32 xs * val B32 ys) = [] := by unfold natL; rw [h1, if_neg he]
   rw [h1, h2]
   have hb : (err2 xs ys == 0) = false := by simpa using he
   have hb2 : (err2 xs ys != 0) = true := by simpa using he
   clear h1 h2 he
   go_enter Tryz.func151, Tryz.ntmps151
   go_wp2_with fail
   refine (p0k p q c _ d _ xs ys _ hp hq rfl rfl (by omega) (by omega)).mono ?_
   rintro e w1 ⟨rfl, rfl⟩
   go_wp2_with fail
   go_ret2
   exact ⟨none, 0, rfl, Own.nil _ _ _ _, ((Below.refl _ _).alloc (Nat.le_refl _) _)⟩
theorem a1x (p q : OA) (n c m d : Nat) (xs ys : List Nat) (w : World) (hp : Rd w .u32 p xs) (hq : Rd w .u32 q ys) (hn : n = xs.length) (hm : m = ys.length) (hl : xs.length ≤ 9223372036854775807) (hl2 : ys.length ≤ 9223372036854775807)
 (hx : ∀ x ∈ xs, x < B32) (hy : ∀ x ∈ ys, x < B32) :
 Calls Tryz.prog 86 #[.slice p n c, .slice q m d] w (p0l w (natL (err2 xs ys) (val B32 xs * val B32 ys)) (natE (err2 xs ys) (val B32 xs * val B32 ys))) := by
 subst hn hm
 go_enter Tryz.func86, Tryz.ntmps86
 go_wp2_with fail
 refine (s0b p q _ c _ d xs ys _ hp hq rfl rfl hl hl2 hx hy).mono ?_
 rintro e w1 ⟨p1, c1, rfl, ho1, hb1⟩
 go_wp2_with fail
 go_ret2
 exact ⟨p1, c1, rfl, ho1, hb1⟩
def k0i (xs : List Nat) : ByteArray := if a0w xs = 0 then a0c (a0o (val B32 xs)) else ⟨#[]⟩
theorem l0u (p : OA) (n c : Nat) (xs : List Nat) (w : World) (hp : Rd w .u32 p xs) (hn : n = xs.length) (hl : xs.length ≤ 9223372036854775807) (hx : ∀ x ∈ xs, x < B32) :
 Calls Tryz.prog 39 #[.slice p n c] w fun e w' => e = .returned (.tuple #[.string (k0i xs), .int .i64 (a0w xs)]) ∧ Below w.heap.size w w' := by
 subst hn
 by_cases he : a0w xs = 0
 · obtain ⟨ex, lx⟩ := c0u hx he
   have hS : k0i xs = a0c (a0o (val B32 xs)) := by unfold k0i; rw [if_pos he]
   rw [hS, he]
   have hE := hi0 he
   clear he hS hx hl
   generalize val B32 xs = a at *
   subst ex
   go_enter Tryz.func39, Tryz.ntmps39
   go_wp2_with fail
   refine (l0g p c _ _ _ hp rfl (by omega)).mono ?_
   rintro e w1 ⟨rfl, rfl⟩
   rw [hE.out]
   go_wp2_with fail
   refine (n0s p _ c a _ (hp.laid _) rfl (by omega)).mono ?_
   rintro e w2 ⟨rfl, hb2⟩
   go_wp2_with fail
   go_ret2
   exact ⟨rfl, (((Below.refl _ _).alloc (Nat.le_refl _) _)).trans (hb2.mono (by simp))⟩
 · have hS : k0i xs = ⟨#[]⟩ := by unfold k0i; rw [if_neg he]
   rw [hS]
   have hb : (a0w xs == 0) = false := by simpa using he
   have hb2 : (a0w xs != 0) = true := by simpa using he
   clear he hS
   go_enter Tryz.func39, Tryz.ntmps39
   go_wp2_with fail
   refine (l0g p c _ xs _ hp rfl hl).mono ?_
   rintro e w1 ⟨rfl, rfl⟩
   go_wp2_with fail
   go_ret2
   exact ⟨rfl, ((Below.refl _ _).alloc (Nat.le_refl _) _)⟩
theorem u0m : dig B32 12884901888 = [0, 3] := (l0n a0a [0, 3] _ (by unfold B32; simp) (by simp [d0v]) (by simp [B32])).symm
theorem f1r : a0o 12884901888 = [49, 50, 56, 56, 52, 57, 48, 49, 56, 56, 56] := by
 unfold a0o
 rw [if_neg (by omega), ← l0n (B := 10) (by omega) [8, 8, 8, 1, 0, 9, 4, 8, 8, 2, 1] 12884901888 (by simp) (by simp [d0v]) (by simp)]
 rfl
theorem p0t : natE (err2 [0, 1] [3]) (val B32 [0, 1] * val B32 [3]) = 0 := by
 have h : val B32 [0, 1] * val B32 [3] = 12884901888 := by simp [B32]
 have h2 : err2 [0, 1] [3] = 0 := by decide
 rw [h, h2]
 unfold natE
 rw [if_pos rfl, u0m]; rfl
theorem a1y : natL (err2 [0, 1] [3]) (val B32 [0, 1] * val B32 [3]) = [0, 3] := by
 unfold natL
 rw [if_pos p0t]
 have h : val B32 [0, 1] * val B32 [3] = 12884901888 := by simp [B32]
 rw [h, u0m]
theorem x0h : k0i [0, 3] = ⟨#[49, 50, 56, 56, 52, 57, 48, 49, 56, 56, 56]⟩ := by
 have h : val B32 [0, 3] = 12884901888 := by simp [B32]
 have h2 : a0w [0, 3] = 0 := by decide
 unfold k0i
 rw [if_pos h2, h, f1r]
 rfl
theorem u0n (w : World) : Calls Tryz.prog 33 #[] w fun e w' => e = .returned (.bool true) ∧ Below w.heap.size w w' := by
 go_enter Tryz.func33, Tryz.ntmps33
 go_wp2_with (first
   | (refine z0p rfl _ _ _ (by rfl) b0v 0 1 (by omega) (by omega) (by rfl) (by rfl) ?_; intro p1 w1 ho1 hb1 hz1 hp1)
   | (refine a0p rfl _ _ (by rfl) b0v 3 (by omega) (by rfl) ?_; intro p2 w2 ho2 hb2 hz2 hp2))
 have hr1 : Rd w1 .u32 p1 [0, 1] := ho1.rd
 have hr2 : Rd w2 .u32 p2 [3] := ho2.rd
 have hr3 := hr1.past hb2
 clear ho1 ho2 hr1
 have hb3 := hb1.trans (hb2.mono hb1.size)
 refine (a1x p1 p2 2 2 1 1 [0, 1] [3] _ hr3 hr2 rfl rfl (by simp) (by simp) (by unfold B32; simp) (by unfold B32; simp)).mono ?_
 rw [p0t, a1y]
 rintro e w3 ⟨p3, c3, rfl, ho3, hb4⟩
 have hb5 := hb3.trans (hb4.mono hb3.size)
 go_wp2_with fail
 refine (l0u p3 _ c3 [0, 3] _ ho3.rd rfl (by simp) (by unfold B32; simp)).mono ?_
 rw [x0h, show a0w [0, 3] = 0 by decide]
 rintro e w4 ⟨rfl, hb6⟩
 have hb7 := hb5.trans (hb6.mono hb5.size)
 clear hb1 hb2 hb3 hb4 hb5 hb6
 go_wp2
 go_ret
 exact ⟨rfl, hb7⟩
theorem f1s {e : Int} {r : Nat} (he : e = 0) (h : (dig B32 r).length ≤ 1200) : natE e r = 0 := by
 unfold natE; rw [if_pos he, if_neg (by omega)]
theorem f1t {e : Int} {r : Nat} (h : natE e r = 0) : natL e r = dig B32 r := by unfold natL; rw [if_pos h]
theorem g0a {r : Nat} (h : (dig B32 r).length ≤ 1200) : a0w (dig B32 r) = 0 := by
 unfold a0w
 rw [if_neg, if_neg (by omega)]
 rintro ⟨h1, h2⟩
 have h3 : 0 < r := by
  rcases Nat.eq_zero_or_pos r with h0 | h0
  · subst h0; rw [a0d] at h1; simp at h1
  · exact h0
 have := (j0f (B := B32) (s := 32) (by decide) a0a r h3).2
 omega
def z0b (s : ByteArray) : Prop := y0h s ∧ s.size ≠ 0 ∧ ¬ (dg (a0b s) 0 = 48 ∧ 1 < s.size)
open Classical in
noncomputable def f0z (s : ByteArray) : Int := if 12000 < s.size then 2 else if z0b s then 0 else 1
theorem u0o {s : ByteArray} (h : 12000 < s.size) : f0z s = 2 := by unfold f0z; rw [if_pos h]
theorem u0p {s : ByteArray} (h : ¬ 12000 < s.size) (hf : ¬ z0b s) : f0z s = 1 := by unfold f0z; rw [if_neg h, if_neg hf]
theorem p0u {s : ByteArray} (h : ¬ 12000 < s.size) (hf : z0b s) : f0z s = 0 := by unfold f0z; rw [if_neg h, if_pos hf]
theorem g0k {w w' : World} {e : Int} {r : Nat} (he : e ≠ 0) (hb : Below w.heap.size w w') : p0l w (natL e r) (natE e r) (.returned (.tuple #[.slice none 0 0, .int .i64 e])) w' := by
 have h1 : natE e r = e := by unfold natE; rw [if_neg he]
 have h2 : natL e r = [] := by unfold natL; rw [h1, if_neg he]
 rw [h1, h2]
 exact ⟨none, 0, rfl, Own.nil _ _ _ _, hb⟩
theorem a1z (w : World) (s : ByteArray) (pos : Nat) : Below w.heap.size w (w.iter s pos) := (Below.refl _ _).alloc (Nat.le_refl _) _
theorem u0q (s : ByteArray) : s.toList.isEmpty = decide (s.size = 0) := by
 rw [ByteArray.toList_eq]
 have h : s.size = s.data.toList.length := by rw [Array.length_toList]; rfl
 rw [h]
 cases s.data.toList <;> simp
theorem s0c (s : ByteArray) (w : World) (hs : s.size ≤ 12000) :
 Calls Tryz.prog 38 #[.string s] w (p0l w (natL (f0z s) (a0m (a0b s))) (natE (f0z s) (a0m (a0b s)))) := by
 have HF := hi0 (fun hf => u0p (s := s) (by omega) hf)
 have HO := hi0 (fun hf => p0u (s := s) (by omega) hf)
 go_enter Tryz.func38, Tryz.ntmps38
 go_wp2
 go_loopw [5] (fun _ wr => ∃ (pos : Nat), wr = w.iter s pos ∧ pos ≤ s.size ∧ Hid (∀ j, j < pos → 48 ≤ dg (a0b s) j ∧ dg (a0b s) j ≤ 57)) (fun _ wr => s.size - wr.iterPos w.heap.size)
 case atStart => exact ⟨0, rfl, Nat.zero_le _, fun j hj => by omega⟩
 case round =>
  obtain ⟨pos, rfl, hpos, HD⟩ := hrel
  have hbl := a1z w s
  by_cases hp : pos < s.size
  · have hg := k0x s pos hp
    by_cases hv : 48 ≤ dg (a0b s) pos ∧ dg (a0b s) pos ≤ 57
    · obtain ⟨hv1, hv2⟩ := hv
      have HN : Hid (∀ j, j < pos + 1 → 48 ≤ dg (a0b s) j ∧ dg (a0b s) j ≤ 57) := fun j hj => by
       by_cases hjp : j = pos
       · subst hjp; exact ⟨hv1, hv2⟩
       · exact HD.out j (by omega)
      have hnx : ∀ ty, (Instr.next (.pointer (some ⟨w.heap.size, 0, none⟩)) true ty).run Tryz.prog (w.iter s pos) = _ := fun ty => run_next_ascii w s pos ty hp (by rw [hg]; omega)
      rw [hg] at hnx
      generalize dg (a0b s) pos = v at *
      clear hg
      go_wp2
      go_roundw
      case rel => exact ⟨pos + 1, rfl, hp, HN⟩
      case measure => simp; omega
    · have HE := hi0 (HF.out (fun h => hv (h.1 pos hp)))
      have hr : ∃ x : Nat, (x < 48 ∨ 57 < x) ∧ x ≤ 2147483647 ∧ (Utf8.decode s pos).1 = x := by
       by_cases ha : (s[pos]'hp).toNat < 128
       · rw [decode_ascii s pos hp ha]
         exact ⟨_, by rw [hg]; omega, by omega, rfl⟩
       · exact ⟨_, .inr (by have := (decode_high s pos hp (by omega)).1; omega), decode_le s pos, rfl⟩
      obtain ⟨x, hx, hx2, hxe⟩ := hr
      have hnx : ∀ ty, (Instr.next (.pointer (some ⟨w.heap.size, 0, none⟩)) true ty).run Tryz.prog (w.iter s pos) = _ := fun ty => run_next_any w s pos ty hp
      rw [hxe] at hnx
      clear hxe hv hg
      rcases hx with hx | hx
      · go_wp2
        go_ret2
        rw [HE.out]
        exact g0k (by omega) (hbl _)
      · go_wp2
        go_ret2
        rw [HE.out]
        exact g0k (by omega) (hbl _)
  · have hnx : ∀ ty, (Instr.next (.pointer (some ⟨w.heap.size, 0, none⟩)) true ty).run Tryz.prog (w.iter s pos) = _ := fun ty => run_next_end w s pos ty hp
    obtain rfl : pos = s.size := by omega
    have HA : Hid (y0h s) := HD.out
    have hie : s.toList.isEmpty = decide (s.size = 0) := u0q s
    by_cases h0 : s.size = 0
    · have HE := hi0 (HF.out (fun h => h.2.1 h0))
      have h1 : s.size ≤ 0 := by omega
      rw [decide_eq_true h0] at hie
      clear h0
      go_wp2
      go_ret2
      rw [HE.out]
      exact g0k (by omega) (hbl _)
    · rw [decide_eq_false h0] at hie
      have h1 : 1 ≤ s.size := by omega
      have hg := k0x s 0 (by omega)
      by_cases h2 : dg (a0b s) 0 = 48 ∧ 1 < s.size
      · have HE := hi0 (HF.out (fun h => h.2.2 h2))
        obtain ⟨h3, h4⟩ := h2
        rw [h3] at hg
        clear h0 h3
        go_wp2
        go_ret2
        rw [HE.out]
        exact g0k (by omega) (hbl _)
      · have HE := hi0 (HO.out ⟨HA.out, h0, h2⟩)
        have hl : (dig B32 (a0m (a0b s))).length ≤ 12000 := by
         refine Nat.le_trans ?_ hs
         rw [a0e a0a]
         have h3 := f0q (a0b s) (fun j hj => (HA.out j (by rw [← b0b]; exact hj)).2)
         rw [b0b] at h3
         exact Nat.lt_of_lt_of_le h3 (Nat.pow_le_pow_left (by unfold B32; omega) _)
        by_cases h3 : dg (a0b s) 0 = 48
        · have h4 : s.size ≤ 1 := by
           rcases Nat.lt_or_ge 1 s.size with h | h
           · exact absurd ⟨h3, h⟩ h2
           · exact h
          rw [h3] at hg
          clear h0 h2 h3
          go_wp2_with fail
          refine (n0j s _ (by omega) HA.out).mono ?_
          rintro e w2 ⟨p2, c2, rfl, ho2, hb2⟩
          go_wp2_with fail
          refine (j0a p2 _ c2 w2 _ _ ho2 rfl (by omega)).mono ?_
          rintro e w3 ⟨⟨p3, c3, rfl, ho3⟩, rfl⟩
          go_wp2_with fail
          go_ret2
          have hb3 := (hbl s.size).trans (hb2.mono (hbl s.size).size)
          rw [HE.out]
          exact ⟨p3, c3, rfl, ho3.mono (hbl s.size).size, hb3⟩
        · have h4 : ¬ (dg (a0b s) 0 = 48) := h3
          generalize hv : dg (a0b s) 0 = v at hg h4
          have hvb : ((v : Int) == 48) = false := by simp; omega
          clear h0 h2 h3 h4 hv
          go_wp2_with fail
          refine (n0j s _ (by omega) HA.out).mono ?_
          rintro e w2 ⟨p2, c2, rfl, ho2, hb2⟩
          go_wp2_with fail
          refine (j0a p2 _ c2 w2 _ _ ho2 rfl (by omega)).mono ?_
          rintro e w3 ⟨⟨p3, c3, rfl, ho3⟩, rfl⟩
          go_wp2_with fail
          go_ret2
          have hb3 := (hbl s.size).trans (hb2.mono (hbl s.size).size)
          rw [HE.out]
          exact ⟨p3, c3, rfl, ho3.mono (hbl s.size).size, hb3⟩
theorem x0i (s : ByteArray) (w : World) :
 Calls Tryz.prog 38 #[.string s] w (p0l w (natL (f0z s) (a0m (a0b s))) (natE (f0z s) (a0m (a0b s)))) := by
 by_cases hs : s.size ≤ 12000
 · exact s0c s w hs
 · rw [u0o (by omega)]
   go_enter Tryz.func38, Tryz.ntmps38
   go_wp2
   go_ret2
   exact g0k (by omega) (Below.refl _ _)
theorem p0v {a : Nat} : z0b (a0c (a0o a)) ∧ a0m (a0b (a0c (a0o a))) = a := by
 have hb := a0v (xs := a0o a) (fun x hx => by have := d0q a x hx; omega)
 refine ⟨⟨fun j hj => ?_, ?_, ?_⟩, by rw [hb, h0m]⟩
 · rw [hb]
   rw [a0j] at hj
   rw [a0s hj]
   exact d0q a _ (List.getElem_mem hj)
 · rw [a0j]; exact (i0v a).1
 · rw [hb, a0j]; exact (i0v a).2
theorem s0d (a : Nat) (w : World) (h : (dig B32 a).length ≤ 1200) : Calls Tryz.prog 38 #[.string (a0c (a0o a))] w (p0l w (dig B32 a) 0) := by
 have h1 := x0i (a0c (a0o a)) w
 have hs : ¬ 12000 < (a0c (a0o a)).size := by rw [a0j]; have := d1d h; omega
 rw [p0u hs p0v.1, p0v.2] at h1
 have e := f1s (e := 0) rfl h
 rw [f1t e, e] at h1
 exact h1
theorem m1d : Tryz.prog.underlying 156 = some (.slice 5) := by kernel_rfl
theorem r1n : Tryz.prog.underlying 5 = some (.int .u8) := by kernel_rfl
theorem f1u : Tryz.prog.underlying 9 = some .string := by kernel_rfl
theorem u0r (xs ys : List Nat) : a0c xs ++ a0c ys = a0c (xs ++ ys) := by
 apply ByteArray.ext
 simp [a0c]
theorem u0s (xs : List Nat) (s : ByteArray) (h : s = a0c xs) (j : Nat) (hj : j < s.size) (hx : dg xs j < 256) : (s[j]'hj).toNat = dg xs j := by
 subst h
 have hj2 : j < xs.length := by rw [← a0j xs]; exact hj
 rw [a0s hj2] at hx ⊢
 have e : (a0c xs)[j]'hj = UInt8.ofNat xs[j] := by
  have h1 : (a0c xs)[j]'hj = ((a0c xs).data.toList)[j]'(by rw [o0o]; simpa using hj2) := by rw [Array.getElem_toList]; rfl
  rw [h1]
  simp only [o0o, List.getElem_map]
 rw [e, UInt8.toNat_ofNat', Nat.mod_eq_of_lt hx]
theorem i0e (xs : List Nat) (k : Nat) : (a0c xs).extract k (a0c xs).size = a0c (xs.drop k) := by
 apply ByteArray.ext
 rw [ByteArray.data_extract]
 apply Array.ext'
 rw [Array.toList_extract, a0j]
 simp [a0c, List.map_drop, List.extract]
 rw [List.take_of_length_le (by simp)]
theorem i0q (D : List Nat) (x : Nat) (s : ByteArray) (h : s = a0c (Txt D)) : a0c [x + 48] ++ s = a0c (Txt (D ++ [x])) := by
 rw [h, u0r, j1v]; rfl
theorem n0w (p : OA) (n c : Nat) (a : Nat) (w : World) (hp : Rd w .i64 p (dig B16 a)) (hn : n = (dig B16 a).length) (hl : (dig B16 a).length ≤ 10000000) :
 Calls Tryz.prog 35 #[.slice p n c] w fun e w' => e = .returned (.string (a0c (a0o a))) ∧ Below w.heap.size w w' := by
 subst hn
 go_enter Tryz.func35, Tryz.ntmps35
 go_wp2
 go_loopg [0, 3] a (fun g av sv wr => ∃ (A : Nat) (D : List Nat) (q : OA) (d : Nat) (s : ByteArray), av = .slice q (dig B16 A).length d ∧ sv = .string s ∧ A ≤ g ∧ Rd wr .i64 q (dig B16 A) ∧ (dig B16 A).length ≤ 10000000 ∧ Below w.heap.size w wr ∧
     Hid (s = a0c (Txt D)) ∧ s.size ≤ 160000000 ∧ D.length ≤ 160000000 ∧ Hid (k0g a D A))
 case atStart => exact ⟨a, [], p, c, _, rfl, rfl, Nat.le_refl _, hp, hl, Below.refl _ _, rfl, Nat.zero_le _, Nat.zero_le _, k0g.start a⟩
 case round =>
  obtain ⟨A, D, q, d, s, rfl, rfl, hg, hq, hlA, hb, hS, hsz, hD, HR⟩ := hrel
  go_wp2_with (refine a0p rfl _ _ (by rfl) tyN 10000 (by omega) (by rfl) ?_; intro p2 w2 ho2 hb2 hz2 hp2)
  have hr2 : Rd w2 .i64 p2 [10000] := ho2.rd
  refine (w0t q p2 _ 1 d 1 A 10000 _ (hq.past hb2) hr2 rfl rfl (by omega) (by omega) (by omega)).mono ?_
  rintro e w3 ⟨p3, c3, p4, c4, rfl, hr3, -, -, hr4, -, -, hb3⟩
  have hb4 := hb.trans ((hb2.mono hb.size).trans (hb3.mono (Nat.le_trans hb.size hb2.size)))
  have HE := hi0 HR.out.enter
  have hq3 : (dig B16 (A / 10000)).length ≤ 10000000 := Nat.le_trans (a0i a0l (Nat.div_le_self _ _)) hlA
  have hAd : A / 10000 < A ∨ A / 10000 = 0 := by omega
  have hrl : A % 10000 < 10000 := Nat.mod_lt _ (by omega)
  generalize A / 10000 = B at *
  generalize A % 10000 = r at *
  have hs4 := hr4.solid
  clear hb hb2 hb3 ho2 hr2 hz2 hp2 hq
  by_cases h0 : r = 0
  · subst h0
    rw [a0d] at *
    go_wp2
    go_loopw [3, 6, 7] (fun sv dv iv wr2 => ∃ (i t : Nat) (D2 : List Nat) (s2 : ByteArray), iv = .int .i64 i ∧ dv = .int .i64 t ∧ sv = .string s2 ∧ i ≤ 4 ∧ t < 10000 ∧ Below w.heap.size w wr2 ∧ Hid (s2 = a0c (Txt D2)) ∧ Hid (D2.length = D.length + i) ∧ s2.size ≤ 160000000 + i ∧ Hid (u0l a D2 i t B) ∧ Rd wr2 .i64 p3 (dig B16 B))
     (fun _ _ iv _ => 4 - (intOf iv).toNat)
    case atStart => exact ⟨0, 0, D, s, rfl, rfl, rfl, by omega, hrl, hb4, hS, rfl, by omega, HE, hr3⟩
    case round =>
     obtain ⟨i, t, D2, s2, rfl, rfl, rfl, hi, ht, hb5, hS2, hD2, hz2, HG, hr5⟩ := hrel
     by_cases h4 : i < 4
     · have HN := hi0 (HG.out.step h4)
       have hone : (a0c [48 + t % 10]).size ≤ 1 := by rw [a0j]; simp
       go_wp2_with (first
         | (refine a0p rfl _ _ rfl k0q _ ?_ rfl ?_; omega; intro p6 w6 ho6 hb6 hz6 hp6)
         | (refine v0p rfl _ _ _ (by rfl) m1d r1n f1u _ _ _ _ ho6.rd ?_ (by rfl) ?_; simp))
       go_roundw
       case measure => simp [intOf]; omega
       case rel =>
        refine ⟨i + 1, t / 10, D2 ++ [t % 10], _, by go_num, by go_num, rfl, by omega, by omega, hb5.trans (hb6.mono hb5.size), ?_, ?_, ?_, HN, hr5.past hb6⟩
        · show _ = a0c (Txt (D2 ++ [t % 10]))
          rw [← i0q D2 (t % 10) s2 hS2.out, Nat.add_comm]
        · show (D2 ++ [t % 10]).length = D.length + (i + 1)
          rw [List.length_append, List.length_singleton, hD2.out]; omega
        · rw [ByteArray.size_append, a0j]; simp; omega
     · obtain rfl : i = 4 := by omega
       have HO := hi0 HG.out.leave
       by_cases hB : 0 < B
       · have hlB : 1 ≤ (dig B16 B).length := List.length_pos_iff.2 ((d0g a0l B).2.2.2 hB)
         have hsb := HO.out.size hB
         have hAB : B < A := by omega
         have hs3 : s2.size ≤ D2.length := by rw [hS2.out, a0j, g0j]; exact Nat.le_refl _
         go_wp2
         go_roundg B
         case measure => omega
         case rel => exact ⟨B, D2, p3, c3, s2, rfl, rfl, Nat.le_refl _, hr5, hq3, hb5, hS2, by omega, by omega, HO⟩
       · obtain rfl : B = 0 := by omega
         rw [a0d] at *
         have hs3 : s2.size = D2.length := by rw [hS2.out, a0j, g0j]
         have hs5 : D2.length ≤ s2.size := by omega
         have hs6 : 4 ≤ s2.size := by rw [hs3, hD2.out]; omega
         have HS3 := hi0 hs3
         have HV := hi0 (show val 10 D2 = a by have := HO.out.2; rw [this]; simp)
         clear hs3
         go_wp2
         go_loop [8] (fun kv => ∃ (k : Nat), kv = .int .i64 k ∧ k < s2.size ∧ Hid (∀ j, D2.length - k ≤ j → dg D2 j = 0)) (fun kv => s2.size - (intOf kv).toNat)
         case atStart => exact ⟨0, rfl, by omega, fun j hj => b0n (by omega)⟩
         case round =>
          obtain ⟨k, rfl, hk, HZ⟩ := hrel
          have hkd : dg D2 (D2.length - 1 - k) < 10 := a0n (by omega) D2 HO.out.1 _
          have hgt := u0s (Txt D2) s2 hS2.out k hk (by rw [z0a (by rw [← HS3.out]; exact hk)]; omega)
          rw [z0a (by rw [← HS3.out]; exact hk)] at hgt
          by_cases hk1 : k + 1 < s2.size
          · by_cases hk2 : dg D2 (D2.length - 1 - k) = 0
            · rw [hk2] at hgt
              have HN : Hid (∀ j, D2.length - (k + 1) ≤ j → dg D2 j = 0) := fun j hj => by
               by_cases hjk : j = D2.length - 1 - k
               · rw [hjk]; exact hk2
               · exact HZ.out j (by omega)
              clear hk2 hkd
              go_wp2
              go_round
              case rel => exact ⟨k + 1, by go_num, hk1, HN⟩
              case measure => simp [intOf]; omega
            · obtain ⟨v, hv⟩ : ∃ v, v = dg D2 (D2.length - 1 - k) + 48 := ⟨_, rfl⟩
              rw [← hv] at hgt
              have hv1 : 49 ≤ v := by omega
              have hv2 : v ≤ 57 := by omega
              have HD := hi0 (k0h D2 k HO.out.1 (by have := HS3.out; omega) HZ.out (.inr hk2))
              rw [HV.out] at HD
              clear hk2 hkd hv
              go_wp2
              go_ret
              rw [← HD.out, ← i0e, ← hS2.out]
              exact ⟨rfl, hb5⟩
          · have HD := hi0 (k0h D2 k HO.out.1 (by have := HS3.out; omega) HZ.out (.inl (by have := HS3.out; omega)))
            rw [HV.out] at HD
            clear hgt hkd
            go_wp2
            go_ret
            rw [← HD.out, ← i0e, ← hS2.out]
            exact ⟨rfl, hb5⟩
  · have hr0 : 1 ≤ r := by omega
    have e1 := n0k (B := B16) a0l hr0 (by unfold B16; omega)
    rw [e1] at hr4 hs4 ⊢
    simp only [List.length_singleton] at hs4
    have hc4 : w3.cell? (at_ p4 0) = some (.int .i64 (r : Nat)) := hr4.cells 0 (by simp)
    clear h0 e1
    go_wp2
    go_loopw [3, 6, 7] (fun sv dv iv wr2 => ∃ (i t : Nat) (D2 : List Nat) (s2 : ByteArray), iv = .int .i64 i ∧ dv = .int .i64 t ∧ sv = .string s2 ∧ i ≤ 4 ∧ t < 10000 ∧ Below w.heap.size w wr2 ∧ Hid (s2 = a0c (Txt D2)) ∧ Hid (D2.length = D.length + i) ∧ s2.size ≤ 160000000 + i ∧ Hid (u0l a D2 i t B) ∧ Rd wr2 .i64 p3 (dig B16 B))
     (fun _ _ iv _ => 4 - (intOf iv).toNat)
    case atStart => exact ⟨0, r, D, s, rfl, rfl, rfl, by omega, hrl, hb4, hS, rfl, by omega, HE, hr3⟩
    case round =>
     obtain ⟨i, t, D2, s2, rfl, rfl, rfl, hi, ht, hb5, hS2, hD2, hz2, HG, hr5⟩ := hrel
     by_cases h4 : i < 4
     · have HN := hi0 (HG.out.step h4)
       have hone : (a0c [48 + t % 10]).size ≤ 1 := by rw [a0j]; simp
       go_wp2_with (first
         | (refine a0p rfl _ _ rfl k0q _ ?_ rfl ?_; omega; intro p6 w6 ho6 hb6 hz6 hp6)
         | (refine v0p rfl _ _ _ (by rfl) m1d r1n f1u _ _ _ _ ho6.rd ?_ (by rfl) ?_; simp))
       go_roundw
       case measure => simp [intOf]; omega
       case rel =>
        refine ⟨i + 1, t / 10, D2 ++ [t % 10], _, by go_num, by go_num, rfl, by omega, by omega, hb5.trans (hb6.mono hb5.size), ?_, ?_, ?_, HN, hr5.past hb6⟩
        · show _ = a0c (Txt (D2 ++ [t % 10]))
          rw [← i0q D2 (t % 10) s2 hS2.out, Nat.add_comm]
        · show (D2 ++ [t % 10]).length = D.length + (i + 1)
          rw [List.length_append, List.length_singleton, hD2.out]; omega
        · rw [ByteArray.size_append, a0j]; simp; omega
     · obtain rfl : i = 4 := by omega
       have HO := hi0 HG.out.leave
       by_cases hB : 0 < B
       · have hlB : 1 ≤ (dig B16 B).length := List.length_pos_iff.2 ((d0g a0l B).2.2.2 hB)
         have hsb := HO.out.size hB
         have hAB : B < A := by omega
         have hs3 : s2.size ≤ D2.length := by rw [hS2.out, a0j, g0j]; exact Nat.le_refl _
         go_wp2
         go_roundg B
         case measure => omega
         case rel => exact ⟨B, D2, p3, c3, s2, rfl, rfl, Nat.le_refl _, hr5, hq3, hb5, hS2, by omega, by omega, HO⟩
       · obtain rfl : B = 0 := by omega
         rw [a0d] at *
         have hs3 : s2.size = D2.length := by rw [hS2.out, a0j, g0j]
         have hs5 : D2.length ≤ s2.size := by omega
         have hs6 : 4 ≤ s2.size := by rw [hs3, hD2.out]; omega
         have HS3 := hi0 hs3
         have HV := hi0 (show val 10 D2 = a by have := HO.out.2; rw [this]; simp)
         clear hs3
         go_wp2
         go_loop [8] (fun kv => ∃ (k : Nat), kv = .int .i64 k ∧ k < s2.size ∧ Hid (∀ j, D2.length - k ≤ j → dg D2 j = 0)) (fun kv => s2.size - (intOf kv).toNat)
         case atStart => exact ⟨0, rfl, by omega, fun j hj => b0n (by omega)⟩
         case round =>
          obtain ⟨k, rfl, hk, HZ⟩ := hrel
          have hkd : dg D2 (D2.length - 1 - k) < 10 := a0n (by omega) D2 HO.out.1 _
          have hgt := u0s (Txt D2) s2 hS2.out k hk (by rw [z0a (by rw [← HS3.out]; exact hk)]; omega)
          rw [z0a (by rw [← HS3.out]; exact hk)] at hgt
          by_cases hk1 : k + 1 < s2.size
          · by_cases hk2 : dg D2 (D2.length - 1 - k) = 0
            · rw [hk2] at hgt
              have HN : Hid (∀ j, D2.length - (k + 1) ≤ j → dg D2 j = 0) := fun j hj => by
               by_cases hjk : j = D2.length - 1 - k
               · rw [hjk]; exact hk2
               · exact HZ.out j (by omega)
              clear hk2 hkd
              go_wp2
              go_round
              case rel => exact ⟨k + 1, by go_num, hk1, HN⟩
              case measure => simp [intOf]; omega
            · obtain ⟨v, hv⟩ : ∃ v, v = dg D2 (D2.length - 1 - k) + 48 := ⟨_, rfl⟩
              rw [← hv] at hgt
              have hv1 : 49 ≤ v := by omega
              have hv2 : v ≤ 57 := by omega
              have HD := hi0 (k0h D2 k HO.out.1 (by have := HS3.out; omega) HZ.out (.inr hk2))
              rw [HV.out] at HD
              clear hk2 hkd hv
              go_wp2
              go_ret
              rw [← HD.out, ← i0e, ← hS2.out]
              exact ⟨rfl, hb5⟩
          · have HD := hi0 (k0h D2 k HO.out.1 (by have := HS3.out; omega) HZ.out (.inl (by have := HS3.out; omega)))
            rw [HV.out] at HD
            clear hgt hkd
            go_wp2
            go_ret
            rw [← HD.out, ← i0e, ← hS2.out]
            exact ⟨rfl, hb5⟩
end Go.Proofs.YtbamiajjampgnaaGreatDoor
namespace Go.Slip
open Go.RowKit
theorem h0a (s : ByteArray) : a0c (a0b s) = s := by
 unfold a0c a0b
 rw [List.map_map, show (UInt8.ofNat ∘ UInt8.toNat) = id from funext fun x => by simp]
 simp
theorem s0e {s r : ByteArray} (h : a0b s = a0b r) : s = r := by rw [← h0a s, h, h0a]
theorem o1k {s : ByteArray} : s = ByteArray.mk #[] ↔ a0b s = [] := ⟨fun h => by subst h; rfl, fun h => s0e (by rw [h]; rfl)⟩
def Byt (l : List Nat) : Prop := ∀ x ∈ l, x < 256
theorem Byt.of (s : ByteArray) : Byt (a0b s) := o0v s
theorem Byt.drop {l : List Nat} (h : Byt l) (k : Nat) : Byt (l.drop k) := fun x hx => h x (List.mem_of_mem_drop hx)
theorem Byt.take {l : List Nat} (h : Byt l) (k : Nat) : Byt (l.take k) := fun x hx => h x (List.mem_of_mem_take hx)
theorem Byt.append {l m : List Nat} (h : Byt l) (k : Byt m) : Byt (l ++ m) := fun x hx => (List.mem_append.1 hx).elim (h x) (k x)
theorem l0k {l : List Nat} (h : Byt l) (i j : Nat) : (a0c l).extract i j = a0c ((l.take j).drop i) := s0e (by rw [c0x, a0v h, a0v ((h.take j).drop i)])
theorem o1l (xs ys : List Nat) : a0c xs ++ a0c ys = a0c (xs ++ ys) := by
 apply ByteArray.ext
 simp [a0c]
theorem s0f {l : List Nat} (h : Byt l) : a0c l = ByteArray.mk #[] ↔ l = [] := by rw [o1k, a0v h]
section
variable {P : Program} {W : World}
theorem j1w {s r : ByteArray} (h : s.size + r.size ≤ 9223372036854775807) {t : TypeId} {x y : Operand} : (do eqGuard .add t x y (.string s) (.string r); binOp .add t (.string s) (.string r) : Sem Value).run P W = .ok (.string (s ++ r)) W := by
 simp [go_sem, eqGuard, h]
theorem m0c {s r : ByteArray} {b : Bool} (h : (s = r) ↔ b = true) {t : TypeId} {x y : Operand} : (do eqGuard .eql t x y (.string s) (.string r); binOp .eql t (.string s) (.string r) : Sem Value).run P W = .ok (.bool b) W := by
 cases b
 · have : ¬ s = r := fun k => by have := h.1 k; cases this
   have k : ¬ s.toList = r.toList := fun e => this (by rw [Lib.toList_data, Lib.toList_data] at e; rw [← Lib.mk_data s, e, Lib.mk_data])
   simp [go_sem, eqGuard, k]
 · have := h.2 rfl
   subst this
   simp [go_sem, eqGuard]
theorem j1x {s r : ByteArray} {b : Bool} (h : (s = r) ↔ b = false) {t : TypeId} {x y : Operand} : (do eqGuard .neq t x y (.string s) (.string r); binOp .neq t (.string s) (.string r) : Sem Value).run P W = .ok (.bool b) W := by
 cases b
 · have := h.2 rfl
   subst this
   simp [go_sem, eqGuard]
 · have : ¬ s = r := fun k => by have := h.1 k; cases this
   have k : ¬ s.toList = r.toList := fun e => this (by rw [Lib.toList_data, Lib.toList_data] at e; rw [← Lib.mk_data s, e, Lib.mk_data])
   simp [go_sem, eqGuard, k]
theorem f1v {t : TypeId} (ht : P.underlying t = some .string) {s : ByteArray} {i : Int} {j : Nat} (hi : i = j) (hj : j < s.size) : (VO.sx t (.string s) (.int .i64 i)).sem.run P W = .ok (.int .u8 ((dg (a0b s) j : Nat) : Int)) W := by
 subst hi
 rw [← k0x s j hj]
 simp [VO.sem, go_sem, ht, hj]
theorem i0r {t : TypeId} (ht : P.underlying t = some .string) {s : ByteArray} {lo : Option Value} {hi : Option Value} {i j : Nat} (h1 : lo = none ∧ i = 0 ∨ lo = some (.int .i64 i)) (h2 : hi = none ∧ j = s.size ∨ hi = some (.int .i64 j)) (hij : i ≤ j) (hj : j ≤ s.size) : (VO.sl t (.string s) lo hi none).sem.run P W = .ok (.string (s.extract i j)) W := by
 rcases h1 with ⟨rfl, rfl⟩ | rfl <;> rcases h2 with ⟨rfl, rfl⟩ | rfl <;> simp [VO.sem, go_sem, ht, hij, hj]
end
end Go.Slip
namespace Go.Slip
def mayT (c : Nat) : List Nat → Bool × List Nat
 | b :: r => if b = c then (true, r) else (false, b :: r)
 | [] => (false, [])
theorem m0d {l : List Nat} (h : Byt l) (c : Nat) : Byt (mayT c l).2 := by
 cases l with
 | nil => exact h
 | cons b r =>
  show Byt (if b = c then (true, r) else (false, b :: r)).2
  split
  · exact h.drop 1
  · exact h
theorem r1o {l : List Nat} {j : Nat} (hj : j ≤ l.length) (h : ∀ i, i < j → isDg (dg l i) = true) (hs : j < l.length → isDg (dg l j) = false) : l.takeWhile isDg = l.take j ∧ l.dropWhile isDg = l.drop j := by
 have e := List.take_append_drop j l
 have h1 : ∀ x ∈ l.take j, isDg x = true := fun x hx => by
  obtain ⟨i, hi, rfl⟩ := List.mem_iff_getElem.1 hx
  rw [List.getElem_take]
  have := h i (by rw [List.length_take] at hi; omega)
  rwa [a0s (by rw [List.length_take] at hi; omega)] at this
 rcases Nat.lt_or_ge j l.length with h2 | h2
 · have h3 := hs h2
   rw [a0s h2] at h3
   have h4 := n0g h3 (l.drop (j + 1)) h1
   rw [← List.drop_eq_getElem_cons h2, e] at h4
   exact h4
 · have h4 := y0t h1
   rw [List.take_of_length_le h2] at h4 ⊢
   rw [List.drop_of_length_le h2]
   exact h4
end Go.Slip
namespace Go.Proofs.YtbamiajjampgnaaGreatDoor
open Go.RowKit Go.Slip
theorem uSt : Tryz.prog.underlying 9 = some .string := by kernel_rfl
theorem o1m (l : List Nat) (hb : Byt l) (c u : Nat) (w : World) (U : Bt w u 170 #[.string (a0c l)]) :
 Calls Tryz.prog 106 #[.pointer (some ⟨u, 0, none⟩), .int .u8 (c : Int)] w fun en w' => en = .returned (.bool (mayT c l).1) ∧ Kp [u] w w' ∧ Bt w' u 170 #[.string (a0c (mayT c l).2)] := by
 cases l with
 | nil =>
  have I := Inv.startW w u 170 [.v (.string (a0c []))] [] U True.intro True.intro
  refine a0g [.p 0 0, .v (.int .u8 (c : Int))] I Tryz.func106 ?_
  refine zbin I 9 _ (fun _ _ _ _ _ => m0c (s := a0c []) (r := ⟨#[]⟩) (iff_of_true rfl rfl)) fun Al W I => zret I fun Al W I => ⟨rfl, I.bel, I.boxE 170 _⟩
 | cons b r =>
  have hn : a0c (b :: r) ≠ ByteArray.mk #[] := fun h => by have := (s0f hb).1 h; cases this
  have h0 : dg (a0b (a0c (b :: r))) 0 = b := by rw [a0v hb]; rfl
  have hz : 0 < (a0c (b :: r)).size := by rw [a0j]; exact Nat.succ_pos _
  have hd : (a0c (b :: r)).extract 1 (a0c (b :: r)).size = a0c r := by rw [l0k hb, a0j, List.take_length]; rfl
  rw [show mayT c (b :: r) = if b = c then (true, r) else (false, b :: r) from rfl]
  generalize hs : a0c (b :: r) = s at *
  have I := Inv.startW w u 170 [.v (.string s)] [] U True.intro True.intro
  refine a0g [.p 0 0, .v (.int .u8 (c : Int))] I Tryz.func106 ?_
  refine zbin I 9 _ (fun _ _ _ _ _ => m0c (s := s) (r := ⟨#[]⟩) (b := false) (iff_of_false hn Bool.false_ne_true)) fun Al W I => zx I 15 (fun _ => .int .u8 (b : Int)) (fun Al W I => (by rw [← h0]; exact f1v uSt rfl hz)) fun Al W I => ?_
  rcases bTF ((b : Int) != (c : Int)) with f17 | f17
  · refine zb I 17 ((b : Int) != (c : Int)) (true) (f17) fun Al W I => zret I (v := fun Al => .bool false) fun Al W I => ?_
    first | (rw [if_neg (fun h => bne_iff_ne.1 f17 (by rw [h]))]; exact ⟨rfl, I.bel, hs ▸ I.boxE 170 _⟩) | (rw [if_pos (by have h : (b : Int) = c := (by simpa using f17); omega)]; exact ⟨rfl, I.bel, I.boxE 170 _⟩)
  refine zb I 17 ((b : Int) != (c : Int)) (false) (f17) fun Al W I => zx I 24 (fun _ => .string (a0c r)) (fun Al W I => (by rw [← hd]; exact i0r uSt (.inr rfl) (.inl ⟨rfl, rfl⟩) hz (Nat.le_refl _))) fun Al W I => zret I (v := fun Al => .bool true) fun Al W I => ?_
  (rw [if_pos (by have h : (b : Int) = c := (by simpa using f17); omega)]; exact ⟨rfl, I.bel, I.boxE 170 _⟩)
theorem b1a (l : List Nat) (hb : Byt l) (hl : l.length ≤ 1000000000) (u : Nat) (w : World) (U : Bt w u 170 #[.string (a0c l)]) :
 Calls Tryz.prog 107 #[.pointer (some ⟨u, 0, none⟩)] w fun en w' => en = .returned (.string (a0c (l.takeWhile isDg))) ∧ Kp [u] w w' ∧ Bt w' u 170 #[.string (a0c (l.dropWhile isDg))] := by
 have hg : a0b (a0c l) = l := a0v hb
 have hz : (a0c l).size = l.length := a0j l
 have ht := fun j => l0k hb 0 j
 have hd : ∀ j, (a0c l).extract j (a0c l).size = a0c (l.drop j) := fun j => by rw [l0k hb, a0j, List.take_length]
 have hT := fun (j : Nat) h1 h2 h3 => r1o (l := l) (j := j) h1 h2 h3
 generalize a0c l = s at *
 have I := Inv.startW w u 170 [.v (.string s)] [] U True.intro True.intro
 refine a0g [.p 0 0] I Tryz.func107 ?_
 refine o0h I (fun gk fr bx gs => ∃ (U900 : Nat → Value) (j : Nat), fr = (.p 0 0 :: .v undef :: .v (Go.Value.string (ByteArray.mk #[])) :: .v (.int .i64 (j : Int)) :: .v undef :: sw U900 5 43 [] : List SV) ∧ bx = [⟨170, [.v (.string s)], false⟩] ∧ gs = [] ∧ (j ≤ l.length) ∧ (∀ i, i < j → isDg (dg l i) = true) ∧ (gk + j = l.length)) l.length (fun Al W U I => ⟨_, ⟨U, 0, rfl, rfl, rfl, (Nat.zero_le _), (fun i hi => absurd hi (Nat.not_lt_zero i)), (Nat.add_zero _)⟩, I.pick []⟩) ?_
 rintro J0 gk0 _ _ _ ⟨U900, j, rfl, rfl, rfl, hj, hall, hgk⟩ hJ0 Al W I
 rcases bTF (decide ((j : Int) < (s.size : Int))) with f11 | f11
 · refine zb I 11 (decide ((j : Int) < (s.size : Int))) (true) (f11) fun Al W I => zx I 18 (fun _ => .int .u8 ((dg l j : Nat) : Int)) (fun Al W I => (by rw [← hg]; exact f1v uSt rfl (by have := oTr f11; omega))) fun Al W I => ?_
   rcases bTF (decide (((dg l j : Nat) : Int) ≥ 48)) with f19 | f19
   · refine zb I 19 (decide (((dg l j : Nat) : Int) ≥ 48)) (true) (f19) fun Al W I => zx I 27 (fun _ => .int .u8 ((dg l j : Nat) : Int)) (fun Al W I => (by rw [← hg]; exact f1v uSt rfl (by have := oTr f11; omega))) fun Al W I => ?_
     rcases bTF (decide (((dg l j : Nat) : Int) ≤ 57)) with f28 | f28
     · refine zb I 28 (decide (((dg l j : Nat) : Int) ≤ 57)) (true) (f28) fun Al W I => zi I 31 .i64 ((j : Int) + 1) ((((j + 1 : Nat) : Int))) ((by have := oTr f11; exact iwo)) fun Al W I => a0r I J0 fun Al W U I => hJ0 (gk0 - 1) _ _ _ _ _ ((by have := oTr f11; omega)) ⟨U, j + 1, rfl, rfl, rfl, (by have := oTr f11; omega), (fun i hi => by have := oTr f19; have := oTr f28; exact (Nat.lt_or_ge i j).elim (fun h => hall i h) (fun h => by rw [show i = j by omega]; exact r0k (by omega))), (by have := oTr f11; omega)⟩ (I.pick [])
     refine zb I 28 (decide (((dg l j : Nat) : Int) ≤ 57)) (false) (f28) fun Al W I => zx I 37 (fun _ => .string (s.extract 0 j)) (fun Al W I => (i0r uSt (.inl ⟨rfl, rfl⟩) (.inr rfl) (Nat.zero_le _) (by omega))) fun Al W I => zx I 44 (fun _ => .string (s.extract j s.size)) (fun Al W I => (i0r uSt (.inr rfl) (.inl ⟨rfl, rfl⟩) (by omega) (Nat.le_refl _))) fun Al W I => ?_
     have hst : j < l.length → isDg (dg l j) = false := fun hjl => by ((have := oFa f28; unfold isDg; rw [decide_eq_false (p := dg l j ≤ 57) (by omega), Bool.and_false]))
     obtain ⟨e1, e2⟩ := hT j hj hall hst
     rw [e1, e2, ← hd j]
     exact zret I (v := fun Al => .string (s.extract 0 j)) fun Al W I => ⟨by rw [ht j]; rfl, I.bel, I.boxE 170 _⟩
   refine zb I 19 (decide (((dg l j : Nat) : Int) ≥ 48)) (false) (f19) fun Al W I => zx I 37 (fun _ => .string (s.extract 0 j)) (fun Al W I => (i0r uSt (.inl ⟨rfl, rfl⟩) (.inr rfl) (Nat.zero_le _) (by omega))) fun Al W I => zx I 44 (fun _ => .string (s.extract j s.size)) (fun Al W I => (i0r uSt (.inr rfl) (.inl ⟨rfl, rfl⟩) (by omega) (Nat.le_refl _))) fun Al W I => ?_
   have hst : j < l.length → isDg (dg l j) = false := fun hjl => by ((have := oFa f19; unfold isDg; rw [decide_eq_false (by omega)]; rfl))
   obtain ⟨e1, e2⟩ := hT j hj hall hst
   rw [e1, e2, ← hd j]
   exact zret I (v := fun Al => .string (s.extract 0 j)) fun Al W I => ⟨by rw [ht j]; rfl, I.bel, I.boxE 170 _⟩
 refine zb I 11 (decide ((j : Int) < (s.size : Int))) (false) (f11) fun Al W I => zx I 37 (fun _ => .string (s.extract 0 j)) (fun Al W I => (i0r uSt (.inl ⟨rfl, rfl⟩) (.inr rfl) (Nat.zero_le _) (by omega))) fun Al W I => zx I 44 (fun _ => .string (s.extract j s.size)) (fun Al W I => (i0r uSt (.inr rfl) (.inl ⟨rfl, rfl⟩) (by omega) (Nat.le_refl _))) fun Al W I => ?_
 have hst : j < l.length → isDg (dg l j) = false := fun hjl => by ((have := oFa f11; exfalso; omega))
 obtain ⟨e1, e2⟩ := hT j hj hall hst
 rw [e1, e2, ← hd j]
 exact zret I (v := fun Al => .string (s.extract 0 j)) fun Al W I => ⟨by rw [ht j]; rfl, I.bel, I.boxE 170 _⟩
end Go.Proofs.YtbamiajjampgnaaGreatDoor
namespace Go.Proofs.YtbamiajjampgnaaGreatDoor
def x0j : Go.Shelf.Ren := ⟨fun | 161 => 45 | 231 => 109 | 227 => 110 | 233 => 111 | 235 => 112 | 228 => 162 | 197 => 163 | 151 => 164 | 260 => 194 | 152 => 195 | 137 => 202 | 119 => 203 | 224 => 204 | 225 => 205 | 217 => 214 | 266 => 221 | n => n, fun | 9 => 9 | 4 => 4 | 3 => 3 | 5 => 5 | 117 => 182 | 116 => 181 | 0 => 0 | 124 => 185 | 105 => 233 | 21 => 21 | 119 => 263 | 46 => 178 | 139 => 266 | 138 => 265 | n => n, fun | 3 => 3 | 4 => 4 | n => n⟩
theorem o1n : Go.Proofs.Lays.n161 Tryz.prog x0j := by constructor <;> first | (intros; kernel_rfl) | (constructor <;> (intros; kernel_rfl))
def x0k : Go.Shelf.Ren := ⟨fun | 172 => 108 | 244 => 160 | 245 => 161 | 247 => 189 | 279 => 190 | 280 => 191 | 281 => 192 | 282 => 193 | 287 => 199 | 316 => 200 | 171 => 142 | 205 => 201 | 321 => 212 | 322 => 213 | 243 => 183 | 246 => 197 | 283 => 208 | 284 => 209 | 285 => 210 | 286 => 211 | 129 => 217 | 317 => 216 | 318 => 218 | 319 => 219 | 320 => 220 | 337 => 165 | 338 => 222 | n => n, fun | 9 => 9 | 3 => 3 | 75 => 174 | 76 => 175 | 4 => 4 | 5 => 5 | 167 => 248 | 37 => 156 | 0 => 0 | 85 => 249 | 2 => 2 | 168 => 251 | 53 => 177 | 175 => 257 | 46 => 178 | 210 => 261 | 127 => 277 | 145 => 280 | 143 => 278 | 21 => 21 | 171 => 271 | 173 => 274 | 212 => 282 | 51 => 143 | 20 => 20 | 213 => 283 | 232 => 255 | 233 => 285 | 80 => 172 | n => n, fun | 15 => 1 | 16 => 2 | 17 => 6 | 18 => 0 | 19 => 7 | n => n⟩
theorem o1o : Go.Proofs.Lays.n172 Tryz.prog x0k := by constructor <;> first | (intros; kernel_rfl) | (constructor <;> (intros; kernel_rfl))
def u0t : Go.Shelf.Ren := ⟨fun | 171 => 142 | 243 => 183 | 246 => 197 | 283 => 208 | 284 => 209 | 285 => 210 | 286 => 211 | 129 => 217 | 317 => 216 | 318 => 218 | 319 => 219 | 320 => 220 | 337 => 165 | 338 => 222 | n => n, fun | 3 => 3 | 9 => 9 | 2 => 2 | 4 => 4 | 171 => 271 | 0 => 0 | 53 => 177 | 37 => 156 | 5 => 5 | 173 => 274 | 212 => 282 | 51 => 143 | 20 => 20 | 213 => 283 | 46 => 178 | 232 => 255 | 233 => 285 | n => n, fun | 17 => 6 | 18 => 0 | 19 => 7 | n => n⟩
theorem j1y : Go.Proofs.LaysM.n171 Tryz.prog u0t := by constructor <;> first | (intros; kernel_rfl) | (constructor <;> (intros; kernel_rfl))
end Go.Proofs.YtbamiajjampgnaaGreatDoor
namespace Go.Slip
open Go.RowKit
theorem u0u (d : Nat) (h : d < 10) : (UInt8.ofNat (48 + d)).toNat = d + 48 := by rw [UInt8.toNat_ofNat', Nat.mod_eq_of_lt (by omega)]; omega
theorem p0w (u : Nat) : (Lib.decDigits u).map UInt8.toNat = a0o u := by
 have hz : ∀ v, 0 < v → a0o v = (dig 10 v).reverse.map (· + 48) := fun v h => by unfold a0o; rw [if_neg (by omega)]
 induction u using Nat.strongRecOn with
 | _ u ih =>
  rw [Lib.decDigits]
  by_cases h : u < 10
  · rw [dif_pos h, List.map_cons, List.map_nil, u0u u h]
    by_cases h0 : u = 0
    · subst h0; rfl
    · rw [hz u (by omega), d0p (B := 10) (by omega) (by omega), Nat.mod_eq_of_lt h, Nat.div_eq_of_lt h, a0d]; rfl
  · rw [dif_neg h, List.map_append, ih (u / 10) (by omega), List.map_cons, List.map_nil, u0u _ (Nat.mod_lt _ (by omega)), hz u (by omega), hz (u / 10) (by omega), d0p (B := 10) (n := u) (by omega) (by omega)]
    simp
theorem b1b (n : Int) : (⟨(Lib.itoa n).toArray⟩ : ByteArray) = a0c (f0n n) := by
 apply s0e
 have hb : Byt (f0n n) := by
  intro x hx
  unfold f0n at hx
  split at hx
  · rcases List.mem_cons.1 hx with rfl | hx
    · omega
    · have := d0q _ x hx; omega
  · have := d0q _ x hx; omega
 rw [a0v hb]
 unfold a0b Lib.itoa f0n
 split
 · rw [show (-n).toNat = n.natAbs by omega, ← p0w]; rfl
 · rw [← p0w]
theorem p0x : ∀ (l : List UInt8) (a : Nat), (∀ y ∈ l, isDg y.toNat = true) → Lib.decFrom a l = some ((l.map UInt8.toNat).foldl (fun a b => 10 * a + (b - 48)) a)
 | [], a, _ => rfl
 | b :: r, a, h => by
  have h1 := e0b.1 (h b List.mem_cons_self)
  have h2 := p0x r (a * 10 + (b.toNat - 48)) fun y hy => h y (List.mem_cons_of_mem b hy)
  rw [Lib.decFrom]
  unfold Lib.digitVal
  rw [if_pos h1]
  simp only
  rw [h2, List.map_cons, List.foldl_cons, Nat.mul_comm a 10]
theorem j1z {m : List UInt8} (hd : ∀ y ∈ m, isDg y.toNat = true) (h2 : m ≠ []) : Lib.atoi m = some ((a0m (m.map UInt8.toNat) : Nat) : Int) := by
 cases m with
 | nil => exact absurd rfl h2
 | cons b r =>
  have hb1 := e0b.1 (hd b List.mem_cons_self)
  have hn : ∀ k : UInt8, k.toNat < 48 → (b == k) = false := fun k hk => bFn fun h => by subst h; omega
  unfold Lib.atoi
  simp only [hn 45 (by decide), hn 43 (by decide), Bool.false_eq_true, if_false]
  unfold Lib.decNat
  rw [if_neg (by simp), p0x _ _ hd]
  rfl
theorem o1p {x : List Nat} (hb : Byt x) (h1 : ∀ y ∈ x, isDg y = true) (h2 : x ≠ []) : Lib.atoi (a0c x).data.toList = some ((a0m x : Nat) : Int) := by
 have e : (a0c x).data.toList.map UInt8.toNat = x := a0v hb
 have k := j1z (m := (a0c x).data.toList) (fun y hy => h1 _ (by rw [← e]; exact List.mem_map_of_mem hy)) (fun h => h2 (by rw [← e, h]; rfl))
 rw [e] at k
 exact k
theorem f1w {l : List Nat} : ∀ x ∈ l.dropWhile (· == 48), x ∈ l := fun _ hx => List.dropWhile_sublist _ |>.subset hx
theorem b1c (l : List Nat) (hb : Byt l) : (⟨(Lib.trimLeftB (a0c l).data.toList 48).toArray⟩ : ByteArray) = a0c (l.dropWhile (· == 48)) := by
 apply s0e
 rw [a0v fun x hx => hb x (f1w x hx)]
 have e : (a0c l).data.toList.map UInt8.toNat = l := a0v hb
 have key : ∀ m : List UInt8, (m.dropWhile (· == 48)).map UInt8.toNat = (m.map UInt8.toNat).dropWhile (· == 48) := by
  intro m
  induction m with
  | nil => rfl
  | cons b r ih =>
   rw [List.map_cons, List.dropWhile_cons, List.dropWhile_cons]
   by_cases h : b = 48
   · subst h; simpa using ih
   · have h1 : (b == 48) = false := bFn h
     have h2 : (b.toNat == 48) = false := bFn fun k => h (UInt8.toNat_inj.1 (by rw [k]; rfl))
     rw [h1, h2]; rfl
 have := key (a0c l).data.toList
 rw [e] at this
 exact this
theorem b1d (l : List Nat) : a0m (l.dropWhile (· == 48)) = a0m l := by
 induction l with
 | nil => rfl
 | cons b r ih =>
  rw [List.dropWhile_cons]
  split
  · rename_i h
    rw [ih, beq_iff_eq.1 h]
    rfl
  · rfl
end Go.Slip
namespace Go.Proofs.YtbamiajjampgnaaGreatDoor
open Go.RowKit Go.Slip
def PowW (w : World) : Prop := Lib.TabIs Tryz.prog w "internal/strconv.uint64pow10" .u64 Lib.pow10Tab ∧ 6 < w.heap.size
theorem PowW.same {w w' : World} (h : PowW w) (hb : w'.heap[6]? = w.heap[6]?) (hs : w.heap.size ≤ w'.heap.size) : PowW w' := by
 refine ⟨?_, Nat.lt_of_lt_of_le h.2 hs⟩
 have h1 := h.1
 unfold Lib.TabIs World.var? at h1 ⊢
 rw [show Tryz.prog.globalNamed "internal/strconv.uint64pow10" = some 6 by kernel_rfl] at h1 ⊢
 simp only [Option.bind_some] at h1 ⊢
 rw [hb]; exact h1
def powF : PF := ⟨PowW, fun a => 6 = a, fun _ _ h hb hs => h.same (hb _ h.2 rfl) hs, fun _ _ h hf => hf ▸ h.2⟩
theorem PowW.past {w w' : World} (h : PowW w) (hb : Below w.heap.size w w') : PowW w' := h.same (hb.block _ h.2) hb.size
theorem k1a (x : List Nat) (h1 : ∀ y ∈ x, isDg y = true) (h2 : x ≠ []) (h3 : x.length ≤ 5) (w : World) : Calls Tryz.prog 108 #[.string (a0c x)] w fun en w' => en = .returned (.tuple #[.int .i64 ((a0m x : Nat) : Int), .nilIface]) ∧ Below w.heap.size w w' := by
 have hb : Byt x := fun y hy => by have := e0b.1 (h1 y hy); omega
 refine (Any.strconv_Atoi o1o (a0c x) _ (by rw [a0j]; omega) (o1p hb h1 h2) w).mono ?_
 rintro e w' ⟨rfl, t, rfl⟩
 exact ⟨rfl, e0n (Nat.le_refl _) _ _⟩
theorem k1b (n : Int) (h : -9223372036854775808 ≤ n ∧ n ≤ 9223372036854775807) (w : World) (hT : PowW w) : Calls Tryz.prog 142 #[.int .i64 n] w fun en w' => en = .returned (.string (a0c (f0n n))) ∧ Below w.heap.size w w' := by
 refine (Any.strconv_Itoa j1y n h.1 h.2 w hT.1).mono ?_
 rintro e w' ⟨rfl, k, os, rfl⟩
 refine ⟨by rw [b1b], ?_⟩
 exact ⟨rfl, rfl, rfl, by simp [Sort.grow], fun b hb => by simp [Sort.grow]; rw [Array.getElem?_append_left hb]⟩
theorem k1c (l : List Nat) (hb : Byt l) (w : World) : Calls Tryz.prog 45 #[.string (a0c l), .string ⟨#[48]⟩] w fun en w' => en = .returned (.string (a0c (l.dropWhile (· == 48)))) ∧ Below w.heap.size w w' := by
 refine (Any.strings_TrimLeft_one o1n (a0c l) 48 (by decide) w).mono ?_
 rintro e w' ⟨rfl, rfl⟩
 exact ⟨by rw [b1c l hb], Below.refl _ _⟩
end Go.Proofs.YtbamiajjampgnaaGreatDoor
namespace Go.Proofs.YtbamiajjampgnaaGreatDoor
open Go.ChangeShapes Go.WideShapes Go.ChangeAt Go.RowKit Go.Slip
def s0g : List (String × DataW Unit) := [("math/bits.deBruijn32tab", Rows.laid_math_bits_deBruijn32tab), ("math/bits.deBruijn64tab", Rows.laid_math_bits_deBruijn64tab), ("internal/strconv.uint64pow10", Rows.laid_internal_strconv_uint64pow10), ("unicode/utf8.acceptRanges", Rows.laid_unicode_utf8_acceptRanges), ("strconv.ErrRange", Rows.laid_strconv_ErrRange), ("strconv.ErrSyntax", Rows.laid_strconv_ErrSyntax), ("unicode/utf8.first", Rows.laid_unicode_utf8_first)]
theorem f1x : s0g.filter (fun x => x.1 == "math/bits.deBruijn32tab") = [("math/bits.deBruijn32tab", Rows.laid_math_bits_deBruijn32tab)] := by kernel_rfl
theorem f1y : s0g.filter (fun x => x.1 == "internal/strconv.uint64pow10") = [("internal/strconv.uint64pow10", Lib.tabData .u64 Lib.pow10Tab)] := by kernel_rfl
theorem k1d {W : World} (h : laidMetH Tryz.prog s0g W) : TabW W ∧ PowW W := by
 have h1 := h.filter (fun x => x.1 == "math/bits.deBruijn32tab")
 have h2 := h.filter (fun x => x.1 == "internal/strconv.uint64pow10")
 rw [f1x] at h1
 rw [f1y, MakeChecks.laidMetH_plain _ _ _ (by kernel_rfl)] at h2
 have hg : Tryz.prog.globalNamed "internal/strconv.uint64pow10" = some 6 := by kernel_rfl
 have h3 := Lib.tabIs_of_head (t := 282) (e := 177) (n := 20) hg (by kernel_rfl) (by kernel_rfl) (by kernel_rfl) (by kernel_rfl) (by kernel_rfl) h2
 exact ⟨v0v h1, h3, World.block_lt_of_cell? W _ (h3.cell hg 0 (by decide))⟩
end Go.Proofs.YtbamiajjampgnaaGreatDoor
namespace Go.Slip
open Go.RowKit
theorem u0v (l : List Nat) : l0y l = mayT 45 l := by
 cases l with
 | nil => rfl
 | cons b r =>
  rw [show mayT 45 (b :: r) = if b = 45 then (true, r) else (false, b :: r) from rfl]
  split
  · rename_i h; subst h; rfl
  · rename_i h; exact r0l r h
theorem u0w (l : List Nat) : o0i l = if (mayT 46 l).1 = true then (if (mayT 46 l).2.takeWhile isDg = [] then none else some ((mayT 46 l).2.takeWhile isDg, (mayT 46 l).2.dropWhile isDg)) else some ([], (mayT 46 l).2) := by
 cases l with
 | nil => rfl
 | cons b r =>
  rw [show mayT 46 (b :: r) = if b = 46 then (true, r) else (false, b :: r) from rfl]
  by_cases h : b = 46
  · subst h; rfl
  · rw [if_neg h, p0h r h]; rfl
theorem k1e (l : List Nat) : powT l = if (mayT 101 l).1 = true then (if (mayT 45 (mayT 101 l).2).2.takeWhile isDg = [] ∨ 5 < ((mayT 45 (mayT 101 l).2).2.takeWhile isDg).length then none else some (if (mayT 45 (mayT 101 l).2).1 then -(a0m ((mayT 45 (mayT 101 l).2).2.takeWhile isDg) : Int) else a0m ((mayT 45 (mayT 101 l).2).2.takeWhile isDg), (mayT 45 (mayT 101 l).2).2.dropWhile isDg)) else some (0, (mayT 101 l).2) := by
 cases l with
 | nil => rfl
 | cons b r =>
  rw [show mayT 101 (b :: r) = if b = 101 then (true, r) else (false, b :: r) from rfl]
  by_cases h : b = 101
  · subst h
    rw [if_pos rfl, if_pos rfl, ← u0v]
    rfl
  · rw [if_neg h, if_neg Bool.false_ne_true]
    unfold powT
    split
    · rename_i heq
      injection heq with h1 _
      exact absurd h1 h
    · rfl
theorem n0x (l : List Nat) : (∀ x ∈ l.takeWhile isDg, isDg x = true ∧ x ∈ l) ∧ (∀ x ∈ l.dropWhile isDg, x ∈ l) ∧ (l.takeWhile isDg).length ≤ l.length ∧ (l.dropWhile isDg).length ≤ l.length := by
 induction l with
 | nil => exact ⟨fun _ h => (nomatch h), fun x hx => hx, Nat.le_refl _, Nat.le_refl _⟩
 | cons b r ih =>
  obtain ⟨h1, h2, h3, h4⟩ := ih
  rw [List.takeWhile_cons, List.dropWhile_cons]
  cases hb : isDg b
  · exact ⟨fun _ h => (nomatch h), fun x hx => hx, Nat.zero_le _, Nat.le_refl _⟩
  · rw [if_pos rfl, if_pos rfl]
    refine ⟨fun x hx => ?_, fun x hx => List.mem_cons_of_mem _ (h2 x hx), by rw [List.length_cons, List.length_cons]; omega, by rw [List.length_cons]; omega⟩
    rcases List.mem_cons.1 hx with rfl | hx
    · exact ⟨hb, List.mem_cons_self⟩
    · exact ⟨(h1 x hx).1, List.mem_cons_of_mem _ (h1 x hx).2⟩
theorem f1z {l : List Nat} (h : Byt l) : Byt (l.takeWhile isDg) ∧ Byt (l.dropWhile isDg) := ⟨fun x hx => h x ((n0x l).1 x hx).2, fun x hx => h x ((n0x l).2.1 x hx)⟩
theorem i0f (c : Nat) (l : List Nat) : (mayT c l).2.length ≤ l.length := by
 cases l with
 | nil => exact Nat.le_refl _
 | cons b r =>
  rw [show mayT c (b :: r) = if b = c then (true, r) else (false, b :: r) from rfl]
  split
  · exact Nat.le_succ _
  · exact Nat.le_refl _
def numE (g : Bool) (d : List Nat) (pw : Int) (l : List Nat) : Option Numl :=
 if d = [] then none else match powT l with | none => none | some (e, r) => if r = [] then some ⟨g, d, e + pw⟩ else none
theorem x0l (l : List Nat) : numl l = match o0i ((mayT 45 l).2.dropWhile isDg) with | none => none | some (f, r) => numE (mayT 45 l).1 ((mayT 45 l).2.takeWhile isDg ++ f) (-(f.length : Int)) r := by
 unfold numl
 rw [u0v]
 rfl
theorem m0e {o : Option Numl} {g : Bool} {d : List Nat} {pw e q : Int} {l r : List Nat} (h : o = numE g d pw l) (hd : d.isEmpty = false) (hp : powT l = some (e, r)) (hq : q = e + pw) : o = if r.isEmpty = true then some ⟨g, d, q⟩ else none := by
 subst hq
 rw [h]
 unfold numE
 rw [if_neg (fun k => by rw [k] at hd; cases hd), hp]
 cases r <;> rfl
abbrev LN := List Nat
theorem f0t {P : Program} {W : World} (xs ys : List Nat) (h : xs.length + ys.length ≤ 9223372036854775807) {t : TypeId} {x y : Operand} : (do eqGuard .add t x y (.string (a0c xs)) (.string (a0c ys)); binOp .add t (.string (a0c xs)) (.string (a0c ys)) : Sem Value).run P W = .ok (.string (a0c (xs ++ ys))) W := by
 rw [← o1l]
 exact j1w (by rw [a0j, a0j]; exact h)
theorem h0b {P : Program} {W : World} {l : List Nat} (h : Byt l) {t : TypeId} {x y : Operand} : (do eqGuard .eql t x y (.string (a0c l)) (.string ⟨#[]⟩); binOp .eql t (.string (a0c l)) (.string ⟨#[]⟩) : Sem Value).run P W = .ok (.bool l.isEmpty) W :=
 m0c ((s0f h).trans List.isEmpty_iff.symm)
end Go.Slip
namespace Go.Proofs.YtbamiajjampgnaaGreatDoor
open Go.RowKit Go.Slip
theorem x0m (t : ByteArray) (w : World) (ht : t.size ≤ 1000) :
 Calls Tryz.prog 43 #[.string t] w fun en w' => ∃ g ds pw ok, en = .returned (.tuple #[.bool g, .string (a0c ds), .int .i64 pw, .bool ok]) ∧ (numl (a0b t) = (if ok = true then some ⟨g, ds, pw⟩ else none) ∧ Byt ds) ∧ Below w.heap.size w w' := by
 have hb0 := Byt.of t
 have hl0 : (a0b t).length ≤ 1000 := by rw [b0b]; exact ht
 have hN := x0l (a0b t)
 have hst := h0a t
 generalize a0b t = l0 at *
 rw [← hst]
 clear hst
 have hM := fun c l hb u W U => hi0 (o1m l hb c u W U)
 have hD := fun l hb hl u W U => hi0 (b1a l hb hl u W U)
 have hA := fun x h1 h2 h3 W => hi0 (k1a x h1 h2 h3 W)
 -- the parts, one behind the other
 have hb1 := m0d hb0 45
 have hl1 := i0f 45 l0
 obtain ⟨g, l1, e1⟩ : ∃ g l1, mayT 45 l0 = (g, l1) := ⟨_, _, rfl⟩
 have m1 := hM 45 l0 hb0
 rw [e1] at hb1 hl1 m1
 have hb2 := f1z hb1
 have hs2 := n0x l1
 have d2 := hD l1 hb1 (by simp only at hl1; omega)
 rw [e1] at hN
 simp only at hN hb1 hl1 hb2 hs2 m1
 generalize l1.takeWhile isDg = d at *
 generalize l1.dropWhile isDg = l2 at *
 rw [u0w] at hN
 have hb3 := m0d hb2.2 46
 have hl3 := i0f 46 l2
 have m3 := hM 46 l2 hb2.2
 obtain ⟨p, l3, e3⟩ : ∃ p l3, mayT 46 l2 = (p, l3) := ⟨_, _, rfl⟩
 rw [e3] at hb3 hl3 m3 hN
 have hb4 := f1z hb3
 have hs4 := n0x l3
 have d4 := hD l3 hb3 (by simp only at hl3; omega)
 simp only at hN hb3 hl3 hb4 hs4 m3
 generalize l3.takeWhile isDg = f at *
 generalize l3.dropWhile isDg = l4 at *
 have hN1 : numl l0 = (match (if p = true then if f = [] then none else some (f, l4) else some ([], l3) : Option (List Nat × List Nat)) with | none => none | some (f, r) => numE g (d ++ f) (-(f.length : Int)) r) := hN
 clear hN
 have I := Inv.start w [] True.intro
 refine a0g [.v (.string (a0c l0))] I Tryz.func43 ?_
 refine zge I 0 170 (fun Al W I => (m1 _ W (I.box 0 170 _)).out) fun Al V Iv _ _ kz => ?_
 rintro _ W ⟨rfl, hO, hB⟩
 refine ⟨_, rfl, kz _ [.v (.string (a0c l1))] _ hO hB fun I => ?_⟩
 refine zge I 0 170 (fun Al W I => (d2 _ W (I.box 0 170 _)).out) fun Al V Iv _ _ kz => ?_
 rintro _ W ⟨rfl, hO, hB⟩
 refine ⟨_, rfl, kz _ [.v (.string (a0c l2))] _ hO hB fun I => ?_⟩
 refine zge I 0 170 (fun Al W I => (m3 _ W (I.box 0 170 _)).out) fun Al V Iv _ _ kz => ?_
 rintro _ W ⟨rfl, hO, hB⟩
 refine ⟨_, rfl, kz _ [.v (.string (a0c l3))] _ hO hB fun I => ?_⟩
 refine zcut I (some 2000023) (fun fr bx gs => ∃ (U1 : Nat → Value) (D : LN) (pw : Int) (lr : LN), fr = (.v (.string (a0c l0)) :: vu :: sw U1 2 4 (.p 0 0 :: .v (.bool g) :: .v (.string (a0c D)) :: .v (vI pw) :: .v (U1 10) :: su 3 (sw U1 14 9 (.v (.bool p) :: sw U1 24 11 (vu :: .v (U1 36) :: vu :: sw U1 38 10 (vu :: sw U1 49 5 (vu :: sw U1 55 13 [])))))) : List SV) ∧ bx = [⟨170, [.v (.string (a0c lr))], false⟩] ∧ gs = [] ∧ (numl l0 = numE g D pw lr) ∧ (Byt D) ∧ (Byt lr) ∧ (lr.length ≤ 1000) ∧ (-1000 ≤ pw ∧ pw ≤ 0)) ?_ ?_
 · intro J hJ Al W I
   rcases bTF p with rfl | rfl
   · refine zge I 0 170 (fun Al W I => (d4 _ W (I.box 0 170 _)).out) fun Al V Iv _ _ kz => ?_
     rintro _ W ⟨rfl, hO, hB⟩
     refine ⟨_, rfl, kz _ [.v (.string (a0c l4))] _ hO hB fun I => ?_⟩
     rcases bTF (f.isEmpty) with f27 | f27
     · refine zbin I 27 (.bool true) (fun _ _ _ _ W => ((h0b hb4.1)).trans (congrArg (fun z => Result.ok (Value.bool z) W) (show (f.isEmpty) = true from f27))) fun Al W I => zret I (v := fun Al => .tuple #[.bool false, Go.Value.string (ByteArray.mk #[]), vI 0, .bool false]) fun Al W I => ⟨false, [], 0, false, rfl, ⟨by rw [hN1, if_pos rfl, if_pos (List.isEmpty_iff.1 f27)]; rfl, fun _ h => (nomatch h)⟩, I.below⟩
     refine zbin I 27 (.bool false) (fun _ _ _ _ W => ((h0b hb4.1)).trans (congrArg (fun z => Result.ok (Value.bool z) W) (show (f.isEmpty) = false from f27))) fun Al W I => zbin I 30 _ (fun _ _ _ _ _ => (f0t d f (by omega))) fun Al W I => zi I 33 .i64 (0 - (((a0c f).size : Nat) : Int)) ((-(f.length : Int))) ((by rw [a0j, Int.zero_sub]; exact iwo)) fun Al W I => a0r I J fun Al W U I => hJ _ _ _ _ _ ⟨U, (d ++ f), (-(f.length : Int)), l4, rfl, rfl, rfl, (by rw [hN1, if_pos rfl, if_neg (fun h => by rw [h] at f27; cases f27)]), (hb2.1.append hb4.1), hb4.2, (by omega), (by omega)⟩ (I.pick [])
   exact a0r I J fun Al W U I => hJ _ _ _ _ _ ⟨U, d, 0, l3, rfl, rfl, rfl, (by rw [hN1, if_neg Bool.false_ne_true]; simp), hb2.1, hb3, (by omega), (by omega)⟩ (I.pick [])
 rintro _ _ _ ⟨U1, D, pw, lr, rfl, rfl, rfl, hN2, hbD, hbl, hll, hpw⟩ Al W I
 rcases bTF (D.isEmpty) with f35 | f35
 · refine zbin I 35 (.bool true) (fun _ _ _ _ W => ((h0b hbD)).trans (congrArg (fun z => Result.ok (Value.bool z) W) (show (D.isEmpty) = true from f35))) fun Al W I => zret I (v := fun Al => .tuple #[.bool false, Go.Value.string (ByteArray.mk #[]), vI 0, .bool false]) fun Al W I => ?_
   first | exact ⟨false, [], 0, false, rfl, ⟨by rw [hN2]; unfold numE; rw [if_pos (List.isEmpty_iff.1 f35)]; rfl, fun _ h => (nomatch h)⟩, I.below⟩ | exact ⟨g, D, q, le.isEmpty, rfl, ⟨m0e hN2 f35 hQ (by omega), hbD⟩, I.below⟩
 refine zbin I 35 (.bool false) (fun _ _ _ _ W => ((h0b hbD)).trans (congrArg (fun z => Result.ok (Value.bool z) W) (show (D.isEmpty) = false from f35))) fun Al W I => ?_
 have hb5 := m0d hbl 101
 have hl5 := i0f 101 lr
 have m5 := hM 101 lr hbl
 have hP := k1e lr
 obtain ⟨pe, l5, e5⟩ : ∃ pe l5, mayT 101 lr = (pe, l5) := ⟨_, _, rfl⟩
 rw [e5] at hb5 hl5 m5 hP
 simp only at hb5 hl5 m5 hP
 refine zge I 0 170 (fun Al W I => (m5 _ W (I.box 0 170 _)).out) fun Al V Iv _ _ kz => ?_
 rintro _ W ⟨rfl, hO, hB⟩
 refine ⟨_, rfl, kz _ [.v (.string (a0c l5))] _ hO hB fun I => ?_⟩
 refine zcut I (some 2000037) (fun fr bx gs => ∃ (U2 : Nat → Value) (q : Int) (le : LN), fr = (.v (.string (a0c l0)) :: vu :: sw U2 2 4 (.p 0 0 :: .v (.bool g) :: .v (.string (a0c D)) :: .v (vI q) :: .v (U1 10) :: sw U2 11 12 (.v (.bool p) :: sw U2 24 3 (.v (U1 27) :: sw U2 28 7 (.v (.bool false) :: .v (U2 36) :: .v (.bool pe) :: sw U2 38 30 [])))) : List SV) ∧ bx = [⟨170, [.v (.string (a0c le))], false⟩] ∧ gs = [] ∧ (powT lr = some (q - pw, le)) ∧ (Byt le)) ?_ ?_
 · intro J hJ Al W I
   rcases bTF pe with rfl | rfl
   · rw [if_pos rfl] at hP
     have hb6 := m0d hb5 45
     have hl6 := i0f 45 l5
     have m6 := hM 45 l5 hb5
     obtain ⟨mi, l6, e6⟩ : ∃ mi l6, mayT 45 l5 = (mi, l6) := ⟨_, _, rfl⟩
     rw [e6] at hb6 hl6 m6 hP
     have d6 := hD l6 hb6 (by simp only at hl6; omega)
     simp only at hb6 hl6 m6 hP
     have hb7 := f1z hb6
     have hs7 := n0x l6
     generalize l6.takeWhile isDg = x at *
     generalize l6.dropWhile isDg = l7 at *
     have hx10 : x.length ≤ 5 → a0m x < 100000 := fun h => Nat.lt_of_lt_of_le (f0q x fun j hj => by rw [a0s hj]; exact (e0b.1 (hs7.1 _ (List.getElem_mem hj)).1).2) (Nat.pow_le_pow_right (n := 10) (by omega) h)
     refine zge I 0 170 (fun Al W I => (m6 _ W (I.box 0 170 _)).out) fun Al V Iv _ _ kz => ?_
     rintro _ W ⟨rfl, hO, hB⟩
     refine ⟨_, rfl, kz _ [.v (.string (a0c l6))] _ hO hB fun I => ?_⟩
     refine zge I 0 170 (fun Al W I => (d6 _ W (I.box 0 170 _)).out) fun Al V Iv _ _ kz => ?_
     rintro _ W ⟨rfl, hO, hB⟩
     refine ⟨_, rfl, kz _ [.v (.string (a0c l7))] _ hO hB fun I => ?_⟩
     rcases bTF (x.isEmpty) with f43 | f43
     · refine zbin I 43 (.bool true) (fun _ _ _ _ W => ((h0b hb7.1)).trans (congrArg (fun z => Result.ok (Value.bool z) W) (show (x.isEmpty) = true from f43))) fun Al W I => zret I (v := fun Al => .tuple #[.bool false, Go.Value.string (ByteArray.mk #[]), vI 0, .bool false]) fun Al W I => ?_
       first | exact ⟨false, [], 0, false, rfl, ⟨by rw [hN2]; unfold numE; rw [if_pos (List.isEmpty_iff.1 f35)]; rfl, fun _ h => (nomatch h)⟩, I.below⟩ | exact ⟨false, [], 0, false, rfl, ⟨by rw [hN2]; unfold numE; rw [if_neg (fun h => by rw [h] at f35; cases f35), hP, if_pos (by exact .inl (List.isEmpty_iff.1 f43))]; rfl, fun _ h => (nomatch h)⟩, I.below⟩ | exact ⟨g, D, q, le.isEmpty, rfl, ⟨m0e hN2 f35 hQ (by omega), hbD⟩, I.below⟩
     refine zbin I 43 (.bool false) (fun _ _ _ _ W => ((h0b hb7.1)).trans (congrArg (fun z => Result.ok (Value.bool z) W) (show (x.isEmpty) = false from f43))) fun Al W I => ?_
     rcases bTF (decide ((((a0c x).size : Nat) : Int) > 5)) with f47 | f47
     · refine zb I 47 (decide ((((a0c x).size : Nat) : Int) > 5)) (true) (f47) fun Al W I => zret I (v := fun Al => .tuple #[.bool false, Go.Value.string (ByteArray.mk #[]), vI 0, .bool false]) fun Al W I => ?_
       first | exact ⟨false, [], 0, false, rfl, ⟨by rw [hN2]; unfold numE; rw [if_pos (List.isEmpty_iff.1 f35)]; rfl, fun _ h => (nomatch h)⟩, I.below⟩ | exact ⟨false, [], 0, false, rfl, ⟨by rw [hN2]; unfold numE; rw [if_neg (fun h => by rw [h] at f35; cases f35), hP, if_pos (by first | exact .inl (List.isEmpty_iff.1 f43) | exact .inr (by have := oTr f47; rw [a0j] at this; omega))]; rfl, fun _ h => (nomatch h)⟩, I.below⟩ | exact ⟨g, D, q, le.isEmpty, rfl, ⟨m0e hN2 f35 hQ (by omega), hbD⟩, I.below⟩
     refine zb I 47 (decide ((((a0c x).size : Nat) : Int) > 5)) (false) (f47) fun Al W I => zq I (fun Al W I => have hzW := I.bel.size; (hA x (fun y hy => (hs7.1 y hy).1) (fun h => by rw [h] at f43; cases f43) (by have := oFa f47; rw [a0j] at this; omega) W).out) fun Al W I => ?_
     have hx5 : x.length ≤ 5 := by have := oFa f47; rw [a0j] at this; omega
     have hx6 := hx10 hx5
     rw [if_neg (fun h => h.elim (fun h => by rw [h] at f43; cases f43) (fun h => by omega))] at hP
     refine zcut I (some 2000054) (fun fr bx gs => ∃ (U3 : Nat → Value) (nn : Int), fr = (.v (.string (a0c l0)) :: vu :: sw U1 2 4 (.p 0 0 :: .v (.bool g) :: .v (.string (a0c D)) :: .v (vI pw) :: .v (U1 10) :: .v (.bool mi) :: .v (.string (a0c x)) :: .v (vI nn) :: sw U3 14 9 (.v (.bool p) :: sw U3 24 3 (.v (U1 27) :: sw U3 28 7 (.v (.bool false) :: .v (U3 36) :: .v (.bool true) :: sw U3 38 10 (.v (.bool false) :: sw U3 49 5 (.v (.bool mi) :: sw U3 55 13 [])))))) : List SV) ∧ bx = [⟨170, [.v (.string (a0c l7))], false⟩] ∧ gs = [] ∧ ((if mi then -((a0m x : Nat) : Int) else ((a0m x : Nat) : Int)) = nn)) ?_ ?_
     · intro J hJ Al W I
       rcases bTF mi with rfl | rfl
       · refine zi I 56 .i64 (0 - ((a0m x : Nat) : Int)) ((-((a0m x : Nat) : Int))) ((by rw [Int.zero_sub]; exact iwo)) fun Al W I => a0r I J fun Al W U I => hJ _ _ _ _ _ ⟨U, -((a0m x : Nat) : Int), rfl, rfl, rfl, rfl⟩ (I.pick [])
       exact a0r I J fun Al W U I => hJ _ _ _ _ _ ⟨U, ((a0m x : Nat) : Int), rfl, rfl, rfl, rfl⟩ (I.pick [])
     rintro _ _ _ ⟨U3, nn, rfl, rfl, rfl, hnn⟩ Al W I
     rw [hnn] at hP
     have hnb : -100000 ≤ nn ∧ nn ≤ 100000 := by rw [← hnn]; split <;> omega
     refine zi I 59 .i64 (pw + nn) ((nn + pw)) ((by rw [Int.add_comm]; exact iwo)) fun Al W I => a0r I J fun Al W U I => hJ _ _ _ _ _ ⟨U, nn + pw, l7, rfl, rfl, rfl, (by rw [hP]; congr 2; omega), hb7.2⟩ (I.pick [])
   exact a0r I J fun Al W U I => hJ _ _ _ _ _ ⟨U, pw, l5, rfl, rfl, rfl, (by rw [hP, if_neg Bool.false_ne_true]; congr 2; omega), hb5⟩ (I.pick [])
 rintro _ _ _ ⟨U2, q, le, rfl, rfl, rfl, hQ, hbe⟩ Al W I
 refine zd [] I fun Al W I => zk [0, 1, 2, 3, 4, 5, 6, 8, 9, 10] I fun I => zo 7 I fun I => zbin I 67 _ (fun _ _ _ _ _ => (h0b hbe)) fun Al W I => zk [11] I fun I => zret I (v := fun Al => .tuple #[.bool g, .string (a0c D), vI q, .bool le.isEmpty]) fun Al W I => ?_
 first | exact ⟨false, [], 0, false, rfl, ⟨by rw [hN2]; unfold numE; rw [if_pos (List.isEmpty_iff.1 f35)]; rfl, fun _ h => (nomatch h)⟩, I.below⟩ | exact ⟨g, D, q, le.isEmpty, rfl, ⟨m0e hN2 f35 hQ (by omega), hbD⟩, I.below⟩
end Go.Proofs.YtbamiajjampgnaaGreatDoor
namespace Go.Slip
open Go.RowKit
def ratL (l : List Nat) : Bool × Nat × Nat × Int := if errT l.length (numl l) = 0 then (match numl l with | some q => d0m q | none => (false, 0, 0, 0)) else (false, 0, 0, 0)
theorem k1f {l : List Nat} (h : 400 < l.length) : errT l.length (numl l) = 2 ∧ ratL l = (false, 0, 0, 0) := by
 have h1 : errT l.length (numl l) = 2 := by unfold errT; rw [if_pos h]
 exact ⟨h1, by unfold ratL; rw [h1]; rfl⟩
theorem k1g {l : List Nat} (h : ¬ 400 < l.length) (hn : numl l = none) : errT l.length (numl l) = 1 ∧ ratL l = (false, 0, 0, 0) := by
 have h1 : errT l.length (numl l) = 1 := by unfold errT; rw [if_neg h, hn]
 exact ⟨h1, by unfold ratL; rw [h1]; rfl⟩
theorem g1a {l : List Nat} (h : ¬ 400 < l.length) {q : Numl} (hn : numl l = some q) (hp : q.pow < -6000 ∨ 6000 < q.pow) : errT l.length (numl l) = 3 ∧ ratL l = (false, 0, 0, 0) := by
 have h1 : errT l.length (numl l) = 3 := by unfold errT; rw [if_neg h, hn]; exact if_pos hp
 exact ⟨h1, by unfold ratL; rw [h1]; rfl⟩
theorem z0c {l : List Nat} (h : ¬ 400 < l.length) {q : Numl} (hn : numl l = some q) (hp : ¬ (q.pow < -6000 ∨ 6000 < q.pow)) : errT l.length (numl l) = 0 ∧ ratL l = d0m q := by
 have h1 : errT l.length (numl l) = 0 := by unfold errT; rw [if_neg h, hn]; exact if_neg hp
 exact ⟨h1, by unfold ratL; rw [h1, hn]; rfl⟩
theorem b1e {l f r : List Nat} (h : o0i l = some (f, r)) : (∀ x ∈ f, isDg x = true) ∧ f.length ≤ l.length := by
 rw [u0w] at h
 have hl := i0f 46 l
 have hs := n0x (mayT 46 l).2
 split at h
 · split at h
   · cases h
   · injection h with h; injection h with h1 h2; subst h1
     exact ⟨fun x hx => (hs.1 x hx).1, by omega⟩
 · injection h with h; injection h with h1 h2; subst h1
   exact ⟨fun _ hx => (nomatch hx), Nat.zero_le _⟩
theorem u0x {l : List Nat} {q : Numl} (h : numl l = some q) : (∀ x ∈ q.ds, isDg x = true) ∧ q.ds.length ≤ 2 * l.length := by
 rw [x0l] at h
 have hl := i0f 45 l
 have hs := n0x (mayT 45 l).2
 generalize (mayT 45 l).2 = m at *
 cases hf : o0i (m.dropWhile isDg) with
 | none => rw [hf] at h; cases h
 | some fr =>
  obtain ⟨f, r⟩ := fr
  rw [hf] at h
  simp only at h
  have hF := b1e hf
  unfold numE at h
  split at h
  · cases h
  · split at h
    · cases h
    · split at h
      · injection h with h
        subst h
        exact ⟨fun x hx => (List.mem_append.1 hx).elim (fun k => (hs.1 x k).1) (hF.1 x), by rw [List.length_append]; omega⟩
      · cases h
theorem b1f {q : Numl} (h : a0m q.ds = 0) : d0m q = (false, 0, 1, 0) := by unfold d0m; rw [if_pos h]
theorem k1h {q : Numl} (h : a0m q.ds ≠ 0) (hp : 0 ≤ q.pow) : d0m q = (q.neg, a0m q.ds / 2 ^ tz (a0m q.ds) * 5 ^ q.pow.toNat, 1, tz (a0m q.ds) + q.pow) := by unfold d0m; rw [if_neg h, if_pos hp]
theorem k1i {q : Numl} (h : a0m q.ds ≠ 0) (hp : ¬ 0 ≤ q.pow) {n f : Nat} (hc : b0o (a0m q.ds / 2 ^ tz (a0m q.ds)) (-q.pow).toNat = (n, f)) : d0m q = (q.neg, n, 5 ^ f, tz (a0m q.ds) + q.pow) := by unfold d0m; rw [if_neg h, if_neg hp, hc]
theorem o1q {B : Nat} (hB : 10 ≤ B) {l : List Nat} (h : ∀ x ∈ l, isDg x = true) : (dig B (a0m l)).length ≤ l.length := by
 rw [a0e (by omega)]
 exact Nat.lt_of_lt_of_le (f0q l fun j hj => by rw [a0s hj]; exact (e0b.1 (h _ (List.getElem_mem hj))).2) (Nat.pow_le_pow_left hB _)
theorem g1b {l : List Nat} (h : ∀ x ∈ l, isDg x = true) : y0h (a0c l) := fun j hj => by
 have hb : Byt l := fun x hx => by have := e0b.1 (h x hx); omega
 rw [a0j] at hj
 rw [a0v hb, a0s hj]
 exact e0b.1 (h _ (List.getElem_mem hj))
theorem l0v {n P : Nat} (h : P = 0 ∨ n % 5 ≠ 0) : b0o n P = (n, P) := by
 cases P with
 | zero => rfl
 | succ P => rw [b0o, if_neg (h.resolve_left (by omega))]
theorem u0y {n P : Nat} (h0 : 0 < P) (h : n % 5 = 0) : b0o n P = b0o (n / 5) (P - 1) := by
 cases P with
 | zero => omega
 | succ P => rw [b0o, if_pos h]; rfl
end Go.Slip
namespace Go.Proofs.YtbamiajjampgnaaGreatDoor
open Go.RowKit Go.Slip
theorem o1r (p : OA) (c m : Nat) (w : World) (hp : Rd w .u32 p (dig B32 m)) (hc : (dig B32 m).length ≤ c) (hl : (dig B32 m).length ≤ 1000000) (hT : TabW w) :
 Calls Tryz.prog 47 #[.slice p (dig B32 m).length c] w fun en w' => ∃ q d, en = .returned (.tuple #[.slice q (dig B32 (m / 2 ^ tz m)).length d, .int .i64 ((tz m : Nat) : Int)]) ∧ Own w' w.heap.size .u32 143 q d (dig B32 (m / 2 ^ tz m)) ∧ Below w.heap.size w w' := by
 have htz := f1c m hl
 have HZ := fun W h hT => hi0 ((j0j p _ c m W h rfl (by omega) hT).mono fun _ _ ⟨h1, h2⟩ => ⟨h1, h2 ▸ Below.refl _ _⟩ : Calls Tryz.prog 113 #[.slice p (dig B32 m).length c] W fun en W' => en = .returned (.int .i64 ((tz m : Nat) : Int)) ∧ Below W.heap.size W W')
 have HS := fun W h => hi0 (sshr p _ c m (tz m) _ _ W h rfl hc (by omega) (by omega) rfl rfl)
 generalize tz m = z at *
 have I := Inv.start w [rdF .u32 p (dig B32 m), tabF] ⟨hp, hT, True.intro⟩
 refine a0g [.v (.slice p (dig B32 m).length c)] I Tryz.func47 ?_
 refine zq I (fun Al W I => (HZ W I.fa.1 I.fa.2.1).out) fun Al W I => zqo I (fun Al W I => (HS W I.fa.1).out) fun Al W p9 c9 I => zret I fun Al W I => ⟨p9, c9, rfl, I.fa.1, I.below⟩
def m0f (w : World) (er : Int) (R : Bool × Nat × Nat × Int) (en : Ending) (w' : World) : Prop :=
 ∃ p c q d, en = .returned (.tuple #[.agg #[.bool R.1, .slice p (dig B32 R.2.1).length c, .slice q (dig B32 R.2.2.1).length d, .int .i64 R.2.2.2], .int .i64 er]) ∧ Own w' w.heap.size .u32 143 p c (dig B32 R.2.1) ∧ Own w' w.heap.size .u32 143 q d (dig B32 R.2.2.1) ∧ Below w.heap.size w w'
theorem b0u {w w' : World} {er k : Int} {R : Bool × Nat × Nat × Int} {en : Ending} (h : er = k ∧ R = (false, 0, 0, 0)) (he : en = .returned (.tuple #[.agg #[.bool false, .slice none 0 0, .slice none 0 0, .int .i64 0], .int .i64 k])) (hb : Below w.heap.size w w') : m0f w er R en w' := by
 obtain ⟨rfl, rfl⟩ := h
 have e : dig B32 0 = [] := a0d _
 refine ⟨none, 0, none, 0, ?_, ?_, ?_, hb⟩
 · rw [he]; simp only [e]; rfl
 · show Own _ _ _ _ _ _ (dig B32 0); rw [e]; exact Own.nil _ _ _ _
 · show Own _ _ _ _ _ _ (dig B32 0); rw [e]; exact Own.nil _ _ _ _
theorem u0z {w w' : World} {p : OA} {c : Nat} {en : Ending} (he : en = .returned (.tuple #[.agg #[.bool false, .slice none 0 0, .slice p (dig B32 1).length c, .int .i64 0], .int .i64 0])) (h : Own w' w.heap.size .u32 143 p c (dig B32 1)) (hb : Below w.heap.size w w') : m0f w 0 (false, 0, 1, 0) en w' := by
 have e : dig B32 0 = [] := a0d _
 refine ⟨none, 0, p, c, ?_, ?_, h, hb⟩
 · rw [he]; simp only [e]; rfl
 · show Own _ _ _ _ _ _ (dig B32 0); rw [e]; exact Own.nil _ _ _ _
theorem v0a (t : ByteArray) (w : World) (hT : TabW w) : Calls Tryz.prog 11 #[.string t] w (m0f w (errT (a0b t).length (numl (a0b t))) (ratL (a0b t))) := by
 have hz : t.size = (a0b t).length := (b0b t).symm
 have HN := fun W h => hi0 (x0m t W h)
 have h1 := @k1f (a0b t)
 have h2 := @k1g (a0b t)
 have h3 := @g1a (a0b t)
 have h4 := @z0c (a0b t)
 have h5 := @u0x (a0b t)
 generalize errT (a0b t).length (numl (a0b t)) = er at *
 generalize ratL (a0b t) = R at *
 generalize numl (a0b t) = N at *
 generalize (a0b t).length = L at *
 have HTr := fun l hb W => hi0 (k1c l hb W)
 have HPa := fun s h1 h2 W => hi0 (n0j s W h1 h2)
 have HO := fun (k : Nat) hk W => hi0 (sof (k : Int) k rfl hk W)
 have HPw := fun p c K W base ho hb hK => hi0 (y0v base p c 5 K W ho hb (by omega) hK)
 have HMu := fun p q c d a b W hp hq hl => hi0 (n0h p q _ _ c d a b W hp hq rfl rfl hl)
 have HOd := fun p c m W hp hc hl hT => hi0 (o1r p c m W hp hc hl hT)
 have HDv := fun p q c d a W hp hq hl => hi0 (g0y p q _ _ c d a 5 W hp hq rfl rfl hl (Nat.le_trans ((a0e a0a 5 1).2 (by decide)) (by omega)) (by omega))
 have I := Inv.start w [tabF] ⟨hT, True.intro⟩
 refine a0g [.v (.string t)] I Tryz.func11 ?_
 rcases bTF (decide ((t.size : Int) > 400)) with f16 | f16
 · refine zb I 16 (decide ((t.size : Int) > 400)) (true) (f16) fun Al W I => zret I fun Al W I => b0u (h1 (by have := oTr f16; omega)) rfl I.below
 refine zb I 16 (decide ((t.size : Int) > 400)) (false) (f16) fun Al W I => zg I (fun Al W I => have hzW := I.bel.size; (HN W (by have := oFa f16; omega)).out) fun Al V Iv _ hB _ kz => ?_
 rintro _ W ⟨g, ds, pw, ok, rfl, hN, hb⟩
 refine ⟨_, rfl, kz _ _ hb fun I => ?_⟩
 rcases bTF (!ok) with f26 | f26
 · refine zb I 26 (!ok) (true) (f26) fun Al W I => zret I (v := fun Al => .tuple #[.agg #[.bool false, .slice none 0 0, .slice none 0 0, vI 0], vI 1]) fun Al W I => b0u (h2 (by have := oFa f16; omega) (by rw [hN.1, if_neg (by simpa using f26)])) rfl I.below
 refine zb I 26 (!ok) (false) (f26) fun Al W I => ?_
 rcases bTF (decide (pw < (-6000))) with f29 | f29
 · have hN2 : N = some ⟨g, ds, pw⟩ := by rw [hN.1, if_pos (by simpa using f26)]
   refine zb I 29 (decide (pw < (-6000))) (true) (f29) fun Al W I => zret I (v := fun Al => .tuple #[.agg #[.bool false, .slice none 0 0, .slice none 0 0, vI 0], vI 3]) fun Al W I => ?_
   first | exact b0u (h2 (by have := oFa f16; omega) (by rw [hN.1, if_neg (by simpa using f26)])) rfl I.below | exact b0u (h3 (by have := oFa f16; omega) hN2 (by exact .inl (oTr f29))) rfl I.below
 have hN2 : N = some ⟨g, ds, pw⟩ := by rw [hN.1, if_pos (by simpa using f26)]
 refine zb I 29 (decide (pw < (-6000))) (false) (f29) fun Al W I => ?_
 rcases bTF (decide (pw > 6000)) with f32 | f32
 · refine zb I 32 (decide (pw > 6000)) (true) (f32) fun Al W I => zret I (v := fun Al => .tuple #[.agg #[.bool false, .slice none 0 0, .slice none 0 0, vI 0], vI 3]) fun Al W I => ?_
   first | exact b0u (h2 (by have := oFa f16; omega) (by rw [hN.1, if_neg (by simpa using f26)])) rfl I.below | exact b0u (h3 (by have := oFa f16; omega) hN2 (by exact .inr (oTr f32))) rfl I.below
 refine zb I 32 (decide (pw > 6000)) (false) (f32) fun Al W I => ?_
 have hdg := (h5 hN2).1
 have hdl := (h5 hN2).2
 have hrk := h4 (by have := oFa f16; omega) hN2 (fun (h : pw < -6000 ∨ 6000 < pw) => by have := oFa f29; have := oFa f32; omega)
 have hpw : -6000 ≤ pw ∧ pw ≤ 6000 := by have := oFa f29; have := oFa f32; omega
 have tr := HTr ds hN.2
 have hzd : ∀ x ∈ ds.dropWhile (· == 48), isDg x = true := fun x hx => hdg x (f1w x hx)
 have hzl : (ds.dropWhile (· == 48)).length ≤ ds.length := (List.dropWhile_sublist _).length_le
 have hnm := b1d ds
 generalize ds.dropWhile (· == 48) = dz at *
 have pz := HPa (a0c dz) (by rw [a0j]; simp only at hdl; omega) (g1b hzd)
 have hSl : (dig B32 (a0m ds)).length ≤ 800 := by rw [← hnm]; exact Nat.le_trans (o1q (B := B32) (by decide) hzd) (by simp only at hdl; omega)
 rw [a0v (fun x hx => by have := e0b.1 (hzd x hx); omega), hnm] at pz
 have r0 := b1f (q := ⟨g, ds, pw⟩)
 have r1 := k1h (q := ⟨g, ds, pw⟩)
 have r2 := fun h hp n f => k1i (q := ⟨g, ds, pw⟩) h hp (n := n) (f := f)
 simp only at r0 r1 r2
 generalize a0m ds = S at *
 have hod := fun p c W hp hc hl hT => HOd p c S W hp hc hl hT
 have hol : (dig B32 (S / 2 ^ tz S)).length ≤ 800 := Nat.le_trans (a0i a0a (Nat.div_le_self _ _)) hSl
 have hzb := f1c S hSl
 have hS0 := a0f a0a S
 generalize S / 2 ^ tz S = o at *
 generalize tz S = z at *
 have h5l : ∀ k, k ≤ 6000 → (dig B32 (5 ^ k)).length ≤ 6001 := fun k hk => k0b (K := 6001) a0a (by decide) (by omega) (by omega)
 refine zq I (fun Al W I => (tr W).out) fun Al W I => zg I (fun Al W I => (pz W).out) fun Al V Iv _ hB _ kz => ?_
 rintro _ W ⟨p37, c37, rfl, o37, hb⟩
 refine ⟨_, rfl, kz _ _ hb fun I => ?_⟩
 have I := I.own o37
 rcases bTF ((((dig B32 S).length : Nat) : Int) == 0) with f40 | f40
 · refine zb I 40 ((((dig B32 S).length : Nat) : Int) == 0) (true) (f40) fun Al W I => zqo I (fun Al W I => have hzW := I.bel.size; (HO 1 (by omega) W).out) fun Al W p41 c41 I => zret I (v := fun Al => .tuple #[.agg #[.bool false, .slice none 0 0, .slice p41 (dig B32 1).length c41, vI 0], vI 0]) fun Al W I => ?_
   first | exact b0u (h2 (by have := oFa f16; omega) (by rw [hN.1, if_neg (by simpa using f26)])) rfl I.below | (rw [hrk.1, hrk.2, r0 (hS0.1 (by have := beq_iff_eq.1 f40; omega))]; exact u0z rfl I.fa.1 I.below)
 refine zb I 40 ((((dig B32 S).length : Nat) : Int) == 0) (false) (f40) fun Al W I => zg I (fun Al W I => have hzW := I.bel.size; (hod p37 c37 W I.fa.1.rd I.fa.1.le_cap (by omega) I.fa.2.1).out) fun Al V Iv _ hB _ kz => ?_
 rintro _ W ⟨p45, c45, rfl, o45, hb⟩
 refine ⟨_, rfl, kz _ _ hb fun I => ?_⟩
 have I := I.own o45
 refine zg I (fun Al W I => have hzW := I.bel.size; (HO 5 (by omega) W).out) fun Al V Iv _ hB _ kz => ?_
 rintro _ W ⟨p48, c48, rfl, o48, hb⟩
 refine ⟨_, rfl, kz _ _ hb fun I => ?_⟩
 have I := I.own o48
 refine zi I 51 .i64 (0 - pw) ((-pw)) ((by rw [Int.zero_sub]; exact iwo)) fun Al W I => zm I 52 .i64 (if ((-pw) : Int) > pw then (-pw) else pw) ((pw.natAbs : Int)) ((by omega)) fun Al W I => zg I (fun Al W I => have hzW := I.bel.size; (HPw p48 c48 pw.natAbs W _ I.fa.1 I.below.size (by omega)).out) fun Al V Iv _ hB _ kz => ?_
 rintro _ W ⟨p53, c53, rfl, o53, hb⟩
 refine ⟨_, rfl, kz _ _ hb fun I => ?_⟩
 have I := I.own o53
 refine zqo I (fun Al W I => have hzW := I.bel.size; (HO 1 (by omega) W).out) fun Al W p56 c56 I => zi I 59 .i64 ((z : Int) + pw) (((z : Int) + pw)) ((by exact iwo)) fun Al W I => ?_
 rcases bTF (decide (pw ≥ 0)) with f62 | f62
 · refine zb I 62 (decide (pw ≥ 0)) (true) (f62) fun Al W I => zqo I (fun Al W I => have hzW := I.bel.size; (HMu p45 p53 c45 c53 o (5 ^ pw.natAbs) W I.fa.2.2.2.1.rd I.fa.2.1.rd (by have := h5l pw.natAbs (by omega); omega)).out) fun Al W p65 c65 I => zret I (v := fun Al => .tuple #[.agg #[.bool g, .slice p65 (dig B32 (o * 5 ^ pw.natAbs)).length c65, .slice p56 (dig B32 1).length c56, vI ((z : Int) + pw)], vI 0]) fun Al W I => ?_
   first | exact b0u (h2 (by have := oFa f16; omega) (by rw [hN.1, if_neg (by simpa using f26)])) rfl I.below | (rw [hrk.1, hrk.2, r1 (fun h => by have := hS0.2 h; have := bnF f40; omega) (oTr f62)]; have e := oTr f62; rw [show pw.toNat = pw.natAbs by omega]; exact ⟨p65, c65, p56, c56, rfl, I.fa.1, I.fa.2.1, I.below⟩)
 refine zb I 62 (decide (pw ≥ 0)) (false) (f62) fun Al W I => o0h I (fun gk fr bx gs => ∃ (U900 : Nat → Value) (n : Nat) (P : Nat) (x : Int) (pn : OA) (cn : Nat), fr = (.v (.string t) :: .v undef :: .p 0 0 :: .v (vI 0) :: .v (.bool g) :: .v (.string (a0c ds)) :: .v (vI x) :: .v (.bool ok) :: .v (vS (dig B32 o) p45 c45) :: .v (vI (z : Int)) :: .v (vS (dig B32 (5 ^ pw.natAbs)) p53 c53) :: .p 1 0 :: sw U900 12 4 (.v (.bool false) :: sw U900 17 9 (.v (.bool false) :: sw U900 27 6 (.v (.bool false) :: sw U900 34 6 (.v (.bool false) :: sw U900 41 21 (.v (.bool false) :: sw U900 63 27 []))))) : List SV) ∧ bx = [⟨25, [.v (.bool false), .v (.slice none 0 0), .v (.slice none 0 0), .v (vI 0)], false⟩, ⟨25, [.v (.bool g), .v (vS (dig B32 n) pn cn), .v (vS (dig B32 1) p56 c56), .v (vI ((z : Int) + pw))], false⟩] ∧ gs = [ownF w.heap.size .u32 143 pn cn (dig B32 n), ownF w.heap.size .u32 143 p56 c56 (dig B32 1), tabF] ∧ (b0o n P = b0o o pw.natAbs) ∧ (P ≤ 6000) ∧ (x = -(P : Int)) ∧ ((dig B32 n).length ≤ 800) ∧ (gk = P)) pw.natAbs (fun Al W U I => ⟨_, ⟨U, o, pw.natAbs, pw, p45, c45, rfl, rfl, rfl, rfl, (by omega), (by have := oFa f62; omega), hol, rfl⟩, I.pick [3, 0, 5]⟩) ?_
 rintro J0 gk0 _ _ _ ⟨U900, n, P, x, pn, cn, rfl, rfl, rfl, hcf, hPl, hx, hnl, hgk⟩ hJ0 Al W I
 rcases bTF (decide (x < 0)) with f69 | f69
 · refine zb I 69 (decide (x < 0)) (true) (f69) fun Al W I => zd [] I fun Al W I => zk [0, 1] I fun I => zo 2 I fun I => zqo I (fun Al W I => have hzW := I.bel.size; (HO 5 (by omega) W).out) fun Al W p73 c73 I => zo 3 I fun I => zg I (fun Al W I => have hzW := I.bel.size; (HDv pn p73 cn c73 n W I.fa.2.1.rd I.fa.1.rd (by omega)).out) fun Al V Iv _ hB _ kz => ?_
   rintro _ W ⟨p74, c74, q74, d74, rfl, a74, b74, hb, -⟩
   refine ⟨_, rfl, kz _ _ hb fun I => ?_⟩
   have I := I.own a74
   have I := I.own b74
   refine zk [4, 5, 6, 7, 8] I fun I => ?_
   rcases bTF (decide ((((dig B32 (n % 5)).length : Nat) : Int) > 0)) with f79 | f79
   · refine zb I 79 (decide ((((dig B32 (n % 5)).length : Nat) : Int) > 0)) (true) (f79) fun Al W I => ?_
     have hfin := l0v (n := n) (P := P) (by exact .inr (by have := oTr f79; have := a0f a0a (n % 5); omega))
     rw [hcf] at hfin
     refine zqo I (fun Al W I => have hzW := I.bel.size; (HO 5 (by omega) W).out) fun Al W p84 c84 I => zi I 86 .i64 (0 - x) ((P : Int)) ((by rw [hx, show (0 : Int) - -(P : Int) = (P : Int) by omega]; exact iwo)) fun Al W I => zqo I (fun Al W I => have hzW := I.bel.size; (HPw p84 c84 P W _ I.fa.1 I.below.size (by omega)).out) fun Al W p87 c87 I => zret I (v := fun Al => .tuple #[.agg #[.bool g, .slice pn (dig B32 n).length cn, .slice p87 (dig B32 (5 ^ P)).length c87, vI ((z : Int) + pw)], vI 0]) fun Al W I => ?_
     first | exact b0u (h2 (by have := oFa f16; omega) (by rw [hN.1, if_neg (by simpa using f26)])) rfl I.below | (rw [hrk.1, hrk.2, r2 (fun h => by have := hS0.2 h; have := bnF f40; omega) (oFa f62) n P (by rw [← hfin]; have := oFa f62; congr 1; omega)]; exact ⟨pn, cn, p87, c87, rfl, I.fa.2.2.2.2.2.1, I.fa.1, I.below⟩)
   refine zb I 79 (decide ((((dig B32 (n % 5)).length : Nat) : Int) > 0)) (false) (f79) fun Al W I => zi I 82 .i64 (x + 1) ((x + 1)) ((by exact iwo)) fun Al W I => a0r I J0 fun Al W U I => hJ0 (P - 1) _ _ _ _ _ ((by have := oTr f69; omega)) ⟨U, n / 5, P - 1, x + 1, p74, c74, rfl, rfl, rfl, (by rw [← hcf]; exact (u0y (by have := oTr f69; omega) (by have := oFa f79; have := a0f a0a (n % 5); omega)).symm), (by omega), (by have := oTr f69; omega), (Nat.le_trans (a0i a0a (Nat.div_le_self _ _)) hnl), rfl⟩ (I.pick [1, 4, 5])
 refine zb I 69 (decide (x < 0)) (false) (f69) fun Al W I => ?_
 have hfin := l0v (n := n) (P := P) (by exact .inl (by have := oFa f69; omega))
 rw [hcf] at hfin
 refine zqo I (fun Al W I => have hzW := I.bel.size; (HO 5 (by omega) W).out) fun Al W p84 c84 I => zi I 86 .i64 (0 - x) ((P : Int)) ((by rw [hx, show (0 : Int) - -(P : Int) = (P : Int) by omega]; exact iwo)) fun Al W I => zqo I (fun Al W I => have hzW := I.bel.size; (HPw p84 c84 P W _ I.fa.1 I.below.size (by omega)).out) fun Al W p87 c87 I => zret I (v := fun Al => .tuple #[.agg #[.bool g, .slice pn (dig B32 n).length cn, .slice p87 (dig B32 (5 ^ P)).length c87, vI ((z : Int) + pw)], vI 0]) fun Al W I => ?_
 first | exact b0u (h2 (by have := oFa f16; omega) (by rw [hN.1, if_neg (by simpa using f26)])) rfl I.below | (rw [hrk.1, hrk.2, r2 (fun h => by have := hS0.2 h; have := bnF f40; omega) (oFa f62) n P (by rw [← hfin]; have := oFa f62; congr 1; omega)]; exact ⟨pn, cn, p87, c87, rfl, I.fa.2.2.1, I.fa.1, I.below⟩)
end Go.Proofs.YtbamiajjampgnaaGreatDoor
namespace Go.Slip
open Go.RowKit
def k0j (c : Nat) (g : Bool) : List Nat := if c = 2 then [] else (if g then [45] else []) ++ (if c = 1 then [48] else if c = 3 then [105, 110, 102] else if c = 4 then [110, 111, 110, 101] else [114, 101, 115, 101, 114, 118, 101, 100])
def o0l (c : Nat) : List Nat := if c = 1 then [48] else if c = 3 then [105, 110, 102] else if c = 4 then [110, 111, 110, 101] else if c = 5 then [114, 101, 115, 101, 114, 118, 101, 100] else []
theorem v0b (c : Nat) (g : Bool) : Byt (k0j c g) := by
 unfold k0j
 intro x hx
 split at hx
 · exact (nomatch hx)
 · rcases List.mem_append.1 hx with h | h
   · split at h
     · simp at h; omega
     · exact (nomatch h)
   · repeat' split at h
     all_goals (simp at h; omega)
theorem h0u {c : Nat} {g : Bool} : k0j c g = [] ↔ c = 2 := by
 unfold k0j
 by_cases h : c = 2
 · rw [if_pos h]; exact iff_of_true rfl h
 · rw [if_neg h]
   refine iff_of_false (fun k => ?_) h
   have k2 := (List.append_eq_nil_iff.1 k).2
   repeat' split at k2
   all_goals cases k2
theorem k0k (n : Nat) : Byt (a0o n) := fun x hx => by have := d0q n x hx; omega
theorem g1c (p : Int) : Byt (f0n p) := by
 unfold f0n
 split
 · intro x hx
   rcases List.mem_cons.1 hx with rfl | hx
   · omega
   · exact k0k _ x hx
 · exact k0k _
end Go.Slip
namespace Go.Proofs.YtbamiajjampgnaaGreatDoor
open Go.RowKit Go.Slip
theorem o1s (u : Int) (w : World) (hu : -100000 ≤ u ∧ u ≤ 100000) :
 Calls Tryz.prog 182 #[.int .i64 u] w fun en w' => ∃ p c q d, en = .returned (.tuple #[.slice p (dig B32 (10 ^ u.toNat)).length c, .slice q (dig B32 (10 ^ (-u).toNat)).length d]) ∧ Own w' w.heap.size .u32 143 p c (dig B32 (10 ^ u.toNat)) ∧ Own w' w.heap.size .u32 143 q d (dig B32 (10 ^ (-u).toNat)) ∧ Below w.heap.size w w' := by
 have HO := fun (k : Nat) hk W => hi0 (sof (k : Int) k rfl hk W)
 have HPw := fun p c K W base ho hb hK => hi0 (y0v base p c 10 K W ho hb (by omega) hK)
 have e1 : u < 0 → u.toNat = 0 ∧ (-u).toNat = u.natAbs := fun h => by omega
 have e2 : ¬ u < 0 → u.toNat = u.natAbs ∧ (-u).toNat = 0 := fun h => by omega
 have I := Inv.start w [] True.intro
 refine a0g [.v (.int .i64 u)] I Tryz.func182 ?_
 refine zqo I (fun Al W I => have hzW := I.bel.size; (HO 10 (by omega) W).out) fun Al W p5 c5 I => zi I 8 .i64 (0 - u) ((-u)) ((by rw [Int.zero_sub]; exact iwo)) fun Al W I => zm I 9 .i64 (if ((-u) : Int) > u then (-u) else u) ((u.natAbs : Int)) ((by omega)) fun Al W I => zqo I (fun Al W I => have hzW := I.bel.size; (HPw p5 c5 u.natAbs W _ I.fa.1 I.below.size (by omega)).out) fun Al W p10 c10 I => ?_
 rcases bTF (decide (u < 0)) with f12 | f12
 · refine zb I 12 (decide (u < 0)) (true) (f12) fun Al W I => zqo I (fun Al W I => have hzW := I.bel.size; (HO 1 (by omega) W).out) fun Al W p13 c13 I => zret I (v := fun Al => .tuple #[.slice p13 (dig B32 1).length c13, .slice p10 (dig B32 (10 ^ u.natAbs)).length c10]) fun Al W I => ?_
   (obtain ⟨h1, h2⟩ := e1 (oTr f12); rw [h1, h2, Nat.pow_zero]; exact ⟨p13, c13, p10, c10, rfl, I.fa.1, I.fa.2.1, I.below⟩)
 refine zb I 12 (decide (u < 0)) (false) (f12) fun Al W I => zqo I (fun Al W I => have hzW := I.bel.size; (HO 1 (by omega) W).out) fun Al W p16 c16 I => zret I (v := fun Al => .tuple #[.slice p10 (dig B32 (10 ^ u.natAbs)).length c10, .slice p16 (dig B32 1).length c16]) fun Al W I => ?_
 (obtain ⟨h1, h2⟩ := e2 (oFa f12); rw [h1, h2, Nat.pow_zero]; exact ⟨p10, c10, p16, c16, rfl, I.fa.2.1, I.fa.1, I.below⟩)
def o1t (w : World) (a b c : Nat) (en : Ending) (w' : World) : Prop :=
 ∃ p x q y r z, en = .returned (.tuple #[.slice p (dig B32 a).length x, .slice q (dig B32 b).length y, .slice r (dig B32 c).length z]) ∧ Own w' w.heap.size .u32 143 p x (dig B32 a) ∧ Own w' w.heap.size .u32 143 q y (dig B32 b) ∧ Own w' w.heap.size .u32 143 r z (dig B32 c) ∧ Below w.heap.size w w'
theorem x0n (g : Bool) (num : Nat) (E u : Int) (p q : OA) (a b : Nat) (w : World) (hp : Rd w .u32 p (dig B32 num)) (hq : Rd w .u32 q (dig B32 1)) (hl : (dig B32 num).length ≤ 1000) (hE : -100000 ≤ E ∧ E ≤ 100000) (hu : -100000 ≤ u ∧ u ≤ 100000) :
 Calls Tryz.prog 141 #[.agg #[.bool g, .slice p (dig B32 num).length a, .slice q (dig B32 1).length b, .int .i64 E], .int .i64 u] w (o1t w (q10 (numP num E) (denP 1 E) u) (r10 (numP num E) (denP 1 E) u) (d10 (denP 1 E) u)) := by
 have hN : num * 10 ^ u.toNat * 2 ^ E.toNat = n10 (numP num E) u := by unfold n10 numP; grind
 have hD : 1 * 10 ^ (-u).toNat * 2 ^ (-E).toNat = d10 (denP 1 E) u := by unfold d10 denP; grind
 have hd0 : 0 < d10 (denP 1 E) u := r0d (e0a (by omega) E) u
 have eq : q10 (numP num E) (denP 1 E) u = n10 (numP num E) u / d10 (denP 1 E) u := rfl
 have er : r10 (numP num E) (denP 1 E) u = n10 (numP num E) u % d10 (denP 1 E) u := rfl
 rw [eq, er, ← hN, ← hD]
 rw [← hD] at hd0
 clear eq er hN hD
 have l1 : (dig B32 1).length ≤ 1 := (a0e a0a 1 1).2 (by decide)
 have l10 : ∀ k : Nat, k ≤ 100000 → (dig B32 (10 ^ k)).length ≤ 100001 := fun k hk => k0b (K := 100001) a0a (by decide) (by omega) (by omega)
 have l2 : ∀ k : Nat, k ≤ 100000 → (dig B32 (2 ^ k)).length ≤ 100001 := fun k hk => k0b (K := 100001) a0a (by decide) (by omega) (by omega)
 have k1 := l10 u.toNat (by omega)
 have k2 := l10 (-u).toNat (by omega)
 have k3 := l2 E.toNat (by omega)
 have k4 := l2 (-E).toNat (by omega)
 have m1 := b0p a0a num (10 ^ u.toNat)
 have m2 := b0p a0a 1 (10 ^ (-u).toNat)
 have m3 := b0p a0a (num * 10 ^ u.toNat) (2 ^ E.toNat)
 have m4 := b0p a0a (1 * 10 ^ (-u).toNat) (2 ^ (-E).toNat)
 have HTn := fun W => hi0 (o1s u W hu)
 have e1 : E.toNat = 0 ∨ (E : Int) = (E.toNat : Nat) := by omega
 have e2 : 0 ≤ E → (-E).toNat = 0 := by omega
 have e3 : ¬ 0 ≤ E → E.toNat = 0 := by omega
 generalize 10 ^ u.toNat = U at *
 generalize 10 ^ (-u).toNat = V2 at *
 have HM1 := fun W r c h h2 => hi0 (n0h p r _ _ a c num U W h h2 rfl rfl (by omega))
 have HM2 := fun W r c h h2 => hi0 (n0h q r _ _ b c 1 V2 W h h2 rfl rfl (by omega))
 generalize num * U = X at *
 generalize 1 * V2 = Y at *
 have HS := fun W r c x (n : Nat) (M : Int) h (h1 : (dig B32 x).length ≤ 102001) (h2 : n ≤ 100000) h3 => hi0 (sshl r _ c x n (x * 2 ^ n) M W h rfl (by omega) (by omega) h3 rfl)
 have HDv := fun W r s c d x y h h2 (h3 : (dig B32 x).length ≤ 300000) (h4 : (dig B32 y).length ≤ 300000) h5 => hi0 (g0y r s _ _ c d x y W h h2 rfl rfl (by omega) (by omega) h5)
 have I := Inv.start w [rdF .u32 p (dig B32 num), rdF .u32 q (dig B32 1)] ⟨hp, hq, True.intro⟩
 refine a0g [.v (.agg #[.bool g, .slice p (dig B32 num).length a, .slice q (dig B32 1).length b, .int .i64 E]), .v (.int .i64 u)] I Tryz.func141 ?_
 refine zg I (fun Al W I => (HTn W).out) fun Al V Iv _ hB _ kz => ?_
 rintro _ W ⟨p15, c15, q15, d15, rfl, o15, r15, hb⟩
 refine ⟨_, rfl, kz _ _ hb fun I => ?_⟩
 have I := I.own o15
 have I := I.own r15
 refine zd [] I fun Al W I => zk [0, 1, 2, 4, 5, 6] I fun I => zo 3 I fun I => zqo I (fun Al W I => (HM1 W p15 c15 I.fa.2.2.1 I.fa.2.1.rd).out) fun Al W p21 c21 I => zo 7 I fun I => zqo I (fun Al W I => (HM2 W q15 d15 I.fa.2.2.2.2.1 I.fa.2.1.rd).out) fun Al W p25 c25 I => zk [8, 9] I fun I => ?_
 rcases bTF (decide (E ≥ 0)) with f28 | f28
 · refine zb I 28 (decide (E ≥ 0)) (true) (f28) fun Al W I => zqo I (fun Al W I => have hzW := I.bel.size; (HS W p21 c21 X E.toNat E I.fa.2.1.rd (by omega) (by omega) (by have := oTr f28; omega)).out) fun Al W p32 c32 I => zg I (fun Al W I => have hzW := I.bel.size; (HDv W p32 p25 c32 c25 (X * 2 ^ E.toNat) Y I.fa.1.rd I.fa.2.1.rd (by omega) (by omega) (by have h := e2 (oTr f28); rw [h, Nat.pow_zero, Nat.mul_one] at hd0; exact hd0)).out) fun Al V Iv _ hB _ kz => ?_
   rintro _ W ⟨p41, c41, q41, d41, rfl, o41, r41, hb, -⟩
   refine ⟨_, rfl, kz _ _ hb fun I => ?_⟩
   have I := I.own o41
   have I := I.own r41
   refine zret I (v := fun Al => .tuple #[.slice p41 (dig B32 (X * 2 ^ E.toNat / Y)).length c41, .slice q41 (dig B32 (X * 2 ^ E.toNat % Y)).length d41, .slice p25 (dig B32 Y).length c25]) fun Al W I => ?_
   (have h := e2 (oTr f28); rw [h, Nat.pow_zero, Nat.mul_one]; exact ⟨p41, c41, q41, d41, p25, c25, rfl, I.fa.2.1, I.fa.1, I.fa.2.2.2.1, I.below⟩)
 refine zb I 28 (decide (E ≥ 0)) (false) (f28) fun Al W I => zi I 36 .i64 (0 - E) ((-E)) ((by rw [Int.zero_sub]; exact iwo)) fun Al W I => zqo I (fun Al W I => have hzW := I.bel.size; (HS W p25 c25 Y (-E).toNat (-E) I.fa.1.rd (by omega) (by omega) (by have := oFa f28; omega)).out) fun Al W p37 c37 I => zg I (fun Al W I => have hzW := I.bel.size; (HDv W p21 p37 c21 c37 X (Y * 2 ^ (-E).toNat) I.fa.2.2.1.rd I.fa.1.rd (by omega) (by omega) hd0).out) fun Al V Iv _ hB _ kz => ?_
 rintro _ W ⟨p41, c41, q41, d41, rfl, o41, r41, hb, -⟩
 refine ⟨_, rfl, kz _ _ hb fun I => ?_⟩
 have I := I.own o41
 have I := I.own r41
 refine zret I (v := fun Al => .tuple #[.slice p41 (dig B32 (X / (Y * 2 ^ (-E).toNat))).length c41, .slice q41 (dig B32 (X % (Y * 2 ^ (-E).toNat))).length d41, .slice p37 (dig B32 (Y * 2 ^ (-E).toNat)).length c37]) fun Al W I => ?_
 (have h := e3 (oFa f28); rw [h, Nat.pow_zero, Nat.mul_one]; exact ⟨p41, c41, q41, d41, p37, c37, rfl, I.fa.2.1, I.fa.1, I.fa.2.2.1, I.below⟩)
theorem b1g (n : Int) (v : Vl) (p : OA) (c base : Nat) (w : World) (hp : Own w base .u32 143 p c (dig B32 v.d)) (hpw : -100000 ≤ v.pow ∧ v.pow ≤ 100000) :
 Calls Tryz.prog 65 #[.int .i64 n, .agg #[.int .i64 (v.cls : Int), .bool v.neg, .slice p (dig B32 v.d).length c, .int .i64 v.pow]] w fun en w' => ∃ q d, en = .returned (.agg #[.bool v.neg, .slice p (dig B32 v.d).length c, .slice q (dig B32 1).length d, .int .i64 (wid (fmt n).g * v.pow)]) ∧ Own w' w.heap.size .u32 143 q d (dig B32 1) ∧ Below w.heap.size w w' := by
 have HG := fun W => hi0 (s0a n W)
 have HO := fun (k : Nat) hk W => hi0 (sof (k : Int) k rfl hk W)
 have wp := b0f (fmt n).g
 have hw : wid (fmt n).g = if (fmt n).g.rad = 16 then 4 else 1 := rfl
 have hm := u0c (wd := wid (fmt n).g) (k := v.pow) (B := 100000) wp.2 hpw
 generalize wid (fmt n).g = wd at *
 generalize (fmt n).g = gg at *
 generalize c0h n = er at *
 obtain ⟨bb, hbb⟩ : ∃ bb, (gg.rad == 16) = bb := ⟨_, rfl⟩
 have I := Inv.start w [ownF base .u32 143 p c (dig B32 v.d)] ⟨hp, True.intro⟩
 refine a0g [.v (.int .i64 n), .v (.agg #[.int .i64 (v.cls : Int), .bool v.neg, .slice p (dig B32 v.d).length c, .int .i64 v.pow])] I Tryz.func65 ?_
 refine zq I (fun Al W I => (HG W).out) fun Al W I => zb I 15 (gg.rad == 16) (bb) (hbb) fun Al W I => zcut I (some 2000015) (fun fr bx gs => ∃ (U1 : Nat → Value) (k : Int), fr = (.v (vI n) :: .v (.agg #[vI (v.cls : Int), .bool v.neg, vS (dig B32 v.d) p c, vI v.pow]) :: vu :: .p 0 0 :: .p 1 0 :: .p 2 0 :: .v (U1 6) :: .v (vI k) :: sw U1 8 7 (.v (.bool bb) :: sw U1 16 10 []) : List SV) ∧ bx = [⟨66, [.v (vI (v.cls : Int)), .v (.bool v.neg), .v (vS (dig B32 v.d) p c), .v (vI v.pow)], false⟩, ⟨25, [.v (.bool false), .v (.slice none 0 0), .v (.slice none 0 0), .v (vI 0)], false⟩, ⟨40, [.v (vI gg.rad), .v (vI gg.digs), .v (vI gg.lo), .v (vI gg.hi), .v (.bool gg.grad)], false⟩] ∧ gs = [ownF base .u32 143 p c (dig B32 v.d)] ∧ ((wd : Int) = k)) ?_ ?_
 · intro J hJ Al W I
   rcases bTF bb with rfl | rfl
   · exact a0r I J fun Al W U I => hJ _ _ _ _ _ ⟨U, 4, rfl, rfl, rfl, (by rw [hw, if_pos (beq_iff_eq.1 hbb)]; rfl)⟩ (I.pick [0])
   exact a0r I J fun Al W U I => hJ _ _ _ _ _ ⟨U, 1, rfl, rfl, rfl, (by rw [hw, if_neg (bnF hbb)]; rfl)⟩ (I.pick [0])
 rintro _ _ _ ⟨U1, k, rfl, rfl, rfl, hk⟩ Al W I
 refine zd [1] I fun Al W I => zk [0, 1, 2, 3, 5, 6, 7] I fun I => zki 8 I .i64 (k * v.pow) (((wd : Int) * v.pow)) ((by rw [← hk]; exact iwo)) fun I => zo 4 I fun I => zqo I (fun Al W I => have hzW := I.bel.size; (HO 1 (by omega) W).out) fun Al W p20 c20 I => zk [9] I fun I => zo 10 I fun I => zn I fun Al W I => zret I fun Al W I => ⟨p20, c20, rfl, I.fa.1, I.below⟩
theorem s0h (g : Bool) (s : List Nat) (p : Int) (w : World) (hs : Byt s) (h0 : s ≠ []) (hl : s.length ≤ 100) (hp : -100000 < p ∧ p < 100000) (hT : PowW w) :
 Calls Tryz.prog 68 #[.bool g, .string (a0c s), .int .i64 p] w fun en w' => en = .returned (.string (a0c (numT g s p))) ∧ Below w.heap.size w w' := by
 have hz := a0j s
 have h1 := l0k hs 0 1
 have h2 : (a0c s).extract 1 (a0c s).size = a0c (s.drop 1) := by rw [l0k hs, hz, List.take_length]
 have hI := fun W h => hi0 (k1b p (by omega) W h)
 have hil : (f0n p).length ≤ 6 := by
  have h : (a0o p.natAbs).length ≤ 5 := (b0d _ 5 (by omega)).2 (by omega)
  unfold f0n
  split
  · rw [List.length_cons, show (-p).toNat = p.natAbs by omega]; omega
  · rw [show p.toNat = p.natAbs by omega]; omega
 have hl0 : 0 < s.length := List.length_pos_iff.2 h0
 have ha : (s.take 1).length = 1 := by rw [List.length_take]; omega
 have hb : (s.drop 1).length = s.length - 1 := by rw [List.length_drop]
 have eN : numT g s p = (if g then [45] else []) ++ (s.take 1 ++ ((if 1 < s.length then 46 :: s.drop 1 else []) ++ 101 :: f0n p)) := rfl
 rw [List.drop_zero] at h1
 generalize s.take 1 = a at *
 generalize s.drop 1 = b at *
 generalize f0n p = ip at *
 generalize a0c s = S at *
 obtain ⟨q, hq⟩ : ∃ q, decide ((S.size : Int) > 1) = q := ⟨_, rfl⟩
 have I := Inv.start w [powF] ⟨hT, True.intro⟩
 refine a0g [.v (.bool g), .v (.string S), .v (.int .i64 p)] I Tryz.func68 ?_
 refine zx I 9 (fun _ => .string (a0c a)) (fun Al W I => (by rw [← h1]; exact i0r uSt (.inl ⟨rfl, rfl⟩) (.inr rfl) (Nat.zero_le _) (by omega))) fun Al W I => zb I 12 (decide ((S.size : Int) > 1)) (q) (hq) fun Al W I => zcut I (some 2000012) (fun fr bx gs => ∃ (U1 : Nat → Value) (Y : LN), fr = (.v (.bool g) :: .v (.string S) :: .v (vI p) :: su 3 (.v (Go.Value.string (ByteArray.mk #[])) :: .v (.string (a0c Y)) :: sw U1 8 4 (.v (.bool q) :: sw U1 13 5 (vu :: sw U1 19 7 []))) : List SV) ∧ bx = [] ∧ gs = [powF] ∧ (Y = a ++ (if 1 < s.length then 46 :: b else [])) ∧ (Y.length ≤ 200)) ?_ ?_
 · intro J hJ Al W I
   rcases bTF q with rfl | rfl
   · refine zx I 15 (fun _ => .string (a0c b)) (fun Al W I => (by rw [← h2]; exact i0r uSt (.inr rfl) (.inl ⟨rfl, rfl⟩) (by omega) (Nat.le_refl _))) fun Al W I => zbin I 16 _ (fun _ _ _ _ _ => (f0t [46] b (by simp; omega))) fun Al W I => zbin I 17 _ (fun _ _ _ _ _ => (f0t a (46 :: b) (by simp; omega))) fun Al W I => a0r I J fun Al W U I => hJ _ _ _ _ _ ⟨U, (a ++ 46 :: b), rfl, rfl, rfl, (by rw [if_pos (by have := oTr hq; omega)]), (by rw [List.length_append, List.length_cons]; omega)⟩ (I.pick [0])
   exact a0r I J fun Al W U I => hJ _ _ _ _ _ ⟨U, a, rfl, rfl, rfl, (by rw [if_neg (by have := oFa hq; omega), List.append_nil]), (by omega)⟩ (I.pick [0])
 rintro _ _ _ ⟨U1, Y, rfl, rfl, rfl, hY, hYl⟩ Al W I
 refine zcut I (some 2000018) (fun fr bx gs => ∃ (U2 : Nat → Value) (X : LN), fr = (.v (.bool g) :: .v (.string S) :: .v (vI p) :: su 3 (.v (Go.Value.string (ByteArray.mk #[])) :: .v (.string (a0c X)) :: sw U2 8 4 (.v (.bool q) :: sw U2 13 5 (.v (.bool g) :: sw U2 19 7 []))) : List SV) ∧ bx = [] ∧ gs = [powF] ∧ (X ++ 101 :: ip = numT g s p) ∧ (X.length ≤ 300)) ?_ ?_
 · intro J hJ Al W I
   rcases bTF g with rfl | rfl
   · refine zbin I 20 _ (fun _ _ _ _ _ => (f0t [45] Y (by simp; omega))) fun Al W I => a0r I J fun Al W U I => hJ _ _ _ _ _ ⟨U, (45 :: Y), rfl, rfl, rfl, (by rw [eN, if_pos rfl, hY]; simp), (by rw [List.length_cons]; omega)⟩ (I.pick [0])
   exact a0r I J fun Al W U I => hJ _ _ _ _ _ ⟨U, Y, rfl, rfl, rfl, (by rw [eN, if_neg Bool.false_ne_true, hY]; simp), (by omega)⟩ (I.pick [0])
 rintro _ _ _ ⟨U2, X, rfl, rfl, rfl, hX, hXl⟩ Al W I
 refine zbin I 22 _ (fun _ _ _ _ _ => (f0t X [101] (by simp; omega))) fun Al W I => zq I (fun Al W I => (hI W I.fa.1).out) fun Al W I => zbin I 25 _ (fun _ _ _ _ _ => (f0t (X ++ [101]) ip (by simp; omega))) fun Al W I => zret I (v := fun Al => .string (a0c (X ++ [101] ++ ip))) fun Al W I => ⟨by rw [← hX]; simp, I.below⟩
theorem k1j (a b : Vl) (p q : OA) (c d b1 b2 : Nat) (w : World) (hp : Own w b1 .u32 143 p c (dig B32 a.d)) (hq : Own w b2 .u32 143 q d (dig B32 b.d)) (h1 : (dig B32 a.d).length ≤ 100000) (h2 : (dig B32 b.d).length ≤ 100000) :
 Calls Tryz.prog 69 #[.agg #[.int .i64 (a.cls : Int), .bool a.neg, .slice p (dig B32 a.d).length c, .int .i64 a.pow], .agg #[.int .i64 (b.cls : Int), .bool b.neg, .slice q (dig B32 b.d).length d, .int .i64 b.pow]] w fun en w' => en = .returned (.bool (decide (a.cls = b.cls ∧ a.neg = b.neg ∧ a.pow = b.pow ∧ a.d = b.d))) ∧ Below w.heap.size w w' := by
 have HC := fun W hp hq => hi0 (d0u p q _ _ c d a.d b.d W hp hq rfl rfl (by omega) (by omega))
 have hc : cmpN a.d b.d = 0 ↔ a.d = b.d := ⟨u0j, fun h => by rw [h, v0r]⟩
 obtain ⟨ac, an, ad, ap⟩ := a
 obtain ⟨bc, bn, bd, bp⟩ := b
 simp only at HC hc hp hq h1 h2 ⊢
 generalize cmpN ad bd = k at *
 have I := Inv.start w [ownF b1 .u32 143 p c (dig B32 ad), ownF b2 .u32 143 q d (dig B32 bd)] ⟨hp, hq, True.intro⟩
 refine a0g [.v (.agg #[.int .i64 (ac : Int), .bool an, .slice p (dig B32 ad).length c, .int .i64 ap]), .v (.agg #[.int .i64 (bc : Int), .bool bn, .slice q (dig B32 bd).length d, .int .i64 bp])] I Tryz.func69 ?_
 refine zcut I (some 3000001) (fun fr bx gs => ∃ (U1 : Nat → Value) (r : Bool), fr = (.v (.agg #[vI (ac : Int), .bool an, vS (dig B32 ad) p c, vI ap]) :: .v (.agg #[vI (bc : Int), .bool bn, vS (dig B32 bd) q d, vI bp]) :: .p 0 0 :: .p 1 0 :: .v (.bool r) :: sw U1 5 27 [] : List SV) ∧ bx = [⟨66, [.v (vI (ac : Int)), .v (.bool an), .v (vS (dig B32 ad) p c), .v (vI ap)], false⟩, ⟨66, [.v (vI (bc : Int)), .v (.bool bn), .v (vS (dig B32 bd) q d), .v (vI bp)], false⟩] ∧ gs = [ownF b1 .u32 143 p c (dig B32 ad), ownF b2 .u32 143 q d (dig B32 bd)] ∧ (r = decide (ac = bc ∧ an = bn ∧ ap = bp ∧ ad = bd))) ?_ ?_
 · intro J hJ Al W I
   rcases bTF ((ac : Int) == (bc : Int)) with f9 | f9
   · refine zb I 9 ((ac : Int) == (bc : Int)) (true) (f9) fun Al W I => ?_
     rcases bTF (an == bn) with f15 | f15
     · refine zb I 15 (an == bn) (true) (f15) fun Al W I => ?_
       rcases bTF (ap == bp) with f22 | f22
       · refine zb I 22 (ap == bp) (true) (f22) fun Al W I => zq I (fun Al W I => (HC W I.fa.1.rd I.fa.2.1.rd).out) fun Al W I => ?_
         rcases bTF (k == 0) with f30 | f30
         · refine zb I 30 (k == 0) (true) (f30) fun Al W I => a0r I J fun Al W U I => hJ _ _ _ _ _ ⟨U, true, rfl, rfl, rfl, (by exact (decide_eq_true ⟨by have := beq_iff_eq.1 f9; omega, beq_iff_eq.1 f15, beq_iff_eq.1 f22, hc.1 (beq_iff_eq.1 f30)⟩).symm)⟩ (I.pick [0, 1])
         refine zb I 30 (k == 0) (false) (f30) fun Al W I => a0r I J fun Al W U I => hJ _ _ _ _ _ ⟨U, false, rfl, rfl, rfl, (by exact (dFa (fun h => bnF f30 (hc.2 h.2.2.2))).symm)⟩ (I.pick [0, 1])
       refine zb I 22 (ap == bp) (false) (f22) fun Al W I => a0r I J fun Al W U I => hJ _ _ _ _ _ ⟨U, false, rfl, rfl, rfl, (by exact (dFa (fun h => bnF f22 h.2.2.1)).symm)⟩ (I.pick [0, 1])
     refine zb I 15 (an == bn) (false) (f15) fun Al W I => a0r I J fun Al W U I => hJ _ _ _ _ _ ⟨U, false, rfl, rfl, rfl, (by exact (dFa (fun h => bnF f15 h.2.1)).symm)⟩ (I.pick [0, 1])
   refine zb I 9 ((ac : Int) == (bc : Int)) (false) (f9) fun Al W I => a0r I J fun Al W U I => hJ _ _ _ _ _ ⟨U, false, rfl, rfl, rfl, (by exact (dFa (fun h => by have := bnF f9; have := h.1; omega)).symm)⟩ (I.pick [0, 1])
 rintro _ _ _ ⟨U1, r, rfl, rfl, rfl, hr⟩ Al W I
 exact zret I (v := fun Al => .bool r) fun Al W I => ⟨by rw [hr], I.below⟩
theorem p0y : Tryz.prog.underlying 207 = some (.map 3 9) := by kernel_rfl
theorem g1d (c : Nat) : (∃ i, Instr.findNow (.int .i64) (.int .i64 (c : Int)) [⟨.int .i64 1, .string ⟨#[48]⟩, 0⟩, ⟨.int .i64 3, .string ⟨#[105, 110, 102]⟩, 1⟩, ⟨.int .i64 4, .string ⟨#[110, 111, 110, 101]⟩, 2⟩, ⟨.int .i64 5, .string ⟨#[114, 101, 115, 101, 114, 118, 101, 100]⟩, 3⟩] 0 = some (some (i, .string (a0c (o0l c))))) ∨ (o0l c = [] ∧ Instr.findNow (.int .i64) (.int .i64 (c : Int)) [⟨.int .i64 1, .string ⟨#[48]⟩, 0⟩, ⟨.int .i64 3, .string ⟨#[105, 110, 102]⟩, 1⟩, ⟨.int .i64 4, .string ⟨#[110, 111, 110, 101]⟩, 2⟩, ⟨.int .i64 5, .string ⟨#[114, 101, 115, 101, 114, 118, 101, 100]⟩, 3⟩] 0 = some none) := by
 by_cases h1 : c = 1
 · subst h1; exact .inl ⟨0, rfl⟩
 by_cases h3 : c = 3
 · subst h3; exact .inl ⟨1, rfl⟩
 by_cases h4 : c = 4
 · subst h4; exact .inl ⟨2, rfl⟩
 by_cases h5 : c = 5
 · subst h5; exact .inl ⟨3, rfl⟩
 refine .inr ⟨by unfold o0l; rw [if_neg h1, if_neg h3, if_neg h4, if_neg h5], ?_⟩
 have e1 : ((c : Int) == 1) = false := bFn (by omega)
 have e3 : ((c : Int) == 3) = false := bFn (by omega)
 have e4 : ((c : Int) == 4) = false := bFn (by omega)
 have e5 : ((c : Int) == 5) = false := bFn (by omega)
 simp only [Instr.findNow, Instr.sameNow, e1, e3, e4, e5, if_true]
theorem g1e {W : World} {b c : Nat} (hb : W.heap[b]? = some (.map #[⟨.int .i64 1, .string ⟨#[48]⟩, 0⟩, ⟨.int .i64 3, .string ⟨#[105, 110, 102]⟩, 1⟩, ⟨.int .i64 4, .string ⟨#[110, 111, 110, 101]⟩, 2⟩, ⟨.int .i64 5, .string ⟨#[114, 101, 115, 101, 114, 118, 101, 100]⟩, 3⟩] 4)) : (VO.lk 207 (.map (some b)) (.int .i64 (c : Int)) false).sem.run Tryz.prog W = .ok (.string (a0c (o0l c))) W := by
 rcases g1d c with h | ⟨h1, h2⟩
 · exact r1g p0y Tryz.underlying3 hb _ h
 · rw [h1]
   exact h0t p0y Tryz.underlying3 hb _ (by kernel_rfl) h2
theorem k1k (v : Vl) (p : OA) (c base : Nat) (w : World) (hp : Own w base .u32 143 p c (dig B32 v.d)) (hc : 1 ≤ v.cls ∧ v.cls ≤ 5) (hT : TabW w) :
 Calls Tryz.prog 63 #[.agg #[.int .i64 (v.cls : Int), .bool v.neg, .slice p (dig B32 v.d).length c, .int .i64 v.pow]] w fun en w' => en = .returned (.string (a0c (k0j v.cls v.neg))) ∧ Below w.heap.size w w' := by
 have HF := fun W b h => hi0 (@g1e W b v.cls h)
 have hw : k0j v.cls v.neg = if v.cls = 2 then [] else (if v.neg then [45] else []) ++ o0l v.cls := by
  unfold k0j o0l
  by_cases h2 : v.cls = 2
  · rw [if_pos h2, if_pos h2]
  · rw [if_neg h2, if_neg h2]
    congr 1
    by_cases h1 : v.cls = 1
    · rw [if_pos h1, if_pos h1]
    · by_cases h3 : v.cls = 3
      · rw [if_neg h1, if_neg h1, if_pos h3, if_pos h3]
      · by_cases h4 : v.cls = 4
        · rw [if_neg h1, if_neg h1, if_neg h3, if_neg h3, if_pos h4, if_pos h4]
        · rw [if_neg h1, if_neg h1, if_neg h3, if_neg h3, if_neg h4, if_neg h4, if_pos (by omega)]
 have h2 : v.cls = 2 → o0l v.cls = [] := fun h => by rw [h]; rfl
 have hl : (o0l v.cls).length ≤ 8 := by
  unfold o0l
  repeat' split
  all_goals decide
 generalize o0l v.cls = S at *
 generalize k0j v.cls v.neg = R at *
 have I := Inv.start w [ownF base .u32 143 p c (dig B32 v.d), tabF] ⟨hp, hT, True.intro⟩
 refine a0g [.v (.agg #[.int .i64 (v.cls : Int), .bool v.neg, .slice p (dig B32 v.d).length c, .int .i64 v.pow])] I Tryz.func63 ?_
 refine zmkm I 207 fun Al W m4_b m4_ge I => zins I p0y Tryz.underlying3 1 (Go.Value.string (ByteArray.mk #[48])) m4_ge (fun Al W I => ⟨r0y I.fa.1 I.fa.2.1, fun e => by have h2 := hT.2; have e : 0 = m4_b := e; have h3 := m4_ge; omega, True.intro⟩) fun Al W I => zins I p0y Tryz.underlying3 3 (Go.Value.string (ByteArray.mk #[105, 110, 102])) m4_ge (fun Al W I => ⟨r0y I.fa.1 I.fa.2.1, fun e => by have h2 := hT.2; have e : 0 = m4_b := e; have h3 := m4_ge; omega, True.intro⟩) fun Al W I => zins I p0y Tryz.underlying3 4 (Go.Value.string (ByteArray.mk #[110, 111, 110, 101])) m4_ge (fun Al W I => ⟨r0y I.fa.1 I.fa.2.1, fun e => by have h2 := hT.2; have e : 0 = m4_b := e; have h3 := m4_ge; omega, True.intro⟩) fun Al W I => zins I p0y Tryz.underlying3 5 (Go.Value.string (ByteArray.mk #[114, 101, 115, 101, 114, 118, 101, 100])) m4_ge (fun Al W I => ⟨r0y I.fa.1 I.fa.2.1, fun e => by have h2 := hT.2; have e : 0 = m4_b := e; have h3 := m4_ge; omega, True.intro⟩) fun Al W I => zx I 8 (fun _ => .string (a0c S)) (fun Al W I => (HF _ _ I.fa.1).out) fun Al W I => ?_
 rcases bTF (v.neg) with f11 | f11
 · refine zb I 11 (v.neg) (true) (f11) fun Al W I => ?_
   rcases bTF ((v.cls : Int) != 2) with f14 | f14
   · refine zb I 14 ((v.cls : Int) != 2) (true) (f14) fun Al W I => zbin I 17 _ (fun _ _ _ _ _ => (f0t [45] S (by simp; omega))) fun Al W I => zret I (v := fun Al => .string (a0c (45 :: S))) fun Al W I => ?_
     first | (rw [hw, if_neg (fun h => by have := bne_iff_ne.1 f14; omega), f11]; exact ⟨rfl, I.below⟩) | (have h := h2 (by have : (v.cls : Int) = 2 := (by simpa using f14); omega); rw [hw, if_pos (by have : (v.cls : Int) = 2 := (by simpa using f14); omega), h]; exact ⟨rfl, I.below⟩) | (rw [hw, f11]; by_cases h : v.cls = 2; (rw [if_pos h, h2 h]; exact ⟨rfl, I.below⟩); rw [if_neg h]; exact ⟨rfl, I.below⟩)
   refine zb I 14 ((v.cls : Int) != 2) (false) (f14) fun Al W I => zret I (v := fun Al => .string (a0c S)) fun Al W I => ?_
   first | (have h := h2 (by have : (v.cls : Int) = 2 := (by simpa using f14); omega); rw [hw, if_pos (by have : (v.cls : Int) = 2 := (by simpa using f14); omega), h]; exact ⟨rfl, I.below⟩) | (rw [hw, f11]; by_cases h : v.cls = 2; (rw [if_pos h, h2 h]; exact ⟨rfl, I.below⟩); rw [if_neg h]; exact ⟨rfl, I.below⟩)
 refine zb I 11 (v.neg) (false) (f11) fun Al W I => zret I (v := fun Al => .string (a0c S)) fun Al W I => ?_
 (rw [hw, f11]; by_cases h : v.cls = 2; (rw [if_pos h, h2 h]; exact ⟨rfl, I.below⟩); rw [if_neg h]; exact ⟨rfl, I.below⟩)
end Go.Proofs.YtbamiajjampgnaaGreatDoor
namespace Go.Slip
open Go.RowKit
theorem o1u {N D k : Nat} {P : Int} (h : theP N D = P) : decM N D k = if k < (a0o (dT N D (k - 1 - P))).length then ((a0o (dT N D (k - 1 - P))).take k, P + 1) else (a0o (dT N D (k - 1 - P)), P) := by subst h; rfl
theorem r1p {x : Int} (h : -40000 ≤ x ∧ x ≤ 40000) : -20000 ≤ (x * 30103).tdiv 100000 ∧ (x * 30103).tdiv 100000 ≤ 20000 := by
 rcases Int.le_total 0 x with h1 | h1
 · rw [Int.tdiv_eq_ediv_of_nonneg (by omega)]; omega
 · rw [show x * 30103 = -((-x) * 30103) by omega, Int.neg_tdiv, Int.tdiv_eq_ediv_of_nonneg (by omega)]; omega
end Go.Slip
namespace Go.Proofs.YtbamiajjampgnaaGreatDoor
open Go.RowKit Go.Slip
theorem o1v (n : Nat) : bits .and .u32 ((dg (dig B32 n) 0 : Nat) : Int) 1 = ((n % 2 : Nat) : Int) := by
 have h0 : dg (dig B32 n) 0 = n % 4294967296 := by
  by_cases h : n = 0
  · subst h; rw [a0d]; rfl
  · rw [d0p a0a (by omega)]; rfl
 rw [h0]
 have h := u32_and_nat (n % 4294967296) 1 (by omega) (by omega)
 rw [show ((1 : Nat) : Int) = 1 from rfl] at h
 rw [h, Nat.and_one_is_mod]
 omega
theorem v0c (g : Bool) (num : Nat) (E : Int) (k : Nat) (p q : OA) (a b b1 b2 : Nat) (w : World) (hp : Own w b1 .u32 143 p a (dig B32 num)) (hq : Own w b2 .u32 143 q b (dig B32 1)) (h0 : 0 < num) (hl : (dig B32 num).length ≤ 100) (hE : -30000 ≤ E ∧ E ≤ 30000) (hk : 1 ≤ k ∧ k ≤ 100) :
 Calls Tryz.prog 67 #[.agg #[.bool g, .slice p (dig B32 num).length a, .slice q (dig B32 1).length b, .int .i64 E], .int .i64 (k : Int)] w fun en w' => en = .returned (.tuple #[.string (a0c (decM (numP num E) (denP 1 E) k).1), .int .i64 (decM (numP num E) (denP 1 E) k).2]) ∧ Below w.heap.size w w' := by
 have hN0 : 0 < numP num E := j0v h0 E
 have hD0 : 0 < denP 1 E := e0a (by omega) E
 have hP := l0e hN0 hD0
 have hbd := hP.bd hD0
 have hlong := fun x => hP.long hD0 hk.1 x
 have hshort := fun x => hP.short hD0 hk.1 x
 have hdec := o1u (k := k) (rfl : theP (numP num E) (denP 1 E) = _)
 have hlo : 0 < q10 (numP num E) (denP 1 E) (k - 1 - theP (numP num E) (denP 1 E)) := Nat.lt_of_lt_of_le (c0m (k - 1)) ((i0x hD0 _ _).2 ((hP.iff _).2 (by omega)))
 have HSc := fun u W hp hq hu => hi0 (x0n g num E u p q a b W hp hq (by omega) (by omega) hu)
 have bn := c0p num
 have bN : blen (numP num E) ≤ 33300 := by
  refine Nat.le_trans ((a0u _ (blen num + E.toNat)).2 ?_) (by omega)
  unfold numP
  have h1 := (a0u num _).1 (Nat.le_refl _)
  calc num * 2 ^ E.toNat < 2 ^ blen num * 2 ^ E.toNat := Nat.mul_lt_mul_of_pos_right h1 (Nat.pow_pos (by omega))
   _ = 2 ^ (blen num + E.toNat) := (Nat.pow_add _ _ _).symm
 have bD : blen (denP 1 E) ≤ 30001 := by
  refine Nat.le_trans ((a0u _ ((-E).toNat + 1)).2 ?_) (by omega)
  unfold denP
  rw [Nat.one_mul]
  exact Nat.pow_lt_pow_right (by omega) (by omega)
 have hql : ∀ u : Int, -100000 ≤ u ∧ u ≤ 100000 → (dig B32 (q10 (numP num E) (denP 1 E) u)).length ≤ 200000 ∧ (dig B32 (d10 (denP 1 E) u)).length ≤ 200000 := fun u hu => by
  have l10 : ∀ j : Nat, j ≤ 100000 → (dig B32 (10 ^ j)).length ≤ 100001 := fun j hj => k0b (K := 100001) a0a (by decide) (by omega) (by omega)
  have k1 := l10 u.toNat (by omega)
  have k2 := l10 (-u).toNat (by omega)
  have m1 := b0p a0a (numP num E) (10 ^ u.toNat)
  have m2 := b0p a0a (denP 1 E) (10 ^ (-u).toNat)
  have c1 := y0n _ _ bN
  have c2 := y0n _ _ bD
  refine ⟨Nat.le_trans (a0i a0a (Nat.div_le_self _ _)) ?_, ?_⟩
  · unfold n10; omega
  · unfold d10; omega
 have hrl : ∀ u : Int, r10 (numP num E) (denP 1 E) u < d10 (denP 1 E) u := fun u => Nat.mod_lt _ (r0d hD0 u)
 have hdT : ∀ u, dT (numP num E) (denP 1 E) u = q10 (numP num E) (denP 1 E) u + if upT (numP num E) (denP 1 E) u then 1 else 0 := fun u => rfl
 have hup : ∀ u, upT (numP num E) (denP 1 E) u = decide (0 < cmpN (r10 (numP num E) (denP 1 E) u * 2) (d10 (denP 1 E) u) ∨ (cmpN (r10 (numP num E) (denP 1 E) u * 2) (d10 (denP 1 E) u) = 0 ∧ q10 (numP num E) (denP 1 E) u % 2 = 1)) := fun u => by unfold upT; rw [Bool.decide_or, Bool.decide_and]
 have hP2 : -12000 ≤ theP (numP num E) (denP 1 E) ∧ theP (numP num E) (denP 1 E) ≤ 12000 := by omega
 generalize decM (numP num E) (denP 1 E) k = R at *
 generalize theP (numP num E) (denP 1 E) = P at *
 clear hbd bN bD hN0 hD0 hP
 generalize numP num E = N at *
 generalize denP 1 E = D at *
 have HL := fun W p c x h hl => hi0 ((g0u p _ c x W h rfl hl).mono fun _ _ ⟨h1, h2⟩ => ⟨h1, h2 ▸ Below.refl _ _⟩ : Calls Tryz.prog 136 #[.slice p (dig B32 x).length c] W fun en W' => en = .returned (.int .i64 ((blen x : Nat) : Int)) ∧ Below W.heap.size W W')
 have HDe := fun W p c x h hl => hi0 (n0s p _ c x W h rfl hl)
 have HSh := fun W p c x h hl => hi0 (sshl p _ c x 1 (x * 2) 1 W h rfl hl (by omega) rfl (by rw [Nat.pow_one]))
 have HCm := fun W p q c d x y h h2 hl hl2 => hi0 (d0u p q _ _ c d x y W h h2 rfl rfl hl hl2)
 have HO := fun W => hi0 (sof 1 1 rfl (by omega) W)
 have HAd := fun W p q c d x h h2 hl => hi0 (sadd p q _ _ c d x 1 _ W h h2 rfl rfl hl (Nat.le_trans ((a0e a0a 1 1).2 (by decide)) (by omega)) rfl)
 have l1 := (a0u 1 1).2 (by decide)
 have d1 : (dig B32 1).length ≤ 1 := (a0e a0a 1 1).2 (by decide)
 have hes := fun x h => @r1p x h
 let aA : Box := ⟨25, [.v (.bool g), .v (.slice p (dig B32 num).length a), .v (.slice q (dig B32 1).length b), .v (.int .i64 E)], false⟩
 let aB : SV := .v (.agg #[.bool g, .slice p (dig B32 num).length a, .slice q (dig B32 1).length b, .int .i64 E])
 have I := Inv.start w [ownF b1 .u32 143 p a (dig B32 num), ownF b2 .u32 143 q b (dig B32 1)] ⟨hp, hq, True.intro⟩
 refine a0g [.v (.agg #[.bool g, .slice p (dig B32 num).length a, .slice q (dig B32 1).length b, .int .i64 E]), .v (.int .i64 (k : Int))] I Tryz.func67 ?_
 refine zd [] I fun Al W I => zk [0, 1, 3, 4, 7, 8] I fun I => zo 2 I fun I => zq I (fun Al W I => have hzW := I.bel.size; (HL W p a num I.fa.1.rd (by omega)).out) fun Al W I => zo 5 I fun I => zq I (fun Al W I => have hzW := I.bel.size; (HL W q b 1 I.fa.2.1.rd (by omega)).out) fun Al W I => zki 6 I .i64 (((blen num : Nat) : Int) - ((blen 1 : Nat) : Int)) (((blen num : Int) - blen 1)) (iwo) fun I => zki 9 I .i64 (((blen num : Int) - blen 1) + E) (((blen num : Int) - blen 1 + E)) (iwo) fun I => zk [10] I fun I => zi I 24 .i64 (((blen num : Int) - blen 1 + E) * 30103) ((((blen num : Int) - blen 1 + E) * 30103)) ((by exact iwo)) fun Al W I => zbin I 25 _ (fun _ _ _ _ _ => k0z .i64 ((((blen num : Int) - blen 1 + E) * 30103)) (100000) (((((blen num : Int) - blen 1 + E) * 30103).tdiv 100000)) (by omega) ((by have := hes ((blen num : Int) - blen 1 + E) (by omega); exact iwo))) fun Al W I => o0h I (fun gk fr bx gs => ∃ (U900 : Nat → Value) (pw : Int), fr = (aB :: .v (vI (k : Int)) :: .p 0 0 :: .v undef :: sw U900 4 2 (.v (vI ((blen num : Int) - blen 1 + E)) :: .v (vI pw) :: sw U900 8 81 []) : List SV) ∧ bx = [aA] ∧ gs = [ownF b1 .u32 143 p a (dig B32 num), ownF b2 .u32 143 q b (dig B32 1)] ∧ (-20000 ≤ pw ∧ pw ≤ 20000) ∧ (gk = (pw - P).natAbs)) (((((blen num : Int) - blen 1 + E) * 30103).tdiv 100000 - P).natAbs) (fun Al W U I => ⟨_, ⟨U, _, rfl, rfl, rfl, (by have := hes ((blen num : Int) - blen 1 + E) (by omega); omega), rfl⟩, I.pick [0, 1]⟩) ?_
 rintro J0 gk0 _ _ _ ⟨U900, pw, rfl, rfl, rfl, hpw, hgk⟩ hJ0 Al W I
 have hq2 := hql ((k : Int) - 1 - pw) (by omega)
 have hl2 := hlong pw
 have hs2 := hshort pw
 refine zi I 29 .i64 ((k : Int) - 1) (((k : Int) - 1)) ((by exact iwo)) fun Al W I => zi I 31 .i64 (((k : Int) - 1) - pw) (((k : Int) - 1 - pw)) ((by exact iwo)) fun Al W I => zg I (fun Al W I => have hzW := I.bel.size; (HSc ((k : Int) - 1 - pw) W I.fa.1.rd I.fa.2.1.rd (by omega)).out) fun Al V Iv _ hB _ kz => ?_
 rintro _ W ⟨p32, c32, q32, d32, r32, z32, rfl, o32, s32, v32, hb⟩
 refine ⟨_, rfl, kz _ _ hb fun I => ?_⟩
 have I := I.own o32
 have I := I.own s32
 have I := I.own v32
 refine zq I (fun Al W I => have hzW := I.bel.size; (HDe W p32 c32 (q10 N D ((k : Int) - 1 - pw)) I.fa.2.2.1.rd (by omega)).out) fun Al W I => ?_
 rcases bTF (decide ((((a0c (a0o (q10 N D ((k : Int) - 1 - pw)))).size : Nat) : Int) > (k : Int))) with f42 | f42
 · refine zb I 42 (decide ((((a0c (a0o (q10 N D ((k : Int) - 1 - pw)))).size : Nat) : Int) > (k : Int))) (true) (f42) fun Al W I => ?_
   have hlt : pw < P := hl2.1 (by have := oTr f42; rw [a0j] at this; omega)
   refine zi I 44 .i64 (pw + 1) ((pw + 1)) ((by exact iwo)) fun Al W I => a0r I J0 fun Al W U I => hJ0 ((pw + 1 - P).natAbs) _ _ _ _ _ ((by omega)) ⟨U, (pw + 1), rfl, rfl, rfl, (by omega), rfl⟩ (I.pick [3, 4])
 refine zb I 42 (decide ((((a0c (a0o (q10 N D ((k : Int) - 1 - pw)))).size : Nat) : Int) > (k : Int))) (false) (f42) fun Al W I => ?_
 rcases bTF (decide ((((a0c (a0o (q10 N D ((k : Int) - 1 - pw)))).size : Nat) : Int) < (k : Int))) with f49 | f49
 · refine zb I 49 (decide ((((a0c (a0o (q10 N D ((k : Int) - 1 - pw)))).size : Nat) : Int) < (k : Int))) (true) (f49) fun Al W I => ?_
   have hgt : P < pw := hs2.1 (by exact .inl (by have := oTr f49; rw [a0j] at this; omega))
   refine zi I 56 .i64 (pw - 1) ((pw - 1)) ((by exact iwo)) fun Al W I => a0r I J0 fun Al W U I => hJ0 ((pw - 1 - P).natAbs) _ _ _ _ _ ((by omega)) ⟨U, (pw - 1), rfl, rfl, rfl, (by omega), rfl⟩ (I.pick [3, 4])
 refine zb I 49 (decide ((((a0c (a0o (q10 N D ((k : Int) - 1 - pw)))).size : Nat) : Int) < (k : Int))) (false) (f49) fun Al W I => ?_
 rcases bTF ((((dig B32 (q10 N D ((k : Int) - 1 - pw))).length : Nat) : Int) == 0) with f53 | f53
 · refine zb I 53 ((((dig B32 (q10 N D ((k : Int) - 1 - pw))).length : Nat) : Int) == 0) (true) (f53) fun Al W I => ?_
   have hgt : P < pw := hs2.1 (by exact .inr (by have := beq_iff_eq.1 f53; have := a0f a0a (q10 N D ((k : Int) - 1 - pw)); omega))
   refine zi I 56 .i64 (pw - 1) ((pw - 1)) ((by exact iwo)) fun Al W I => a0r I J0 fun Al W U I => hJ0 ((pw - 1 - P).natAbs) _ _ _ _ _ ((by omega)) ⟨U, (pw - 1), rfl, rfl, rfl, (by omega), rfl⟩ (I.pick [3, 4])
 refine zb I 53 ((((dig B32 (q10 N D ((k : Int) - 1 - pw))).length : Nat) : Int) == 0) (false) (f53) fun Al W I => ?_
 have hpP : pw = P := by have h1 : ¬ pw < P := fun h => oFa f42 (by rw [a0j]; have := hl2.2 h; omega); have h2 : ¬ P < pw := fun h => (hs2.2 h).elim (fun h => oFa f49 (by rw [a0j]; omega)) (fun h => bnF f53 (by have := a0f a0a (q10 N D ((k : Int) - 1 - pw)); omega)); omega
 subst hpP
 refine zqo I (fun Al W I => have hzW := I.bel.size; (HSh W q32 d32 (r10 N D ((k : Int) - 1 - pw)) I.fa.2.1.rd (by have := a0i a0a (Nat.le_of_lt (hrl ((k : Int) - 1 - pw))); omega)).out) fun Al W p58 c58 I => zq I (fun Al W I => have hzW := I.bel.size; (HCm W p58 r32 c58 z32 (r10 N D ((k : Int) - 1 - pw) * 2) (d10 D ((k : Int) - 1 - pw)) I.fa.1.rd I.fa.2.1.rd (by have := a0i a0a (Nat.le_of_lt (hrl ((k : Int) - 1 - pw))); have := b0p a0a (r10 N D ((k : Int) - 1 - pw)) 2; have := (a0e a0a 2 1).2 (by decide); omega) (by omega)).out) fun Al W I => zcut I (some 3000010) (fun fr bx gs => ∃ (U1 : Nat → Value) (up : Bool), fr = (aB :: .v (vI (k : Int)) :: .p 0 0 :: vu :: sw U900 4 2 (.v (vI ((blen num : Int) - blen 1 + E)) :: .v (vI pw) :: .v (vS (dig B32 (q10 N D ((k : Int) - 1 - pw))) p32 c32) :: .v (vS (dig B32 (r10 N D ((k : Int) - 1 - pw))) q32 d32) :: .v (vS (dig B32 (d10 D ((k : Int) - 1 - pw))) r32 z32) :: .v (.string (a0c (a0o (q10 N D ((k : Int) - 1 - pw))))) :: .v (vI (cmpN (r10 N D ((k : Int) - 1 - pw) * 2) (d10 D ((k : Int) - 1 - pw)))) :: sw U1 13 25 (.v (.bool false) :: sw U1 39 6 (.v (.bool false) :: sw U1 46 27 (.v (.bool up) :: sw U1 74 7 (.v (U900 81) :: sw U1 82 7 []))))) : List SV) ∧ bx = [aA] ∧ gs = [ownF w.heap.size .u32 143 p58 c58 (dig B32 (r10 N D ((k : Int) - 1 - pw) * 2)), ownF w.heap.size .u32 143 r32 z32 (dig B32 (d10 D ((k : Int) - 1 - pw))), ownF w.heap.size .u32 143 q32 d32 (dig B32 (r10 N D ((k : Int) - 1 - pw))), ownF w.heap.size .u32 143 p32 c32 (dig B32 (q10 N D ((k : Int) - 1 - pw))), ownF b1 .u32 143 p a (dig B32 num), ownF b2 .u32 143 q b (dig B32 1)] ∧ (up = upT N D ((k : Int) - 1 - pw))) ?_ ?_
 · intro J hJ Al W I
   rcases bTF (decide ((cmpN (r10 N D ((k : Int) - 1 - pw) * 2) (d10 D ((k : Int) - 1 - pw))) > 0)) with f62 | f62
   · refine zb I 62 (decide ((cmpN (r10 N D ((k : Int) - 1 - pw) * 2) (d10 D ((k : Int) - 1 - pw))) > 0)) (true) (f62) fun Al W I => a0r I J fun Al W U I => hJ _ _ _ _ _ ⟨U, true, rfl, rfl, rfl, (by rw [hup]; symm; exact dTr (.inl (oTr f62)))⟩ (I.pick [0, 1, 2, 3, 4, 5])
   refine zb I 62 (decide ((cmpN (r10 N D ((k : Int) - 1 - pw) * 2) (d10 D ((k : Int) - 1 - pw))) > 0)) (false) (f62) fun Al W I => ?_
   rcases bTF ((cmpN (r10 N D ((k : Int) - 1 - pw) * 2) (d10 D ((k : Int) - 1 - pw))) == 0) with f65 | f65
   · refine zb I 65 ((cmpN (r10 N D ((k : Int) - 1 - pw) * 2) (d10 D ((k : Int) - 1 - pw))) == 0) (true) (f65) fun Al W I => zx I 68 (fun _ => .pointer (some (at_ p32 0))) (fun Al W I => (j0n (m := 0) (n := (dig B32 (q10 N D ((k : Int) - 1 - pw))).length) (c := c32) a1o I.fa.2.2.2.1.rd.solid (by have := a0f a0a (q10 N D ((k : Int) - 1 - pw)); omega))) fun Al W I => zx I 69 (fun _ => .int .u32 ((dg (dig B32 (q10 N D ((k : Int) - 1 - pw))) 0 : Nat) : Int)) (fun Al W I => (p0o I.fa.2.2.2.1.rd i1v (by have := a0f a0a (q10 N D ((k : Int) - 1 - pw)); omega))) fun Al W I => zbin I 70 _ (fun _ _ _ _ _ => l0a .u32 ((dg (dig B32 (q10 N D ((k : Int) - 1 - pw))) 0 : Nat) : Int) (1) (((q10 N D ((k : Int) - 1 - pw) % 2 : Nat) : Int)) ((by exact o1v _))) fun Al W I => ?_
     rcases bTF (((q10 N D ((k : Int) - 1 - pw) % 2 : Nat) : Int) == 1) with f71 | f71
     · refine zb I 71 (((q10 N D ((k : Int) - 1 - pw) % 2 : Nat) : Int) == 1) (true) (f71) fun Al W I => a0r I J fun Al W U I => hJ _ _ _ _ _ ⟨U, true, rfl, rfl, rfl, (by rw [hup]; symm; exact dTr (.inr ⟨beq_iff_eq.1 f65, by have := beq_iff_eq.1 f71; omega⟩))⟩ (I.pick [0, 1, 2, 3, 4, 5])
     refine zb I 71 (((q10 N D ((k : Int) - 1 - pw) % 2 : Nat) : Int) == 1) (false) (f71) fun Al W I => a0r I J fun Al W U I => hJ _ _ _ _ _ ⟨U, false, rfl, rfl, rfl, (by rw [hup]; symm; exact dFa (fun h => h.elim (oFa f62) (fun h => bnF f71 (by have := h.2; omega))))⟩ (I.pick [0, 1, 2, 3, 4, 5])
   refine zb I 65 ((cmpN (r10 N D ((k : Int) - 1 - pw) * 2) (d10 D ((k : Int) - 1 - pw))) == 0) (false) (f65) fun Al W I => a0r I J fun Al W U I => hJ _ _ _ _ _ ⟨U, false, rfl, rfl, rfl, (by rw [hup]; symm; exact dFa (fun h => h.elim (oFa f62) (fun h => bnF f65 h.1)))⟩ (I.pick [0, 1, 2, 3, 4, 5])
 rintro _ _ _ ⟨U1, up, rfl, rfl, rfl, hup2⟩ Al W I
 refine zcut I (some 2000073) (fun fr bx gs => ∃ (U2 : Nat → Value) (s : LN) (pf : Int), fr = (aB :: .v (vI (k : Int)) :: .p 0 0 :: vu :: sw U900 4 2 (.v (vI ((blen num : Int) - blen 1 + E)) :: .v (vI pf) :: .v (vS (dig B32 (q10 N D ((k : Int) - 1 - pw))) p32 c32) :: .v (vS (dig B32 (r10 N D ((k : Int) - 1 - pw))) q32 d32) :: .v (vS (dig B32 (d10 D ((k : Int) - 1 - pw))) r32 z32) :: .v (.string (a0c s)) :: .v (vI (cmpN (r10 N D ((k : Int) - 1 - pw) * 2) (d10 D ((k : Int) - 1 - pw)))) :: sw U2 13 25 (.v (.bool false) :: sw U2 39 6 (.v (.bool false) :: sw U2 46 27 (.v (.bool up) :: sw U2 74 15 [])))) : List SV) ∧ bx = [aA] ∧ gs = [ownF w.heap.size .u32 143 p58 c58 (dig B32 (r10 N D ((k : Int) - 1 - pw) * 2)), ownF w.heap.size .u32 143 r32 z32 (dig B32 (d10 D ((k : Int) - 1 - pw))), ownF w.heap.size .u32 143 q32 d32 (dig B32 (r10 N D ((k : Int) - 1 - pw))), ownF w.heap.size .u32 143 p32 c32 (dig B32 (q10 N D ((k : Int) - 1 - pw))), ownF b1 .u32 143 p a (dig B32 num), ownF b2 .u32 143 q b (dig B32 1)] ∧ (R = (s, pf))) ?_ ?_
 · intro J hJ Al W I
   rcases bTF up with rfl | rfl
   · refine zqo I (fun Al W I => (HO W).out) fun Al W p75 c75 I => zqo I (fun Al W I => have hzW := I.bel.size; (HAd W p32 p75 c32 c75 (q10 N D ((k : Int) - 1 - pw)) I.fa.2.2.2.2.1.rd I.fa.1.rd (by omega)).out) fun Al W p76 c76 I => zq I (fun Al W I => have hzW := I.bel.size; (HDe W p76 c76 (q10 N D ((k : Int) - 1 - pw) + 1) I.fa.1.rd (by have := f0a a0a (q10 N D ((k : Int) - 1 - pw)) 1; omega)).out) fun Al W I => ?_
     rcases bTF (decide ((((a0c (a0o (q10 N D ((k : Int) - 1 - pw) + 1))).size : Nat) : Int) > (k : Int))) with f81 | f81
     · refine zb I 81 (decide ((((a0c (a0o (q10 N D ((k : Int) - 1 - pw) + 1))).size : Nat) : Int) > (k : Int))) (true) (f81) fun Al W I => zx I 84 (fun _ => .string (a0c ((a0o (q10 N D ((k : Int) - 1 - pw) + 1)).take k))) (fun Al W I => (by rw [show (a0o (q10 N D ((k : Int) - 1 - pw) + 1)).take k = ((a0o (q10 N D ((k : Int) - 1 - pw) + 1)).take k).drop 0 from rfl, ← l0k (k0k _)]; exact i0r uSt (.inl ⟨rfl, rfl⟩) (.inr rfl) (Nat.zero_le _) (by have := oTr f81; omega))) fun Al W I => zi I 86 .i64 (pw + 1) ((pw + 1)) ((by exact iwo)) fun Al W I => a0r I J fun Al W U I => hJ _ _ _ _ _ ⟨U, ((a0o (q10 N D ((k : Int) - 1 - pw) + 1)).take k), (pw + 1), rfl, rfl, rfl, (by rw [hdec, hdT, ← hup2, if_pos rfl, if_pos (by have := oTr f81; rw [a0j] at this; omega)])⟩ (I.pick [2, 3, 4, 5, 6, 7])
     refine zb I 81 (decide ((((a0c (a0o (q10 N D ((k : Int) - 1 - pw) + 1))).size : Nat) : Int) > (k : Int))) (false) (f81) fun Al W I => a0r I J fun Al W U I => hJ _ _ _ _ _ ⟨U, (a0o (q10 N D ((k : Int) - 1 - pw) + 1)), pw, rfl, rfl, rfl, (by rw [hdec, hdT, ← hup2, if_pos rfl, if_neg (by have := oFa f81; rw [a0j] at this; omega)])⟩ (I.pick [2, 3, 4, 5, 6, 7])
   exact a0r I J fun Al W U I => hJ _ _ _ _ _ ⟨U, (a0o (q10 N D ((k : Int) - 1 - pw))), pw, rfl, rfl, rfl, (by rw [hdec, hdT, ← hup2, if_neg Bool.false_ne_true, Nat.add_zero, if_neg (by have h := fun h => Int.lt_irrefl _ (hl2.1 h); omega)])⟩ (I.pick [0, 1, 2, 3, 4, 5])
 rintro _ _ _ ⟨U2, s, pf, rfl, rfl, rfl, hs⟩ Al W I
 exact zret I (v := fun Al => .tuple #[.string (a0c s), vI pf]) fun Al W I => ⟨by rw [hs], I.below⟩
end Go.Proofs.YtbamiajjampgnaaGreatDoor
namespace Go.Slip
end Go.Slip
namespace Go.Proofs.YtbamiajjampgnaaGreatDoor
open Go.RowKit Go.Slip
def x0o (n cls : Int) (a : Din) : Int := if IsFm n then a0q (fmt n) cls a else 6
theorem b1h (n : Int) (cls : Int) (a : Din) (w : World) (ha : InD w a) (hT : TabW w) :
 Calls Tryz.prog 154 #[.int .i64 n, .agg #[.int .i64 cls, .bool a.g, .slice a.p a.xs.length a.c, .int .i64 a.e]] w (u0k w (x0o n cls a) (p0s (fmt n) cls a)) := by
 unfold x0o
 by_cases hn : IsFm n
 · rw [if_pos hn]; exact f1q n cls a w hn ha hT
 · rw [if_neg hn]
   have HF := fun W => hi0 (h0r n hn W)
   generalize p0s (fmt n) cls a = s
   have I := Inv.start w [] True.intro
   refine a0g [.v (.int .i64 n), .v (.agg #[.int .i64 cls, .bool a.g, .slice a.p a.xs.length a.c, .int .i64 a.e])] I Tryz.func154 ?_
   refine zq I (fun Al W I => (HF W).out) fun Al W I => zret I fun Al W I => a0t (r := 6) rfl (by decide) rfl I.below
def a5 : Din := ⟨false, none, 0, [], 0⟩
theorem b1i (f : Fm) {k : Nat} (h : k ≠ 2) (g : Bool) (d d' : Dv) : f.encP k g d = f.encP k g d' := by
 unfold Fm.encP
 rw [if_neg h, if_neg h]
theorem x0p {f : Fm} (G : c0n f) {neg : Bool} {e x : Nat} (he : e < 2 ^ f.E) (hx : x < 2 ^ f.F) : a0y f (a0c (f.str neg e x)) = f.pat neg e x := by
 have ho : f.ord = 1 → f.size % 2 = 0 := fun _ => by have := G.sz; omega
 unfold a0y
 rw [a0v (by unfold Fm.str; exact p0f (by rw [d0n]; exact ho) (t0h _ _)), q1l G he hx]
theorem s0i {r : Nat} (h : (dig B32 r).length ≤ 1200) : a0w (dig B32 r) = 0 := by rw [Go.Slip.g0a, if_neg (by omega)]
structure Is (a : Din) (v : Vl) : Prop where
 g : a.g = v.neg
 xs : a.xs = dig B32 v.d
 e : a.e = v.pow
theorem Is.num {a : Din} {v : Vl} (h : Is a v) (f : Fm) : numD f a = bare ⟨v.neg, v.d, wid f.g * v.pow⟩ := by
 unfold numD
 rw [h.g, h.xs, h.e, b0e a0a]
def dinV (v : Vl) (p : OA) (c : Nat) : Din := ⟨v.neg, p, c, dig B32 v.d, v.pow⟩
theorem o1w {v : Vl} {p : OA} {c base : Nat} {w : World} (h : Own w base .u32 143 p c (dig B32 v.d)) (hl : (dig B32 v.d).length ≤ 1000) : InD w (dinV v p c) :=
 ⟨h.rd, h.le_cap, by show (dig B32 v.d).length ≤ _; omega, b0g a0a _⟩
structure ResF (f : Fm) (r : Vr) : Prop where
 c : 1 ≤ r.cls ∧ r.cls ≤ 5
 c1 : r.cls = 1 → r.neg = true → f.fam ≠ 3
 c2 : r.cls = 2 → a0x r.x f.g = true ∧ Bare r.x ∧ r.x.m ≠ 0 ∧ r.x.neg = r.neg
 c3 : r.cls = 3 → f.fam = 1
 c4 : r.cls = 4 → f.fam = 1 ∧ r.neg = false
 c5 : r.cls = 5 → f.fam = 3 ∧ r.neg = false
 x0 : r.cls ≠ 2 → r.x = vz
structure VRep (f : Fm) (v : Vl) (r : Vr) : Prop where
 cls : v.cls = r.cls
 neg : v.neg = r.neg
 num : r.cls = 2 → bare ⟨v.neg, v.d, wid f.g * v.pow⟩ = r.x
 oth : r.cls ≠ 2 → v.d = 0 ∧ v.pow = 0
 len : (dig B32 v.d).length ≤ 1000
 lo : -20000 ≤ v.pow
 hi : v.pow ≤ 20000
theorem r1q {f : Fm} {v : Vl} {r : Vr} (R : ResF f r) (V : VRep f v r) (p : OA) (c : Nat) :
 a0q f (v.cls : Int) (dinV v p c) = 0 ∧ p0s f (v.cls : Int) (dinV v p c) = a0c (f.strP (f.encP r.cls r.neg r.x)) := by
 have hinf : f.inf = false ↔ f.fam ≠ 1 := by unfold Fm.inf; simp
 have hres : f.res = false ↔ f.fam ≠ 3 := by unfold Fm.res; simp
 have hres1 : f.res = true ↔ f.fam = 3 := by unfold Fm.res; simp
 have hc := R.c
 have hcl := V.cls
 have hlo := V.lo
 have hhi := V.hi
 have hE : a0w (dinV v p c).xs = 0 := s0i (by have := V.len; omega)
 have hN : r.cls = 2 → numD f (dinV v p c) = r.x := fun h => by
  rw [← V.num h]
  unfold numD dinV
  simp only [b0e a0a]
 refine ⟨?_, ?_⟩
 · unfold a0q
   rw [if_neg (by omega), if_neg (by omega), if_neg]
   · by_cases h2 : r.cls = 2
     · obtain ⟨i1, i2, i3, i4⟩ := R.c2 h2
       rw [if_pos (by omega), if_neg (by show ¬ (v.pow < _ ∨ _ < v.pow); omega), hN h2, i1, if_neg]
       rintro (h | h)
       · have h0 : v.d = 0 := (a0f a0a _).1 h
         have := V.num h2
         rw [h0] at this
         exact i3 (by rw [← this]; rfl)
       · cases h
     · obtain ⟨o1, o2⟩ := V.oth h2
       rw [if_neg (by omega), if_neg]
       rintro (h | h | ⟨h, k⟩)
       · have : (dig B32 v.d).length = 0 := by rw [o1, a0d]; rfl
         have h : 0 < (dig B32 v.d).length := h
         omega
       · exact h o2
       · have hg : r.neg = true := by rw [← V.neg]; exact h
         have k4 := R.c4
         have k5 := R.c5
         rw [hg] at k4 k5
         rcases k with k | k
         · rcases (show r.cls = 4 ∨ r.cls = 5 by omega) with q | q
           · exact absurd (k4 q).2 (by decide)
           · exact absurd (k5 q).2 (by decide)
         · rcases (show r.cls = 1 ∨ r.cls = 3 ∨ r.cls = 4 ∨ r.cls = 5 by omega) with q | q | q | q
           · exact R.c1 q hg (hres1.1 k)
           · have := R.c3 q; have := hres1.1 k; omega
           · exact absurd (k4 q).2 (by decide)
           · exact absurd (k5 q).2 (by decide)
   · rintro (⟨h | h, k⟩ | ⟨h, k⟩)
     · exact hinf.1 k (R.c3 (by omega))
     · exact hinf.1 k (R.c4 (by omega)).1
     · exact hres.1 k (R.c5 (by omega)).1
 · unfold p0s
   rw [show ((v.cls : Int)).toNat = r.cls by omega, show (dinV v p c).g = r.neg from V.neg]
   by_cases h2 : r.cls = 2
   · rw [hN h2]
   · rw [b1i f h2 r.neg _ r.x]
theorem r1r {neg : Bool} {num den : Nat} {e : Int} {g : Gd} {way : Int} (hd : 0 < den) (G : d0r g) (ho : (a0h neg num den e g way).over = false)
 (hu : (a0h neg num den e g way).under = true → g.grad = false → g.lo ≤ (a0h neg num den e g way).pow ∧ (a0h neg num den e g way).d ≠ 0) :
 a0x (rv neg num den e g way) g = true := by
 by_cases hok : okP (a0h neg num den e g way) g = true
 · exact q1h hd G hok
 · unfold okP at hok
   rw [ho] at hok
   simp only [Bool.not_false, Bool.true_and, Bool.or_eq_true, Bool.not_eq_true', not_or, Bool.not_eq_false, Bool.not_eq_true] at hok
   obtain ⟨h1, h2⟩ := hok
   obtain ⟨h3, h4⟩ := hu h1 h2
   by_cases h0 : num = 0
   · subst h0; rw [w0k]; rfl
   · unfold rv
     unfold a0h at *
     rw [if_neg h0] at *
     generalize theK num den e (wid g) g.digs.toNat = K at *
     have hk : K < g.lo := oTr h1
     have hp : powK g K = K := by unfold powK; rw [if_neg (fun h => by rw [h2] at h; cases h.2)]
     have e1 : (fitK neg num den e g way K).pow = if digP neg num den e (wid g) g.digs.toNat way (powK g K) = 0 then 0 else powP neg num den e (wid g) g.digs.toNat way (powK g K) := rfl
     have e2 : (fitK neg num den e g way K).d = digP neg num den e (wid g) g.digs.toNat way (powK g K) := rfl
     have e3 : (fitK neg num den e g way K).neg = neg := rfl
     rw [e2] at h4
     rw [e1, if_neg h4] at h3
     rw [e1, e2, e3, if_neg h4]
     rw [hp] at h3 h4 ⊢
     have hl : g0r neg num den e (wid g) g.digs.toNat way K := by
      by_cases h : g0r neg num den e (wid g) g.digs.toNat way K
      · exact h
      · unfold powP at h3; rw [if_neg h] at h3; omega
     unfold digP powP at *
     rw [if_pos hl] at h3
     rw [if_pos hl, if_pos hl]
     have hd1 := G.d1
     have hgl := G.le
     have hww : wid g * (g.digs.toNat - 1) < wid g * g.digs.toNat := Nat.mul_lt_mul_of_pos_left (by omega) (b0f g).1
     have habs : (sg neg (2 ^ (wid g * (g.digs.toNat - 1)))).natAbs = 2 ^ (wid g * (g.digs.toNat - 1)) := by unfold sg; cases neg <;> simp [Int.natAbs_pow]
     rw [← f0v]
     refine i0w G (show g.digs = (g.digs.toNat : Int) by omega) ?_ ?_ h3 (by omega)
     · rw [habs]; exact Nat.pow_lt_pow_right (by omega) hww
     · rw [habs]; exact .inr (.inl (Nat.le_refl _))
theorem s0j {g : Bool} {m : Nat} {e : Int} (h : m ≠ 0) : (bare ⟨g, m, e⟩).neg = g ∧ (bare ⟨g, m, e⟩).m ≠ 0 := by
 unfold bare
 rw [if_neg h]
 refine ⟨rfl, fun h2 => ?_⟩
 have := (b0k m (by omega)).2
 simp only at h2
 rw [h2] at this
 simp at this
/-! ### What comes -/
theorem s0k {f : Fm} (G : c0n f) (g : Bool) : ResF f (f.zeroM g) := by
 have := G.fam
 refine ⟨by show 1 ≤ 1 ∧ 1 ≤ 5; omega, fun _ h h3 => ?_, fun h => (by cases h), fun h => (by cases h), fun h => (by cases h), fun h => (by cases h), fun _ => rfl⟩
 have h : (g && decide (f.fam = 1)) = true := h
 simp [h3] at h
theorem b1j {f : Fm} (G : c0n f) : ResF f f.nothM := by
 have hf := G.fam
 unfold Fm.nothM
 rcases hf with h | h | h <;> rw [h] <;> refine ⟨?_, ?_, ?_, ?_, ?_, ?_, fun _ => rfl⟩ <;> simp [h]
theorem r1s {f : Fm} (h : f.fam = 1) (g : Bool) : ResF f (infM g) :=
 ⟨by show 1 ≤ 3 ∧ 3 ≤ 5; omega, fun h => (by cases h), fun h => (by cases h), fun _ => h, fun h => (by cases h), fun h => (by cases h), fun _ => rfl⟩
theorem k1l {f : Fm} (G : c0n f) (g : Bool) : 2 ^ (wid f.g * f.g.digs.toNat) - 1 ≠ 0 ∧ a0x (f.greatM g).x f.g = true := by
 have GG := b0x G.g
 have hd1 := GG.d1
 have hgl := GG.le
 have wp := b0f f.g
 have hww : wid f.g * (f.g.digs.toNat - 1) < wid f.g * f.g.digs.toNat := Nat.mul_lt_mul_of_pos_left (by omega) wp.1
 have h1 : 2 ^ (wid f.g * (f.g.digs.toNat - 1)) < 2 ^ (wid f.g * f.g.digs.toNat) := Nat.pow_lt_pow_right (by omega) hww
 have h2 : 0 < 2 ^ (wid f.g * (f.g.digs.toNat - 1)) := Nat.pow_pos (by omega)
 refine ⟨by omega, ?_⟩
 show a0x (bare ⟨g, 2 ^ (wid f.g * f.g.digs.toNat) - 1, wid f.g * f.g.hi⟩) f.g = true
 have habs : (sg g (2 ^ (wid f.g * f.g.digs.toNat) - 1)).natAbs = 2 ^ (wid f.g * f.g.digs.toNat) - 1 := by unfold sg; cases g <;> simp only [if_true, Bool.false_eq_true, if_false, Int.natAbs_neg, Int.natAbs_natCast]
 rw [← f0v]
 refine i0w GG (show f.g.digs = (f.g.digs.toNat : Int) by omega) ?_ ?_ hgl (Int.le_refl _)
 · rw [habs]; omega
 · rw [habs]; exact .inr (.inl (by omega))
theorem z0d {f : Fm} (G : c0n f) (g : Bool) : ResF f (f.greatM g) := by
 obtain ⟨h1, h2⟩ := k1l G g
 exact ⟨by show 1 ≤ 2 ∧ 2 ≤ 5; omega, fun h => (by cases h), fun _ => ⟨h2, f0e _, (s0j h1).2, (s0j h1).1⟩, fun h => (by cases h), fun h => (by cases h), fun h => (by cases h), fun h => absurd rfl h⟩
theorem v0d {f : Fm} (G : c0n f) (g : Bool) : VRep f ⟨2, g, 2 ^ (wid f.g * f.g.digs.toNat) - 1, f.g.hi⟩ (f.greatM g) := by
 have GG := b0x G.g
 have h1 := GG.h1
 have h2 := GG.h2
 have hd2 := GG.d2
 have wp := b0f f.g
 have hm : wid f.g * f.g.digs.toNat ≤ 4 * 120 := Nat.mul_le_mul wp.2 (by omega)
 refine ⟨rfl, rfl, fun _ => rfl, fun h => absurd rfl h, ?_, by show _ ≤ f.g.hi; omega, by show f.g.hi ≤ _; omega⟩
 exact Nat.le_trans (a0i a0a (Nat.sub_le _ _)) (Nat.le_trans (g0s hm) (by omega))
theorem e0x {f : Fm} {k : Nat} {g : Bool} {x : Dv} (h : k ≠ 2) : VRep f ⟨k, g, 0, 0⟩ ⟨k, g, x⟩ :=
 ⟨rfl, rfl, fun e => absurd e h, fun _ => ⟨rfl, rfl⟩, by show (dig B32 0).length ≤ _; rw [a0d]; decide, by show (-20000 : Int) ≤ 0; decide, by show (0 : Int) ≤ 20000; decide⟩
def _root_.Go.Slip.Fm.placedV (f : Fm) (p : Pl) (way : Int) : Vl :=
 if p.over then (if f.fam = 2 then ⟨2, p.neg, 2 ^ (wid f.g * f.g.digs.toNat) - 1, f.g.hi⟩ else if f.fam = 3 then ⟨f.nothM.cls, false, 0, 0⟩ else if way ≤ 2 ∨ (way = 4 ∧ p.neg = false) ∨ (way = 5 ∧ p.neg = true) then ⟨3, p.neg, 0, 0⟩ else ⟨2, p.neg, 2 ^ (wid f.g * f.g.digs.toNat) - 1, f.g.hi⟩)
 else if p.under = true ∧ f.fam ≠ 1 ∧ p.pow < f.g.lo then ⟨1, false, 0, 0⟩
 else if p.d = 0 then ⟨1, p.neg && decide (f.fam = 1), 0, 0⟩
 else ⟨2, p.neg, p.d, p.pow⟩
theorem g1f {f : Fm} (_G : c0n f) : f.nothM.cls ≠ 2 := by unfold Fm.nothM; simp only; split <;> (try split) <;> omega
theorem g0l {f : Fm} (G : c0n f) {neg : Bool} {num den : Nat} {e way : Int} (hd : 0 < den) :
 ResF f (f.placedM (a0h neg num den e f.g way) way).1 ∧ VRep f (f.placedV (a0h neg num den e f.g way) way) (f.placedM (a0h neg num den e f.g way) way).1 := by
 have GG := b0x G.g
 have hin := fun h1 h2 => r1r (neg := neg) (num := num) (e := e) (way := way) hd GG h1 h2
 have hlen := f1k (neg := neg) (num := num) (e := e) (way := way) hd GG
 have hpw := fun h => r1h (neg := neg) (num := num) (e := e) (way := way) hd GG h
 have hpw2 : (a0h neg num den e f.g way).over = false → (a0h neg num den e f.g way).pow ≤ 17000 := by
  intro h
  have hh := GG.h2
  unfold a0h at *
  by_cases h0 : num = 0
  · rw [if_pos h0]; simp
  · rw [if_neg h0] at *
    generalize theK num den e (wid f.g) f.g.digs.toNat = K at *
    have h1 : powP neg num den e (wid f.g) f.g.digs.toNat way (powK f.g K) ≤ f.g.hi := by
     have h : decide (f.g.hi < powP neg num den e (wid f.g) f.g.digs.toNat way (powK f.g K)) = false := h
     have := oFa h
     omega
    show (if digP neg num den e (wid f.g) f.g.digs.toNat way (powK f.g K) = 0 then 0 else powP neg num den e (wid f.g) f.g.digs.toNat way (powK f.g K)) ≤ 17000
    split <;> omega
 unfold rv at hin
 have hgr := G.grad
 have l1 := GG.l1
 generalize a0h neg num den e f.g way = p at *
 unfold Fm.placedM Fm.placedV
 cases ho : p.over with
 | true =>
  simp only [if_true]
  by_cases h2 : f.fam = 2
  · rw [if_pos h2, if_pos h2]; exact ⟨z0d G _, v0d G _⟩
  · rw [if_neg h2, if_neg h2]
    by_cases h3 : f.fam = 3
    · rw [if_pos h3, if_pos h3]; exact ⟨b1j G, e0x (g1f G)⟩
    · have hf : f.fam = 1 := by have := G.fam; omega
      rw [if_neg h3, if_neg h3]
      split
      · exact ⟨r1s hf _, e0x (by decide)⟩
      · exact ⟨z0d G _, v0d G _⟩
 | false =>
  simp only [Bool.false_eq_true, if_false]
  by_cases hz : p.under = true ∧ f.fam ≠ 1 ∧ p.pow < f.g.lo
  · rw [if_pos hz, if_pos hz]
    exact ⟨s0k G _, e0x (by decide)⟩
  · rw [if_neg hz, if_neg hz]
    by_cases hd0 : p.d = 0
    · rw [if_pos hd0, if_pos hd0]
      exact ⟨s0k G _, e0x (by decide)⟩
    · rw [if_neg hd0, if_neg hd0]
      have hu : p.under = true → f.g.grad = false → f.g.lo ≤ p.pow ∧ p.d ≠ 0 := fun h1 h2 => by
       rw [hgr] at h2
       have := oFa h2
       refine ⟨?_, hd0⟩
       rcases Int.lt_or_le p.pow f.g.lo with h | h
       · exact absurd ⟨h1, this, h⟩ hz
       · exact h
      obtain ⟨b1, b2⟩ := s0j (g := p.neg) (e := wid f.g * p.pow) hd0
      have hlo : -17000 ≤ p.pow := by
       by_cases hok : okP p f.g = true
       · exact (hpw hok).1
       · unfold okP at hok
         rw [ho] at hok
         simp only [Bool.not_false, Bool.true_and, Bool.or_eq_true, Bool.not_eq_true', not_or, Bool.not_eq_false, Bool.not_eq_true] at hok
         have := (hu hok.1 hok.2).1
         omega
      have hhi := hpw2 ho
      refine ⟨⟨by show 1 ≤ 2 ∧ 2 ≤ 5; omega, fun h => (by cases h), fun _ => ⟨hin ho hu, f0e _, b2, b1⟩, fun h => (by cases h), fun h => (by cases h), fun h => (by cases h), fun h => absurd rfl h⟩, ?_⟩
      exact ⟨rfl, rfl, fun _ => rfl, fun h => absurd rfl h, by show (dig B32 p.d).length ≤ _; omega, by show _ ≤ p.pow; omega, by show p.pow ≤ _; omega⟩
theorem k1m (f : Fm) (n way a c : Int) (g : Bool) (u : Nat) (w : World) (U : Bt w u 223 #[.int .i64 n, .int .i64 way, .int .i64 f.g.rad, .int .i64 f.g.digs, .int .i64 f.g.lo, .int .i64 f.g.hi, .bool f.g.grad, .int .u8 (famB f), .int .i64 a]) (hd : 0 ≤ f.g.digs ∧ f.g.digs ≤ 1000) (hc : bits .or .i64 a 5 = c) (h1 : f.fam = 1) (hw : 1 ≤ way ∧ way ≤ 5) :
 Calls Tryz.prog 196 #[.pointer (some ⟨u, 0, none⟩), .bool g] w (l0t f n way c u w (if way ≤ 2 ∨ (way = 4 ∧ g = false) ∨ (way = 5 ∧ g = true) then ⟨3, g, 0, 0⟩ else ⟨2, g, 2 ^ (wid f.g * f.g.digs.toNat) - 1, f.g.hi⟩)) := by
 have hF : famB f = 65 := by unfold famB; rw [if_pos h1]
 rcases (show way = 1 ∨ way = 2 ∨ way = 3 ∨ way = 4 ∨ way = 5 by omega) with rfl | rfl | rfl | rfl | rfl <;> cases g
 · rw [if_pos (by decide)]
   have HR := fun W u hU => hi0 (d0b f n 1 a 5 c u W hU hc)
   have I := Inv.startW w u 223 (uS f n 1 a) [] U True.intro True.intro
   refine a0g [.p 0 0, .v (.bool false)] I Tryz.func196 ?_
   refine zge I 0 223 (fun Al W I => (HR W _ (I.box 0 223 _)).out) fun Al V Iv _ _ kz => ?_
   rintro _ W ⟨rfl, hO, hB⟩
   refine ⟨_, rfl, kz _ (uS f n 1 c) _ hO hB fun I => ?_⟩
   refine zb I 13 ((famB f) == 66) (false) (bFn (by rw [hF]; decide)) fun Al W I => zb I 18 ((famB f) == 67) (false) (bFn (by rw [hF]; decide)) fun Al W I => zq I (fun Al W I => l0j false W) fun Al W I => zret I fun Al W I => d0j (k := 3) rfl I.bel (I.boxE 223 _)
 · rw [if_pos (by decide)]
   have HR := fun W u hU => hi0 (d0b f n 1 a 5 c u W hU hc)
   have I := Inv.startW w u 223 (uS f n 1 a) [] U True.intro True.intro
   refine a0g [.p 0 0, .v (.bool true)] I Tryz.func196 ?_
   refine zge I 0 223 (fun Al W I => (HR W _ (I.box 0 223 _)).out) fun Al V Iv _ _ kz => ?_
   rintro _ W ⟨rfl, hO, hB⟩
   refine ⟨_, rfl, kz _ (uS f n 1 c) _ hO hB fun I => ?_⟩
   refine zb I 13 ((famB f) == 66) (false) (bFn (by rw [hF]; decide)) fun Al W I => zb I 18 ((famB f) == 67) (false) (bFn (by rw [hF]; decide)) fun Al W I => zq I (fun Al W I => l0j true W) fun Al W I => zret I fun Al W I => d0j (k := 3) rfl I.bel (I.boxE 223 _)
 · rw [if_pos (by decide)]
   have HR := fun W u hU => hi0 (d0b f n 2 a 5 c u W hU hc)
   have I := Inv.startW w u 223 (uS f n 2 a) [] U True.intro True.intro
   refine a0g [.p 0 0, .v (.bool false)] I Tryz.func196 ?_
   refine zge I 0 223 (fun Al W I => (HR W _ (I.box 0 223 _)).out) fun Al V Iv _ _ kz => ?_
   rintro _ W ⟨rfl, hO, hB⟩
   refine ⟨_, rfl, kz _ (uS f n 2 c) _ hO hB fun I => ?_⟩
   refine zb I 13 ((famB f) == 66) (false) (bFn (by rw [hF]; decide)) fun Al W I => zb I 18 ((famB f) == 67) (false) (bFn (by rw [hF]; decide)) fun Al W I => zq I (fun Al W I => l0j false W) fun Al W I => zret I fun Al W I => d0j (k := 3) rfl I.bel (I.boxE 223 _)
 · rw [if_pos (by decide)]
   have HR := fun W u hU => hi0 (d0b f n 2 a 5 c u W hU hc)
   have I := Inv.startW w u 223 (uS f n 2 a) [] U True.intro True.intro
   refine a0g [.p 0 0, .v (.bool true)] I Tryz.func196 ?_
   refine zge I 0 223 (fun Al W I => (HR W _ (I.box 0 223 _)).out) fun Al V Iv _ _ kz => ?_
   rintro _ W ⟨rfl, hO, hB⟩
   refine ⟨_, rfl, kz _ (uS f n 2 c) _ hO hB fun I => ?_⟩
   refine zb I 13 ((famB f) == 66) (false) (bFn (by rw [hF]; decide)) fun Al W I => zb I 18 ((famB f) == 67) (false) (bFn (by rw [hF]; decide)) fun Al W I => zq I (fun Al W I => l0j true W) fun Al W I => zret I fun Al W I => d0j (k := 3) rfl I.bel (I.boxE 223 _)
 · rw [if_neg (by decide)]
   have HR := fun W u hU => hi0 (d0b f n 3 a 5 c u W hU hc)
   have HG := fun W u hU => hi0 (g0i f n 3 c false u W hU hd)
   generalize 2 ^ (wid f.g * f.g.digs.toNat) - 1 = m at *
   have I := Inv.startW w u 223 (uS f n 3 a) [] U True.intro True.intro
   refine a0g [.p 0 0, .v (.bool false)] I Tryz.func196 ?_
   refine zge I 0 223 (fun Al W I => (HR W _ (I.box 0 223 _)).out) fun Al V Iv _ _ kz => ?_
   rintro _ W ⟨rfl, hO, hB⟩
   refine ⟨_, rfl, kz _ (uS f n 3 c) _ hO hB fun I => ?_⟩
   refine zb I 13 ((famB f) == 66) (false) (bFn (by rw [hF]; decide)) fun Al W I => zb I 18 ((famB f) == 67) (false) (bFn (by rw [hF]; decide)) fun Al W I => zqo I (fun Al W I => (HG W _ (I.box 0 223 _)).out) fun Al W p59 c59 I => zret I fun Al W I => ⟨p59, c59, rfl, I.fa.1.mono (by omega), I.bel, I.boxE 223 _⟩
 · rw [if_neg (by decide)]
   have HR := fun W u hU => hi0 (d0b f n 3 a 5 c u W hU hc)
   have HG := fun W u hU => hi0 (g0i f n 3 c true u W hU hd)
   generalize 2 ^ (wid f.g * f.g.digs.toNat) - 1 = m at *
   have I := Inv.startW w u 223 (uS f n 3 a) [] U True.intro True.intro
   refine a0g [.p 0 0, .v (.bool true)] I Tryz.func196 ?_
   refine zge I 0 223 (fun Al W I => (HR W _ (I.box 0 223 _)).out) fun Al V Iv _ _ kz => ?_
   rintro _ W ⟨rfl, hO, hB⟩
   refine ⟨_, rfl, kz _ (uS f n 3 c) _ hO hB fun I => ?_⟩
   refine zb I 13 ((famB f) == 66) (false) (bFn (by rw [hF]; decide)) fun Al W I => zb I 18 ((famB f) == 67) (false) (bFn (by rw [hF]; decide)) fun Al W I => zqo I (fun Al W I => (HG W _ (I.box 0 223 _)).out) fun Al W p59 c59 I => zret I fun Al W I => ⟨p59, c59, rfl, I.fa.1.mono (by omega), I.bel, I.boxE 223 _⟩
 · rw [if_pos (by decide)]
   have HR := fun W u hU => hi0 (d0b f n 4 a 5 c u W hU hc)
   have I := Inv.startW w u 223 (uS f n 4 a) [] U True.intro True.intro
   refine a0g [.p 0 0, .v (.bool false)] I Tryz.func196 ?_
   refine zge I 0 223 (fun Al W I => (HR W _ (I.box 0 223 _)).out) fun Al V Iv _ _ kz => ?_
   rintro _ W ⟨rfl, hO, hB⟩
   refine ⟨_, rfl, kz _ (uS f n 4 c) _ hO hB fun I => ?_⟩
   refine zb I 13 ((famB f) == 66) (false) (bFn (by rw [hF]; decide)) fun Al W I => zb I 18 ((famB f) == 67) (false) (bFn (by rw [hF]; decide)) fun Al W I => zq I (fun Al W I => l0j false W) fun Al W I => zret I fun Al W I => d0j (k := 3) rfl I.bel (I.boxE 223 _)
 · rw [if_neg (by decide)]
   have HR := fun W u hU => hi0 (d0b f n 4 a 5 c u W hU hc)
   have HG := fun W u hU => hi0 (g0i f n 4 c true u W hU hd)
   generalize 2 ^ (wid f.g * f.g.digs.toNat) - 1 = m at *
   have I := Inv.startW w u 223 (uS f n 4 a) [] U True.intro True.intro
   refine a0g [.p 0 0, .v (.bool true)] I Tryz.func196 ?_
   refine zge I 0 223 (fun Al W I => (HR W _ (I.box 0 223 _)).out) fun Al V Iv _ _ kz => ?_
   rintro _ W ⟨rfl, hO, hB⟩
   refine ⟨_, rfl, kz _ (uS f n 4 c) _ hO hB fun I => ?_⟩
   refine zb I 13 ((famB f) == 66) (false) (bFn (by rw [hF]; decide)) fun Al W I => zb I 18 ((famB f) == 67) (false) (bFn (by rw [hF]; decide)) fun Al W I => zqo I (fun Al W I => (HG W _ (I.box 0 223 _)).out) fun Al W p59 c59 I => zret I fun Al W I => ⟨p59, c59, rfl, I.fa.1.mono (by omega), I.bel, I.boxE 223 _⟩
 · rw [if_neg (by decide)]
   have HR := fun W u hU => hi0 (d0b f n 5 a 5 c u W hU hc)
   have HG := fun W u hU => hi0 (g0i f n 5 c false u W hU hd)
   generalize 2 ^ (wid f.g * f.g.digs.toNat) - 1 = m at *
   have I := Inv.startW w u 223 (uS f n 5 a) [] U True.intro True.intro
   refine a0g [.p 0 0, .v (.bool false)] I Tryz.func196 ?_
   refine zge I 0 223 (fun Al W I => (HR W _ (I.box 0 223 _)).out) fun Al V Iv _ _ kz => ?_
   rintro _ W ⟨rfl, hO, hB⟩
   refine ⟨_, rfl, kz _ (uS f n 5 c) _ hO hB fun I => ?_⟩
   refine zb I 13 ((famB f) == 66) (false) (bFn (by rw [hF]; decide)) fun Al W I => zb I 18 ((famB f) == 67) (false) (bFn (by rw [hF]; decide)) fun Al W I => zqo I (fun Al W I => (HG W _ (I.box 0 223 _)).out) fun Al W p59 c59 I => zret I fun Al W I => ⟨p59, c59, rfl, I.fa.1.mono (by omega), I.bel, I.boxE 223 _⟩
 · rw [if_pos (by decide)]
   have HR := fun W u hU => hi0 (d0b f n 5 a 5 c u W hU hc)
   have I := Inv.startW w u 223 (uS f n 5 a) [] U True.intro True.intro
   refine a0g [.p 0 0, .v (.bool true)] I Tryz.func196 ?_
   refine zge I 0 223 (fun Al W I => (HR W _ (I.box 0 223 _)).out) fun Al V Iv _ _ kz => ?_
   rintro _ W ⟨rfl, hO, hB⟩
   refine ⟨_, rfl, kz _ (uS f n 5 c) _ hO hB fun I => ?_⟩
   refine zb I 13 ((famB f) == 66) (false) (bFn (by rw [hF]; decide)) fun Al W I => zb I 18 ((famB f) == 67) (false) (bFn (by rw [hF]; decide)) fun Al W I => zq I (fun Al W I => l0j true W) fun Al W I => zret I fun Al W I => d0j (k := 3) rfl I.bel (I.boxE 223 _)
theorem m1e (f : Fm) (n way a c : Int) (p : Pl) (u : Nat) (w : World) (U : Bt w u 223 #[.int .i64 n, .int .i64 way, .int .i64 f.g.rad, .int .i64 f.g.digs, .int .i64 f.g.lo, .int .i64 f.g.hi, .bool f.g.grad, .int .u8 (famB f), .int .i64 a]) (G : c0n f) (hc : bits .or .i64 a 5 = c) (hw : 1 ≤ way ∧ way ≤ 5) (ho : p.over = true) :
 Calls Tryz.prog 196 #[.pointer (some ⟨u, 0, none⟩), .bool p.neg] w (l0t f n way c u w (f.placedV p way)) := by
 have GG := b0x G.g
 have h1 := GG.d1
 have h2 := GG.d2
 have hf := G.fam
 unfold Fm.placedV
 rw [if_pos ho]
 by_cases f2 : f.fam = 2
 · rw [if_pos f2]; exact j1r f n way a c p.neg u w U (by omega) hc f2
 · rw [if_neg f2]
   by_cases f3 : f.fam = 3
   · rw [if_pos f3]; exact j1s f n way a c p.neg u w U hc (by omega) f2
   · rw [if_neg f3]; exact k1m f n way a c p.neg u w U (by omega) hc (by omega) hw
def j0d (f : Fm) (n way c : Int) (u : Nat) (w : World) (base : Nat) (v : Vl) (en : Ending) (w' : World) : Prop :=
 ∃ p k, en = .returned (.agg #[.int .i64 (v.cls : Int), .bool v.neg, .slice p (dig B32 v.d).length k, .int .i64 v.pow]) ∧ Own w' base .u32 143 p k (dig B32 v.d) ∧ Kp [u] w w' ∧ Bt w' u 223 #[.int .i64 n, .int .i64 way, .int .i64 f.g.rad, .int .i64 f.g.digs, .int .i64 f.g.lo, .int .i64 f.g.hi, .bool f.g.grad, .int .u8 (famB f), .int .i64 c]
theorem l0t.ub {f : Fm} {n way c : Int} {u base : Nat} {w w' : World} {v : Vl} {en : Ending} (h : l0t f n way c u w v en w') (hb : base ≤ w.heap.size) : j0d f n way c u w base v en w' := by
 obtain ⟨p, k, h1, h2, h3, h4⟩ := h
 exact ⟨p, k, h1, h2.mono hb, h3, h4⟩
theorem h0v {f : Fm} {n way c : Int} {u k base : Nat} {g : Bool} {w w' : World} {en : Ending} (h : en = .returned (.agg #[.int .i64 (k : Int), .bool g, .slice none 0 0, .int .i64 0])) (hk : Kp [u] w w') (hb : Bt w' u 223 #[.int .i64 n, .int .i64 way, .int .i64 f.g.rad, .int .i64 f.g.digs, .int .i64 f.g.lo, .int .i64 f.g.hi, .bool f.g.grad, .int .u8 (famB f), .int .i64 c]) : j0d f n way c u w base ⟨k, g, 0, 0⟩ en w' := by
 refine ⟨none, 0, ?_, ?_, hk, hb⟩
 · rw [h, a0d]; rfl
 · show Own _ _ _ _ _ _ (dig B32 0); rw [a0d]; exact Own.nil _ _ _ _
theorem pl_n (f : Fm) (n way : Int) (ng : Bool) (d : Nat) (pw : Int) (pp : OA) (cc base u : Nat) (w : World) (U : Bt w u 223 #[.int .i64 n, .int .i64 way, .int .i64 f.g.rad, .int .i64 f.g.digs, .int .i64 f.g.lo, .int .i64 f.g.hi, .bool f.g.grad, .int .u8 (famB f), .int .i64 0]) (hp : Own w base .u32 143 pp cc (dig B32 d)) (ex un : Bool) :
 Calls Tryz.prog 176 #[.pointer (some ⟨u, 0, none⟩), .agg #[.bool ng, .slice pp (dig B32 d).length cc, .int .i64 pw, .bool ex, .bool false, .bool un]] w (j0d f n way (((f.placedM ⟨ng, d, pw, ex, false, un⟩ way).2 : Nat) : Int) u w base (f.placedV ⟨ng, d, pw, ex, false, un⟩ way)) := by
 have hV : f.placedV ⟨ng, d, pw, ex, false, un⟩ way = if un = true ∧ f.fam ≠ 1 ∧ pw < f.g.lo then ⟨1, false, 0, 0⟩ else if d = 0 then ⟨1, ng && decide (f.fam = 1), 0, 0⟩ else ⟨2, ng, d, pw⟩ := by unfold Fm.placedV; simp only [Bool.false_eq_true, if_false]
 have hM : (f.placedM ⟨ng, d, pw, ex, false, un⟩ way).2 = if un = true ∧ f.fam ≠ 1 ∧ pw < f.g.lo then 3 else f.flP ⟨ng, d, pw, ex, false, un⟩ := by
  unfold Fm.placedM; simp only [Bool.false_eq_true, if_false]
  split
  · rfl
  · split <;> rfl
 have hFL : f.flP ⟨ng, d, pw, ex, false, un⟩ = if un then (if f.fam = 1 then (if ex then 0 else 3) else 3) else if ex then 0 else 1 := rfl
 have hF1 : f.fam = 1 → (famB f != 65) = false := fun h => by unfold famB; rw [if_pos h]; rfl
 have hF2 : f.fam ≠ 1 → (famB f != 65) = true := fun h => by unfold famB; rw [if_neg h]; split <;> rfl
 have hB1 : (famB f != 65) = true → f.fam ≠ 1 := fun h k => by rw [hF1 k] at h; cases h
 have hB2 : (famB f != 65) = false → f.fam = 1 := fun h => Classical.byContradiction fun k => by rw [hF2 k] at h; cases h
 have hz := a0f a0a d
 have HR9 := fun W u hU => hi0 (d0b f n way 0 1 1 u W hU (by decide +kernel))
 have HR3 := fun k (hk : k = 0 ∨ k = 1) W u hU => hi0 (d0b f n way k 3 3 u W hU (by rcases hk with rfl | rfl <;> decide +kernel))
 have HR2 := fun k (hk : k = 1) W u hU => hi0 (d0b f n way k 2 3 u W hU (by subst hk; decide +kernel))
 have HZ := fun k W u hU => hi0 (f1l f n way k ng u W hU)
 rw [hFL] at hM
 generalize (f.placedM ⟨ng, d, pw, ex, false, un⟩ way).2 = FL at *
 generalize f.placedV ⟨ng, d, pw, ex, false, un⟩ way = v at *
 clear hFL
 generalize (ng && decide (f.fam = 1)) = q at *
 let aA : Box := ⟨116, [.v (.bool ng), .v (.slice pp (dig B32 d).length cc), .v (.int .i64 pw), .v (.bool ex), .v (.bool false), .v (.bool un)], false⟩
 let aB : Box := ⟨66, [.v (.int .i64 0), .v (.bool false), .v (.slice none 0 0), .v (.int .i64 0)], false⟩
 let aC : SV := .v (.agg #[.bool ng, .slice pp (dig B32 d).length cc, .int .i64 pw, .bool ex, .bool false, .bool un])
 have I := Inv.startW w u 223 (uS f n way 0) [ownF base .u32 143 pp cc (dig B32 d)] U ⟨hp, True.intro⟩ ⟨fun hf => hp.far U (by kernel_rfl) hf.1 hf.2, True.intro⟩
 refine a0g [.p 0 0, .v (.agg #[.bool ng, .slice pp (dig B32 d).length cc, .int .i64 pw, .bool ex, .bool false, .bool un])] I Tryz.func176 ?_
 obtain ⟨ne, hne⟩ : ∃ ne, (!ex) = ne := ⟨_, rfl⟩
 refine zb I 7 (!ex) (ne) (hne) fun Al W I => zcut I (some 2000007) (fun fr bx gs => ∃ (U1 : Nat → Value) (k1 : Int), fr = (.p 0 0 :: aC :: vu :: .p 1 0 :: .p 2 0 :: sw U1 5 2 (.v (.bool ne) :: sw U1 8 2 (vu :: sw U1 11 6 (vu :: sw U1 18 18 (vu :: .v (U1 37) :: vu :: sw U1 39 12 (vu :: sw U1 52 11 []))))) : List SV) ∧ bx = [⟨223, (uS f n way k1), false⟩, aA, aB] ∧ gs = [ownF base .u32 143 pp cc (dig B32 d)] ∧ (k1 = if ex then 0 else 1)) ?_ ?_
 · intro J hJ Al W I
   rcases bTF ne with rfl | rfl
   · refine zge I 0 223 (fun Al W I => (HR9 W _ (I.box 0 223 _)).out) fun Al V Iv _ _ kz => ?_
     rintro _ W ⟨rfl, hO, hB⟩
     refine ⟨_, rfl, kz _ (uS f n way 1) _ hO hB fun I => ?_⟩
     exact a0r I J fun Al W U I => hJ _ _ _ _ _ ⟨U, 1, rfl, rfl, rfl, (by revert hne; cases ex <;> simp)⟩ (I.pick [0])
   exact a0r I J fun Al W U I => hJ _ _ _ _ _ ⟨U, 0, rfl, rfl, rfl, (by revert hne; cases ex <;> simp)⟩ (I.pick [0])
 rintro _ _ _ ⟨U1, k1, rfl, rfl, rfl, hk1⟩ Al W I
 refine zcut I (some 1000000) (fun fr bx gs => ∃ (U2 : Nat → Value) (k2 : Int), fr = (.p 0 0 :: aC :: vu :: .p 1 0 :: .p 2 0 :: sw U2 5 2 (.v (.bool ne) :: sw U2 8 43 (vu :: sw U2 52 11 [])) : List SV) ∧ bx = [⟨223, (uS f n way k2), false⟩, aA, aB] ∧ gs = [ownF base .u32 143 pp cc (dig B32 d)] ∧ ((FL : Int) = k2) ∧ (¬ (un = true ∧ f.fam ≠ 1 ∧ pw < f.g.lo))) ?_ ?_
 · intro J hJ Al W I
   rcases bTF (un) with f19 | f19
   · refine zb I 19 (un) (true) (f19) fun Al W I => ?_
     rcases bTF ((famB f) != 65) with f25 | f25
     · refine zb I 25 ((famB f) != 65) (true) (f25) fun Al W I => zge I 0 223 (fun Al W I => (HR3 k1 (by rw [hk1]; split <;> simp) W _ (I.box 0 223 _)).out) fun Al V Iv _ _ kz => ?_
       rintro _ W ⟨rfl, hO, hB⟩
       refine ⟨_, rfl, kz _ (uS f n way 3) _ hO hB fun I => ?_⟩
       by_cases f36 : pw < f.g.lo
       · refine zd [] I fun Al W I => zk [0, 1, 2, 3, 4, 5, 6] I fun I => zkb 7 I (decide (pw < f.g.lo)) (true) (dTr f36) fun I => zret I (v := fun Al => .agg #[vI 1, .bool false, .slice none 0 0, vI 0]) fun Al W I => ?_
         (rw [hV, hM, if_pos ⟨f19, hB1 f25, f36⟩, if_pos ⟨f19, hB1 f25, f36⟩]; exact h0v (k := 1) rfl I.bel (I.boxE 223 _))
       refine zd [] I fun Al W I => zk [0, 1, 2, 3, 4, 5, 6] I fun I => zkb 7 I (decide (pw < f.g.lo)) (false) (dFa f36) fun I => a0r I J fun Al W U I => hJ _ _ _ _ _ ⟨U, 3, rfl, rfl, rfl, (by have h1 := hB1 f25; rw [hM, if_neg (fun h => f36 h.2.2), if_pos f19, if_neg h1]; rfl), (fun h => f36 h.2.2)⟩ (I.pick [0])
     refine zb I 25 ((famB f) != 65) (false) (f25) fun Al W I => zb I 40 (un) (true) (f19) fun Al W I => ?_
     rcases bTF (!ex) with f44 | f44
     · refine zb I 44 (!ex) (true) (f44) fun Al W I => zge I 0 223 (fun Al W I => (HR2 k1 (by rw [hk1]; revert f44; cases ex <;> simp) W _ (I.box 0 223 _)).out) fun Al V Iv _ _ kz => ?_
       rintro _ W ⟨rfl, hO, hB⟩
       refine ⟨_, rfl, kz _ (uS f n way 3) _ hO hB fun I => ?_⟩
       exact a0r I J fun Al W U I => hJ _ _ _ _ _ ⟨U, 3, rfl, rfl, rfl, (by have h1 := hB2 f25; rw [hM, if_neg (fun h => h.2.1 h1), if_pos f19, if_pos h1]; revert f44; cases ex <;> simp), (fun h => by have h1 := hB2 f25; exact h.2.1 h1)⟩ (I.pick [0])
     refine zb I 44 (!ex) (false) (f44) fun Al W I => a0r I J fun Al W U I => hJ _ _ _ _ _ ⟨U, k1, rfl, rfl, rfl, (by have h1 := hB2 f25; rw [hM, if_neg (fun h => h.2.1 h1), if_pos f19, if_pos h1, hk1]; revert f44; cases ex <;> simp), (fun h => by have h1 := hB2 f25; exact h.2.1 h1)⟩ (I.pick [0])
   refine zb I 19 (un) (false) (f19) fun Al W I => zb I 40 (un) (false) (f19) fun Al W I => a0r I J fun Al W U I => hJ _ _ _ _ _ ⟨U, k1, rfl, rfl, rfl, (by rw [hM, if_neg (fun h => by rw [f19] at h; cases h.1), if_neg (by rw [f19]; simp), hk1]; split <;> rfl), (fun h => by rw [f19] at h; cases h.1)⟩ (I.pick [0])
 rintro _ _ _ ⟨U2, k2, rfl, rfl, rfl, hk2, hlo⟩ Al W I
 rcases bTF ((((dig B32 d).length : Nat) : Int) == 0) with f51 | f51
 · refine zb I 51 ((((dig B32 d).length : Nat) : Int) == 0) (true) (f51) fun Al W I => zq I (fun Al W I => (HZ k2 W _ (I.box 0 223 _)).out) fun Al W I => ?_
   rw [hV, hk2, if_neg hlo, if_pos (hz.1 (by have := beq_iff_eq.1 f51; omega))]
   exact zret I fun Al W I => h0v (k := 1) rfl I.bel (I.boxE 223 _)
 refine zb I 51 ((((dig B32 d).length : Nat) : Int) == 0) (false) (f51) fun Al W I => zret I (v := fun Al => .agg #[vI 2, .bool ng, .slice pp (dig B32 d).length cc, vI pw]) fun Al W I => ?_
 (rw [hV, hk2, if_neg hlo, if_neg (fun h => by have := hz.2 h; have := bnF f51; omega)]; exact ⟨pp, cc, rfl, I.fa.1, I.bel, I.boxE 223 _⟩)
theorem s1q (f : Fm) (n way : Int) (p : Pl) (pp : OA) (cc base u : Nat) (w : World) (U : Bt w u 223 #[.int .i64 n, .int .i64 way, .int .i64 f.g.rad, .int .i64 f.g.digs, .int .i64 f.g.lo, .int .i64 f.g.hi, .bool f.g.grad, .int .u8 (famB f), .int .i64 0]) (hb : base ≤ w.heap.size) (G : c0n f) (hw : 1 ≤ way ∧ way ≤ 5) (ho : p.over = true) :
 Calls Tryz.prog 176 #[.pointer (some ⟨u, 0, none⟩), .agg #[.bool p.neg, .slice pp (dig B32 p.d).length cc, .int .i64 p.pow, .bool true, .bool true, .bool p.under]] w (j0d f n way 5 u w base (f.placedV p way)) := by
 have HO := fun W u hU => hi0 (m1e f n way 0 5 p u W hU G (by decide +kernel) hw ho)
 generalize f.placedV p way = v at *
 have I := Inv.startW w u 223 (uS f n way 0) [] U True.intro True.intro
 refine a0g [.p 0 0, .v (.agg #[.bool p.neg, .slice pp (dig B32 p.d).length cc, .int .i64 p.pow, .bool true, .bool true, .bool p.under])] I Tryz.func176 ?_
 refine zge I 0 223 (fun Al W I => (HO W _ (I.box 0 223 _)).out) fun Al V Iv _ _ kz => ?_
 rintro _ W ⟨p16, c16, rfl, o16, hO, hB⟩
 refine ⟨_, rfl, kz _ (uS f n way 5) _ hO hB fun I => ?_⟩
 have I := I.ownB base o16
 exact zret I fun Al W I => ⟨p16, c16, rfl, I.fa.1, I.bel, I.boxE 223 _⟩
theorem s1r (f : Fm) (n way : Int) (p : Pl) (pp : OA) (cc base u : Nat) (w : World) (U : Bt w u 223 #[.int .i64 n, .int .i64 way, .int .i64 f.g.rad, .int .i64 f.g.digs, .int .i64 f.g.lo, .int .i64 f.g.hi, .bool f.g.grad, .int .u8 (famB f), .int .i64 0]) (hb : base ≤ w.heap.size) (G : c0n f) (hw : 1 ≤ way ∧ way ≤ 5) (ho : p.over = true) :
 Calls Tryz.prog 176 #[.pointer (some ⟨u, 0, none⟩), .agg #[.bool p.neg, .slice pp (dig B32 p.d).length cc, .int .i64 p.pow, .bool false, .bool true, .bool p.under]] w (j0d f n way 5 u w base (f.placedV p way)) := by
 have HO := fun W u hU => hi0 (m1e f n way 1 5 p u W hU G (by decide +kernel) hw ho)
 have HR := fun W u hU => hi0 (d0b f n way 0 1 1 u W hU (by decide +kernel))
 generalize f.placedV p way = v at *
 have I := Inv.startW w u 223 (uS f n way 0) [] U True.intro True.intro
 refine a0g [.p 0 0, .v (.agg #[.bool p.neg, .slice pp (dig B32 p.d).length cc, .int .i64 p.pow, .bool false, .bool true, .bool p.under])] I Tryz.func176 ?_
 refine zge I 0 223 (fun Al W I => (HR W _ (I.box 0 223 _)).out) fun Al V Iv _ _ kz => ?_
 rintro _ W ⟨rfl, hO, hB⟩
 refine ⟨_, rfl, kz _ (uS f n way 1) _ hO hB fun I => ?_⟩
 refine zge I 0 223 (fun Al W I => (HO W _ (I.box 0 223 _)).out) fun Al V Iv _ _ kz => ?_
 rintro _ W ⟨p16, c16, rfl, o16, hO, hB⟩
 refine ⟨_, rfl, kz _ (uS f n way 5) _ hO hB fun I => ?_⟩
 have I := I.ownB base o16
 exact zret I fun Al W I => ⟨p16, c16, rfl, I.fa.1, I.bel, I.boxE 223 _⟩
theorem o1x (f : Fm) (n way : Int) (p : Pl) (pp : OA) (cc base u : Nat) (w : World) (U : Bt w u 223 #[.int .i64 n, .int .i64 way, .int .i64 f.g.rad, .int .i64 f.g.digs, .int .i64 f.g.lo, .int .i64 f.g.hi, .bool f.g.grad, .int .u8 (famB f), .int .i64 0]) (hp : Own w base .u32 143 pp cc (dig B32 p.d)) (hb : base ≤ w.heap.size) (G : c0n f) (hw : 1 ≤ way ∧ way ≤ 5) :
 Calls Tryz.prog 176 #[.pointer (some ⟨u, 0, none⟩), .agg #[.bool p.neg, .slice pp (dig B32 p.d).length cc, .int .i64 p.pow, .bool p.exact, .bool p.over, .bool p.under]] w (j0d f n way (((f.placedM p way).2 : Nat) : Int) u w base (f.placedV p way)) := by
 obtain ⟨ng, d, pw, ex, ov, un⟩ := p
 cases ov with
 | true =>
  have e : (f.placedM ⟨ng, d, pw, ex, true, un⟩ way).2 = 5 := by unfold Fm.placedM; rw [if_pos rfl]
  rw [e]
  cases ex
  · exact s1r f n way ⟨ng, d, pw, false, true, un⟩ pp cc base u w U hb G hw rfl
  · exact s1q f n way ⟨ng, d, pw, true, true, un⟩ pp cc base u w U hb G hw rfl
 | false =>
  exact pl_n f n way ng d pw pp cc base u w U hp ex un
theorem n0y (ng : Bool) (p q : OA) (c d : Nat) (num den : Nat) (e : Int) (g : Gd) (way : Int) (w : World) (hp : Rd w .u32 p (dig B32 num)) (hq : Rd w .u32 q (dig B32 den))
 (hl : (dig B32 num).length ≤ 100000) (hl2 : (dig B32 den).length ≤ 100000) (hn : 0 < num) (hd : 0 < den) (he : -1000000 ≤ e ∧ e ≤ 1000000) (G : d0r g) (hw1 : 1 ≤ way) (hw2 : way ≤ 5) :
 Calls Tryz.prog 66 #[.agg #[.bool ng, .slice p (dig B32 num).length c, .slice q (dig B32 den).length d, .int .i64 e], .agg #[.int .i64 g.rad, .int .i64 g.digs, .int .i64 g.lo, .int .i64 g.hi, .bool g.grad], .int .i64 way] w (y0w w (a0h ng num den e g way)) := by
 have h := r0v ng p q c d num den e g way (theK num den e (wid g) g.digs.toNat) w hp hq hl hl2 hn hd he G hw1 hw2 (h0o hn hd e (b0f g).1 (by have := G.d1; omega))
 unfold a0h
 rw [if_neg (by omega)]
 exact h
theorem r1t (f : Fm) (n way : Int) (ng : Bool) (p q : OA) (c d : Nat) (num den : Nat) (e : Int) (u : Nat) (w : World) (U : Bt w u 223 #[.int .i64 n, .int .i64 way, .int .i64 f.g.rad, .int .i64 f.g.digs, .int .i64 f.g.lo, .int .i64 f.g.hi, .bool f.g.grad, .int .u8 (famB f), .int .i64 0]) (hp : Rd w .u32 p (dig B32 num)) (hq : Rd w .u32 q (dig B32 den))
 (hl : (dig B32 num).length ≤ 100000) (hl2 : (dig B32 den).length ≤ 100000) (hn : 0 < num) (hd : 0 < den) (he : -1000000 ≤ e ∧ e ≤ 1000000) (G : c0n f) (hw : 1 ≤ way ∧ way ≤ 5) :
 Calls Tryz.prog 127 #[.pointer (some ⟨u, 0, none⟩), .agg #[.bool ng, .slice p (dig B32 num).length c, .slice q (dig B32 den).length d, .int .i64 e]] w
  (l0t f n way (((f.placedM (a0h ng num den e f.g way) way).2 : Nat) : Int) u w (f.placedV (a0h ng num den e f.g way) way)) := by
 have GG := b0x G.g
 have HF := fun W h1 h2 => hi0 (n0y ng p q c d num den e f.g way W h1 h2 hl hl2 hn hd he GG hw.1 hw.2)
 have HP := fun pp cc base u W U h1 h2 => hi0 (o1x f n way (a0h ng num den e f.g way) pp cc base u W U h1 h2 G hw)
 have hR := f1k (neg := ng) (num := num) (e := e) (way := way) hd GG
 generalize (f.placedM (a0h ng num den e f.g way) way).2 = fl at *
 generalize f.placedV (a0h ng num den e f.g way) way = v at *
 generalize a0h ng num den e f.g way = P at *
 have I := Inv.startW w u 223 (uS f n way 0) [rdF .u32 p (dig B32 num), rdF .u32 q (dig B32 den)] U ⟨hp, hq, True.intro⟩ ⟨fun hf => hp.far U (by kernel_rfl) hf.1 hf.2, fun hf => hq.far U (by kernel_rfl) hf.1 hf.2, True.intro⟩
 refine a0g [.p 0 0, .v (.agg #[.bool ng, .slice p (dig B32 num).length c, .slice q (dig B32 den).length d, .int .i64 e])] I Tryz.func127 ?_
 refine zcut I none (fun fr bx gs => ∃ (U1 : Nat → Value) (p16 : OA) (c16 : Nat), fr = (.p 0 0 :: .v (.agg #[.bool ng, vS (dig B32 num) p c, vS (dig B32 den) q d, vI e]) :: vu :: .p 1 0 :: .p 2 0 :: sw U1 5 12 [] : List SV) ∧ bx = [⟨223, (uS f n way (fl : Int)), false⟩, ⟨25, [.v (.bool ng), .v (vS (dig B32 num) p c), .v (vS (dig B32 den) q d), .v (vI e)], false⟩, ⟨66, [.v (vI (v.cls : Int)), .v (.bool v.neg), .v (vS (dig B32 v.d) p16 c16), .v (vI v.pow)], false⟩] ∧ gs = [ownF w.heap.size .u32 143 p16 c16 (dig B32 v.d), rdF .u32 p (dig B32 num), rdF .u32 q (dig B32 den)]) ?_ ?_
 · intro J hJ Al W I
   refine zd [0, 2] I fun Al W I => zk [0, 1, 2, 3, 4, 6, 7, 8] I fun I => zo2 5 9 I (fun I => ?_) (fun I => ?_)
   · refine zn I fun Al W I => zo 9 I fun I => zn I fun Al W I => zo 10 I fun I => zqo I (fun Al W I => (HF W I.fa.1 I.fa.2.1).out) fun Al W p15 c15 I => zo 11 I fun I => zge I 0 223 (fun Al W I => have hzW := I.bel.size; (HP p15 c15 _ _ W (I.box 0 223 _) I.fa.1 (by omega)).out) fun Al V Iv _ _ kz => ?_
     rintro _ W ⟨p16, c16, rfl, o16, hO, hB⟩
     refine ⟨_, rfl, kz _ (uS f n way (fl : Int)) _ hO hB fun I => ?_⟩
     have I := I.own o16
     refine zo 12 I fun I => zn I fun Al W I => a0r I J fun Al W U I => hJ _ _ _ _ _ ⟨U, p16, c16, rfl, rfl, rfl⟩ (I.pick [0, 2, 3])
   refine zn I fun Al W I => zo 5 I fun I => zn I fun Al W I => zo 10 I fun I => zqo I (fun Al W I => (HF W I.fa.1 I.fa.2.1).out) fun Al W p15 c15 I => zo 11 I fun I => zge I 0 223 (fun Al W I => have hzW := I.bel.size; (HP p15 c15 _ _ W (I.box 0 223 _) I.fa.1 (by omega)).out) fun Al V Iv _ _ kz => ?_
   rintro _ W ⟨p16, c16, rfl, o16, hO, hB⟩
   refine ⟨_, rfl, kz _ (uS f n way (fl : Int)) _ hO hB fun I => ?_⟩
   have I := I.own o16
   refine zo 12 I fun I => zn I fun Al W I => a0r I J fun Al W U I => hJ _ _ _ _ _ ⟨U, p16, c16, rfl, rfl, rfl⟩ (I.pick [0, 2, 3])
 rintro _ _ _ ⟨U1, p16, c16, rfl, rfl, rfl⟩ Al W I
 exact zret I fun Al W I => ⟨p16, c16, rfl, I.fa.1, I.bel, I.boxE 223 _⟩
structure VrOk (r : Vr) : Prop where
 c : 1 ≤ r.cls ∧ r.cls ≤ 5
 x0 : r.cls ≠ 2 → r.x = vz
 x2 : r.cls = 2 → r.x.m ≠ 0 ∧ r.x.neg = r.neg
 bare : Bare r.x
 len : (dig B32 r.x.m).length ≤ 20
 lo : -18000 ≤ r.x.e
 hi : r.x.e ≤ 18000
def l0l (f : Fm) (n way : Int) (u : Nat) (w : World) (base : Nat) (r : Vr × Nat) (en : Ending) (w' : World) : Prop :=
 ∃ v, VRep f v r.1 ∧ j0d f n way ((r.2 : Nat) : Int) u w base v en w'
theorem v0e {f : Fm} {n way : Int} {u k fl base : Nat} {g : Bool} {x : Dv} {w w' : World} {en : Ending} (hk2 : k ≠ 2) (h : en = .returned (.agg #[.int .i64 (k : Int), .bool g, .slice none 0 0, .int .i64 0])) (hk : Kp [u] w w') (hb : Bt w' u 223 #[.int .i64 n, .int .i64 way, .int .i64 f.g.rad, .int .i64 f.g.digs, .int .i64 f.g.lo, .int .i64 f.g.hi, .bool f.g.grad, .int .u8 (famB f), .int .i64 (fl : Int)]) : l0l f n way u w base (⟨k, g, x⟩, fl) en w' :=
 ⟨⟨k, g, 0, 0⟩, e0x hk2, h0v h hk hb⟩
theorem l0l.mono {f : Fm} {n way : Int} {u base b' : Nat} {w w' : World} {r : Vr × Nat} {en : Ending} (h : l0l f n way u w base r en w') (hb : b' ≤ base) : l0l f n way u w b' r en w' := by
 obtain ⟨v, h1, p, k, h2, h3, h4, h5⟩ := h
 exact ⟨v, h1, p, k, h2, h3.mono hb, h4, h5⟩
theorem k1n (f : Fm) (n way : Int) (x : Dv) (p : OA) (c u : Nat) (w : World) (U : Bt w u 223 #[.int .i64 n, .int .i64 way, .int .i64 f.g.rad, .int .i64 f.g.digs, .int .i64 f.g.lo, .int .i64 f.g.hi, .bool f.g.grad, .int .u8 (famB f), .int .i64 0]) (hp : Rd w .u32 p (dig B32 x.m))
 (hl : (dig B32 x.m).length ≤ 100000) (he : -1000000 ≤ x.e ∧ x.e ≤ 1000000) (G : c0n f) (hw : 1 ≤ way ∧ way ≤ 5) :
 Calls Tryz.prog 92 #[.pointer (some ⟨u, 0, none⟩), .agg #[.bool x.neg, .slice p (dig B32 x.m).length c, .int .i64 x.e]] w (l0l f n way u w w.heap.size (f.numM x way)) := by
 have hs : f0f ⟨x.neg, x.m, x.e⟩ = f0f x := rfl
 have HS := fun W => hi0 (e0i x.neg p _ c x.e x.m W rfl)
 rw [hs] at HS
 have h0 := e1b x
 by_cases hx : x.m = 0
 · have hn : f.numM x way = (⟨1, false, vz⟩, 0) := by unfold Fm.numM Fm.zeroM; rw [if_pos hx]; simp
   rw [hn]
   have HZ := fun W u hU => hi0 (f1l f n way 0 false u W hU)
   rw [Bool.false_and] at HZ
   have hd := h0.2 hx
   generalize f0f x = sx at *
   have I := Inv.startW w u 223 (uS f n way 0) [rdF .u32 p (dig B32 x.m)] U ⟨hp, True.intro⟩ ⟨fun hf => hp.far U (by kernel_rfl) hf.1 hf.2, True.intro⟩
   refine a0g [.p 0 0, .v (.agg #[.bool x.neg, .slice p (dig B32 x.m).length c, .int .i64 x.e])] I Tryz.func92 ?_
   refine zq I (fun Al W I => (HS W).out) fun Al W I => zb I 7 (sx == 0) (true) (beq_iff_eq.2 hd) fun Al W I => zq I (fun Al W I => (HZ W _ (I.box 0 223 _)).out) fun Al W I => zret I fun Al W I => v0e (k := 1) (by decide) rfl I.bel (I.boxE 223 _)
 · have hn : f.numM x way = f.placedM (a0h x.neg x.m 1 x.e f.g way) way := by unfold Fm.numM; rw [if_neg hx]
   rw [hn]
   have hd : f0f x ≠ 0 := fun h => hx (h0.1 h)
   have l1 : (dig B32 1).length ≤ 1 := by rw [a0e a0a]; unfold B32; omega
   have HF := fun p q c d u W U h1 h2 => hi0 (r1t f n way x.neg p q c d x.m 1 x.e u W U h1 h2 hl (by omega) (by omega) (by omega) he G hw)
   have HV := (g0l G (neg := x.neg) (num := x.m) (den := 1) (e := x.e) (way := way) (by omega)).2
   have hm : f.placedM (a0h x.neg x.m 1 x.e f.g way) way = ((f.placedM (a0h x.neg x.m 1 x.e f.g way) way).1, (f.placedM (a0h x.neg x.m 1 x.e f.g way) way).2) := rfl
   rw [hm]
   generalize (f.placedM (a0h x.neg x.m 1 x.e f.g way) way).1 = r at *
   generalize (f.placedM (a0h x.neg x.m 1 x.e f.g way) way).2 = fl at *
   generalize f.placedV (a0h x.neg x.m 1 x.e f.g way) way = v at *
   generalize f0f x = sx at *
   have I := Inv.startW w u 223 (uS f n way 0) [rdF .u32 p (dig B32 x.m)] U ⟨hp, True.intro⟩ ⟨fun hf => hp.far U (by kernel_rfl) hf.1 hf.2, True.intro⟩
   refine a0g [.p 0 0, .v (.agg #[.bool x.neg, .slice p (dig B32 x.m).length c, .int .i64 x.e])] I Tryz.func92 ?_
   refine zq I (fun Al W I => (HS W).out) fun Al W I => zb I 7 (sx == 0) (false) (bFn hd) fun Al W I => zd [0, 2] I fun Al W I => zk [0, 1, 2, 3, 4, 5, 6, 8, 9, 10] I fun I => zo 7 I fun I => zqo I (fun Al W I => have hzW := I.bel.size; sof 1 1 rfl (by omega) W) fun Al W p17 c17 I => zk [11] I fun I => zo 12 I fun I => zge I 0 223 (fun Al W I => (HF p p17 c c17 _ W (I.box 0 223 _) I.fa.2.1 I.fa.1.rd).out) fun Al V Iv _ _ kz => ?_
   rintro _ W ⟨p22, c22, rfl, o22, hO, hB⟩
   refine ⟨_, rfl, kz _ (uS f n way (fl : Int)) _ hO hB fun I => ?_⟩
   have I := I.own o22
   refine zo 13 I fun I => zn I fun Al W I => zret I fun Al W I => ⟨v, HV, p22, c22, rfl, I.fa.1.mono (by omega), I.bel, I.boxE 223 _⟩
structure Vp where
 v : Vl
 p : OA
 c : Nat
def Vp.cells (x : Vp) : List Value := [.int .i64 (x.v.cls : Int), .bool x.v.neg, .slice x.p (dig B32 x.v.d).length x.c, .int .i64 x.v.pow]
theorem Vp.len (x : Vp) : x.cells.length = 4 := rfl
theorem v0f (x y : Dv) (p q : OA) (c d base : Nat) (w : World) (hx : Bare x) (hy : Bare y) (sx : SmD x) (sy : SmD y) (hp : Own w base .u32 143 p c (dig B32 x.m)) (hq : Own w base .u32 143 q d (dig B32 y.m)) (hT : TabW w) (hb : base ≤ w.heap.size) :
 Calls Tryz.prog 89 #[.agg #[.bool x.neg, .slice p (dig B32 x.m).length c, .int .i64 x.e], .agg #[.bool y.neg, .slice q (dig B32 y.m).length d, .int .i64 y.e]] w (g0g w base (e0r x y)) := by
 have h1 := sx.len
 have h2 := sy.len
 have h3 := sx.lo
 have h4 := sx.hi
 have h5 := sy.lo
 have h6 := sy.hi
 have := e1m x.neg y.neg p q _ c _ d base x.e y.e x.m y.m w hp hq rfl rfl (by omega) (by omega) (by omega) (by omega) hT hb
 rw [show (⟨x.neg, x.m, x.e⟩ : Dv) = x from rfl, show (⟨y.neg, y.m, y.e⟩ : Dv) = y from rfl, h1f hx hy] at this
 exact this
theorem VrOk.sm {r : Vr} (R : VrOk r) : SmD r.x := ⟨by have := R.len; omega, by have := R.lo; omega, by have := R.hi; omega⟩
def two (a b : Vp) : List Vp := [a, b]
theorem k0l (n : Int) (w : World) : Calls Tryz.prog 64 #[.int .i64 n] w fun en w' => en = .returned (.tuple #[.agg #[.int .i64 (fmt n).g.rad, .int .i64 (fmt n).g.digs, .int .i64 (fmt n).g.lo, .int .i64 (fmt n).g.hi, .bool (fmt n).g.grad], .int .i64 (c0h n)]) ∧ Below w.heap.size w w' := by
 by_cases hn : IsFm n
 · have h0 : c0h n = 0 := by unfold c0h; rw [if_pos hn]
   rw [h0]
   have HF := fun W => hi0 (g0f n hn W)
   generalize fmt n = f at *
   have I := Inv.start w [] True.intro
   refine a0g [.v (.int .i64 n)] I Tryz.func64 ?_
   refine zq I (fun Al W I => (HF W).out) fun Al W I => zrb I
 · have h0 : c0h n = 6 := by unfold c0h; rw [if_neg hn]
   rw [h0, x0b hn]
   have HF := fun W => hi0 (h0r n hn W)
   have I := Inv.start w [] True.intro
   refine a0g [.v (.int .i64 n)] I Tryz.func64 ?_
   refine zq I (fun Al W I => (HF W).out) fun Al W I => zrb I
theorem z0e (n way : Int) (w : World) (h : ¬ (IsFm n ∧ 1 ≤ way ∧ way ≤ 5)) : Calls Tryz.prog 87 #[.int .i64 n, .int .i64 way] w fun en w' => en = .returned (.tuple #[.pointer none, .int .i64 6]) ∧ Below w.heap.size w w' := by
 have HG := fun W => hi0 (k0l n W)
 by_cases hn : IsFm n
 · have he : c0h n = 0 := by unfold c0h; rw [if_pos hn]
   have h' : way < 1 ∨ 5 < way := by by_cases k : 1 ≤ way ∧ way ≤ 5; exact absurd ⟨hn, k⟩ h; omega
   rw [he] at HG
   generalize fmt n = f at *
   have I := Inv.start w [] True.intro
   refine a0g [.v (.int .i64 n), .v (.int .i64 way)] I Tryz.func87 ?_
   refine zq I (fun Al W I => (HG W).out) fun Al W I => ?_
   by_cases h1 : way < 1
   · refine zb I 18 (decide (way < 1)) (true) (dTr h1) fun Al W I => zrb I
   refine zb I 18 (decide (way < 1)) (false) (dFa h1) fun Al W I => zb I 21 (decide (way > 5)) (true) (dTr (by omega)) fun Al W I => zrb I
 · have he : c0h n = 6 := by unfold c0h; rw [if_neg hn]
   rw [he] at HG
   generalize fmt n = f at *
   have I := Inv.start w [] True.intro
   refine a0g [.v (.int .i64 n), .v (.int .i64 way)] I Tryz.func87 ?_
   refine zq I (fun Al W I => (HG W).out) fun Al W I => zrb I
def n0z (f : Fm) (n way : Int) (w : World) (en : Ending) (w' : World) : Prop :=
 ∃ u, en = .returned (.tuple #[.pointer (some ⟨u, 0, none⟩), .int .i64 0]) ∧ w.heap.size ≤ u ∧ Bt w' u 223 #[.int .i64 n, .int .i64 way, .int .i64 f.g.rad, .int .i64 f.g.digs, .int .i64 f.g.lo, .int .i64 f.g.hi, .bool f.g.grad, .int .u8 (famB f), .int .i64 0] ∧ Below w.heap.size w w'
theorem x0q (n way : Int) (w : World) (hn : IsFm n) (hw : 1 ≤ way ∧ way ≤ 5) : Calls Tryz.prog 87 #[.int .i64 n, .int .i64 way] w (n0z (fmt n) n way w) := by
 have HG := fun W => hi0 (k0l n W)
 have he : c0h n = 0 := by unfold c0h; rw [if_pos hn]
 rw [he] at HG
 have G := b0w hn
 generalize fmt n = f at *
 have hrad := G.rad
 have hgr := G.grad
 by_cases f2 : f.fam = 2
 · have hBf : famB f = 66 := by unfold famB; rw [if_neg (by omega), if_pos f2]
   rw [if_pos f2] at hrad
   have I := Inv.start w [] True.intro
   refine a0g [.v (.int .i64 n), .v (.int .i64 way)] I Tryz.func87 ?_
   refine zq I (fun Al W I => (HG W).out) fun Al W I => zb I 18 (decide (way < 1)) (false) (dFa (by omega)) fun Al W I => zb I 21 (decide (way > 5)) (false) (dFa (by omega)) fun Al W I => zb I 31 (f.g.rad == 16) (true) (beq_iff_eq.2 hrad) fun Al W I => zret I (v := fun Al => .tuple #[.pointer (some ⟨(lk 0 Al 1), 0, none⟩), vI 0]) fun Al W I => ⟨_, rfl, (I.geB 1), by rw [hBf]; exact (I.box 1 223 _), I.below⟩
 · rw [if_neg f2] at hrad
   by_cases f1 : f.fam = 1
   · have hBf : famB f = 65 := by unfold famB; rw [if_pos f1]
     rw [decide_eq_true f1] at hgr
     unfold n0z
     rw [hBf, hgr]
     simp only [hgr] at HG
     have I := Inv.start w [] True.intro
     refine a0g [.v (.int .i64 n), .v (.int .i64 way)] I Tryz.func87 ?_
     refine zq I (fun Al W I => (HG W).out) fun Al W I => zb I 18 (decide (way < 1)) (false) (dFa (by omega)) fun Al W I => zb I 21 (decide (way > 5)) (false) (dFa (by omega)) fun Al W I => zb I 31 (f.g.rad == 16) (false) (bFn (by omega)) fun Al W I => zret I fun Al W I => ⟨_, rfl, (I.geB 1), (I.box 1 223 _), I.below⟩
   · have hBf : famB f = 67 := by unfold famB; rw [if_neg f1, if_neg f2]
     rw [decide_eq_false f1] at hgr
     unfold n0z
     rw [hBf, hgr]
     simp only [hgr] at HG
     have I := Inv.start w [] True.intro
     refine a0g [.v (.int .i64 n), .v (.int .i64 way)] I Tryz.func87 ?_
     refine zq I (fun Al W I => (HG W).out) fun Al W I => zb I 18 (decide (way < 1)) (false) (dFa (by omega)) fun Al W I => zb I 21 (decide (way > 5)) (false) (dFa (by omega)) fun Al W I => zb I 31 (f.g.rad == 16) (false) (bFn (by omega)) fun Al W I => zret I fun Al W I => ⟨_, rfl, (I.geB 1), (I.box 1 223 _), I.below⟩
theorem g1g (n way fl : Int) (a : Vp) (r : Vr) (base u : Nat) (w : World) (U : Bt w u 223 #[.int .i64 n, .int .i64 way, .int .i64 (fmt n).g.rad, .int .i64 (fmt n).g.digs, .int .i64 (fmt n).g.lo, .int .i64 (fmt n).g.hi, .bool (fmt n).g.grad, .int .u8 (famB (fmt n)), .int .i64 fl]) (oa : Own w base .u32 143 a.p a.c (dig B32 a.v.d)) (hn : IsFm n) (V : VRep (fmt n) a.v r) (R : ResF (fmt n) r) (hT : TabW w) :
 Calls Tryz.prog 91 #[.pointer (some ⟨u, 0, none⟩), .agg #[.int .i64 (a.v.cls : Int), .bool a.v.neg, .slice a.p (dig B32 a.v.d).length a.c, .int .i64 a.v.pow]] w fun en w' => en = .returned (.tuple #[.string (a0c ((fmt n).strP ((fmt n).encP r.cls r.neg r.x))), .int .i64 fl, .int .i64 0]) ∧ Below w.heap.size w w' := by
 have HE := fun W (h1 : Own W base .u32 143 a.p a.c (dig B32 a.v.d)) h2 => hi0 (b1h n (a.v.cls : Int) (dinV a.v a.p a.c) W (o1w h1 V.len) h2)
 obtain ⟨e1, e2⟩ := r1q R V a.p a.c
 unfold x0o u0k at HE
 rw [if_pos hn, e1, e2] at HE
 simp only [if_true] at HE
 have HE2 : ∀ W, Own W base .u32 143 a.p a.c (dig B32 a.v.d) → TabW W → Hid (Calls Tryz.prog 154 #[.int .i64 n, .agg #[.int .i64 (a.v.cls : Int), .bool a.v.neg, .slice a.p (dig B32 a.v.d).length a.c, .int .i64 a.v.pow]] W fun en w' => en = .returned (.tuple #[.string (a0c ((fmt n).strP ((fmt n).encP r.cls r.neg r.x))), .int .i64 0]) ∧ Below W.heap.size W w') := HE
 clear HE e1 e2 V R
 generalize a0c ((fmt n).strP ((fmt n).encP r.cls r.neg r.x)) = s at *
 generalize fmt n = f at *
 have I := Inv.startR w [u] [⟨223, (uS f n way fl), true⟩] [ownF base .u32 143 a.p a.c (dig B32 a.v.d), tabF] ⟨U, True.intro⟩ ⟨oa, hT, True.intro⟩
 refine a0g [.p 0 0, .v (.agg #[.int .i64 (a.v.cls : Int), .bool a.v.neg, .slice a.p (dig B32 a.v.d).length a.c, .int .i64 a.v.pow])] I Tryz.func91 ?_
 refine zd [] I fun Al W I => zk [0, 1, 2, 3, 4] I fun I => zo 5 I fun I => zq I (fun Al W I => (HE2 W I.fa.1 I.fa.2.1).out) fun Al W I => zk [6, 7, 8, 9, 10] I fun I => zd [] I fun Al W I => zk [0, 1, 2, 3, 4, 5, 6, 7] I fun I => zrb I
end Go.Proofs.YtbamiajjampgnaaGreatDoor
namespace Go.Slip
open Go.RowKit
end Go.Slip
namespace Go.Proofs.YtbamiajjampgnaaGreatDoor
open Go.RowKit Go.Slip
def errL (n : Int) : List ByteArray → Int
 | [] => 0
 | s :: r => if b0m n s = 0 then errL n r else b0m n s
def errR (n way : Int) (L : List ByteArray) : Int := if IsFm n then (if errL n L = 0 then (if 1 ≤ way ∧ way ≤ 5 then 0 else 6) else errL n L) else 6
def strR (n : Int) (r : Vr) : ByteArray := a0c ((fmt n).strP ((fmt n).encP r.cls r.neg r.x))
structure VrF (f : Fm) (r : Vr) : Prop where
 ok : VrOk r
 inf : r.cls = 3 → f.fam = 1
def refD (n : Int) (s : ByteArray) : Vr := (fmt n).refN (a0y (fmt n) s)
theorem r1u {f : Fm} (G : c0n f) (neg : Bool) {e frac : Nat} (h : e < 2 ^ f.E) : (f.dec neg e frac).p = 0 ∨ (f.g.lo ≤ (f.dec neg e frac).p ∧ (f.dec neg e frac).p ≤ f.g.hi + 1) := by
 have h3 := G.hi1
 have h4 := G.hi2
 have h5 := G.hi3
 have h6 := G.fam
 have gg := (b0x G.g).le
 have e1 := G.e1
 have hE1 : (2 : Nat) ^ 7 ≤ 2 ^ f.E := Nat.pow_le_pow_right (by omega) e1
 unfold Fm.dec
 generalize 2 ^ f.E = T at *
 repeat' split
 all_goals first | exact .inl rfl | (right; simp only; omega)
theorem o1y {f : Fm} (neg : Bool) {e frac : Nat} (h : (f.dec neg e frac).c = 3) : f.fam = 1 := by
 have h : (f.dec neg e frac).cls = 3 := by
  unfold Dc.c at h
  split at h <;> omega
 unfold Fm.dec at h
 split at h
 · simp at h
 · split at h
   · rename_i k
     exact k.1
   · split at h
     · split at h <;> simp at h
     · split at h
       · simp at h
       · split at h
         · simp at h
         · split at h <;> simp at h
theorem o0a {n : Int} {s : ByteArray} (hn : IsFm n) : VrF (fmt n) (refD n s) := by
 have G := b0w hn
 have GG := b0x G.g
 obtain ⟨w1, w2, w3⟩ := l0f G.g
 have he : (fmt n).exp (a0y (fmt n) s) < 2 ^ (fmt n).E := Nat.mod_lt _ (Nat.pow_pos (by omega))
 have hx : (fmt n).frac (a0y (fmt n) s) < 2 ^ (fmt n).F := Nat.mod_lt _ (Nat.pow_pos (by omega))
 have hm := i1d (f := fmt n) ((fmt n).neg (a0y (fmt n) s)) (e := (fmt n).exp (a0y (fmt n) s)) hx
 have hp := r1u G ((fmt n).neg (a0y (fmt n) s)) (frac := (fmt n).frac (a0y (fmt n) s)) he
 have hi := fun h => o1y (f := fmt n) ((fmt n).neg (a0y (fmt n) s)) (e := (fmt n).exp (a0y (fmt n) s)) (frac := (fmt n).frac (a0y (fmt n) s)) h
 have hcls := d1w (fmt n) ((fmt n).neg (a0y (fmt n) s)) ((fmt n).exp (a0y (fmt n) s)) ((fmt n).frac (a0y (fmt n) s))
 have z2 := G.f2
 unfold refD Fm.refN Fm.decN
 generalize (fmt n).dec ((fmt n).neg (a0y (fmt n) s)) ((fmt n).exp (a0y (fmt n) s)) ((fmt n).frac (a0y (fmt n) s)) = D at *
 generalize (fmt n).neg (a0y (fmt n) s) = g at *
 generalize fmt n = f at *
 have hc : 1 ≤ D.c ∧ D.c ≤ 5 := by unfold Dc.c; split <;> omega
 have hml : (dig B32 D.m).length ≤ 3 := b0c hm (by omega)
 have wp := b0f f.g
 have hwp : -17010 ≤ (wid f.g : Int) * D.p ∧ (wid f.g : Int) * D.p ≤ 17010 := by
  rcases hp with h | ⟨h1, h2⟩
  · rw [h, Int.mul_zero]; omega
  · have a1 : (wid f.g : Int) * f.g.lo ≤ wid f.g * D.p := Int.mul_le_mul_of_nonneg_left h1 (by omega)
    have a2 : (wid f.g : Int) * D.p ≤ wid f.g * (f.g.hi + 1) := Int.mul_le_mul_of_nonneg_left h2 (by omega)
    rw [Int.mul_add, Int.mul_one] at a2
    omega
 refine ⟨⟨hc, fun h => ?_, fun h => ?_, ?_, ?_, ?_, ?_⟩, hi⟩
 · have h : ¬ D.c = 2 := h
   unfold Fm.vr
   simp only [if_neg h]
   rfl
 · have h : D.c = 2 := h
   have hm0 := l1t h
   unfold Fm.vr
   simp only [h, if_true]
   obtain ⟨b1, b2⟩ := s0j (g := g) (e := (wid f.g : Int) * D.p) hm0
   exact ⟨b2, by rw [b1]; rfl⟩
 · unfold Fm.vr
   simp only
   split
   · exact f0e _
   · exact .inr rfl
 · unfold Fm.vr
   simp only
   split
   · exact Nat.le_trans (j0o a0a _) (by show (dig B32 D.m).length ≤ _; omega)
   · show (dig B32 0).length ≤ _; rw [a0d]; decide
 · unfold Fm.vr
   simp only
   split
   · have := t0d (⟨g, D.m, wid f.g * D.p⟩ : Dv) (n := 3) hml (lo := -17100) (hi := 17100) (by simp only; omega) (by simp only; omega) (by omega) (by omega)
     omega
   · show (-18000 : Int) ≤ 0; decide
 · unfold Fm.vr
   simp only
   split
   · have := t0d (⟨g, D.m, wid f.g * D.p⟩ : Dv) (n := 3) hml (lo := -17100) (hi := 17100) (by simp only; omega) (by simp only; omega) (by omega) (by omega)
     omega
   · show (0 : Int) ≤ 18000; decide
theorem i0g {n : Int} {s : ByteArray} (h0 : b0m n s = 0) : VRep (fmt n) (decP n s) (refD n s) := by
 obtain ⟨hn, hs⟩ := b0q.1 h0
 have G := b0w hn
 have hd : decP n s = (fmt n).valN (a0y (fmt n) s) := by unfold decP; rw [if_pos h0]
 have he : (fmt n).exp (a0y (fmt n) s) < 2 ^ (fmt n).E := Nat.mod_lt _ (Nat.pow_pos (by omega))
 have hx : (fmt n).frac (a0y (fmt n) s) < 2 ^ (fmt n).F := Nat.mod_lt _ (Nat.pow_pos (by omega))
 have hb := s1j G ((fmt n).neg (a0y (fmt n) s)) he hx ((fmt n).neg (a0y (fmt n) s))
 have hk := y0s (fmt n) ((fmt n).neg (a0y (fmt n) s)) ((fmt n).decN (a0y (fmt n) s))
 have ho := i1k (fmt n) ((fmt n).neg (a0y (fmt n) s)) ((fmt n).decN (a0y (fmt n) s))
 rw [hd]
 exact ⟨rfl, rfl, fun _ => hk, fun h => ho h, hb.1, hb.2.1, hb.2.2⟩
/-! ### Results -/
theorem g1h {f : Fm} (G : c0n f) (x : Dv) (way : Int) : ResF f (f.numM x way).1 := by
 unfold Fm.numM
 split
 · exact s0k G _
 · exact (g0l G (by omega)).1
def _root_.Go.Slip.Vr.opp (r : Vr) : Vr := if r.cls ≤ 3 then ⟨r.cls, !r.neg, c0v r.x⟩ else r
theorem z0f {P : Program} {W : World} {l : List Nat} {b : Bool} (h : Byt l) (hb : l = [] ↔ b = false) {t : TypeId} {x y : Operand} : (do eqGuard .neq t x y (.string (a0c l)) (.string ⟨#[]⟩); binOp .neq t (.string (a0c l)) (.string ⟨#[]⟩) : Sem Value).run P W = .ok (.bool b) W :=
 j1x ((s0f h).trans hb)
structure NumV (f : Fm) (v : Vl) (r : Vr) : Prop where
 d0 : 0 < v.d
 x0 : r.x.m ≠ 0
 ng : r.x.neg = v.neg
 dec : ∀ k, decM (numP v.d (wid f.g * v.pow)) (denP 1 (wid f.g * v.pow)) k = numX r.x k
 len : (dig B32 v.d).length ≤ 3
 e : -30000 ≤ wid f.g * v.pow ∧ wid f.g * v.pow ≤ 30000
theorem g1i {n : Int} {s : ByteArray} (h0 : b0m n s = 0) (hc : (refD n s).cls = 2) : NumV (fmt n) (decP n s) (refD n s) := by
 obtain ⟨hn, hs⟩ := b0q.1 h0
 have G := b0w hn
 have V := i0g h0
 have F := (o0a (s := s) hn).ok
 have hd : decP n s = (fmt n).valN (a0y (fmt n) s) := by unfold decP; rw [if_pos h0]
 have he : (fmt n).exp (a0y (fmt n) s) < 2 ^ (fmt n).E := Nat.mod_lt _ (Nat.pow_pos (by omega))
 have hx : (fmt n).frac (a0y (fmt n) s) < 2 ^ (fmt n).F := Nat.mod_lt _ (Nat.pow_pos (by omega))
 have hm := i1d (f := fmt n) ((fmt n).neg (a0y (fmt n) s)) (e := (fmt n).exp (a0y (fmt n) s)) hx
 have hD := fun k => o1a (f := fmt n) (g := (fmt n).neg (a0y (fmt n) s)) (d := (fmt n).decN (a0y (fmt n) s)) hc k
 have hlen : (dig B32 (decP n s).d).length ≤ 3 := by
  rw [hd]
  unfold Fm.valN Fm.vl
  simp only
  split
  · exact Nat.le_trans (a0i a0a (Nat.div_le_self _ _)) (b0c hm (by have := G.f2; omega))
  · rw [a0d]; exact Nat.zero_le _
 have hd0 : 0 < (decP n s).d := by rw [hd]; exact (hD 1).2.1
 refine ⟨hd0, (hD 1).2.2, ?_, fun k => by rw [hd]; exact (hD k).1, hlen, ?_⟩
 · rw [(F.x2 hc).2, V.neg]
 · have hnum := V.num hc
   have hlo := F.lo
   have hhi := F.hi
   have hb : bare ⟨(decP n s).neg, (decP n s).d, wid (fmt n).g * (decP n s).pow⟩ = ⟨(decP n s).neg, (decP n s).d / 2 ^ tz (decP n s).d, wid (fmt n).g * (decP n s).pow + tz (decP n s).d⟩ := m0a (by omega)
   rw [← hnum, hb] at hlo hhi
   simp only at hlo hhi
   have ht : tz (decP n s).d ≤ 100 := by
    have h1 := (b0k (decP n s).d hd0).1
    have h2 : 2 ^ tz (decP n s).d ≤ (decP n s).d := by
     have h3 : 0 < (decP n s).d / 2 ^ tz (decP n s).d := Nat.pos_of_ne_zero fun h => by rw [h, Nat.mul_zero] at h1; omega
     calc 2 ^ tz (decP n s).d = 2 ^ tz (decP n s).d * 1 := (Nat.mul_one _).symm
      _ ≤ 2 ^ tz (decP n s).d * ((decP n s).d / 2 ^ tz (decP n s).d) := Nat.mul_le_mul_left _ h3
      _ = _ := h1
    have h4 := (a0u (decP n s).d (blen (decP n s).d)).1 (Nat.le_refl _)
    have h5 := c0p (decP n s).d
    have h6 : tz (decP n s).d < blen (decP n s).d := (Nat.pow_lt_pow_iff_right (by omega : 1 < 2)).1 (Nat.lt_of_le_of_lt h2 h4)
    omega
   omega
theorem z0g {s : List Nat} (h : ∀ y ∈ s, 48 ≤ y ∧ y ≤ 57) : Byt s := fun y hy => by have := h y hy; omega
def s0l (n way : Int) (L : List ByteArray) (R : Vr × Nat) (w : World) (en : Ending) (w' : World) : Prop :=
 (if errR n way L = 0 then en = .returned (.tuple #[.string (strR n R.1), .int .i64 ((R.2 : Nat) : Int), .int .i64 (errR n way L)]) else en = .returned (.tuple #[.string (a0c []), .int .i64 0, .int .i64 (errR n way L)])) ∧ Below w.heap.size w w'
theorem g1j {n way : Int} {L : List ByteArray} (h0 : errR n way L = 0) : IsFm n ∧ errL n L = 0 ∧ 1 ≤ way ∧ way ≤ 5 := by
 have hn : IsFm n := by unfold errR at h0; split at h0; assumption; omega
 unfold errR at h0
 rw [if_pos hn] at h0
 have hL : errL n L = 0 := by split at h0; assumption; contradiction
 rw [if_pos hL] at h0
 exact ⟨hn, hL, by split at h0; assumption; omega⟩
def fitE (n : Int) (a : Rin) (way : Int) : Int := if IsFm n then c0b a (fmt n).g way else 6
def fitR (n : Int) (a : Rin) (way : Int) : Vr × Nat := if a.xs.length = 0 then (⟨1, false, vz⟩, 0) else (fmt n).placedM (a0h a.g (val B32 a.xs) (val B32 a.ys) a.e (fmt n).g way) way
structure s1s (n : Int) (a : Rin) (num den : Nat) (way : Int) : Prop where
 fm : IsFm n
 wy : 1 ≤ way ∧ way ≤ 5
 r0 : c0b a (fmt n).g way = 0
 t0 : e0j a = 0
 xs : a.xs = dig B32 num
 ys : a.ys = dig B32 den
 d0 : 0 < den
 lx : (dig B32 num).length ≤ 1200
 ly : (dig B32 den).length ≤ 1200
 e : -20000 ≤ a.e ∧ a.e ≤ 20000
theorem r1v {n : Int} {a : Rin} {way : Int} (h1 : ∀ x ∈ a.xs, x < B32) (h2 : ∀ x ∈ a.ys, x < B32) (h : fitE n a way = 0) : s1s n a (val B32 a.xs) (val B32 a.ys) way := by
 unfold fitE at h
 split at h
 · rename_i hn
   have hr0 : e0j a = 0 := by
    unfold c0b at h
    by_cases h : e0j a = 0
    · exact h
    · rename_i h9; rw [if_pos h] at h9; exact absurd h9 h
   have hg0 : errG (fmt n).g = 0 := (b0w hn).g
   have hw : 1 ≤ way ∧ way ≤ 5 := by
    unfold c0b at h
    rw [hr0, hg0, if_neg (by simp), if_neg (by simp)] at h
    by_cases k : way < 1 ∨ 5 < way
    · rw [if_pos k] at h; omega
    · omega
   have hx0 : a0w a.xs = 0 ∧ a0w a.ys = 0 ∧ 0 < a.ys.length ∧ -20000 ≤ a.e ∧ a.e ≤ 20000 := by
    unfold e0j at hr0
    by_cases h1 : a0w a.xs = 0
    · rw [if_neg (by simpa using h1)] at hr0
      by_cases h2 : a0w a.ys = 0
      · rw [if_neg (by simpa using h2)] at hr0
        by_cases h3 : a.ys.length = 0 ∨ a.e < -20000 ∨ 20000 < a.e
        · rw [if_pos h3] at hr0; simp at hr0
        · exact ⟨h1, h2, by omega, by omega, by omega⟩
      · rw [if_pos h2] at hr0; exact absurd hr0 h2
    · rw [if_pos h1] at hr0; exact absurd hr0 h1
   obtain ⟨hx1, hx2, hx3, hx4⟩ := hx0
   obtain ⟨ex, lx⟩ := c0u h1 hx1
   obtain ⟨ey, ly⟩ := c0u h2 hx2
   refine ⟨hn, hw, h, hr0, ex, ey, ?_, by rw [← ex]; exact lx, by rw [← ey]; exact ly, hx4⟩
   rcases Nat.eq_zero_or_pos (val B32 a.ys) with h | h
   · rw [h, a0d] at ey; rw [ey] at hx3; simp at hx3
   · exact h
 · omega
theorem k1o (n : Int) (hn : IsFm n) : ResF (fmt n) ⟨1, false, vz⟩ := by
 have := s0k (b0w hn) false
 unfold Fm.zeroM at this
 exact this
theorem g1k (n way : Int) (u : Nat) (w : World) (U : Bt w u 223 #[.int .i64 n, .int .i64 way, .int .i64 (fmt n).g.rad, .int .i64 (fmt n).g.digs, .int .i64 (fmt n).g.lo, .int .i64 (fmt n).g.hi, .bool (fmt n).g.grad, .int .u8 (famB (fmt n)), .int .i64 0]) (hn : IsFm n) (hT : TabW w) :
 Calls Tryz.prog 91 #[.pointer (some ⟨u, 0, none⟩), .agg #[.int .i64 1, .bool false, .slice none 0 0, .int .i64 0]] w fun en w' => en = .returned (.tuple #[.string (strR n ⟨1, false, vz⟩), .int .i64 0, .int .i64 0]) ∧ Below w.heap.size w w' := by
 have := g1g n way 0 ⟨⟨1, false, 0, 0⟩, none, 0⟩ ⟨1, false, vz⟩ 0 u w U (by simp only [a0d]; exact Own.nil _ _ _ _) hn (e0x (by omega)) (k1o n hn) hT
 simp only [a0d, List.length_nil] at this
 exact this
theorem o1z (n : Int) (a : Rin) (way : Int) (w : World) (ha : InR w a) (hT : TabW w) (h0 : fitE n a way = 0) :
 Calls Tryz.prog 58 #[.int .i64 n, .agg #[.bool a.g, .slice a.p a.xs.length a.c, .slice a.q a.ys.length a.d, .int .i64 a.e], .int .i64 way] w fun en w' => en = .returned (.tuple #[.string (strR n (fitR n a way).1), .int .i64 (((fitR n a way).2 : Nat) : Int), .int .i64 0]) ∧ Below w.heap.size w w' := by
 have F := r1v ha.b1 ha.b2 h0
 have hn := F.fm
 have he : c0h n = 0 := by unfold c0h; rw [if_pos hn]
 have HG := fun W => hi0 (k0l n W)
 rw [he] at HG
 have HR := fun W h1 h2 => hi0 (u0e a (fmt n).g way W ⟨h1, ha.l1, ha.b1, h2, ha.l2, ha.b2⟩)
 rw [F.r0] at HR
 have HO := fun W => hi0 (x0q n way W hn F.wy)
 have HZ := fun W u h => hi0 (f1l (fmt n) n way 0 false u W h)
 rw [Bool.false_and] at HZ
 have HT0 := fun W u h1 h2 => hi0 (g1k n way u W h1 hn h2)
 by_cases hz : a.xs.length = 0
 · have hR : fitR n a way = (⟨1, false, vz⟩, 0) := by unfold fitR; rw [if_pos hz]
   rw [hR]
   simp only
   have r1 := ha.r1
   have r2 := ha.r2
   generalize strR n ⟨1, false, vz⟩ = s at *
   generalize j0c a (fmt n).g way = P at *
   generalize fmt n = f at *
   clear F ha hR
   have I := Inv.start w [rdF .u32 a.p a.xs, rdF .u32 a.q a.ys, tabF] ⟨r1, r2, hT, True.intro⟩
   refine a0g [.v (.int .i64 n), .v (.agg #[.bool a.g, .slice a.p a.xs.length a.c, .slice a.q a.ys.length a.d, .int .i64 a.e]), .v (.int .i64 way)] I Tryz.func58 ?_
   refine zq I (fun Al W I => (HG W).out) fun Al W I => zg I (fun Al W I => (HR W I.fa.1 I.fa.2.1).out) fun Al V Iv _ hB _ kz => ?_
   rintro _ W ⟨p27, c27, rfl, -, hb⟩
   refine ⟨_, rfl, kz _ _ hb fun I => ?_⟩
   refine zg I (fun Al W I => (HO W).out) fun Al V Iv _ hB _ kz => ?_
   rintro _ W ⟨u36, rfl, hge, hB, hb⟩
   refine ⟨_, rfl, kz _ _ hb fun I => ?_⟩
   refine n1s Iv hb 3 u36 223 [(.int .i64 n), (.int .i64 way), (.int .i64 f.g.rad), (.int .i64 f.g.digs), (.int .i64 f.g.lo), (.int .i64 f.g.hi), (.bool f.g.grad), (.int .u8 (famB f)), (.int .i64 0)] hge hB fun Al hAl_36 I => ?_
   refine n1t I 37 3 u36 hAl_36 fun Al W I => zb I 42 ((a.xs.length : Int) == 0) (true) (beq_iff_eq.2 (by omega)) fun Al W I => zq I (fun Al W I => (HZ W _ (I.box 3 223 _)).out) fun Al W I => zq I (fun Al W I => (HT0 W _ (I.box 3 223 _) I.fa.2.2.1).out) fun Al W I => zrb I
 · have hxs : a.xs = dig B32 (val B32 a.xs) := F.xs
   have hn0 : 0 < val B32 a.xs := by
    rcases Nat.eq_zero_or_pos (val B32 a.xs) with h | h
    · rw [h, a0d] at hxs; rw [hxs] at hz; simp at hz
    · exact h
   have HF := fun W u h1 h2 h3 => hi0 (r1t (fmt n) n way a.g a.p a.q a.c a.d (val B32 a.xs) (val B32 a.ys) a.e u W h1 h2 h3 (by have := F.lx; omega) (by have := F.ly; omega) hn0 F.d0 (by have := F.e; omega) (b0w hn) F.wy)
   have hR : fitR n a way = (fmt n).placedM (a0h a.g (val B32 a.xs) (val B32 a.ys) a.e (fmt n).g way) way := by unfold fitR; rw [if_neg hz]
   have PA := g0l (b0w hn) (neg := a.g) (num := val B32 a.xs) (den := val B32 a.ys) (e := a.e) (way := way) F.d0
   rw [← F.xs, ← F.ys, ← hR] at HF
   rw [← hR] at PA
   have HT := fun W v p c base fl u h1 h2 h3 h4 => hi0 (g1g n way fl ⟨v, p, c⟩ (fitR n a way).1 base u W h1 h2 hn h3 PA.1 h4)
   have hV := PA.2
   have hs : strR n (fitR n a way).1 = a0c ((fmt n).strP ((fmt n).encP (fitR n a way).1.cls (fitR n a way).1.neg (fitR n a way).1.x)) := rfl
   rw [← hs] at HT
   have r1 := ha.r1
   have r2 := ha.r2
   clear hs PA hR F ha
   generalize strR n (fitR n a way).1 = s at *
   generalize (fitR n a way).2 = fl at *
   generalize (fitR n a way).1 = r at *
   generalize (fmt n).placedV (a0h a.g (val B32 a.xs) (val B32 a.ys) a.e (fmt n).g way) way = v at *
   generalize j0c a (fmt n).g way = P at *
   generalize fmt n = f at *
   have I := Inv.start w [rdF .u32 a.p a.xs, rdF .u32 a.q a.ys, tabF] ⟨r1, r2, hT, True.intro⟩
   refine a0g [.v (.int .i64 n), .v (.agg #[.bool a.g, .slice a.p a.xs.length a.c, .slice a.q a.ys.length a.d, .int .i64 a.e]), .v (.int .i64 way)] I Tryz.func58 ?_
   refine zq I (fun Al W I => (HG W).out) fun Al W I => zg I (fun Al W I => (HR W I.fa.1 I.fa.2.1).out) fun Al V Iv _ hB _ kz => ?_
   rintro _ W ⟨p27, c27, rfl, -, hb⟩
   refine ⟨_, rfl, kz _ _ hb fun I => ?_⟩
   refine zg I (fun Al W I => (HO W).out) fun Al V Iv _ hB _ kz => ?_
   rintro _ W ⟨u36, rfl, hge, hB, hb⟩
   refine ⟨_, rfl, kz _ _ hb fun I => ?_⟩
   refine n1s Iv hb 3 u36 223 [(.int .i64 n), (.int .i64 way), (.int .i64 f.g.rad), (.int .i64 f.g.digs), (.int .i64 f.g.lo), (.int .i64 f.g.hi), (.bool f.g.grad), (.int .u8 (famB f)), (.int .i64 0)] hge hB fun Al hAl_36 I => ?_
   refine n1t I 37 3 u36 hAl_36 fun Al W I => zb I 42 ((a.xs.length : Int) == 0) (false) (bFn (by omega)) fun Al W I => zge I 3 223 (fun Al W I => (HF W _ (I.box 3 223 _) I.fa.1 I.fa.2.1).out) fun Al V Iv _ _ kz => ?_
   rintro _ W ⟨p53, c53, rfl, o53, hO, hB⟩
   refine ⟨_, rfl, kz _ (uS f n way (fl : Int)) _ hO hB fun I => ?_⟩
   have I := I.own o53
   refine zq I (fun Al W I => (HT W v p53 c53 _ (fl : Int) _ (I.box 3 223 _) I.fa.1 hV I.fa.2.2.2.1).out) fun Al W I => zrb I
theorem k1p (n : Int) (a : Rin) (way : Int) (w : World) (ha : InR w a) (hT : TabW w) (h0 : fitE n a way ≠ 0) :
 Calls Tryz.prog 58 #[.int .i64 n, .agg #[.bool a.g, .slice a.p a.xs.length a.c, .slice a.q a.ys.length a.d, .int .i64 a.e], .int .i64 way] w fun en w' => en = .returned (.tuple #[.string (a0c []), .int .i64 0, .int .i64 (fitE n a way)]) ∧ Below w.heap.size w w' := by
 have HG := fun W => hi0 (k0l n W)
 have r1 := ha.r1
 have r2 := ha.r2
 by_cases hn : IsFm n
 · have he : c0h n = 0 := by unfold c0h; rw [if_pos hn]
   rw [he] at HG
   have hE : fitE n a way = c0b a (fmt n).g way := by unfold fitE; rw [if_pos hn]
   rw [hE] at h0 ⊢
   have HR := fun W h1 h2 => hi0 (u0e a (fmt n).g way W ⟨h1, ha.l1, ha.b1, h2, ha.l2, ha.b2⟩)
   generalize c0b a (fmt n).g way = er at *
   generalize j0c a (fmt n).g way = P at *
   generalize fmt n = f at *
   have I := Inv.start w [rdF .u32 a.p a.xs, rdF .u32 a.q a.ys, tabF] ⟨r1, r2, hT, True.intro⟩
   refine a0g [.v (.int .i64 n), .v (.agg #[.bool a.g, .slice a.p a.xs.length a.c, .slice a.q a.ys.length a.d, .int .i64 a.e]), .v (.int .i64 way)] I Tryz.func58 ?_
   refine zq I (fun Al W I => (HG W).out) fun Al W I => zg I (fun Al W I => (HR W I.fa.1 I.fa.2.1).out) fun Al V Iv _ hB _ kz => ?_
   rintro _ W ⟨p27, c27, rfl, -, hb⟩
   refine ⟨_, rfl, kz _ _ hb fun I => ?_⟩
   refine zb I 31 (er != 0) (true) (bne_iff_ne.2 h0) fun Al W I => zrb I
 · have he : c0h n = 6 := by unfold c0h; rw [if_neg hn]
   rw [he] at HG
   have hE : fitE n a way = 6 := by unfold fitE; rw [if_neg hn]
   rw [hE]
   generalize fmt n = f at *
   have I := Inv.start w [] True.intro
   refine a0g [.v (.int .i64 n), .v (.agg #[.bool a.g, .slice a.p a.xs.length a.c, .slice a.q a.ys.length a.d, .int .i64 a.e]), .v (.int .i64 way)] I Tryz.func58 ?_
   refine zq I (fun Al W I => (HG W).out) fun Al W I => zrb I
theorem p1a {f : Fm} (G : c0n f) {r : Vr} (R : ResF f r) : CanF f r.cls r.neg r.x :=
 ⟨R.c, R.c1, fun h => ⟨d1z G (R.c2 h).1 (R.c2 h).2.2.1, (R.c2 h).2.1, (R.c2 h).2.2.1, (R.c2 h).2.2.2⟩, R.c3, R.c4, R.c5⟩
theorem m0g {n : Int} (hn : IsFm n) {r : Vr} (R : ResF (fmt n) r) : b0m n (strR n r) = 0 ∧ refD n (strR n r) = r := by
 have G := b0w hn
 have C := p1a G R
 have hlt := n1p G (cls := r.cls) (g := r.neg) (d := r.x) (fun h => (C.c2 h).1)
 have hs : (strR n r).size = (fmt n).size := by unfold strR; rw [a0j]; exact n1o _ _ _ _
 refine ⟨b0q.2 ⟨hn, hs⟩, ?_⟩
 have hv := n1r G C
 obtain ⟨q1, q2, q3⟩ := d1y (f := fmt n) (neg := ((fmt n).encP r.cls r.neg r.x).neg) hlt.1 hlt.2
 unfold refD Fm.refN Fm.decN strR Fm.strP
 rw [x0p G hlt.1 hlt.2, q1, q2, q3, hv]
 by_cases h2 : r.cls = 2
 · rw [if_pos h2]
 · rw [if_neg h2, show (⟨false, 0, 0⟩ : Dv) = r.x from (R.x0 h2).symm]
def outS (n way : Int) (L : List ByteArray) (R : Vr × Nat) : ByteArray := if errR n way L = 0 then strR n R.1 else a0c []
def outF (n way : Int) (L : List ByteArray) (R : Vr × Nat) : Nat := if errR n way L = 0 then R.2 else 0
theorem g1l {l : List Nat} (h : errT l.length (numl l) = 0) : a1t (ratL l) := by
 unfold errT at h
 by_cases h1 : 400 < l.length
 · rw [if_pos h1] at h; cases h
 · rw [if_neg h1] at h
   cases hn : numl l with
   | none => rw [hn] at h; cases h
   | some q =>
    rw [hn] at h
    by_cases h2 : q.pow < -6000 ∨ 6000 < q.pow
    · have h : (if q.pow < -6000 ∨ 6000 < q.pow then (3 : Int) else 0) = 0 := h
      rw [if_pos h2] at h; cases h
    · rw [(z0c h1 hn h2).2]
      have hd := u0x hn
      exact f1i hd.1 (by omega) (by omega)
def fitQ (n : Int) (R : Bool × Nat × Nat × Int) (way : Int) : Vr × Nat := if R.2.1 = 0 then (⟨1, false, vz⟩, 0) else (fmt n).placedM (a0h R.1 R.2.1 R.2.2.1 R.2.2.2 (fmt n).g way) way
def errQ (n way : Int) : Int := if IsFm n then (if 1 ≤ way ∧ way ≤ 5 then 0 else 6) else 6
def outQ (n way : Int) (R : Bool × Nat × Nat × Int) : ByteArray := if errQ n way = 0 then strR n (fitQ n R way).1 else a0c []
def flQ (n way : Int) (R : Bool × Nat × Nat × Int) : Nat := if errQ n way = 0 then (fitQ n R way).2 else 0
theorem z0h (n way : Int) (R : Bool × Nat × Nat × Int) (p q : OA) (c d b1 b2 : Nat) (w : World) (hp : Own w b1 .u32 143 p c (dig B32 R.2.1)) (hq : Own w b2 .u32 143 q d (dig B32 R.2.2.1)) (hR : a1t R) (hT : TabW w) :
 Calls Tryz.prog 58 #[.int .i64 n, .agg #[.bool R.1, .slice p (dig B32 R.2.1).length c, .slice q (dig B32 R.2.2.1).length d, .int .i64 R.2.2.2], .int .i64 way] w fun en w' => en = .returned (.tuple #[.string (outQ n way R), .int .i64 ((flQ n way R : Nat) : Int), .int .i64 (errQ n way)]) ∧ Below w.heap.size w w' := by
 obtain ⟨hd0, hln, hld, he⟩ := hR
 have ha : InR w ⟨R.1, p, c, dig B32 R.2.1, q, d, dig B32 R.2.2.1, R.2.2.2⟩ := ⟨hp.rd, by show (dig B32 R.2.1).length ≤ _; omega, b0g a0a _, hq.rd, by show (dig B32 R.2.2.1).length ≤ _; omega, b0g a0a _⟩
 have hzl := a0f a0a R.2.1
 have hyl := a0f a0a R.2.2.1
 have eF : fitR n ⟨R.1, p, c, dig B32 R.2.1, q, d, dig B32 R.2.2.1, R.2.2.2⟩ way = fitQ n R way := by
  unfold fitR fitQ
  simp only [b0e a0a]
  by_cases h : R.2.1 = 0
  · rw [if_pos h, if_pos (hzl.2 h)]
  · rw [if_neg h, if_neg (fun k => h (hzl.1 k))]
 have eE : fitE n ⟨R.1, p, c, dig B32 R.2.1, q, d, dig B32 R.2.2.1, R.2.2.2⟩ way = errQ n way := by
  unfold fitE errQ
  by_cases hn : IsFm n
  · rw [if_pos hn, if_pos hn]
    have h1 : e0j ⟨R.1, p, c, dig B32 R.2.1, q, d, dig B32 R.2.2.1, R.2.2.2⟩ = 0 := by
     unfold e0j
     simp only [Go.Slip.g0a, if_neg (show ¬ 1200 < (dig B32 R.2.1).length by omega), if_neg (show ¬ 1200 < (dig B32 R.2.2.1).length by omega)]
     rw [if_neg (by simp), if_neg (by simp), if_neg (by omega)]
    unfold c0b
    rw [h1, (b0w hn).g, if_neg (by simp), if_neg (by simp)]
    by_cases hw : 1 ≤ way ∧ way ≤ 5
    · rw [if_neg (by omega), if_pos hw]
    · rw [if_pos (by omega), if_neg hw]
  · rw [if_neg hn, if_neg hn]
 by_cases h0 : errQ n way = 0
 · have := o1z n _ way w ha hT (by rw [eE]; exact h0)
   rw [eF] at this
   unfold outQ flQ
   rw [if_pos h0, if_pos h0, h0]
   exact this
 · have := k1p n _ way w ha hT (by rw [eE]; exact h0)
   rw [eE] at this
   unfold outQ flQ
   rw [if_neg h0, if_neg h0]
   exact this
def c0e (n way : Int) (l : List Nat) : Int := if IsFm n then (if errT l.length (numl l) = 0 then errQ n way else errT l.length (numl l)) else 6
def outP (n way : Int) (l : List Nat) : ByteArray := if c0e n way l = 0 then strR n (fitQ n (ratL l) way).1 else a0c []
def flP' (n way : Int) (l : List Nat) : Nat := if c0e n way l = 0 then (fitQ n (ratL l) way).2 else 0
theorem p0z (n : Int) (t : ByteArray) (way : Int) (w : World) (hT : TabW w) : Calls Tryz.prog 15 #[.int .i64 n, .string t, .int .i64 way] w fun en w' => en = .returned (.tuple #[.string (outP n way (a0b t)), .int .i64 ((flP' n way (a0b t) : Nat) : Int), .int .i64 (c0e n way (a0b t))]) ∧ Below w.heap.size w w' := by
 have HS := fun W => hi0 (j1l n W)
 have HR := fun W h => hi0 (v0a t W h)
 have hok := @g1l (a0b t)
 have HF := fun p q c d b1 b2 W h1 h2 h3 h4 => hi0 (z0h n way (ratL (a0b t)) p q c d b1 b2 W h1 h2 h3 h4)
 have e1 : c0h n ≠ 0 → c0e n way (a0b t) = c0h n ∧ outP n way (a0b t) = a0c [] ∧ flP' n way (a0b t) = 0 := fun h => by
  have hn : ¬ IsFm n := fun k => h (by unfold c0h; rw [if_pos k])
  have h1 : c0e n way (a0b t) = 6 := by unfold c0e; rw [if_neg hn]
  have h2 : c0h n = 6 := by unfold c0h; rw [if_neg hn]
  unfold outP flP'
  rw [h1, h2]
  exact ⟨rfl, rfl, rfl⟩
 have e2 : c0h n = 0 → errT (a0b t).length (numl (a0b t)) ≠ 0 → c0e n way (a0b t) = errT (a0b t).length (numl (a0b t)) ∧ outP n way (a0b t) = a0c [] ∧ flP' n way (a0b t) = 0 := fun h h' => by
  have hn : IsFm n := by unfold c0h at h; split at h; assumption; omega
  have h1 : c0e n way (a0b t) = errT (a0b t).length (numl (a0b t)) := by unfold c0e; rw [if_pos hn, if_neg h']
  unfold outP flP'
  rw [h1, if_neg h', if_neg h']
  exact ⟨rfl, rfl, rfl⟩
 have e3 : c0h n = 0 → errT (a0b t).length (numl (a0b t)) = 0 → c0e n way (a0b t) = errQ n way ∧ outP n way (a0b t) = outQ n way (ratL (a0b t)) ∧ flP' n way (a0b t) = flQ n way (ratL (a0b t)) := fun h h' => by
  have hn : IsFm n := by unfold c0h at h; split at h; assumption; omega
  have h1 : c0e n way (a0b t) = errQ n way := by unfold c0e; rw [if_pos hn, if_pos h']
  unfold outP flP' outQ flQ
  rw [h1]
  exact ⟨rfl, rfl, rfl⟩
 generalize c0e n way (a0b t) = ep at *
 generalize outP n way (a0b t) = op at *
 generalize flP' n way (a0b t) = fp at *
 generalize errT (a0b t).length (numl (a0b t)) = er at *
 generalize outQ n way (ratL (a0b t)) = oq at *
 generalize flQ n way (ratL (a0b t)) = fq at *
 generalize errQ n way = eq at *
 generalize ratL (a0b t) = R at *
 generalize (fmt n).size = sz at *
 generalize c0h n = ef at *
 have I := Inv.start w [tabF] ⟨hT, True.intro⟩
 refine a0g [.v (.int .i64 n), .v (.string t), .v (.int .i64 way)] I Tryz.func15 ?_
 refine zq I (fun Al W I => (HS W).out) fun Al W I => ?_
 rcases bTF (ef != 0) with f19 | f19
 · refine zb I 19 (ef != 0) (true) (f19) fun Al W I => zret I (v := fun Al => .tuple #[Go.Value.string (ByteArray.mk #[]), vI 0, vI ef]) fun Al W I => ?_
   (obtain ⟨h1, h2, h3⟩ := e1 (by simpa using f19); rw [h1, h2, h3]; exact ⟨rfl, I.below⟩)
 refine zb I 19 (ef != 0) (false) (f19) fun Al W I => zg I (fun Al W I => (HR W I.fa.1).out) fun Al V Iv _ hB _ kz => ?_
 rintro _ W ⟨p23, c23, q23, d23, rfl, o23, r23, hb⟩
 refine ⟨_, rfl, kz _ _ hb fun I => ?_⟩
 have I := I.own o23
 have I := I.own r23
 rcases bTF (er != 0) with f27 | f27
 · refine zb I 27 (er != 0) (true) (f27) fun Al W I => zret I (v := fun Al => .tuple #[Go.Value.string (ByteArray.mk #[]), vI 0, vI er]) fun Al W I => ?_
   first | (obtain ⟨h1, h2, h3⟩ := e1 (by simpa using f19); rw [h1, h2, h3]; exact ⟨rfl, I.below⟩) | (obtain ⟨h1, h2, h3⟩ := e2 (by simpa using f19) (by simpa using f27); rw [h1, h2, h3]; exact ⟨rfl, I.below⟩) | (obtain ⟨h1, h2, h3⟩ := e3 (by simpa using f19) (by simpa using f27); rw [h1, h2, h3]; exact ⟨rfl, I.below⟩)
 refine zb I 27 (er != 0) (false) (f27) fun Al W I => zq I (fun Al W I => (HF p23 q23 c23 d23 _ _ W I.fa.2.1 I.fa.1 (hok (by simpa using f27)) I.fa.2.2.1).out) fun Al W I => zret I (v := fun Al => .tuple #[.string oq, vI (fq : Int), vI eq]) fun Al W I => ?_
 first | (obtain ⟨h1, h2, h3⟩ := e1 (by simpa using f19); rw [h1, h2, h3]; exact ⟨rfl, I.below⟩) | (obtain ⟨h1, h2, h3⟩ := e2 (by simpa using f19) (by simpa using f27); rw [h1, h2, h3]; exact ⟨rfl, I.below⟩) | (obtain ⟨h1, h2, h3⟩ := e3 (by simpa using f19) (by simpa using f27); rw [h1, h2, h3]; exact ⟨rfl, I.below⟩)
theorem k1q {g : Bool} {s : List Nat} {p : Int} (h : Byt s) : Byt (numT g s p) := by
 unfold numT
 refine Byt.append ?_ (Byt.append (h.take 1) (Byt.append ?_ fun y hy => ?_))
 · intro y hy; cases g <;> simp at hy; omega
 · intro y hy
   split at hy
   · rcases List.mem_cons.1 hy with h1 | h1
     · omega
     · exact h.drop 1 y h1
   · cases hy
 · rcases List.mem_cons.1 hy with h1 | h1
   · omega
   · exact g1c p y h1
theorem k1r {g : Bool} {s : List Nat} {p : Int} (hp : -100000 < p ∧ p < 100000) (h0 : 1 ≤ s.length) : (numT g s p).length ≤ s.length + 10 := by
 have hil : (f0n p).length ≤ 6 := by
  have h : (a0o p.natAbs).length ≤ 5 := (b0d _ 5 (by omega)).2 (by omega)
  unfold f0n
  split
  · rw [List.length_cons, show (-p).toNat = p.natAbs by omega]; omega
  · rw [show p.toNat = p.natAbs by omega]; omega
 unfold numT
 have h1 : (if g = true then [45] else [] : List Nat).length ≤ 1 := by cases g <;> simp
 have h2 : (if 1 < s.length then 46 :: s.drop 1 else [] : List Nat).length ≤ s.length := by split <;> simp; omega
 rw [List.length_append, List.length_append, List.length_append, List.length_cons, List.length_take]
 omega
theorem v0g {n : Int} {r : Vr} {k : Nat} (hn : IsFm n) (h0 : r.x.m ≠ 0) (F : VrOk r) (hin : a0x r.x (fmt n).g = true) (hk : 1 ≤ k ∧ k ≤ 60) :
 errT (a0b (a0c (numT r.x.neg (numX r.x k).1 (numX r.x k).2))).length (numl (a0b (a0c (numT r.x.neg (numX r.x k).1 (numX r.x k).2)))) = 0 ∧ ratL (a0b (a0c (numT r.x.neg (numX r.x k).1 (numX r.x k).2))) = ratX r.x k := by
 have A := k0f (k := k) h0 F.len hk.1
 have B := o1b (k := k) (b0w hn).g h0 F.len hin hk.1
 rw [a0v (k1q (z0g A.2.1))]
 have hl := k1r (g := r.x.neg) (s := (numX r.x k).1) (p := (numX r.x k).2) (by omega) (by omega)
 have hN := e1c (neg := r.x.neg) A.1 hk.1 A.2.1 (show -100000 < (numX r.x k).2 ∧ (numX r.x k).2 < 100000 by omega)
 unfold ratX
 generalize numX r.x k = q at *
 generalize numT r.x.neg q.1 q.2 = L at *
 exact z0c (by omega) hN (by simp only; omega)
theorem g1m {n : Int} {r : Vr} {k : Nat} (hn : IsFm n) (h0 : r.x.m ≠ 0) (F : VrOk r) (hin : a0x r.x (fmt n).g = true) (hk : 1 ≤ k ∧ k ≤ 60) : a1t (ratX r.x k) ∧ 0 < (ratX r.x k).2.1 ∧ (ratX r.x k).1 = r.x.neg := by
 have h := v0g hn h0 F hin hk
 have A := k0f (k := k) h0 F.len hk.1
 have hq : a1t (ratX r.x k) := h.2 ▸ g1l h.1
 clear h
 unfold ratX at *
 obtain ⟨g, num, den, e, hr⟩ : ∃ g num den e, d0m ⟨r.x.neg, (numX r.x k).1, (numX r.x k).2 - ((k - 1 : Nat) : Int)⟩ = (g, num, den, e) := ⟨_, _, _, _, rfl⟩
 obtain ⟨a1, a2, _, _⟩ := t0m (by simp only; omega) hr
 rw [hr] at hq ⊢
 exact ⟨hq, a2, a1⟩
theorem g1n {n : Int} {r : Vr} {k : Nat} (hn : IsFm n) (h0 : r.x.m ≠ 0) (F : VrOk r) (hin : a0x r.x (fmt n).g = true) (hk : 1 ≤ k ∧ k ≤ 60) : ResF (fmt n) (g0e (fmt n) r.x k) ∧ (fitQ n (ratX r.x k) 1).1 = g0e (fmt n) r.x k := by
 have R := g1m hn h0 F hin hk
 have hf : (fitQ n (ratX r.x k) 1).1 = g0e (fmt n) r.x k := by
  unfold fitQ
  rw [if_neg (by have := R.2.1; omega)]
  rfl
 exact ⟨(g0l (b0w hn) R.1.d0).1, hf⟩
theorem z0i {n : Int} {s : ByteArray} (h0 : b0m n s = 0) : decP n s = (fmt n).toV (refD n s) := by
 obtain ⟨hn, hs⟩ := b0q.1 h0
 have he : (fmt n).exp (a0y (fmt n) s) < 2 ^ (fmt n).E := Nat.mod_lt _ (Nat.pow_pos (by omega))
 have hp := n1n (b0w hn) ((fmt n).neg (a0y (fmt n) s)) (frac := (fmt n).frac (a0y (fmt n) s)) he
 unfold decP
 rw [if_pos h0]
 exact (i1e _ _ ((fmt n).decN (a0y (fmt n) s)) (by unfold Fm.decN; omega) (by unfold Fm.decN; omega)).symm
theorem k1s {n : Int} {s t : ByteArray} (h1 : b0m n s = 0) (h2 : b0m n t = 0) (hc : (refD n s).cls = 2) (hc2 : (refD n t).cls = 2 → (refD n t).x.neg = (refD n t).neg) :
 decide ((decP n s).cls = (decP n t).cls ∧ (decP n s).neg = (decP n t).neg ∧ (decP n s).pow = (decP n t).pow ∧ (decP n s).d = (decP n t).d) =
  decide ((refD n t).cls = 2 ∧ (refD n t).x.neg = (refD n s).x.neg ∧ (refD n t).x.m = (refD n s).x.m ∧ (refD n t).x.e = (refD n s).x.e) := by
 have V := i0g h1
 have U := i0g h2
 have F := (o0a (s := s) (b0q.1 h1).1).ok
 rw [decide_eq_decide]
 constructor
 · rintro ⟨q1, q2, q3, q4⟩
   have k2 : (refD n t).cls = 2 := by rw [← U.cls, ← q1, V.cls]; exact hc
   have := U.num k2
   rw [← q2, ← q3, ← q4, V.num hc] at this
   exact ⟨k2, by rw [this], by rw [this], by rw [this]⟩
 · rintro ⟨q1, q2, q3, q4⟩
   have hx : (refD n t).x = (refD n s).x := by
    cases hq : (refD n t).x; cases hq' : (refD n s).x
    rw [hq, hq'] at q2 q3 q4
    simp only at q2 q3 q4
    rw [q2, q3, q4]
   have hr : refD n t = refD n s := by
    have hng : (refD n t).neg = (refD n s).neg := by rw [← hc2 q1, ← (F.x2 hc).2, hx]
    cases hq : refD n t; cases hq' : refD n s
    rw [hq, hq'] at hx hng
    rw [hq] at q1
    rw [hq'] at hc
    simp only at hx hng q1 hc
    rw [hx, hng, q1, hc]
   rw [z0i h1, z0i h2, hr]
   exact ⟨rfl, rfl, rfl, rfl⟩
theorem bad1 {x o u g : Bool} (h : (!x) = true) : true = !(x && (!o && (!u || g))) := by revert h; cases x <;> simp
theorem bad2 {x o u g : Bool} (h : o = true) : true = !(x && (!o && (!u || g))) := by subst h; cases x <;> simp
theorem bad3 {x o u g : Bool} (h : (!x) = false) (h2 : o = false) (h3 : u = false) : false = !(x && (!o && (!u || g))) := by subst h2 h3; revert h; cases x <;> simp
theorem bad4 {x o u g : Bool} (h : (!x) = false) (h2 : o = false) (h3 : u = true) : (!g) = !(x && (!o && (!u || g))) := by subst h2 h3; revert h; cases x <;> simp
structure v0h (n : Int) (v : Vl) (r : Vr) (k : Nat) : Prop where
 er : errT (a0b (a0c (numT v.neg (numX r.x k).1 (numX r.x k).2))).length (numl (a0b (a0c (numT v.neg (numX r.x k).1 (numX r.x k).2)))) = 0
 rt : ratL (a0b (a0c (numT v.neg (numX r.x k).1 (numX r.x k).2))) = ratX r.x k
 ok : a1t (ratX r.x k)
 out : outQ n 1 (ratX r.x k) = strR n (g0e (fmt n) r.x k)
 eq : errQ n 1 = 0
 pat : b0m n (strR n (g0e (fmt n) r.x k)) = 0
 ref : refD n (strR n (g0e (fmt n) r.x k)) = g0e (fmt n) r.x k
 same : decide (v.cls = (decP n (strR n (g0e (fmt n) r.x k))).cls ∧ v.neg = (decP n (strR n (g0e (fmt n) r.x k))).neg ∧ v.pow = (decP n (strR n (g0e (fmt n) r.x k))).pow ∧ v.d = (decP n (strR n (g0e (fmt n) r.x k))).d) = okX (fmt n) r.x k
 len : (dig B32 (decP n (strR n (g0e (fmt n) r.x k))).d).length ≤ 1000
theorem r1w {n : Int} {s : ByteArray} {k : Nat} (h0 : b0m n s = 0) (hc : (refD n s).cls = 2) (hin : a0x (refD n s).x (fmt n).g = true) (hk : 1 ≤ k ∧ k ≤ 60) : v0h n (decP n s) (refD n s) k := by
 have hn := (b0q.1 h0).1
 have F := (o0a (s := s) hn).ok
 have N := g1i h0 hc
 have A := v0g hn N.x0 F hin hk
 have B := g1m hn N.x0 F hin hk
 have C := g1n hn N.x0 F hin hk
 have D := m0g hn C.1
 have eQ : errQ n 1 = 0 := by unfold errQ; rw [if_pos hn, if_pos (by omega)]
 rw [N.ng] at A
 have hs := k1s h0 D.1 hc (fun h => by rw [D.2] at h ⊢; exact (C.1.c2 h).2.2.2)
 rw [D.2] at hs
 exact ⟨A.1, A.2, B.1, by unfold outQ; rw [if_pos eQ, C.2], eQ, D.1, D.2, hs, (i0g D.1).len⟩
def z0j (f : Fm) (r : Vr) : List Nat := if r.cls = 2 then numT r.neg (numX r.x (i0p f r.x)).1 (numX r.x (i0p f r.x)).2 else k0j r.cls r.neg
def c0k (n : Int) (s : ByteArray) : Int := if b0m n s = 0 then (if (refD n s).cls = 2 ∧ a0x (refD n s).x (fmt n).g = false then 4 else 0) else b0m n s
def e0d (n : Int) (s : ByteArray) : ByteArray := if c0k n s = 0 then a0c (z0j (fmt n) (refD n s)) else a0c []
theorem v0i (n : Int) (s : ByteArray) (w : World) (hT : TabW w) (hP : PowW w) : Calls Tryz.prog 21 #[.int .i64 n, .string s] w fun en w' => en = .returned (.tuple #[.string (e0d n s), .int .i64 (c0k n s)]) ∧ Below w.heap.size w w' := by
 have HD := fun W h => hi0 (l0i n s W h)
 have e1 : b0m n s ≠ 0 → c0k n s = b0m n s ∧ e0d n s = a0c [] := fun h => by
  have h1 : c0k n s = b0m n s := by unfold c0k; rw [if_neg h]
  unfold e0d
  rw [h1, if_neg h]
  exact ⟨rfl, rfl⟩
 have e2 : b0m n s = 0 → (refD n s).cls = 2 → a0x (refD n s).x (fmt n).g = false → c0k n s = 4 ∧ e0d n s = a0c [] := fun h h' h'' => by
  have h1 : c0k n s = 4 := by unfold c0k; rw [if_pos h, if_pos ⟨h', h''⟩]
  unfold e0d
  rw [h1]
  exact ⟨rfl, rfl⟩
 have e3 : b0m n s = 0 → ((refD n s).cls = 2 → a0x (refD n s).x (fmt n).g = true) → c0k n s = 0 ∧ e0d n s = a0c (z0j (fmt n) (refD n s)) := fun h h' => by
  have h1 : c0k n s = 0 := by unfold c0k; rw [if_pos h, if_neg (fun k => by have := h' k.1; rw [k.2] at this; cases this)]
  unfold e0d
  rw [h1]
  exact ⟨rfl, rfl⟩
 have hV := fun h => i0g (n := n) (s := s) h
 have hF : b0m n s = 0 → VrOk (refD n s) := fun h => (o0a (n := n) (s := s) (b0q.1 h).1).ok
 have hN := fun h h2 => g1i (n := n) (s := s) h h2
 have hG : b0m n s = 0 → d0r (fmt n).g := fun h => b0x (b0w (b0q.1 h).1).g
 have hB := fun (h : b0m n s = 0) h2 h3 k hk => r1w (k := k) h h2 h3 hk
 have hS : b0m n s = 0 → (refD n s).cls = 2 → a0x (refD n s).x (fmt n).g = true → _ := fun h h2 h3 => x0e (f := fmt n) (x := (refD n s).x) (b0w (b0q.1 h).1).g (o1c (b0q.1 h).1) (hF h).bare h3 (hN h h2).x0
 unfold z0j at e3
 generalize refD n s = r at *
 generalize decP n s = v at *
 generalize c0k n s = eo at *
 generalize e0d n s = oo at *
 generalize b0m n s = er at *
 have HGr := fun W => hi0 (s0a n W)
 have HW := fun p c b W (h : Own W b .u32 143 p c (dig B32 v.d)) (h2 : 1 ≤ v.cls ∧ v.cls ≤ 5) h3 => hi0 (k1k v p c b W h h2 h3)
 have HV := fun p c b W (h : Own W b .u32 143 p c (dig B32 v.d)) h2 => hi0 (b1g n v p c b W h h2)
 have HFt := fun (N : NumV (fmt n) v r) (G : d0r (fmt n).g) p q c d W h1 h2 => hi0 (n0y v.neg p q c d v.d 1 (wid (fmt n).g * v.pow) (fmt n).g 1 W h1 h2 (by have := N.len; omega) (Nat.le_trans ((a0e a0a 1 1).2 (by decide)) (by omega)) N.d0 (by omega) (by have := N.e; omega) G (by omega) (by omega))
 have hX := fun (N : NumV (fmt n) v r) (G : d0r (fmt n).g) => a1u (s := v.neg) (e := wid (fmt n).g * v.pow) (way := 1) N.d0 G
 have hbx : er = 0 → r.cls = 2 → bare ⟨v.neg, v.d, wid (fmt n).g * v.pow⟩ = r.x := fun h h2 => (hV h).num h2
 have HDc := fun (N : NumV (fmt n) v r) (k : Nat) (hk : 1 ≤ k ∧ k ≤ 60) p q a b b1 b2 W (h1 : Own W b1 .u32 143 p a (dig B32 v.d)) (h2 : Own W b2 .u32 143 q b (dig B32 1)) => hi0 (by
   have h := v0c v.neg v.d (wid (fmt n).g * v.pow) k p q a b b1 b2 W h1 h2 N.d0 (by have := N.len; omega) N.e (by omega)
   rw [N.dec] at h
   exact h : Calls Tryz.prog 67 #[.agg #[.bool v.neg, .slice p (dig B32 v.d).length a, .slice q (dig B32 1).length b, .int .i64 (wid (fmt n).g * v.pow)], .int .i64 (k : Int)] W fun en w' => en = .returned (.tuple #[.string (a0c (numX r.x k).1), .int .i64 (numX r.x k).2]) ∧ Below W.heap.size W w')
 have HNu := fun (F : VrOk r) (N : NumV (fmt n) v r) (k : Nat) (hk : 1 ≤ k ∧ k ≤ 60) W (h : PowW W) => hi0 (by
   have A := k0f (k := k) N.x0 F.len (by omega)
   have B := j1p (k := k) N.x0 F.len ⟨F.lo, F.hi⟩ (by omega)
   exact s0h v.neg (numX r.x k).1 (numX r.x k).2 W (z0g A.2.1) (fun h => by have := A.1; rw [h, List.length_nil] at this; omega) (by omega) (by omega) h)
 have HRa := fun (k : Nat) (B : v0h n v r k) W h => hi0 (by
   have h := v0a (a0c (numT v.neg (numX r.x k).1 (numX r.x k).2)) W h
   rw [B.er, B.rt] at h
   exact h : Calls Tryz.prog 11 #[.string (a0c (numT v.neg (numX r.x k).1 (numX r.x k).2))] W (m0f W 0 (ratX r.x k)))
 have HFq := fun (k : Nat) (B : v0h n v r k) p q c d b1 b2 W h1 h2 h3 => hi0 (by
   have h := z0h n 1 (ratX r.x k) p q c d b1 b2 W h1 h2 B.ok h3
   rw [B.out, B.eq] at h
   exact h)
 have HD2 := fun (k : Nat) (B : v0h n v r k) W h => hi0 (by
   have h := l0i n (strR n (g0e (fmt n) r.x k)) W h
   rw [B.pat] at h
   exact h)
 have HSa := fun (N : NumV (fmt n) v r) (k : Nat) (B : v0h n v r k) p q c d b1 b2 W h1 h2 => hi0 (by
   have h := k1j v (decP n (strR n (g0e (fmt n) r.x k))) p q c d b1 b2 W h1 h2 (by have := N.len; omega) (by have := B.len; omega)
   rw [B.same] at h
   exact h)
 generalize a0h v.neg v.d 1 (wid (fmt n).g * v.pow) (fmt n).g 1 = P at *
 generalize wid (fmt n).g * v.pow = E at *
 obtain ⟨wb, hwb⟩ : ∃ wb : Bool, (k0j v.cls v.neg = [] ↔ wb = false) := ⟨decide (v.cls ≠ 2), by rw [h0u]; simp⟩
 let aA : Box := ⟨40, [.v (.int .i64 ((fmt n).g.rad)), .v (.int .i64 ((fmt n).g.digs)), .v (.int .i64 ((fmt n).g.lo)), .v (.int .i64 ((fmt n).g.hi)), .v (.bool ((fmt n).g.grad))], false⟩
 have I := Inv.start w [tabF, powF] ⟨hT, hP, True.intro⟩
 refine a0g [.v (.int .i64 n), .v (.string s)] I Tryz.func21 ?_
 refine zqo I (fun Al W I => (HD W I.fa.1).out) fun Al W p16 c16 I => ?_
 rcases bTF (er != 0) with f31 | f31
 · refine zb I 31 (er != 0) (true) (f31) fun Al W I => zret I (v := fun Al => .tuple #[Go.Value.string (ByteArray.mk #[]), vI er]) fun Al W I => ?_
   first | (obtain ⟨h1, h2⟩ := e1 (bne_iff_ne.1 f31); rw [h1, h2]; exact ⟨rfl, I.below⟩) | (obtain ⟨h1, h2⟩ := e2 h0 hc (by simpa using hbd.symm); rw [h1, h2]; exact ⟨rfl, I.below⟩)
 refine zb I 31 (er != 0) (false) (f31) fun Al W I => ?_
 have h0 : er = 0 := bne_eq_false_iff_eq.1 f31
 have VR := hV h0
 have F := hF h0
 have G := hG h0
 refine zq I (fun Al W I => (HW p16 c16 _ W I.fa.1 (by rw [VR.cls]; exact F.c) I.fa.2.1).out) fun Al W I => ?_
 rcases bTF (wb) with f36 | f36
 · refine zbin I 36 (.bool true) (fun _ _ _ _ W => ((z0f (v0b _ _) hwb)).trans (congrArg (fun z => Result.ok (Value.bool z) W) (show (wb) = true from f36))) fun Al W I => zret I (v := fun Al => .tuple #[.string (a0c (k0j v.cls v.neg)), vI 0]) fun Al W I => ?_
   first | (have hc : r.cls ≠ 2 := fun h => (by have := hwb.1 (h0u.2 (VR.cls.trans h)); rw [this] at f36; cases f36); obtain ⟨q1, q2⟩ := e3 h0 (fun h => absurd h hc); rw [q1, q2, if_neg hc, ← VR.cls, ← VR.neg]; exact ⟨rfl, I.below⟩) | (obtain ⟨h1, h2⟩ := e2 h0 hc (by simpa using hbd.symm); rw [h1, h2]; exact ⟨rfl, I.below⟩)
 refine zbin I 36 (.bool false) (fun _ _ _ _ W => ((z0f (v0b _ _) hwb)).trans (congrArg (fun z => Result.ok (Value.bool z) W) (show (wb) = false from f36))) fun Al W I => ?_
 have hc : r.cls = 2 := by rw [← VR.cls]; exact h0u.1 (hwb.2 f36)
 have N := hN h0 hc
 have hX := hX N G
 rw [hbx h0 hc] at hX
 refine zq I (fun Al W I => (HGr W).out) fun Al W I => zqo I (fun Al W I => have hzW := I.bel.size; (HV p16 c16 _ W I.fa.1 (by have := VR.lo; have := VR.hi; omega)).out) fun Al W q36 d36 I => zqo I (fun Al W I => (HFt N G p16 q36 c16 d36 W I.fa.2.1.rd I.fa.1.rd).out) fun Al W p48 c48 I => zcut I (some 3000010) (fun fr bx gs => ∃ (U1 : Nat → Value) (bd : Bool), fr = (.v (vI n) :: .v (.string s) :: su 2 (.v (Go.Value.string (ByteArray.mk #[])) :: .v (vI 0) :: .p 0 0 :: .v (vI er) :: .v (.string (a0c (k0j v.cls v.neg))) :: .p 1 0 :: .v (U1 10) :: .p 2 0 :: .p 3 0 :: su 5 (.v (U1 18) :: vu :: .v (U1 20) :: su 2 (sw U1 23 8 (.v (.bool false) :: sw U1 32 4 (.v (.bool false) :: sw U1 37 27 (.v (.bool bd) :: sw U1 65 26 (vu :: sw U1 92 8 (vu :: .v (U1 101) :: [])))))))) : List SV) ∧ bx = [⟨66, [.v (vI (v.cls : Int)), .v (.bool v.neg), .v (vS (dig B32 v.d) p16 c16), .v (vI v.pow)], false⟩, aA, ⟨25, [.v (.bool v.neg), .v (vS (dig B32 v.d) p16 c16), .v (vS (dig B32 1) q36 d36), .v (vI E)], false⟩, ⟨116, [.v (.bool P.neg), .v (vS (dig B32 P.d) p48 c48), .v (vI P.pow), .v (.bool P.exact), .v (.bool P.over), .v (.bool P.under)], false⟩] ∧ gs = [ownF w.heap.size .u32 143 p48 c48 (dig B32 P.d), ownF w.heap.size .u32 143 q36 d36 (dig B32 1), ownF w.heap.size .u32 143 p16 c16 (dig B32 v.d), tabF, powF] ∧ (bd = !a0x r.x (fmt n).g)) ?_ ?_
 · intro J hJ Al W I
   rcases bTF (!P.exact) with f51 | f51
   · refine zb I 51 (!P.exact) (true) (f51) fun Al W I => a0r I J fun Al W U I => hJ _ _ _ _ _ ⟨U, true, rfl, rfl, rfl, (by rw [← hX]; unfold okP; exact bad1 f51)⟩ (I.pick [0, 1, 2, 3, 4])
   refine zb I 51 (!P.exact) (false) (f51) fun Al W I => ?_
   rcases bTF (P.over) with f54 | f54
   · refine zb I 54 (P.over) (true) (f54) fun Al W I => a0r I J fun Al W U I => hJ _ _ _ _ _ ⟨U, true, rfl, rfl, rfl, (by rw [← hX]; unfold okP; first | exact bad1 f51 | exact bad2 f54)⟩ (I.pick [0, 1, 2, 3, 4])
   refine zb I 54 (P.over) (false) (f54) fun Al W I => ?_
   rcases bTF (P.under) with f58 | f58
   · refine zb I 58 (P.under) (true) (f58) fun Al W I => a0r I J fun Al W U I => hJ _ _ _ _ _ ⟨U, !((fmt n).g.grad), rfl, rfl, rfl, (by rw [← hX]; unfold okP; first | exact bad1 f51 | exact bad2 f54 | exact bad3 f51 f54 f58 | exact bad4 f51 f54 f58)⟩ (I.pick [0, 1, 2, 3, 4])
   refine zb I 58 (P.under) (false) (f58) fun Al W I => a0r I J fun Al W U I => hJ _ _ _ _ _ ⟨U, false, rfl, rfl, rfl, (by rw [← hX]; unfold okP; first | exact bad1 f51 | exact bad2 f54 | exact bad3 f51 f54 f58 | exact bad4 f51 f54 f58)⟩ (I.pick [0, 1, 2, 3, 4])
 rintro _ _ _ ⟨U1, bd, rfl, rfl, rfl, hbd⟩ Al W I
 refine zcut I (some 2000064) (fun fr bx gs => ∃ (U2 : Nat → Value) , fr = (.v (vI n) :: .v (.string s) :: su 2 (sw U2 4 2 (.p 0 0 :: .v (vI er) :: .v (.string (a0c (k0j v.cls v.neg))) :: .p 1 0 :: .v (U2 10) :: .p 2 0 :: .p 3 0 :: su 5 (.v (U2 18) :: vu :: .v (U2 20) :: su 2 (sw U2 23 8 (.v (.bool false) :: sw U2 32 4 (.v (.bool false) :: sw U2 37 27 (.v (.bool bd) :: sw U2 65 26 (vu :: sw U2 92 8 (vu :: .v (U2 101) :: []))))))))) : List SV) ∧ bx = [⟨66, [.v (vI (v.cls : Int)), .v (.bool v.neg), .v (vS (dig B32 v.d) p16 c16), .v (vI v.pow)], false⟩, aA, ⟨25, [.v (.bool v.neg), .v (vS (dig B32 v.d) p16 c16), .v (vS (dig B32 1) q36 d36), .v (vI E)], false⟩, ⟨116, [.v (.bool P.neg), .v (vS (dig B32 P.d) p48 c48), .v (vI P.pow), .v (.bool P.exact), .v (.bool P.over), .v (.bool P.under)], false⟩] ∧ gs = [ownF w.heap.size .u32 143 p48 c48 (dig B32 P.d), ownF w.heap.size .u32 143 q36 d36 (dig B32 1), ownF w.heap.size .u32 143 p16 c16 (dig B32 v.d), tabF, powF] ∧ (a0x r.x (fmt n).g = true)) ?_ ?_
 · intro J hJ Al W I
   rcases bTF bd with rfl | rfl
   · refine zret I (v := fun Al => .tuple #[Go.Value.string (ByteArray.mk #[]), vI 4]) fun Al W I => ?_
     first | (have hc : r.cls ≠ 2 := fun h => (by have := hwb.1 (h0u.2 (VR.cls.trans h)); rw [this] at f36; cases f36); obtain ⟨q1, q2⟩ := e3 h0 (fun h => absurd h hc); rw [q1, q2, if_neg hc, ← VR.cls, ← VR.neg]; exact ⟨rfl, I.below⟩) | (obtain ⟨h1, h2⟩ := e2 h0 hc (by simpa using hbd.symm); rw [h1, h2]; exact ⟨rfl, I.below⟩)
   exact a0r I J fun Al W U I => hJ _ _ _ _ _ ⟨U, rfl, rfl, rfl, (by simpa using hbd.symm)⟩ (I.pick [0, 1, 2, 3, 4])
 rintro _ _ _ ⟨U2, rfl, rfl, rfl, hin⟩ Al W I
 obtain ⟨s1, s2, s3, s4⟩ := hS h0 hc hin
 have hB := hB h0 hc hin
 refine o0h I (fun gk fr bx gs => ∃ (U900 : Nat → Value) (k : Nat), fr = (.v (.int .i64 n) :: .v (.string s) :: su 2 (sw U900 4 2 (.p 0 0 :: .v (.int .i64 er) :: .v (.string (a0c (k0j v.cls v.neg))) :: .p 1 0 :: .v (U900 10) :: .p 2 0 :: .p 3 0 :: .v (.int .i64 (k : Int)) :: sw U900 14 17 (.v (.bool false) :: sw U900 32 4 (.v (.bool false) :: sw U900 37 27 (.v (.bool bd) :: sw U900 65 37 []))))) : List SV) ∧ bx = [⟨66, [.v (.int .i64 (v.cls : Int)), .v (.bool v.neg), .v (.slice p16 (dig B32 v.d).length c16), .v (.int .i64 v.pow)], false⟩, aA, ⟨25, [.v (.bool v.neg), .v (.slice p16 (dig B32 v.d).length c16), .v (.slice q36 (dig B32 1).length d36), .v (.int .i64 E)], false⟩, ⟨116, [.v (.bool P.neg), .v (.slice p48 (dig B32 P.d).length c48), .v (.int .i64 P.pow), .v (.bool P.exact), .v (.bool P.over), .v (.bool P.under)], false⟩] ∧ gs = [ownF w.heap.size .u32 143 p48 c48 (dig B32 P.d), ownF w.heap.size .u32 143 q36 d36 (dig B32 1), ownF w.heap.size .u32 143 p16 c16 (dig B32 v.d), tabF, powF] ∧ (1 ≤ k ∧ k ≤ i0p (fmt n) r.x) ∧ (gk + k = 31)) 30 (fun Al W U I => ⟨_, ⟨U, 1, rfl, rfl, rfl, (by omega), rfl⟩, I.pick [0, 1, 2, 3, 4]⟩) ?_
 rintro J0 gk0 _ _ _ ⟨U900, k, rfl, rfl, rfl, hk1, hgk⟩ hJ0 Al W I
 have B := hB k (by omega)
 refine zq I (fun Al W I => have hzW := I.bel.size; (HDc N k (by omega) p16 q36 c16 d36 _ _ W I.fa.2.2.1 I.fa.2.1).out) fun Al W I => zq I (fun Al W I => have hzW := I.bel.size; (HNu F N k (by omega) W I.fa.2.2.2.2.1).out) fun Al W I => zg I (fun Al W I => (HRa k B W I.fa.2.2.2.1).out) fun Al V Iv _ hB _ kz => ?_
 rintro _ W ⟨p80, c80, q80, d80, rfl, o80, r80, hb⟩
 refine ⟨_, rfl, kz _ _ hb fun I => ?_⟩
 have I := I.own o80
 have I := I.own r80
 refine zq I (fun Al W I => (HFq k B p80 q80 c80 d80 _ _ W I.fa.2.1 I.fa.1 I.fa.2.2.2.2.2.1).out) fun Al W I => zqo I (fun Al W I => (HD2 k B W I.fa.2.2.2.2.2.1).out) fun Al W p95 c95 I => ?_
 by_cases f100 : okX (fmt n) r.x k = true
 · refine zqd I (fun Al W I => (HSa N k B p16 p95 c16 c95 _ _ W I.fa.2.2.2.2.2.1 I.fa.1).out) (show (okX (fmt n) r.x k) = true from f100) fun Al W I => zret I (v := fun Al => .tuple #[.string (a0c (numT v.neg (numX r.x k).1 (numX r.x k).2)), vI 0]) fun Al W I => ?_
   first | (have hc : r.cls ≠ 2 := fun h => (by have := hwb.1 (h0u.2 (VR.cls.trans h)); rw [this] at f36; cases f36); obtain ⟨q1, q2⟩ := e3 h0 (fun h => absurd h hc); rw [q1, q2, if_neg hc, ← VR.cls, ← VR.neg]; exact ⟨rfl, I.below⟩) | (obtain ⟨h1, h2⟩ := e2 h0 hc (by simpa using hbd.symm); rw [h1, h2]; exact ⟨rfl, I.below⟩) | (have hkk : k = i0p (fmt n) r.x := (by rcases Nat.lt_or_ge k (i0p (fmt n) r.x) with h | h; (have := s4 k hk1.1 h; rw [this] at f100; cases f100); omega); obtain ⟨q1, q2⟩ := e3 h0 (fun _ => hin); rw [q1, q2, if_pos hc, ← VR.neg, hkk]; exact ⟨rfl, I.below⟩)
 refine zqd I (fun Al W I => (HSa N k B p16 p95 c16 c95 _ _ W I.fa.2.2.2.2.2.1 I.fa.1).out) (show (okX (fmt n) r.x k) = false from (by simpa using f100)) fun Al W I => zi I 66 .i64 ((k : Int) + 1) (((k + 1 : Nat) : Int)) ((by rw [show ((k : Int) + 1) = ((k + 1 : Nat) : Int) by omega]; exact iwo)) fun Al W I => q1o 4 I J0 fun Al W U I => hJ0 (gk0 - 1) _ _ _ _ _ ((by omega)) ⟨U, k + 1, rfl, rfl, rfl, (by have : k ≠ i0p (fmt n) r.x := fun h => (f100 (by rw [h]; exact s3)).elim; omega), (by omega)⟩ (I.pick [3, 4, 5, 6, 7])
theorem o0b : c0e 2 1 [48, 46, 49] = 0 ∧ flP' 2 1 [48, 46, 49] = 1 ∧ 0 < (ratL [48, 46, 49]).2.1 ∧ 0 < (ratL [48, 46, 49]).2.2.1 := by decide +kernel
theorem g1o : (fitQ 2 (ratL [48, 46, 49]) 1).1.cls = 2 ∧ (fitQ 2 (ratL [48, 46, 49]) 1).1.neg = false ∧ (fitQ 2 (ratL [48, 46, 49]) 1).1.x.neg = false ∧ (fitQ 2 (ratL [48, 46, 49]) 1).1.x.m = 3602879701896397 ∧ (fitQ 2 (ratL [48, 46, 49]) 1).1.x.e = -55 := by decide +kernel
theorem x0r : a0x ⟨false, 3602879701896397, -55⟩ (fmt 2).g = true ∧ z0j (fmt 2) ⟨2, false, ⟨false, 3602879701896397, -55⟩⟩ = [49, 101, 45, 49] := by decide +kernel
theorem g1p : c0k 2 (outP 2 1 [48, 46, 49]) = 0 ∧ e0d 2 (outP 2 1 [48, 46, 49]) = a0c [49, 101, 45, 49] := by
 obtain ⟨a1, a2, a3, a4⟩ := o0b
 obtain ⟨b1, b2, b3, b4, b5⟩ := g1o
 obtain ⟨c1, c2⟩ := x0r
 have hn : IsFm 2 := by decide
 have R := (g0l (b0w hn) (neg := (ratL [48, 46, 49]).1) (num := (ratL [48, 46, 49]).2.1) (e := (ratL [48, 46, 49]).2.2.2) (way := 1) a4).1
 have hf : (fitQ 2 (ratL [48, 46, 49]) 1).1 = ((fmt 2).placedM (a0h (ratL [48, 46, 49]).1 (ratL [48, 46, 49]).2.1 (ratL [48, 46, 49]).2.2.1 (ratL [48, 46, 49]).2.2.2 (fmt 2).g 1) 1).1 := by
  unfold fitQ
  rw [if_neg (by omega)]
 rw [← hf] at R
 have hx : (fitQ 2 (ratL [48, 46, 49]) 1).1 = ⟨2, false, ⟨false, 3602879701896397, -55⟩⟩ := by
  generalize (fitQ 2 (ratL [48, 46, 49]) 1).1 = r at *
  obtain ⟨k, g, h, m, e⟩ := r
  simp only at b1 b2 b3 b4 b5
  rw [b1, b2, b3, b4, b5]
 rw [hx] at R
 have hP : outP 2 1 [48, 46, 49] = strR 2 ⟨2, false, ⟨false, 3602879701896397, -55⟩⟩ := by unfold outP; rw [if_pos a1, hx]
 obtain ⟨d1, d2⟩ := m0g hn R
 have he : c0k 2 (strR 2 ⟨2, false, ⟨false, 3602879701896397, -55⟩⟩) = 0 := by
  unfold c0k
  rw [if_pos d1, d2, if_neg (fun h => by have := h.2; rw [show (⟨2, false, ⟨false, 3602879701896397, -55⟩⟩ : Vr).x = ⟨false, 3602879701896397, -55⟩ from rfl, c1] at this; cases this)]
 rw [hP]
 refine ⟨he, ?_⟩
 unfold e0d
 rw [if_pos he, d2, c2]
theorem s0m (w : World) (hT : TabW w) (hP : PowW w) : Calls Tryz.prog 13 #[] w fun en w' => en = .returned (.bool true) ∧ Below w.heap.size w w' := by
 have HA := fun W h => hi0 (p0z 2 ⟨#[48, 46, 49]⟩ 1 W h)
 have HS := fun s W h h2 => hi0 (v0i 2 s W h h2)
 obtain ⟨a1, a2, _, _⟩ := o0b
 obtain ⟨b1, b2⟩ := g1p
 rw [show a0b ⟨#[48, 46, 49]⟩ = [48, 46, 49] from rfl, a1, a2, show ((1 : Nat) : Int) = 1 from rfl] at HA
 generalize outP 2 1 [48, 46, 49] = S at *
 have HS := HS S
 rw [b1, b2] at HS
 have I := Inv.start w [tabF, powF] ⟨hT, hP, True.intro⟩
 refine a0g [] I Tryz.func13 ?_
 refine zq I (fun Al W I => (HA W I.fa.1).out) fun Al W I => zq I (fun Al W I => (HS W I.fa.1 I.fa.2.1).out) fun Al W I => zbin I 28 _ (fun _ _ _ _ _ => (m0c (s := a0c [49, 101, 45, 49]) (r := ⟨#[49, 101, 45, 49]⟩) (iff_of_true rfl rfl))) fun Al W I => zrb I
end Go.Proofs.YtbamiajjampgnaaGreatDoor
namespace Go.Slip
open Go.RowKit
end Go.Slip
namespace Go.Proofs.YtbamiajjampgnaaGreatDoor
open Go.RowKit Go.Slip
structure Wp where
 r : Vr
 p : OA
 c : Nat
def Wp.cells (x : Wp) : List Value := [.int .i64 (x.r.cls : Int), .bool x.r.neg, .bool x.r.x.neg, .slice x.p (dig B16 x.r.x.m).length x.c, .int .i64 x.r.x.e]
theorem Wp.len (x : Wp) : x.cells.length = 5 := rfl
theorem g1q {n way : Int} {L : List ByteArray} {R : Vr × Nat} {w : World} {fn : FuncId} {args : Array Value} (h : Calls Tryz.prog fn args w (s0l n way L R w)) :
 Calls Tryz.prog fn args w fun en w' => en = .returned (.tuple #[.string (outS n way L R), .int .i64 ((outF n way L R : Nat) : Int), .int .i64 (errR n way L)]) ∧ Below w.heap.size w w' := by
 refine h.mono fun en w' hh => ⟨?_, hh.2⟩
 unfold outS outF
 have := hh.1
 by_cases h0 : errR n way L = 0
 · rw [if_pos h0] at this ⊢; rw [if_pos h0]; exact this
 · rw [if_neg h0] at this ⊢; rw [if_neg h0]; exact this
end Go.Proofs.YtbamiajjampgnaaGreatDoor
namespace Go.Slip
theorem s1t (n : Int) : bits .and .i64 n 4611686018427387903 = n % 4611686018427387904 := by
 have h1 : (BitVec.ofInt 64 4611686018427387903).toNat = 2 ^ 62 - 1 := by decide
 have h2 : (BitVec.ofInt 64 n).toNat = (n % 18446744073709551616).toNat := by rw [BitVec.toNat_ofInt]; rfl
 have key : (BitVec.ofInt 64 n &&& BitVec.ofInt 64 4611686018427387903).toNat = (n % 4611686018427387904).toNat := by
  rw [BitVec.toNat_and, h2, h1, Nat.and_two_pow_sub_one_eq_mod]
  omega
 show IntKind.i64.wrap ((BitVec.ofInt 64 n &&& BitVec.ofInt 64 4611686018427387903).toNat : Nat) = _
 rw [key, Int.toNat_of_nonneg (by omega)]
 exact iwo
def intD (n : Int) : Dv := norm n 0
theorem s0n (m : Nat) (e : Int) : bare ⟨false, m, e⟩ = norm (m : Int) e := (f0v false m e).symm
theorem l0m (a b : Int) (j k : Nat) : e0r (norm a j) (norm b k) = norm (a * 2 ^ j + b * 2 ^ k) 0 := by
 have h : ∀ (c : Int) (i : Nat), (0 : Int) ≤ (norm c i).e ∧ zOf (norm c i) 0 = c * 2 ^ i := fun c i => by
  have e : norm c (i : Int) = norm (c * 2 ^ i) 0 := by rw [o0z]; congr 1; omega
  rw [e]
  exact ⟨q1f _ (Int.le_refl 0), r0g _ _⟩
 rw [l0d _ _ (h a j).1 (h b k).1, (h a j).2, (h b k).2]
end Go.Slip
namespace Go.Proofs.YtbamiajjampgnaaGreatDoor
open Go.RowKit Go.Slip
theorem k1t (n : Int) (v : Vl) (r : Vr) (p : OA) (c b0 : Nat) (w : World) (hn : IsFm n) (hp : Own w b0 .u32 143 p c (dig B32 v.d)) (V : VRep (fmt n) v r) (R : VrOk r) (hT : TabW w) :
 Calls Tryz.prog 100 #[.int .i64 n, .agg #[.int .i64 (v.cls : Int), .bool v.neg, .slice p (dig B32 v.d).length c, .int .i64 v.pow]] w (g0g w w.heap.size r.x) := by
 have HG := fun W => hi0 (s0a n W)
 have h0 : c0h n = 0 := by unfold c0h; rw [if_pos hn]
 rw [h0] at HG
 generalize fmt n = f at *
 have hx : bare ⟨v.neg, v.d, wid f.g * v.pow⟩ = r.x := by
  by_cases h2 : r.cls = 2
  · exact V.num h2
  · rw [R.x0 h2, (V.oth h2).1]; rfl
 have hl := V.len
 have hlo := V.lo
 have hhi := V.hi
 have wp := b0f f.g
 have hmu := u0c (wd := wid f.g) (k := v.pow) (B := 20000) wp.2 ⟨hlo, hhi⟩
 rw [← hx, ← t0k]
 clear hx R V h0
 have hwd : wid f.g = if f.g.rad = 16 then 4 else 1 := rfl
 generalize hmw : (wid f.g : Int) * v.pow = mw at *
 have HMW := hi0 hmw
 have HH := fun W (c : Nat) h1 h0 h2 => hi0 (n0i p _ c mw v.d W h1 rfl h0 (by omega) (by omega) h2)
 clear hmw
 generalize bare ⟨false, v.d, mw⟩ = d at *
 obtain ⟨rb, hrb⟩ : ∃ b, (f.g.rad == 16) = b := ⟨_, rfl⟩
 have HRB := hi0 hrb
 have h4 : rb = true → (4 : Int) = ((wid f.g : Nat) : Int) := fun h => by rw [h] at hrb; rw [hwd, if_pos (beq_iff_eq.1 hrb)]; rfl
 have h1 : rb = false → (1 : Int) = ((wid f.g : Nat) : Int) := fun h => by rw [h] at hrb; rw [hwd, if_neg (bnF hrb)]; rfl
 clear hrb hwd
 have I := Inv.start w [ownF b0 .u32 143 p c (dig B32 v.d), tabF] ⟨hp, hT, True.intro⟩
 refine a0g [.v (.int .i64 n), .v (.agg #[.int .i64 (v.cls : Int), .bool v.neg, .slice p (dig B32 v.d).length c, .int .i64 v.pow])] I Tryz.func100 ?_
 refine zq I (fun Al W I => (HG W).out) fun Al W I => zb I 16 (f.g.rad == 16) (rb) (HRB.out) fun Al W I => zcut I (some 2000016) (fun fr bx gs => ∃ (U1 : Nat → Value) (k1 : Int), fr = (.v (vI n) :: .v (.agg #[vI (v.cls : Int), .bool v.neg, vS (dig B32 v.d) p c, vI v.pow]) :: vu :: .p 0 0 :: .p 1 0 :: .p 2 0 :: .v (U1 6) :: .v (vI k1) :: vu :: sw U1 9 7 (.v (.bool rb) :: sw U1 17 8 (vu :: sw U1 26 3 [])) : List SV) ∧ bx = [⟨66, [.v (vI (v.cls : Int)), .v (.bool v.neg), .v (vS (dig B32 v.d) p c), .v (vI v.pow)], false⟩, ⟨150, [.v (.bool false), .v (.slice none 0 0), .v (vI 0)], false⟩, ⟨40, [.v (vI f.g.rad), .v (vI f.g.digs), .v (vI f.g.lo), .v (vI f.g.hi), .v (.bool f.g.grad)], false⟩] ∧ gs = [ownF b0 .u32 143 p c (dig B32 v.d), tabF] ∧ (k1 = ((wid f.g : Nat) : Int))) ?_ ?_
 · intro J hJ Al W I
   rcases bTF rb with rfl | rfl
   · exact a0r I J fun Al W U I => hJ _ _ _ _ _ ⟨U, 4, rfl, rfl, rfl, h4 rfl⟩ (I.pick [0, 1])
   exact a0r I J fun Al W U I => hJ _ _ _ _ _ ⟨U, 1, rfl, rfl, rfl, h1 rfl⟩ (I.pick [0, 1])
 rintro _ _ _ ⟨U1, k1, rfl, rfl, rfl, hk1⟩ Al W I
 refine zi I 22 .i64 (k1 * v.pow) (mw) ((by rw [hk1, HMW.out]; exact iwo)) fun Al W I => zqo I (fun Al W I => (HH W c I.fa.1.rd I.fa.1.le_cap I.fa.2.1).out) fun Al W p23 c23 I => ?_
 by_cases ng : v.neg = true
 · refine zb I 25 (v.neg) (true) (ng) fun Al W I => zq I (fun Al W I => w0s d.neg p23 _ c23 d.e d.m W rfl) fun Al W I => ?_
   rw [if_pos ng]
   exact zret I fun Al W I => ⟨p23, c23, rfl, I.fa.1.mono (by omega), I.below⟩
 refine zb I 25 (v.neg) (false) ((by simpa using ng)) fun Al W I => ?_
 rw [if_neg ng]
 exact zret I fun Al W I => ⟨p23, c23, rfl, I.fa.1.mono (by omega), I.below⟩
end Go.Proofs.YtbamiajjampgnaaGreatDoor
