/- grid: Round. -/
import Derived.Deep.LoopGhost
import Derived.Lib.Strings
import Derived.Lib.Slices
import Derived.Lib.Small
import Derived.Lib.Walk
import Derived.Lib.BitFns
import Derived.Carry
import Derived.Outline
import Derived.Test.YtbamiajjampgnaaGreatDoorTRb1
import Derived.Test.YtbamiajjampgnaaGreatDoorTRb2
import Derived.Test.YtbamiajjampgnaaGreatDoorTRb3
import Derived.Test.YtbamiajjampgnaaGreatDoorTRb4
import Derived.Test.YtbamiajjampgnaaGreatDoorTRb5
set_option maxHeartbeats 8000000
set_option maxRecDepth 100000
namespace Go.Proofs.YtbamiajjampgnaaGreatDoor
open Go.RowKit Go.Slip
structure Rin where
 g : Bool
 p : Option Addr
 c : Nat
 xs : List Nat
 q : Option Addr
 d : Nat
 ys : List Nat
 e : Int
structure InR (w : World) (a : Rin) : Prop where
 r1 : Rd w .u32 a.p a.xs
 l1 : a.xs.length ≤ 9223372036854775807
 b1 : ∀ x ∈ a.xs, x < B32
 r2 : Rd w .u32 a.q a.ys
 l2 : a.ys.length ≤ 9223372036854775807
 b2 : ∀ x ∈ a.ys, x < B32
theorem InR.past {w w' : World} {a : Rin} (h : InR w a) (hb : Below w.heap.size w w') : InR w' a := ⟨h.r1.past hb, h.l1, h.b1, h.r2.past hb, h.l2, h.b2⟩
def e0x (a : Rin) : Int := if b0m a.xs ≠ 0 then b0m a.xs else if b0m a.ys ≠ 0 then b0m a.ys else if a.ys.length = 0 ∨ a.e < -20000 ∨ 20000 < a.e then 3 else 0
def c0e (a : Rin) (g : Gd) (way : Int) : Int := if e0x a ≠ 0 then e0x a else if errG g ≠ 0 then errG g else if way < 1 ∨ 5 < way then 6 else 0
def p1z : Pl := ⟨false, 0, 0, false, false, false⟩
def j0r (a : Rin) (g : Gd) (way : Int) : Pl := if c0e a g way = 0 then a0q a.g (val B32 a.xs) (val B32 a.ys) a.e g way else p1z
def w0q (w : World) (d : Pl) (er : Int) (en : Ending) (w' : World) : Prop :=
 ∃ p c, en = .returned (.tuple #[.agg #[.bool d.neg, .slice p (dig B32 d.d).length c, .int .i64 d.pow, .bool d.exact, .bool d.over, .bool d.under], .int .i64 er]) ∧ Own w' w.heap.size .u32 143 p c (dig B32 d.d) ∧ Below w.heap.size w w'
theorem d0g {w wk : World} {b : Nat} {er : Int} {v3 : Bool} {d : Pl} (hd : d = ⟨false, 0, 0, v3, false, false⟩) (hs : Below w.heap.size w wk) (hB : w.heap.size ≤ b) :
 w0q w d er (.returned (.tuple #[.agg #[.bool false, .slice none 0 0, .int .i64 0, .bool v3, .bool false, .bool false], .int .i64 er]))
  ((((((wk.setCell ⟨b, 0, none⟩ (.bool false)).setCell ⟨b, 1, none⟩ (.slice none 0 0)).setCell ⟨b, 2, none⟩ (.int .i64 0)).setCell ⟨b, 3, none⟩ (.bool v3)).setCell ⟨b, 4, none⟩ (.bool false)).setCell ⟨b, 5, none⟩ (.bool false)) := by
 subst hd
 exact ⟨none, 0, by rw [a0d]; rfl, by simp only [a0d]; exact Own.nil _ _ _ _, hs.trans ((q0r wk b _ _ _ _ _ _).below hB)⟩
theorem s0d {w wk : World} {b base : Nat} {er : Int} {d : Pl} {p : Option Addr} {c : Nat} (hs : Below w.heap.size w wk) (ho : Own wk base .u32 143 p c (dig B32 d.d)) (hb : w.heap.size ≤ base) (hB : w.heap.size ≤ b) (hne : p.isSome = true → blk p ≠ b) :
 w0q w d er (.returned (.tuple #[.agg #[.bool d.neg, .slice p (dig B32 d.d).length c, .int .i64 d.pow, .bool d.exact, .bool d.over, .bool d.under], .int .i64 er]))
  ((((((wk.setCell ⟨b, 0, none⟩ (.bool d.neg)).setCell ⟨b, 1, none⟩ (.slice p (dig B32 d.d).length c)).setCell ⟨b, 2, none⟩ (.int .i64 d.pow)).setCell ⟨b, 3, none⟩ (.bool d.exact)).setCell ⟨b, 4, none⟩ (.bool d.over)).setCell ⟨b, 5, none⟩ (.bool d.under)) :=
 ⟨p, c, rfl, (ho.only (q0r wk b _ _ _ _ _ _) hne).mono hb, hs.trans ((q0r wk b _ _ _ _ _ _).below hB)⟩
theorem u0e (a : Rin) (g : Gd) (way : Int) (w : World) (ha : InR w a) :
 Calls Tryz.prog 125 #[.agg #[.bool a.g, .slice a.p a.xs.length a.c, .slice a.q a.ys.length a.d, .int .i64 a.e], .agg #[.int .i64 g.rad, .int .i64 g.digs, .int .i64 g.lo, .int .i64 g.hi, .bool g.grad], .int .i64 way] w (w0q w (j0r a g way) (c0e a g way)) := by
 obtain ⟨er, her⟩ : ∃ er, c0e a g way = er := ⟨_, rfl⟩
 obtain ⟨rv, hrv⟩ : ∃ rv, j0r a g way = rv := ⟨_, rfl⟩
 rw [her, hrv]
 have HER := hi0 her
 have HRV := hi0 hrv
 clear her hrv
 have hz0 : er ≠ 0 → rv = p1z := fun h => by rw [← HRV.out]; unfold j0r; rw [HER.out, if_neg h]
 have HZ0 := hi0 hz0
 clear hz0
 have HCG := fun W => hi0 (r0z g W)
 have HCX := fun W (h : Rd W .u32 a.p a.xs) => hi0 (h0k a.p a.xs.length a.c a.xs W h rfl ha.l1)
 have HCY := fun W (h : Rd W .u32 a.q a.ys) => hi0 (h0k a.q a.ys.length a.d a.ys W h rfl ha.l2)
 obtain ⟨e1, he1⟩ : ∃ e1, b0m a.xs = e1 := ⟨_, rfl⟩
 obtain ⟨e2, he2⟩ : ∃ e2, b0m a.ys = e2 := ⟨_, rfl⟩
 obtain ⟨e3, he3⟩ : ∃ e3, errG g = e3 := ⟨_, rfl⟩
 rw [he1] at HCX
 rw [he2] at HCY
 rw [he3] at HCG
 have HE1 := hi0 he1
 have HE2 := hi0 he2
 have HE3 := hi0 he3
 clear he1 he2 he3
 go_enter Tryz.func125, Tryz.ntmps125
 go_wp2_with fail
 refine l1i (fun W1 hb1 hz1 Q G R L => ?_)
 replace ha := ha.past hb1
 have hs1 := hb1
 go_loopg [9, 10, 18] 2 (fun gk s9 s10 iv wr => ∃ i : Nat, iv = .int .i64 i ∧ gk + i = 2 ∧ Below W1.heap.size W1 wr ∧ Hid (i = 0 ∨ (i = 1 ∧ e1 = 0) ∨ (i = 2 ∧ e1 = 0 ∧ e2 = 0)))
 case atStart => exact ⟨0, rfl, rfl, Below.refl _ _, .inl rfl⟩
 case round =>
  obtain ⟨i, rfl, hgk, hb, HI⟩ := hrel
  have hs2 := hs1.trans (hb.mono hs1.size)
  replace Q := Q.past hb
  replace G := G.past hb
  replace R := R.past hb
  replace L := L.past hb
  replace ha := ha.past hb
  rcases HI.out with rfl | ⟨rfl, h10⟩ | ⟨rfl, h10, h20⟩
  · clear HI
    obtain ⟨L_0, L_1⟩ := L.e2
    go_wp2_with fail
    clear L_0 L_1
    ((with_reducible refine ((HCX _ ha.r1).out).mono ?_))
    rintro e3 w3 ⟨rfl, hb3⟩
    replace Q := Q.past hb3
    replace G := G.past hb3
    replace R := R.past hb3
    replace L := L.past hb3
    replace ha := ha.past hb3
    have hs3 := hs2.trans (hb3.mono hs2.size)
    by_cases h1 : e1 = 0
    · subst h1
      obtain ⟨L_0, L_1⟩ := L.e2
      go_wp2_with fail
      clear L_0 L_1
      go_roundg 1
      case measure => omega
      case rel => exact ⟨1, by go_num, rfl, hb.trans (hb3.mono hb.size), by unfold Hid; simp⟩
    · have t1 : (e1 == 0) = false := bFn h1
      have t2 : (e1 != 0) = true := by rw [bne, t1]; rfl
      have H1 := hi0 h1
      clear h1
      obtain ⟨R_0, R_1, R_2, R_3, R_4, R_5⟩ := R.e6
      have R_f0 := R.f 0
      have R_f1 := R.f 1
      have R_f2 := R.f 2
      have R_f3 := R.f 3
      have R_f4 := R.f 4
      have R_f5 := R.f 5
      go_wp2_with fail
      clear R_0 R_1 R_2 R_3 R_4 R_5 R_f0 R_f1 R_f2 R_f3 R_f4 R_f5
      obtain ⟨R_0, R_1, R_2, R_3, R_4, R_5⟩ := R.e6
      refine bodyPost_ret (v := .tuple #[.agg #[.bool false, .slice none 0 0, .int .i64 0, .bool false, .bool false, .bool false], .int .i64 e1]) (by simp [results, Tryz.results125, go_sem, R_0, R_1, R_2, R_3, R_4, R_5]) rfl ?_
      have e0 : er = e1 := by rw [← HER.out]; unfold c0e e0x; rw [HE1.out, if_pos H1.out, if_pos H1.out]
      subst e0
      exact d0g (HZ0.out H1.out) hs3 (by omega)
  · subst h10
    clear HI
    obtain ⟨L_0, L_1⟩ := L.e2
    go_wp2_with fail
    clear L_0 L_1
    ((with_reducible refine ((HCY _ ha.r2).out).mono ?_))
    rintro e3 w3 ⟨rfl, hb3⟩
    replace Q := Q.past hb3
    replace G := G.past hb3
    replace R := R.past hb3
    replace L := L.past hb3
    replace ha := ha.past hb3
    have hs3 := hs2.trans (hb3.mono hs2.size)
    by_cases h1 : e2 = 0
    · subst h1
      obtain ⟨L_0, L_1⟩ := L.e2
      go_wp2_with fail
      clear L_0 L_1
      go_roundg 0
      case measure => omega
      case rel => exact ⟨2, by go_num, rfl, hb.trans (hb3.mono hb.size), by unfold Hid; simp⟩
    · have t1 : (e2 == 0) = false := bFn h1
      have t2 : (e2 != 0) = true := by rw [bne, t1]; rfl
      have H1 := hi0 h1
      clear h1
      obtain ⟨R_0, R_1, R_2, R_3, R_4, R_5⟩ := R.e6
      have R_f0 := R.f 0
      have R_f1 := R.f 1
      have R_f2 := R.f 2
      have R_f3 := R.f 3
      have R_f4 := R.f 4
      have R_f5 := R.f 5
      go_wp2_with fail
      clear R_0 R_1 R_2 R_3 R_4 R_5 R_f0 R_f1 R_f2 R_f3 R_f4 R_f5
      obtain ⟨R_0, R_1, R_2, R_3, R_4, R_5⟩ := R.e6
      refine bodyPost_ret (v := .tuple #[.agg #[.bool false, .slice none 0 0, .int .i64 0, .bool false, .bool false, .bool false], .int .i64 e2]) (by simp [results, Tryz.results125, go_sem, R_0, R_1, R_2, R_3, R_4, R_5]) rfl ?_
      have e00 : e0x a = e2 := by unfold e0x; rw [HE1.out, HE2.out, if_neg (by simp), if_pos H1.out]
      have e0 : er = e2 := by rw [← HER.out]; unfold c0e; rw [e00, if_pos H1.out]
      subst e0
      exact d0g (HZ0.out H1.out) hs3 (by omega)
  · subst h10 h20
    clear HI
    have HR0 : Hid (e0x a = if a.ys.length = 0 ∨ a.e < -20000 ∨ 20000 < a.e then 3 else 0) := by
     show e0x a = _
     unfold e0x
     rw [HE1.out, HE2.out, if_neg (by simp), if_neg (by simp)]
    by_cases hy : a.ys.length = 0
    · have t1 : ((a.ys.length : Int) == 0) = true := by rw [hy]; rfl
      have e0 : er = 3 := by
       have e00 : e0x a = 3 := HR0.out.trans (if_pos (.inl hy))
       rw [← HER.out]; unfold c0e; rw [e00, if_pos (by omega)]
      subst e0
      clear hy
      obtain ⟨L_0, L_1⟩ := L.e2
      obtain ⟨Q_0, Q_1, Q_2, Q_3⟩ := Q.e4
      go_upto_region 9 with (fail)
      clear L_0 L_1 Q_0 Q_1 Q_2 Q_3
      obtain ⟨R_0, R_1, R_2, R_3, R_4, R_5⟩ := R.e6
      have R_f0 := R.f 0
      have R_f1 := R.f 1
      have R_f2 := R.f 2
      have R_f3 := R.f 3
      have R_f4 := R.f 4
      have R_f5 := R.f 5
      go_wp2_with fail
      clear R_0 R_1 R_2 R_3 R_4 R_5 R_f0 R_f1 R_f2 R_f3 R_f4 R_f5
      obtain ⟨R_0, R_1, R_2, R_3, R_4, R_5⟩ := R.e6
      refine bodyPost_ret (v := .tuple #[.agg #[.bool false, .slice none 0 0, .int .i64 0, .bool false, .bool false, .bool false], .int .i64 3]) (by simp [results, Tryz.results125, go_sem, R_0, R_1, R_2, R_3, R_4, R_5]) rfl ?_
      exact d0g (HZ0.out (by omega)) hs2 (by omega)
    · have t1 : ((a.ys.length : Int) == 0) = false := bFn (by omega)
      by_cases hf : a.e < -20000 ∨ 20000 < a.e
      · have t2 := f0u hf
        have e0 : er = 3 := by
         have e00 : e0x a = 3 := HR0.out.trans (if_pos (.inr hf))
         rw [← HER.out]; unfold c0e; rw [e00, if_pos (by omega)]
        subst e0
        clear hy hf
        obtain ⟨L_0, L_1⟩ := L.e2
        obtain ⟨Q_0, Q_1, Q_2, Q_3⟩ := Q.e4
        go_wp2_with fail
        clear L_0 L_1 Q_0 Q_1 Q_2 Q_3
        ((with_reducible refine ((c0y _ _ _ (by omega))).mono ?_))
        rintro _ _ ⟨rfl, rfl⟩
        obtain ⟨R_0, R_1, R_2, R_3, R_4, R_5⟩ := R.e6
        have R_f0 := R.f 0
        have R_f1 := R.f 1
        have R_f2 := R.f 2
        have R_f3 := R.f 3
        have R_f4 := R.f 4
        have R_f5 := R.f 5
        go_wp2_with fail
        clear R_0 R_1 R_2 R_3 R_4 R_5 R_f0 R_f1 R_f2 R_f3 R_f4 R_f5
        obtain ⟨R_0, R_1, R_2, R_3, R_4, R_5⟩ := R.e6
        refine bodyPost_ret (v := .tuple #[.agg #[.bool false, .slice none 0 0, .int .i64 0, .bool false, .bool false, .bool false], .int .i64 3]) (by simp [results, Tryz.results125, go_sem, R_0, R_1, R_2, R_3, R_4, R_5]) rfl ?_
        exact d0g (HZ0.out (by omega)) hs2 (by omega)
      · have t2 := i0s (n := a.e) (m := 20000) (by omega) (by omega)
        have HR1 : Hid (e0x a = 0) := HR0.out.trans (if_neg (by omega))
        have he1 : -20000 ≤ a.e := by omega
        have he2 : a.e ≤ 20000 := by omega
        have hy1 : 0 < a.ys.length := by omega
        clear hy hf
        obtain ⟨L_0, L_1⟩ := L.e2
        obtain ⟨Q_0, Q_1, Q_2, Q_3⟩ := Q.e4
        go_wp2_with fail
        clear L_0 L_1 Q_0 Q_1 Q_2 Q_3
        ((with_reducible refine ((c0y _ _ _ (by omega))).mono ?_))
        rintro _ _ ⟨rfl, rfl⟩
        obtain ⟨G_0, G_1, G_2, G_3, G_4⟩ := G.e5
        go_wp2_with fail
        clear G_0 G_1 G_2 G_3 G_4
        ((with_reducible refine ((HCG _).out).mono ?_))
        rintro e4 w4 ⟨rfl, hb4⟩
        replace Q := Q.past hb4
        replace G := G.past hb4
        replace R := R.past hb4
        replace L := L.past hb4
        replace ha := ha.past hb4
        have hs4 := hs2.trans (hb4.mono hs2.size)
        by_cases h3 : e3 = 0
        · subst h3
          by_cases hw : way < 1 ∨ 5 < way
          · have t4 := p0t hw
            have e0 : er = 6 := by rw [← HER.out]; unfold c0e; rw [HR1.out, HE3.out, if_neg (by simp), if_neg (by simp), if_pos hw]
            subst e0
            clear hw
            go_wp2_with fail
            ((with_reducible refine (u0d way _).mono ?_))
            rintro e5 w5 ⟨rfl, hb5⟩
            replace Q := Q.past hb5
            replace G := G.past hb5
            replace R := R.past hb5
            replace L := L.past hb5
            replace ha := ha.past hb5
            have hs5 := hs4.trans (hb5.mono hs4.size)
            obtain ⟨R_0, R_1, R_2, R_3, R_4, R_5⟩ := R.e6
            have R_f0 := R.f 0
            have R_f1 := R.f 1
            have R_f2 := R.f 2
            have R_f3 := R.f 3
            have R_f4 := R.f 4
            have R_f5 := R.f 5
            go_wp2_with fail
            clear R_0 R_1 R_2 R_3 R_4 R_5 R_f0 R_f1 R_f2 R_f3 R_f4 R_f5
            obtain ⟨R_0, R_1, R_2, R_3, R_4, R_5⟩ := R.e6
            refine bodyPost_ret (v := .tuple #[.agg #[.bool false, .slice none 0 0, .int .i64 0, .bool false, .bool false, .bool false], .int .i64 6]) (by simp [results, Tryz.results125, go_sem, R_0, R_1, R_2, R_3, R_4, R_5]) rfl ?_
            exact d0g (HZ0.out (by omega)) hs5 (by omega)
          · have t4 := u0c (k := way) (by omega) (by omega)
            have e0 : er = 0 := by rw [← HER.out]; unfold c0e; rw [HR1.out, HE3.out, if_neg (by simp), if_neg (by simp), if_neg hw]
            subst e0
            have hw1 : 1 ≤ way := by omega
            have hw2 : way ≤ 5 := by omega
            clear hw
            go_wp2_with fail
            ((with_reducible refine (u0d way _).mono ?_))
            rintro e5 w5 ⟨rfl, hb5⟩
            replace Q := Q.past hb5
            replace G := G.past hb5
            replace R := R.past hb5
            replace L := L.past hb5
            replace ha := ha.past hb5
            have hs5 := hs4.trans (hb5.mono hs4.size)
            obtain ⟨ex, lx⟩ := e0t ha.b1 HE1.out
            obtain ⟨ey, ly⟩ := e0t ha.b2 HE2.out
            have HRV2 : Hid (rv = a0q a.g (val B32 a.xs) (val B32 a.ys) a.e g way) := by
             show rv = _
             rw [← HRV.out]; unfold j0r; rw [HER.out, if_pos rfl]
            by_cases hx : a.xs.length = 0
            · have t5 : ((a.xs.length : Int) == 0) = true := by rw [hx]; rfl
              have hxs : a.xs = [] := List.eq_nil_of_length_eq_zero hx
              have hrv : rv = ⟨false, 0, 0, true, false, false⟩ := by rw [HRV2.out, hxs]; rfl
              have HRV3 := hi0 hrv
              clear hx hxs hrv ex ey
              obtain ⟨Q_0, Q_1, Q_2, Q_3⟩ := Q.e4
              obtain ⟨R_0, R_1, R_2, R_3, R_4, R_5⟩ := R.e6
              have R_f0 := R.f 0
              have R_f1 := R.f 1
              have R_f2 := R.f 2
              have R_f3 := R.f 3
              have R_f4 := R.f 4
              have R_f5 := R.f 5
              go_wp2_with fail
              clear Q_0 Q_1 Q_2 Q_3 R_0 R_1 R_2 R_3 R_4 R_5 R_f0 R_f1 R_f2 R_f3 R_f4 R_f5
              obtain ⟨R_0, R_1, R_2, R_3, R_4, R_5⟩ := R.e6
              refine bodyPost_ret (v := .tuple #[.agg #[.bool false, .slice none 0 0, .int .i64 0, .bool true, .bool false, .bool false], .int .i64 0]) (by simp [results, Tryz.results125, go_sem, R_0, R_1, R_2, R_3, R_4, R_5]) rfl ?_
              exact d0g HRV3.out hs5 (by omega)
            · have t5 : ((a.xs.length : Int) == 0) = false := bFn (by omega)
              have hnum : 0 < val B32 a.xs := by
               rcases Nat.eq_zero_or_pos (val B32 a.xs) with h | h
               · rw [h, a0d] at ex; rw [ex] at hx; simp at hx
               · exact h
              have hden : 0 < val B32 a.ys := by
               rcases Nat.eq_zero_or_pos (val B32 a.ys) with h | h
               · rw [h, a0d] at ey; rw [ey] at hy1; simp at hy1
               · exact h
              generalize val B32 a.xs = num at *
              generalize val B32 a.ys = den at *
              have GG := c0a HE3.out
              have wp := b0n g
              have hd1 := GG.d1
              have HF := fun W h1 h2 => hi0 (s0c a.g a.p a.q a.c a.d num den a.e g way _ W h1 h2 (by rw [← ex]; omega) (by rw [← ey]; omega) hnum hden ⟨by omega, by omega⟩ GG hw1 hw2 (j0m hnum hden a.e (by omega) (by omega)))
              have hrv : fitK a.g num den a.e g way (theK num den a.e (wid g) g.digs.toNat) = rv := by rw [HRV2.out]; unfold a0q; rw [if_neg (by omega)]
              rw [hrv, ← ex, ← ey] at HF
              clear hrv ex ey hx GG hd1 wp hnum hden
              obtain ⟨Q_0, Q_1, Q_2, Q_3⟩ := Q.e4
              obtain ⟨G_0, G_1, G_2, G_3, G_4⟩ := G.e5
              go_wp2_with fail
              clear Q_0 Q_1 Q_2 Q_3 G_0 G_1 G_2 G_3 G_4
              ((with_reducible refine ((HF _ ha.r1 ha.r2).out).mono ?_))
              rintro e6 w6 ⟨p6, c6, rfl, ho6, hb6⟩
              replace Q := Q.past hb6
              replace G := G.past hb6
              replace R := R.past hb6
              replace L := L.past hb6
              replace ha := ha.past hb6
              have hs6 := hs5.trans (hb6.mono hs5.size)
              obtain ⟨R_0, R_1, R_2, R_3, R_4, R_5⟩ := R.e6
              have R_f0 := R.f 0
              have R_f1 := R.f 1
              have R_f2 := R.f 2
              have R_f3 := R.f 3
              have R_f4 := R.f 4
              have R_f5 := R.f 5
              go_wp2_with fail
              clear R_0 R_1 R_2 R_3 R_4 R_5 R_f0 R_f1 R_f2 R_f3 R_f4 R_f5
              obtain ⟨R_0, R_1, R_2, R_3, R_4, R_5⟩ := R.e6
              refine bodyPost_ret (v := .tuple #[.agg #[.bool rv.neg, .slice p6 (dig B32 rv.d).length c6, .int .i64 rv.pow, .bool rv.exact, .bool rv.over, .bool rv.under], .int .i64 0]) (by simp [results, Tryz.results125, go_sem, R_0, R_1, R_2, R_3, R_4, R_5]) rfl ?_
              have hz5 := hs5.size
              exact s0d hs6 ho6 hz5 (by omega) (fun h => by have := (ho6.blk_lt h).1; have := hb5.size; have := hb4.size; have := hb.size; omega)
        · have t1 : (e3 == 0) = false := bFn h3
          have t2 : (e3 != 0) = true := by rw [bne, t1]; rfl
          have H3 := hi0 h3
          clear h3
          obtain ⟨R_0, R_1, R_2, R_3, R_4, R_5⟩ := R.e6
          have R_f0 := R.f 0
          have R_f1 := R.f 1
          have R_f2 := R.f 2
          have R_f3 := R.f 3
          have R_f4 := R.f 4
          have R_f5 := R.f 5
          go_wp2_with fail
          clear R_0 R_1 R_2 R_3 R_4 R_5 R_f0 R_f1 R_f2 R_f3 R_f4 R_f5
          obtain ⟨R_0, R_1, R_2, R_3, R_4, R_5⟩ := R.e6
          refine bodyPost_ret (v := .tuple #[.agg #[.bool false, .slice none 0 0, .int .i64 0, .bool false, .bool false, .bool false], .int .i64 e3]) (by simp [results, Tryz.results125, go_sem, R_0, R_1, R_2, R_3, R_4, R_5]) rfl ?_
          have e0 : er = e3 := by rw [← HER.out]; unfold c0e; rw [HR1.out, HE3.out, if_neg (by simp), if_pos H3.out]
          subst e0
          exact d0g (HZ0.out H3.out) hs4 (by omega)
theorem w0r (p q : Option Addr) (n m c d : Nat) (a b : Nat) (w : World) (hp : Rd w .i64 p (dig B16 a)) (hq : Rd w .i64 q (dig B16 b)) (hn : n = (dig B16 a).length) (hm : m = (dig B16 b).length)
 (hl : (dig B16 a).length + (dig B16 b).length ≤ 1000000000) :
 Calls Tryz.prog 75 #[.slice p n c, .slice q m d] w (i0c w .i64 (dig B16 (a + b))) := by
 subst hn hm
 have HXL := hi0 (b0i a0g a)
 have HYL := hi0 (b0i a0g b)
 obtain ⟨xs, hxs⟩ : ∃ xs, xs = dig B16 a := ⟨_, rfl⟩
 obtain ⟨ys, hys⟩ : ∃ ys, ys = dig B16 b := ⟨_, rfl⟩
 rw [← hxs] at hp hl HXL ⊢
 rw [← hys] at hq hl HYL ⊢
 have HA := hi0 hxs
 have HB := hi0 hys
 clear hxs hys
 have hsx := hp.solid
 have hsy := hq.solid
 go_enter Tryz.func75, Tryz.ntmps75
 go_wp2
 go_loopg [5, 6, 7] (xs.length + ys.length + 2) (fun g ov cv iv wr => ∃ (i cr : Nat) (t : Option Addr) (e : Nat) (O : List Nat), iv = .int .i64 i ∧ cv = .int .i64 cr ∧ ov = .slice t O.length e ∧ g + i = xs.length + ys.length + 2 ∧ cr ≤ 1 ∧ i ≤ xs.length + ys.length + 1 ∧ Hid (O.length = i) ∧
     Own wr w.heap.size .i64 3 t e O ∧ Below w.heap.size w wr ∧ Hid (h0a O xs ys i cr))
 case atStart => exact ⟨0, 0, none, 0, [], rfl, rfl, rfl, rfl, by omega, by omega, rfl, Own.nil _ _ _ _, Below.refl _ _, h0a.start xs ys⟩
 case round =>
  obtain ⟨i, cr, t, e, O, rfl, rfl, rfl, hg, hcr, hi, hO, hoq, hb, HR⟩ := hrel
  have hpL := hp.past hb
  have hqL := hq.past hb
  have hxd := a0l (B := 65536) (by omega) xs HXL.out i
  have hyd := a0l (B := 65536) (by omega) ys HYL.out i
  have hi2 : 0 < i → cr = 1 → i ≤ xs.length ∨ i ≤ ys.length := fun h1 h2 => by have := HR.out.2.2.2.2; omega
  by_cases h1 : i < xs.length
  · have hc1 := hpL.cells i h1
    have HS := HR.out.step hxd hyd (.inl h1)
    by_cases h2 : i < ys.length
    · have hc2 := hqL.cells i h2
      have HS := hi0 HS
      clear hi2
      go_wp2_with (first
        | (refine a0u rfl _ _ rfl tyN _ ?_ rfl ?_; omega; intro p2 w2 ho2 hb2 hz2 hp2)
        | (at_builtin; refine a0x rfl _ _ _ rfl tyN _ _ _ _ _ (hoq.past hb2) rfl _ _ _ _ ho2.rd rfl rfl rfl ?_ ?_ ?_; (have := hO.out; simp; omega); (have := hb2.size; have := hb.size; omega); intro p3 c3 w3 ho3 hg3 hb3 hn3))
      have hb4 := hb.trans ((hb2.mono hb.size).trans hb3)
      have e4 : (((cr : Int) + dg xs i + dg ys i : Int) % 65536).toNat = (cr + dg xs i + dg ys i) % B16 := by unfold B16; omega
      rw [e4] at ho3
      go_roundg (xs.length + ys.length + 1 - i)
      case measure => omega
      case rel => exact ⟨i + 1, (cr + dg xs i + dg ys i) / B16, p3, c3, _, by go_num, (by unfold B16; go_num), by simp, by omega, HS.out.2.2.1, by omega, (by show (O ++ _).length = i + 1; have := hO.out; simp; omega), ho3, hb4, HS⟩
    · have ez : dg ys i = 0 := b0r (by omega)
      rw [ez] at HS
      have HS := hi0 HS
      clear ez hyd hi2
      go_wp2_with (first
        | (refine a0u rfl _ _ rfl tyN _ ?_ rfl ?_; omega; intro p2 w2 ho2 hb2 hz2 hp2)
        | (at_builtin; refine a0x rfl _ _ _ rfl tyN _ _ _ _ _ (hoq.past hb2) rfl _ _ _ _ ho2.rd rfl rfl rfl ?_ ?_ ?_; (have := hO.out; simp; omega); (have := hb2.size; have := hb.size; omega); intro p3 c3 w3 ho3 hg3 hb3 hn3))
      have hb4 := hb.trans ((hb2.mono hb.size).trans hb3)
      have e4 : (((cr : Int) + dg xs i : Int) % 65536).toNat = (cr + dg xs i + 0) % B16 := by unfold B16; omega
      rw [e4] at ho3
      go_roundg (xs.length + ys.length + 1 - i)
      case measure => omega
      case rel => exact ⟨i + 1, (cr + dg xs i + 0) / B16, p3, c3, _, by go_num, (by unfold B16; go_num), by simp, by omega, HS.out.2.2.1, by omega, (by show (O ++ _).length = i + 1; have := hO.out; simp; omega), ho3, hb4, HS⟩
  · have ex : dg xs i = 0 := b0r (by omega)
    by_cases h2 : i < ys.length
    · have hc2 := hqL.cells i h2
      have HS := HR.out.step hxd hyd (.inr (.inl h2))
      rw [ex] at HS
      have HS := hi0 HS
      clear ex hxd hi2
      go_wp2_with (first
        | (refine a0u rfl _ _ rfl tyN _ ?_ rfl ?_; omega; intro p2 w2 ho2 hb2 hz2 hp2)
        | (at_builtin; refine a0x rfl _ _ _ rfl tyN _ _ _ _ _ (hoq.past hb2) rfl _ _ _ _ ho2.rd rfl rfl rfl ?_ ?_ ?_; (have := hO.out; simp; omega); (have := hb2.size; have := hb.size; omega); intro p3 c3 w3 ho3 hg3 hb3 hn3))
      have hb4 := hb.trans ((hb2.mono hb.size).trans hb3)
      have e4 : (((cr : Int) + dg ys i : Int) % 65536).toNat = (cr + 0 + dg ys i) % B16 := by unfold B16; omega
      rw [e4] at ho3
      go_roundg (xs.length + ys.length + 1 - i)
      case measure => omega
      case rel => exact ⟨i + 1, (cr + 0 + dg ys i) / B16, p3, c3, _, by go_num, (by unfold B16; go_num), by simp, by omega, HS.out.2.2.1, by omega, (by show (O ++ _).length = i + 1; have := hO.out; simp; omega), ho3, hb4, HS⟩
    · have ey : dg ys i = 0 := b0r (by omega)
      by_cases h3 : 0 < cr
      · have HS := HR.out.step hxd hyd (.inr (.inr h3))
        rw [ex, ey] at HS
        have HS := hi0 HS
        have hi3 : i ≤ xs.length + ys.length := by
         by_cases h0 : 0 < i
         · have := hi2 h0 (by omega); omega
         · omega
        clear ex ey hxd hyd hi2
        go_wp2_with (first
          | (refine a0u rfl _ _ rfl tyN _ ?_ rfl ?_; omega; intro p2 w2 ho2 hb2 hz2 hp2)
          | (at_builtin; refine a0x rfl _ _ _ rfl tyN _ _ _ _ _ (hoq.past hb2) rfl _ _ _ _ ho2.rd rfl rfl rfl ?_ ?_ ?_; (have := hO.out; simp; omega); (have := hb2.size; have := hb.size; omega); intro p3 c3 w3 ho3 hg3 hb3 hn3))
        have hb4 := hb.trans ((hb2.mono hb.size).trans hb3)
        have e4 : (((cr : Int) : Int) % 65536).toNat = (cr + 0 + 0) % B16 := by unfold B16; omega
        rw [e4] at ho3
        go_roundg (xs.length + ys.length + 1 - i)
        case measure => omega
        case rel => exact ⟨i + 1, (cr + 0 + 0) / B16, p3, c3, _, by go_num, (by unfold B16; go_num), by simp, by omega, HS.out.2.2.1, by omega, (by show (O ++ _).length = i + 1; have := hO.out; simp; omega), ho3, hb4, HS⟩
      · obtain rfl : cr = 0 := by omega
        have HD := hi0 (HR.out.done (by omega) (by omega) HA.out HB.out)
        clear ex ey hxd hyd hi2
        go_wp2
        go_ret
        exact t0y HD.out rfl hoq hb
theorem p0u (p q : Option Addr) (n m c d : Nat) (a b : Nat) (w : World) (hp : Rd w .i64 p (dig B16 a)) (hq : Rd w .i64 q (dig B16 b)) (hn : n = (dig B16 a).length) (hm : m = (dig B16 b).length)
 (hl : (dig B16 a).length ≤ 1000000000) (hl2 : (dig B16 b).length ≤ 1000000000) :
 Calls Tryz.prog 76 #[.slice p n c, .slice q m d] w fun e w' => e = .returned (.int .i64 (cmpN a b)) ∧ Below w.heap.size w w' := by
 subst hn hm
 by_cases hlt : (dig B16 a).length < (dig B16 b).length
 · have H := hi0 (j0i (i0m a0g hlt))
   go_enter Tryz.func76, Tryz.ntmps76
   go_wp2
   go_ret
   exact ⟨g0i H.out, Below.refl _ _⟩
 · by_cases hgt : (dig B16 b).length < (dig B16 a).length
   · have H := hi0 (m0r (i0m a0g hgt))
     go_enter Tryz.func76, Tryz.ntmps76
     go_wp2
     go_ret
     exact ⟨g0i H.out, Below.refl _ _⟩
   · have hle : (dig B16 b).length = (dig B16 a).length := by omega
     have HXL := hi0 (b0i a0g a)
     have HYL := hi0 (b0i a0g b)
     have HA := hi0 (b0b a0g a)
     have HB := hi0 (b0b a0g b)
     rw [hle]
     have HL := hi0 hle
     have hly := Nat.le_of_eq hle.symm
     clear hlt hgt hle
     generalize dig B16 a = xs at *
     generalize dig B16 b = ys at *
     have hsx := hp.solid
     have hsy := hq.solid
     rw [HL.out] at hsy
     go_enter Tryz.func76, Tryz.ntmps76
     go_wp2
     go_loopw [5] (fun iv wr => ∃ (k : Nat), iv = .int .i64 ((k : Int) - 1) ∧ k ≤ xs.length ∧ Below w.heap.size w wr ∧ Hid (xs.drop k = ys.drop k)) (fun iv _ => (intOf iv + 1).toNat)
     case atStart => exact ⟨xs.length, rfl, Nat.le_refl _, Below.refl _ _, (show xs.drop _ = ys.drop _ by rw [List.drop_length, List.drop_of_length_le (by have := HL.out; omega)])⟩
     case round =>
      obtain ⟨k, rfl, hk, hb, HD⟩ := hrel
      by_cases h0 : 0 < k
      · obtain ⟨k, rfl⟩ : ∃ j, k = j + 1 := ⟨k - 1, by omega⟩
        have ej : ((k + 1 : Nat) : Int) - 1 = k := by omega
        rw [ej]
        have hxd := a0l (B := 65536) (by omega) xs HXL.out k
        have hyd := a0l (B := 65536) (by omega) ys HYL.out k
        have hc1 := (hp.past hb).cells k (by omega)
        have hc2 := (hq.past hb).cells k (by omega)
        have i1 : (k : Int) < (xs.length : Int) := by omega
        have i0 : (0 : Int) ≤ (k : Int) := by omega
        clear ej
        by_cases h1 : dg xs k < dg ys k
        · have H := hi0 (j0i (by have := q0m xs ys HXL.out k (by omega) HL.out.symm HD.out h1; rwa [HA.out, HB.out] at this))
          go_wp2_with fail
          go_quiet (fail)
          go_wp2
          go_ret
          exact ⟨g0i H.out, hb.trans (by first | exact below_drewN (Below.refl _ _) _ | exact below_drewN (below_drewN (Below.refl _ _) _) _)⟩
        · by_cases h2 : dg ys k < dg xs k
          · have H := hi0 (m0r (by have := q0m ys xs HYL.out k (by have := HL.out; omega) HL.out HD.out.symm h2; rwa [HA.out, HB.out] at this))
            go_wp2_with fail
            go_quiet (fail)
            go_wp2_with fail
            go_quiet (fail)
            go_wp2
            go_ret
            exact ⟨g0i H.out, hb.trans (by first | exact below_drewN (Below.refl _ _) _ | exact below_drewN (below_drewN (Below.refl _ _) _) _)⟩
          · have h3 : dg xs k = dg ys k := by omega
            have HE := hi0 (p0b (by omega) HL.out.symm HD.out h3)
            rw [← h3] at hc2
            clear h3 h1 h2
            go_wp2_with fail
            go_quiet (fail)
            go_wp2_with fail
            go_quiet (fail)
            go_wp2
            go_roundw
            case rel => exact ⟨k, rfl, by omega, hb.trans (by first | exact below_drewN (Below.refl _ _) _ | exact below_drewN (below_drewN (Below.refl _ _) _) _), HE⟩
            case measure => first | (simp [intOf]; done) | (simp [intOf]; omega)
      · obtain rfl : k = 0 := by omega
        have H : cmpN a b = 0 := by
         have := HD.out
         simp only [List.drop_zero] at this
         rw [← HA.out, ← HB.out, this]; exact v0d _
        have H := hi0 H
        go_wp2
        go_ret
        exact ⟨g0i H.out, hb⟩
end Go.Proofs.YtbamiajjampgnaaGreatDoor
namespace Go.Slip
theorem i1v {d r : Nat} (h0 : 0 < d) (h : d < 65536) : tz (d + 65536 * r) = tz d := by
 obtain ⟨h1, h2⟩ := b0w d h0
 have hle : tz d < 16 := by
  rcases Nat.lt_or_ge (tz d) 16 with h3 | h3
  · exact h3
  · have h4 : 2 ^ 16 ≤ 2 ^ tz d := Nat.pow_le_pow_right (by omega) h3
    have h5 : 0 < d / 2 ^ tz d := by
     rcases Nat.eq_zero_or_pos (d / 2 ^ tz d) with h | h
     · rw [h] at h2; simp at h2
     · exact h
    have h6 := Nat.mul_le_mul_left (2 ^ tz d) h5
    simp only [Nat.succ_eq_add_one, Nat.zero_add, Nat.mul_one] at h6
    omega
 obtain ⟨t, ht⟩ : ∃ t, t = tz d := ⟨_, rfl⟩
 rw [← ht] at h1 h2 hle ⊢
 obtain ⟨s, hs⟩ : ∃ s, 16 = t + (s + 1) := ⟨15 - t, by omega⟩
 have e : d + 65536 * r = (d / 2 ^ t + 2 * (2 ^ s * r)) * 2 ^ t := by
  have e1 : (65536 : Nat) = 2 ^ t * (2 ^ s * 2) := by
   rw [show (65536 : Nat) = 2 ^ 16 by decide, hs, Nat.pow_add, Nat.pow_succ]
  rw [e1, Nat.add_mul]
  conv => lhs; rw [← h1]
  grind
 rw [e]
 exact x0v _ _ (by omega)
theorem i1w {xs : List Nat} {a i : Nat} (ha : val B16 xs = a) (hz : ∀ j, j < i → dg xs j = 0) (hd : 0 < dg xs i) (hl : dg xs i < 65536) : tz a = 16 * i + tz (dg xs i) := by
 have h1 := b0k B16 xs i
 have h2 : val B16 (xs.take i) = 0 := by
  have : xs.take i = List.replicate (xs.take i).length 0 := by
   apply c0g
   · simp
   · intro t ht
     simp only [List.length_take] at ht
     rw [e0z (by omega), c0p, hz t (by omega)]
  rw [this, c0c]
 rw [h2, f0q, Nat.zero_add] at h1
 have e : a = (dg xs i + 65536 * val B16 (xs.drop (i + 1))) * 2 ^ (16 * i) := by
  rw [← ha, h1, Nat.pow_mul, show (2 : Nat) ^ 16 = B16 by decide, Nat.mul_comm]
  rfl
 rw [e, x0x (by omega), i1v hd hl]
 omega
def g0m (xs : List Nat) (j n : Nat) : Prop := n = 16 * j ∧ ∀ i, i < j → dg xs i = 0
theorem g0m.start (xs : List Nat) : g0m xs 0 0 := ⟨rfl, fun i hi => by omega⟩
theorem g0m.step {xs : List Nat} {j n : Nat} (h : g0m xs j n) (hz : dg xs j = 0) : g0m xs (j + 1) (n + 16) :=
 ⟨by have := h.1; omega, fun i hi => by
   by_cases he : i = j
   · subst he; exact hz
   · exact h.2 i (by omega)⟩
theorem g0m.lt {xs : List Nat} {j n m : Nat} (h : g0m xs j n) (hv : val B16 xs = m) (h0 : 0 < m) : j < xs.length := by
 rcases Nat.lt_or_ge j xs.length with h1 | h1
 · exact h1
 · have := m0w (B := B16) (xs := xs) (fun i hi => h.2 i (by omega))
   omega
def k0u (m d n : Nat) : Prop := ∃ t, n + tz d = t ∧ t = tz m ∧ 0 < d
theorem k0u.start {xs : List Nat} {j n m : Nat} (h : g0m xs j n) (hv : val B16 xs = m) (h0 : 0 < dg xs j) (hl : dg xs j < 65536) : k0u m (dg xs j) n :=
 ⟨_, rfl, by rw [i1w hv h.2 h0 hl, h.1], h0⟩
theorem k0u.step {m d n : Nat} (h : k0u m d n) (he : d % 2 = 0) : k0u m (d / 2) (n + 1) := by
 obtain ⟨t, h1, h2, h3⟩ := h
 rw [q0q h3 he] at h1
 exact ⟨t, by omega, h2, by omega⟩
theorem k0u.done {m d n : Nat} (h : k0u m d n) (he : d % 2 = 1) : n = tz m := by
 obtain ⟨t, h1, h2, h3⟩ := h
 rw [s0z he] at h1
 omega
theorem a1w (a : Nat) : blen a ≤ 16 * (dig B16 a).length := by
 rw [b0h, Nat.pow_mul]
 exact (a0f a0g a _).1 (Nat.le_refl _)
end Go.Slip
namespace Go.Proofs.YtbamiajjampgnaaGreatDoor
open Go.RowKit Go.Slip
theorem e1y {O Y : List Nat} {N a : Nat} (h : g0g B16 (2 ^ (N % 16)) O Y Y.length) (hY : val B16 Y = a / B16 ^ (N / 16)) : val B16 O = a / 2 ^ N := by
 rw [h.done, hY, m0s (B := B16) (w := 16) (by decide)]
theorem w0s (p : Option Addr) (n c : Nat) (a N : Nat) (w : World) (hp : Rd w .i64 p (dig B16 a)) (hn : n = (dig B16 a).length) (hl : (dig B16 a).length ≤ 1000000000) (hN : N ≤ 9223372036854775807) :
 Calls Tryz.prog 94 #[.slice p n c, .int .i64 N] w (i0c w .i64 (dig B16 (a / 2 ^ N))) := by
 subst hn
 by_cases h0 : (dig B16 a).length ≤ N / 16
 · rw [p0c (w := 16) (by decide) a0g a N h0]
   rw [a0d]
   go_enter Tryz.func94, Tryz.ntmps94
   go_wp2
   go_ret
   exact ⟨none, 0, rfl, Rd.nil _ _ _, by simp, by simp, Below.refl _ _⟩
 · have HXL := hi0 (b0i a0g a)
   have HV := hi0 (h0v (B := B16) e0f _ (b0i a0g a) (N / 16))
   rw [b0b a0g] at HV
   generalize dig B16 a = xs at *
   have hsx := hp.solid
   have hk : N / 16 < xs.length := by omega
   have HY := hi0 (show ∀ x ∈ xs.drop (N / 16), x < B16 from fun x h => HXL.out x (List.mem_of_mem_drop h))
   have hyl : (xs.drop (N / 16)).length = xs.length - N / 16 := List.length_drop
   have hylp : (xs.drop (N / 16)).length + N / 16 ≤ xs.length := by omega
   have hylq : xs.length ≤ (xs.drop (N / 16)).length + N / 16 := by omega
   have HG := hi0 (show ∀ j, dg (xs.drop (N / 16)) j = dg xs (N / 16 + j) from fun j => f0a)
   clear h0 hyl
   have hs : N % 16 < 16 := Nat.mod_lt _ (by omega)
   generalize xs.drop (N / 16) = ys at *
   have H0 := hi0 (g0g.start B16 (2 ^ (N % 16)) ys)
   have hpm : B16 % 2 ^ (N % 16) = 0 := l0t (w := 16) (by omega)
   have hpm := hi0 hpm
   go_enter Tryz.func94, Tryz.ntmps94
   go_wp2
   go_loop [5, 6] (fun dv iv => ∃ (i t : Nat), iv = .int .i64 i ∧ dv = .int .i64 t ∧ i ≤ N % 16 ∧ t ≤ 65536 ∧ Hid (t = 2 ^ i)) (fun _ iv => N % 16 - (intOf iv).toNat)
   case atStart => exact ⟨0, 1, rfl, rfl, Nat.zero_le _, by omega, rfl⟩
   case round =>
    obtain ⟨i, t, rfl, rfl, hi, ht, HT⟩ := hrel
    by_cases h1 : i < N % 16
    · have HS : Hid (2 * t = 2 ^ (i + 1)) := by show 2 * t = 2 ^ (i + 1); rw [HT.out, Nat.pow_succ]; omega
      have hb : 2 * t ≤ 65536 := by
       rw [HS.out]; exact Nat.pow_le_pow_right (show 0 < 2 by omega) (show i + 1 ≤ 16 by omega)
      go_wp2
      go_round
      case rel => exact ⟨i + 1, 2 * t, by go_num, by go_num, by omega, hb, HS⟩
      case measure => simp [intOf]; omega
    · obtain rfl : i = N % 16 := by omega
      have htp : 1 ≤ t := by rw [HT.out]; exact Nat.pow_pos (by omega)
      go_wp2
      rw [← HT.out] at H0 hpm
      go_loopg [7, 8] (ys.length) (fun g ov iv wr => ∃ (i : Nat) (q : Option Addr) (e : Nat) (O : List Nat), iv = .int .i64 ((N / 16 + i : Nat) : Int) ∧ ov = .slice q O.length e ∧ g + i = ys.length ∧ i ≤ ys.length ∧ Hid (O.length = i) ∧
          Own wr w.heap.size .i64 3 q e O ∧ Below w.heap.size w wr ∧ Hid (g0g B16 t O ys i))
      case atStart => exact ⟨0, none, 0, [], by go_num, rfl, by omega, by omega, rfl, Own.nil _ _ _ _, Below.refl _ _, H0⟩
      case round =>
       obtain ⟨i, q, e, O, rfl, rfl, hg, hi, hO, hoq, hb, HR⟩ := hrel
       have hpL := hp.past hb
       have hyd := a0l (B := 65536) (by omega) ys HY.out i
       have hyd2 := a0l (B := 65536) (by omega) ys HY.out (i + 1)
       by_cases hlt : i < ys.length
       · have hc1 := hpL.cells (N / 16 + i) (by omega)
         rw [← HG.out] at hc1
         obtain ⟨v, hv⟩ : ∃ v, v = dg ys i / t := ⟨_, rfl⟩
         have ev : ((dg ys i : Nat) : Int) / (t : Int) = (v : Nat) := by rw [hv]; rfl
         have hvd : v < 65536 := by rw [hv]; exact Nat.lt_of_le_of_lt (Nat.div_le_self _ _) hyd
         by_cases h2 : i + 1 < ys.length
         · have hc2 := hpL.cells (N / 16 + (i + 1)) (by omega)
           rw [← HG.out] at hc2
           obtain ⟨m, hm⟩ : ∃ m, m = dg ys (i + 1) % t := ⟨_, rfl⟩
           obtain ⟨k, hk2⟩ : ∃ k, k = 65536 / t := ⟨_, rfl⟩
           obtain ⟨r, hr⟩ : ∃ r, r = m * k := ⟨_, rfl⟩
           obtain ⟨u, hu⟩ : ∃ u, u = v + r := ⟨_, rfl⟩
           have hue : u = dg ys i / t + dg ys (i + 1) % t * (B16 / t) := by rw [hu, hr, hm, hk2, hv]; rfl
           have hub : u < 65536 := by rw [hue]; exact x0t htp hpm.out hyd
           have HS := hi0 (HR.out.step htp hpm.out HY.out hlt u hue)
           have hkb : k ≤ 65536 := by rw [hk2]; exact Nat.div_le_self _ _
           have i0 : (0 : Int) ≤ (N : Int) / 16 + i + 1 := by omega
           have i1 : (N : Int) / 16 + i + 1 < (xs.length : Int) := by omega
           have e1 : IntKind.i64.wrap ((N : Int) / 16 + i + 1) = (N : Int) / 16 + i + 1 := iwo
           have e2 : ((dg ys (i + 1) : Nat) : Int).tmod (t : Int) = (m : Nat) := by rw [Int.tmod_eq_emod_of_nonneg (by omega), hm]; rfl
           have e3 : IntKind.i64.wrap ((65536 : Int) / (t : Int)) = (k : Nat) := by rw [hk2]; exact IntWalk.i64_in _ (by have : ((65536 / t : Nat) : Int) = 65536 / (t : Int) := rfl; omega)
           have e4 : IntKind.i64.wrap ((m : Int) * (k : Int)) = (r : Nat) := by
            have : (m : Int) * (k : Int) = (r : Nat) := by rw [hr]; simp
            rw [this]; exact iwo
           have e5 : IntKind.i64.wrap ((v : Int) + (r : Int)) = (u : Nat) := by rw [hu]; exact iwo
           have e6 : ((N : Int) / 16 + i + 1).toNat = N / 16 + (i + 1) := by omega
           have e7 : ¬ t = 0 := by omega
           have e8 : (65536 : Int).tdiv (t : Int) = (65536 : Int) / (t : Int) := Int.tdiv_eq_ediv_of_nonneg (by omega)
           clear hu hr hm hk2 hv hue
           go_wp2_with fail
           go_quiet (fail)
           have hoq := hoq.drewN nq
           have hb := hb.trans (below_drewN (Below.refl _ wr) nq)
           clear e1 e2 e3 e4 e5 e6 e7 e8 i0 i1 hc1 hc2 hpL
           go_wp2_with (first
             | (refine a0u rfl _ _ rfl tyN _ ?_ rfl ?_; omega; intro p2 w2 ho2 hb2 hz2 hp2)
             | (at_builtin; refine a0x rfl _ _ _ rfl tyN _ _ _ _ _ (hoq.past hb2) rfl _ _ _ _ ho2.rd rfl rfl rfl ?_ ?_ ?_; (have := hO.out; simp; omega); (have := hb2.size; have := hb.size; omega); intro p3 c3 w3 ho3 hg3 hb3 hn3))
           have hb4 := hb.trans ((hb2.mono hb.size).trans hb3)
           rw [Int.toNat_natCast] at ho3
           go_roundg (ys.length - 1 - i)
           case measure => omega
           case rel => exact ⟨i + 1, p3, c3, _, by go_num, by simp, by omega, by omega, (by show (O ++ _).length = _; have := hO.out; rw [List.length_append, List.length_singleton]; omega), ho3, hb4, HS⟩
         · have HS := hi0 (HR.out.step htp hpm.out HY.out hlt v (by rw [hv, b0r (show ys.length ≤ i + 1 by omega), Nat.zero_mod, Nat.zero_mul]; rfl))
           clear hv
           go_wp2_with (first
             | (refine a0u rfl _ _ rfl tyN _ ?_ rfl ?_; omega; intro p2 w2 ho2 hb2 hz2 hp2)
             | (at_builtin; refine a0x rfl _ _ _ rfl tyN _ _ _ _ _ (hoq.past hb2) rfl _ _ _ _ ho2.rd rfl rfl rfl ?_ ?_ ?_; (have := hO.out; simp; omega); (have := hb2.size; have := hb.size; omega); intro p3 c3 w3 ho3 hg3 hb3 hn3))
           have hb4 := hb.trans ((hb2.mono hb.size).trans hb3)
           rw [Int.toNat_natCast] at ho3
           go_roundg (ys.length - 1 - i)
           case measure => omega
           case rel => exact ⟨i + 1, p3, c3, _, by go_num, by simp, by omega, by omega, (by show (O ++ _).length = _; have := hO.out; rw [List.length_append, List.length_singleton]; omega), ho3, hb4, HS⟩
       · obtain rfl : i = ys.length := by omega
         have HD := hi0 (e1y (by rw [← HT.out]; exact HR.out) HV.out)
         have HX := hi0 HR.out.1
         go_wp2_with (go_at_call 122; refine (d0u _ _ _ O _ hoq.rd rfl hoq.le_cap HX.out (by rw [hO.out]; omega)).mono ?_; rintro e w3 ⟨rfl, rfl⟩)
         go_ret
         have ht := b0g a0g O HX.out
         have ho2 := hoq.take (dig B16 (val B16 O)).length
         rw [ht, HD.out] at ho2
         rw [HD.out]
         exact ⟨q, _, rfl, ho2.rd, Nat.le_refl _, j0q ho2, hb⟩
theorem s0e (g : Bool) (p : Option Addr) (c : Nat) (e : Int) (w : World) :
 Calls Tryz.prog 51 #[.agg #[.bool g, .slice p 0 c, .int .i64 e]] w (t0w w (fun _ => False) ⟨false, 0, 0⟩) := by
 go_enter Tryz.func51, Tryz.ntmps51
 go_wp2
 refine bodyPost_ret (v := .agg #[.bool false, .slice none 0 0, .int .i64 0]) (by simp [results, Tryz.results51, go_sem]) rfl ?_
 exact ⟨none, 0, by rw [a0d]; rfl, by rw [a0d]; exact Rd.nil _ _ _, by rw [a0d]; simp, by rw [a0d]; simp, ((Below.refl _ _).alloc (Nat.le_refl _) _).alloc (by simp) _⟩
theorem u0f (g : Bool) (p : Option Addr) (n c : Nat) (e : Int) (m : Nat) (w : World) (hp : Rd w .i64 p (dig B16 m)) (hn : n = (dig B16 m).length) (hl : (dig B16 m).length ≤ 10000000) (h0 : 0 < m)
 (he : -1000000000 ≤ e ∧ e ≤ 1000000000) :
 Calls Tryz.prog 51 #[.agg #[.bool g, .slice p n c, .int .i64 e]] w (t0w w (fun _ => False) (bare ⟨g, m, e⟩)) := by
 subst hn
 have hl0 : 0 < (dig B16 m).length := by
  have := a0e a0g m
  omega
 have t1 : (((dig B16 m).length : Int) == 0) = false := bFn (by omega)
 obtain ⟨W1, hW1, hs1, A1, R1, hz1⟩ := r1j w (.bool g) (.slice p (dig B16 m).length c) (.int .i64 e) (.bool false) (.slice none 0 0) (.int .i64 0) 47 47
 have hp1 := hp.past hs1
 have HB := hi0 (m0f (g := g) (e := e) h0)
 have htz : tz m ≤ 1000000000 := by have := f0l h0; have := a1w m; omega
 have HV := hi0 (b0b a0g m)
 have HX := hi0 (b0i a0g m)
 have HW1 := hi0 hW1
 obtain ⟨xs, hxs⟩ : ∃ xs, xs = dig B16 m := ⟨_, rfl⟩
 have HXS := hi0 hxs
 rw [← hxs] at hp hl hl0 t1 A1 hp1 HV HX HW1 ⊢
 have hsx := hp1.solid
 have a1 := A1.c1
 clear hW1 hxs
 go_enter Tryz.func51, Tryz.ntmps51
 go_wp2_with fail
 rw [← HW1.out]
 clear HW1
 go_wp2
 go_loopg [3] xs.length (fun gk nv wr => ∃ (j n : Nat), nv = .int .i64 n ∧ gk + j = xs.length ∧ wr = W1 ∧ Hid (g0m xs j n))
 case atStart => exact ⟨0, 0, rfl, rfl, rfl, g0m.start xs⟩
 case round =>
  obtain ⟨j, n, rfl, hgk, rfl, HO⟩ := hrel
  have hlt := HO.out.lt HV.out h0
  have hd := a0l (B := 65536) (by omega) xs HX.out j
  have hn1 : (n : Int) ≤ 160000000 := by have := HO.out.1; omega
  have e1 : (n : Int) / 16 = (j : Int) := by have := HO.out.1; omega
  have hcell := hp1.cells j hlt
  by_cases hz : dg xs j = 0
  · have HS := hi0 (HO.out.step hz)
    rw [hz] at hcell
    have hgi : 0 < gk := by omega
    clear hz
    go_wp2
    go_roundg (gk - 1)
    case measure => omega
    case rel => exact ⟨j + 1, n + 16, by go_num, by omega, rfl, HS⟩
  · have h0d : 0 < dg xs j := by omega
    have HI := hi0 (k0u.start HO.out HV.out h0d hd)
    have t2 : (((dg xs j : Nat) : Int) == 0) = false := bFn (by omega)
    clear hz
    go_wp2
    have hjn : n ≤ 160000000 := by omega
    clear e1 hcell t2 hn1
    obtain ⟨d0, hd0⟩ : ∃ d0, dg xs j = d0 := ⟨_, rfl⟩
    rw [hd0] at HI hd h0d ⊢
    clear hd0
    go_loopg [3, 4] d0 (fun gk nv dv wx => ∃ (n2 : Nat), nv = .int .i64 n2 ∧ dv = .int .i64 gk ∧ gk < 65536 ∧ wx = wr ∧ Hid (k0u m gk n2))
    case atStart => exact ⟨n, rfl, rfl, hd, rfl, HI⟩
    case round =>
     obtain ⟨n2, rfl, rfl, hgl, rfl, HN⟩ := hrel
     have hn2 : n2 ≤ 1000000000 := by obtain ⟨t, h1, h2, h3⟩ := HN.out; omega
     have hg0 : 0 < gk := by obtain ⟨t, h1, h2, h3⟩ := HN.out; omega
     by_cases hev : gk % 2 = 0
     · have HS := hi0 (HN.out.step hev)
       have t3 : (gk : Int) % 2 = 0 := by omega
       clear hev
       go_wp2
       go_roundg (gk / 2)
       case measure => omega
       case rel => exact ⟨n2 + 1, by go_num, by go_num, by omega, rfl, HS⟩
     · have HD := HN.out.done (by omega)
       have t3 : (gk : Int) % 2 = 1 := by omega
       subst HD
       obtain ⟨t, ht⟩ : ∃ t, tz m = t := ⟨_, rfl⟩
       have HT := hi0 ht
       rw [ht] at htz HB hn2 HN ⊢
       clear ht hev
       go_wp2_with fail
       clear t3
       have e1 : IntKind.i64.wrap (e + (t : Int)) = e + (t : Int) := iwo
       have hpm : Rd wr .i64 p (dig B16 m) := by rw [← HXS.out]; exact hp1
       go_region_held3 (fun w' => w'.cell? ⟨w.heap.size, 0, none⟩ = some (.bool g) ∧ w'.cell? ⟨w.heap.size, 1, none⟩ = some (.slice p xs.length c) ∧ w'.cell? ⟨w.heap.size, 2, none⟩ = some (.int .i64 e))
        (first | exact ⟨A1.c0, A1.c1, A1.c2⟩
               | (have D1 := A1.drew; exact ⟨D1.c0, D1.c1, D1.c2⟩)
               | (have D1 := A1.drew.past hb2; exact ⟨D1.c0, D1.c1, D1.c2⟩)
               | (have D1 := A1.drew.past hb2; exact ⟨(((D1.set (by omega)).set (by omega)).set (by omega)).c0, (((D1.set (by omega)).set (by omega)).set (by omega)).c1, (((D1.set (by omega)).set (by omega)).set (by omega)).c2⟩))
        (first | (go_at_call 94; refine (w0s p _ c m t _ hpm.drew (by rw [HXS.out]) (by rw [← HXS.out]; clear e1; omega) (by clear e1; omega)).mono ?_; rintro e2 w2 ⟨p2, c2, rfl, hr2, hc2, hf2, hb2⟩; obtain ⟨d0, d1, d2, f0, f1, f2, dlt⟩ := R1.drew.past hb2))
       all_goals (go_wp2_with fail)
       refine bodyPost_ret (v := .agg #[.bool g, .slice p2 (dig B16 (m / 2 ^ t)).length c2, .int .i64 (e + (t : Int))]) (by simp [results, Tryz.results51, go_sem, d0, d1, d2]) rfl ?_
       rw [HB.out]
       clear e1
       have hzd : wr.drew.heap.size = wr.heap.size := rfl
       exact t0x (d := ⟨g, m / 2 ^ t, e + t⟩) (hs1.drew.trans (hb2.mono hs1.size)) hr2 hc2 (fun h => .inr (by have := hf2 h; simp only at *; omega)) (by omega) (fun h => by have := hf2 h; simp only at *; omega)
theorem u0g (g : Bool) (p : Option Addr) (n c : Nat) (e : Int) (m : Nat) (w : World) (hp : Rd w .i64 p (dig B16 m)) (hn : n = (dig B16 m).length) (hl : (dig B16 m).length ≤ 10000000)
 (he : -1000000000 ≤ e ∧ e ≤ 1000000000) :
 Calls Tryz.prog 51 #[.agg #[.bool g, .slice p n c, .int .i64 e]] w (t0w w (fun _ => False) (bare ⟨g, m, e⟩)) := by
 by_cases h0 : m = 0
 · subst h0
   rw [a0d] at hn
   subst hn
   exact s0e g p c e w
 · exact u0f g p n c e m w hp hn hl (by omega) he
theorem w0t (p q : Option Addr) (n m c d : Nat) (a b : Nat) (w : World) (hp : Rd w .i64 p (dig B16 a)) (hq : Rd w .i64 q (dig B16 b)) (hn : n = (dig B16 a).length) (hm : m = (dig B16 b).length)
 (hl : (dig B16 a).length ≤ 1000000000) (hab : b ≤ a) :
 Calls Tryz.prog 123 #[.slice p n c, .slice q m d] w (i0c w .i64 (dig B16 (a - b))) := by
 subst hn hm
 have hge := a0m a0g hab
 have HXL := hi0 (b0i a0g a)
 have HYL := hi0 (b0i a0g b)
 have HA := hi0 (b0b a0g a)
 have HB := hi0 (b0b a0g b)
 generalize dig B16 a = xs at *
 generalize dig B16 b = ys at *
 have hsx := hp.solid
 have hsy := hq.solid
 go_enter Tryz.func123, Tryz.ntmps123
 go_wp2
 go_loopg [5, 6, 7] (xs.length) (fun g ov cv iv wr => ∃ (i cr : Nat) (t : Option Addr) (e : Nat) (O : List Nat), iv = .int .i64 i ∧ cv = .int .i64 cr ∧ ov = .slice t O.length e ∧ g + i = xs.length ∧ cr ≤ 1 ∧ i ≤ xs.length ∧ Hid (O.length = i) ∧
     Own wr w.heap.size .i64 3 t e O ∧ Below w.heap.size w wr ∧ Hid (h0c O xs ys i cr))
 case atStart => exact ⟨0, 0, none, 0, [], rfl, rfl, rfl, by omega, by omega, by omega, rfl, Own.nil _ _ _ _, Below.refl _ _, h0c.start xs ys⟩
 case round =>
  obtain ⟨i, cr, t, e, O, rfl, rfl, rfl, hg, hcr, hi, hO, hoq, hb, HR⟩ := hrel
  have hpL := hp.past hb
  have hqL := hq.past hb
  have hxd := a0l (B := 65536) (by omega) xs HXL.out i
  have hyd := a0l (B := 65536) (by omega) ys HYL.out i
  by_cases h1 : i < xs.length
  · have hc1 := hpL.cells i h1
    by_cases h2 : i < ys.length
    · have hc2 := hqL.cells i h2
      by_cases h3 : dg xs i < dg ys i + cr
      · have HS := hi0 (HR.out.step (dg xs i + 65536 - dg ys i - cr) 1 (by unfold B16; omega) (by omega) (by unfold B16; omega))
        go_wp2_with (first
          | (refine a0u rfl _ _ rfl tyN _ ?_ rfl ?_; omega; intro p2 w2 ho2 hb2 hz2 hp2)
          | (at_builtin; refine a0x rfl _ _ _ rfl tyN _ _ _ _ _ (hoq.past hb2) rfl _ _ _ _ ho2.rd rfl rfl rfl ?_ ?_ ?_; (have := hO.out; simp; omega); (have := hb2.size; have := hb.size; omega); intro p3 c3 w3 ho3 hg3 hb3 hn3))
        have hb4 := hb.trans ((hb2.mono hb.size).trans hb3)
        have e4 : ((dg xs i : Int) - cr - dg ys i + 65536).toNat = dg xs i + 65536 - dg ys i - cr := by omega
        rw [e4] at ho3
        go_roundg (xs.length - 1 - i)
        case measure => omega
        case rel => exact ⟨i + 1, 1, p3, c3, _, by go_num, rfl, by simp, by omega, by omega, by omega, (by show (O ++ _).length = i + 1; have := hO.out; simp; omega), ho3, hb4, HS⟩
      · have HS := hi0 (HR.out.step (dg xs i - dg ys i - cr) 0 (by unfold B16; omega) (by omega) (by unfold B16; omega))
        go_wp2_with (first
          | (refine a0u rfl _ _ rfl tyN _ ?_ rfl ?_; omega; intro p2 w2 ho2 hb2 hz2 hp2)
          | (at_builtin; refine a0x rfl _ _ _ rfl tyN _ _ _ _ _ (hoq.past hb2) rfl _ _ _ _ ho2.rd rfl rfl rfl ?_ ?_ ?_; (have := hO.out; simp; omega); (have := hb2.size; have := hb.size; omega); intro p3 c3 w3 ho3 hg3 hb3 hn3))
        have hb4 := hb.trans ((hb2.mono hb.size).trans hb3)
        have e4 : ((dg xs i : Int) - cr - dg ys i).toNat = dg xs i - dg ys i - cr := by omega
        rw [e4] at ho3
        go_roundg (xs.length - 1 - i)
        case measure => omega
        case rel => exact ⟨i + 1, 0, p3, c3, _, by go_num, rfl, by simp, by omega, by omega, by omega, (by show (O ++ _).length = i + 1; have := hO.out; simp; omega), ho3, hb4, HS⟩
    · have ez : dg ys i = 0 := b0r (by omega)
      by_cases h3 : dg xs i < cr
      · have HS := hi0 (HR.out.step (dg xs i + 65536 - cr) 1 (by unfold B16; omega) (by omega) (by unfold B16; omega))
        clear ez hyd
        go_wp2_with (first
          | (refine a0u rfl _ _ rfl tyN _ ?_ rfl ?_; omega; intro p2 w2 ho2 hb2 hz2 hp2)
          | (at_builtin; refine a0x rfl _ _ _ rfl tyN _ _ _ _ _ (hoq.past hb2) rfl _ _ _ _ ho2.rd rfl rfl rfl ?_ ?_ ?_; (have := hO.out; simp; omega); (have := hb2.size; have := hb.size; omega); intro p3 c3 w3 ho3 hg3 hb3 hn3))
        have hb4 := hb.trans ((hb2.mono hb.size).trans hb3)
        have e4 : ((dg xs i : Int) - cr + 65536).toNat = dg xs i + 65536 - cr := by omega
        rw [e4] at ho3
        go_roundg (xs.length - 1 - i)
        case measure => omega
        case rel => exact ⟨i + 1, 1, p3, c3, _, by go_num, rfl, by simp, by omega, by omega, by omega, (by show (O ++ _).length = i + 1; have := hO.out; simp; omega), ho3, hb4, HS⟩
      · have HS := hi0 (HR.out.step (dg xs i - cr) 0 (by unfold B16; omega) (by omega) (by unfold B16; omega))
        clear ez hyd
        go_wp2_with (first
          | (refine a0u rfl _ _ rfl tyN _ ?_ rfl ?_; omega; intro p2 w2 ho2 hb2 hz2 hp2)
          | (at_builtin; refine a0x rfl _ _ _ rfl tyN _ _ _ _ _ (hoq.past hb2) rfl _ _ _ _ ho2.rd rfl rfl rfl ?_ ?_ ?_; (have := hO.out; simp; omega); (have := hb2.size; have := hb.size; omega); intro p3 c3 w3 ho3 hg3 hb3 hn3))
        have hb4 := hb.trans ((hb2.mono hb.size).trans hb3)
        have e4 : ((dg xs i : Int) - cr).toNat = dg xs i - cr := by omega
        rw [e4] at ho3
        go_roundg (xs.length - 1 - i)
        case measure => omega
        case rel => exact ⟨i + 1, 0, p3, c3, _, by go_num, rfl, by simp, by omega, by omega, by omega, (by show (O ++ _).length = i + 1; have := hO.out; simp; omega), ho3, hb4, HS⟩
  · obtain rfl : i = xs.length := by omega
    have HD := hi0 (HR.out.done HA.out HB.out hge hab)
    go_wp2_with (go_at_call 122; refine (d0u _ _ _ O _ hoq.rd rfl hoq.le_cap HR.out.1 (by rw [hO.out]; omega)).mono ?_; rintro e w3 ⟨rfl, rfl⟩)
    go_ret
    have ht := b0g a0g O HR.out.1
    have ho2 := hoq.take (dig B16 (val B16 O)).length
    rw [ht, HD.out] at ho2
    rw [HD.out]
    exact ⟨t, _, rfl, ho2.rd, Nat.le_refl _, j0q ho2, hb⟩
end Go.Proofs.YtbamiajjampgnaaGreatDoor
namespace Go.Slip
end Go.Slip
namespace Go.Proofs.YtbamiajjampgnaaGreatDoor
open Go.RowKit Go.Slip
theorem u0h : dig B16 1 = [1] := by rw [d0b a0g (by omega), show 1 / B16 = 0 by unfold B16; omega, a0d, show 1 % B16 = 1 by unfold B16; omega]
theorem stay {P : Program} {f : FuncId} {args : Array Value} {w : World} {E : Ending} (h : Calls P f args w fun e w' => e = E ∧ w = w') : Calls P f args w fun e w' => e = E ∧ Below w.heap.size w w' :=
 h.mono fun e w' ⟨h1, h2⟩ => ⟨h1, by subst h2; exact Below.refl _ _⟩
theorem u0i {a b : Nat} (h : cmpN a b = 0) : a = b := by
 unfold cmpN at h
 split at h
 · omega
 · split at h <;> omega
theorem z0a {n : Nat} (x : Nat) (hl : (dig B32 x).length ≤ n) : tz x ≤ 32 * n := by
 rcases Nat.eq_zero_or_pos x with h | h
 · rw [h, v0g]; omega
 · have h1 := (b0w x h).1
   have h2 := (a0f a0a x n).1 hl
   have h3 : 2 ^ tz x ≤ x := by
    have : 0 < x / 2 ^ tz x := by
     rcases Nat.eq_zero_or_pos (x / 2 ^ tz x) with h4 | h4
     · rw [h4, Nat.mul_zero] at h1; omega
     · exact h4
    have h5 := Nat.mul_le_mul_left (2 ^ tz x) this
    omega
   rw [show B32 = 2 ^ 32 from rfl, ← Nat.pow_mul] at h2
   have h6 := (Nat.pow_lt_pow_iff_right (a := 2) (by omega)).1 (Nat.lt_of_le_of_lt h3 h2)
   omega
theorem r1n (x : Nat) (hl : (dig B32 x).length ≤ 1000) : tz x ≤ 32000 := z0a x hl
def k1v (w : World) (base : Nat) (d : Dc) (en : Ending) (w' : World) : Prop :=
 ∃ p c, en = .returned (.tuple #[.int .i64 (d.cls : Int), .slice p (dig B32 d.m).length c, .int .i64 d.p]) ∧ Own w' base .u32 143 p c (dig B32 d.m) ∧ Below w.heap.size w w'
theorem d0v {w w' : World} {base : Nat} {k : Nat} {en : Ending} (h : en = .returned (.tuple #[.int .i64 (k : Int), .slice none 0 0, .int .i64 0])) (hb : Below w.heap.size w w') : k1v w base ⟨k, 0, 0⟩ en w' := by
 refine ⟨none, 0, ?_, ?_, hb⟩
 · rw [h, a0d]; rfl
 · rw [a0d]; exact Own.nil _ _ _ _
theorem e1z (f : Fm) (g : Bool) (e x : Nat) (p : Option Addr) (c base : Nat) (w : World) (G : d0k f) (hp : Own w base .u32 143 p c (dig B32 x)) (hb : base ≤ w.heap.size) (he : e < 2 ^ f.E) (hx : x < 2 ^ f.F) :
 Calls Tryz.prog 149 #[.agg #[.int .i64 (f.size : Int), .int .i64 (f.E : Int), .int .i64 (f.F : Int), .int .i64 f.g.rad, .int .i64 f.g.digs, .int .i64 f.g.lo, .int .i64 f.g.hi, .bool f.g.grad, .bool f.hid, .bool f.inf, .bool f.res, .func (.func (ordF f)) #[] #[]], .agg #[.bool g, .int .i64 (e : Int), .slice p (dig B32 x).length c]] w (k1v w base (f.dec g e x)) := by
 have z2 := G.e2
 have z3 := G.f2
 have z4 := G.lo
 have hxl := b0d hx (k := 2) (by omega)
 have hx0 := a0e a0a x
 have h0T : 0 < 2 ^ f.E := Nat.pow_pos (by omega)
 have h0T2 : 2 ^ f.E ≤ 2 ^ 15 := Nat.pow_le_pow_right (by omega) (by omega)
 have HSH := hi0 (r0f (E := f.E) (by omega))
 by_cases f2 : f.fam = 2
 · have hD : f.dec g e x = ⟨2, x, f.g.lo + e⟩ := by unfold Fm.dec; rw [if_pos f2]
   rw [hD]
   generalize 2 ^ f.E = P at *
   have r1 := G.rad
   rw [if_pos f2] at r1
   have I := Inv.start w [ownF base .u32 143 p c (dig B32 x)] ⟨hp, True.intro⟩
   refine a0h [.v (.agg #[.int .i64 (f.size : Int), .int .i64 (f.E : Int), .int .i64 (f.F : Int), .int .i64 f.g.rad, .int .i64 f.g.digs, .int .i64 f.g.lo, .int .i64 f.g.hi, .bool f.g.grad, .bool f.hid, .bool f.inf, .bool f.res, .func (.func (ordF f)) #[] #[]]), .v (.agg #[.bool g, .int .i64 (e : Int), .slice p (dig B32 x).length c])] I Tryz.func149 ?_
   refine zbin I 11 _ (fun _ _ _ _ _ => c0z .i64 (1) .i64 (f.E : Int) ((P : Int)) (by omega) ((HSH.out))) fun Al W I => ?_
   refine zi I 12 .i64 ((P : Int) - 1) (((P - 1 : Nat) : Int)) ((by rw [show ((P : Int) - 1) = ((P - 1 : Nat) : Int) by omega]; exact iwo)) fun Al W I => ?_
   refine zb I 20 (f.g.rad == 16) (true) (beq_iff_eq.2 r1) fun Al W I => ?_
   refine zd [] I fun Al W I => ?_
   refine zk [0, 1, 2, 3, 4] I fun I => ?_
   refine zki 5 I .i64 (f.g.lo + (e : Int)) (f.g.lo + (e : Int)) (iwo) fun I => ?_
   refine zk [6, 7, 8] I fun I => ?_
   exact zret I fun Al W I => ⟨p, c, rfl, I.fa.1, I.below⟩
 · have r1 := G.rad
   rw [if_neg f2] at r1
   have hr : (f.g.rad == 16) = false := by rw [r1]; rfl
   by_cases f1 : f.fam = 1
   · have hinf : f.inf = true := by unfold Fm.inf; rw [f1]; rfl
     have hres : f.res = false := by unfold Fm.res; rw [f1]; rfl
     by_cases hl : e = 2 ^ f.E - 1
     · by_cases hex : f.ext = false
       · have hhid : f.hid = true := by unfold Fm.hid; rw [f1, hex]; rfl
         by_cases h0 : x = 0
         · have hD : f.dec g e x = ⟨3, 0, 0⟩ := by unfold Fm.dec; rw [if_neg f2, if_pos ⟨f1, hl⟩, if_pos (.inl ⟨hex, h0⟩)]
           rw [hD]
           generalize 2 ^ f.E = P at *
           have I := Inv.start w [ownF base .u32 143 p c (dig B32 x)] ⟨hp, True.intro⟩
           refine a0h [.v (.agg #[.int .i64 (f.size : Int), .int .i64 (f.E : Int), .int .i64 (f.F : Int), .int .i64 f.g.rad, .int .i64 f.g.digs, .int .i64 f.g.lo, .int .i64 f.g.hi, .bool f.g.grad, .bool f.hid, .bool f.inf, .bool f.res, .func (.func (ordF f)) #[] #[]]), .v (.agg #[.bool g, .int .i64 (e : Int), .slice p (dig B32 x).length c])] I Tryz.func149 ?_
           refine zbin I 11 _ (fun _ _ _ _ _ => c0z .i64 (1) .i64 (f.E : Int) ((P : Int)) (by omega) ((HSH.out))) fun Al W I => ?_
           refine zi I 12 .i64 ((P : Int) - 1) (((P - 1 : Nat) : Int)) ((by rw [show ((P : Int) - 1) = ((P - 1 : Nat) : Int) by omega]; exact iwo)) fun Al W I => ?_
           refine zb I 20 (f.g.rad == 16) (false) (hr) fun Al W I => ?_
           refine zb I 29 (f.inf) (true) (hinf) fun Al W I => ?_
           refine zb I 34 ((e : Int) == ((P - 1 : Nat) : Int)) (true) (beq_iff_eq.2 (by omega)) fun Al W I => ?_
           refine zd [] I fun Al W I => ?_
           refine zk [0] I fun I => ?_
           refine zkb 1 I (f.hid) (true) (hhid) fun I => ?_
           refine zk [2, 3, 4, 5] I fun I => ?_
           refine zkb 6 I ((((dig B32 x).length : Nat) : Int) == 0) (true) (beq_iff_eq.2 (by omega)) fun I => ?_
           refine zk [7, 8, 9, 10, 11, 12, 13, 14, 15, 16, 17, 18, 19] I fun I => ?_
           exact zret I fun Al W I => d0v (k := 3) rfl I.below
         · have hD : f.dec g e x = ⟨4, 0, 0⟩ := by unfold Fm.dec; rw [if_neg f2, if_pos ⟨f1, hl⟩, if_neg (by simp [hex, h0])]
           rw [hD]
           generalize 2 ^ f.E = P at *
           have I := Inv.start w [ownF base .u32 143 p c (dig B32 x)] ⟨hp, True.intro⟩
           refine a0h [.v (.agg #[.int .i64 (f.size : Int), .int .i64 (f.E : Int), .int .i64 (f.F : Int), .int .i64 f.g.rad, .int .i64 f.g.digs, .int .i64 f.g.lo, .int .i64 f.g.hi, .bool f.g.grad, .bool f.hid, .bool f.inf, .bool f.res, .func (.func (ordF f)) #[] #[]]), .v (.agg #[.bool g, .int .i64 (e : Int), .slice p (dig B32 x).length c])] I Tryz.func149 ?_
           refine zbin I 11 _ (fun _ _ _ _ _ => c0z .i64 (1) .i64 (f.E : Int) ((P : Int)) (by omega) ((HSH.out))) fun Al W I => ?_
           refine zi I 12 .i64 ((P : Int) - 1) (((P - 1 : Nat) : Int)) ((by rw [show ((P : Int) - 1) = ((P - 1 : Nat) : Int) by omega]; exact iwo)) fun Al W I => ?_
           refine zb I 20 (f.g.rad == 16) (false) (hr) fun Al W I => ?_
           refine zb I 29 (f.inf) (true) (hinf) fun Al W I => ?_
           refine zb I 34 ((e : Int) == ((P - 1 : Nat) : Int)) (true) (beq_iff_eq.2 (by omega)) fun Al W I => ?_
           refine zd [] I fun Al W I => ?_
           refine zk [0] I fun I => ?_
           refine zkb 1 I (f.hid) (true) (hhid) fun I => ?_
           refine zk [2, 3, 4, 5] I fun I => ?_
           refine zkb 6 I ((((dig B32 x).length : Nat) : Int) == 0) (false) (bFn (by omega)) fun I => ?_
           refine zk [7, 8, 9] I fun I => ?_
           refine zkb 10 I (f.hid) (true) (hhid) fun I => ?_
           refine zk [11, 12, 13, 14, 15, 16, 17, 18, 19] I fun I => ?_
           exact zret I fun Al W I => d0v (k := 4) rfl I.below
       · have hex : f.ext = true := by simpa using hex
         have hhid : f.hid = false := by unfold Fm.hid; rw [f1, hex]; rfl
         have hl63 : (dig B32 (2 ^ 63)).length ≤ 2 := b0d (n := 64) (by omega) (by omega)
         by_cases h0 : x = 2 ^ 63
         · have hD : f.dec g e x = ⟨3, 0, 0⟩ := by unfold Fm.dec; rw [if_neg f2, if_pos ⟨f1, hl⟩, if_pos (.inr ⟨hex, h0⟩)]
           have hcm : cmpN x (2 ^ 63) = 0 := by rw [h0]; unfold cmpN; simp
           rw [hD]
           generalize 2 ^ f.E = P at *
           have I := Inv.start w [ownF base .u32 143 p c (dig B32 x)] ⟨hp, True.intro⟩
           refine a0h [.v (.agg #[.int .i64 (f.size : Int), .int .i64 (f.E : Int), .int .i64 (f.F : Int), .int .i64 f.g.rad, .int .i64 f.g.digs, .int .i64 f.g.lo, .int .i64 f.g.hi, .bool f.g.grad, .bool f.hid, .bool f.inf, .bool f.res, .func (.func (ordF f)) #[] #[]]), .v (.agg #[.bool g, .int .i64 (e : Int), .slice p (dig B32 x).length c])] I Tryz.func149 ?_
           refine zbin I 11 _ (fun _ _ _ _ _ => c0z .i64 (1) .i64 (f.E : Int) ((P : Int)) (by omega) ((HSH.out))) fun Al W I => ?_
           refine zi I 12 .i64 ((P : Int) - 1) (((P - 1 : Nat) : Int)) ((by rw [show ((P : Int) - 1) = ((P - 1 : Nat) : Int) by omega]; exact iwo)) fun Al W I => ?_
           refine zb I 20 (f.g.rad == 16) (false) (hr) fun Al W I => ?_
           refine zb I 29 (f.inf) (true) (hinf) fun Al W I => ?_
           refine zb I 34 ((e : Int) == ((P - 1 : Nat) : Int)) (true) (beq_iff_eq.2 (by omega)) fun Al W I => ?_
           refine zd [] I fun Al W I => ?_
           refine zk [0] I fun I => ?_
           refine zkb 1 I (f.hid) (false) (hhid) fun I => ?_
           refine zk [2, 3, 4, 5, 6, 7, 8, 9] I fun I => ?_
           refine zkb 10 I (f.hid) (false) (hhid) fun I => ?_
           refine zk [11, 12, 13, 14] I fun I => ?_
           refine zo 15 I fun I => ?_
           refine zqo I (fun Al W I => have hzW := I.bel.size; g0k 63 (2 ^ 63) 63 W (by omega) rfl rfl) fun Al W p51 c51 I => ?_
           refine zo 16 I fun I => ?_
           refine zq I (fun Al W I => have hzW := I.bel.size; f0d p p51 _ _ c c51 x (2 ^ 63) W I.fa.2.1.rd I.fa.1.rd rfl rfl (by omega) (by omega)) fun Al W I => ?_
           refine zkb 17 I ((cmpN x (2 ^ 63)) == 0) (true) (by rw [hcm]; rfl) fun I => ?_
           refine zk [18, 19] I fun I => ?_
           exact zret I fun Al W I => d0v (k := 3) rfl I.below
         · have hD : f.dec g e x = ⟨4, 0, 0⟩ := by unfold Fm.dec; rw [if_neg f2, if_pos ⟨f1, hl⟩, if_neg (by simp [hex]; omega)]
           have hcm : (cmpN x (2 ^ 63) == 0) = false := by rw [beq_eq_false_iff_ne]; intro h; exact h0 (u0i h)
           rw [hD]
           generalize 2 ^ f.E = P at *
           have I := Inv.start w [ownF base .u32 143 p c (dig B32 x)] ⟨hp, True.intro⟩
           refine a0h [.v (.agg #[.int .i64 (f.size : Int), .int .i64 (f.E : Int), .int .i64 (f.F : Int), .int .i64 f.g.rad, .int .i64 f.g.digs, .int .i64 f.g.lo, .int .i64 f.g.hi, .bool f.g.grad, .bool f.hid, .bool f.inf, .bool f.res, .func (.func (ordF f)) #[] #[]]), .v (.agg #[.bool g, .int .i64 (e : Int), .slice p (dig B32 x).length c])] I Tryz.func149 ?_
           refine zbin I 11 _ (fun _ _ _ _ _ => c0z .i64 (1) .i64 (f.E : Int) ((P : Int)) (by omega) ((HSH.out))) fun Al W I => ?_
           refine zi I 12 .i64 ((P : Int) - 1) (((P - 1 : Nat) : Int)) ((by rw [show ((P : Int) - 1) = ((P - 1 : Nat) : Int) by omega]; exact iwo)) fun Al W I => ?_
           refine zb I 20 (f.g.rad == 16) (false) (hr) fun Al W I => ?_
           refine zb I 29 (f.inf) (true) (hinf) fun Al W I => ?_
           refine zb I 34 ((e : Int) == ((P - 1 : Nat) : Int)) (true) (beq_iff_eq.2 (by omega)) fun Al W I => ?_
           refine zd [] I fun Al W I => ?_
           refine zk [0] I fun I => ?_
           refine zkb 1 I (f.hid) (false) (hhid) fun I => ?_
           refine zk [2, 3, 4, 5, 6, 7, 8, 9] I fun I => ?_
           refine zkb 10 I (f.hid) (false) (hhid) fun I => ?_
           refine zk [11, 12, 13, 14] I fun I => ?_
           refine zo 15 I fun I => ?_
           refine zqo I (fun Al W I => have hzW := I.bel.size; g0k 63 (2 ^ 63) 63 W (by omega) rfl rfl) fun Al W p51 c51 I => ?_
           refine zo 16 I fun I => ?_
           refine zq I (fun Al W I => have hzW := I.bel.size; f0d p p51 _ _ c c51 x (2 ^ 63) W I.fa.2.1.rd I.fa.1.rd rfl rfl (by omega) (by omega)) fun Al W I => ?_
           refine zkb 17 I ((cmpN x (2 ^ 63)) == 0) (false) (hcm) fun I => ?_
           refine zk [18, 19] I fun I => ?_
           exact zret I fun Al W I => d0v (k := 4) rfl I.below
     · by_cases h0 : e = 0
       · have hD : f.dec g e x = ⟨2, x, f.g.lo⟩ := by unfold Fm.dec; rw [if_neg f2, if_neg (fun h => hl h.2), if_neg (by omega), if_pos h0]
         rw [hD]
         generalize 2 ^ f.E = P at *
         have I := Inv.start w [ownF base .u32 143 p c (dig B32 x)] ⟨hp, True.intro⟩
         refine a0h [.v (.agg #[.int .i64 (f.size : Int), .int .i64 (f.E : Int), .int .i64 (f.F : Int), .int .i64 f.g.rad, .int .i64 f.g.digs, .int .i64 f.g.lo, .int .i64 f.g.hi, .bool f.g.grad, .bool f.hid, .bool f.inf, .bool f.res, .func (.func (ordF f)) #[] #[]]), .v (.agg #[.bool g, .int .i64 (e : Int), .slice p (dig B32 x).length c])] I Tryz.func149 ?_
         refine zbin I 11 _ (fun _ _ _ _ _ => c0z .i64 (1) .i64 (f.E : Int) ((P : Int)) (by omega) ((HSH.out))) fun Al W I => ?_
         refine zi I 12 .i64 ((P : Int) - 1) (((P - 1 : Nat) : Int)) ((by rw [show ((P : Int) - 1) = ((P - 1 : Nat) : Int) by omega]; exact iwo)) fun Al W I => ?_
         refine zb I 20 (f.g.rad == 16) (false) (hr) fun Al W I => ?_
         refine zb I 29 (f.inf) (true) (hinf) fun Al W I => ?_
         refine zb I 34 ((e : Int) == ((P - 1 : Nat) : Int)) (false) (bFn (by omega)) fun Al W I => ?_
         refine zb I 59 ((e : Int) == 0) (true) (beq_iff_eq.2 (by omega)) fun Al W I => ?_
         refine zb I 62 (f.res) (false) (hres) fun Al W I => ?_
         refine zb I 69 ((e : Int) == 0) (true) (beq_iff_eq.2 (by omega)) fun Al W I => ?_
         refine zd [] I fun Al W I => ?_
         refine zk [0, 1, 2, 3, 4, 5] I fun I => ?_
         exact zret I fun Al W I => ⟨p, c, rfl, I.fa.1, I.below⟩
       · by_cases hex : f.ext = false
         · have hhid : f.hid = true := by unfold Fm.hid; rw [f1, hex]; rfl
           have hD : f.dec g e x = ⟨2, x + 2 ^ f.F, f.g.lo + e - 1⟩ := by unfold Fm.dec; rw [if_neg f2, if_neg (fun h => hl h.2), if_neg (by omega), if_neg h0, if_pos hex]
           have hlF : (dig B32 (2 ^ f.F)).length ≤ 3 := b0d (n := f.F + 1) (Nat.pow_lt_pow_right (by omega) (by omega)) (by omega)
           rw [hD]
           generalize 2 ^ f.E = P at *
           have I := Inv.start w [ownF base .u32 143 p c (dig B32 x)] ⟨hp, True.intro⟩
           refine a0h [.v (.agg #[.int .i64 (f.size : Int), .int .i64 (f.E : Int), .int .i64 (f.F : Int), .int .i64 f.g.rad, .int .i64 f.g.digs, .int .i64 f.g.lo, .int .i64 f.g.hi, .bool f.g.grad, .bool f.hid, .bool f.inf, .bool f.res, .func (.func (ordF f)) #[] #[]]), .v (.agg #[.bool g, .int .i64 (e : Int), .slice p (dig B32 x).length c])] I Tryz.func149 ?_
           refine zbin I 11 _ (fun _ _ _ _ _ => c0z .i64 (1) .i64 (f.E : Int) ((P : Int)) (by omega) ((HSH.out))) fun Al W I => ?_
           refine zi I 12 .i64 ((P : Int) - 1) (((P - 1 : Nat) : Int)) ((by rw [show ((P : Int) - 1) = ((P - 1 : Nat) : Int) by omega]; exact iwo)) fun Al W I => ?_
           refine zb I 20 (f.g.rad == 16) (false) (hr) fun Al W I => ?_
           refine zb I 29 (f.inf) (true) (hinf) fun Al W I => ?_
           refine zb I 34 ((e : Int) == ((P - 1 : Nat) : Int)) (false) (bFn (by omega)) fun Al W I => ?_
           refine zb I 59 ((e : Int) == 0) (false) (bFn (by omega)) fun Al W I => ?_
           refine zb I 69 ((e : Int) == 0) (false) (bFn (by omega)) fun Al W I => ?_
           refine zb I 75 (f.hid) (true) (hhid) fun Al W I => ?_
           refine zd [] I fun Al W I => ?_
           refine zk [0, 1, 2, 3, 6, 7, 8] I fun I => ?_
           refine zki 9 I .i64 (f.g.lo + (e : Int)) (f.g.lo + (e : Int)) (iwo) fun I => ?_
           refine zki 10 I .i64 ((f.g.lo + (e : Int)) - 1) ((f.g.lo + (e : Int)) - 1) (iwo) fun I => ?_
           refine zo 4 I fun I => ?_
           refine zqo I (fun Al W I => have hzW := I.bel.size; g0k f.F (2 ^ f.F) _ W (by omega) rfl rfl) fun Al W p80 c80 I => ?_
           refine zo 5 I fun I => ?_
           refine zqo I (fun Al W I => have hzW := I.bel.size; sadd p p80 _ _ c c80 x (2 ^ f.F) (x + 2 ^ f.F) W I.fa.2.1.rd I.fa.1.rd rfl rfl (by omega) (by omega) rfl) fun Al W p81 c81 I => ?_
           refine zk [11, 12, 13] I fun I => ?_
           exact zret I fun Al W I => ⟨p81, c81, rfl, I.fa.1.mono (by omega), I.below⟩
         · have hex : f.ext = true := by simpa using hex
           have hhid : f.hid = false := by unfold Fm.hid; rw [f1, hex]; rfl
           by_cases h63 : x < 2 ^ 63
           · have hD : f.dec g e x = ⟨4, 0, 0⟩ := by unfold Fm.dec; rw [if_neg f2, if_neg (fun h => hl h.2), if_neg (by omega), if_neg h0, if_neg (by simp [hex]), if_pos h63]
             have hbl : blen x < 64 := by have := (b0h x 63).2 h63; omega
             rw [hD]
             generalize 2 ^ f.E = P at *
             have I := Inv.start w [ownF base .u32 143 p c (dig B32 x)] ⟨hp, True.intro⟩
             refine a0h [.v (.agg #[.int .i64 (f.size : Int), .int .i64 (f.E : Int), .int .i64 (f.F : Int), .int .i64 f.g.rad, .int .i64 f.g.digs, .int .i64 f.g.lo, .int .i64 f.g.hi, .bool f.g.grad, .bool f.hid, .bool f.inf, .bool f.res, .func (.func (ordF f)) #[] #[]]), .v (.agg #[.bool g, .int .i64 (e : Int), .slice p (dig B32 x).length c])] I Tryz.func149 ?_
             refine zbin I 11 _ (fun _ _ _ _ _ => c0z .i64 (1) .i64 (f.E : Int) ((P : Int)) (by omega) ((HSH.out))) fun Al W I => ?_
             refine zi I 12 .i64 ((P : Int) - 1) (((P - 1 : Nat) : Int)) ((by rw [show ((P : Int) - 1) = ((P - 1 : Nat) : Int) by omega]; exact iwo)) fun Al W I => ?_
             refine zb I 20 (f.g.rad == 16) (false) (hr) fun Al W I => ?_
             refine zb I 29 (f.inf) (true) (hinf) fun Al W I => ?_
             refine zb I 34 ((e : Int) == ((P - 1 : Nat) : Int)) (false) (bFn (by omega)) fun Al W I => ?_
             refine zb I 59 ((e : Int) == 0) (false) (bFn (by omega)) fun Al W I => ?_
             refine zb I 69 ((e : Int) == 0) (false) (bFn (by omega)) fun Al W I => ?_
             refine zb I 75 (f.hid) (false) (hhid) fun Al W I => ?_
             refine zq I (fun Al W I => have hzW := I.bel.size; stay (g0j p _ c x W I.fa.1.rd rfl (by omega))) fun Al W I => ?_
             refine zb I 91 (decide (((blen x : Nat) : Int) < 64)) (true) (dTr (by omega)) fun Al W I => ?_
             exact zret I fun Al W I => d0v (k := 4) rfl I.below
           · have hD : f.dec g e x = ⟨2, x, f.g.lo + e - 1⟩ := by unfold Fm.dec; rw [if_neg f2, if_neg (fun h => hl h.2), if_neg (by omega), if_neg h0, if_neg (by simp [hex]), if_neg h63]
             have hbl : 64 ≤ blen x := by have := (b0h x 63).1; omega
             rw [hD]
             generalize 2 ^ f.E = P at *
             have I := Inv.start w [ownF base .u32 143 p c (dig B32 x)] ⟨hp, True.intro⟩
             refine a0h [.v (.agg #[.int .i64 (f.size : Int), .int .i64 (f.E : Int), .int .i64 (f.F : Int), .int .i64 f.g.rad, .int .i64 f.g.digs, .int .i64 f.g.lo, .int .i64 f.g.hi, .bool f.g.grad, .bool f.hid, .bool f.inf, .bool f.res, .func (.func (ordF f)) #[] #[]]), .v (.agg #[.bool g, .int .i64 (e : Int), .slice p (dig B32 x).length c])] I Tryz.func149 ?_
             refine zbin I 11 _ (fun _ _ _ _ _ => c0z .i64 (1) .i64 (f.E : Int) ((P : Int)) (by omega) ((HSH.out))) fun Al W I => ?_
             refine zi I 12 .i64 ((P : Int) - 1) (((P - 1 : Nat) : Int)) ((by rw [show ((P : Int) - 1) = ((P - 1 : Nat) : Int) by omega]; exact iwo)) fun Al W I => ?_
             refine zb I 20 (f.g.rad == 16) (false) (hr) fun Al W I => ?_
             refine zb I 29 (f.inf) (true) (hinf) fun Al W I => ?_
             refine zb I 34 ((e : Int) == ((P - 1 : Nat) : Int)) (false) (bFn (by omega)) fun Al W I => ?_
             refine zb I 59 ((e : Int) == 0) (false) (bFn (by omega)) fun Al W I => ?_
             refine zb I 69 ((e : Int) == 0) (false) (bFn (by omega)) fun Al W I => ?_
             refine zb I 75 (f.hid) (false) (hhid) fun Al W I => ?_
             refine zq I (fun Al W I => have hzW := I.bel.size; stay (g0j p _ c x W I.fa.1.rd rfl (by omega))) fun Al W I => ?_
             refine zb I 91 (decide (((blen x : Nat) : Int) < 64)) (false) (dFa (by omega)) fun Al W I => ?_
             refine zd [] I fun Al W I => ?_
             refine zk [0, 1, 2, 3, 4] I fun I => ?_
             refine zki 5 I .i64 (f.g.lo + (e : Int)) (f.g.lo + (e : Int)) (iwo) fun I => ?_
             refine zki 6 I .i64 ((f.g.lo + (e : Int)) - 1) ((f.g.lo + (e : Int)) - 1) (iwo) fun I => ?_
             refine zk [7, 8, 9] I fun I => ?_
             exact zret I fun Al W I => ⟨p, c, rfl, I.fa.1, I.below⟩
   · have f3 : f.fam = 3 := by have := G.fam; omega
     have hex : f.ext = false := by
      cases hh : f.ext with
      | false => rfl
      | true => exact absurd (G.ext hh).1 f1
     have hinf : f.inf = false := by unfold Fm.inf; rw [f3]; rfl
     have hres : f.res = true := by unfold Fm.res; rw [f3]; rfl
     have hhid : f.hid = true := by unfold Fm.hid; rw [f3, hex]; rfl
     by_cases h0 : e = 0
     · cases g with
       | true =>
        have hD : f.dec true e x = ⟨5, 0, 0⟩ := by unfold Fm.dec; rw [if_neg f2, if_neg (fun h => f1 h.1), if_pos ⟨f3, h0⟩, if_pos rfl]
        rw [hD]
        generalize 2 ^ f.E = P at *
        have I := Inv.start w [] True.intro
        refine a0h [.v (.agg #[.int .i64 (f.size : Int), .int .i64 (f.E : Int), .int .i64 (f.F : Int), .int .i64 f.g.rad, .int .i64 f.g.digs, .int .i64 f.g.lo, .int .i64 f.g.hi, .bool f.g.grad, .bool f.hid, .bool f.inf, .bool f.res, .func (.func (ordF f)) #[] #[]]), .v (.agg #[.bool true, .int .i64 (e : Int), .slice p (dig B32 x).length c])] I Tryz.func149 ?_
        refine zbin I 11 _ (fun _ _ _ _ _ => c0z .i64 (1) .i64 (f.E : Int) ((P : Int)) (by omega) ((HSH.out))) fun Al W I => ?_
        refine zi I 12 .i64 ((P : Int) - 1) (((P - 1 : Nat) : Int)) ((by rw [show ((P : Int) - 1) = ((P - 1 : Nat) : Int) by omega]; exact iwo)) fun Al W I => ?_
        refine zb I 20 (f.g.rad == 16) (false) (hr) fun Al W I => ?_
        refine zb I 29 (f.inf) (false) (hinf) fun Al W I => ?_
        refine zb I 59 ((e : Int) == 0) (true) (beq_iff_eq.2 (by omega)) fun Al W I => ?_
        refine zb I 62 (f.res) (true) (hres) fun Al W I => ?_
        exact zret I fun Al W I => d0v (k := 5) rfl I.below
       | false =>
        have hD : f.dec false e x = ⟨1, 0, 0⟩ := by unfold Fm.dec; rw [if_neg f2, if_neg (fun h => f1 h.1), if_pos ⟨f3, h0⟩, if_neg (by simp)]
        rw [hD]
        generalize 2 ^ f.E = P at *
        have I := Inv.start w [] True.intro
        refine a0h [.v (.agg #[.int .i64 (f.size : Int), .int .i64 (f.E : Int), .int .i64 (f.F : Int), .int .i64 f.g.rad, .int .i64 f.g.digs, .int .i64 f.g.lo, .int .i64 f.g.hi, .bool f.g.grad, .bool f.hid, .bool f.inf, .bool f.res, .func (.func (ordF f)) #[] #[]]), .v (.agg #[.bool false, .int .i64 (e : Int), .slice p (dig B32 x).length c])] I Tryz.func149 ?_
        refine zbin I 11 _ (fun _ _ _ _ _ => c0z .i64 (1) .i64 (f.E : Int) ((P : Int)) (by omega) ((HSH.out))) fun Al W I => ?_
        refine zi I 12 .i64 ((P : Int) - 1) (((P - 1 : Nat) : Int)) ((by rw [show ((P : Int) - 1) = ((P - 1 : Nat) : Int) by omega]; exact iwo)) fun Al W I => ?_
        refine zb I 20 (f.g.rad == 16) (false) (hr) fun Al W I => ?_
        refine zb I 29 (f.inf) (false) (hinf) fun Al W I => ?_
        refine zb I 59 ((e : Int) == 0) (true) (beq_iff_eq.2 (by omega)) fun Al W I => ?_
        refine zb I 62 (f.res) (true) (hres) fun Al W I => ?_
        exact zret I fun Al W I => d0v (k := 1) rfl I.below
     · have hD : f.dec g e x = ⟨2, x + 2 ^ f.F, f.g.lo + e - 1⟩ := by unfold Fm.dec; rw [if_neg f2, if_neg (fun h => f1 h.1), if_neg (fun h => h0 h.2), if_neg h0, if_pos hex]
       have hlF : (dig B32 (2 ^ f.F)).length ≤ 3 := b0d (n := f.F + 1) (Nat.pow_lt_pow_right (by omega) (by omega)) (by omega)
       rw [hD]
       generalize 2 ^ f.E = P at *
       have I := Inv.start w [ownF base .u32 143 p c (dig B32 x)] ⟨hp, True.intro⟩
       refine a0h [.v (.agg #[.int .i64 (f.size : Int), .int .i64 (f.E : Int), .int .i64 (f.F : Int), .int .i64 f.g.rad, .int .i64 f.g.digs, .int .i64 f.g.lo, .int .i64 f.g.hi, .bool f.g.grad, .bool f.hid, .bool f.inf, .bool f.res, .func (.func (ordF f)) #[] #[]]), .v (.agg #[.bool g, .int .i64 (e : Int), .slice p (dig B32 x).length c])] I Tryz.func149 ?_
       refine zbin I 11 _ (fun _ _ _ _ _ => c0z .i64 (1) .i64 (f.E : Int) ((P : Int)) (by omega) ((HSH.out))) fun Al W I => ?_
       refine zi I 12 .i64 ((P : Int) - 1) (((P - 1 : Nat) : Int)) ((by rw [show ((P : Int) - 1) = ((P - 1 : Nat) : Int) by omega]; exact iwo)) fun Al W I => ?_
       refine zb I 20 (f.g.rad == 16) (false) (hr) fun Al W I => ?_
       refine zb I 29 (f.inf) (false) (hinf) fun Al W I => ?_
       refine zb I 59 ((e : Int) == 0) (false) (bFn (by omega)) fun Al W I => ?_
       refine zb I 69 ((e : Int) == 0) (false) (bFn (by omega)) fun Al W I => ?_
       refine zb I 75 (f.hid) (true) (hhid) fun Al W I => ?_
       refine zd [] I fun Al W I => ?_
       refine zk [0, 1, 2, 3, 6, 7, 8] I fun I => ?_
       refine zki 9 I .i64 (f.g.lo + (e : Int)) (f.g.lo + (e : Int)) (iwo) fun I => ?_
       refine zki 10 I .i64 ((f.g.lo + (e : Int)) - 1) ((f.g.lo + (e : Int)) - 1) (iwo) fun I => ?_
       refine zo 4 I fun I => ?_
       refine zqo I (fun Al W I => have hzW := I.bel.size; g0k f.F (2 ^ f.F) _ W (by omega) rfl rfl) fun Al W p80 c80 I => ?_
       refine zo 5 I fun I => ?_
       refine zqo I (fun Al W I => have hzW := I.bel.size; sadd p p80 _ _ c c80 x (2 ^ f.F) (x + 2 ^ f.F) W I.fa.2.1.rd I.fa.1.rd rfl rfl (by omega) (by omega) rfl) fun Al W p81 c81 I => ?_
       refine zk [11, 12, 13] I fun I => ?_
       exact zret I fun Al W I => ⟨p81, c81, rfl, I.fa.1.mono (by omega), I.below⟩
theorem f1a (p : Option Addr) (c x : Nat) (pw : Int) (gg : Gd) (base : Nat) (w : World) (hp : Own w base .u32 143 p c (dig B32 x)) (hl : (dig B32 x).length ≤ 1000) (hpw : -100000 ≤ pw ∧ pw ≤ 100000) (hr : gg.rad = 2 ∨ gg.rad = 16) (hT : TabW w) :
 Calls Tryz.prog 150 #[.slice p (dig B32 x).length c, .int .i64 pw, .int .i64 gg.rad] w
  fun en w' => ∃ q d, en = .returned (.tuple #[.slice q (dig B32 (x / 2 ^ (tz x / wid gg * wid gg))).length d, .int .i64 (pw + (tz x / wid gg : Nat))]) ∧ Own w' w.heap.size .u32 143 q d (dig B32 (x / 2 ^ (tz x / wid gg * wid gg))) ∧ Below w.heap.size w w' := by
 have hz := r1n x hl
 rcases hr with hr | hr
 · have hw : wid gg = 1 := by unfold wid; rw [hr]; rfl
   rw [hw]
   generalize htz : tz x = z at *
   have HTZ := hi0 htz
   clear htz
   have I := Inv.start w [ownF base .u32 143 p c (dig B32 x), tabF] ⟨hp, hT, True.intro⟩
   refine a0h [.v (.slice p (dig B32 x).length c), .v (.int .i64 pw), .v (.int .i64 gg.rad)] I Tryz.func150 ?_
   refine zb I 11 (gg.rad == 16) (false) (by rw [hr]; rfl) fun Al W I => ?_
   refine zq I (fun Al W I => have hzW := I.bel.size; stay (k0a p _ c x W I.fa.1.rd rfl (by omega) I.fa.2.1)) fun Al W I => ?_
   refine zbin I 15 _ (fun _ _ _ _ _ => v0v .i64 ((tz x : Nat) : Int) (1) (((z / 1 : Nat) : Int)) ((by decide)) ((by rw [HTZ.out]; exact (IntWalk.i64_in _ (by simp; omega)).trans (by simp)))) fun Al W I => ?_
   refine zi I 19 .i64 (((z / 1 : Nat) : Int) * 1) (((z / 1 * 1 : Nat) : Int)) (((iwo).trans (by omega))) fun Al W I => ?_
   refine zqo I (fun Al W I => have hzW := I.bel.size; sshr p _ c x (z / 1 * 1) _ _ W I.fa.1.rd rfl (by have := I.fa.1.le_cap; omega) (by omega) (by omega) rfl rfl) fun Al W p20 c20 I => ?_
   refine zi I 23 .i64 (pw + ((z / 1 : Nat) : Int)) (pw + ((z / 1 : Nat) : Int)) (iwo) fun Al W I => ?_
   exact zret I fun Al W I => ⟨p20, c20, rfl, I.fa.1.mono (by omega), I.below⟩
 · have hw : wid gg = 4 := by unfold wid; rw [hr]; rfl
   rw [hw]
   generalize htz : tz x = z at *
   have HTZ := hi0 htz
   clear htz
   have I := Inv.start w [ownF base .u32 143 p c (dig B32 x), tabF] ⟨hp, hT, True.intro⟩
   refine a0h [.v (.slice p (dig B32 x).length c), .v (.int .i64 pw), .v (.int .i64 gg.rad)] I Tryz.func150 ?_
   refine zb I 11 (gg.rad == 16) (true) (by rw [hr]; rfl) fun Al W I => ?_
   refine zq I (fun Al W I => have hzW := I.bel.size; stay (k0a p _ c x W I.fa.1.rd rfl (by omega) I.fa.2.1)) fun Al W I => ?_
   refine zbin I 15 _ (fun _ _ _ _ _ => v0v .i64 ((tz x : Nat) : Int) (4) (((z / 4 : Nat) : Int)) ((by decide)) ((by rw [HTZ.out, show (z : Int).tdiv 4 = ((z / 4 : Nat) : Int) by rw [Int.tdiv_eq_ediv_of_nonneg (by omega)]; rfl]; exact iwo))) fun Al W I => ?_
   refine zi I 19 .i64 (((z / 4 : Nat) : Int) * 4) (((z / 4 * 4 : Nat) : Int)) (((iwo).trans (by omega))) fun Al W I => ?_
   refine zqo I (fun Al W I => have hzW := I.bel.size; sshr p _ c x (z / 4 * 4) _ _ W I.fa.1.rd rfl (by have := I.fa.1.le_cap; omega) (by omega) (by omega) rfl rfl) fun Al W p20 c20 I => ?_
   refine zi I 23 .i64 (pw + ((z / 4 : Nat) : Int)) (pw + ((z / 4 : Nat) : Int)) (iwo) fun Al W I => ?_
   exact zret I fun Al W I => ⟨p20, c20, rfl, I.fa.1.mono (by omega), I.below⟩
end Go.Proofs.YtbamiajjampgnaaGreatDoor
namespace Go.Slip
open Go.RowKit
/-! ### Slices of structs -/
def OwnS (w : World) (base : Nat) (e : TypeId) (s : Nat) (p : Option Addr) (c n : Nat) (vs : List Value) : Prop := w.ownsRow base e s (.slice p n c) n vs
theorem OwnS.nil (w : World) (base : Nat) (e : TypeId) (s : Nat) : OwnS w base e s none 0 0 [] := World.ownsRow_nil w base e s
section
variable {w w' : World} {base : Nat} {e : TypeId} {s : Nat} {p : Option Addr} {c n : Nat} {vs : List Value}
theorem OwnS.form (h : OwnS w base e s p c n vs) : (p = none ∧ c = 0 ∧ n = 0 ∧ vs = []) ∨ ∃ g, p = some ⟨g, 0, none⟩ ∧ base ≤ g ∧ g < w.heap.size ∧ n ≤ c ∧ c ≤ maxLen := by
 rcases h.2 with ⟨h1, h2⟩ | ⟨g, cap, cur, hv, hb, hg, hn, hc, _, _⟩
 · left
   simp only [Value.slice.injEq] at h1
   refine ⟨h1.1, h1.2.2, h2, List.eq_nil_of_length_eq_zero ?_⟩
   rw [h.1, h2, Nat.zero_mul]
 · right
   simp only [Value.slice.injEq] at hv
   obtain ⟨rfl, _, rfl⟩ := hv
   exact ⟨g, rfl, hb, (Array.getElem?_eq_some_iff.1 hg).1, hn, hc⟩
theorem OwnS.blk_lt (h : OwnS w base e s p c n vs) (hp : p.isSome = true) : base ≤ blk p ∧ blk p < w.heap.size := by
 rcases h.form with ⟨rfl, _, _, rfl⟩ | ⟨g, rfl, h1, h2, _⟩
 · simp at hp
 · exact ⟨h1, h2⟩
theorem OwnS.mono {b' : Nat} (h : OwnS w base e s p c n vs) (hb : b' ≤ base) : OwnS w b' e s p c n vs := by
 refine ⟨h.1, ?_⟩
 rcases h.2 with h1 | ⟨g, cap, cur, hv, hbg, r⟩
 · exact .inl h1
 · exact .inr ⟨g, cap, cur, hv, by omega, r⟩
theorem OwnS.same (h : OwnS w base e s p c n vs) (hb : p.isSome = true → w'.heap[blk p]? = w.heap[blk p]?) : OwnS w' base e s p c n vs := by
 refine ⟨h.1, ?_⟩
 rcases h.2 with h1 | ⟨g, cap, cur, hv, hbg, hg, r⟩
 · exact .inl h1
 · simp only [Value.slice.injEq] at hv
   obtain ⟨rfl, h2, rfl⟩ := hv
   exact .inr ⟨g, c, cur, rfl, hbg, by rw [← hg]; exact hb rfl, r⟩
theorem OwnS.cell (h : OwnS w base e s p c n vs) {j : Nat} {u : Value} (hu : vs[j]? = some u) : w.cell? (at_ p j) = some u := by
 rcases h.form with ⟨_, _, _, rfl⟩ | ⟨g, rfl, _⟩
 · simp at hu
 · have := World.ownsRow.cells h (g := g) rfl j u hu
   rw [← this]
   unfold at_ Addr.add
   split <;> simp_all
theorem OwnS.solid (h : OwnS w base e s p c n vs) : i0w p n := by
 rcases h.form with ⟨_, _, rfl, _⟩ | ⟨g, rfl, _⟩
 · exact fun h => by simp at h
 · exact fun _ => ⟨rfl, rfl⟩
theorem OwnS.far (h : OwnS w base e s p c n vs) {b : Nat} {t : TypeId} {us : Array Value} (hX : Bt w b t us) (hne : Nat.beq t e = false) (hp : p.isSome = true) : blk p ≠ b := by
 rcases h.2 with ⟨h1, h2⟩ | ⟨g, cap, cur, hv, hb, hg, _⟩
 · simp only [Value.slice.injEq] at h1
   rw [h1.1] at hp; cases hp
 · simp only [Value.slice.injEq] at hv
   intro hE
   rw [hv.1] at hE
   have hE2 : g = b := hE
   subst hE2
   have hE3 := hg.symm.trans hX
   simp only [Option.some.injEq, Obj.cells.injEq] at hE3
   rw [hE3.2.1] at hne
   simp at hne
end
def q1a (b : Nat) (e : TypeId) (s : Nat) (p : Option Addr) (c n : Nat) (vs : List Value) : PF :=
 ⟨fun w => OwnS w b e s p c n vs, fun a => p.isSome = true ∧ blk p = a, fun _ _ h hb _ => h.same fun hp => hb _ (h.blk_lt hp).2 ⟨hp, rfl⟩, fun _ _ h hf => hf.2 ▸ (h.blk_lt hf.1).2⟩
section
variable {P : Program} {w : World}
end
section
variable {P : Program} {ops : Array Oper} {rest : List Oper} {o : Oper} {a : Act} {Q : Exit → Act → World → Prop} {w : World} {K : Act → World → Prop}
end
/-! ### A block that was handed in -/
theorem Bt.far {w : World} {b b' : Nat} {t t' : TypeId} {vs us : Array Value} (h : Bt w b t vs) (hX : Bt w b' t' us) (hne : Nat.beq t t' = false) : ¬ (b = b') := by
 intro e
 subst e
 have := h.symm.trans hX
 simp only [Option.some.injEq, Obj.cells.injEq] at this
 rw [this.2.1] at hne
 simp at hne
def btF (b : Nat) (t : TypeId) (vs : Array Value) : PF :=
 ⟨fun w => Bt w b t vs, fun a => b = a, fun _ _ h hb _ => (hb b h.lt rfl).trans h, fun _ _ h hf => hf ▸ h.lt⟩
/-! ### Steps -/
def f1b : List Box → Bool
 | [] => true
 | b :: l => match b.ro with | true => false | false => f1b l
theorem n0x : ∀ {l : List Box}, f1b l = true → ∀ k, k < l.length → (lk bx0 l k).ro = false
 | [], _, _, h => by simp at h
 | b :: l, h, k, hk => by
  unfold f1b at h
  split at h
  · cases h
  · rename_i hb
    cases k with
    | zero => exact hb
    | succ k => exact n0x h k (by simpa using hk)
section
variable {P : Program} {Q : Exit → Act → World → Prop} {E : List Nat} {w0 : World} {A : List Nat} {fs : List PF} {W V : World} {c : Cfg}
theorem Inv.grown {W' : World} {bx : List Box} {b : Nat} {e : TypeId} {s : Nat} {p p' : Option Addr} {cc c' n n' : Nat} {vs vs' : List Value} (I : Inv E w0 A bx (q1a b e s p cc n vs :: fs) W) (hb : w0.heap.size ≤ b) (hrw : f1b bx = true)
 (hO : OwnS W' b e s p' c' n' vs') (hg : W.grownBy W' (p.map (·.block))) (hat : p'.isSome = true → (p.isSome = true ∧ blk p' = blk p) ∨ blk p' = W.heap.size) (hfar : p.isSome = true → PF.far (blk p) fs) :
 Inv E w0 A bx (q1a b e s p' c' n' vs' :: fs) W' := by
 have hrow := I.fa.1
 have hne : ∀ k, p.map (·.block) = some k → p.isSome = true ∧ blk p = k := fun k h => by
  cases p with
  | none => cases h
  | some a => exact ⟨rfl, Option.some.inj h⟩
 have keep : ∀ k, k < W.heap.size → (p.isSome = true → blk p ≠ k) → W'.heap[k]? = W.heap[k]? := fun k hk h => hg.block k hk fun e => by
  obtain ⟨h1, h2⟩ := hne k e.symm
  exact h h1 h2
 refine ⟨⟨hg.os.trans I.bel.os, hg.tape.trans I.bel.tape, hg.output.trans I.bel.output, Nat.le_trans I.bel.size hg.size, fun k hk hkE => ?_⟩, I.ge, I.nd, I.len, I.pre, fun k hk => ?_, ⟨hO, ?_⟩, fun a ha => ⟨fun hf => ?_, (I.far a ha).2⟩⟩
 · rw [keep k (Nat.lt_of_lt_of_le hk I.bel.size) fun hp => by have := (hrow.blk_lt hp).1; omega]
   exact I.bel.block k hk hkE
 · have hF : Fa A bx (lk 0 A k) := ⟨k, hk, n0x hrw k hk, rfl⟩
   have h1 := I.bt k hk
   unfold Bt at h1 ⊢
   rw [keep _ (I.lt _ hF) fun hp e => (I.far _ hF).1 ⟨hp, e⟩]
   exact h1
 · refine PF.all_keep hg.size I.fa.2 fun k hk ha => keep k hk fun hp => ha _ (hfar hp)
 · rcases hat hf.1 with ⟨hp, h⟩ | h
   · exact (I.far a ha).1 ⟨hp, h.symm.trans hf.2⟩
   · have := I.lt a ha
     have := hf.2
     omega
theorem Inv.newb {bx : List Box} (I : Inv E w0 A bx fs V) (hb : Below V.heap.size V W) {b : Nat} {t : TypeId} {cs : List SV} (hge : V.heap.size ≤ b) (hB : Bt W b t (cs.map (SV.r A)).toArray) (h1 : wfL bx.length cs = true) (h2 : wfB bx.length bx = true) :
 Inv E w0 (A ++ [b]) (bx ++ [⟨t, cs, false⟩]) fs W := by
 have I' := I.past hb
 have hl : ∀ k, k < bx.length → lk 0 (A ++ [b]) k = lk 0 A k ∧ lk bx0 (bx ++ [⟨t, cs, false⟩]) k = lk bx0 bx k := fun k h => ⟨d0p 0 (by rw [I.len]; exact h), d0p bx0 h⟩
 have hn : lk 0 (A ++ [b]) bx.length = b ∧ lk bx0 (bx ++ [⟨t, cs, false⟩]) bx.length = ⟨t, cs, false⟩ := ⟨by rw [← I.len, d0z], d0z _⟩
 have hF : ∀ a, Fa (A ++ [b]) (bx ++ [⟨t, cs, false⟩]) a → Fa A bx a ∨ a = b := fun a ⟨k, hk, hr, e⟩ => by
  rw [List.length_append, List.length_singleton] at hk
  by_cases h : k < bx.length
  · rw [(hl k h).2] at hr
    rw [(hl k h).1] at e
    exact .inl ⟨k, h, hr, e⟩
  · obtain rfl : k = bx.length := by omega
    exact .inr (e.trans hn.1)
 refine ⟨I'.bel, fun a ha => ?_, fun i j hi hj hr hne => ?_, by simp [I.len], I.pre.trans (List.prefix_append _ _), fun k hk => ?_, I'.fa, fun a ha => ?_⟩
 · rcases hF a ha with h | rfl
   · exact I.ge a h
   · exact .inl (Nat.le_trans I.bel.size hge)
 · rw [List.length_append, List.length_singleton] at hi hj
   by_cases h : i < bx.length
   · rw [(hl i h).2] at hr
     by_cases h' : j < bx.length
     · rw [(hl i h).1, (hl j h').1]
       exact I.nd i j h h' hr hne
     · obtain rfl : j = bx.length := by omega
       rw [(hl i h).1, hn.1]
       have := (I.bt i h).lt
       omega
   · obtain rfl : i = bx.length := by omega
     have h' : j < bx.length := by omega
     rw [(hl j h').1, hn.1]
     have := (I.bt j h').lt
     omega
 · rw [List.length_append, List.length_singleton] at hk
   by_cases h : k < bx.length
   · rw [(hl k h).1, (hl k h).2]
     have := I'.bt k h
     unfold Box.row at this ⊢
     rw [o0r _ I.len (n0d h2 k)]
     exact this
   · obtain rfl : k = bx.length := by omega
     rw [hn.1, hn.2]
     unfold Box.row
     simp only
     rw [o0r _ I.len h1]
     exact hB
 · rcases hF a ha with h | rfl
   · exact I'.far a h
   · have : ∀ {l : List PF}, PF.all V l → PF.far a l := fun {l} hl => by
      induction l with
      | nil => exact True.intro
      | cons f l ih => exact ⟨fun hf => by have := f.lt V _ hl.1 hf; omega, ih hl.2⟩
     exact this I.fa
theorem q1b {A' : List Nat} {c' : Cfg} (hA : A <+: A') (he : act A c.fr = act A' c'.fr) (h1 : c'.rg = c.rg) (h2 : c'.ks = c.ks) (h : G P Q A' c' W) : G P Q A c W := by
 refine ⟨?_⟩
 have h := h.out
 unfold k1h at *
 obtain ⟨fr, bx, rg, ks⟩ := c
 obtain ⟨fr', bx', rg', ks'⟩ := c'
 simp only at *
 subst h1 h2
 rw [he]
 cases rg' with
 | off => exact h
 | pl => exact h
 | dr ops A0 m fuel listed => exact fun pre => h (pre.on hA)
 | one ops A0 m fuel listed i => exact fun pre => h (pre.on hA)
 | ret => exact h
theorem q1c {bxv : List Box} (I : Inv E w0 A bxv fs V) (hb : Below V.heap.size V W) (k b : Nat) (t : TypeId) (cs : List Value) (hge : V.heap.size ≤ b) (hB : Bt W b t cs.toArray)
 (h : ∀ A', lk 0 A' k = b → Inv E w0 A' (c.bx ++ [⟨t, cs.map .v, false⟩]) fs W → G P Q A' ⟨c.fr, c.bx ++ [⟨t, cs.map .v, false⟩], c.rg, c.ks⟩ W)
 (hbv : bxv = c.bx := by kernel_rfl) (hk : c.bx.length = k := by kernel_rfl) (h1 : wfL c.bx.length (cs.map SV.v) = true := by kernel_rfl) (h2 : wfB c.bx.length c.bx = true := by kernel_rfl) (h3 : wfL c.bx.length c.fr = true := by kernel_rfl) : G P Q A c W := by
 subst hbv
 have hcs : ∀ A, (cs.map SV.v).map (SV.r A) = cs := fun A => by
  rw [List.map_map]
  exact List.map_id _
 have I2 := I.newb hb (cs := cs.map SV.v) hge (by rw [hcs]; exact hB) h1 h2
 refine q1b (A' := A ++ [b]) (c' := ⟨c.fr, c.bx ++ [⟨t, cs.map .v, false⟩], c.rg, c.ks⟩) (List.prefix_append _ _) ?_ rfl rfl (h _ ?_ I2)
 · unfold act
   simp only
   rw [o0r _ I.len h3]
 · rw [← hk, ← I.len, d0z]
theorem q1d (I : Inv E w0 A c.bx fs W) (d k b : Nat) (hk : lk 0 A k = b) (h : ∀ A W, Inv E w0 A (putc (zr P (some d) c) (.p k 0)).bx fs W → G P Q A (putc (zr P (some d) c) (.p k 0)) W)
 (hkl : Nat.ble (k + 1) c.bx.length = true := by kernel_rfl)
 (hv : v0n P (zr P (some d) c) = some (.val (.v (.pointer (some ⟨b, 0, none⟩)))) := by kernel_rfl)
 (hc : ∀ A w, (f0t P (zr P (some d) c) A w).map (·.1) = (f0t P (zr P (some d) c) A w).map (·.2) := by intro _ _; kernel_rfl)
 (hr : ∀ A w, (zms P (some d) 5000 c A w).map (·.1) = (zms P (some d) 5000 c A w).map (·.2) := by intro _ _; kernel_rfl)
 (hm : ok1 (zr P (some d) c).rg (zr P (some d) c).bx = ok2 (zr P (some d) c).rg := by kernel_rfl) : G P Q A c W := by
 refine l0g 5000 I (fun A w => f0z (hr A w)) fun A' W' hA I' => ?_
 rw [← o1t] at I' ⊢
 refine o1w I' _ (.p k 0) ?_ (h A' W') hv (fun A w => f0z (hc A w)) hm
 show Value.pointer (some ⟨b, 0, none⟩) = .pointer (some ⟨lk 0 A' k, 0, none⟩)
 rw [y0d hA (by rw [I.len]; exact h0w hkl), hk]
theorem j0s {α : Type} (d : α) {l : List α} {n k : Nat} (h : k < n) : lk d (l.take n) k = lk d l k := by
 rw [e0v, e0v, List.getElem?_take, if_pos h]
theorem Inv.dropB {bx : List Box} (I : Inv E w0 A bx fs W) (n : Nat) (hE : E.length ≤ n) (hw : wfB n (bx.take n) = true) (hn : n ≤ bx.length) : Inv E w0 (A.take n) (bx.take n) fs W := by
 have hl : (bx.take n).length = n := by rw [List.length_take]; omega
 have hla : (A.take n).length = n := by rw [List.length_take, I.len]; omega
 have hF : ∀ a, Fa (A.take n) (bx.take n) a → Fa A bx a := fun a ⟨k, hk, hr, e⟩ => by
  rw [hl] at hk
  rw [j0s _ hk] at hr e
  exact ⟨k, by omega, hr, e⟩
 refine ⟨I.bel, fun a ha => I.ge a (hF a ha), fun i j hi hj hr hne => ?_, by rw [hl, hla], ?_, fun k hk => ?_, I.fa, fun a ha => I.far a (hF a ha)⟩
 · rw [hl] at hi hj
   rw [j0s _ hi] at hr
   rw [j0s _ hi, j0s _ hj]
   exact I.nd i j (by omega) (by omega) hr hne
 · exact List.prefix_take_iff.2 ⟨I.pre, hE⟩
 · rw [hl] at hk
   have h1 := I.bt k (by omega)
   rw [j0s _ hk, j0s _ hk]
   unfold Box.row at h1 ⊢
   have hw2 := n0d hw k
   rw [j0s _ hk] at hw2
   have h2 := o0r (A := A.take n) (A.drop n) hla hw2
   rw [List.take_append_drop] at h2
   rw [← h2]
   exact h1
theorem q1e (n : Nat) (I : Inv E w0 A c.bx fs W) (J : Act → World → Prop) {fr : (Nat → Value) → List SV} {bx : (Nat → Value) → List Box} (h : ∀ A W U, Inv E w0 A (bx U) fs W → J (act A (fr U)) W)
 (hr : ∀ A w, (zms P none 5000 c A w).map (·.1) = (zms P none 5000 c A w).map (·.2) := by intro _ _; kernel_rfl)
 (hf : ∀ A, (zr P none c).fr.map (SV.r A) = (fr (uOf (zr P none c) A)).map (SV.r A) := by intro _; kernel_rfl)
 (hb : ∀ A, (zr P none c).bx.take n = bx (uOf (zr P none c) A) := by intro _; kernel_rfl)
 (hw : ∀ U, wfL n (fr U) = true := by intro _; kernel_rfl) (hw2 : wfB n ((zr P none c).bx.take n) = true := by kernel_rfl) (hn : Nat.ble n (zr P none c).bx.length = true := by kernel_rfl) (hE : Nat.ble E.length n = true := by kernel_rfl)
 (hs : k1n (zr P none c) = some J := by kernel_rfl) : G P Q A c W :=
 b0u I hr fun A W I => by
  have I2 := I.dropB n (Nat.le_of_ble_eq_true hE) hw2 (Nat.le_of_ble_eq_true hn)
  rw [hb A] at I2
  have h := h (A.take n) W (uOf (zr P none c) A) I2
  have hf := hf A
  have hla : (A.take n).length = n := by rw [List.length_take, I.len]; exact Nat.min_eq_left (Nat.le_of_ble_eq_true hn)
  have h3 := o0r (A := A.take n) (A.drop n) hla (hw (uOf (zr P none c) A))
  rw [List.take_append_drop] at h3
  unfold act at h
  rw [← h3, ← hf] at h
  clear hb hf h3 hw hw2 hn I2
  generalize zr P none c = c at *
  refine ⟨?_⟩
  obtain ⟨cf, cb, rg, ks⟩ := c
  cases rg with
  | pl => cases hs
  | dr => cases hs
  | one => cases hs
  | ret => cases hs
  | off =>
   cases ks with
   | nil => cases hs
   | cons k ks =>
    cases k with
    | block => cases hs
    | code => cases hs
    | stop J' =>
     obtain rfl : J' = J := Option.some.inj hs
     exact h
end
end Go.Slip
namespace Go.Slip
open Go.RowKit Go.MapKept
def mapF (b : Nat) (es : Array MapEntry) (clock : Nat) : PF :=
 ⟨fun w => w.heap[b]? = some (.map es clock), fun a => b = a, fun _ _ h hb _ => (hb b (Array.getElem?_eq_some_iff.1 h).1 rfl).trans h, fun _ _ h hf => hf ▸ (Array.getElem?_eq_some_iff.1 h).1⟩
theorem s0f {w : World} {b base : Nat} {es : Array MapEntry} {clock : Nat} {k : IntKind} {e : TypeId} {q : Option Addr} {c : Nat} {xs : List Nat} (h : w.heap[b]? = some (.map es clock)) (o : Own w base k e q c xs) : ¬ (q.isSome = true ∧ blk q = b) := by
 rintro ⟨hq, he⟩
 rcases o.2 with ⟨h1, h2⟩ | ⟨g', cap', cur', hv', hb', hg', _⟩
 · simp only [Value.slice.injEq] at h1
   rw [h1.1] at hq; cases hq
 · simp only [Value.slice.injEq] at hv'
   rw [hv'.1] at he
   have hE : g' = b := he
   subst hE
   have := h.symm.trans hg'
   simp at this
section
variable {P : Program} {ops : Array Oper} {o : Oper} {a : Act} {Q : Exit → Act → World → Prop} {w w' : World} {K : Act → World → Prop}
theorem q1f (d : Option Tmp) (hd : o.dst = d) (v : Value) (hw : Region.wanted o (yielded ops a.tmps) = true) (hr : (execOp a.eval o).run P w = .ok (.value v) w') (h : K (a.put d v) w') : OpW P ops Q o K a w := by
 subst hd
 refine ⟨?_⟩
 rw [if_pos hw]
 unfold Oper.wp
 rw [hr]
 exact h
theorem f1c (d : Option Tmp) (hd : o.dst = d) (hw : Region.wanted o (yielded ops a.tmps) = true) (hr : (execOp a.eval o).run P w = .ok .skip w') (h : K (a.put d undef) w') : OpW P ops Q o K a w := by
 subst hd
 refine ⟨?_⟩
 rw [if_pos hw]
 unfold Oper.wp
 rw [hr]
 exact h
theorem s0g {ik : IntKind} {mt kt vt : TypeId} (hm : P.underlying mt = some (.map kt vt)) (hk : P.underlying kt = some (.int ik)) {b : Nat} {es : Array MapEntry} {clock : Nat} (hb : w.heap[b]? = some (.map es clock)) (k : Int) (v : Value)
 (hf : Instr.findNow (.int ik) (.int ik k) es.toList 0 = some none) :
 (Instr.mapUpdate mt (.map (some b)) (.int ik k) v).run P w = .ok () { w with heap := w.heap.setIfInBounds b (.map (es.push ⟨.int ik k, v, clock⟩) (clock + 1)) } := by
 simp [Instr.mapUpdate, run_underlying hm, MapKept.run_getObj_map hb, run_checkKey hk (k0t ik k), run_findKey hk hf, run_setObj_map _ hb, Result.andThen]
end
section
variable {P : Program} {Q : Exit → Act → World → Prop} {E : List Nat} {w0 : World} {A : List Nat} {fs : List PF} {W V : World} {c : Cfg}
def mkOf (c : Cfg) : Option TypeId :=
 match hdOp c with
 | some ⟨_, .makeMap t none, _, _, _, _⟩ => some t
 | _ => none
theorem zmkm (I : Inv E w0 A c.bx fs W) (t : TypeId) (h : ∀ A W b, w0.heap.size ≤ b → Inv E w0 A (putc (zr P none c) (.v (.map (some b)))).bx (mapF b #[] 0 :: fs) W → G P Q A (putc (zr P none c) (.v (.map (some b)))) W)
 (ho : mkOf (zr P none c) = some t := by kernel_rfl)
 (hr : ∀ A w, (zms P none 5000 c A w).map (·.1) = (zms P none 5000 c A w).map (·.2) := by intro _ _; kernel_rfl)
 (hm : ok1 (zr P none c).rg (zr P none c).bx = ok2 (zr P none c).rg := by kernel_rfl) : G P Q A c W :=
 b0u I hr fun A W I => by
  have h2 := h A
  clear hr h
  generalize zr P none c = c at *
  unfold mkOf hdOp at ho
  split at ho
  · rename_i hn'
    split at hn'
    · rename_i o' hn
      split at hn'
      · rename_i hw
        simp only [Option.some.injEq] at hn' ho
        subst hn' ho
        have hbl : Below W.heap.size W (W.alloc (.map #[] 0)) := (Below.refl _ _).alloc (Nat.le_refl _) _
        have hb : (W.alloc (.map #[] 0)).heap[W.heap.size]? = some (.map #[] 0) := by show (W.heap.push _)[_]? = _; simp
        have I2 := (I.past hbl).add (mapF W.heap.size #[] 0) hb (fun a ha hf => by have := I.lt a ha; have hf : W.heap.size = a := hf; omega)
        refine G_op (E := E) (w0 := w0) (fs := []) hn fun K hK => q1f _ rfl (.map (some W.heap.size)) (by rw [f0s]; exact hw) (w' := W.alloc (.map #[] 0)) ?_ ?_
        · unfold execOp
          simp only [Option.map_none, run_makeMap, Sem.run_bind, Result.andThen_ok, Sem.run_pure]
        · have h := h2 _ _ I.bel.size I2
          unfold putc at h
          rw [hn] at h
          have := hK A _ _ c.bx (List.prefix_refl _) (I2.pick []) hm h
          rw [show Value.map (some W.heap.size) = (SV.v (.map (some W.heap.size))).r A from rfl, d0n]
          exact this
      · cases hn'
    · cases hn'
  · cases ho
def q1g (c : Cfg) (A : List Nat) : Option (TypeId × Value × Value × Value) :=
 match hdOp c with
 | some ⟨_, .insert t m k x, _, _, _, _⟩ => some (t, evr A c.fr m, evr A c.fr k, evr A c.fr x)
 | _ => none
theorem zins {b : Nat} {es : Array MapEntry} {clock : Nat} (I : Inv E w0 A c.bx (mapF b es clock :: fs) W) {t : TypeId} {ik : IntKind} {kt vt : TypeId} (hmt : P.underlying t = some (.map kt vt)) (hk : P.underlying kt = some (.int ik)) (k : Int) (v : Value) (hge : w0.heap.size ≤ b)
 (hfar : ∀ A W, Inv E w0 A (zr P none c).bx (mapF b es clock :: fs) W → PF.far b fs)
 (h : ∀ A W, Inv E w0 A (putc (zr P none c) (.v undef)).bx (mapF b (es.push ⟨.int ik k, v, clock⟩) (clock + 1) :: fs) W → G P Q A (putc (zr P none c) (.v undef)) W)
 (hf : Instr.findNow (.int ik) (.int ik k) es.toList 0 = some none := by kernel_rfl)
 (ho : ∀ A, q1g (zr P none c) A = some (t, .map (some b), .int ik k, v) := by intro _; kernel_rfl)
 (hr : ∀ A w, (zms P none 5000 c A w).map (·.1) = (zms P none 5000 c A w).map (·.2) := by intro _ _; kernel_rfl)
 (hrw : f1b (zr P none c).bx = true := by kernel_rfl)
 (hm : ok1 (zr P none c).rg (zr P none c).bx = ok2 (zr P none c).rg := by kernel_rfl) : G P Q A c W :=
 b0u I hr fun A W I => by
  have ho2 := ho A
  have h2 := h A
  have hfar2 := hfar A W I
  clear hr h ho hfar
  generalize zr P none c = c at *
  unfold q1g hdOp at ho2
  split at ho2
  · rename_i hn'
    simp only [Option.some.injEq, Prod.mk.injEq] at ho2
    obtain ⟨rfl, o1, o2, o3⟩ := ho2
    split at hn'
    · rename_i o' hn
      split at hn'
      · rename_i hw
        simp only [Option.some.injEq] at hn'
        subst hn'
        have hb : W.heap[b]? = some (.map es clock) := I.fa.1
        have hbl := (Array.getElem?_eq_some_iff.1 hb).1
        have keep : ∀ j, j ≠ b → (W.heap.setIfInBounds b (.map (es.push ⟨.int ik k, v, clock⟩) (clock + 1)))[j]? = W.heap[j]? := fun j hj => Array.getElem?_setIfInBounds_ne (Ne.symm hj)
        have I2 : Inv E w0 A c.bx (mapF b (es.push ⟨.int ik k, v, clock⟩) (clock + 1) :: fs) { W with heap := W.heap.setIfInBounds b (.map (es.push ⟨.int ik k, v, clock⟩) (clock + 1)) } := by
         refine ⟨⟨I.bel.os, I.bel.tape, I.bel.output, by simp only [Array.size_setIfInBounds]; exact I.bel.size, fun j hj hjE => ?_⟩, I.ge, I.nd, I.len, I.pre, fun j hj => ?_, ⟨?_, ?_⟩, fun a ha => ⟨(I.far a ha).1, (I.far a ha).2⟩⟩
         · rw [keep j (by omega)]
           exact I.bel.block j hj hjE
         · have hF : Fa A c.bx (lk 0 A j) := ⟨j, hj, n0x hrw j hj, rfl⟩
           have h1 := I.bt j hj
           unfold Bt at h1 ⊢
           rw [keep _ (fun e => (I.far _ hF).1 e.symm)]
           exact h1
         · show (W.heap.setIfInBounds b _)[b]? = _
           simp [hbl]
         · refine PF.all_keep (by simp) I.fa.2 fun j hj ha => keep j fun e => ha _ hfar2 e.symm
        refine G_op (E := E) (w0 := w0) (fs := []) hn fun K hK => f1c _ rfl (by rw [f0s]; exact hw) (w' := { W with heap := W.heap.setIfInBounds b (.map (es.push ⟨.int ik k, v, clock⟩) (clock + 1)) }) ?_ ?_
        · rw [c0j]
          unfold execOp
          simp only [o1, o2, o3, Sem.run_bind, s0g hmt hk hb k v hf, Result.andThen_ok, Sem.run_pure]
        · have h := h2 _ I2
          unfold putc at h
          rw [hn] at h
          have := hK A _ _ c.bx (List.prefix_refl _) (I2.pick []) hm h
          rw [show undef = (SV.v undef).r A from rfl, d0n]
          exact this
      · cases hn'
    · cases hn'
  · cases ho2
theorem q1h {ik : IntKind} {t kt vt : TypeId} (hm : P.underlying t = some (.map kt vt)) (hk : P.underlying kt = some (.int ik)) {b : Nat} {es : Array MapEntry} {clock : Nat} (hb : W.heap[b]? = some (.map es clock)) (k : Int) {v : Value} (hf : ∃ i, Instr.findNow (.int ik) (.int ik k) es.toList 0 = some (some (i, v))) :
 (VO.lk t (.map (some b)) (.int ik k) false).sem.run P W = .ok v W := by
 obtain ⟨i, hf⟩ := hf
 exact g0l hm hk hb k hf
end
end Go.Slip
namespace Go.Proofs.YtbamiajjampgnaaGreatDoor
open Go.RowKit Go.Slip
def w0u (w : World) (v : Vl) (g : Bool) (en : Ending) (w' : World) : Prop :=
 ∃ p c, en = .returned (.tuple #[.agg #[.int .i64 (v.cls : Int), .bool v.neg, .slice p (dig B32 v.d).length c, .int .i64 v.pow], .bool g]) ∧ Own w' w.heap.size .u32 143 p c (dig B32 v.d) ∧ Below w.heap.size w w'
theorem p0v {w w' : World} {v : Vl} {k : Nat} {n g : Bool} {p : Option Addr} {c d base : Nat} {x : Int} {en : Ending} (hv : v = ⟨k, n, d, x⟩) (h : en = .returned (.tuple #[.agg #[.int .i64 (k : Int), .bool n, .slice p (dig B32 d).length c, .int .i64 x], .bool g]))
 (ho : Own w' base .u32 143 p c (dig B32 d)) (hB : w.heap.size ≤ base) (hb : Below w.heap.size w w') : w0u w v g en w' := by
 subst hv
 exact ⟨p, c, h, ho.mono hB, hb⟩
theorem e0y {w w' : World} {v : Vl} {k : Nat} {n g : Bool} {en : Ending} (hv : v = ⟨k, n, 0, 0⟩) (h : en = .returned (.tuple #[.agg #[.int .i64 (k : Int), .bool n, .slice none 0 0, .int .i64 0], .bool g])) (hb : Below w.heap.size w w') : w0u w v g en w' :=
 p0v (p := none) (c := 0) (base := w.heap.size) hv (by rw [h, a0d]; rfl) (by rw [a0d]; exact Own.nil _ _ _ _) (Nat.le_refl _) hb
theorem p0w (f : Fm) (s : ByteArray) (w : World) (G : d0k f) (hs : s.size = f.size) (hT : TabW w) :
 Calls Tryz.prog 84 #[.agg #[.int .i64 (f.size : Int), .int .i64 (f.E : Int), .int .i64 (f.F : Int), .int .i64 f.g.rad, .int .i64 f.g.digs, .int .i64 f.g.lo, .int .i64 f.g.hi, .bool f.g.grad, .bool f.hid, .bool f.inf, .bool f.res, .func (.func (ordF f)) #[] #[]], .string s] w (w0u w (f.valN (a0y f s)) (f.neg (a0y f s))) := by
 have z2 := G.f2
 have he : f.exp (a0y f s) < 2 ^ f.E := Nat.mod_lt _ (Nat.pow_pos (by omega))
 have hx : f.frac (a0y f s) < 2 ^ f.F := Nat.mod_lt _ (Nat.pow_pos (by omega))
 have HS := fun W => hi0 (e1q f s W G hs)
 unfold Fm.valN Fm.decN
 generalize f.neg (a0y f s) = g at *
 generalize f.exp (a0y f s) = e at *
 generalize f.frac (a0y f s) = x at *
 have HV := fun p c base W h1 h2 => hi0 (e1z f g e x p c base W G h1 h2 he hx)
 have k1 := d1v f g e x
 have k2 := h1t (f := f) g (e := e) hx
 have k3 := m1n G g (frac := x) he
 have k4 := b0d k2 (k := 3) (by omega)
 have hrd : f.g.rad = 2 ∨ f.g.rad = 16 := by have := G.rad; split at this <;> omega
 clear k2
 generalize f.dec g e x = D at *
 obtain ⟨k, m, pw⟩ := D
 simp only at k1 k3 k4
 have hm0 := a0e a0a m
 rcases k1 with rfl | rfl | rfl | rfl | rfl
 · have hv : f.vl g ⟨1, m, pw⟩ = ⟨1, g, 0, 0⟩ := by unfold Fm.vl Dc.c; simp
   have I := Inv.start w [tabF] ⟨hT, True.intro⟩
   refine a0h [.v (.agg #[.int .i64 (f.size : Int), .int .i64 (f.E : Int), .int .i64 (f.F : Int), .int .i64 f.g.rad, .int .i64 f.g.digs, .int .i64 f.g.lo, .int .i64 f.g.hi, .bool f.g.grad, .bool f.hid, .bool f.inf, .bool f.res, .func (.func (ordF f)) #[] #[]]), .v (.string s)] I Tryz.func84 ?_
   refine zqo I (fun Al W I => (HS W).out) fun Al W p13 c13 I => ?_
   refine zqo I (fun Al W I => have hzW := I.bel.size; (HV p13 c13 _ W I.fa.1 (by omega)).out) fun Al W p17 c17 I => ?_
   refine zd [1] I fun Al W I => ?_
   refine zk [0, 1, 2] I fun I => ?_
   refine zo 3 I fun I => ?_
   refine zn I fun Al W I => ?_
   refine zk [4] I fun I => ?_
   exact zret I fun Al W I => e0y hv rfl I.below
 · by_cases h0 : m = 0
   · have hv : f.vl g ⟨2, m, pw⟩ = ⟨1, g, 0, 0⟩ := by unfold Fm.vl Dc.c; simp [h0]
     have I := Inv.start w [tabF] ⟨hT, True.intro⟩
     refine a0h [.v (.agg #[.int .i64 (f.size : Int), .int .i64 (f.E : Int), .int .i64 (f.F : Int), .int .i64 f.g.rad, .int .i64 f.g.digs, .int .i64 f.g.lo, .int .i64 f.g.hi, .bool f.g.grad, .bool f.hid, .bool f.inf, .bool f.res, .func (.func (ordF f)) #[] #[]]), .v (.string s)] I Tryz.func84 ?_
     refine zqo I (fun Al W I => (HS W).out) fun Al W p13 c13 I => ?_
     refine zqo I (fun Al W I => have hzW := I.bel.size; (HV p13 c13 _ W I.fa.1 (by omega)).out) fun Al W p17 c17 I => ?_
     refine zb I 28 ((((dig B32 m).length : Nat) : Int) == 0) (true) (beq_iff_eq.2 (by omega)) fun Al W I => ?_
     refine zd [1] I fun Al W I => ?_
     refine zk [0, 1, 2] I fun I => ?_
     refine zo 3 I fun I => ?_
     refine zn I fun Al W I => ?_
     refine zk [4] I fun I => ?_
     exact zret I fun Al W I => e0y hv rfl I.below
   · have hv : f.vl g ⟨2, m, pw⟩ = ⟨2, g, m / 2 ^ (tz m / wid f.g * wid f.g), pw + (tz m / wid f.g : Nat)⟩ := by unfold Fm.vl Dc.c; simp [h0]
     have HB := fun p c base W h1 hT => hi0 (f1a p c m pw f.g base W h1 (by omega) (by omega) hrd hT)
     generalize m / 2 ^ (tz m / wid f.g * wid f.g) = mm at *
     generalize pw + ((tz m / wid f.g : Nat) : Int) = pp at *
     have I := Inv.start w [tabF] ⟨hT, True.intro⟩
     refine a0h [.v (.agg #[.int .i64 (f.size : Int), .int .i64 (f.E : Int), .int .i64 (f.F : Int), .int .i64 f.g.rad, .int .i64 f.g.digs, .int .i64 f.g.lo, .int .i64 f.g.hi, .bool f.g.grad, .bool f.hid, .bool f.inf, .bool f.res, .func (.func (ordF f)) #[] #[]]), .v (.string s)] I Tryz.func84 ?_
     refine zqo I (fun Al W I => (HS W).out) fun Al W p13 c13 I => ?_
     refine zqo I (fun Al W I => have hzW := I.bel.size; (HV p13 c13 _ W I.fa.1 (by omega)).out) fun Al W p17 c17 I => ?_
     refine zb I 28 ((((dig B32 m).length : Nat) : Int) == 0) (false) (bFn (by omega)) fun Al W I => ?_
     refine zqo I (fun Al W I => (HB p17 c17 _ W I.fa.1 I.fa.2.2.1).out) fun Al W q44 d44 I => ?_
     refine zd [1] I fun Al W I => ?_
     refine zk [0, 1, 2] I fun I => ?_
     refine zo 3 I fun I => ?_
     refine zn I fun Al W I => ?_
     refine zk [4] I fun I => ?_
     exact zret I fun Al W I => p0v hv rfl I.fa.1 (by omega) I.below
 · have hv : f.vl g ⟨3, m, pw⟩ = ⟨3, g, 0, 0⟩ := by unfold Fm.vl Dc.c; simp
   have I := Inv.start w [tabF] ⟨hT, True.intro⟩
   refine a0h [.v (.agg #[.int .i64 (f.size : Int), .int .i64 (f.E : Int), .int .i64 (f.F : Int), .int .i64 f.g.rad, .int .i64 f.g.digs, .int .i64 f.g.lo, .int .i64 f.g.hi, .bool f.g.grad, .bool f.hid, .bool f.inf, .bool f.res, .func (.func (ordF f)) #[] #[]]), .v (.string s)] I Tryz.func84 ?_
   refine zqo I (fun Al W I => (HS W).out) fun Al W p13 c13 I => ?_
   refine zqo I (fun Al W I => have hzW := I.bel.size; (HV p13 c13 _ W I.fa.1 (by omega)).out) fun Al W p17 c17 I => ?_
   refine zd [1] I fun Al W I => ?_
   refine zk [0, 1, 2] I fun I => ?_
   refine zo 3 I fun I => ?_
   refine zn I fun Al W I => ?_
   refine zk [4] I fun I => ?_
   exact zret I fun Al W I => e0y hv rfl I.below
 · have hv : f.vl g ⟨4, m, pw⟩ = ⟨4, false, 0, 0⟩ := by unfold Fm.vl Dc.c; simp
   have I := Inv.start w [tabF] ⟨hT, True.intro⟩
   refine a0h [.v (.agg #[.int .i64 (f.size : Int), .int .i64 (f.E : Int), .int .i64 (f.F : Int), .int .i64 f.g.rad, .int .i64 f.g.digs, .int .i64 f.g.lo, .int .i64 f.g.hi, .bool f.g.grad, .bool f.hid, .bool f.inf, .bool f.res, .func (.func (ordF f)) #[] #[]]), .v (.string s)] I Tryz.func84 ?_
   refine zqo I (fun Al W I => (HS W).out) fun Al W p13 c13 I => ?_
   refine zqo I (fun Al W I => have hzW := I.bel.size; (HV p13 c13 _ W I.fa.1 (by omega)).out) fun Al W p17 c17 I => ?_
   refine zd [1] I fun Al W I => ?_
   refine zk [0, 1, 2] I fun I => ?_
   refine zo 3 I fun I => ?_
   refine zn I fun Al W I => ?_
   refine zk [4] I fun I => ?_
   exact zret I fun Al W I => e0y hv rfl I.below
 · have hv : f.vl g ⟨5, m, pw⟩ = ⟨5, false, 0, 0⟩ := by unfold Fm.vl Dc.c; simp
   have I := Inv.start w [tabF] ⟨hT, True.intro⟩
   refine a0h [.v (.agg #[.int .i64 (f.size : Int), .int .i64 (f.E : Int), .int .i64 (f.F : Int), .int .i64 f.g.rad, .int .i64 f.g.digs, .int .i64 f.g.lo, .int .i64 f.g.hi, .bool f.g.grad, .bool f.hid, .bool f.inf, .bool f.res, .func (.func (ordF f)) #[] #[]]), .v (.string s)] I Tryz.func84 ?_
   refine zqo I (fun Al W I => (HS W).out) fun Al W p13 c13 I => ?_
   refine zqo I (fun Al W I => have hzW := I.bel.size; (HV p13 c13 _ W I.fa.1 (by omega)).out) fun Al W p17 c17 I => ?_
   refine zd [1] I fun Al W I => ?_
   refine zk [0, 1, 2] I fun I => ?_
   refine zo 3 I fun I => ?_
   refine zn I fun Al W I => ?_
   refine zk [4] I fun I => ?_
   exact zret I fun Al W I => e0y hv rfl I.below
def a0w (n : Int) (s : ByteArray) : Int := if IsFm n then (if s.size = (fmt n).size then 0 else 1) else 6
theorem f1d (n : Int) (s : ByteArray) (w : World) (hn : IsFm n) (hs : s.size = (fmt n).size) :
 Calls Tryz.prog 83 #[.int .i64 n, .string s] w fun en w' => en = .returned (.tuple #[.agg #[.int .i64 (((fmt n).size : Nat) : Int), .int .i64 (((fmt n).E : Nat) : Int), .int .i64 (((fmt n).F : Nat) : Int), .int .i64 (fmt n).g.rad, .int .i64 (fmt n).g.digs, .int .i64 (fmt n).g.lo, .int .i64 (fmt n).g.hi, .bool (fmt n).g.grad, .bool (fmt n).hid, .bool (fmt n).inf, .bool (fmt n).res, .func (.func (ordF (fmt n))) #[] #[]], .int .i64 0]) ∧ Below w.heap.size w w' := by
 have HF := fun W => hi0 (g0v n hn W)
 generalize fmt n = f at *
 have I := Inv.start w [] True.intro
 refine a0h [.v (.int .i64 n), .v (.string s)] I Tryz.func83 ?_
 refine zq I (fun Al W I => (HF W).out) fun Al W I => ?_
 refine zb I 20 ((s.size : Int) != (f.size : Int)) (false) (by simp [hs]) fun Al W I => ?_
 exact zrb I
theorem z0b (n : Int) (s : ByteArray) (w : World) (hn : IsFm n) (hs : s.size ≠ (fmt n).size) :
 Calls Tryz.prog 83 #[.int .i64 n, .string s] w fun en w' => en = .returned (.tuple #[.agg #[.int .i64 (((fmt n).size : Nat) : Int), .int .i64 (((fmt n).E : Nat) : Int), .int .i64 (((fmt n).F : Nat) : Int), .int .i64 (fmt n).g.rad, .int .i64 (fmt n).g.digs, .int .i64 (fmt n).g.lo, .int .i64 (fmt n).g.hi, .bool (fmt n).g.grad, .bool (fmt n).hid, .bool (fmt n).inf, .bool (fmt n).res, .func (.func (ordF (fmt n))) #[] #[]], .int .i64 1]) ∧ Below w.heap.size w w' := by
 have HF := fun W => hi0 (g0v n hn W)
 generalize fmt n = f at *
 have I := Inv.start w [] True.intro
 refine a0h [.v (.int .i64 n), .v (.string s)] I Tryz.func83 ?_
 refine zq I (fun Al W I => (HF W).out) fun Al W I => ?_
 refine zb I 20 ((s.size : Int) != (f.size : Int)) (true) (bne_iff_ne.2 (fun h => hs (by omega))) fun Al W I => ?_
 exact zrb I
theorem z0c (n : Int) (s : ByteArray) (w : World) (hn : ¬ IsFm n) :
 Calls Tryz.prog 83 #[.int .i64 n, .string s] w fun en w' => en = .returned (.tuple #[.agg #[.int .i64 0, .int .i64 0, .int .i64 0, .int .i64 0, .int .i64 0, .int .i64 0, .int .i64 0, .bool false, .bool false, .bool false, .bool false, .nilFunc], .int .i64 6]) ∧ Below w.heap.size w w' := by
 have HF := fun W => hi0 (i0b n hn W)
 have I := Inv.start w [] True.intro
 refine a0h [.v (.int .i64 n), .v (.string s)] I Tryz.func83 ?_
 refine zq I (fun Al W I => (HF W).out) fun Al W I => ?_
 exact zrb I
def s0h (w : World) (v : Vl) (er : Int) (en : Ending) (w' : World) : Prop :=
 ∃ p c, en = .returned (.tuple #[.agg #[.int .i64 (v.cls : Int), .bool v.neg, .slice p (dig B32 v.d).length c, .int .i64 v.pow], .int .i64 er]) ∧ Own w' w.heap.size .u32 143 p c (dig B32 v.d) ∧ Below w.heap.size w w'
def p0x : Vl := ⟨0, false, 0, 0⟩
def decP (n : Int) (s : ByteArray) : Vl := if a0w n s = 0 then (fmt n).valN (a0y (fmt n) s) else p0x
theorem b0f {n : Int} {s : ByteArray} : a0w n s = 0 ↔ IsFm n ∧ s.size = (fmt n).size := by
 unfold a0w
 by_cases h1 : IsFm n
 · rw [if_pos h1]
   by_cases h2 : s.size = (fmt n).size
   · rw [if_pos h2]; simp [h1, h2]
   · rw [if_neg h2]; simp [h2]
 · rw [if_neg h1]; simp [h1]
theorem n0y {w w' : World} {er : Int} {en : Ending} (h : en = .returned (.tuple #[.agg #[.int .i64 0, .bool false, .slice none 0 0, .int .i64 0], .int .i64 er])) (hb : Below w.heap.size w w') : s0h w p0x er en w' := by
 refine ⟨none, 0, ?_, ?_, hb⟩
 · rw [h]; show _ = Ending.returned (.tuple #[.agg #[_, _, .slice none (dig B32 0).length 0, _], _]); rw [a0d]; rfl
 · show Own _ _ _ _ _ _ (dig B32 0); rw [a0d]; exact Own.nil _ _ _ _
theorem e0j (n : Int) (s : ByteArray) (w : World) (hT : TabW w) :
 Calls Tryz.prog 28 #[.int .i64 n, .string s] w (s0h w (decP n s) (a0w n s)) := by
 by_cases hn : IsFm n
 · by_cases hs : s.size = (fmt n).size
   · have h0 : a0w n s = 0 := b0f.2 ⟨hn, hs⟩
     have hd : decP n s = (fmt n).valN (a0y (fmt n) s) := by unfold decP; rw [if_pos h0]
     rw [hd, h0]
     have HF := fun W => hi0 (f1d n s W hn hs)
     have HD := fun W h => hi0 (p0w (fmt n) s W (c0i hn) hs h)
     generalize (fmt n).valN (a0y (fmt n) s) = v at *
     generalize (fmt n).neg (a0y (fmt n) s) = g at *
     generalize fmt n = f at *
     have I := Inv.start w [tabF] ⟨hT, True.intro⟩
     refine a0h [.v (.int .i64 n), .v (.string s)] I Tryz.func28 ?_
     refine zq I (fun Al W I => (HF W).out) fun Al W I => ?_
     refine zqo I (fun Al W I => (HD W I.fa.1).out) fun Al W p23 c23 I => ?_
     exact zret I fun Al W I => ⟨p23, c23, rfl, I.fa.1.mono (by omega), I.below⟩
   · have h0 : a0w n s = 1 := by unfold a0w; rw [if_pos hn, if_neg hs]
     have hd : decP n s = p0x := by unfold decP; rw [if_neg (by omega)]
     rw [hd, h0]
     have HF := fun W => hi0 (z0b n s W hn hs)
     generalize fmt n = f at *
     have I := Inv.start w [] True.intro
     refine a0h [.v (.int .i64 n), .v (.string s)] I Tryz.func28 ?_
     refine zq I (fun Al W I => (HF W).out) fun Al W I => ?_
     exact zret I fun Al W I => n0y rfl I.below
 · have h0 : a0w n s = 6 := by unfold a0w; rw [if_neg hn]
   have hd : decP n s = p0x := by unfold decP; rw [if_neg (by omega)]
   rw [hd, h0]
   have HF := fun W => hi0 (z0c n s W hn)
   have I := Inv.start w [] True.intro
   refine a0h [.v (.int .i64 n), .v (.string s)] I Tryz.func28 ?_
   refine zq I (fun Al W I => (HF W).out) fun Al W I => ?_
   exact zret I fun Al W I => n0y rfl I.below
theorem f1e (n : Int) (s : ByteArray) (w : World) (hT : TabW w) :
 Calls Tryz.prog 82 #[.int .i64 n, .string s] w fun en w' => en = .returned (.tuple #[.int .i64 (((decP n s).cls : Nat) : Int), .bool (if a0w n s = 0 then (fmt n).neg (a0y (fmt n) s) else false), .int .i64 (a0w n s)]) ∧ Below w.heap.size w w' := by
 by_cases hn : IsFm n
 · by_cases hs : s.size = (fmt n).size
   · have h0 : a0w n s = 0 := b0f.2 ⟨hn, hs⟩
     have hd : decP n s = (fmt n).valN (a0y (fmt n) s) := by unfold decP; rw [if_pos h0]
     rw [hd, h0, if_pos rfl]
     have HF := fun W => hi0 (f1d n s W hn hs)
     have HD := fun W h => hi0 (p0w (fmt n) s W (c0i hn) hs h)
     generalize (fmt n).valN (a0y (fmt n) s) = v at *
     generalize (fmt n).neg (a0y (fmt n) s) = g at *
     generalize fmt n = f at *
     have I := Inv.start w [tabF] ⟨hT, True.intro⟩
     refine a0h [.v (.int .i64 n), .v (.string s)] I Tryz.func82 ?_
     refine zq I (fun Al W I => (HF W).out) fun Al W I => ?_
     refine zqo I (fun Al W I => (HD W I.fa.1).out) fun Al W p23 c23 I => ?_
     exact zrb I
   · have h0 : a0w n s = 1 := by unfold a0w; rw [if_pos hn, if_neg hs]
     have hd : decP n s = p0x := by unfold decP; rw [if_neg (by omega)]
     rw [hd, h0, if_neg (by omega)]
     have HF := fun W => hi0 (z0b n s W hn hs)
     generalize fmt n = f at *
     have I := Inv.start w [] True.intro
     refine a0h [.v (.int .i64 n), .v (.string s)] I Tryz.func82 ?_
     refine zq I (fun Al W I => (HF W).out) fun Al W I => ?_
     exact zrb I
 · have h0 : a0w n s = 6 := by unfold a0w; rw [if_neg hn]
   have hd : decP n s = p0x := by unfold decP; rw [if_neg (by omega)]
   rw [hd, h0, if_neg (by omega)]
   have HF := fun W => hi0 (z0c n s W hn)
   have I := Inv.start w [] True.intro
   refine a0h [.v (.int .i64 n), .v (.string s)] I Tryz.func82 ?_
   refine zq I (fun Al W I => (HF W).out) fun Al W I => ?_
   exact zrb I
def d0l (n : Int) : Int := if IsFm n then 0 else 6
theorem w0v {n : Int} (h : ¬ IsFm n) : fmt n = ⟨0, 0, 0, ⟨0, 0, 0, 0, false⟩, 0, false⟩ := by
 unfold IsFm at h
 unfold fmt
 rw [if_neg (by omega), if_neg (by omega), if_neg (by omega), if_neg (by omega), if_neg (by omega), if_neg (by omega), if_neg (by omega), if_neg (by omega)]
theorem i1x (n : Int) (w : World) : Calls Tryz.prog 57 #[.int .i64 n] w fun en w' => en = .returned (.tuple #[.int .i64 (((fmt n).size : Nat) : Int), .int .i64 (d0l n)]) ∧ Below w.heap.size w w' := by
 by_cases hn : IsFm n
 · have h0 : d0l n = 0 := by unfold d0l; rw [if_pos hn]
   rw [h0]
   have HF := fun W => hi0 (g0v n hn W)
   generalize fmt n = f at *
   have I := Inv.start w [] True.intro
   refine a0h [.v (.int .i64 n)] I Tryz.func57 ?_
   refine zq I (fun Al W I => (HF W).out) fun Al W I => ?_
   exact zrb I
 · have h0 : d0l n = 6 := by unfold d0l; rw [if_neg hn]
   rw [h0, w0v hn]
   have HF := fun W => hi0 (i0b n hn W)
   have I := Inv.start w [] True.intro
   refine a0h [.v (.int .i64 n)] I Tryz.func57 ?_
   refine zq I (fun Al W I => (HF W).out) fun Al W I => ?_
   exact zrb I
theorem z0d (n : Int) (w : World) : Calls Tryz.prog 64 #[.int .i64 n] w fun en w' => en = .returned (.tuple #[.agg #[.int .i64 (fmt n).g.rad, .int .i64 (fmt n).g.digs, .int .i64 (fmt n).g.lo, .int .i64 (fmt n).g.hi, .bool (fmt n).g.grad], .int .i64 (d0l n)]) ∧ Below w.heap.size w w' := by
 by_cases hn : IsFm n
 · have h0 : d0l n = 0 := by unfold d0l; rw [if_pos hn]
   rw [h0]
   have HF := fun W => hi0 (g0v n hn W)
   generalize fmt n = f at *
   have I := Inv.start w [] True.intro
   refine a0h [.v (.int .i64 n)] I Tryz.func64 ?_
   refine zq I (fun Al W I => (HF W).out) fun Al W I => ?_
   exact zrb I
 · have h0 : d0l n = 6 := by unfold d0l; rw [if_neg hn]
   rw [h0, w0v hn]
   have HF := fun W => hi0 (i0b n hn W)
   have I := Inv.start w [] True.intro
   refine a0h [.v (.int .i64 n)] I Tryz.func64 ?_
   refine zq I (fun Al W I => (HF W).out) fun Al W I => ?_
   exact zrb I
theorem w0w (base : Nat) (p : Option Addr) (n c : Nat) (xs : List Nat) (w : World) (ho : Own w base .u8 5 p c xs) (hn : n = xs.length) (hl : xs.length ≤ 4000000000) (h0 : 0 < xs.length) :
 Calls Tryz.prog 155 #[.slice p n c] w fun e w' => e = .returned (.tuple #[]) ∧ Own w' base .u8 5 p c xs.reverse ∧ Below base w w' := by
 subst hn
 have HR0 := hi0 (h0r.start xs h0)
 have hsx := ho.solid
 have hbk := ho.blk_lt (hsx h0).1
 go_enter Tryz.func155, Tryz.ntmps155
 go_wp2
 go_loopw [2, 3] (fun iv jv wr => ∃ (i j : Nat) (L : List Nat), iv = .int .i64 i ∧ jv = .int .i64 j ∧ i ≤ xs.length ∧ j < xs.length ∧ Own wr base .u8 5 p c L ∧ Below base w wr ∧ Hid (h0r L xs i j))
  (fun iv _ _ => xs.length - (intOf iv).toNat)
 case atStart => exact ⟨0, xs.length - 1, xs, rfl, by go_num, Nat.zero_le _, by omega, ho, Below.refl _ _, HR0⟩
 case round =>
  obtain ⟨i, j, L, rfl, rfl, hi, hj, hoL, hbL, HR⟩ := hrel
  by_cases hij : i < j
  · have hLl := hi0 HR.out.1
    have ci := hoL.rd.cells i (by rw [hLl.out]; omega)
    have cj := hoL.rd.cells j (by rw [hLl.out]; omega)
    have fi := e0h hoL i (by rw [hLl.out]; omega)
    have s1 := f0k hoL i (by rw [hLl.out]; omega) (dg L j)
    have fj := e0h s1.1 j (by rw [List.length_set, hLl.out]; omega)
    have cj2 := s1.1.rd.cells j (by rw [List.length_set, hLl.out]; omega)
    rw [b0s (by omega)] at cj2
    have s2 := f0k s1.1 j (by rw [List.length_set, hLl.out]; omega) (dg L i)
    have HS := hi0 (HR.out.step hij)
    have i1 : (i : Int) < (xs.length : Int) := by omega
    have j1 : (j : Int) < (xs.length : Int) := by omega
    have i0 : (0 : Int) ≤ (i : Int) := by omega
    have j0 : (0 : Int) ≤ (j : Int) := by omega
    have hb3 : Below base w ((wr.setCell (at_ p i) (.int .u8 (dg L j : Nat))).setCell (at_ p j) (.int .u8 (dg L i : Nat))) :=
     (hbL.setCell (by exact s1.2.2) _).setCell (by exact s1.2.2) _
    have S2 := hi0 s2
    have HB := hi0 hb3
    clear s1 s2 hb3
    go_wp2_with fail
    go_region
    have ho3 := S2.out.1.drew
    have hb3 := HB.out.drew
    clear ci cj fi fj cj2 S2 HB
    generalize ((wr.setCell (at_ p i) (.int .u8 (dg L j : Nat))).setCell (at_ p j) (.int .u8 (dg L i : Nat))).drew = w3 at ho3 hb3 ⊢
    go_wp2
    go_roundw
    case rel => exact ⟨i + 1, j - 1, _, by go_num, by go_num, by omega, by omega, ho3, hb3, HS⟩
    case measure => first | (simp [intOf]; done) | (simp [intOf]; omega)
  · have HD := hi0 (HR.out.done hij)
    go_wp2
    go_end0
    exact ⟨rfl, HD.out ▸ hoL, hbL⟩
theorem a1x : Tryz.prog.underlying 156 = some (.slice 5) := by kernel_rfl
theorem f1f : Tryz.prog.underlying 5 = some (.int .u8) := by kernel_rfl
theorem w0x : Tryz.prog.underlying 9 = some .string := by kernel_rfl
theorem w0y (p : Option Addr) (n c : Nat) (N : Nat) (w : World) (hp : Rd w .u32 p (dig B32 N)) (hn : n = (dig B32 N).length) (hl : (dig B32 N).length ≤ 100000000) :
 Calls Tryz.prog 99 #[.slice p n c] w fun e w' => e = .returned (.string (a0c (b0j N))) ∧ Below w.heap.size w w' := by
 subst hn
 go_enter Tryz.func99, Tryz.ntmps99
 go_wp2
 go_loopg [0, 3] N (fun a av ov wr => ∃ (p q : Option Addr) (c d : Nat) (D : List Nat), av = .slice p (dig B32 a).length c ∧ ov = .slice q D.length d ∧ (dig B32 a).length ≤ (dig B32 N).length ∧ Rd wr .u32 p (dig B32 a) ∧
     Own wr w.heap.size .u8 5 q d (D.map (· + 48)) ∧ Below w.heap.size w wr ∧ Hid (j0w N D a))
 case atStart => exact ⟨p, none, c, 0, [], rfl, rfl, Nat.le_refl _, hp, Own.nil _ _ _ _, Below.refl _ _, j0w.start N⟩
 case round =>
  obtain ⟨p, q, c, d, D, rfl, rfl, hla, hpa, hoq, hb, HR⟩ := hrel
  by_cases h0 : 0 < (dig B32 gk).length
  · have hpos : 0 < gk := by
     rcases Nat.eq_zero_or_pos gk with h | h
     · subst h; rw [a0d] at h0; simp at h0
     · exact h
    have HI := hi0 (HR.out.enter hpos)
    have hdiv := Nat.div_lt_self hpos (show 1 < 1000000000 by omega)
    have hlen := a0m a0a (Nat.le_of_lt hdiv)
    have hmod := Nat.mod_lt gk (show 0 < 1000000000 by omega)
    go_wp2_with (go_at_call 118; refine (t0o p _ c gk 1000000000 _ hpa rfl (by omega) (by omega) (by omega)).mono ?_; rintro e w1 ⟨p1, c1, rfl, ho1, hb1⟩)
    have hoq1 := hoq.past hb1
    have hb2 := hb.trans (hb1.mono hb.size)
    have hr1 := ho1.rd
    have hap : m0p q p1 (dig B32 (gk / 1000000000)) := fun h1 h2 => by
     have e1 := (hoq.blk_lt h2).2
     have e2 := (ho1.blk_lt (hr1.solid h1).1).1
     omega
    clear hoq hb hpa hb1 hpos h0 ho1
    generalize gk / 1000000000 = a1 at *
    obtain ⟨wo, rfl⟩ : ∃ wo : World, wo = wr := ⟨_, rfl⟩
    clear HR
    have hlenN : (dig B32 a1).length ≤ (dig B32 N).length := by omega
    clear hlen hla
    go_loopg [3, 4, 5] 9 (fun g ov rv iv wr => ∃ (i r : Nat) (q : Option Addr) (d : Nat) (D : List Nat), iv = .int .i64 i ∧ rv = .int .u32 r ∧ ov = .slice q D.length d ∧ g + i = 9 ∧ r < 4294967296 ∧ Rd wr .u32 p1 (dig B32 a1) ∧ m0p q p1 (dig B32 a1) ∧
      Own wr w.heap.size .u8 5 q d (D.map (· + 48)) ∧ Below w.heap.size w wr ∧ Hid (q0j N D i r a1))
    case atStart => exact ⟨0, gk % 1000000000, q, d, D, rfl, rfl, rfl, rfl, by omega, hr1, hap, hoq1, hb2, HI⟩
    case round =>
     obtain ⟨i, r, q, d, D, rfl, rfl, rfl, hgi, hr, hp1, hap, hoq, hb, HI⟩ := hrel
     have ha : 0 < (dig B32 a1).length ↔ 0 < a1 := by have := a0e a0a a1; omega
     by_cases hi9 : i < 9
     · by_cases hc : 0 < r ∨ 0 < a1
       · have HS := hi0 (HI.out.step hi9 hc)
         have hsz := HI.out.size hc
         have HP := hi0 hap
         clear hap
         by_cases hr0 : 0 < r
         · clear hc ha
           go_wp2_with (first
             | (refine a0u rfl _ _ rfl m0q _ ?_ rfl ?_; omega; intro p2 w2 ho2 hb2 hz2 hp2)
             | (at_builtin; refine a0x rfl _ _ _ rfl m0q _ _ _ _ _ (hoq.past hb2) (by simp) _ _ _ _ ho2.rd rfl rfl rfl ?_ ?_ ?_; (simp; omega); (have := hb2.size; have := hb.size; omega); intro p3 c3 w3 ho3 hg3 hb3 hn3))
           have hb4 := hb.trans ((hb2.mono hb.size).trans hb3)
           have e4 : D.map (· + 48) ++ [((48 : Int) + (r : Int) % 10).toNat] = (D ++ [r % 10]).map (· + 48) := by
            rw [List.map_append, show ((48 : Int) + (r : Int) % 10).toNat = r % 10 + 48 by omega]; rfl
           rw [e4] at ho3
           have hp3 := (hp1.past hb2).appended hg3 HP.out
           have hap3 := HP.out.next (hp1.past hb2) hn3.2
           go_roundg (gk - 1)
           case measure => omega
           case rel => exact ⟨i + 1, r / 10, p3, c3, D ++ [r % 10], by go_num, by go_num, by simp, by omega, by omega, hp3, hap3, ho3, hb4, HS⟩
         · obtain rfl : r = 0 := by omega
           have ha1 : 0 < (dig B32 a1).length := ha.2 (by omega)
           clear hc ha hr0
           go_wp2_with (first
             | (refine a0u rfl _ _ rfl m0q _ ?_ rfl ?_; omega; intro p2 w2 ho2 hb2 hz2 hp2)
             | (at_builtin; refine a0x rfl _ _ _ rfl m0q _ _ _ _ _ (hoq.past hb2) (by simp) _ _ _ _ ho2.rd rfl rfl rfl ?_ ?_ ?_; (simp; omega); (have := hb2.size; have := hb.size; omega); intro p3 c3 w3 ho3 hg3 hb3 hn3))
           have hb4 := hb.trans ((hb2.mono hb.size).trans hb3)
           have e4 : D.map (· + 48) ++ [(48 : Int).toNat] = (D ++ [0 % 10]).map (· + 48) := by
            rw [List.map_append]; rfl
           rw [e4] at ho3
           have hp3 := (hp1.past hb2).appended hg3 HP.out
           have hap3 := HP.out.next (hp1.past hb2) hn3.2
           go_roundg (gk - 1)
           case measure => omega
           case rel => exact ⟨i + 1, 0 / 10, p3, c3, D ++ [0 % 10], by go_num, by go_num, by simp, by omega, by omega, hp3, hap3, ho3, hb4, HS⟩
       · have HL := hi0 (HI.out.leave (by omega) (fun h => hc h.2))
         obtain rfl : r = 0 := by omega
         obtain rfl : a1 = 0 := by omega
         rw [a0d] at *
         clear hc ha
         go_wp2
         go_roundg 0
         case measure => exact hdiv
         case rel => exact ⟨p1, q, c1, d, D, by rw [a0d]; rfl, rfl, by rw [a0d]; simp, by rw [a0d]; exact hp1, hoq, hb, HL⟩
     · have HL := hi0 (HI.out.leave (by omega) (fun h => hi9 h.1))
       clear ha
       go_wp2
       go_roundg a1
       case measure => exact hdiv
       case rel => exact ⟨p1, q, _, d, D, rfl, rfl, hlenN, hp1, hoq, hb, HL⟩
  · obtain rfl : gk = 0 := (a0e a0a gk).1 (by omega)
    rw [a0d] at hpa
    have HD := hi0 HR.out.done
    by_cases hD : D.length = 0
    · have hN : Hid (N = 0) := by
       have h1 := HD.out
       rw [List.eq_nil_of_length_eq_zero hD] at h1
       exact (k0y (by omega) N).1 h1.symm
      rw [hD]
      clear h0 hla
      rw [a0d]
      go_wp2
      go_ret
      refine ⟨?_, hb⟩
      rw [hN.out]
      rfl
    · have hN : Hid (b0j N = (D.map (· + 48)).reverse) := by
       show b0j N = _
       unfold b0j
       rw [if_neg, HD.out, List.map_reverse]
       intro e
       rw [e, a0d] at HD
       exact hD (by rw [HD.out]; rfl)
      have hDl : D.length ≤ 32 * (dig B32 N).length := by
       have := g1m N
       rwa [← HD.out] at this
      have hD1 : 0 < D.length := by omega
      have hD2 : ((D.length : Int) == 0) = false := bFn (by omega)
      clear h0 hla hD
      rw [a0d]
      go_wp2_with (first
        | (go_at_call 155; refine (w0w w.heap.size q _ d _ _ hoq (by simp) (by simp; omega) (by simp; omega)).mono ?_; rintro e w3 ⟨rfl, ho3, hb3⟩)
        | (refine l1c rfl _ _ _ (by rfl) a1x f1f w0x _ _ _ _ ho3.rd ?_ (by rfl) ?_; simp))
      go_ret
      exact ⟨by rw [hN.out]; rfl, hb.trans hb3⟩
end Go.Proofs.YtbamiajjampgnaaGreatDoor
namespace Go.Slip
theorem i1y {n K : Nat} (h : n < 10 ^ (9 * K)) : (dig B32 n).length ≤ K := by
 rw [a0f a0a]
 refine Nat.lt_of_lt_of_le h ?_
 rw [Nat.pow_mul]
 exact Nat.pow_le_pow_left (by decide) K
theorem i1z {k K : Nat} (h : k < 13 * K) : (dig B32 (5 ^ k)).length ≤ K := by
 rw [a0f a0a]
 refine Nat.lt_of_lt_of_le (Nat.pow_lt_pow_right (show 1 < 5 by omega) h) ?_
 rw [Nat.pow_mul]
 exact Nat.pow_le_pow_left (by decide) K
structure a1y (R : Bool × Nat × Nat × Int) : Prop where
 d0 : 0 < R.2.2.1
 ln : (dig B32 R.2.1).length ≤ 1200
 ld : (dig B32 R.2.2.1).length ≤ 1200
 e : -20000 ≤ R.2.2.2 ∧ R.2.2.2 ≤ 20000
theorem f1g {q : Numl} (hd : ∀ x ∈ q.ds, isDg x = true) (hl : q.ds.length ≤ 800) (hp : -6000 ≤ q.pow ∧ q.pow ≤ 6000) : a1y (f0e q) := by
 obtain ⟨K, hK⟩ : ∃ K : Nat, K = 89 := ⟨_, rfl⟩
 obtain ⟨L, hL⟩ : ∃ L : Nat, L = 463 := ⟨_, rfl⟩
 have hS : (dig B32 (a0k q.ds)).length ≤ K := i1y (Nat.lt_of_lt_of_le (g0b _ fun j hj => by rw [b0e hj]; exact (c0d.1 (hd _ (List.getElem_mem hj))).2) (Nat.pow_le_pow_right (by omega) (by omega)))
 have hb : blen (a0k q.ds) ≤ 32 * K := Nat.le_trans (c0x _) (by omega)
 have hz : tz (a0k q.ds) ≤ 32 * K := by
  by_cases h : a0k q.ds = 0
  · rw [h, v0g]; omega
  · have := f0l (m := a0k q.ds) (by omega); omega
 have l1 : (dig B32 1).length ≤ 1 := (a0f a0a 1 1).2 (by decide)
 have l5 : ∀ k, k ≤ 6000 → (dig B32 (5 ^ k)).length ≤ L := fun k hk => i1z (by omega)
 unfold f0e
 by_cases h0 : a0k q.ds = 0
 · rw [if_pos h0]
   exact ⟨by show 0 < 1; omega, by show (dig B32 0).length ≤ _; rw [a0d]; exact Nat.zero_le _, by show (dig B32 1).length ≤ _; omega, by show (-20000 : Int) ≤ 0; omega, by show (0 : Int) ≤ 20000; omega⟩
 · rw [if_neg h0]
   have hmul := b0q a0a (a0k q.ds / 2 ^ tz (a0k q.ds)) (5 ^ q.pow.toNat)
   have hdv := a0m a0a (Nat.div_le_self (a0k q.ds) (2 ^ tz (a0k q.ds)))
   by_cases hp0 : 0 ≤ q.pow
   · rw [if_pos hp0]
     have := l5 q.pow.toNat (by omega)
     exact ⟨by show 0 < 1; omega, by show (dig B32 (_ * _)).length ≤ _; omega, by show (dig B32 1).length ≤ _; omega, by show _ ≤ (_ : Int) + _; omega, by show (_ : Int) + _ ≤ _; omega⟩
   · rw [if_neg hp0]
     have c1 := i0p (-q.pow).toNat (a0k q.ds / 2 ^ tz (a0k q.ds))
     have c2 := a0m a0a c1.1
     have := l5 (b0o (a0k q.ds / 2 ^ tz (a0k q.ds)) (-q.pow).toNat).2 (by omega)
     exact ⟨Nat.pow_pos (by omega), by show (dig B32 (b0o _ _).1).length ≤ _; omega, by show (dig B32 (5 ^ (b0o _ _).2)).length ≤ _; omega, by show _ ≤ (_ : Int) + _; omega, by show (_ : Int) + _ ≤ _; omega⟩
theorem f1h {m : Nat} (h : 0 < m) (g : Bool) (e : Int) (k : Nat) : decM (numP m e) (denP 1 e) k = numX (bare ⟨g, m, e⟩) k := by
 have hb : bare ⟨g, m, e⟩ = ⟨g, m / 2 ^ tz m, e + tz m⟩ := by unfold bare; rw [if_neg (Nat.ne_of_gt h)]
 obtain ⟨t1, t2⟩ := b0w m h
 rw [hb]
 unfold numX
 simp only
 have ho : 0 < m / 2 ^ tz m := Nat.pos_of_ne_zero fun h => by rw [h] at t2; cases t2
 refine d1k (k0p h e) (e0n (by omega) e) (k0p ho _) (e0n (by omega) _) ?_ k
 unfold numP denP
 have e1 : 2 ^ tz m * (2 ^ e.toNat * 2 ^ (-(e + tz m)).toNat) = 2 ^ (e + tz m).toNat * 2 ^ (-e).toNat := by
  rw [← Nat.pow_add, ← Nat.pow_add, ← Nat.pow_add]; congr 1; omega
 calc m * 2 ^ e.toNat * (1 * 2 ^ (-(e + tz m)).toNat) = (2 ^ tz m * (m / 2 ^ tz m)) * (2 ^ e.toNat * 2 ^ (-(e + tz m)).toNat) := by rw [t1]; grind
  _ = (m / 2 ^ tz m) * (2 ^ tz m * (2 ^ e.toNat * 2 ^ (-(e + tz m)).toNat)) := by grind
  _ = _ := by rw [e1]; grind
theorem m1y {f : Fm} {g : Bool} {d : Dc} (hc : d.c = 2) (k : Nat) : decM (numP (f.vl g d).d (wid f.g * (f.vl g d).pow)) (denP 1 (wid f.g * (f.vl g d).pow)) k = numX (f.vr g d).x k ∧ 0 < (f.vl g d).d ∧ (f.vr g d).x.m ≠ 0 := by
 have hs := y0t f g d
 have hm : d.m ≠ 0 := by
  intro h0
  unfold Dc.c at hc
  split at hc
  · omega
  · rename_i k; exact k ⟨hc, h0⟩
 have hx : (f.vr g d).x = bare ⟨g, d.m, wid f.g * d.p⟩ := by unfold Fm.vr; exact if_pos hc
 have hx0 : (f.vr g d).x.m ≠ 0 := by
  rw [hx]
  unfold bare
  rw [if_neg hm]
  have := (b0w d.m (by omega)).2
  exact fun h => by
   have h : d.m / 2 ^ tz d.m = 0 := h
   rw [h] at this; cases this
 have hd : 0 < (f.vl g d).d := by
  rcases Nat.eq_zero_or_pos (f.vl g d).d with h | h
  · rw [h] at hs
    exact absurd (by rw [← hs]; rfl) hx0
  · exact h
 exact ⟨by rw [← hs]; exact f1h hd _ _ k, hd, hx0⟩
theorem f1i {neg : Bool} {num den : Nat} {e : Int} {g : Gd} {way : Int} (hd : 0 < den) (G : f0c g) : (dig B32 (a0q neg num den e g way).d).length ≤ 16 := by
 unfold a0q
 by_cases h0 : num = 0
 · rw [if_pos h0]; simp [a0d]
 · rw [if_neg h0]
   have hK := j0m (num := num) (by omega) hd e (w := wid g) (D := g.digs.toNat) (b0n g).1 (by have := G.d1; omega)
   have h1 := h1n (neg := neg) (way := way) hd G hK
   have h2 : wid g * g.digs.toNat ≤ 480 := by
    have := Nat.mul_le_mul (b0n g).2 (show g.digs.toNat ≤ 120 by have := G.d2; omega)
    omega
   exact Nat.le_trans (a0m a0a (Nat.le_of_lt h1)) (h0h h2)
theorem q1i {neg : Bool} {num den : Nat} {e : Int} {g : Gd} {way : Int} (_ : 0 < den) (G : f0c g) (hok : okP (a0q neg num den e g way) g = true) : -17000 ≤ (a0q neg num den e g way).pow ∧ (a0q neg num den e g way).pow ≤ 17000 := by
 unfold a0q at *
 by_cases h0 : num = 0
 · rw [if_pos h0]; simp
 · rw [if_neg h0] at *
   generalize theK num den e (wid g) g.digs.toNat = K at *
   have hover : powP neg num den e (wid g) g.digs.toNat way (powK g K) ≤ g.hi := by
    unfold okP at hok
    have : (fitK neg num den e g way K).over = decide (g.hi < powP neg num den e (wid g) g.digs.toNat way (powK g K)) := rfl
    rw [this] at hok
    simp only [Bool.and_eq_true, Bool.not_eq_true', decide_eq_false_iff_not] at hok
    omega
   have hlow : g.lo ≤ powK g K := by
    unfold okP at hok
    have : (fitK neg num den e g way K).under = decide (K < g.lo) := rfl
    rw [this] at hok
    simp only [Bool.and_eq_true, Bool.or_eq_true, Bool.not_eq_true', decide_eq_false_iff_not] at hok
    unfold powK
    rcases hok.2 with h | h
    · rw [if_neg (fun k => h k.1)]; omega
    · by_cases hu : K < g.lo
      · rw [if_pos ⟨hu, h⟩]; omega
      · rw [if_neg (fun k => hu k.1)]; omega
   have h1 := G.l1
   have h2 := G.h2
   have hp : (fitK neg num den e g way K).pow = if digP neg num den e (wid g) g.digs.toNat way (powK g K) = 0 then 0 else powP neg num den e (wid g) g.digs.toNat way (powK g K) := rfl
   rw [hp]
   have h3 : powK g K ≤ powP neg num den e (wid g) g.digs.toNat way (powK g K) := by unfold powP; split <;> omega
   split
   · omega
   · omega
end Go.Slip
namespace Go.Slip
open Go.RowKit
theorem j1a {neg : Bool} {m : Nat} {e : Int} {g : Gd} {way : Int} (hm : 0 < m) (G : f0c g) (h : (a0q neg m 1 e g way).exact = true) : rv neg m 1 e g way = bare ⟨neg, m, e⟩ := by
 rw [d1o hm (by omega) G]
 unfold a0q at h
 rw [if_neg (by omega)] at h
 have hr : rP m 1 (e - wid g * powK g (theK m 1 e (wid g) g.digs.toNat)) = 0 := oTr h
 generalize powK g (theK m 1 e (wid g) g.digs.toNat) = k at *
 have hd : dUp neg m 1 e (wid g) way k = qP m 1 (e - wid g * k) := by unfold dUp upP; rw [hr]; simp
 rw [hd]
 unfold rP at hr
 have hq : qP m 1 (e - wid g * k) * denP 1 (e - wid g * k) = numP m (e - wid g * k) := by
  unfold qP
  exact Nat.div_mul_cancel (Nat.dvd_of_mod_eq_zero hr)
 generalize qP m 1 (e - wid g * k) = q at *
 unfold numP denP at hq
 rw [Nat.one_mul] at hq
 rcases Int.le_total (wid g * k) e with c | c
 · obtain ⟨n, hn⟩ : ∃ n : Nat, e = wid g * k + n := ⟨(e - wid g * k).toNat, by omega⟩
   rw [show (-(e - wid g * k)).toNat = 0 by omega, show (e - wid g * k).toNat = n by omega, Nat.pow_zero, Nat.mul_one] at hq
   rw [hq, hn, d0x]
 · obtain ⟨n, hn⟩ : ∃ n : Nat, (wid g : Int) * k = e + n := ⟨(wid g * k - e).toNat, by omega⟩
   rw [show (-(e - wid g * k)).toNat = n by omega, show (e - wid g * k).toNat = 0 by omega, Nat.pow_zero, Nat.mul_one] at hq
   rw [← hq, hn, d0x]
theorem a1z {s : Bool} {m : Nat} {e : Int} {g : Gd} {way : Int} (hm : 0 < m) (G : f0c g) : ((a0q s m 1 e g way).exact && okP (a0q s m 1 e g way) g) = a0v (bare ⟨s, m, e⟩) g := by
 cases hin : a0v (bare ⟨s, m, e⟩) g
 · cases hx : (a0q s m 1 e g way).exact
   · rfl
   · cases hk : okP (a0q s m 1 e g way) g
     · rfl
     · have := p1h (show 0 < 1 by omega) G hk
       rw [j1a hm G hx, hin] at this
       cases this
 · rw [t0g (show 0 < 1 by omega) G ((r0o (way := 5) G hin).1.trans (r0o (way := 4) G hin).1.symm) way, (r0o (way := way) G hin).2]
   rfl
theorem g0c {x : Dv} {k : Nat} (h0 : x.m ≠ 0) (_ : (dig B32 x.m).length ≤ 20) (hk : 1 ≤ k) :
 (numX x k).1.length = k ∧ (∀ y ∈ (numX x k).1, 48 ≤ y ∧ y ≤ 57) ∧ 0 < a0k (numX x k).1 ∧ 3 * ((numX x k).2 - 1) < blen x.m + x.e.toNat + 1 ∧ -(((-x.e).toNat : Int) + 1) < 3 * ((numX x k).2 + 1) := by
 have hN : 0 < numP x.m x.e := k0p (by omega) x.e
 have hD : 0 < denP 1 x.e := e0n (by omega) x.e
 obtain ⟨s1, s2, s3, s4, s5, _⟩ := n0n hN hD hk (s := (numX x k).1) (p := (numX x k).2) rfl
 have hP := (l0k hN hD).bd hD
 have bN : blen (numP x.m x.e) ≤ blen x.m + x.e.toNat := by
  refine (b0h _ (blen x.m + x.e.toNat)).2 ?_
  unfold numP
  have h1 := (b0h x.m _).1 (Nat.le_refl _)
  calc x.m * 2 ^ x.e.toNat < 2 ^ blen x.m * 2 ^ x.e.toNat := Nat.mul_lt_mul_of_pos_right h1 (Nat.pow_pos (by omega))
   _ = 2 ^ (blen x.m + x.e.toNat) := (Nat.pow_add _ _ _).symm
 have bD : blen (denP 1 x.e) ≤ (-x.e).toNat + 1 := by
  refine (b0h _ ((-x.e).toNat + 1)).2 ?_
  unfold denP
  rw [Nat.one_mul]
  exact Nat.pow_lt_pow_right (by omega) (by omega)
 have := c0w (k - 1)
 exact ⟨s1, s2, by omega, by omega, by omega⟩
theorem s0i {x : Dv} {k : Nat} (h0 : x.m ≠ 0) (hl : (dig B32 x.m).length ≤ 20) (he : -18000 ≤ x.e ∧ x.e ≤ 18000) (hk : 1 ≤ k) : -7000 ≤ (numX x k).2 ∧ (numX x k).2 ≤ 7000 := by
 have h := g0c h0 hl hk
 have hb := c0x x.m
 omega
theorem m1z {x : Dv} {g : Gd} {k : Nat} (hg : errG g = 0) (h0 : x.m ≠ 0) (hl : (dig B32 x.m).length ≤ 20) (hin : a0v x g = true) (hk : 1 ≤ k) : -5800 ≤ (numX x k).2 ∧ (numX x k).2 ≤ 5900 := by
 have h := g0c h0 hl hk
 have hb := c0x x.m
 obtain ⟨w1, w2, w3⟩ := l0l hg
 unfold a0v at hin
 rw [if_neg h0] at hin
 by_cases h1 : x.e < wid g * g.lo ∨ wid g * (g.hi + g.digs) < topD x
 · rw [if_pos h1] at hin; cases hin
 · have e : topD x = x.e + blen x.m := rfl
   rw [e, Int.mul_add] at h1
   omega
def l0w (p : Nat → Bool) : Nat → Nat → Nat
 | 0, k => k
 | n + 1, k => if p k then k else l0w p n (k + 1)
theorem n0z (p : Nat → Bool) : ∀ (n k : Nat), k ≤ l0w p n k ∧ (∀ j, k ≤ j → j < l0w p n k → p j = false) ∧ ∀ j, k ≤ j → j < k + n → p j = true → p (l0w p n k) = true ∧ l0w p n k ≤ j
 | 0, k => ⟨Nat.le_refl _, fun j h1 h2 => absurd h2 (by unfold l0w; omega), fun j h1 h2 => by omega⟩
 | n + 1, k => by
  obtain ⟨q1, q2, q3⟩ := n0z p n (k + 1)
  unfold l0w
  cases hp : p k
  · rw [if_neg (by simp)]
    refine ⟨by omega, fun j h1 h2 => ?_, fun j h1 h2 h3 => ?_⟩
    · rcases Nat.lt_or_ge k j with h | h
      · exact q2 j h h2
      · rw [show j = k by omega]; exact hp
    · refine q3 j ?_ (by omega) h3
      rcases Nat.lt_or_ge k j with h | h
      · exact h
      · rw [show j = k by omega, hp] at h3; cases h3
  · rw [if_pos rfl]
    exact ⟨Nat.le_refl _, fun j h1 h2 => by omega, fun j h1 _ _ => ⟨hp, h1⟩⟩
def c0r (f : Fm) (x : Dv) : Nat := l0w (okX f x) 30 1
theorem o0a {f : Fm} {x : Dv} (hG : errG f.g = 0) (hw : wid f.g * f.g.digs.toNat ≤ 64) (hb : Bare x) (hin : a0v x f.g = true) (h0 : x.m ≠ 0) :
 1 ≤ c0r f x ∧ c0r f x ≤ 21 ∧ okX f x (c0r f x) = true ∧ ∀ j, 1 ≤ j → j < c0r f x → okX f x j = false := by
 obtain ⟨q1, q2, q3⟩ := n0z (okX f x) 30 1
 have h21 : okX f x 21 = true := by
  unfold okX
  rw [y0v (c0a hG) hb hin h0 (k := 21) (Nat.lt_of_le_of_lt (Nat.pow_le_pow_right (by omega) hw) (by decide))]
  simp
 have h := q3 21 (by omega) (by omega) h21
 exact ⟨q1, h.2, h.1, q2⟩
theorem f1j {n : Int} (h : IsFm n) : wid (fmt n).g * (fmt n).g.digs.toNat ≤ 64 := by
 rcases k0n h with rfl | rfl | rfl | rfl | rfl | rfl | rfl | rfl <;> decide
end Go.Slip
namespace Go.Proofs.YtbamiajjampgnaaGreatDoor
open Go.RowKit Go.Slip
theorem TabW.far {w : World} {b : Nat} {t : TypeId} {vs : Array Value} (h : TabW w) (hX : Bt w b t vs) (hne : (match vs[0]? with | some (.int .u8 _) => false | _ => true) = true) : ¬ (0 = b) := by
 intro e
 subst e
 have h1 := h.1 0 (by omega)
 rw [hX.bx.cell 0] at h1
 rw [h1] at hne
 cases hne
def famB (f : Fm) : Int := if f.fam = 1 then 65 else if f.fam = 2 then 66 else 67
abbrev uS (f : Fm) (n way k : Int) : List SV := [.v (.int .i64 n), .v (.int .i64 way), .v (.int .i64 f.g.rad), .v (.int .i64 f.g.digs), .v (.int .i64 f.g.lo), .v (.int .i64 f.g.hi), .v (.bool f.g.grad), .v (.int .u8 (famB f)), .v (.int .i64 k)]
theorem d0o (f : Fm) (n way a b c : Int) (u : Nat) (w : World) (U : Bt w u 223 #[.int .i64 n, .int .i64 way, .int .i64 f.g.rad, .int .i64 f.g.digs, .int .i64 f.g.lo, .int .i64 f.g.hi, .bool f.g.grad, .int .u8 (famB f), .int .i64 a]) (hc : bits .or .i64 a b = c) :
 Calls Tryz.prog 188 #[.pointer (some ⟨u, 0, none⟩), .int .i64 b] w fun e w' => e = .returned (.tuple #[]) ∧ Kp [u] w w' ∧ Bt w' u 223 #[.int .i64 n, .int .i64 way, .int .i64 f.g.rad, .int .i64 f.g.digs, .int .i64 f.g.lo, .int .i64 f.g.hi, .bool f.g.grad, .int .u8 (famB f), .int .i64 c] := by
 have I := Inv.startW w u 223 (uS f n way a) [] U True.intro True.intro
 refine a0h [.p 0 0, .v (.int .i64 b)] I Tryz.func188 ?_
 refine zbin I 9 _ (fun _ _ _ _ _ => p1f .i64 (a) (b) (c) (hc)) fun Al W I => ?_
 exact zret I fun Al W I => ⟨rfl, I.bel, I.boxE 223 _⟩
theorem n1a (f : Fm) (n way a : Int) (u : Nat) (w : World) (U : Bt w u 223 #[.int .i64 n, .int .i64 way, .int .i64 f.g.rad, .int .i64 f.g.digs, .int .i64 f.g.lo, .int .i64 f.g.hi, .bool f.g.grad, .int .u8 (famB f), .int .i64 a]) :
 Calls Tryz.prog 215 #[.pointer (some ⟨u, 0, none⟩)] w fun e w' => e = .returned (.int .i64 ((wid f.g : Nat) : Int)) ∧ Below w.heap.size w w' := by
 by_cases h : f.g.rad = 16
 · have hw : wid f.g = 4 := by unfold wid; rw [if_pos h]
   rw [hw]
   have I := Inv.startR w [u] [⟨223, (uS f n way a), true⟩] [] ⟨U, True.intro⟩ True.intro
   refine a0h [.p 0 0] I Tryz.func215 ?_
   refine zb I 8 (f.g.rad == 16) (true) (beq_iff_eq.2 h) fun Al W I => ?_
   exact zrb I
 · have hw : wid f.g = 1 := by unfold wid; rw [if_neg h]
   rw [hw]
   have I := Inv.startR w [u] [⟨223, (uS f n way a), true⟩] [] ⟨U, True.intro⟩ True.intro
   refine a0h [.p 0 0] I Tryz.func215 ?_
   refine zb I 8 (f.g.rad == 16) (false) (bFn h) fun Al W I => ?_
   exact zrb I
theorem k1w (f : Fm) (n way a : Int) (g : Bool) (u : Nat) (w : World) (U : Bt w u 223 #[.int .i64 n, .int .i64 way, .int .i64 f.g.rad, .int .i64 f.g.digs, .int .i64 f.g.lo, .int .i64 f.g.hi, .bool f.g.grad, .int .u8 (famB f), .int .i64 a]) :
 Calls Tryz.prog 126 #[.pointer (some ⟨u, 0, none⟩), .bool g] w fun e w' => e = .returned (.agg #[.int .i64 1, .bool (g && decide (f.fam = 1)), .slice none 0 0, .int .i64 0]) ∧ Below w.heap.size w w' := by
 have hB : (famB f == 65) = decide (f.fam = 1) := by
  unfold famB
  by_cases h1 : f.fam = 1
  · simp [h1]
  · by_cases h2 : f.fam = 2 <;> simp [h1, h2]
 cases g
 · have I := Inv.startR w [u] [⟨223, (uS f n way a), true⟩] [] ⟨U, True.intro⟩ True.intro
   refine a0h [.p 0 0, .v (.bool false)] I Tryz.func126 ?_
   exact zrb I
 · generalize decide (f.fam = 1) = q at *
   have I := Inv.startR w [u] [⟨223, (uS f n way a), true⟩] [] ⟨U, True.intro⟩ True.intro
   refine a0h [.p 0 0, .v (.bool true)] I Tryz.func126 ?_
   refine zb I 11 ((famB f) == 65) (q) (hB) fun Al W I => ?_
   exact zrb I
theorem j1b : Tryz.prog.underlying 246 = some (.map 5 3) := by kernel_rfl
def o0b : Array MapEntry := #[⟨.int .u8 65, .int .i64 4, 0⟩, ⟨.int .u8 66, .int .i64 1, 1⟩, ⟨.int .u8 67, .int .i64 5, 2⟩]
theorem f1k (f : Fm) (n way a : Int) (u : Nat) (w : World) (U : Bt w u 223 #[.int .i64 n, .int .i64 way, .int .i64 f.g.rad, .int .i64 f.g.digs, .int .i64 f.g.lo, .int .i64 f.g.hi, .bool f.g.grad, .int .u8 (famB f), .int .i64 a]) :
 Calls Tryz.prog 158 #[.pointer (some ⟨u, 0, none⟩)] w fun e w' => e = .returned (.agg #[.int .i64 (f.nothM.cls : Int), .bool false, .slice none 0 0, .int .i64 0]) ∧ Below w.heap.size w w' := by
 have hmm := @run_makeMap Tryz.prog
 go_enter Tryz.func158, Tryz.ntmps158
 have hs : (w.alloc (Obj.cells #[Value.int IntKind.i64 0, Value.bool false, Value.slice none 0 0, Value.int IntKind.i64 0] 66)).heap.size = w.heap.size + 1 := by show (w.heap.push _).size = _; exact Array.size_push ..
 have h1 := e0p (w := w.alloc (Obj.cells #[Value.int IntKind.i64 0, Value.bool false, Value.slice none 0 0, Value.int IntKind.i64 0] 66)) j1b Tryz.underlying5 #[] 0 65 (.int .i64 4) rfl
 have h2 := e0p (w := w.alloc (Obj.cells #[Value.int IntKind.i64 0, Value.bool false, Value.slice none 0 0, Value.int IntKind.i64 0] 66)) j1b Tryz.underlying5 #[⟨.int .u8 65, .int .i64 4, 0⟩] 1 66 (.int .i64 1) rfl
 have h3 := e0p (w := w.alloc (Obj.cells #[Value.int IntKind.i64 0, Value.bool false, Value.slice none 0 0, Value.int IntKind.i64 0] 66)) j1b Tryz.underlying5 #[⟨.int .u8 65, .int .i64 4, 0⟩, ⟨.int .u8 66, .int .i64 1, 1⟩] 2 67 (.int .i64 5) rfl
 rw [hs] at h1 h2 h3
 have U3 : ∀ es c, Bt ((w.alloc (Obj.cells #[Value.int IntKind.i64 0, Value.bool false, Value.slice none 0 0, Value.int IntKind.i64 0] 66)).alloc (Obj.map es c)) u 223 #[.int .i64 n, .int .i64 way, .int .i64 f.g.rad, .int .i64 f.g.digs, .int .i64 f.g.lo, .int .i64 f.g.hi, .bool f.g.grad, .int .u8 (famB f), .int .i64 a] := fun es c => U.past (((Below.refl _ _).alloc (Nat.le_refl _) _).alloc (by rw [hs]; omega) _)
 have hL := (U3 o0b 3).bx.c 7 (v := .int .u8 (famB f)) rfl
 have hM : ((w.alloc (Obj.cells #[Value.int IntKind.i64 0, Value.bool false, Value.slice none 0 0, Value.int IntKind.i64 0] 66)).alloc (Obj.map o0b 3)).heap[w.heap.size + 1]? = some (.map o0b 3) := by
  rw [← hs]; show ((World.alloc _ _).heap.push _)[_]? = _; exact Array.getElem?_push_size
 have hF : ∃ i, Instr.findNow (.int .u8) (.int .u8 (famB f)) o0b.toList 0 = some (some (i, .int .i64 (f.nothM.cls : Int))) := by
  unfold famB Fm.nothM
  by_cases h1 : f.fam = 1
  · rw [if_pos h1, if_pos h1]; exact ⟨0, rfl⟩
  · rw [if_neg h1, if_neg h1]
    by_cases h2 : f.fam = 2
    · rw [if_pos h2, if_pos h2]; exact ⟨1, rfl⟩
    · rw [if_neg h2, if_neg h2]; exact ⟨2, rfl⟩
 obtain ⟨i, hF⟩ := hF
 have hK := g0l j1b Tryz.underlying5 hM (famB f) hF
 simp only [o0b] at hL hK
 clear hM hF U3
 go_wp2_with fail
 have hC : Bt ((w.alloc (Obj.cells #[.int .i64 (f.nothM.cls : Int), .bool false, .slice none 0 0, .int .i64 0] 66)).alloc (Obj.map o0b 3)) w.heap.size 66 #[.int .i64 (f.nothM.cls : Int), .bool false, .slice none 0 0, .int .i64 0] := by
  show ((w.heap.push _).push _)[_]? = _
  rw [Array.getElem?_push_lt (by rw [Array.size_push]; omega)]
  simp
 simp only [o0b] at hC
 have ⟨b0, b1, b2, b3⟩ := hC.bx.e4
 refine bodyPost_ret (v := .agg #[.int .i64 (f.nothM.cls : Int), .bool false, .slice none 0 0, .int .i64 0]) (by simp [results, Tryz.results158, go_sem, b0, b1, b2, b3]) rfl ⟨rfl, ?_⟩
 refine ((Below.refl _ _).alloc (Nat.le_refl _) _).alloc ?_ _
 show _ ≤ (w.heap.push _).size
 rw [Array.size_push]; omega
def n1b (w : World) (v : Vl) (en : Ending) (w' : World) : Prop :=
 ∃ p c, en = .returned (.agg #[.int .i64 (v.cls : Int), .bool v.neg, .slice p (dig B32 v.d).length c, .int .i64 v.pow]) ∧ Own w' w.heap.size .u32 143 p c (dig B32 v.d) ∧ Below w.heap.size w w'
theorem g0w (f : Fm) (n way a : Int) (g : Bool) (u : Nat) (w : World) (U : Bt w u 223 #[.int .i64 n, .int .i64 way, .int .i64 f.g.rad, .int .i64 f.g.digs, .int .i64 f.g.lo, .int .i64 f.g.hi, .bool f.g.grad, .int .u8 (famB f), .int .i64 a]) (hd : 0 ≤ f.g.digs ∧ f.g.digs ≤ 1000) :
 Calls Tryz.prog 206 #[.pointer (some ⟨u, 0, none⟩), .bool g] w (n1b w ⟨2, g, 2 ^ (wid f.g * f.g.digs.toNat) - 1, f.g.hi⟩) := by
 have wp := b0n f.g
 have lu := U.lt
 have hmw : ((wid f.g * f.g.digs.toNat : Nat) : Int) = (wid f.g : Nat) * f.g.digs := by rw [Int.natCast_mul, Int.toNat_of_nonneg hd.1]
 have hmb : wid f.g * f.g.digs.toNat ≤ 4 * 1000 := Nat.mul_le_mul wp.2 (by omega)
 have l1 : (dig B32 1).length ≤ 1 := by rw [a0f a0a]; unfold B32; omega
 have l2 : (dig B32 (2 ^ (wid f.g * f.g.digs.toNat))).length ≤ 126 := b0d (n := wid f.g * f.g.digs.toNat + 1) (k := 126) (Nat.pow_lt_pow_right (a := 2) (by omega) (by omega)) (by omega)
 have h1 := Nat.one_le_two_pow (n := wid f.g * f.g.digs.toNat)
 have HW := fun W u hU => hi0 (n1a f n way a u W hU)
 generalize wid f.g * f.g.digs.toNat = m at *
 generalize hx : 2 ^ m = x at *
 have HX := hi0 hx
 clear hx
 have HM := hi0 hmw
 clear hmw
 have I := Inv.startR w [u] [⟨223, (uS f n way a), true⟩] [] ⟨U, True.intro⟩ True.intro
 refine a0h [.p 0 0, .v (.bool g)] I Tryz.func206 ?_
 refine zq I (fun Al W I => (HW W _ (I.box 0 223 _)).out) fun Al W I => ?_
 refine zd [] I fun Al W I => ?_
 refine zk [1, 2, 3, 4, 5, 6] I fun I => ?_
 refine zki 7 I .i64 (((wid f.g : Nat) : Int) * f.g.digs) ((m : Int)) ((by rw [HM.out]; exact IntWalk.i64_in _ (by rw [← HM.out]; omega))) fun I => ?_
 refine zo 0 I fun I => ?_
 refine zqo I (fun Al W I => have hzW := I.bel.size; sof 1 1 rfl (by omega) W) fun Al W p9 c9 I => ?_
 refine zo 8 I fun I => ?_
 refine zqo I (fun Al W I => have hzW := I.bel.size; sshl p9 _ c9 1 m x _ W I.fa.1.rd rfl (by omega) (by omega) rfl (by rw [HX.out]; omega)) fun Al W p17 c17 I => ?_
 refine zo 9 I fun I => ?_
 refine zqo I (fun Al W I => have hzW := I.bel.size; sof 1 1 rfl (by omega) W) fun Al W p18 c18 I => ?_
 refine zo 10 I fun I => ?_
 refine zqo I (fun Al W I => have hzW := I.bel.size; ssub p17 p18 _ _ c17 c18 x 1 (x - 1) W I.fa.2.1.rd I.fa.1.rd rfl rfl (by omega) (by omega) rfl) fun Al W p19 c19 I => ?_
 refine zk [11] I fun I => ?_
 exact zret I fun Al W I => ⟨p19, c19, rfl, I.fa.1.mono (by omega), I.below⟩
def l0x (f : Fm) (n way c : Int) (u : Nat) (w : World) (v : Vl) (en : Ending) (w' : World) : Prop :=
 ∃ p k, en = .returned (.agg #[.int .i64 (v.cls : Int), .bool v.neg, .slice p (dig B32 v.d).length k, .int .i64 v.pow]) ∧ Own w' w.heap.size .u32 143 p k (dig B32 v.d) ∧ Kp [u] w w' ∧ Bt w' u 223 #[.int .i64 n, .int .i64 way, .int .i64 f.g.rad, .int .i64 f.g.digs, .int .i64 f.g.lo, .int .i64 f.g.hi, .bool f.g.grad, .int .u8 (famB f), .int .i64 c]
theorem j1c (f : Fm) (n way a c : Int) (g : Bool) (u : Nat) (w : World) (U : Bt w u 223 #[.int .i64 n, .int .i64 way, .int .i64 f.g.rad, .int .i64 f.g.digs, .int .i64 f.g.lo, .int .i64 f.g.hi, .bool f.g.grad, .int .u8 (famB f), .int .i64 a]) (hd : 0 ≤ f.g.digs ∧ f.g.digs ≤ 1000) (hc : bits .or .i64 a 5 = c) (h2 : f.fam = 2) :
 Calls Tryz.prog 196 #[.pointer (some ⟨u, 0, none⟩), .bool g] w (l0x f n way c u w ⟨2, g, 2 ^ (wid f.g * f.g.digs.toNat) - 1, f.g.hi⟩) := by
 have hF : famB f = 66 := by unfold famB; rw [if_neg (by omega), if_pos h2]
 have HR := fun W u hU => hi0 (d0o f n way a 5 c u W hU hc)
 have HG := fun W u hU => hi0 (g0w f n way c g u W hU hd)
 generalize 2 ^ (wid f.g * f.g.digs.toNat) - 1 = m at *
 have I := Inv.startW w u 223 (uS f n way a) [] U True.intro True.intro
 refine a0h [.p 0 0, .v (.bool g)] I Tryz.func196 ?_
 refine zge I 0 223 (fun Al W I => (HR W _ (I.box 0 223 _)).out) fun Al V Iv _ _ kz => ?_
 rintro _ W ⟨rfl, hO, hB⟩
 refine ⟨_, rfl, kz _ (uS f n way c) _ hO hB fun I => ?_⟩
 refine zb I 13 ((famB f) == 66) (true) (beq_iff_eq.2 hF) fun Al W I => ?_
 refine zqo I (fun Al W I => (HG W _ (I.box 0 223 _)).out) fun Al W p16 c16 I => ?_
 exact zret I fun Al W I => ⟨p16, c16, rfl, I.fa.1.mono (by omega), I.bel, I.boxE 223 _⟩
theorem d0w {f : Fm} {n way c : Int} {u k : Nat} {g : Bool} {w w' : World} {en : Ending} (h : en = .returned (.agg #[.int .i64 (k : Int), .bool g, .slice none 0 0, .int .i64 0])) (hk : Kp [u] w w') (hb : Bt w' u 223 #[.int .i64 n, .int .i64 way, .int .i64 f.g.rad, .int .i64 f.g.digs, .int .i64 f.g.lo, .int .i64 f.g.hi, .bool f.g.grad, .int .u8 (famB f), .int .i64 c]) : l0x f n way c u w ⟨k, g, 0, 0⟩ en w' := by
 refine ⟨none, 0, ?_, ?_, hk, hb⟩
 · rw [h, a0d]; rfl
 · show Own _ _ _ _ _ _ (dig B32 0); rw [a0d]; exact Own.nil _ _ _ _
theorem j1d (f : Fm) (n way a c : Int) (g : Bool) (u : Nat) (w : World) (U : Bt w u 223 #[.int .i64 n, .int .i64 way, .int .i64 f.g.rad, .int .i64 f.g.digs, .int .i64 f.g.lo, .int .i64 f.g.hi, .bool f.g.grad, .int .u8 (famB f), .int .i64 a]) (hc : bits .or .i64 a 5 = c) (h1 : f.fam ≠ 1) (h2 : f.fam ≠ 2) :
 Calls Tryz.prog 196 #[.pointer (some ⟨u, 0, none⟩), .bool g] w (l0x f n way c u w ⟨f.nothM.cls, false, 0, 0⟩) := by
 have hF : famB f = 67 := by unfold famB; rw [if_neg h1, if_neg h2]
 have HR := fun W u hU => hi0 (d0o f n way a 5 c u W hU hc)
 have HG := fun W u hU => hi0 (f1k f n way c u W hU)
 generalize f.nothM.cls = k at *
 have I := Inv.startW w u 223 (uS f n way a) [] U True.intro True.intro
 refine a0h [.p 0 0, .v (.bool g)] I Tryz.func196 ?_
 refine zge I 0 223 (fun Al W I => (HR W _ (I.box 0 223 _)).out) fun Al V Iv _ _ kz => ?_
 rintro _ W ⟨rfl, hO, hB⟩
 refine ⟨_, rfl, kz _ (uS f n way c) _ hO hB fun I => ?_⟩
 refine zb I 13 ((famB f) == 66) (false) (bFn (by rw [hF]; decide)) fun Al W I => ?_
 refine zb I 18 ((famB f) == 67) (true) (beq_iff_eq.2 hF) fun Al W I => ?_
 refine zq I (fun Al W I => (HG W _ (I.box 0 223 _)).out) fun Al W I => ?_
 exact zret I fun Al W I => d0w rfl I.bel (I.boxE 223 _)
theorem l0p (g : Bool) (w : World) : Calls Tryz.prog 207 #[.bool g] w fun e w' => e = .returned (.agg #[.int .i64 3, .bool g, .slice none 0 0, .int .i64 0]) ∧ Below w.heap.size w w' := by
 have I := Inv.start w [] True.intro
 refine a0h [.v (.bool g)] I Tryz.func207 ?_
 exact zrb I
end Go.Proofs.YtbamiajjampgnaaGreatDoor
namespace Go.Slip
def LL (bs : List Nat) (i : Nat) : List Nat := bs.take i ++ List.replicate (bs.length - i) 0
theorem o0c (bs : List Nat) (i : Nat) : (LL bs i).length = bs.length := by unfold LL; rw [List.length_append, List.length_take, List.length_replicate]; omega
theorem n1c (bs : List Nat) : LL bs 0 = List.replicate bs.length 0 := by unfold LL; rw [List.take_zero]; rfl
theorem q1j (bs : List Nat) : LL bs bs.length = bs := by unfold LL; rw [List.take_length, Nat.sub_self]; simp
theorem f1l (bs : List Nat) (i j : Nat) : dg (LL bs i) j = if j < i then dg bs j else 0 := by
 unfold LL
 by_cases h : j < (bs.take i).length
 · rw [s0u h]
   have h2 : j < i := by rw [List.length_take] at h; omega
   rw [e0z h2, if_pos h2]
 · rw [s0v (by omega), c0p]
   split
   · rw [b0r]
     rw [List.length_take] at h
     omega
   · rfl
theorem q1k (bs : List Nat) {i : Nat} (h : i < bs.length) : (LL bs i).set i (dg bs i) = LL bs (i + 1) := by
 refine p0p (by rw [List.length_set, o0c, o0c]) fun j hj => ?_
 rw [List.length_set, o0c] at hj
 by_cases e : i = j
 · subst e
   rw [b0p (by rw [o0c]; exact h), f1l, if_pos (by omega)]
 · rw [b0s e, f1l, f1l]
   by_cases k : j < i
   · rw [if_pos k, if_pos (by omega)]
   · rw [if_neg k, if_neg (by omega)]
theorem n1d (bs : List Nat) {i : Nat} (h0 : dg bs i = 0) : LL bs i = LL bs (i + 1) := by
 refine p0p (by rw [o0c, o0c]) fun j _ => ?_
 rw [f1l, f1l]
 by_cases e : j = i
 · subst e
   rw [if_neg (by omega), if_pos (by omega), h0]
 · by_cases k : j < i
   · rw [if_pos k, if_pos (by omega)]
   · rw [if_neg k, if_neg (by omega)]
theorem f1m (n : Nat) : IntKind.u8.wrap (n : Int) = ((n % 256 : Nat) : Int) := by
 simp [IntKind.wrap, IntKind.signed, IntKind.bits]
theorem f1n (n : Nat) : dg (dig B32 n) 0 = n % 4294967296 := by
 rcases Nat.eq_zero_or_pos n with h | h
 · subst h; rw [a0d]; rfl
 · rw [d0b a0a h]; rfl
section
open Go.RowKit
variable {P : Program} {ops : Array Oper} {Q : Exit → Act → World → Prop} {a : Act} {w : World} {rest : List Oper} {o : Oper}
theorem smkn (d : Nat) {x y : Operand} {t : TypeId} {e : TypeId} {k : IntKind} {bytes : Nat} (hty : k0g P t e (.int k 0) bytes) (n : Nat) (hb : n ≤ 4000000000)
 (h : ∀ p' c' w', Own w' w.heap.size k e p' c' (List.replicate n 0) → Below w.heap.size w w' → WpL P ops Q rest (a.put (some d) (.slice p' n c')) w')
 (hx : a.eval x = .int .i64 (n : Int) := by kernel_rfl) (hy : a.eval y = .int .i64 (n : Int) := by kernel_rfl)
 (ho : o.op = .makeSlice t x y := by rfl) (hd : o.dst = some d := by kernel_rfl)
 (hw : Region.wanted o (yielded ops a.tmps) = true := by kernel_rfl) : WpL P ops Q (o :: rest) a w :=
 d0d (p1c (some d) hd x y t ho hty .i64 .i64 n hx hy hb hw fun p' c' w' h1 h2 => h p' c' w' (y0f (by rw [List.map_replicate]; exact h1)) h2)
end
end Go.Slip
namespace Go.Proofs.YtbamiajjampgnaaGreatDoor
open Go.RowKit Go.Slip
theorem z0e (f : Fm) (g : Bool) (e x : Nat) (p : Option Addr) (c : Nat) (w : World) (G : d0k f) (hp : Rd w .u32 p (dig B32 x)) (he : e < 2 ^ f.E) (hx : x < 2 ^ f.F) :
 Calls Tryz.prog 187 #[.agg #[.int .i64 (f.size : Int), .int .i64 (f.E : Int), .int .i64 (f.F : Int), .int .i64 f.g.rad, .int .i64 f.g.digs, .int .i64 f.g.lo, .int .i64 f.g.hi, .bool f.g.grad, .bool f.hid, .bool f.inf, .bool f.res, .func (.func (ordF f)) #[] #[]], .agg #[.bool g, .int .i64 (e : Int), .slice p (dig B32 x).length c]] w fun en w' => en = .returned (.string (a0c (f.str g e x))) ∧ Below w.heap.size w w' := by
 have z1 := G.sz
 have z2 := G.e2
 have z3 := G.f2
 have z4 := G.bits
 have hlt := k1r G (neg := g) he hx
 have hxl := b0d hx (k := 2) (by omega)
 have hT : g.toNat * 2 ^ f.E + e < 2 ^ 16 := by
  have h1 : 2 ^ f.E ≤ 2 ^ 15 := Nat.pow_le_pow_right (by omega) (by omega)
  cases g <;> simp <;> omega
 have hpw : 2 ^ f.E ≤ 2 ^ 15 := Nat.pow_le_pow_right (by omega) (by omega)
 have hsh := r0f (E := f.E) (by omega)
 have hor := a1e (x := e) (E := f.E) he (by omega)
 have h80 : f.pat g e x < 2 ^ 80 := Nat.lt_of_lt_of_le hlt (Nat.pow_le_pow_right (by omega) (by omega))
 unfold Fm.str
 have hpe : f.pat g e x = (g.toNat * 2 ^ f.E + e) * 2 ^ f.F + x := rfl
 have hord := fun (W : World) (base : Nat) (p : Option Addr) (c : Nat) (xs : List Nat) h1 h2 h3 => e1c f base p f.size c xs W G h1 h2.symm h2 h3
 generalize hNN : f.pat g e x = NN at *
 have hbl : (e0d NN f.size).length = f.size := e0a _ _
 have hdg := fun i h => t0k f.size NN i h
 have hbs := fun i h => q1k (e0d NN f.size) (i := i) h
 have hbz := fun i h => n1d (e0d NN f.size) (i := i) h
 have hball := q1j (e0d NN f.size)
 have hb0 := n1c (e0d NN f.size)
 have hLl := o0c (e0d NN f.size)
 rw [hbl] at hball hb0
 generalize e0d NN f.size = bs at *
 generalize h2E : 2 ^ f.E = P at *
 have hNl := b0d h80 (k := 3) (by omega)
 have hTl : (dig B32 ((g.toNat * P + e) * 2 ^ f.F)).length ≤ 3 := b0d (n := 80) (by omega) (by omega)
 have hQl : ∀ N, (dig B32 (NN / 2 ^ N)).length ≤ 3 := fun N => b0d (n := 80) (Nat.lt_of_le_of_lt (Nat.div_le_self _ _) h80) (by omega)
 have HSH := hi0 hsh
 have HOR := hi0 hor
 have HPE := hi0 hpe
 have HB0 := hi0 hb0
 clear hsh hor hpe hb0 hlt h80 hNN h2E
 have hT3 : f0r Tryz.prog 3 := e0m (by kernel_rfl) (by kernel_rfl)
 have hT4 : f0r Tryz.prog 4 := e0m (by kernel_rfl) (by kernel_rfl)
 have hT23 : f0r Tryz.prog 23 := e0m (by kernel_rfl) (by kernel_rfl)
 have hT134 : f0r Tryz.prog 134 := e0m (by kernel_rfl) (by kernel_rfl)
 refine calls_of_wp Tryz.func187 rfl ?_
 refine k0d (a' := ⟨((.agg #[.int .i64 (f.size : Int), .int .i64 (f.E : Int), .int .i64 (f.F : Int), .int .i64 f.g.rad, .int .i64 f.g.digs, .int .i64 f.g.lo, .int .i64 f.g.hi, .bool f.g.grad, .bool f.hid, .bool f.inf, .bool f.res, .func (.func (ordF f)) #[] #[]]) :: (.agg #[.bool g, .int .i64 (e : Int), .slice p (dig B32 x).length c]) :: us 58 []).toArray, []⟩) (by kernel_rfl) ?_
 refine ye ?_
 refine yw 0 rfl 2 #[.int .i64 (f.size : Int), .int .i64 (f.E : Int), .int .i64 (f.F : Int), .int .i64 f.g.rad, .int .i64 f.g.digs, .int .i64 f.g.lo, .int .i64 f.g.hi, .bool f.g.grad, .bool f.hid, .bool f.inf, .bool f.res, .func (.func (ordF f)) #[] #[]] 136 (fun V1 hbV1 hzV1 b2 => ?_)
 refine yw 0 rfl 3 #[.bool g, .int .i64 (e : Int), .slice p (dig B32 x).length c] 216 (fun V2 hbV2 hzV2 b3 => ?_)
 refine yzt 1 ?_
 refine ye ?_
 refine yl 1 rfl 11 b3 hT3 1 ?_
 refine yzt 1 ?_
 refine wp_seq ?_
 refine ye ?_
 rcases Bool.eq_false_or_eq_true (g) with f13 | f13
 · refine ylb 1 rfl 13 b3 hT4 0 (g) true (f13) ?_
   refine yzt 0 ?_
   refine yT ?_
   refine c0n ?_
   have b2_w2 := b2.past hbV2
   refine yl 2 rfl 16 b2_w2 hT3 1 ?_
   refine yv 0 rfl 17 (.int .i64 (P : Int)) ?_ (q0s (X := (1)) (Y := (f.E : Int)) (k2 := .i64) (P : Int) (by kernel_rfl) (by kernel_rfl) (by omega) ((HSH.out)))
   refine yv 0 rfl 18 (.int .i64 ((P + e : Nat) : Int)) ?_ (l1x (X := (e : Int)) (Y := ((P : Int))) ((P + e : Nat) : Int) (by kernel_rfl) (by kernel_rfl) ((HOR.out)))
   refine yz 1 ?_
   refine b0x ?_
   refine wp_seq ?_
   obtain ⟨V3, hVV3, hbV3, hzV3⟩ := q0u V2
   have b2_w3 := b2.past (a0i hbV2 hbV3)
   replace b3 := (b3.past hbV3)
   refine yd2 hVV3 ⟨b2_w3, b3⟩ ?_
   clear hVV3
   refine yt 7 [0, 2] rfl ⟨b2_w3, b3⟩ ?_
   refine ytl 3 rfl 22 (fun _ h => h.1) hT3 2 ⟨b2_w3, b3⟩ ?_
   refine yt 5 [5] rfl ⟨b2_w3, b3⟩ ?_
   refine ytl 6 rfl 25 (fun _ h => h.2) hT23 2 ⟨b2_w3, b3⟩ ?_
   refine sxr [1] ?_
   refine rd1 (fun Kx hKx => ?_)
   refine yck 20 (sof ((P + e : Nat) : Int) (g.toNat * P + e) (by rw [f13, Bool.toNat_true, Nat.one_mul]) (by omega) V3) ?_
   rintro eV4 V4 ⟨p20, c20, rfl, o20, hbV4⟩
   have hzV4 := hbV4.size
   refine ⟨_, rfl, ?_⟩
   have b2_w4 := b2.past (a0i (a0i hbV2 hbV3) hbV4)
   replace b3 := (b3.past hbV4)
   refine hKx.out _ _ ⟨b2_w4, b3⟩ ?_
   clear hKx Kx
   refine sxr [4] ?_
   refine rd1 (fun Kx hKx => ?_)
   refine yck 23 (sshl p20 _ c20 (g.toNat * P + e) f.F ((g.toNat * P + e) * 2 ^ f.F) _ V4 o20.rd rfl (by have := b0d hT (k := 1) (by omega); omega) (by omega) rfl rfl) ?_
   rintro eV5 V5 ⟨p23, c23, rfl, o23, hbV5⟩
   have hzV5 := hbV5.size
   refine ⟨_, rfl, ?_⟩
   have b2_w5 := b2.past (a0i (a0i (a0i hbV2 hbV3) hbV4) hbV5)
   replace b3 := (b3.past hbV5)
   refine hKx.out _ _ ⟨b2_w5, b3⟩ ?_
   clear hKx Kx
   refine sxr [7] ?_
   refine rd1 (fun Kx hKx => ?_)
   replace hp := (hp.past (a0i (a0i (a0i (a0i hbV1 hbV2) hbV3) hbV4) hbV5))
   refine yck 26 (sadd p23 p _ _ c23 c ((g.toNat * P + e) * 2 ^ f.F) x NN V5 o23.rd hp rfl rfl (by omega) (by omega) HPE.out.symm) ?_
   rintro eV6 V6 ⟨p26, c26, rfl, o26, hbV6⟩
   have hzV6 := hbV6.size
   refine ⟨_, rfl, ?_⟩
   have b2_w6 := b2.past (a0i (a0i (a0i (a0i hbV2 hbV3) hbV4) hbV5) hbV6)
   replace b3 := (b3.past hbV6)
   refine hKx.out _ _ ⟨b2_w6, b3⟩ ?_
   clear hKx Kx
   refine yt 0 [8] rfl ⟨b2_w6, b3⟩ ?_
   refine m0y (by kernel_rfl) ?_
   refine b0x ?_
   refine ye ?_
   refine yl 1 rfl 28 b2_w6 hT3 0 ?_
   refine smkn 29 l0n f.size (by omega) (fun p29 c29 V7 b29 hjV7 => ?_)
   have hbV7 : Below V6.heap.size V6 V7 := (Below.refl _ _).trans (hjV7.mono (by omega))
   have hzV7 := hbV7.size
   refine yzt 1 ?_
   refine wp_seq ?_
   refine yq ?_
   refine wp_block ?_
   refine k0d (a' := ⟨((.agg #[.int .i64 (f.size : Int), .int .i64 (f.E : Int), .int .i64 (f.F : Int), .int .i64 f.g.rad, .int .i64 f.g.digs, .int .i64 f.g.lo, .int .i64 f.g.hi, .bool f.g.grad, .bool f.hid, .bool f.inf, .bool f.res, .func (.func (ordF f)) #[] #[]]) :: (.agg #[.bool g, .int .i64 (e : Int), .slice p (dig B32 x).length c]) :: (.pointer (some ⟨w.heap.size, 0, none⟩)) :: (.pointer (some ⟨V1.heap.size, 0, none⟩)) :: (Go.Value.string (ByteArray.mk #[])) :: (.int .i64 ((P + e : Nat) : Int)) :: (.slice p26 (dig B32 NN).length c26) :: (.slice p29 f.size c29) :: us 2 ((.pointer (some ⟨V1.heap.size, 1, none⟩)) :: (.int .i64 (e : Int)) :: (.pointer (some ⟨V1.heap.size, 0, none⟩)) :: (.bool true) :: (.int .i64 (e : Int)) :: (.pointer (some ⟨w.heap.size, 1, none⟩)) :: (.int .i64 (f.E : Int)) :: (.int .i64 (P : Int)) :: (.int .i64 ((P + e : Nat) : Int)) :: (.int .i64 ((P + e : Nat) : Int)) :: (.slice p20 (dig B32 (g.toNat * P + e)).length c20) :: (.pointer (some ⟨w.heap.size, 2, none⟩)) :: (.int .i64 (f.F : Int)) :: (.slice p23 (dig B32 ((g.toNat * P + e) * 2 ^ f.F)).length c23) :: (.pointer (some ⟨V1.heap.size, 2, none⟩)) :: (.slice p (dig B32 x).length c) :: (.slice p26 (dig B32 NN).length c26) :: (.pointer (some ⟨w.heap.size, 0, none⟩)) :: (.int .i64 (f.size : Int)) :: (.slice p29 f.size c29) :: (.slice p29 f.size c29) :: (.int .i64 (f.size : Int)) :: (.int .i64 0) :: us 27 [])).toArray, []⟩) (by kernel_rfl) ?_
   refine q0t (fun (gk : Nat) U0 a' w' => ∃ (i : Nat), a' = ⟨((.agg #[.int .i64 (f.size : Int), .int .i64 (f.E : Int), .int .i64 (f.F : Int), .int .i64 f.g.rad, .int .i64 f.g.digs, .int .i64 f.g.lo, .int .i64 f.g.hi, .bool f.g.grad, .bool f.hid, .bool f.inf, .bool f.res, .func (.func (ordF f)) #[] #[]]) :: (.agg #[.bool g, .int .i64 (e : Int), .slice p (dig B32 x).length c]) :: (.pointer (some ⟨w.heap.size, 0, none⟩)) :: (.pointer (some ⟨V1.heap.size, 0, none⟩)) :: (Go.Value.string (ByteArray.mk #[])) :: (.int .i64 ((P + e : Nat) : Int)) :: (.slice p26 (dig B32 NN).length c26) :: (.slice p29 f.size c29) :: uvs U0 8 2 ((.pointer (some ⟨V1.heap.size, 1, none⟩)) :: (.int .i64 (e : Int)) :: (.pointer (some ⟨V1.heap.size, 0, none⟩)) :: (.bool true) :: (.int .i64 (e : Int)) :: (.pointer (some ⟨w.heap.size, 1, none⟩)) :: (.int .i64 (f.E : Int)) :: (.int .i64 (P : Int)) :: (.int .i64 ((P + e : Nat) : Int)) :: (.int .i64 ((P + e : Nat) : Int)) :: (.slice p20 (dig B32 (g.toNat * P + e)).length c20) :: (.pointer (some ⟨w.heap.size, 2, none⟩)) :: (.int .i64 (f.F : Int)) :: (.slice p23 (dig B32 ((g.toNat * P + e) * 2 ^ f.F)).length c23) :: (.pointer (some ⟨V1.heap.size, 2, none⟩)) :: (.slice p (dig B32 x).length c) :: (.slice p26 (dig B32 NN).length c26) :: (.pointer (some ⟨w.heap.size, 0, none⟩)) :: (.int .i64 (f.size : Int)) :: (.slice p29 f.size c29) :: (.slice p29 f.size c29) :: (.int .i64 (f.size : Int)) :: (.int .i64 (i : Int)) :: uvs U0 33 21 (us 6 []))).toArray, []⟩ ∧ (Own w' V6.heap.size .u8 5 p29 c29 (LL bs i)) ∧ Below V6.heap.size V6 w' ∧ (gk + i = f.size)) f.size ?_ (fun Gx hGx => ?_)
   · exact ⟨0, by kernel_rfl, (by rw [HB0.out]; exact b29), hbV7, (by omega)⟩
   rintro gk0 U0 _ V8 ⟨i, rfl, r29, hbV8, hgk⟩
   refine hGx _ _ _ ?_
   clear hGx Gx
   have hzV8 := hbV8.size
   refine ye ?_
   rcases Bool.eq_false_or_eq_true (decide ((i : Int) < (f.size : Int))) with f33 | f33
   · refine yb 0 rfl 33 (decide ((i : Int) < (f.size : Int))) (true) (f33) ?_
     refine yzt 0 ?_
     refine yTs ?_
     refine wp_skip ?_
     refine b0x ?_
     refine wp_seq ?_
     refine wp_block ?_
     refine yq ?_
     refine ye ?_
     have b2_w8 := b2.past (a0i (a0i (a0i (a0i (a0i hbV2 hbV3) hbV4) hbV5) hbV6) hbV8)
     refine yl 2 rfl 37 b2_w8 hT3 0 ?_
     refine ya 0 rfl 38 .i64 ((f.size : Int) - 1) (((f.size - 1 : Nat) : Int)) ((by rw [show ((f.size : Int) - 1) = ((f.size - 1 : Nat) : Int) by omega]; exact iwo)) ?_
     refine ya 1 rfl 40 .i64 (((f.size - 1 : Nat) : Int) - (i : Int)) (((f.size - 1 - i : Nat) : Int)) ((by rw [show (((f.size - 1 : Nat) : Int) - (i : Int)) = ((f.size - 1 - i : Nat) : Int) by have := oTr f33; omega]; exact iwo)) ?_
     refine ya 0 rfl 41 .i64 ((8 : Int) * ((f.size - 1 - i : Nat) : Int)) (((8 * (f.size - 1 - i) : Nat) : Int)) ((by rw [show ((8 : Int) * ((f.size - 1 - i : Nat) : Int)) = ((8 * (f.size - 1 - i) : Nat) : Int) by omega]; exact iwo)) ?_
     have o26_w8 := o26.past hbV8
     refine yc 0 rfl 42 (sshr p26 _ c26 NN (8 * (f.size - 1 - i)) (NN / 2 ^ (8 * (f.size - 1 - i))) _ V8 o26_w8.rd rfl (by have := o26_w8.le_cap; omega) (by omega) (by omega) rfl rfl) (fun Gx hGx => ?_)
     rintro eV9 V9 ⟨p42, c42, rfl, o42, hbV9⟩
     have hzV9 := hbV9.size
     refine ⟨_, rfl, hGx _ _ ?_⟩
     clear hGx Gx
     refine yzt 1 ?_
     have hi := oTr f33
     have hdi := hdg i (by omega)
     have hq0 := a0e a0a (NN / 2 ^ (8 * (f.size - 1 - i)))
     refine ye ?_
     rcases Bool.eq_false_or_eq_true (decide ((((dig B32 (NN / 2 ^ (8 * (f.size - 1 - i)))).length : Nat) : Int) > 0)) with f45 | f45
     · refine yb 2 rfl 45 (decide ((((dig B32 (NN / 2 ^ (8 * (f.size - 1 - i)))).length : Nat) : Int) > 0)) (true) (f45) ?_
       refine yzt 0 ?_
       refine yT ?_
       refine c0n ?_
       refine yv 3 rfl 49 (.pointer (some (at_ p42 0))) ?_ (r0d (p := p42) (n := (dig B32 (NN / 2 ^ (8 * (f.size - 1 - i)))).length) (c := c42) (m := 0) b0t o42.rd.solid (by kernel_rfl) (by kernel_rfl) (by have := oTr f45; omega))
       refine yv 0 rfl 50 (.int .u32 ((dg (dig B32 (NN / 2 ^ (8 * (f.size - 1 - i)))) 0 : Nat) : Int)) ?_ (m0g o42.rd i1k (m := 0) (by kernel_rfl) (by have := oTr f45; omega) rfl)
       refine ya 0 rfl 51 .u8 ((dg (dig B32 (NN / 2 ^ (8 * (f.size - 1 - i)))) 0 : Nat) : Int) (((dg bs i : Nat) : Int)) ((by rw [f1m, f1n, hdi]; congr 1; exact Nat.mod_mod_of_dvd _ (by decide))) ?_
       replace r29 := (r29.past hbV9)
       refine yv 0 rfl 52 (.pointer (some (at_ p29 i))) ?_ (y0i (p := p29) (n := f.size) (c := c29) (m := i) l0n (by have h := r29.solid; rw [hLl, hbl] at h; exact h) (by kernel_rfl) (by kernel_rfl) (by omega))
       refine p1e l0n V6.heap.size p29 c29 _ r29 i (by rw [hLl, hbl]; omega) (dg bs i) (fun V10 n29 hjV10 => ?_)
       have hbV10 : Below V6.heap.size V6 V10 := (a0i hbV8 hbV9).trans (hjV10.mono (by omega))
       have hzV10 := hbV10.size
       refine yz 0 ?_
       refine g0s ?_
       refine b0x ?_
       refine c0n ?_
       refine ya 0 rfl 53 .i64 ((i : Int) + 1) (((i + 1 : Nat) : Int)) ((by rw [show ((i : Int) + 1) = ((i + 1 : Nat) : Int) by omega]; exact iwo)) ?_
       refine yz 1 ?_
       refine b0x ?_
       refine ⟨gk0 - 1, (by omega), ?_⟩
       exact ⟨i + 1, by kernel_rfl, (by rw [← hbs i (by omega)]; exact n29), hbV10, (by omega)⟩
     refine yb 2 rfl 45 (decide ((((dig B32 (NN / 2 ^ (8 * (f.size - 1 - i)))).length : Nat) : Int) > 0)) (false) (f45) ?_
     refine yzt 0 ?_
     refine yF ?_
     refine wp_skip ?_
     refine g0s ?_
     refine b0x ?_
     refine c0n ?_
     refine ya 0 rfl 53 .i64 ((i : Int) + 1) (((i + 1 : Nat) : Int)) ((by rw [show ((i : Int) + 1) = ((i + 1 : Nat) : Int) by omega]; exact iwo)) ?_
     refine yz 1 ?_
     refine b0x ?_
     refine ⟨gk0 - 1, (by omega), ?_⟩
     replace r29 := (r29.past hbV9)
     exact ⟨i + 1, by kernel_rfl, (by rw [← hbz i (by rw [hdi, hq0.1 (by have := oFa f45; omega)])]; exact r29), (a0i hbV8 hbV9), (by omega)⟩
   refine yb 0 rfl 33 (decide ((i : Int) < (f.size : Int))) (false) (f33) ?_
   refine yzt 0 ?_
   refine yFs ?_
   refine wp_exit ?_
   repeat (with_reducible refine j0k ?_)
   refine v0k (id := 0) ?_
   refine b0x ?_
   have hi : i = f.size := by have := oFa f33; omega
   rw [hi, hball] at r29
   refine ye ?_
   have b2_w8 := b2.past (a0i (a0i (a0i (a0i (a0i hbV2 hbV3) hbV4) hbV5) hbV6) hbV8)
   refine yl 1 rfl 55 b2_w8 hT134 11 ?_
   refine yn 1 rfl ?_
   refine se 57 (ordF f) #[.slice p29 f.size c29] (fun Gx hGx => ?_) (hr := n0s (ordF f) (w0f f) (by kernel_rfl) (by kernel_rfl))
   ((with_reducible refine (hord V8 V6.heap.size p29 c29 bs r29.wr hbl (by omega)).mono ?_))
   rintro eV9 V9 ⟨rfl, x57, hjV9⟩
   have hbV9 : Below V6.heap.size V6 V9 := hbV8.trans (hjV9.mono (by omega))
   have hzV9 := hbV9.size
   refine ⟨.tuple #[], rfl, hGx _ _ ?_⟩
   clear hGx Gx
   refine yzt 0 ?_
   refine ye ?_
   refine yv 1 rfl 59 (.string (a0c (ordL f.ord bs))) ?_ (y0g (p := p29) (n := f.size) (c := c29) e1m m1u uStr x57.rd (by rw [c0k, hbl]) (by kernel_rfl))
   refine yzt 1 ?_
   refine wp_ret ?_
   repeat (first | with_reducible refine i0n ?_ | with_reducible refine h0g ?_)
   refine yret (.string (a0c (ordL f.ord bs))) (res1 Tryz.results187 rvt) ?_
   exact ⟨rfl, (a0i (a0i (a0i (a0i (a0i (a0i hbV1 hbV2) hbV3) hbV4) hbV5) hbV6) hbV9)⟩
 refine ylb 1 rfl 13 b3 hT4 0 (g) false (f13) ?_
 refine yzt 0 ?_
 refine yF ?_
 refine wp_skip ?_
 refine b0x ?_
 refine wp_seq ?_
 have b2_w2 := b2.past hbV2
 obtain ⟨V3, hVV3, hbV3, hzV3⟩ := q0u V2
 have b2_w3 := b2.past (a0i hbV2 hbV3)
 replace b3 := (b3.past hbV3)
 refine yd2 hVV3 ⟨b2_w3, b3⟩ ?_
 clear hVV3
 refine yt 7 [0, 2] rfl ⟨b2_w3, b3⟩ ?_
 refine ytl 3 rfl 22 (fun _ h => h.1) hT3 2 ⟨b2_w3, b3⟩ ?_
 refine yt 5 [5] rfl ⟨b2_w3, b3⟩ ?_
 refine ytl 6 rfl 25 (fun _ h => h.2) hT23 2 ⟨b2_w3, b3⟩ ?_
 refine sxr [1] ?_
 refine rd1 (fun Kx hKx => ?_)
 refine yck 20 (sof (e : Int) (g.toNat * P + e) (by rw [f13, Bool.toNat_false, Nat.zero_mul, Nat.zero_add]) (by omega) V3) ?_
 rintro eV4 V4 ⟨p20, c20, rfl, o20, hbV4⟩
 have hzV4 := hbV4.size
 refine ⟨_, rfl, ?_⟩
 have b2_w4 := b2.past (a0i (a0i hbV2 hbV3) hbV4)
 replace b3 := (b3.past hbV4)
 refine hKx.out _ _ ⟨b2_w4, b3⟩ ?_
 clear hKx Kx
 refine sxr [4] ?_
 refine rd1 (fun Kx hKx => ?_)
 refine yck 23 (sshl p20 _ c20 (g.toNat * P + e) f.F ((g.toNat * P + e) * 2 ^ f.F) _ V4 o20.rd rfl (by have := b0d hT (k := 1) (by omega); omega) (by omega) rfl rfl) ?_
 rintro eV5 V5 ⟨p23, c23, rfl, o23, hbV5⟩
 have hzV5 := hbV5.size
 refine ⟨_, rfl, ?_⟩
 have b2_w5 := b2.past (a0i (a0i (a0i hbV2 hbV3) hbV4) hbV5)
 replace b3 := (b3.past hbV5)
 refine hKx.out _ _ ⟨b2_w5, b3⟩ ?_
 clear hKx Kx
 refine sxr [7] ?_
 refine rd1 (fun Kx hKx => ?_)
 replace hp := (hp.past (a0i (a0i (a0i (a0i hbV1 hbV2) hbV3) hbV4) hbV5))
 refine yck 26 (sadd p23 p _ _ c23 c ((g.toNat * P + e) * 2 ^ f.F) x NN V5 o23.rd hp rfl rfl (by omega) (by omega) HPE.out.symm) ?_
 rintro eV6 V6 ⟨p26, c26, rfl, o26, hbV6⟩
 have hzV6 := hbV6.size
 refine ⟨_, rfl, ?_⟩
 have b2_w6 := b2.past (a0i (a0i (a0i (a0i hbV2 hbV3) hbV4) hbV5) hbV6)
 replace b3 := (b3.past hbV6)
 refine hKx.out _ _ ⟨b2_w6, b3⟩ ?_
 clear hKx Kx
 refine yt 0 [8] rfl ⟨b2_w6, b3⟩ ?_
 refine m0y (by kernel_rfl) ?_
 refine b0x ?_
 refine ye ?_
 refine yl 1 rfl 28 b2_w6 hT3 0 ?_
 refine smkn 29 l0n f.size (by omega) (fun p29 c29 V7 b29 hjV7 => ?_)
 have hbV7 : Below V6.heap.size V6 V7 := (Below.refl _ _).trans (hjV7.mono (by omega))
 have hzV7 := hbV7.size
 refine yzt 1 ?_
 refine wp_seq ?_
 refine yq ?_
 refine wp_block ?_
 refine k0d (a' := ⟨((.agg #[.int .i64 (f.size : Int), .int .i64 (f.E : Int), .int .i64 (f.F : Int), .int .i64 f.g.rad, .int .i64 f.g.digs, .int .i64 f.g.lo, .int .i64 f.g.hi, .bool f.g.grad, .bool f.hid, .bool f.inf, .bool f.res, .func (.func (ordF f)) #[] #[]]) :: (.agg #[.bool g, .int .i64 (e : Int), .slice p (dig B32 x).length c]) :: (.pointer (some ⟨w.heap.size, 0, none⟩)) :: (.pointer (some ⟨V1.heap.size, 0, none⟩)) :: (Go.Value.string (ByteArray.mk #[])) :: (.int .i64 (e : Int)) :: (.slice p26 (dig B32 NN).length c26) :: (.slice p29 f.size c29) :: us 2 ((.pointer (some ⟨V1.heap.size, 1, none⟩)) :: (.int .i64 (e : Int)) :: (.pointer (some ⟨V1.heap.size, 0, none⟩)) :: (.bool false) :: us 5 ((.int .i64 (e : Int)) :: (.slice p20 (dig B32 (g.toNat * P + e)).length c20) :: (.pointer (some ⟨w.heap.size, 2, none⟩)) :: (.int .i64 (f.F : Int)) :: (.slice p23 (dig B32 ((g.toNat * P + e) * 2 ^ f.F)).length c23) :: (.pointer (some ⟨V1.heap.size, 2, none⟩)) :: (.slice p (dig B32 x).length c) :: (.slice p26 (dig B32 NN).length c26) :: (.pointer (some ⟨w.heap.size, 0, none⟩)) :: (.int .i64 (f.size : Int)) :: (.slice p29 f.size c29) :: (.slice p29 f.size c29) :: (.int .i64 (f.size : Int)) :: (.int .i64 0) :: us 27 []))).toArray, []⟩) (by kernel_rfl) ?_
 refine q0t (fun (gk : Nat) U0 a' w' => ∃ (i : Nat), a' = ⟨((.agg #[.int .i64 (f.size : Int), .int .i64 (f.E : Int), .int .i64 (f.F : Int), .int .i64 f.g.rad, .int .i64 f.g.digs, .int .i64 f.g.lo, .int .i64 f.g.hi, .bool f.g.grad, .bool f.hid, .bool f.inf, .bool f.res, .func (.func (ordF f)) #[] #[]]) :: (.agg #[.bool g, .int .i64 (e : Int), .slice p (dig B32 x).length c]) :: (.pointer (some ⟨w.heap.size, 0, none⟩)) :: (.pointer (some ⟨V1.heap.size, 0, none⟩)) :: (Go.Value.string (ByteArray.mk #[])) :: (.int .i64 (e : Int)) :: (.slice p26 (dig B32 NN).length c26) :: (.slice p29 f.size c29) :: uvs U0 8 2 ((.pointer (some ⟨V1.heap.size, 1, none⟩)) :: (.int .i64 (e : Int)) :: (.pointer (some ⟨V1.heap.size, 0, none⟩)) :: (.bool false) :: us 5 ((.int .i64 (e : Int)) :: (.slice p20 (dig B32 (g.toNat * P + e)).length c20) :: (.pointer (some ⟨w.heap.size, 2, none⟩)) :: (.int .i64 (f.F : Int)) :: (.slice p23 (dig B32 ((g.toNat * P + e) * 2 ^ f.F)).length c23) :: (.pointer (some ⟨V1.heap.size, 2, none⟩)) :: (.slice p (dig B32 x).length c) :: (.slice p26 (dig B32 NN).length c26) :: (.pointer (some ⟨w.heap.size, 0, none⟩)) :: (.int .i64 (f.size : Int)) :: (.slice p29 f.size c29) :: (.slice p29 f.size c29) :: (.int .i64 (f.size : Int)) :: (.int .i64 (i : Int)) :: uvs U0 33 21 (us 6 [])))).toArray, []⟩ ∧ (Own w' V6.heap.size .u8 5 p29 c29 (LL bs i)) ∧ Below V6.heap.size V6 w' ∧ (gk + i = f.size)) f.size ?_ (fun Gx hGx => ?_)
 · exact ⟨0, by kernel_rfl, (by rw [HB0.out]; exact b29), hbV7, (by omega)⟩
 rintro gk0 U0 _ V8 ⟨i, rfl, r29, hbV8, hgk⟩
 refine hGx _ _ _ ?_
 clear hGx Gx
 have hzV8 := hbV8.size
 refine ye ?_
 rcases Bool.eq_false_or_eq_true (decide ((i : Int) < (f.size : Int))) with f33 | f33
 · refine yb 0 rfl 33 (decide ((i : Int) < (f.size : Int))) (true) (f33) ?_
   refine yzt 0 ?_
   refine yTs ?_
   refine wp_skip ?_
   refine b0x ?_
   refine wp_seq ?_
   refine wp_block ?_
   refine yq ?_
   refine ye ?_
   have b2_w8 := b2.past (a0i (a0i (a0i (a0i (a0i hbV2 hbV3) hbV4) hbV5) hbV6) hbV8)
   refine yl 2 rfl 37 b2_w8 hT3 0 ?_
   refine ya 0 rfl 38 .i64 ((f.size : Int) - 1) (((f.size - 1 : Nat) : Int)) ((by rw [show ((f.size : Int) - 1) = ((f.size - 1 : Nat) : Int) by omega]; exact iwo)) ?_
   refine ya 1 rfl 40 .i64 (((f.size - 1 : Nat) : Int) - (i : Int)) (((f.size - 1 - i : Nat) : Int)) ((by rw [show (((f.size - 1 : Nat) : Int) - (i : Int)) = ((f.size - 1 - i : Nat) : Int) by have := oTr f33; omega]; exact iwo)) ?_
   refine ya 0 rfl 41 .i64 ((8 : Int) * ((f.size - 1 - i : Nat) : Int)) (((8 * (f.size - 1 - i) : Nat) : Int)) ((by rw [show ((8 : Int) * ((f.size - 1 - i : Nat) : Int)) = ((8 * (f.size - 1 - i) : Nat) : Int) by omega]; exact iwo)) ?_
   have o26_w8 := o26.past hbV8
   refine yc 0 rfl 42 (sshr p26 _ c26 NN (8 * (f.size - 1 - i)) (NN / 2 ^ (8 * (f.size - 1 - i))) _ V8 o26_w8.rd rfl (by have := o26_w8.le_cap; omega) (by omega) (by omega) rfl rfl) (fun Gx hGx => ?_)
   rintro eV9 V9 ⟨p42, c42, rfl, o42, hbV9⟩
   have hzV9 := hbV9.size
   refine ⟨_, rfl, hGx _ _ ?_⟩
   clear hGx Gx
   refine yzt 1 ?_
   have hi := oTr f33
   have hdi := hdg i (by omega)
   have hq0 := a0e a0a (NN / 2 ^ (8 * (f.size - 1 - i)))
   refine ye ?_
   rcases Bool.eq_false_or_eq_true (decide ((((dig B32 (NN / 2 ^ (8 * (f.size - 1 - i)))).length : Nat) : Int) > 0)) with f45 | f45
   · refine yb 2 rfl 45 (decide ((((dig B32 (NN / 2 ^ (8 * (f.size - 1 - i)))).length : Nat) : Int) > 0)) (true) (f45) ?_
     refine yzt 0 ?_
     refine yT ?_
     refine c0n ?_
     refine yv 3 rfl 49 (.pointer (some (at_ p42 0))) ?_ (r0d (p := p42) (n := (dig B32 (NN / 2 ^ (8 * (f.size - 1 - i)))).length) (c := c42) (m := 0) b0t o42.rd.solid (by kernel_rfl) (by kernel_rfl) (by have := oTr f45; omega))
     refine yv 0 rfl 50 (.int .u32 ((dg (dig B32 (NN / 2 ^ (8 * (f.size - 1 - i)))) 0 : Nat) : Int)) ?_ (m0g o42.rd i1k (m := 0) (by kernel_rfl) (by have := oTr f45; omega) rfl)
     refine ya 0 rfl 51 .u8 ((dg (dig B32 (NN / 2 ^ (8 * (f.size - 1 - i)))) 0 : Nat) : Int) (((dg bs i : Nat) : Int)) ((by rw [f1m, f1n, hdi]; congr 1; exact Nat.mod_mod_of_dvd _ (by decide))) ?_
     replace r29 := (r29.past hbV9)
     refine yv 0 rfl 52 (.pointer (some (at_ p29 i))) ?_ (y0i (p := p29) (n := f.size) (c := c29) (m := i) l0n (by have h := r29.solid; rw [hLl, hbl] at h; exact h) (by kernel_rfl) (by kernel_rfl) (by omega))
     refine p1e l0n V6.heap.size p29 c29 _ r29 i (by rw [hLl, hbl]; omega) (dg bs i) (fun V10 n29 hjV10 => ?_)
     have hbV10 : Below V6.heap.size V6 V10 := (a0i hbV8 hbV9).trans (hjV10.mono (by omega))
     have hzV10 := hbV10.size
     refine yz 0 ?_
     refine g0s ?_
     refine b0x ?_
     refine c0n ?_
     refine ya 0 rfl 53 .i64 ((i : Int) + 1) (((i + 1 : Nat) : Int)) ((by rw [show ((i : Int) + 1) = ((i + 1 : Nat) : Int) by omega]; exact iwo)) ?_
     refine yz 1 ?_
     refine b0x ?_
     refine ⟨gk0 - 1, (by omega), ?_⟩
     exact ⟨i + 1, by kernel_rfl, (by rw [← hbs i (by omega)]; exact n29), hbV10, (by omega)⟩
   refine yb 2 rfl 45 (decide ((((dig B32 (NN / 2 ^ (8 * (f.size - 1 - i)))).length : Nat) : Int) > 0)) (false) (f45) ?_
   refine yzt 0 ?_
   refine yF ?_
   refine wp_skip ?_
   refine g0s ?_
   refine b0x ?_
   refine c0n ?_
   refine ya 0 rfl 53 .i64 ((i : Int) + 1) (((i + 1 : Nat) : Int)) ((by rw [show ((i : Int) + 1) = ((i + 1 : Nat) : Int) by omega]; exact iwo)) ?_
   refine yz 1 ?_
   refine b0x ?_
   refine ⟨gk0 - 1, (by omega), ?_⟩
   replace r29 := (r29.past hbV9)
   exact ⟨i + 1, by kernel_rfl, (by rw [← hbz i (by rw [hdi, hq0.1 (by have := oFa f45; omega)])]; exact r29), (a0i hbV8 hbV9), (by omega)⟩
 refine yb 0 rfl 33 (decide ((i : Int) < (f.size : Int))) (false) (f33) ?_
 refine yzt 0 ?_
 refine yFs ?_
 refine wp_exit ?_
 repeat (with_reducible refine j0k ?_)
 refine v0k (id := 0) ?_
 refine b0x ?_
 have hi : i = f.size := by have := oFa f33; omega
 rw [hi, hball] at r29
 refine ye ?_
 have b2_w8 := b2.past (a0i (a0i (a0i (a0i (a0i hbV2 hbV3) hbV4) hbV5) hbV6) hbV8)
 refine yl 1 rfl 55 b2_w8 hT134 11 ?_
 refine yn 1 rfl ?_
 refine se 57 (ordF f) #[.slice p29 f.size c29] (fun Gx hGx => ?_) (hr := n0s (ordF f) (w0f f) (by kernel_rfl) (by kernel_rfl))
 ((with_reducible refine (hord V8 V6.heap.size p29 c29 bs r29.wr hbl (by omega)).mono ?_))
 rintro eV9 V9 ⟨rfl, x57, hjV9⟩
 have hbV9 : Below V6.heap.size V6 V9 := hbV8.trans (hjV9.mono (by omega))
 have hzV9 := hbV9.size
 refine ⟨.tuple #[], rfl, hGx _ _ ?_⟩
 clear hGx Gx
 refine yzt 0 ?_
 refine ye ?_
 refine yv 1 rfl 59 (.string (a0c (ordL f.ord bs))) ?_ (y0g (p := p29) (n := f.size) (c := c29) e1m m1u uStr x57.rd (by rw [c0k, hbl]) (by kernel_rfl))
 refine yzt 1 ?_
 refine wp_ret ?_
 repeat (first | with_reducible refine i0n ?_ | with_reducible refine h0g ?_)
 refine yret (.string (a0c (ordL f.ord bs))) (res1 Tryz.results187 rvt) ?_
 exact ⟨rfl, (a0i (a0i (a0i (a0i (a0i (a0i hbV1 hbV2) hbV3) hbV4) hbV5) hbV6) hbV9)⟩
theorem _root_.Go.Slip.Bx.b3 {w : World} {b : Nat} {v0 v1 v2 : Value} (h : Bx w b #[v0, v1, v2]) : Box3 w b v0 v1 v2 :=
 ⟨h.e3.1, h.e3.2.1, h.e3.2.2, h.f 0, h.f 1, h.f 2, h.lt⟩
structure Pin where
 g : Bool
 p : Option Addr
 c : Nat
 xs : List Nat
 k : Int
 x : Bool
 o : Bool
 u : Bool
structure InP (w : World) (a : Pin) : Prop where
 rd : Rd w .u32 a.p a.xs
 cap : a.xs.length ≤ a.c
 len : a.xs.length ≤ 9223372036854775807
 lt : ∀ x ∈ a.xs, x < B32
theorem InP.past {w w' : World} {a : Pin} (h : InP w a) (hb : Below w.heap.size w w') : InP w' a := ⟨h.rd.past hb, h.cap, h.len, h.lt⟩
theorem b1a (g : Bool) (p : Option Addr) (n c : Nat) (e : Int) (w : World) :
 Calls Tryz.prog 157 #[.agg #[.bool g, .slice p n c, .int .i64 e]] w fun en w' => ∃ q d, en = .returned (.agg #[.bool g, .slice p n c, .slice q (dig B32 1).length d, .int .i64 e]) ∧ Own w' w.heap.size .u32 143 q d (dig B32 1) ∧ Below w.heap.size w w' := by
 go_enter Tryz.func157, Tryz.ntmps157
 go_wp2_with fail
 refine l1h (fun W1 hb1 hz1 A R => ?_)
 have hs1 := hb1
 have hzd : W1.drew.heap.size = W1.heap.size := rfl
 have HZD := hi0 hzd
 clear hzd
 go_region_held3 (fun w' => w'.cell? ⟨w.heap.size, 0, none⟩ = some (.bool g) ∧ w'.cell? ⟨w.heap.size, 1, none⟩ = some (.slice p n c) ∧ w'.cell? ⟨w.heap.size, 2, none⟩ = some (.int .i64 e))
  (first
    | with_reducible exact A.e3
    | with_reducible exact A.drew.e3
    | with_reducible exact (A.drew.past hbx).e3
    | with_reducible exact ((A.drew.past hbx).only (o1p _ _ _ _ _ _) (by omega)).e3)
  (first
    | (go_at_call 46; ((with_reducible refine (w0n _).mono ?_)); rintro ex wx ⟨px, cx, rfl, hox, hbx⟩; (have RR := R.drew.past hbx); obtain ⟨R_0, R_1, R_2, R_3⟩ := RR.e4; (have R_f0 := RR.f 0); (have R_f1 := RR.f 1); (have R_f2 := RR.f 2); (have R_f3 := RR.f 3)))
 all_goals (go_wp2_with fail)
 refine bodyPost_ret (v := .agg #[.bool g, .slice p n c, .slice px (dig B32 1).length cx, .int .i64 e]) (by simp [results, Tryz.results157, go_sem, R_0, R_1, R_2, R_3]) rfl ?_
 have hzd := HZD.out
 have hO := o1p wx (w.heap.size + 1) (.bool g) (.slice p n c) (.slice px (dig B32 1).length cx) (.int .i64 e)
 have hz := hs1.size
 exact ⟨px, cx, rfl, (hox.only hO (fun h => by have := (hox.blk_lt h).1; omega)).mono (by omega), (hs1.drew.trans (hbx.mono hz)).trans (hO.below (by omega))⟩
theorem p0y (s : Bool) (p : Option Addr) (c : Nat) (e : Int) (m : Nat) (g : Gd) (w : World) (hp : Rd w .u32 p (dig B32 m)) (hl : (dig B32 m).length ≤ 100000) (he : -1000000 ≤ e ∧ e ≤ 1000000) (G : f0c g) :
 Calls Tryz.prog 104 #[.agg #[.bool s, .slice p (dig B32 m).length c, .int .i64 e], .agg #[.int .i64 g.rad, .int .i64 g.digs, .int .i64 g.lo, .int .i64 g.hi, .bool g.grad]] w fun en w' => en = .returned (.bool (h0z ⟨s, m, e⟩ g)) ∧ Below w.heap.size w w' := by
 by_cases h0 : m = 0
 · have hk : h0z ⟨s, m, e⟩ g = true := by unfold h0z; rw [if_pos h0]
   have HS := hi0 (show m0v ⟨s, m, e⟩ = 0 by unfold m0v; rw [if_pos h0])
   rw [hk]
   clear hk h0
   go_enter Tryz.func104, Tryz.ntmps104
   go_wp2_with fail
   refine p0f (fun W1 hb1 hz1 A B => ?_)
   have hs1 := hb1
   ((with_reducible refine (t0u s p _ c e m _ rfl).mono ?_))
   rintro e2 w2 ⟨rfl, hb2⟩
   rw [HS.out]
   go_wp2
   go_ret
   exact ⟨rfl, hs1.trans (hb2.mono hs1.size)⟩
 · have hsg := e1g (g := s) (e := e) (show 0 < m by omega)
   have wp := b0n g
   have hd1 := G.d1
   have hK := r0h (show 0 < m by omega) e (w := wid g) (D := g.digs.toNat) wp.1 (by omega)
   have hl1 : (dig B32 1).length ≤ 1 := by rw [a0f a0a]; unfold B32; omega
   have HF := fun W q d (h1 : Rd W .u32 p (dig B32 m)) (h2 : Rd W .u32 q (dig B32 1)) => hi0 (s0c s p q c d m 1 e g 3 _ W h1 h2 hl (by omega) (by omega) (by omega) he G (by omega) (by omega) hK)
   have hkk : h0z ⟨s, m, e⟩ g = ((fitK s m 1 e g 3 ((e + blen m - 1) / wid g - g.digs.toNat + 1)).exact && !(fitK s m 1 e g 3 ((e + blen m - 1) / wid g - g.digs.toNat + 1)).over && (!(fitK s m 1 e g 3 ((e + blen m - 1) / wid g - g.digs.toNat + 1)).under || g.grad)) := by
    unfold h0z
    rw [if_neg h0]
    rfl
   rw [hkk]
   generalize fitK s m 1 e g 3 ((e + blen m - 1) / wid g - g.digs.toNat + 1) = pf at *
   clear hkk h0 hK hd1 wp
   generalize hds : m0v ⟨s, m, e⟩ = sg0 at *
   have HSG := hi0 hds
   clear hds
   go_enter Tryz.func104, Tryz.ntmps104
   go_wp2_with fail
   refine p0f (fun W1 hb1 hz1 A B => ?_)
   replace hp := hp.past hb1
   have hs1 := hb1
   ((with_reducible refine (t0u s p _ c e m _ rfl).mono ?_))
   rintro e2 w2 ⟨rfl, hb2⟩
   rw [HSG.out]
   replace A := A.past hb2
   replace B := B.past hb2
   replace hp := hp.past hb2
   have hs2 := hs1.trans (hb2.mono hs1.size)
   go_wp2_with fail
   have hAl := A.lt
   have hBl := B.lt
   have hzd : w2.drew.heap.size = w2.heap.size := rfl
   have HZD := hi0 hzd
   clear hzd
   go_cut [5] (fun s5 wx => ∃ (kx : Nat) (px : Option Addr) (cx : Nat), s5 = .pointer (some ⟨kx, 0, none⟩) ∧ Bx wx kx #[.bool pf.neg, .slice px (dig B32 pf.d).length cx, .int .i64 pf.pow, .bool pf.exact, .bool pf.over, .bool pf.under] ∧ w2.heap.size ≤ kx ∧ Below w2.heap.size w2 wx)
   case first =>
    go_region_held3 (fun w' => (w'.cell? ⟨w.heap.size, 0, none⟩ = some (.bool s) ∧ w'.cell? ⟨w.heap.size, 1, none⟩ = some (.slice p (dig B32 m).length c) ∧ w'.cell? ⟨w.heap.size, 2, none⟩ = some (.int .i64 e)) ∧
        (w'.cell? ⟨w.heap.size + 1, 0, none⟩ = some (.int .i64 g.rad) ∧ w'.cell? ⟨w.heap.size + 1, 1, none⟩ = some (.int .i64 g.digs) ∧ w'.cell? ⟨w.heap.size + 1, 2, none⟩ = some (.int .i64 g.lo) ∧ w'.cell? ⟨w.heap.size + 1, 3, none⟩ = some (.int .i64 g.hi) ∧ w'.cell? ⟨w.heap.size + 1, 4, none⟩ = some (.bool g.grad)))
     (first
     | with_reducible exact ⟨A.e3, B.e5⟩
     | with_reducible exact ⟨(A.drew).e3, (B.drew).e5⟩
     | with_reducible exact ⟨((A.laid _).drew).e3, ((B.laid _).drew).e5⟩
     | with_reducible exact ⟨(((A.laid _).drew).past hbx).e3, (((B.laid _).drew).past hbx).e5⟩
     | with_reducible exact ⟨((A.drew).past hbx).e3, ((B.drew).past hbx).e5⟩
     | with_reducible exact ⟨(((A.drew).past hbx).laid _).e3, (((B.drew).past hbx).laid _).e5⟩
     | with_reducible exact ⟨((((A.laid _).drew).past hbx).past hby).e3, ((((B.laid _).drew).past hbx).past hby).e5⟩
     | with_reducible exact ⟨((((A.drew).past hbx).laid _).past hby).e3, ((((B.drew).past hbx).laid _).past hby).e5⟩
     | with_reducible exact ⟨(((A.drew).past hbx).past hby).e3, (((B.drew).past hbx).past hby).e5⟩
     | with_reducible exact ⟨((((A.drew).past hbx).past hby).laid _).e3, ((((B.drew).past hbx).past hby).laid _).e5⟩
     | with_reducible exact ⟨(((((A.laid _).drew).past hbx).past hby).only (q0r _ _ _ _ _ _ _ _) (by omega)).e3, (((((B.laid _).drew).past hbx).past hby).only (q0r _ _ _ _ _ _ _ _) (by omega)).e5⟩
     | with_reducible exact ⟨(((((A.drew).past hbx).laid _).past hby).only (q0r _ _ _ _ _ _ _ _) (by omega)).e3, (((((B.drew).past hbx).laid _).past hby).only (q0r _ _ _ _ _ _ _ _) (by omega)).e5⟩)
     (first
       | (go_at_call 157; ((with_reducible refine (b1a s p _ c e _).mono ?_)); rintro ex wx ⟨qx, dx, rfl, hox, hbx⟩; (have hzx : w2.heap.size ≤ wx.heap.size := by have := hbx.size; simp at this; omega))
       | (go_at_call 66; (first
           | with_reducible refine (HF _ qx dx (hp.drew.past hbx) hox.rd).out.mono ?_
           | with_reducible refine (HF _ qx dx ((hp.laid _).drew.past hbx) hox.rd).out.mono ?_
           | with_reducible refine (HF _ qx dx ((hp.drew.past hbx).laid _) (hox.rd.laid _)).out.mono ?_); rintro ey wy ⟨py, cy, rfl, hoy, hby⟩; (first
           | (have XX := (j0c w2 #[.bool false, .slice none 0 0, .int .i64 0, .bool false, .bool false, .bool false] 116).drew.past hbx |>.past hby; obtain ⟨X_0, X_1, X_2, X_3, X_4, X_5⟩ := XX.e6; have X_f0 := XX.f 0; have X_f1 := XX.f 1; have X_f2 := XX.f 2; have X_f3 := XX.f 3; have X_f4 := XX.f 4; have X_f5 := XX.f 5)
           | (have XX := (j0c wx #[.bool false, .slice none 0 0, .int .i64 0, .bool false, .bool false, .bool false] 116).past hby; obtain ⟨X_0, X_1, X_2, X_3, X_4, X_5⟩ := XX.e6; have X_f0 := XX.f 0; have X_f1 := XX.f 1; have X_f2 := XX.f 2; have X_f3 := XX.f 3; have X_f4 := XX.f 4; have X_f5 := XX.f 5)
           | skip)))
    all_goals (go_wp2_with fail)
    all_goals go_meet
    · have hzy := hby.size
      exact ⟨wy.heap.size, py, cy, rfl, j0c wy _ _, by omega, (((Below.refl w2.heap.size w2).drew.trans hbx).trans (hby.mono hzx)).trans ((c0m wy _).mono (by omega))⟩
    · have hzy := hby.size
      rw [World.size_alloc] at hzy
      have hO := q0r wy wx.heap.size (.bool pf.neg) (.slice py (dig B32 pf.d).length cy) (.int .i64 pf.pow) (.bool pf.exact) (.bool pf.over) (.bool pf.under)
      exact ⟨wx.heap.size, py, cy, rfl, XX.put6 _ _ _ _ _ _, hzx, ((((Below.refl w2.heap.size w2).drew.trans hbx).trans ((c0m wx _).mono hzx)).trans (hby.mono (by rw [World.size_alloc]; omega))).trans (hO.below hzx)⟩
    · have hzy := hby.size
      have hO := q0r wy w2.heap.size (.bool pf.neg) (.slice py (dig B32 pf.d).length cy) (.int .i64 pf.pow) (.bool pf.exact) (.bool pf.over) (.bool pf.under)
      exact ⟨w2.heap.size, py, cy, rfl, XX.put6 _ _ _ _ _ _, Nat.le_refl _, ((((c0m w2 _).drew).trans (hbx.mono (by simp))).trans (hby.mono hzx)).trans (hO.below (Nat.le_refl _))⟩
   case rest =>
    obtain ⟨kx, px, cx, rfl, X, hkx, hbc⟩ := hcut
    have hs4 := hs2.trans (hbc.mono hs2.size)
    replace B := B.past hbc
    clear hbc
    obtain ⟨png, pd, ppw, pex, pov, pun⟩ := pf
    obtain ⟨X_0, X_1, X_2, X_3, X_4, X_5⟩ := X.e6
    obtain ⟨B_0, B_1, B_2, B_3, B_4⟩ := B.e5
    simp only at X_3 X_4 X_5 ⊢
    clear HF
    generalize hgr : g.grad = gr at *
    have HGR := hi0 hgr
    clear hgr
    cases pex <;> cases pov <;> cases pun <;> cases gr <;> (go_wp2; go_ret; exact ⟨by first | rfl | (rw [HGR.out]; rfl), hs4⟩)
end Go.Proofs.YtbamiajjampgnaaGreatDoor
namespace Go.Slip
theorem j1e {s : Bool} {m : Nat} {e : Int} {g : Gd} (G : f0c g) (hin : a0v ⟨s, m, e⟩ g = true) (h0 : m ≠ 0) :
 (fitK s m 1 e g 3 ((e + blen m - 1) / wid g - g.digs.toNat + 1)).d = qP m 1 (e - wid g * c0b ⟨s, m, e⟩ g) ∧
 ((fitK s m 1 e g 3 ((e + blen m - 1) / wid g - g.digs.toNat + 1)).d ≠ 0 → (fitK s m 1 e g 3 ((e + blen m - 1) / wid g - g.digs.toNat + 1)).pow = c0b ⟨s, m, e⟩ g) ∧
 (fitK s m 1 e g 3 ((e + blen m - 1) / wid g - g.digs.toNat + 1)).d ≠ 0 := by
 have hb := d1l G hin h0
 simp only at hb
 have hp : powK g ((e + blen m - 1) / wid g - g.digs.toNat + 1) = c0b ⟨s, m, e⟩ g := by
  have eK : c0b ⟨s, m, e⟩ g = max g.lo ((e + blen m - 1) / wid g - g.digs.toNat + 1) := rfl
  rw [eK]
  unfold powK
  by_cases h1 : (e + blen m - 1) / wid g - g.digs.toNat + 1 < g.lo
  · by_cases h2 : g.grad = true
    · rw [if_pos ⟨h1, h2⟩]; omega
    · exfalso
      unfold a0v at hin
      rw [if_neg h0] at hin
      have eU : upK ⟨s, m, e⟩ (wid g) g.digs.toNat = (e + blen m - 1) / wid g - g.digs.toNat + 1 := rfl
      rw [eU] at hin
      rw [if_pos h1, if_neg h2] at hin
      simp at hin
  · rw [if_neg (fun h => h1 h.1)]; omega
 unfold fitK
 simp only
 rw [hp, d1h, k0i]
 have hq : qP m 1 (e - wid g * c0b ⟨s, m, e⟩ g) ≠ 0 := by
  unfold qP numP denP
  rw [show (-(e - wid g * c0b ⟨s, m, e⟩ g)).toNat = 0 by omega, Nat.pow_zero, Nat.mul_one, Nat.div_one]
  have := Nat.mul_pos (show 0 < m by omega) (Nat.pow_pos (n := (e - wid g * c0b ⟨s, m, e⟩ g).toNat) (show 0 < 2 by omega))
  omega
 exact ⟨rfl, fun h => by rw [if_neg h], hq⟩
end Go.Slip
namespace Go.Proofs.YtbamiajjampgnaaGreatDoor
open Go.RowKit Go.Slip
theorem i0t (f : Fm) (w : World) : Calls Tryz.prog 198 #[.agg #[.int .i64 (f.size : Int), .int .i64 (f.E : Int), .int .i64 (f.F : Int), .int .i64 f.g.rad, .int .i64 f.g.digs, .int .i64 f.g.lo, .int .i64 f.g.hi, .bool f.g.grad, .bool f.hid, .bool f.inf, .bool f.res, .func (.func (ordF f)) #[] #[]]] w fun en w' => en = .returned (.int .i64 ((wid f.g : Nat) : Int)) ∧ Below w.heap.size w w' := by
 by_cases h : f.g.rad = 16
 · have hw : wid f.g = 4 := by unfold wid; rw [if_pos h]
   rw [hw]
   have I := Inv.start w [] True.intro
   refine a0h [.v (.agg #[.int .i64 (f.size : Int), .int .i64 (f.E : Int), .int .i64 (f.F : Int), .int .i64 f.g.rad, .int .i64 f.g.digs, .int .i64 f.g.lo, .int .i64 f.g.hi, .bool f.g.grad, .bool f.hid, .bool f.inf, .bool f.res, .func (.func (ordF f)) #[] #[]])] I Tryz.func198 ?_
   refine zb I 6 (f.g.rad == 16) (true) (beq_iff_eq.2 h) fun Al W I => ?_
   exact zrb I
 · have hw : wid f.g = 1 := by unfold wid; rw [if_neg h]
   rw [hw]
   have I := Inv.start w [] True.intro
   refine a0h [.v (.agg #[.int .i64 (f.size : Int), .int .i64 (f.E : Int), .int .i64 (f.F : Int), .int .i64 f.g.rad, .int .i64 f.g.digs, .int .i64 f.g.lo, .int .i64 f.g.hi, .bool f.g.grad, .bool f.hid, .bool f.inf, .bool f.res, .func (.func (ordF f)) #[] #[]])] I Tryz.func198 ?_
   refine zb I 6 (f.g.rad == 16) (false) (bFn h) fun Al W I => ?_
   exact zrb I
theorem n1e (f : Fm) (g : Bool) (m : Nat) (pw k : Int) (p : Option Addr) (c : Nat) (w : World) (hp : Rd w .u32 p (dig B32 m)) (hc : (dig B32 m).length ≤ c) (hl : (dig B32 m).length ≤ 1000000) (hpw : -100000 ≤ pw ∧ pw ≤ 100000) (hT : TabW w) :
 Calls Tryz.prog 185 #[.agg #[.int .i64 (f.size : Int), .int .i64 (f.E : Int), .int .i64 (f.F : Int), .int .i64 f.g.rad, .int .i64 f.g.digs, .int .i64 f.g.lo, .int .i64 f.g.hi, .bool f.g.grad, .bool f.hid, .bool f.inf, .bool f.res, .func (.func (ordF f)) #[] #[]], .agg #[.int .i64 k, .bool g, .slice p (dig B32 m).length c, .int .i64 pw]] w (n0t w w.heap.size (bare ⟨g, m, wid f.g * pw⟩)) := by
 have wp := b0n f.g
 have hmu := y0z (wd := wid f.g) (k := pw) (B := 100000) wp.2 hpw
 rw [← e1a]
 generalize hmw : (wid f.g : Int) * pw = mw at *
 have HMW := hi0 hmw
 have HW := fun W h1 h2 => hi0 (e1i p _ c mw m W h1 rfl hc (by omega) (by omega) h2)
 clear hmw
 generalize hd : bare ⟨false, m, mw⟩ = d at *
 clear hd
 cases g with
 | false =>
  rw [if_neg (by simp)]
  have I := Inv.start w [rdF .u32 p (dig B32 m), tabF] ⟨hp, hT, True.intro⟩
  refine a0h [.v (.agg #[.int .i64 (f.size : Int), .int .i64 (f.E : Int), .int .i64 (f.F : Int), .int .i64 f.g.rad, .int .i64 f.g.digs, .int .i64 f.g.lo, .int .i64 f.g.hi, .bool f.g.grad, .bool f.hid, .bool f.inf, .bool f.res, .func (.func (ordF f)) #[] #[]]), .v (.agg #[.int .i64 k, .bool false, .slice p (dig B32 m).length c, .int .i64 pw])] I Tryz.func185 ?_
  refine zcut I none (fun fr bx gs => ∃ (U1 : Nat → Value) (p13 : Option Addr) (c13 : Nat), fr = (.v (.agg #[.int .i64 (f.size : Int), .int .i64 (f.E : Int), .int .i64 (f.F : Int), .int .i64 f.g.rad, .int .i64 f.g.digs, .int .i64 f.g.lo, .int .i64 f.g.hi, .bool f.g.grad, .bool f.hid, .bool f.inf, .bool f.res, .func (.func (ordF f)) #[] #[]]) :: .v (.agg #[.int .i64 k, .bool false, .slice p (dig B32 m).length c, .int .i64 pw]) :: .p 0 0 :: .p 1 0 :: .p 2 0 :: .p 3 0 :: sw U1 6 9 (.v undef :: sw U1 16 3 []) : List SV) ∧ bx = [⟨136, [.v (.int .i64 (f.size : Int)), .v (.int .i64 (f.E : Int)), .v (.int .i64 (f.F : Int)), .v (.int .i64 f.g.rad), .v (.int .i64 f.g.digs), .v (.int .i64 f.g.lo), .v (.int .i64 f.g.hi), .v (.bool f.g.grad), .v (.bool f.hid), .v (.bool f.inf), .v (.bool f.res), .v (.func (.func (ordF f)) #[] #[])], false⟩, ⟨66, [.v (.int .i64 k), .v (.bool false), .v (.slice p (dig B32 m).length c), .v (.int .i64 pw)], false⟩, ⟨150, [.v (.bool false), .v (.slice none 0 0), .v (.int .i64 0)], false⟩, ⟨150, [.v (.bool d.neg), .v (.slice p13 (dig B32 d.m).length c13), .v (.int .i64 d.e)], false⟩] ∧ gs = [ownF w.heap.size .u32 143 p13 c13 (dig B32 d.m), rdF .u32 p (dig B32 m), tabF]) ?_ ?_
  · intro J hJ Al W I
    refine zd [] I fun Al W I => ?_
    refine zk [0, 1, 2, 4, 5] I fun I => ?_
    refine zo2 3 8 I (fun I => ?_) (fun I => ?_)
    · refine zq I (fun Al W I => i0t f W) fun Al W I => ?_
      refine zki 6 I .i64 (((wid f.g : Nat) : Int) * pw) (mw) ((by rw [HMW.out]; exact iwo)) fun I => ?_
      refine zo2 7 8 I (fun I => ?_) (fun I => ?_)
      · refine zqo I (fun Al W I => (HW W I.fa.1 I.fa.2.1).out) fun Al W p13 c13 I => ?_
        refine zo 8 I fun I => ?_
        refine zn I fun Al W I => ?_
        refine zo 9 I fun I => ?_
        refine zn I fun Al W I => ?_
        exact a0n I J fun Al W U I => hJ _ _ _ _ _ ⟨U, p13, c13, rfl, rfl, rfl⟩ (I.pick [0, 1, 2])
      refine zn I fun Al W I => ?_
      refine zo 7 I fun I => ?_
      refine zqo I (fun Al W I => (HW W I.fa.1 I.fa.2.1).out) fun Al W p13 c13 I => ?_
      refine zo 9 I fun I => ?_
      refine zn I fun Al W I => ?_
      exact a0n I J fun Al W U I => hJ _ _ _ _ _ ⟨U, p13, c13, rfl, rfl, rfl⟩ (I.pick [0, 1, 2])
    refine zn I fun Al W I => ?_
    refine zo 3 I fun I => ?_
    refine zq I (fun Al W I => i0t f W) fun Al W I => ?_
    refine zki 6 I .i64 (((wid f.g : Nat) : Int) * pw) (mw) ((by rw [HMW.out]; exact iwo)) fun I => ?_
    refine zo 7 I fun I => ?_
    refine zqo I (fun Al W I => (HW W I.fa.1 I.fa.2.1).out) fun Al W p13 c13 I => ?_
    refine zo 9 I fun I => ?_
    refine zn I fun Al W I => ?_
    exact a0n I J fun Al W U I => hJ _ _ _ _ _ ⟨U, p13, c13, rfl, rfl, rfl⟩ (I.pick [0, 1, 2])
  rintro _ _ _ ⟨U1, p13, c13, rfl, rfl, rfl⟩ Al W I
  exact zret I fun Al W I => ⟨p13, c13, rfl, I.fa.1.mono (by omega), I.below⟩
 | true =>
  rw [if_pos rfl]
  have I := Inv.start w [rdF .u32 p (dig B32 m), tabF] ⟨hp, hT, True.intro⟩
  refine a0h [.v (.agg #[.int .i64 (f.size : Int), .int .i64 (f.E : Int), .int .i64 (f.F : Int), .int .i64 f.g.rad, .int .i64 f.g.digs, .int .i64 f.g.lo, .int .i64 f.g.hi, .bool f.g.grad, .bool f.hid, .bool f.inf, .bool f.res, .func (.func (ordF f)) #[] #[]]), .v (.agg #[.int .i64 k, .bool true, .slice p (dig B32 m).length c, .int .i64 pw])] I Tryz.func185 ?_
  refine zcut I none (fun fr bx gs => ∃ (U1 : Nat → Value) (p13 : Option Addr) (c13 : Nat), fr = (.v (.agg #[.int .i64 (f.size : Int), .int .i64 (f.E : Int), .int .i64 (f.F : Int), .int .i64 f.g.rad, .int .i64 f.g.digs, .int .i64 f.g.lo, .int .i64 f.g.hi, .bool f.g.grad, .bool f.hid, .bool f.inf, .bool f.res, .func (.func (ordF f)) #[] #[]]) :: .v (.agg #[.int .i64 k, .bool true, .slice p (dig B32 m).length c, .int .i64 pw]) :: .p 0 0 :: .p 1 0 :: .p 2 0 :: .p 3 0 :: sw U1 6 9 (.v undef :: sw U1 16 3 []) : List SV) ∧ bx = [⟨136, [.v (.int .i64 (f.size : Int)), .v (.int .i64 (f.E : Int)), .v (.int .i64 (f.F : Int)), .v (.int .i64 f.g.rad), .v (.int .i64 f.g.digs), .v (.int .i64 f.g.lo), .v (.int .i64 f.g.hi), .v (.bool f.g.grad), .v (.bool f.hid), .v (.bool f.inf), .v (.bool f.res), .v (.func (.func (ordF f)) #[] #[])], false⟩, ⟨66, [.v (.int .i64 k), .v (.bool true), .v (.slice p (dig B32 m).length c), .v (.int .i64 pw)], false⟩, ⟨150, [.v (.bool false), .v (.slice none 0 0), .v (.int .i64 0)], false⟩, ⟨150, [.v (.bool d.neg), .v (.slice p13 (dig B32 d.m).length c13), .v (.int .i64 d.e)], false⟩] ∧ gs = [ownF w.heap.size .u32 143 p13 c13 (dig B32 d.m), rdF .u32 p (dig B32 m), tabF]) ?_ ?_
  · intro J hJ Al W I
    refine zd [] I fun Al W I => ?_
    refine zk [0, 1, 2, 4, 5] I fun I => ?_
    refine zo2 3 8 I (fun I => ?_) (fun I => ?_)
    · refine zq I (fun Al W I => i0t f W) fun Al W I => ?_
      refine zki 6 I .i64 (((wid f.g : Nat) : Int) * pw) (mw) ((by rw [HMW.out]; exact iwo)) fun I => ?_
      refine zo2 7 8 I (fun I => ?_) (fun I => ?_)
      · refine zqo I (fun Al W I => (HW W I.fa.1 I.fa.2.1).out) fun Al W p13 c13 I => ?_
        refine zo 8 I fun I => ?_
        refine zn I fun Al W I => ?_
        refine zo 9 I fun I => ?_
        refine zn I fun Al W I => ?_
        exact a0n I J fun Al W U I => hJ _ _ _ _ _ ⟨U, p13, c13, rfl, rfl, rfl⟩ (I.pick [0, 1, 2])
      refine zn I fun Al W I => ?_
      refine zo 7 I fun I => ?_
      refine zqo I (fun Al W I => (HW W I.fa.1 I.fa.2.1).out) fun Al W p13 c13 I => ?_
      refine zo 9 I fun I => ?_
      refine zn I fun Al W I => ?_
      exact a0n I J fun Al W U I => hJ _ _ _ _ _ ⟨U, p13, c13, rfl, rfl, rfl⟩ (I.pick [0, 1, 2])
    refine zn I fun Al W I => ?_
    refine zo 3 I fun I => ?_
    refine zq I (fun Al W I => i0t f W) fun Al W I => ?_
    refine zki 6 I .i64 (((wid f.g : Nat) : Int) * pw) (mw) ((by rw [HMW.out]; exact iwo)) fun I => ?_
    refine zo 7 I fun I => ?_
    refine zqo I (fun Al W I => (HW W I.fa.1 I.fa.2.1).out) fun Al W p13 c13 I => ?_
    refine zo 9 I fun I => ?_
    refine zn I fun Al W I => ?_
    exact a0n I J fun Al W U I => hJ _ _ _ _ _ ⟨U, p13, c13, rfl, rfl, rfl⟩ (I.pick [0, 1, 2])
  rintro _ _ _ ⟨U1, p13, c13, rfl, rfl, rfl⟩ Al W I
  refine zq I (fun Al W I => m1t d.neg p13 _ c13 d.e d.m W rfl) fun Al W I => ?_
  exact zret I fun Al W I => ⟨p13, c13, rfl, I.fa.1.mono (by omega), I.below⟩
theorem s0j (f : Fm) (g : Bool) (E : Int) (e x : Nat) (hE : E = e) (p : Option Addr) (c : Nat) (w : World) (G : d0k f) (hp : Rd w .u32 p (dig B32 x)) (he : e < 2 ^ f.E) (hx : x < 2 ^ f.F) :
 Calls Tryz.prog 187 #[.agg #[.int .i64 (f.size : Int), .int .i64 (f.E : Int), .int .i64 (f.F : Int), .int .i64 f.g.rad, .int .i64 f.g.digs, .int .i64 f.g.lo, .int .i64 f.g.hi, .bool f.g.grad, .bool f.hid, .bool f.inf, .bool f.res, .func (.func (ordF f)) #[] #[]], .agg #[.bool g, .int .i64 E, .slice p (dig B32 x).length c]] w fun en w' => en = .returned (.string (a0c (f.str g e x))) ∧ Below w.heap.size w w' := by
 subst hE
 exact z0e f g e x p c w G hp he hx
theorem n1f {F : Nat} (h : F ≤ 64) : (dig B32 (2 ^ F)).length ≤ 3 := b0d (n := F + 1) (Nat.pow_lt_pow_right (by omega) (by omega)) (by omega)
theorem b1b (f : Fm) (d : Dv) (p : Option Addr) (c : Nat) (w : World) (G : d0k f) (hp : Rd w .u32 p (dig B32 d.m)) (hl : (dig B32 d.m).length ≤ 1200) (he : -60000 ≤ d.e ∧ d.e ≤ 60000) (hin : a0v d f.g = true) (h0 : d.m ≠ 0) :
 Calls Tryz.prog 186 #[.agg #[.int .i64 (f.size : Int), .int .i64 (f.E : Int), .int .i64 (f.F : Int), .int .i64 f.g.rad, .int .i64 f.g.digs, .int .i64 f.g.lo, .int .i64 f.g.hi, .bool f.g.grad, .bool f.hid, .bool f.inf, .bool f.res, .func (.func (ordF f)) #[] #[]], .agg #[.bool d.neg, .slice p (dig B32 d.m).length c, .int .i64 d.e]] w fun en w' => en = .returned (.string (a0c (f.strP (f.numP d)))) ∧ Below w.heap.size w w' := by
 have hg := c0a G.g
 have N := d1y G hin h0
 have hlt := d1z G N
 obtain ⟨s, m, e⟩ := d
 simp only at h0 hl he hp
 have hd1 := hg.d1
 have hd2 := hg.d2
 have hl1 : (dig B32 1).length ≤ 1 := by rw [a0f a0a]; unfold B32; omega
 obtain ⟨f1, f2, f3⟩ := j1e hg hin h0
 have f4 := f2 f3
 have hq : qP m 1 (e - wid f.g * c0b ⟨s, m, e⟩ f.g) = f.fr ⟨s, m, e⟩ := by
  have := N.e0
  simp only at this
  unfold qP numP denP Fm.fr
  rw [show (-(e - wid f.g * c0b ⟨s, m, e⟩ f.g)).toNat = 0 by omega, Nat.pow_zero, Nat.mul_one, Nat.div_one]
 rw [hq] at f1
 have hK := r0h (show 0 < m by omega) e (w := wid f.g) (D := f.g.digs.toNat) (b0n f.g).1 (by omega)
 have HF := fun W q d (h1 : Rd W .u32 p (dig B32 m)) (h2 : Rd W .u32 q (dig B32 1)) => hi0 (s0c s p q c d m 1 e f.g 3 _ W h1 h2 (by omega) (by omega) (by omega) (by omega) (by omega) hg (by omega) (by omega) hK)
 have hlow := N.low
 have hbl := N.bl
 have hk1 := N.k1
 have hk2 := N.k2
 have hfl : (dig B32 (f.fr ⟨s, m, e⟩)).length ≤ 16 := b0d N.lt (k := 16) (by have := Nat.mul_le_mul (b0n f.g).2 (show f.g.digs.toNat ≤ 120 by omega); omega)
 have hnp : f.numP ⟨s, m, e⟩ = if f.fam = 2 then ⟨s, (c0b ⟨s, m, e⟩ f.g - f.g.lo).toNat, f.fr ⟨s, m, e⟩⟩
  else if (blen (f.fr ⟨s, m, e⟩) : Int) = f.g.digs then ⟨s, (c0b ⟨s, m, e⟩ f.g - f.g.lo).toNat + 1, if f.ext then f.fr ⟨s, m, e⟩ else f.fr ⟨s, m, e⟩ - 2 ^ f.F⟩
  else ⟨s, (c0b ⟨s, m, e⟩ f.g - f.g.lo).toNat, f.fr ⟨s, m, e⟩⟩ := rfl
 rw [hnp] at hlt ⊢
 clear hnp N
 generalize f.fr ⟨s, m, e⟩ = X at *
 generalize c0b ⟨s, m, e⟩ f.g = K at *
 generalize fitK s m 1 e f.g 3 ((e + blen m - 1) / wid f.g - f.g.digs.toNat + 1) = pf at *
 obtain ⟨pn, pd, pp, pex, pov, pun⟩ := pf
 simp only at f1 f4
 subst f1 f4
 clear hK f2 f3 hq
 have z5 := G.lo
 have z6 := G.hi
 have hr := G.rad
 have hw := G.w
 have HJ := fun (W : World) (g : Bool) (e x : Nat) (p : Option Addr) (c : Nat) h h1 h2 => hi0 (z0e f g e x p c W G h h1 h2)
 unfold Fm.strP
 by_cases hf : f.fam = 2
 · rw [if_pos hf] at hr hw hlt ⊢
   simp only at hlt ⊢
   have hei : ((pp - f.g.lo).toNat : Int) = pp - f.g.lo := by omega
   generalize (pp - f.g.lo).toNat = e1 at *
   have I := Inv.start w [rdF .u32 p (dig B32 m)] ⟨hp, True.intro⟩
   refine a0h [.v (.agg #[.int .i64 (f.size : Int), .int .i64 (f.E : Int), .int .i64 (f.F : Int), .int .i64 f.g.rad, .int .i64 f.g.digs, .int .i64 f.g.lo, .int .i64 f.g.hi, .bool f.g.grad, .bool f.hid, .bool f.inf, .bool f.res, .func (.func (ordF f)) #[] #[]]), .v (.agg #[.bool s, .slice p (dig B32 m).length c, .int .i64 e])] I Tryz.func186 ?_
   refine zcut I none (fun fr bx gs => ∃ (U1 : Nat → Value) (p21 : Option Addr) (c21 : Nat), fr = (.v (.agg #[.int .i64 (f.size : Int), .int .i64 (f.E : Int), .int .i64 (f.F : Int), .int .i64 f.g.rad, .int .i64 f.g.digs, .int .i64 f.g.lo, .int .i64 f.g.hi, .bool f.g.grad, .bool f.hid, .bool f.inf, .bool f.res, .func (.func (ordF f)) #[] #[]]) :: .v (.agg #[.bool s, .slice p (dig B32 m).length c, .int .i64 e]) :: .p 0 0 :: .p 1 0 :: .v (Go.Value.string (ByteArray.mk #[])) :: .p 2 0 :: su 2 (sw U1 8 25 (.v undef :: sw U1 34 7 (.v undef :: .v (U1 42) :: .v undef :: sw U1 44 13 []))) : List SV) ∧ bx = [⟨136, [.v (.int .i64 (f.size : Int)), .v (.int .i64 (f.E : Int)), .v (.int .i64 (f.F : Int)), .v (.int .i64 f.g.rad), .v (.int .i64 f.g.digs), .v (.int .i64 f.g.lo), .v (.int .i64 f.g.hi), .v (.bool f.g.grad), .v (.bool f.hid), .v (.bool f.inf), .v (.bool f.res), .v (.func (.func (ordF f)) #[] #[])], false⟩, ⟨150, [.v (.bool s), .v (.slice p (dig B32 m).length c), .v (.int .i64 e)], false⟩, ⟨116, [.v (.bool pn), .v (.slice p21 (dig B32 pd).length c21), .v (.int .i64 pp), .v (.bool pex), .v (.bool pov), .v (.bool pun)], false⟩] ∧ gs = [ownF w.heap.size .u32 143 p21 c21 (dig B32 pd), rdF .u32 p (dig B32 m)]) ?_ ?_
   · intro J hJ Al W I
     refine zd [] I fun Al W I => ?_
     refine zk [0, 1, 2, 3, 4, 5, 7, 8, 9, 11, 12] I fun I => ?_
     refine zo2 6 14 I (fun I => ?_) (fun I => ?_)
     · refine zqo I (fun Al W I => have hzW := I.bel.size; sof 1 1 rfl (by omega) W) fun Al W p14 c14 I => ?_
       refine zk [10] I fun I => ?_
       refine zo2 13 14 I (fun I => ?_) (fun I => ?_)
       · refine zqo I (fun Al W I => (HF W p14 c14 I.fa.2.1 I.fa.1.rd).out) fun Al W p21 c21 I => ?_
         refine zo 14 I fun I => ?_
         refine zn I fun Al W I => ?_
         refine zo 15 I fun I => ?_
         refine zn I fun Al W I => ?_
         exact a0n I J fun Al W U I => hJ _ _ _ _ _ ⟨U, p21, c21, rfl, rfl, rfl⟩ (I.pick [0, 2])
       refine zn I fun Al W I => ?_
       refine zo 13 I fun I => ?_
       refine zqo I (fun Al W I => (HF W p14 c14 I.fa.2.1 I.fa.1.rd).out) fun Al W p21 c21 I => ?_
       refine zo 15 I fun I => ?_
       refine zn I fun Al W I => ?_
       exact a0n I J fun Al W U I => hJ _ _ _ _ _ ⟨U, p21, c21, rfl, rfl, rfl⟩ (I.pick [0, 2])
     refine zn I fun Al W I => ?_
     refine zo 6 I fun I => ?_
     refine zqo I (fun Al W I => have hzW := I.bel.size; sof 1 1 rfl (by omega) W) fun Al W p14 c14 I => ?_
     refine zk [10] I fun I => ?_
     refine zo 13 I fun I => ?_
     refine zqo I (fun Al W I => (HF W p14 c14 I.fa.2.1 I.fa.1.rd).out) fun Al W p21 c21 I => ?_
     refine zo 15 I fun I => ?_
     refine zn I fun Al W I => ?_
     exact a0n I J fun Al W U I => hJ _ _ _ _ _ ⟨U, p21, c21, rfl, rfl, rfl⟩ (I.pick [0, 2])
   rintro _ _ _ ⟨U1, p21, c21, rfl, rfl, rfl⟩ Al W I
   refine zi I 27 .i64 (pp - f.g.lo) ((e1 : Int)) ((by rw [hei]; exact iwo)) fun Al W I => ?_
   refine zb I 33 (f.g.rad == 2) (false) (by rw [hr]; rfl) fun Al W I => ?_
   refine zq I (fun Al W I => (HJ W s e1 pd p21 c21 I.fa.1.rd hlt.1 hlt.2).out) fun Al W I => ?_
   exact zrb I
 · rw [if_neg hf] at hr hw hlt ⊢
   rw [hw] at hbl
   by_cases hb : (blen pd : Int) = f.g.digs
   · rw [if_pos hb] at hlt ⊢
     simp only at hlt ⊢
     have hei : (((pp - f.g.lo).toNat + 1 : Nat) : Int) = pp - f.g.lo + 1 := by omega
     generalize (pp - f.g.lo).toNat + 1 = e1 at *
     by_cases hx : f.ext = true
     · rw [if_pos hx] at hlt ⊢
       have hh : f.hid = false := by unfold Fm.hid; rw [hx]; simp
       have I := Inv.start w [rdF .u32 p (dig B32 m)] ⟨hp, True.intro⟩
       refine a0h [.v (.agg #[.int .i64 (f.size : Int), .int .i64 (f.E : Int), .int .i64 (f.F : Int), .int .i64 f.g.rad, .int .i64 f.g.digs, .int .i64 f.g.lo, .int .i64 f.g.hi, .bool f.g.grad, .bool f.hid, .bool f.inf, .bool f.res, .func (.func (ordF f)) #[] #[]]), .v (.agg #[.bool s, .slice p (dig B32 m).length c, .int .i64 e])] I Tryz.func186 ?_
       refine zcut I none (fun fr bx gs => ∃ (U1 : Nat → Value) (p21 : Option Addr) (c21 : Nat), fr = (.v (.agg #[.int .i64 (f.size : Int), .int .i64 (f.E : Int), .int .i64 (f.F : Int), .int .i64 f.g.rad, .int .i64 f.g.digs, .int .i64 f.g.lo, .int .i64 f.g.hi, .bool f.g.grad, .bool f.hid, .bool f.inf, .bool f.res, .func (.func (ordF f)) #[] #[]]) :: .v (.agg #[.bool s, .slice p (dig B32 m).length c, .int .i64 e]) :: .p 0 0 :: .p 1 0 :: .v (Go.Value.string (ByteArray.mk #[])) :: .p 2 0 :: su 2 (sw U1 8 25 (.v undef :: sw U1 34 7 (.v undef :: .v (U1 42) :: .v undef :: sw U1 44 13 []))) : List SV) ∧ bx = [⟨136, [.v (.int .i64 (f.size : Int)), .v (.int .i64 (f.E : Int)), .v (.int .i64 (f.F : Int)), .v (.int .i64 f.g.rad), .v (.int .i64 f.g.digs), .v (.int .i64 f.g.lo), .v (.int .i64 f.g.hi), .v (.bool f.g.grad), .v (.bool f.hid), .v (.bool f.inf), .v (.bool f.res), .v (.func (.func (ordF f)) #[] #[])], false⟩, ⟨150, [.v (.bool s), .v (.slice p (dig B32 m).length c), .v (.int .i64 e)], false⟩, ⟨116, [.v (.bool pn), .v (.slice p21 (dig B32 pd).length c21), .v (.int .i64 pp), .v (.bool pex), .v (.bool pov), .v (.bool pun)], false⟩] ∧ gs = [ownF w.heap.size .u32 143 p21 c21 (dig B32 pd), rdF .u32 p (dig B32 m)]) ?_ ?_
       · intro J hJ Al W I
         refine zd [] I fun Al W I => ?_
         refine zk [0, 1, 2, 3, 4, 5, 7, 8, 9, 11, 12] I fun I => ?_
         refine zo2 6 14 I (fun I => ?_) (fun I => ?_)
         · refine zqo I (fun Al W I => have hzW := I.bel.size; sof 1 1 rfl (by omega) W) fun Al W p14 c14 I => ?_
           refine zk [10] I fun I => ?_
           refine zo2 13 14 I (fun I => ?_) (fun I => ?_)
           · refine zqo I (fun Al W I => (HF W p14 c14 I.fa.2.1 I.fa.1.rd).out) fun Al W p21 c21 I => ?_
             refine zo 14 I fun I => ?_
             refine zn I fun Al W I => ?_
             refine zo 15 I fun I => ?_
             refine zn I fun Al W I => ?_
             exact a0n I J fun Al W U I => hJ _ _ _ _ _ ⟨U, p21, c21, rfl, rfl, rfl⟩ (I.pick [0, 2])
           refine zn I fun Al W I => ?_
           refine zo 13 I fun I => ?_
           refine zqo I (fun Al W I => (HF W p14 c14 I.fa.2.1 I.fa.1.rd).out) fun Al W p21 c21 I => ?_
           refine zo 15 I fun I => ?_
           refine zn I fun Al W I => ?_
           exact a0n I J fun Al W U I => hJ _ _ _ _ _ ⟨U, p21, c21, rfl, rfl, rfl⟩ (I.pick [0, 2])
         refine zn I fun Al W I => ?_
         refine zo 6 I fun I => ?_
         refine zqo I (fun Al W I => have hzW := I.bel.size; sof 1 1 rfl (by omega) W) fun Al W p14 c14 I => ?_
         refine zk [10] I fun I => ?_
         refine zo 13 I fun I => ?_
         refine zqo I (fun Al W I => (HF W p14 c14 I.fa.2.1 I.fa.1.rd).out) fun Al W p21 c21 I => ?_
         refine zo 15 I fun I => ?_
         refine zn I fun Al W I => ?_
         exact a0n I J fun Al W U I => hJ _ _ _ _ _ ⟨U, p21, c21, rfl, rfl, rfl⟩ (I.pick [0, 2])
       rintro _ _ _ ⟨U1, p21, c21, rfl, rfl, rfl⟩ Al W I
       refine zi I 27 .i64 (pp - f.g.lo) (pp - f.g.lo) (iwo) fun Al W I => ?_
       refine zb I 33 (f.g.rad == 2) (true) (by rw [hr]; rfl) fun Al W I => ?_
       refine zi I 35 .i64 ((pp - f.g.lo) + 1) ((e1 : Int)) ((by rw [hei]; exact iwo)) fun Al W I => ?_
       refine zd [] I fun Al W I => ?_
       refine zk [0, 2, 3, 4] I fun I => ?_
       refine zo 1 I fun I => ?_
       refine zq I (fun Al W I => have hzW := I.bel.size; stay (g0j p21 _ c21 pd W I.fa.1.rd rfl (by omega))) fun Al W I => ?_
       refine zkb 5 I (decide (((blen pd : Nat) : Int) < f.g.digs)) (false) (dFa (by omega)) fun I => ?_
       refine zb I 43 (f.hid) (false) (hh) fun Al W I => ?_
       refine zq I (fun Al W I => (HJ W s e1 pd p21 c21 I.fa.1.rd hlt.1 hlt.2).out) fun Al W I => ?_
       exact zrb I
     · rw [if_neg hx] at hlt ⊢
       have hx' : f.ext = false := by simpa using hx
       have hh : f.hid = true := by unfold Fm.hid; rw [hx']; simp [hf]
       have hFF := G.d1 hf hx'
       have hge : 2 ^ f.F ≤ pd := by
        have h1 := h0b pd ((e0l pd).1 (by omega))
        rw [show blen pd - 1 = f.F by omega] at h1
        exact h1
       have ht := n1f G.f2
       have I := Inv.start w [rdF .u32 p (dig B32 m)] ⟨hp, True.intro⟩
       refine a0h [.v (.agg #[.int .i64 (f.size : Int), .int .i64 (f.E : Int), .int .i64 (f.F : Int), .int .i64 f.g.rad, .int .i64 f.g.digs, .int .i64 f.g.lo, .int .i64 f.g.hi, .bool f.g.grad, .bool f.hid, .bool f.inf, .bool f.res, .func (.func (ordF f)) #[] #[]]), .v (.agg #[.bool s, .slice p (dig B32 m).length c, .int .i64 e])] I Tryz.func186 ?_
       refine zcut I none (fun fr bx gs => ∃ (U1 : Nat → Value) (p21 : Option Addr) (c21 : Nat), fr = (.v (.agg #[.int .i64 (f.size : Int), .int .i64 (f.E : Int), .int .i64 (f.F : Int), .int .i64 f.g.rad, .int .i64 f.g.digs, .int .i64 f.g.lo, .int .i64 f.g.hi, .bool f.g.grad, .bool f.hid, .bool f.inf, .bool f.res, .func (.func (ordF f)) #[] #[]]) :: .v (.agg #[.bool s, .slice p (dig B32 m).length c, .int .i64 e]) :: .p 0 0 :: .p 1 0 :: .v (Go.Value.string (ByteArray.mk #[])) :: .p 2 0 :: su 2 (sw U1 8 25 (.v undef :: sw U1 34 7 (.v undef :: .v (U1 42) :: .v undef :: sw U1 44 13 []))) : List SV) ∧ bx = [⟨136, [.v (.int .i64 (f.size : Int)), .v (.int .i64 (f.E : Int)), .v (.int .i64 (f.F : Int)), .v (.int .i64 f.g.rad), .v (.int .i64 f.g.digs), .v (.int .i64 f.g.lo), .v (.int .i64 f.g.hi), .v (.bool f.g.grad), .v (.bool f.hid), .v (.bool f.inf), .v (.bool f.res), .v (.func (.func (ordF f)) #[] #[])], false⟩, ⟨150, [.v (.bool s), .v (.slice p (dig B32 m).length c), .v (.int .i64 e)], false⟩, ⟨116, [.v (.bool pn), .v (.slice p21 (dig B32 pd).length c21), .v (.int .i64 pp), .v (.bool pex), .v (.bool pov), .v (.bool pun)], false⟩] ∧ gs = [ownF w.heap.size .u32 143 p21 c21 (dig B32 pd), rdF .u32 p (dig B32 m)]) ?_ ?_
       · intro J hJ Al W I
         refine zd [] I fun Al W I => ?_
         refine zk [0, 1, 2, 3, 4, 5, 7, 8, 9, 11, 12] I fun I => ?_
         refine zo2 6 14 I (fun I => ?_) (fun I => ?_)
         · refine zqo I (fun Al W I => have hzW := I.bel.size; sof 1 1 rfl (by omega) W) fun Al W p14 c14 I => ?_
           refine zk [10] I fun I => ?_
           refine zo2 13 14 I (fun I => ?_) (fun I => ?_)
           · refine zqo I (fun Al W I => (HF W p14 c14 I.fa.2.1 I.fa.1.rd).out) fun Al W p21 c21 I => ?_
             refine zo 14 I fun I => ?_
             refine zn I fun Al W I => ?_
             refine zo 15 I fun I => ?_
             refine zn I fun Al W I => ?_
             exact a0n I J fun Al W U I => hJ _ _ _ _ _ ⟨U, p21, c21, rfl, rfl, rfl⟩ (I.pick [0, 2])
           refine zn I fun Al W I => ?_
           refine zo 13 I fun I => ?_
           refine zqo I (fun Al W I => (HF W p14 c14 I.fa.2.1 I.fa.1.rd).out) fun Al W p21 c21 I => ?_
           refine zo 15 I fun I => ?_
           refine zn I fun Al W I => ?_
           exact a0n I J fun Al W U I => hJ _ _ _ _ _ ⟨U, p21, c21, rfl, rfl, rfl⟩ (I.pick [0, 2])
         refine zn I fun Al W I => ?_
         refine zo 6 I fun I => ?_
         refine zqo I (fun Al W I => have hzW := I.bel.size; sof 1 1 rfl (by omega) W) fun Al W p14 c14 I => ?_
         refine zk [10] I fun I => ?_
         refine zo 13 I fun I => ?_
         refine zqo I (fun Al W I => (HF W p14 c14 I.fa.2.1 I.fa.1.rd).out) fun Al W p21 c21 I => ?_
         refine zo 15 I fun I => ?_
         refine zn I fun Al W I => ?_
         exact a0n I J fun Al W U I => hJ _ _ _ _ _ ⟨U, p21, c21, rfl, rfl, rfl⟩ (I.pick [0, 2])
       rintro _ _ _ ⟨U1, p21, c21, rfl, rfl, rfl⟩ Al W I
       refine zi I 27 .i64 (pp - f.g.lo) (pp - f.g.lo) (iwo) fun Al W I => ?_
       refine zb I 33 (f.g.rad == 2) (true) (by rw [hr]; rfl) fun Al W I => ?_
       refine zi I 35 .i64 ((pp - f.g.lo) + 1) ((e1 : Int)) ((by rw [hei]; exact iwo)) fun Al W I => ?_
       refine zd [] I fun Al W I => ?_
       refine zk [0, 2, 3, 4] I fun I => ?_
       refine zo 1 I fun I => ?_
       refine zq I (fun Al W I => have hzW := I.bel.size; stay (g0j p21 _ c21 pd W I.fa.1.rd rfl (by omega))) fun Al W I => ?_
       refine zkb 5 I (decide (((blen pd : Nat) : Int) < f.g.digs)) (false) (dFa (by omega)) fun I => ?_
       refine zb I 43 (f.hid) (true) (hh) fun Al W I => ?_
       refine zqo I (fun Al W I => have hzW := I.bel.size; g0k f.F (2 ^ f.F) _ W (by have := G.f2; omega) rfl rfl) fun Al W p47 c47 I => ?_
       refine zqo I (fun Al W I => have hzW := I.bel.size; ssub p21 p47 _ _ c21 c47 pd (2 ^ f.F) (pd - 2 ^ f.F) W I.fa.2.1.rd I.fa.1.rd rfl rfl (by omega) hge rfl) fun Al W p48 c48 I => ?_
       refine zq I (fun Al W I => (HJ W s e1 (pd - 2 ^ f.F) p48 c48 I.fa.1.rd hlt.1 hlt.2).out) fun Al W I => ?_
       exact zrb I
   · rw [if_neg hb] at hlt ⊢
     simp only at hlt ⊢
     have hlo := (hlow hf hb).1
     have h0e : (pp - f.g.lo).toNat = 0 := by omega
     rw [h0e] at hlt ⊢
     have I := Inv.start w [rdF .u32 p (dig B32 m)] ⟨hp, True.intro⟩
     refine a0h [.v (.agg #[.int .i64 (f.size : Int), .int .i64 (f.E : Int), .int .i64 (f.F : Int), .int .i64 f.g.rad, .int .i64 f.g.digs, .int .i64 f.g.lo, .int .i64 f.g.hi, .bool f.g.grad, .bool f.hid, .bool f.inf, .bool f.res, .func (.func (ordF f)) #[] #[]]), .v (.agg #[.bool s, .slice p (dig B32 m).length c, .int .i64 e])] I Tryz.func186 ?_
     refine zcut I none (fun fr bx gs => ∃ (U1 : Nat → Value) (p21 : Option Addr) (c21 : Nat), fr = (.v (.agg #[.int .i64 (f.size : Int), .int .i64 (f.E : Int), .int .i64 (f.F : Int), .int .i64 f.g.rad, .int .i64 f.g.digs, .int .i64 f.g.lo, .int .i64 f.g.hi, .bool f.g.grad, .bool f.hid, .bool f.inf, .bool f.res, .func (.func (ordF f)) #[] #[]]) :: .v (.agg #[.bool s, .slice p (dig B32 m).length c, .int .i64 e]) :: .p 0 0 :: .p 1 0 :: .v (Go.Value.string (ByteArray.mk #[])) :: .p 2 0 :: su 2 (sw U1 8 25 (.v undef :: sw U1 34 7 (.v undef :: .v (U1 42) :: .v undef :: sw U1 44 13 []))) : List SV) ∧ bx = [⟨136, [.v (.int .i64 (f.size : Int)), .v (.int .i64 (f.E : Int)), .v (.int .i64 (f.F : Int)), .v (.int .i64 f.g.rad), .v (.int .i64 f.g.digs), .v (.int .i64 f.g.lo), .v (.int .i64 f.g.hi), .v (.bool f.g.grad), .v (.bool f.hid), .v (.bool f.inf), .v (.bool f.res), .v (.func (.func (ordF f)) #[] #[])], false⟩, ⟨150, [.v (.bool s), .v (.slice p (dig B32 m).length c), .v (.int .i64 e)], false⟩, ⟨116, [.v (.bool pn), .v (.slice p21 (dig B32 pd).length c21), .v (.int .i64 pp), .v (.bool pex), .v (.bool pov), .v (.bool pun)], false⟩] ∧ gs = [ownF w.heap.size .u32 143 p21 c21 (dig B32 pd), rdF .u32 p (dig B32 m)]) ?_ ?_
     · intro J hJ Al W I
       refine zd [] I fun Al W I => ?_
       refine zk [0, 1, 2, 3, 4, 5, 7, 8, 9, 11, 12] I fun I => ?_
       refine zo2 6 14 I (fun I => ?_) (fun I => ?_)
       · refine zqo I (fun Al W I => have hzW := I.bel.size; sof 1 1 rfl (by omega) W) fun Al W p14 c14 I => ?_
         refine zk [10] I fun I => ?_
         refine zo2 13 14 I (fun I => ?_) (fun I => ?_)
         · refine zqo I (fun Al W I => (HF W p14 c14 I.fa.2.1 I.fa.1.rd).out) fun Al W p21 c21 I => ?_
           refine zo 14 I fun I => ?_
           refine zn I fun Al W I => ?_
           refine zo 15 I fun I => ?_
           refine zn I fun Al W I => ?_
           exact a0n I J fun Al W U I => hJ _ _ _ _ _ ⟨U, p21, c21, rfl, rfl, rfl⟩ (I.pick [0, 2])
         refine zn I fun Al W I => ?_
         refine zo 13 I fun I => ?_
         refine zqo I (fun Al W I => (HF W p14 c14 I.fa.2.1 I.fa.1.rd).out) fun Al W p21 c21 I => ?_
         refine zo 15 I fun I => ?_
         refine zn I fun Al W I => ?_
         exact a0n I J fun Al W U I => hJ _ _ _ _ _ ⟨U, p21, c21, rfl, rfl, rfl⟩ (I.pick [0, 2])
       refine zn I fun Al W I => ?_
       refine zo 6 I fun I => ?_
       refine zqo I (fun Al W I => have hzW := I.bel.size; sof 1 1 rfl (by omega) W) fun Al W p14 c14 I => ?_
       refine zk [10] I fun I => ?_
       refine zo 13 I fun I => ?_
       refine zqo I (fun Al W I => (HF W p14 c14 I.fa.2.1 I.fa.1.rd).out) fun Al W p21 c21 I => ?_
       refine zo 15 I fun I => ?_
       refine zn I fun Al W I => ?_
       exact a0n I J fun Al W U I => hJ _ _ _ _ _ ⟨U, p21, c21, rfl, rfl, rfl⟩ (I.pick [0, 2])
     rintro _ _ _ ⟨U1, p21, c21, rfl, rfl, rfl⟩ Al W I
     refine zi I 27 .i64 (pp - f.g.lo) (pp - f.g.lo) (iwo) fun Al W I => ?_
     refine zb I 33 (f.g.rad == 2) (true) (by rw [hr]; rfl) fun Al W I => ?_
     refine zi I 35 .i64 ((pp - f.g.lo) + 1) ((pp - f.g.lo) + 1) (iwo) fun Al W I => ?_
     refine zd [] I fun Al W I => ?_
     refine zk [0, 2, 3, 4] I fun I => ?_
     refine zo 1 I fun I => ?_
     refine zq I (fun Al W I => have hzW := I.bel.size; stay (g0j p21 _ c21 pd W I.fa.1.rd rfl (by omega))) fun Al W I => ?_
     refine zkb 5 I (decide (((blen pd : Nat) : Int) < f.g.digs)) (true) (dTr (by omega)) fun I => ?_
     refine zq I (fun Al W I => s0j f s 0 0 pd rfl p21 c21 W G I.fa.1.rd hlt.1 hlt.2) fun Al W I => ?_
     exact zrb I
end Go.Proofs.YtbamiajjampgnaaGreatDoor
