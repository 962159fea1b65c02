/- grid: Round. -/
import Derived.Lib.Strings
import Derived.Lib.Slices
import Derived.Lib.Small
import Derived.Lib.Walk
import Derived.Lib.BitFns
import Derived.Deep.LoopGhost
import Derived.Outline
import Derived.Deep.RegionHeld3
import Derived.Test.YtmacohmclpnphaaGreatDoorZd1
import Derived.Test.YtmacohmclpnphaaGreatDoorZd2
import Derived.Test.YtmacohmclpnphaaGreatDoorZd3
import Derived.Test.YtmacohmclpnphaaGreatDoorZd4
import Derived.Test.YtmacohmclpnphaaGreatDoorZd5
set_option maxHeartbeats 8000000
set_option maxRecDepth 100000
namespace Go.Proofs.YtmacohmclpnphaaGreatDoor
open Go.RowKit Go.Slip
structure Rin where
 g : Bool
 p : Option Addr
 c : Nat
 xs : List Nat
 q : Option Addr
 d : Nat
 ys : List Nat
 e : Int
structure InR (w : World) (a : Rin) : Prop where
 r1 : Rd w .u32 a.p a.xs
 l1 : a.xs.length ≤ 9223372036854775807
 b1 : ∀ x ∈ a.xs, x < B32
 r2 : Rd w .u32 a.q a.ys
 l2 : a.ys.length ≤ 9223372036854775807
 b2 : ∀ x ∈ a.ys, x < B32
theorem InR.past {w w' : World} {a : Rin} (h : InR w a) (hb : Below w.heap.size w w') : InR w' a := ⟨h.r1.past hb, h.l1, h.b1, h.r2.past hb, h.l2, h.b2⟩
def g0b (a : Rin) : Int := if a0u a.xs ≠ 0 then a0u a.xs else if a0u a.ys ≠ 0 then a0u a.ys else if a.ys.length = 0 ∨ a.e < -20000 ∨ 20000 < a.e then 3 else 0
def d0j (a : Rin) (g : Gd) (way : Int) : Int := if g0b a ≠ 0 then g0b a else if errG g ≠ 0 then errG g else if way < 1 ∨ 5 < way then 6 else 0
def k1n : Pl := ⟨false, 0, 0, false, false, false⟩
def k0f (a : Rin) (g : Gd) (way : Int) : Pl := if d0j a g way = 0 then a0s a.g (val B32 a.xs) (val B32 a.ys) a.e g way else k1n
def s0z (w : World) (d : Pl) (er : Int) (en : Ending) (w' : World) : Prop :=
 ∃ p c, en = .returned (.tuple #[.agg #[.bool d.neg, .slice p (dig B32 d.d).length c, .int .i64 d.pow, .bool d.exact, .bool d.over, .bool d.under], .int .i64 er]) ∧ Own w' w.heap.size .u32 141 p c (dig B32 d.d) ∧ Below w.heap.size w w'
theorem c0v {w wk : World} {b : Nat} {er : Int} {v3 : Bool} {d : Pl} (hd : d = ⟨false, 0, 0, v3, false, false⟩) (hs : Below w.heap.size w wk) (hB : w.heap.size ≤ b) :
 s0z w d er (.returned (.tuple #[.agg #[.bool false, .slice none 0 0, .int .i64 0, .bool v3, .bool false, .bool false], .int .i64 er]))
  ((((((wk.setCell ⟨b, 0, none⟩ (.bool false)).setCell ⟨b, 1, none⟩ (.slice none 0 0)).setCell ⟨b, 2, none⟩ (.int .i64 0)).setCell ⟨b, 3, none⟩ (.bool v3)).setCell ⟨b, 4, none⟩ (.bool false)).setCell ⟨b, 5, none⟩ (.bool false)) := by
 subst hd
 exact ⟨none, 0, by rw [a0f]; rfl, by simp only [a0f]; exact Own.nil _ _ _ _, hs.trans ((o0m wk b _ _ _ _ _ _).below hB)⟩
theorem p0i {w wk : World} {b base : Nat} {er : Int} {d : Pl} {p : Option Addr} {c : Nat} (hs : Below w.heap.size w wk) (ho : Own wk base .u32 141 p c (dig B32 d.d)) (hb : w.heap.size ≤ base) (hB : w.heap.size ≤ b) (hne : p.isSome = true → blk p ≠ b) :
 s0z w d er (.returned (.tuple #[.agg #[.bool d.neg, .slice p (dig B32 d.d).length c, .int .i64 d.pow, .bool d.exact, .bool d.over, .bool d.under], .int .i64 er]))
  ((((((wk.setCell ⟨b, 0, none⟩ (.bool d.neg)).setCell ⟨b, 1, none⟩ (.slice p (dig B32 d.d).length c)).setCell ⟨b, 2, none⟩ (.int .i64 d.pow)).setCell ⟨b, 3, none⟩ (.bool d.exact)).setCell ⟨b, 4, none⟩ (.bool d.over)).setCell ⟨b, 5, none⟩ (.bool d.under)) :=
 ⟨p, c, rfl, (ho.only (o0m wk b _ _ _ _ _ _) hne).mono hb, hs.trans ((o0m wk b _ _ _ _ _ _).below hB)⟩
theorem a1i (a : Rin) (g : Gd) (way : Int) (w : World) (ha : InR w a) :
 Calls Tryz.prog 87 #[.agg #[.bool a.g, .slice a.p a.xs.length a.c, .slice a.q a.ys.length a.d, .int .i64 a.e], .agg #[.int .i64 g.rad, .int .i64 g.digs, .int .i64 g.lo, .int .i64 g.hi, .bool g.grad], .int .i64 way] w (s0z w (k0f a g way) (d0j a g way)) := by
 obtain ⟨er, her⟩ : ∃ er, d0j a g way = er := ⟨_, rfl⟩
 obtain ⟨rv, hrv⟩ : ∃ rv, k0f a g way = rv := ⟨_, rfl⟩
 rw [her, hrv]
 have HER := hi0 her
 have HRV := hi0 hrv
 clear her hrv
 have hz0 : er ≠ 0 → rv = k1n := fun h => by rw [← HRV.out]; unfold k0f; rw [HER.out, if_neg h]
 have HZ0 := hi0 hz0
 clear hz0
 have HCG := fun W => hi0 (g0o g W)
 have HCX := fun W (h : Rd W .u32 a.p a.xs) => hi0 (d0s a.p a.xs.length a.c a.xs W h rfl ha.l1)
 have HCY := fun W (h : Rd W .u32 a.q a.ys) => hi0 (d0s a.q a.ys.length a.d a.ys W h rfl ha.l2)
 obtain ⟨e1, he1⟩ : ∃ e1, a0u a.xs = e1 := ⟨_, rfl⟩
 obtain ⟨e2, he2⟩ : ∃ e2, a0u a.ys = e2 := ⟨_, rfl⟩
 obtain ⟨e3, he3⟩ : ∃ e3, errG g = e3 := ⟨_, rfl⟩
 rw [he1] at HCX
 rw [he2] at HCY
 rw [he3] at HCG
 have HE1 := hi0 he1
 have HE2 := hi0 he2
 have HE3 := hi0 he3
 clear he1 he2 he3
 go_enter Tryz.func87, Tryz.ntmps87
 go_wp2_with fail
 refine g1g (fun W1 hb1 hz1 Q G R L => ?_)
 replace ha := ha.past hb1
 have hs1 := hb1
 go_loopg [9, 10, 18] 2 (fun gk s9 s10 iv wr => ∃ i : Nat, iv = .int .i64 i ∧ gk + i = 2 ∧ Below W1.heap.size W1 wr ∧ Hid (i = 0 ∨ (i = 1 ∧ e1 = 0) ∨ (i = 2 ∧ e1 = 0 ∧ e2 = 0)))
 case atStart => exact ⟨0, rfl, rfl, Below.refl _ _, .inl rfl⟩
 case round =>
  obtain ⟨i, rfl, hgk, hb, HI⟩ := hrel
  have hs2 := hs1.trans (hb.mono hs1.size)
  replace Q := Q.past hb
  replace G := G.past hb
  replace R := R.past hb
  replace L := L.past hb
  replace ha := ha.past hb
  rcases HI.out with rfl | ⟨rfl, h10⟩ | ⟨rfl, h10, h20⟩
  · clear HI
    obtain ⟨L_0, L_1⟩ := L.e2
    go_wp2_with fail
    clear L_0 L_1
    ((with_reducible refine ((HCX _ ha.r1).out).mono ?_))
    rintro e3 w3 ⟨rfl, hb3⟩
    replace Q := Q.past hb3
    replace G := G.past hb3
    replace R := R.past hb3
    replace L := L.past hb3
    replace ha := ha.past hb3
    have hs3 := hs2.trans (hb3.mono hs2.size)
    by_cases h1 : e1 = 0
    · subst h1
      obtain ⟨L_0, L_1⟩ := L.e2
      go_wp2_with fail
      clear L_0 L_1
      go_roundg 1
      case measure => omega
      case rel => exact ⟨1, by go_num, rfl, hb.trans (hb3.mono hb.size), by unfold Hid; simp⟩
    · have t1 : (e1 == 0) = false := bFn h1
      have t2 : (e1 != 0) = true := by rw [bne, t1]; rfl
      have H1 := hi0 h1
      clear h1
      obtain ⟨R_0, R_1, R_2, R_3, R_4, R_5⟩ := R.e6
      have R_f0 := R.f 0
      have R_f1 := R.f 1
      have R_f2 := R.f 2
      have R_f3 := R.f 3
      have R_f4 := R.f 4
      have R_f5 := R.f 5
      go_wp2_with fail
      clear R_0 R_1 R_2 R_3 R_4 R_5 R_f0 R_f1 R_f2 R_f3 R_f4 R_f5
      obtain ⟨R_0, R_1, R_2, R_3, R_4, R_5⟩ := R.e6
      refine bodyPost_ret (v := .tuple #[.agg #[.bool false, .slice none 0 0, .int .i64 0, .bool false, .bool false, .bool false], .int .i64 e1]) (by simp [results, Tryz.results87, go_sem, R_0, R_1, R_2, R_3, R_4, R_5]) rfl ?_
      have e0 : er = e1 := by rw [← HER.out]; unfold d0j g0b; rw [HE1.out, if_pos H1.out, if_pos H1.out]
      subst e0
      exact c0v (HZ0.out H1.out) hs3 (by omega)
  · subst h10
    clear HI
    obtain ⟨L_0, L_1⟩ := L.e2
    go_wp2_with fail
    clear L_0 L_1
    ((with_reducible refine ((HCY _ ha.r2).out).mono ?_))
    rintro e3 w3 ⟨rfl, hb3⟩
    replace Q := Q.past hb3
    replace G := G.past hb3
    replace R := R.past hb3
    replace L := L.past hb3
    replace ha := ha.past hb3
    have hs3 := hs2.trans (hb3.mono hs2.size)
    by_cases h1 : e2 = 0
    · subst h1
      obtain ⟨L_0, L_1⟩ := L.e2
      go_wp2_with fail
      clear L_0 L_1
      go_roundg 0
      case measure => omega
      case rel => exact ⟨2, by go_num, rfl, hb.trans (hb3.mono hb.size), by unfold Hid; simp⟩
    · have t1 : (e2 == 0) = false := bFn h1
      have t2 : (e2 != 0) = true := by rw [bne, t1]; rfl
      have H1 := hi0 h1
      clear h1
      obtain ⟨R_0, R_1, R_2, R_3, R_4, R_5⟩ := R.e6
      have R_f0 := R.f 0
      have R_f1 := R.f 1
      have R_f2 := R.f 2
      have R_f3 := R.f 3
      have R_f4 := R.f 4
      have R_f5 := R.f 5
      go_wp2_with fail
      clear R_0 R_1 R_2 R_3 R_4 R_5 R_f0 R_f1 R_f2 R_f3 R_f4 R_f5
      obtain ⟨R_0, R_1, R_2, R_3, R_4, R_5⟩ := R.e6
      refine bodyPost_ret (v := .tuple #[.agg #[.bool false, .slice none 0 0, .int .i64 0, .bool false, .bool false, .bool false], .int .i64 e2]) (by simp [results, Tryz.results87, go_sem, R_0, R_1, R_2, R_3, R_4, R_5]) rfl ?_
      have e00 : g0b a = e2 := by unfold g0b; rw [HE1.out, HE2.out, if_neg (by simp), if_pos H1.out]
      have e0 : er = e2 := by rw [← HER.out]; unfold d0j; rw [e00, if_pos H1.out]
      subst e0
      exact c0v (HZ0.out H1.out) hs3 (by omega)
  · subst h10 h20
    clear HI
    have HR0 : Hid (g0b a = if a.ys.length = 0 ∨ a.e < -20000 ∨ 20000 < a.e then 3 else 0) := by
     show g0b a = _
     unfold g0b
     rw [HE1.out, HE2.out, if_neg (by simp), if_neg (by simp)]
    by_cases hy : a.ys.length = 0
    · have t1 : ((a.ys.length : Int) == 0) = true := by rw [hy]; rfl
      have e0 : er = 3 := by
       have e00 : g0b a = 3 := HR0.out.trans (if_pos (.inl hy))
       rw [← HER.out]; unfold d0j; rw [e00, if_pos (by omega)]
      subst e0
      clear hy
      obtain ⟨L_0, L_1⟩ := L.e2
      obtain ⟨Q_0, Q_1, Q_2, Q_3⟩ := Q.e4
      go_upto_region 9 with (fail)
      clear L_0 L_1 Q_0 Q_1 Q_2 Q_3
      obtain ⟨R_0, R_1, R_2, R_3, R_4, R_5⟩ := R.e6
      have R_f0 := R.f 0
      have R_f1 := R.f 1
      have R_f2 := R.f 2
      have R_f3 := R.f 3
      have R_f4 := R.f 4
      have R_f5 := R.f 5
      go_wp2_with fail
      clear R_0 R_1 R_2 R_3 R_4 R_5 R_f0 R_f1 R_f2 R_f3 R_f4 R_f5
      obtain ⟨R_0, R_1, R_2, R_3, R_4, R_5⟩ := R.e6
      refine bodyPost_ret (v := .tuple #[.agg #[.bool false, .slice none 0 0, .int .i64 0, .bool false, .bool false, .bool false], .int .i64 3]) (by simp [results, Tryz.results87, go_sem, R_0, R_1, R_2, R_3, R_4, R_5]) rfl ?_
      exact c0v (HZ0.out (by omega)) hs2 (by omega)
    · have t1 : ((a.ys.length : Int) == 0) = false := bFn (by omega)
      by_cases hf : a.e < -20000 ∨ 20000 < a.e
      · have t2 := e0l hf
        have e0 : er = 3 := by
         have e00 : g0b a = 3 := HR0.out.trans (if_pos (.inr hf))
         rw [← HER.out]; unfold d0j; rw [e00, if_pos (by omega)]
        subst e0
        clear hy hf
        obtain ⟨L_0, L_1⟩ := L.e2
        obtain ⟨Q_0, Q_1, Q_2, Q_3⟩ := Q.e4
        go_wp2_with fail
        clear L_0 L_1 Q_0 Q_1 Q_2 Q_3
        ((with_reducible refine ((b0v _ _ _ (by omega))).mono ?_))
        rintro _ _ ⟨rfl, rfl⟩
        obtain ⟨R_0, R_1, R_2, R_3, R_4, R_5⟩ := R.e6
        have R_f0 := R.f 0
        have R_f1 := R.f 1
        have R_f2 := R.f 2
        have R_f3 := R.f 3
        have R_f4 := R.f 4
        have R_f5 := R.f 5
        go_wp2_with fail
        clear R_0 R_1 R_2 R_3 R_4 R_5 R_f0 R_f1 R_f2 R_f3 R_f4 R_f5
        obtain ⟨R_0, R_1, R_2, R_3, R_4, R_5⟩ := R.e6
        refine bodyPost_ret (v := .tuple #[.agg #[.bool false, .slice none 0 0, .int .i64 0, .bool false, .bool false, .bool false], .int .i64 3]) (by simp [results, Tryz.results87, go_sem, R_0, R_1, R_2, R_3, R_4, R_5]) rfl ?_
        exact c0v (HZ0.out (by omega)) hs2 (by omega)
      · have t2 := g0n (n := a.e) (m := 20000) (by omega) (by omega)
        have HR1 : Hid (g0b a = 0) := HR0.out.trans (if_neg (by omega))
        have he1 : -20000 ≤ a.e := by omega
        have he2 : a.e ≤ 20000 := by omega
        have hy1 : 0 < a.ys.length := by omega
        clear hy hf
        obtain ⟨L_0, L_1⟩ := L.e2
        obtain ⟨Q_0, Q_1, Q_2, Q_3⟩ := Q.e4
        go_wp2_with fail
        clear L_0 L_1 Q_0 Q_1 Q_2 Q_3
        ((with_reducible refine ((b0v _ _ _ (by omega))).mono ?_))
        rintro _ _ ⟨rfl, rfl⟩
        obtain ⟨G_0, G_1, G_2, G_3, G_4⟩ := G.e5
        go_wp2_with fail
        clear G_0 G_1 G_2 G_3 G_4
        ((with_reducible refine ((HCG _).out).mono ?_))
        rintro e4 w4 ⟨rfl, hb4⟩
        replace Q := Q.past hb4
        replace G := G.past hb4
        replace R := R.past hb4
        replace L := L.past hb4
        replace ha := ha.past hb4
        have hs4 := hs2.trans (hb4.mono hs2.size)
        by_cases h3 : e3 = 0
        · subst h3
          by_cases hw : way < 1 ∨ 5 < way
          · have t4 := n0s hw
            have e0 : er = 6 := by rw [← HER.out]; unfold d0j; rw [HR1.out, HE3.out, if_neg (by simp), if_neg (by simp), if_pos hw]
            subst e0
            clear hw
            go_wp2_with fail
            ((with_reducible refine (r0b way _).mono ?_))
            rintro e5 w5 ⟨rfl, hb5⟩
            replace Q := Q.past hb5
            replace G := G.past hb5
            replace R := R.past hb5
            replace L := L.past hb5
            replace ha := ha.past hb5
            have hs5 := hs4.trans (hb5.mono hs4.size)
            obtain ⟨R_0, R_1, R_2, R_3, R_4, R_5⟩ := R.e6
            have R_f0 := R.f 0
            have R_f1 := R.f 1
            have R_f2 := R.f 2
            have R_f3 := R.f 3
            have R_f4 := R.f 4
            have R_f5 := R.f 5
            go_wp2_with fail
            clear R_0 R_1 R_2 R_3 R_4 R_5 R_f0 R_f1 R_f2 R_f3 R_f4 R_f5
            obtain ⟨R_0, R_1, R_2, R_3, R_4, R_5⟩ := R.e6
            refine bodyPost_ret (v := .tuple #[.agg #[.bool false, .slice none 0 0, .int .i64 0, .bool false, .bool false, .bool false], .int .i64 6]) (by simp [results, Tryz.results87, go_sem, R_0, R_1, R_2, R_3, R_4, R_5]) rfl ?_
            exact c0v (HZ0.out (by omega)) hs5 (by omega)
          · have t4 := r0a (k := way) (by omega) (by omega)
            have e0 : er = 0 := by rw [← HER.out]; unfold d0j; rw [HR1.out, HE3.out, if_neg (by simp), if_neg (by simp), if_neg hw]
            subst e0
            have hw1 : 1 ≤ way := by omega
            have hw2 : way ≤ 5 := by omega
            clear hw
            go_wp2_with fail
            ((with_reducible refine (r0b way _).mono ?_))
            rintro e5 w5 ⟨rfl, hb5⟩
            replace Q := Q.past hb5
            replace G := G.past hb5
            replace R := R.past hb5
            replace L := L.past hb5
            replace ha := ha.past hb5
            have hs5 := hs4.trans (hb5.mono hs4.size)
            obtain ⟨ex, lx⟩ := f0d ha.b1 HE1.out
            obtain ⟨ey, ly⟩ := f0d ha.b2 HE2.out
            have HRV2 : Hid (rv = a0s a.g (val B32 a.xs) (val B32 a.ys) a.e g way) := by
             show rv = _
             rw [← HRV.out]; unfold k0f; rw [HER.out, if_pos rfl]
            by_cases hx : a.xs.length = 0
            · have t5 : ((a.xs.length : Int) == 0) = true := by rw [hx]; rfl
              have hxs : a.xs = [] := List.eq_nil_of_length_eq_zero hx
              have hrv : rv = ⟨false, 0, 0, true, false, false⟩ := by rw [HRV2.out, hxs]; rfl
              have HRV3 := hi0 hrv
              clear hx hxs hrv ex ey
              obtain ⟨Q_0, Q_1, Q_2, Q_3⟩ := Q.e4
              obtain ⟨R_0, R_1, R_2, R_3, R_4, R_5⟩ := R.e6
              have R_f0 := R.f 0
              have R_f1 := R.f 1
              have R_f2 := R.f 2
              have R_f3 := R.f 3
              have R_f4 := R.f 4
              have R_f5 := R.f 5
              go_wp2_with fail
              clear Q_0 Q_1 Q_2 Q_3 R_0 R_1 R_2 R_3 R_4 R_5 R_f0 R_f1 R_f2 R_f3 R_f4 R_f5
              obtain ⟨R_0, R_1, R_2, R_3, R_4, R_5⟩ := R.e6
              refine bodyPost_ret (v := .tuple #[.agg #[.bool false, .slice none 0 0, .int .i64 0, .bool true, .bool false, .bool false], .int .i64 0]) (by simp [results, Tryz.results87, go_sem, R_0, R_1, R_2, R_3, R_4, R_5]) rfl ?_
              exact c0v HRV3.out hs5 (by omega)
            · have t5 : ((a.xs.length : Int) == 0) = false := bFn (by omega)
              have hnum : 0 < val B32 a.xs := by
               rcases Nat.eq_zero_or_pos (val B32 a.xs) with h | h
               · rw [h, a0f] at ex; rw [ex] at hx; simp at hx
               · exact h
              have hden : 0 < val B32 a.ys := by
               rcases Nat.eq_zero_or_pos (val B32 a.ys) with h | h
               · rw [h, a0f] at ey; rw [ey] at hy1; simp at hy1
               · exact h
              generalize val B32 a.xs = num at *
              generalize val B32 a.ys = den at *
              have GG := b0s HE3.out
              have wp := b0l g
              have hd1 := GG.d1
              have HF := fun W h1 h2 => hi0 (p0h a.g a.p a.q a.c a.d num den a.e g way _ W h1 h2 (by rw [← ex]; omega) (by rw [← ey]; omega) hnum hden ⟨by omega, by omega⟩ GG hw1 hw2 (l0y hnum hden a.e (by omega) (by omega)))
              have hrv : fitK a.g num den a.e g way (theK num den a.e (wid g) g.digs.toNat) = rv := by rw [HRV2.out]; unfold a0s; rw [if_neg (by omega)]
              rw [hrv, ← ex, ← ey] at HF
              clear hrv ex ey hx GG hd1 wp hnum hden
              obtain ⟨Q_0, Q_1, Q_2, Q_3⟩ := Q.e4
              obtain ⟨G_0, G_1, G_2, G_3, G_4⟩ := G.e5
              go_wp2_with fail
              clear Q_0 Q_1 Q_2 Q_3 G_0 G_1 G_2 G_3 G_4
              ((with_reducible refine ((HF _ ha.r1 ha.r2).out).mono ?_))
              rintro e6 w6 ⟨p6, c6, rfl, ho6, hb6⟩
              replace Q := Q.past hb6
              replace G := G.past hb6
              replace R := R.past hb6
              replace L := L.past hb6
              replace ha := ha.past hb6
              have hs6 := hs5.trans (hb6.mono hs5.size)
              obtain ⟨R_0, R_1, R_2, R_3, R_4, R_5⟩ := R.e6
              have R_f0 := R.f 0
              have R_f1 := R.f 1
              have R_f2 := R.f 2
              have R_f3 := R.f 3
              have R_f4 := R.f 4
              have R_f5 := R.f 5
              go_wp2_with fail
              clear R_0 R_1 R_2 R_3 R_4 R_5 R_f0 R_f1 R_f2 R_f3 R_f4 R_f5
              obtain ⟨R_0, R_1, R_2, R_3, R_4, R_5⟩ := R.e6
              refine bodyPost_ret (v := .tuple #[.agg #[.bool rv.neg, .slice p6 (dig B32 rv.d).length c6, .int .i64 rv.pow, .bool rv.exact, .bool rv.over, .bool rv.under], .int .i64 0]) (by simp [results, Tryz.results87, go_sem, R_0, R_1, R_2, R_3, R_4, R_5]) rfl ?_
              have hz5 := hs5.size
              exact p0i hs6 ho6 hz5 (by omega) (fun h => by have := (ho6.blk_lt h).1; have := hb5.size; have := hb4.size; have := hb.size; omega)
        · have t1 : (e3 == 0) = false := bFn h3
          have t2 : (e3 != 0) = true := by rw [bne, t1]; rfl
          have H3 := hi0 h3
          clear h3
          obtain ⟨R_0, R_1, R_2, R_3, R_4, R_5⟩ := R.e6
          have R_f0 := R.f 0
          have R_f1 := R.f 1
          have R_f2 := R.f 2
          have R_f3 := R.f 3
          have R_f4 := R.f 4
          have R_f5 := R.f 5
          go_wp2_with fail
          clear R_0 R_1 R_2 R_3 R_4 R_5 R_f0 R_f1 R_f2 R_f3 R_f4 R_f5
          obtain ⟨R_0, R_1, R_2, R_3, R_4, R_5⟩ := R.e6
          refine bodyPost_ret (v := .tuple #[.agg #[.bool false, .slice none 0 0, .int .i64 0, .bool false, .bool false, .bool false], .int .i64 e3]) (by simp [results, Tryz.results87, go_sem, R_0, R_1, R_2, R_3, R_4, R_5]) rfl ?_
          have e0 : er = e3 := by rw [← HER.out]; unfold d0j; rw [HR1.out, HE3.out, if_neg (by simp), if_pos H3.out]
          subst e0
          exact c0v (HZ0.out H3.out) hs4 (by omega)
end Go.Proofs.YtmacohmclpnphaaGreatDoor
namespace Go.Slip
theorem d1q {d r : Nat} (h0 : 0 < d) (h : d < 65536) : tz (d + 65536 * r) = tz d := by
 obtain ⟨h1, h2⟩ := c0t d h0
 have hle : tz d < 16 := by
  rcases Nat.lt_or_ge (tz d) 16 with h3 | h3
  · exact h3
  · have h4 : 2 ^ 16 ≤ 2 ^ tz d := Nat.pow_le_pow_right (by omega) h3
    have h5 : 0 < d / 2 ^ tz d := by
     rcases Nat.eq_zero_or_pos (d / 2 ^ tz d) with h | h
     · rw [h] at h2; simp at h2
     · exact h
    have h6 := Nat.mul_le_mul_left (2 ^ tz d) h5
    simp only [Nat.succ_eq_add_one, Nat.zero_add, Nat.mul_one] at h6
    omega
 obtain ⟨t, ht⟩ : ∃ t, t = tz d := ⟨_, rfl⟩
 rw [← ht] at h1 h2 hle ⊢
 obtain ⟨s, hs⟩ : ∃ s, 16 = t + (s + 1) := ⟨15 - t, by omega⟩
 have e : d + 65536 * r = (d / 2 ^ t + 2 * (2 ^ s * r)) * 2 ^ t := by
  have e1 : (65536 : Nat) = 2 ^ t * (2 ^ s * 2) := by
   rw [show (65536 : Nat) = 2 ^ 16 by decide, hs, Nat.pow_add, Nat.pow_succ]
  rw [e1, Nat.add_mul]
  conv => lhs; rw [← h1]
  grind
 rw [e]
 exact k0n _ _ (by omega)
theorem d1r {xs : List Nat} {a i : Nat} (ha : val B16 xs = a) (hz : ∀ j, j < i → dg xs j = 0) (hd : 0 < dg xs i) (hl : dg xs i < 65536) : tz a = 16 * i + tz (dg xs i) := by
 have h1 := a0z B16 xs i
 have h2 : val B16 (xs.take i) = 0 := by
  have : xs.take i = List.replicate (xs.take i).length 0 := by
   apply c0j
   · simp
   · intro t ht
     simp only [List.length_take] at ht
     rw [j0n (by omega), c0q, hz t (by omega)]
  rw [this, b0x]
 rw [h2, f0y, Nat.zero_add] at h1
 have e : a = (dg xs i + 65536 * val B16 (xs.drop (i + 1))) * 2 ^ (16 * i) := by
  rw [← ha, h1, Nat.pow_mul, show (2 : Nat) ^ 16 = B16 by decide, Nat.mul_comm]
  rfl
 rw [e, t0u (by omega), d1q hd hl]
 omega
def h0g (xs : List Nat) (j n : Nat) : Prop := n = 16 * j ∧ ∀ i, i < j → dg xs i = 0
theorem h0g.start (xs : List Nat) : h0g xs 0 0 := ⟨rfl, fun i hi => by omega⟩
theorem h0g.step {xs : List Nat} {j n : Nat} (h : h0g xs j n) (hz : dg xs j = 0) : h0g xs (j + 1) (n + 16) :=
 ⟨by have := h.1; omega, fun i hi => by
   by_cases he : i = j
   · subst he; exact hz
   · exact h.2 i (by omega)⟩
theorem h0g.lt {xs : List Nat} {j n m : Nat} (h : h0g xs j n) (hv : val B16 xs = m) (h0 : 0 < m) : j < xs.length := by
 rcases Nat.lt_or_ge j xs.length with h1 | h1
 · exact h1
 · have := l0g (B := B16) (xs := xs) (fun i hi => h.2 i (by omega))
   omega
def m0i (m d n : Nat) : Prop := ∃ t, n + tz d = t ∧ t = tz m ∧ 0 < d
theorem m0i.start {xs : List Nat} {j n m : Nat} (h : h0g xs j n) (hv : val B16 xs = m) (h0 : 0 < dg xs j) (hl : dg xs j < 65536) : m0i m (dg xs j) n :=
 ⟨_, rfl, by rw [d1r hv h.2 h0 hl, h.1], h0⟩
theorem m0i.step {m d n : Nat} (h : m0i m d n) (he : d % 2 = 0) : m0i m (d / 2) (n + 1) := by
 obtain ⟨t, h1, h2, h3⟩ := h
 rw [o0h h3 he] at h1
 exact ⟨t, by omega, h2, by omega⟩
theorem m0i.done {m d n : Nat} (h : m0i m d n) (he : d % 2 = 1) : n = tz m := by
 obtain ⟨t, h1, h2, h3⟩ := h
 rw [q0e he] at h1
 omega
end Go.Slip
namespace Go.Proofs.YtmacohmclpnphaaGreatDoor
open Go.RowKit Go.Slip
theorem k1o (x y : Int) : (if y > x then y else x) = max x y := by split <;> omega
theorem stay {P : Program} {f : FuncId} {args : Array Value} {w : World} {E : Ending} (h : Calls P f args w fun e w' => e = E ∧ w = w') : Calls P f args w fun e w' => e = E ∧ Below w.heap.size w w' :=
 h.mono fun e w' ⟨h1, h2⟩ => ⟨h1, by subst h2; exact Below.refl _ _⟩
theorem a1j {a b : Nat} (h : cmpN a b = 0) : a = b := by
 unfold cmpN at h
 split at h
 · omega
 · split at h <;> omega
theorem k1p {n : Nat} (x : Nat) (hl : (dig B32 x).length ≤ n) : tz x ≤ 32 * n := by
 rcases Nat.eq_zero_or_pos x with h | h
 · rw [h, x0p]; omega
 · have h1 := (c0t x h).1
   have h2 := (a0l a0b x n).1 hl
   have h3 : 2 ^ tz x ≤ x := by
    have : 0 < x / 2 ^ tz x := by
     rcases Nat.eq_zero_or_pos (x / 2 ^ tz x) with h4 | h4
     · rw [h4, Nat.mul_zero] at h1; omega
     · exact h4
    have h5 := Nat.mul_le_mul_left (2 ^ tz x) this
    omega
   rw [show B32 = 2 ^ 32 from rfl, ← Nat.pow_mul] at h2
   have h6 := (Nat.pow_lt_pow_iff_right (a := 2) (by omega)).1 (Nat.lt_of_le_of_lt h3 h2)
   omega
theorem l1y (x : Nat) (hl : (dig B32 x).length ≤ 1000) : tz x ≤ 32000 := k1p x hl
def f1q (w : World) (base : Nat) (d : Dc) (en : Ending) (w' : World) : Prop :=
 ∃ p c, en = .returned (.tuple #[.int .i64 (d.cls : Int), .slice p (dig B32 d.m).length c, .int .i64 d.p]) ∧ Own w' base .u32 141 p c (dig B32 d.m) ∧ Below w.heap.size w w'
theorem d0l {w w' : World} {base : Nat} {k : Nat} {en : Ending} (h : en = .returned (.tuple #[.int .i64 (k : Int), .slice none 0 0, .int .i64 0])) (hb : Below w.heap.size w w') : f1q w base ⟨k, 0, 0⟩ en w' := by
 refine ⟨none, 0, ?_, ?_, hb⟩
 · rw [h, a0f]; rfl
 · rw [a0f]; exact Own.nil _ _ _ _
theorem a1k (f : Fm) (g : Bool) (e x : Nat) (p : Option Addr) (c base : Nat) (w : World) (G : b0g f) (hp : Own w base .u32 141 p c (dig B32 x)) (hb : base ≤ w.heap.size) (he : e < 2 ^ f.E) (hx : x < 2 ^ f.F) :
 Calls Tryz.prog 149 #[.agg #[.int .i64 (f.size : Int), .int .i64 (f.E : Int), .int .i64 (f.F : Int), .int .i64 f.g.rad, .int .i64 f.g.digs, .int .i64 f.g.lo, .int .i64 f.g.hi, .bool f.g.grad, .bool f.hid, .bool f.inf, .bool f.res, .func (.func (ordF f)) #[] #[]], .agg #[.bool g, .int .i64 (e : Int), .slice p (dig B32 x).length c]] w (f1q w base (f.dec g e x)) := by
 have z2 := G.e2
 have z3 := G.f2
 have z4 := G.lo
 have hxl := a0t hx (k := 2) (by omega)
 have hx0 := a0k a0b x
 have h0T : 0 < 2 ^ f.E := Nat.pow_pos (by omega)
 have h0T2 : 2 ^ f.E ≤ 2 ^ 15 := Nat.pow_le_pow_right (by omega) (by omega)
 have HSH := hi0 (o0z (E := f.E) (by omega))
 by_cases f2 : f.fam = 2
 · have hD : f.dec g e x = ⟨2, x, f.g.lo + e⟩ := by unfold Fm.dec; rw [if_pos f2]
   rw [hD]
   generalize 2 ^ f.E = P at *
   have r1 := G.rad
   rw [if_pos f2] at r1
   have I := Inv.start w [ownF base .u32 141 p c (dig B32 x)] ⟨hp, True.intro⟩
   refine a0g [.v (.agg #[.int .i64 (f.size : Int), .int .i64 (f.E : Int), .int .i64 (f.F : Int), .int .i64 f.g.rad, .int .i64 f.g.digs, .int .i64 f.g.lo, .int .i64 f.g.hi, .bool f.g.grad, .bool f.hid, .bool f.inf, .bool f.res, .func (.func (ordF f)) #[] #[]]), .v (.agg #[.bool g, .int .i64 (e : Int), .slice p (dig B32 x).length c])] I Tryz.func149 ?_
   refine zbin I 11 _ (fun _ _ _ _ _ => c0u .i64 (1) .i64 (f.E : Int) ((P : Int)) (by omega) ((HSH.out))) fun Al W I => ?_
   refine zi I 12 .i64 ((P : Int) - 1) (((P - 1 : Nat) : Int)) ((by rw [show ((P : Int) - 1) = ((P - 1 : Nat) : Int) by omega]; exact iwo)) fun Al W I => ?_
   refine zb I 20 (f.g.rad == 16) (true) (beq_iff_eq.2 r1) fun Al W I => ?_
   refine zd [] I fun Al W I => ?_
   refine zk [0, 1, 2, 3, 4] I fun I => ?_
   refine zki 5 I .i64 (f.g.lo + (e : Int)) (f.g.lo + (e : Int)) (iwo) fun I => ?_
   refine zk [6, 7, 8] I fun I => ?_
   exact zret I fun Al W I => ⟨p, c, rfl, I.fa.1, I.below⟩
 · have r1 := G.rad
   rw [if_neg f2] at r1
   have hr : (f.g.rad == 16) = false := by rw [r1]; rfl
   by_cases f1 : f.fam = 1
   · have hinf : f.inf = true := by unfold Fm.inf; rw [f1]; rfl
     have hres : f.res = false := by unfold Fm.res; rw [f1]; rfl
     by_cases hl : e = 2 ^ f.E - 1
     · by_cases hex : f.ext = false
       · have hhid : f.hid = true := by unfold Fm.hid; rw [f1, hex]; rfl
         by_cases h0 : x = 0
         · have hD : f.dec g e x = ⟨3, 0, 0⟩ := by unfold Fm.dec; rw [if_neg f2, if_pos ⟨f1, hl⟩, if_pos (.inl ⟨hex, h0⟩)]
           rw [hD]
           generalize 2 ^ f.E = P at *
           have I := Inv.start w [ownF base .u32 141 p c (dig B32 x)] ⟨hp, True.intro⟩
           refine a0g [.v (.agg #[.int .i64 (f.size : Int), .int .i64 (f.E : Int), .int .i64 (f.F : Int), .int .i64 f.g.rad, .int .i64 f.g.digs, .int .i64 f.g.lo, .int .i64 f.g.hi, .bool f.g.grad, .bool f.hid, .bool f.inf, .bool f.res, .func (.func (ordF f)) #[] #[]]), .v (.agg #[.bool g, .int .i64 (e : Int), .slice p (dig B32 x).length c])] I Tryz.func149 ?_
           refine zbin I 11 _ (fun _ _ _ _ _ => c0u .i64 (1) .i64 (f.E : Int) ((P : Int)) (by omega) ((HSH.out))) fun Al W I => ?_
           refine zi I 12 .i64 ((P : Int) - 1) (((P - 1 : Nat) : Int)) ((by rw [show ((P : Int) - 1) = ((P - 1 : Nat) : Int) by omega]; exact iwo)) fun Al W I => ?_
           refine zb I 20 (f.g.rad == 16) (false) (hr) fun Al W I => ?_
           refine zb I 29 (f.inf) (true) (hinf) fun Al W I => ?_
           refine zb I 34 ((e : Int) == ((P - 1 : Nat) : Int)) (true) (beq_iff_eq.2 (by omega)) fun Al W I => ?_
           refine zd [] I fun Al W I => ?_
           refine zk [0] I fun I => ?_
           refine zkb 1 I (f.hid) (true) (hhid) fun I => ?_
           refine zk [2, 3, 4, 5] I fun I => ?_
           refine zkb 6 I ((((dig B32 x).length : Nat) : Int) == 0) (true) (beq_iff_eq.2 (by omega)) fun I => ?_
           refine zk [7, 8, 9, 10, 11, 12, 13, 14, 15, 16, 17, 18, 19] I fun I => ?_
           exact zret I fun Al W I => d0l (k := 3) rfl I.below
         · have hD : f.dec g e x = ⟨4, 0, 0⟩ := by unfold Fm.dec; rw [if_neg f2, if_pos ⟨f1, hl⟩, if_neg (by simp [hex, h0])]
           rw [hD]
           generalize 2 ^ f.E = P at *
           have I := Inv.start w [ownF base .u32 141 p c (dig B32 x)] ⟨hp, True.intro⟩
           refine a0g [.v (.agg #[.int .i64 (f.size : Int), .int .i64 (f.E : Int), .int .i64 (f.F : Int), .int .i64 f.g.rad, .int .i64 f.g.digs, .int .i64 f.g.lo, .int .i64 f.g.hi, .bool f.g.grad, .bool f.hid, .bool f.inf, .bool f.res, .func (.func (ordF f)) #[] #[]]), .v (.agg #[.bool g, .int .i64 (e : Int), .slice p (dig B32 x).length c])] I Tryz.func149 ?_
           refine zbin I 11 _ (fun _ _ _ _ _ => c0u .i64 (1) .i64 (f.E : Int) ((P : Int)) (by omega) ((HSH.out))) fun Al W I => ?_
           refine zi I 12 .i64 ((P : Int) - 1) (((P - 1 : Nat) : Int)) ((by rw [show ((P : Int) - 1) = ((P - 1 : Nat) : Int) by omega]; exact iwo)) fun Al W I => ?_
           refine zb I 20 (f.g.rad == 16) (false) (hr) fun Al W I => ?_
           refine zb I 29 (f.inf) (true) (hinf) fun Al W I => ?_
           refine zb I 34 ((e : Int) == ((P - 1 : Nat) : Int)) (true) (beq_iff_eq.2 (by omega)) fun Al W I => ?_
           refine zd [] I fun Al W I => ?_
           refine zk [0] I fun I => ?_
           refine zkb 1 I (f.hid) (true) (hhid) fun I => ?_
           refine zk [2, 3, 4, 5] I fun I => ?_
           refine zkb 6 I ((((dig B32 x).length : Nat) : Int) == 0) (false) (bFn (by omega)) fun I => ?_
           refine zk [7, 8, 9] I fun I => ?_
           refine zkb 10 I (f.hid) (true) (hhid) fun I => ?_
           refine zk [11, 12, 13, 14, 15, 16, 17, 18, 19] I fun I => ?_
           exact zret I fun Al W I => d0l (k := 4) rfl I.below
       · have hex : f.ext = true := by simpa using hex
         have hhid : f.hid = false := by unfold Fm.hid; rw [f1, hex]; rfl
         have hl63 : (dig B32 (2 ^ 63)).length ≤ 2 := a0t (n := 64) (by omega) (by omega)
         by_cases h0 : x = 2 ^ 63
         · have hD : f.dec g e x = ⟨3, 0, 0⟩ := by unfold Fm.dec; rw [if_neg f2, if_pos ⟨f1, hl⟩, if_pos (.inr ⟨hex, h0⟩)]
           have hcm : cmpN x (2 ^ 63) = 0 := by rw [h0]; unfold cmpN; simp
           rw [hD]
           generalize 2 ^ f.E = P at *
           have I := Inv.start w [ownF base .u32 141 p c (dig B32 x)] ⟨hp, True.intro⟩
           refine a0g [.v (.agg #[.int .i64 (f.size : Int), .int .i64 (f.E : Int), .int .i64 (f.F : Int), .int .i64 f.g.rad, .int .i64 f.g.digs, .int .i64 f.g.lo, .int .i64 f.g.hi, .bool f.g.grad, .bool f.hid, .bool f.inf, .bool f.res, .func (.func (ordF f)) #[] #[]]), .v (.agg #[.bool g, .int .i64 (e : Int), .slice p (dig B32 x).length c])] I Tryz.func149 ?_
           refine zbin I 11 _ (fun _ _ _ _ _ => c0u .i64 (1) .i64 (f.E : Int) ((P : Int)) (by omega) ((HSH.out))) fun Al W I => ?_
           refine zi I 12 .i64 ((P : Int) - 1) (((P - 1 : Nat) : Int)) ((by rw [show ((P : Int) - 1) = ((P - 1 : Nat) : Int) by omega]; exact iwo)) fun Al W I => ?_
           refine zb I 20 (f.g.rad == 16) (false) (hr) fun Al W I => ?_
           refine zb I 29 (f.inf) (true) (hinf) fun Al W I => ?_
           refine zb I 34 ((e : Int) == ((P - 1 : Nat) : Int)) (true) (beq_iff_eq.2 (by omega)) fun Al W I => ?_
           refine zd [] I fun Al W I => ?_
           refine zk [0] I fun I => ?_
           refine zkb 1 I (f.hid) (false) (hhid) fun I => ?_
           refine zk [2, 3, 4, 5, 6, 7, 8, 9] I fun I => ?_
           refine zkb 10 I (f.hid) (false) (hhid) fun I => ?_
           refine zk [11, 12, 13, 14] I fun I => ?_
           refine zo 15 I fun I => ?_
           refine zqo I (fun Al W I => have hzW := I.bel.size; f0w 63 (2 ^ 63) 63 W (by omega) rfl rfl) fun Al W p51 c51 I => ?_
           refine zo 16 I fun I => ?_
           refine zq I (fun Al W I => have hzW := I.bel.size; d0r p p51 _ _ c c51 x (2 ^ 63) W I.fa.2.1.rd I.fa.1.rd rfl rfl (by omega) (by omega)) fun Al W I => ?_
           refine zkb 17 I ((cmpN x (2 ^ 63)) == 0) (true) (by rw [hcm]; rfl) fun I => ?_
           refine zk [18, 19] I fun I => ?_
           exact zret I fun Al W I => d0l (k := 3) rfl I.below
         · have hD : f.dec g e x = ⟨4, 0, 0⟩ := by unfold Fm.dec; rw [if_neg f2, if_pos ⟨f1, hl⟩, if_neg (by simp [hex]; omega)]
           have hcm : (cmpN x (2 ^ 63) == 0) = false := by rw [beq_eq_false_iff_ne]; intro h; exact h0 (a1j h)
           rw [hD]
           generalize 2 ^ f.E = P at *
           have I := Inv.start w [ownF base .u32 141 p c (dig B32 x)] ⟨hp, True.intro⟩
           refine a0g [.v (.agg #[.int .i64 (f.size : Int), .int .i64 (f.E : Int), .int .i64 (f.F : Int), .int .i64 f.g.rad, .int .i64 f.g.digs, .int .i64 f.g.lo, .int .i64 f.g.hi, .bool f.g.grad, .bool f.hid, .bool f.inf, .bool f.res, .func (.func (ordF f)) #[] #[]]), .v (.agg #[.bool g, .int .i64 (e : Int), .slice p (dig B32 x).length c])] I Tryz.func149 ?_
           refine zbin I 11 _ (fun _ _ _ _ _ => c0u .i64 (1) .i64 (f.E : Int) ((P : Int)) (by omega) ((HSH.out))) fun Al W I => ?_
           refine zi I 12 .i64 ((P : Int) - 1) (((P - 1 : Nat) : Int)) ((by rw [show ((P : Int) - 1) = ((P - 1 : Nat) : Int) by omega]; exact iwo)) fun Al W I => ?_
           refine zb I 20 (f.g.rad == 16) (false) (hr) fun Al W I => ?_
           refine zb I 29 (f.inf) (true) (hinf) fun Al W I => ?_
           refine zb I 34 ((e : Int) == ((P - 1 : Nat) : Int)) (true) (beq_iff_eq.2 (by omega)) fun Al W I => ?_
           refine zd [] I fun Al W I => ?_
           refine zk [0] I fun I => ?_
           refine zkb 1 I (f.hid) (false) (hhid) fun I => ?_
           refine zk [2, 3, 4, 5, 6, 7, 8, 9] I fun I => ?_
           refine zkb 10 I (f.hid) (false) (hhid) fun I => ?_
           refine zk [11, 12, 13, 14] I fun I => ?_
           refine zo 15 I fun I => ?_
           refine zqo I (fun Al W I => have hzW := I.bel.size; f0w 63 (2 ^ 63) 63 W (by omega) rfl rfl) fun Al W p51 c51 I => ?_
           refine zo 16 I fun I => ?_
           refine zq I (fun Al W I => have hzW := I.bel.size; d0r p p51 _ _ c c51 x (2 ^ 63) W I.fa.2.1.rd I.fa.1.rd rfl rfl (by omega) (by omega)) fun Al W I => ?_
           refine zkb 17 I ((cmpN x (2 ^ 63)) == 0) (false) (hcm) fun I => ?_
           refine zk [18, 19] I fun I => ?_
           exact zret I fun Al W I => d0l (k := 4) rfl I.below
     · by_cases h0 : e = 0
       · have hD : f.dec g e x = ⟨2, x, f.g.lo⟩ := by unfold Fm.dec; rw [if_neg f2, if_neg (fun h => hl h.2), if_neg (by omega), if_pos h0]
         rw [hD]
         generalize 2 ^ f.E = P at *
         have I := Inv.start w [ownF base .u32 141 p c (dig B32 x)] ⟨hp, True.intro⟩
         refine a0g [.v (.agg #[.int .i64 (f.size : Int), .int .i64 (f.E : Int), .int .i64 (f.F : Int), .int .i64 f.g.rad, .int .i64 f.g.digs, .int .i64 f.g.lo, .int .i64 f.g.hi, .bool f.g.grad, .bool f.hid, .bool f.inf, .bool f.res, .func (.func (ordF f)) #[] #[]]), .v (.agg #[.bool g, .int .i64 (e : Int), .slice p (dig B32 x).length c])] I Tryz.func149 ?_
         refine zbin I 11 _ (fun _ _ _ _ _ => c0u .i64 (1) .i64 (f.E : Int) ((P : Int)) (by omega) ((HSH.out))) fun Al W I => ?_
         refine zi I 12 .i64 ((P : Int) - 1) (((P - 1 : Nat) : Int)) ((by rw [show ((P : Int) - 1) = ((P - 1 : Nat) : Int) by omega]; exact iwo)) fun Al W I => ?_
         refine zb I 20 (f.g.rad == 16) (false) (hr) fun Al W I => ?_
         refine zb I 29 (f.inf) (true) (hinf) fun Al W I => ?_
         refine zb I 34 ((e : Int) == ((P - 1 : Nat) : Int)) (false) (bFn (by omega)) fun Al W I => ?_
         refine zb I 59 ((e : Int) == 0) (true) (beq_iff_eq.2 (by omega)) fun Al W I => ?_
         refine zb I 62 (f.res) (false) (hres) fun Al W I => ?_
         refine zb I 69 ((e : Int) == 0) (true) (beq_iff_eq.2 (by omega)) fun Al W I => ?_
         refine zd [] I fun Al W I => ?_
         refine zk [0, 1, 2, 3, 4, 5] I fun I => ?_
         exact zret I fun Al W I => ⟨p, c, rfl, I.fa.1, I.below⟩
       · by_cases hex : f.ext = false
         · have hhid : f.hid = true := by unfold Fm.hid; rw [f1, hex]; rfl
           have hD : f.dec g e x = ⟨2, x + 2 ^ f.F, f.g.lo + e - 1⟩ := by unfold Fm.dec; rw [if_neg f2, if_neg (fun h => hl h.2), if_neg (by omega), if_neg h0, if_pos hex]
           have hlF : (dig B32 (2 ^ f.F)).length ≤ 3 := a0t (n := f.F + 1) (Nat.pow_lt_pow_right (by omega) (by omega)) (by omega)
           rw [hD]
           generalize 2 ^ f.E = P at *
           have I := Inv.start w [ownF base .u32 141 p c (dig B32 x)] ⟨hp, True.intro⟩
           refine a0g [.v (.agg #[.int .i64 (f.size : Int), .int .i64 (f.E : Int), .int .i64 (f.F : Int), .int .i64 f.g.rad, .int .i64 f.g.digs, .int .i64 f.g.lo, .int .i64 f.g.hi, .bool f.g.grad, .bool f.hid, .bool f.inf, .bool f.res, .func (.func (ordF f)) #[] #[]]), .v (.agg #[.bool g, .int .i64 (e : Int), .slice p (dig B32 x).length c])] I Tryz.func149 ?_
           refine zbin I 11 _ (fun _ _ _ _ _ => c0u .i64 (1) .i64 (f.E : Int) ((P : Int)) (by omega) ((HSH.out))) fun Al W I => ?_
           refine zi I 12 .i64 ((P : Int) - 1) (((P - 1 : Nat) : Int)) ((by rw [show ((P : Int) - 1) = ((P - 1 : Nat) : Int) by omega]; exact iwo)) fun Al W I => ?_
           refine zb I 20 (f.g.rad == 16) (false) (hr) fun Al W I => ?_
           refine zb I 29 (f.inf) (true) (hinf) fun Al W I => ?_
           refine zb I 34 ((e : Int) == ((P - 1 : Nat) : Int)) (false) (bFn (by omega)) fun Al W I => ?_
           refine zb I 59 ((e : Int) == 0) (false) (bFn (by omega)) fun Al W I => ?_
           refine zb I 69 ((e : Int) == 0) (false) (bFn (by omega)) fun Al W I => ?_
           refine zb I 75 (f.hid) (true) (hhid) fun Al W I => ?_
           refine zd [] I fun Al W I => ?_
           refine zk [0, 1, 2, 3, 6, 7, 8] I fun I => ?_
           refine zki 9 I .i64 (f.g.lo + (e : Int)) (f.g.lo + (e : Int)) (iwo) fun I => ?_
           refine zki 10 I .i64 ((f.g.lo + (e : Int)) - 1) ((f.g.lo + (e : Int)) - 1) (iwo) fun I => ?_
           refine zo 4 I fun I => ?_
           refine zqo I (fun Al W I => have hzW := I.bel.size; f0w f.F (2 ^ f.F) _ W (by omega) rfl rfl) fun Al W p80 c80 I => ?_
           refine zo 5 I fun I => ?_
           refine zqo I (fun Al W I => have hzW := I.bel.size; sadd p p80 _ _ c c80 x (2 ^ f.F) (x + 2 ^ f.F) W I.fa.2.1.rd I.fa.1.rd rfl rfl (by omega) (by omega) rfl) fun Al W p81 c81 I => ?_
           refine zk [11, 12, 13] I fun I => ?_
           exact zret I fun Al W I => ⟨p81, c81, rfl, I.fa.1.mono (by omega), I.below⟩
         · have hex : f.ext = true := by simpa using hex
           have hhid : f.hid = false := by unfold Fm.hid; rw [f1, hex]; rfl
           by_cases h63 : x < 2 ^ 63
           · have hD : f.dec g e x = ⟨4, 0, 0⟩ := by unfold Fm.dec; rw [if_neg f2, if_neg (fun h => hl h.2), if_neg (by omega), if_neg h0, if_neg (by simp [hex]), if_pos h63]
             have hbl : blen x < 64 := by have := (b0e x 63).2 h63; omega
             rw [hD]
             generalize 2 ^ f.E = P at *
             have I := Inv.start w [ownF base .u32 141 p c (dig B32 x)] ⟨hp, True.intro⟩
             refine a0g [.v (.agg #[.int .i64 (f.size : Int), .int .i64 (f.E : Int), .int .i64 (f.F : Int), .int .i64 f.g.rad, .int .i64 f.g.digs, .int .i64 f.g.lo, .int .i64 f.g.hi, .bool f.g.grad, .bool f.hid, .bool f.inf, .bool f.res, .func (.func (ordF f)) #[] #[]]), .v (.agg #[.bool g, .int .i64 (e : Int), .slice p (dig B32 x).length c])] I Tryz.func149 ?_
             refine zbin I 11 _ (fun _ _ _ _ _ => c0u .i64 (1) .i64 (f.E : Int) ((P : Int)) (by omega) ((HSH.out))) fun Al W I => ?_
             refine zi I 12 .i64 ((P : Int) - 1) (((P - 1 : Nat) : Int)) ((by rw [show ((P : Int) - 1) = ((P - 1 : Nat) : Int) by omega]; exact iwo)) fun Al W I => ?_
             refine zb I 20 (f.g.rad == 16) (false) (hr) fun Al W I => ?_
             refine zb I 29 (f.inf) (true) (hinf) fun Al W I => ?_
             refine zb I 34 ((e : Int) == ((P - 1 : Nat) : Int)) (false) (bFn (by omega)) fun Al W I => ?_
             refine zb I 59 ((e : Int) == 0) (false) (bFn (by omega)) fun Al W I => ?_
             refine zb I 69 ((e : Int) == 0) (false) (bFn (by omega)) fun Al W I => ?_
             refine zb I 75 (f.hid) (false) (hhid) fun Al W I => ?_
             refine zq I (fun Al W I => have hzW := I.bel.size; stay (f0i p _ c x W I.fa.1.rd rfl (by omega))) fun Al W I => ?_
             refine zb I 91 (decide (((blen x : Nat) : Int) < 64)) (true) (dTr (by omega)) fun Al W I => ?_
             exact zret I fun Al W I => d0l (k := 4) rfl I.below
           · have hD : f.dec g e x = ⟨2, x, f.g.lo + e - 1⟩ := by unfold Fm.dec; rw [if_neg f2, if_neg (fun h => hl h.2), if_neg (by omega), if_neg h0, if_neg (by simp [hex]), if_neg h63]
             have hbl : 64 ≤ blen x := by have := (b0e x 63).1; omega
             rw [hD]
             generalize 2 ^ f.E = P at *
             have I := Inv.start w [ownF base .u32 141 p c (dig B32 x)] ⟨hp, True.intro⟩
             refine a0g [.v (.agg #[.int .i64 (f.size : Int), .int .i64 (f.E : Int), .int .i64 (f.F : Int), .int .i64 f.g.rad, .int .i64 f.g.digs, .int .i64 f.g.lo, .int .i64 f.g.hi, .bool f.g.grad, .bool f.hid, .bool f.inf, .bool f.res, .func (.func (ordF f)) #[] #[]]), .v (.agg #[.bool g, .int .i64 (e : Int), .slice p (dig B32 x).length c])] I Tryz.func149 ?_
             refine zbin I 11 _ (fun _ _ _ _ _ => c0u .i64 (1) .i64 (f.E : Int) ((P : Int)) (by omega) ((HSH.out))) fun Al W I => ?_
             refine zi I 12 .i64 ((P : Int) - 1) (((P - 1 : Nat) : Int)) ((by rw [show ((P : Int) - 1) = ((P - 1 : Nat) : Int) by omega]; exact iwo)) fun Al W I => ?_
             refine zb I 20 (f.g.rad == 16) (false) (hr) fun Al W I => ?_
             refine zb I 29 (f.inf) (true) (hinf) fun Al W I => ?_
             refine zb I 34 ((e : Int) == ((P - 1 : Nat) : Int)) (false) (bFn (by omega)) fun Al W I => ?_
             refine zb I 59 ((e : Int) == 0) (false) (bFn (by omega)) fun Al W I => ?_
             refine zb I 69 ((e : Int) == 0) (false) (bFn (by omega)) fun Al W I => ?_
             refine zb I 75 (f.hid) (false) (hhid) fun Al W I => ?_
             refine zq I (fun Al W I => have hzW := I.bel.size; stay (f0i p _ c x W I.fa.1.rd rfl (by omega))) fun Al W I => ?_
             refine zb I 91 (decide (((blen x : Nat) : Int) < 64)) (false) (dFa (by omega)) fun Al W I => ?_
             refine zd [] I fun Al W I => ?_
             refine zk [0, 1, 2, 3, 4] I fun I => ?_
             refine zki 5 I .i64 (f.g.lo + (e : Int)) (f.g.lo + (e : Int)) (iwo) fun I => ?_
             refine zki 6 I .i64 ((f.g.lo + (e : Int)) - 1) ((f.g.lo + (e : Int)) - 1) (iwo) fun I => ?_
             refine zk [7, 8, 9] I fun I => ?_
             exact zret I fun Al W I => ⟨p, c, rfl, I.fa.1, I.below⟩
   · have f3 : f.fam = 3 := by have := G.fam; omega
     have hex : f.ext = false := by
      cases hh : f.ext with
      | false => rfl
      | true => exact absurd (G.ext hh).1 f1
     have hinf : f.inf = false := by unfold Fm.inf; rw [f3]; rfl
     have hres : f.res = true := by unfold Fm.res; rw [f3]; rfl
     have hhid : f.hid = true := by unfold Fm.hid; rw [f3, hex]; rfl
     by_cases h0 : e = 0
     · cases g with
       | true =>
        have hD : f.dec true e x = ⟨5, 0, 0⟩ := by unfold Fm.dec; rw [if_neg f2, if_neg (fun h => f1 h.1), if_pos ⟨f3, h0⟩, if_pos rfl]
        rw [hD]
        generalize 2 ^ f.E = P at *
        have I := Inv.start w [] True.intro
        refine a0g [.v (.agg #[.int .i64 (f.size : Int), .int .i64 (f.E : Int), .int .i64 (f.F : Int), .int .i64 f.g.rad, .int .i64 f.g.digs, .int .i64 f.g.lo, .int .i64 f.g.hi, .bool f.g.grad, .bool f.hid, .bool f.inf, .bool f.res, .func (.func (ordF f)) #[] #[]]), .v (.agg #[.bool true, .int .i64 (e : Int), .slice p (dig B32 x).length c])] I Tryz.func149 ?_
        refine zbin I 11 _ (fun _ _ _ _ _ => c0u .i64 (1) .i64 (f.E : Int) ((P : Int)) (by omega) ((HSH.out))) fun Al W I => ?_
        refine zi I 12 .i64 ((P : Int) - 1) (((P - 1 : Nat) : Int)) ((by rw [show ((P : Int) - 1) = ((P - 1 : Nat) : Int) by omega]; exact iwo)) fun Al W I => ?_
        refine zb I 20 (f.g.rad == 16) (false) (hr) fun Al W I => ?_
        refine zb I 29 (f.inf) (false) (hinf) fun Al W I => ?_
        refine zb I 59 ((e : Int) == 0) (true) (beq_iff_eq.2 (by omega)) fun Al W I => ?_
        refine zb I 62 (f.res) (true) (hres) fun Al W I => ?_
        exact zret I fun Al W I => d0l (k := 5) rfl I.below
       | false =>
        have hD : f.dec false e x = ⟨1, 0, 0⟩ := by unfold Fm.dec; rw [if_neg f2, if_neg (fun h => f1 h.1), if_pos ⟨f3, h0⟩, if_neg (by simp)]
        rw [hD]
        generalize 2 ^ f.E = P at *
        have hT3 : e0a Tryz.prog 3 := c0p (by kernel_rfl) (by kernel_rfl)
        have hT4 : e0a Tryz.prog 4 := c0p (by kernel_rfl) (by kernel_rfl)
        refine calls_of_wp Tryz.func149 rfl ?_
        refine b0d (a' := ⟨((.agg #[.int .i64 (f.size : Int), .int .i64 (f.E : Int), .int .i64 (f.F : Int), .int .i64 f.g.rad, .int .i64 f.g.digs, .int .i64 f.g.lo, .int .i64 f.g.hi, .bool f.g.grad, .bool f.hid, .bool f.inf, .bool f.res, .func (.func (ordF f)) #[] #[]]) :: (.agg #[.bool false, .int .i64 (e : Int), .slice p (dig B32 x).length c]) :: us 97 []).toArray, []⟩) (by kernel_rfl) ?_
        refine ye ?_
        refine yw 0 rfl 2 #[.int .i64 (f.size : Int), .int .i64 (f.E : Int), .int .i64 (f.F : Int), .int .i64 f.g.rad, .int .i64 f.g.digs, .int .i64 f.g.lo, .int .i64 f.g.hi, .bool f.g.grad, .bool f.hid, .bool f.inf, .bool f.res, .func (.func (ordF f)) #[] #[]] 146 (fun V1 hbV1 hzV1 b2 => ?_)
        refine yw 0 rfl 3 #[.bool false, .int .i64 (e : Int), .slice p (dig B32 x).length c] 157 (fun V2 hbV2 hzV2 b3 => ?_)
        refine yzt 3 ?_
        refine ye ?_
        replace b2 := (b2.past hbV2)
        refine yl 1 rfl 10 b2 hT3 1 ?_
        refine yv 0 rfl 11 (.int .i64 (P : Int)) ?_ (k0v (X := (1)) (Y := (f.E : Int)) (k2 := .i64) (P : Int) (by kernel_rfl) (by kernel_rfl) (by omega) ((HSH.out)))
        refine ya 0 rfl 12 .i64 ((P : Int) - 1) (((P - 1 : Nat) : Int)) ((by rw [show ((P : Int) - 1) = ((P - 1 : Nat) : Int) by omega]; exact iwo)) ?_
        refine yzt 1 ?_
        refine ye ?_
        refine yl 2 rfl 15 b2 hT3 5 ?_
        refine yzt 1 ?_
        refine wp_seq ?_
        refine wp_block ?_
        refine ye ?_
        refine yl 2 rfl 19 b2 hT3 3 ?_
        refine yb 0 rfl 20 (f.g.rad == 16) (false) (hr) ?_
        refine yzt 1 ?_
        refine yF ?_
        refine ye ?_
        refine ylb 1 rfl 29 b2 hT4 9 (f.inf) false (hinf) ?_
        refine yzt 7 ?_
        refine yF ?_
        refine ye ?_
        refine yl 1 rfl 58 b3 hT3 1 ?_
        refine yb 0 rfl 59 ((e : Int) == 0) (true) (beq_iff_eq.2 (by omega)) ?_
        refine ylb 2 rfl 62 b2 hT4 10 (f.res) true (hres) ?_
        refine yzt 2 ?_
        refine yT ?_
        refine wp_seq ?_
        refine ye ?_
        refine yl 1 rfl 65 b3 hT4 0 ?_
        refine yzt 0 ?_
        refine yF ?_
        refine wp_skip ?_
        refine b0f ?_
        refine yq ?_
        refine wp_ret ?_
        repeat (first | with_reducible refine a0x ?_ | with_reducible refine a0r ?_)
        refine yret (.tuple #[.int .i64 1, .slice none 0 0, .int .i64 0]) (res3 Tryz.results149 rvt rvt rvt) ?_
        exact d0l (k := 1) rfl (a0h hbV1 hbV2)
     · have hD : f.dec g e x = ⟨2, x + 2 ^ f.F, f.g.lo + e - 1⟩ := by unfold Fm.dec; rw [if_neg f2, if_neg (fun h => f1 h.1), if_neg (fun h => h0 h.2), if_neg h0, if_pos hex]
       have hlF : (dig B32 (2 ^ f.F)).length ≤ 3 := a0t (n := f.F + 1) (Nat.pow_lt_pow_right (by omega) (by omega)) (by omega)
       rw [hD]
       generalize 2 ^ f.E = P at *
       have I := Inv.start w [ownF base .u32 141 p c (dig B32 x)] ⟨hp, True.intro⟩
       refine a0g [.v (.agg #[.int .i64 (f.size : Int), .int .i64 (f.E : Int), .int .i64 (f.F : Int), .int .i64 f.g.rad, .int .i64 f.g.digs, .int .i64 f.g.lo, .int .i64 f.g.hi, .bool f.g.grad, .bool f.hid, .bool f.inf, .bool f.res, .func (.func (ordF f)) #[] #[]]), .v (.agg #[.bool g, .int .i64 (e : Int), .slice p (dig B32 x).length c])] I Tryz.func149 ?_
       refine zbin I 11 _ (fun _ _ _ _ _ => c0u .i64 (1) .i64 (f.E : Int) ((P : Int)) (by omega) ((HSH.out))) fun Al W I => ?_
       refine zi I 12 .i64 ((P : Int) - 1) (((P - 1 : Nat) : Int)) ((by rw [show ((P : Int) - 1) = ((P - 1 : Nat) : Int) by omega]; exact iwo)) fun Al W I => ?_
       refine zb I 20 (f.g.rad == 16) (false) (hr) fun Al W I => ?_
       refine zb I 29 (f.inf) (false) (hinf) fun Al W I => ?_
       refine zb I 59 ((e : Int) == 0) (false) (bFn (by omega)) fun Al W I => ?_
       refine zb I 69 ((e : Int) == 0) (false) (bFn (by omega)) fun Al W I => ?_
       refine zb I 75 (f.hid) (true) (hhid) fun Al W I => ?_
       refine zd [] I fun Al W I => ?_
       refine zk [0, 1, 2, 3, 6, 7, 8] I fun I => ?_
       refine zki 9 I .i64 (f.g.lo + (e : Int)) (f.g.lo + (e : Int)) (iwo) fun I => ?_
       refine zki 10 I .i64 ((f.g.lo + (e : Int)) - 1) ((f.g.lo + (e : Int)) - 1) (iwo) fun I => ?_
       refine zo 4 I fun I => ?_
       refine zqo I (fun Al W I => have hzW := I.bel.size; f0w f.F (2 ^ f.F) _ W (by omega) rfl rfl) fun Al W p80 c80 I => ?_
       refine zo 5 I fun I => ?_
       refine zqo I (fun Al W I => have hzW := I.bel.size; sadd p p80 _ _ c c80 x (2 ^ f.F) (x + 2 ^ f.F) W I.fa.2.1.rd I.fa.1.rd rfl rfl (by omega) (by omega) rfl) fun Al W p81 c81 I => ?_
       refine zk [11, 12, 13] I fun I => ?_
       exact zret I fun Al W I => ⟨p81, c81, rfl, I.fa.1.mono (by omega), I.below⟩
theorem a1l (p : Option Addr) (c x : Nat) (pw : Int) (gg : Gd) (base : Nat) (w : World) (hp : Own w base .u32 141 p c (dig B32 x)) (hl : (dig B32 x).length ≤ 1000) (hpw : -100000 ≤ pw ∧ pw ≤ 100000) (hr : gg.rad = 2 ∨ gg.rad = 16) (hT : TabW w) :
 Calls Tryz.prog 150 #[.slice p (dig B32 x).length c, .int .i64 pw, .int .i64 gg.rad] w
  fun en w' => ∃ q d, en = .returned (.tuple #[.slice q (dig B32 (x / 2 ^ (tz x / wid gg * wid gg))).length d, .int .i64 (pw + (tz x / wid gg : Nat))]) ∧ Own w' w.heap.size .u32 141 q d (dig B32 (x / 2 ^ (tz x / wid gg * wid gg))) ∧ Below w.heap.size w w' := by
 have hz := l1y x hl
 rcases hr with hr | hr
 · have hw : wid gg = 1 := by unfold wid; rw [hr]; rfl
   rw [hw]
   generalize htz : tz x = z at *
   have HTZ := hi0 htz
   clear htz
   have I := Inv.start w [ownF base .u32 141 p c (dig B32 x), tabF] ⟨hp, hT, True.intro⟩
   refine a0g [.v (.slice p (dig B32 x).length c), .v (.int .i64 pw), .v (.int .i64 gg.rad)] I Tryz.func150 ?_
   refine zb I 11 (gg.rad == 16) (false) (by rw [hr]; rfl) fun Al W I => ?_
   refine zq I (fun Al W I => have hzW := I.bel.size; stay (l0h p _ c x W I.fa.1.rd rfl (by omega) I.fa.2.1)) fun Al W I => ?_
   refine zbin I 15 _ (fun _ _ _ _ _ => s0o .i64 ((tz x : Nat) : Int) (1) (((z / 1 : Nat) : Int)) ((by decide)) ((by rw [HTZ.out]; exact (IntWalk.i64_in _ (by simp; omega)).trans (by simp)))) fun Al W I => ?_
   refine zi I 19 .i64 (((z / 1 : Nat) : Int) * 1) (((z / 1 * 1 : Nat) : Int)) (((iwo).trans (by omega))) fun Al W I => ?_
   refine zqo I (fun Al W I => have hzW := I.bel.size; sshr p _ c x (z / 1 * 1) _ _ W I.fa.1.rd rfl (by have := I.fa.1.le_cap; omega) (by omega) (by omega) rfl rfl) fun Al W p20 c20 I => ?_
   refine zi I 23 .i64 (pw + ((z / 1 : Nat) : Int)) (pw + ((z / 1 : Nat) : Int)) (iwo) fun Al W I => ?_
   exact zret I fun Al W I => ⟨p20, c20, rfl, I.fa.1.mono (by omega), I.below⟩
 · have hw : wid gg = 4 := by unfold wid; rw [hr]; rfl
   rw [hw]
   generalize htz : tz x = z at *
   have HTZ := hi0 htz
   clear htz
   have I := Inv.start w [ownF base .u32 141 p c (dig B32 x), tabF] ⟨hp, hT, True.intro⟩
   refine a0g [.v (.slice p (dig B32 x).length c), .v (.int .i64 pw), .v (.int .i64 gg.rad)] I Tryz.func150 ?_
   refine zb I 11 (gg.rad == 16) (true) (by rw [hr]; rfl) fun Al W I => ?_
   refine zq I (fun Al W I => have hzW := I.bel.size; stay (l0h p _ c x W I.fa.1.rd rfl (by omega) I.fa.2.1)) fun Al W I => ?_
   refine zbin I 15 _ (fun _ _ _ _ _ => s0o .i64 ((tz x : Nat) : Int) (4) (((z / 4 : Nat) : Int)) ((by decide)) ((by rw [HTZ.out, show (z : Int).tdiv 4 = ((z / 4 : Nat) : Int) by rw [Int.tdiv_eq_ediv_of_nonneg (by omega)]; rfl]; exact iwo))) fun Al W I => ?_
   refine zi I 19 .i64 (((z / 4 : Nat) : Int) * 4) (((z / 4 * 4 : Nat) : Int)) (((iwo).trans (by omega))) fun Al W I => ?_
   refine zqo I (fun Al W I => have hzW := I.bel.size; sshr p _ c x (z / 4 * 4) _ _ W I.fa.1.rd rfl (by have := I.fa.1.le_cap; omega) (by omega) (by omega) rfl rfl) fun Al W p20 c20 I => ?_
   refine zi I 23 .i64 (pw + ((z / 4 : Nat) : Int)) (pw + ((z / 4 : Nat) : Int)) (iwo) fun Al W I => ?_
   exact zret I fun Al W I => ⟨p20, c20, rfl, I.fa.1.mono (by omega), I.below⟩
def t0a (w : World) (v : Vl) (g : Bool) (en : Ending) (w' : World) : Prop :=
 ∃ p c, en = .returned (.tuple #[.agg #[.int .i64 (v.cls : Int), .bool v.neg, .slice p (dig B32 v.d).length c, .int .i64 v.pow], .bool g]) ∧ Own w' w.heap.size .u32 141 p c (dig B32 v.d) ∧ Below w.heap.size w w'
theorem n0t {w w' : World} {v : Vl} {k : Nat} {n g : Bool} {p : Option Addr} {c d base : Nat} {x : Int} {en : Ending} (hv : v = ⟨k, n, d, x⟩) (h : en = .returned (.tuple #[.agg #[.int .i64 (k : Int), .bool n, .slice p (dig B32 d).length c, .int .i64 x], .bool g]))
 (ho : Own w' base .u32 141 p c (dig B32 d)) (hB : w.heap.size ≤ base) (hb : Below w.heap.size w w') : t0a w v g en w' := by
 subst hv
 exact ⟨p, c, h, ho.mono hB, hb⟩
theorem e0m {w w' : World} {v : Vl} {k : Nat} {n g : Bool} {en : Ending} (hv : v = ⟨k, n, 0, 0⟩) (h : en = .returned (.tuple #[.agg #[.int .i64 (k : Int), .bool n, .slice none 0 0, .int .i64 0], .bool g])) (hb : Below w.heap.size w w') : t0a w v g en w' :=
 n0t (p := none) (c := 0) (base := w.heap.size) hv (by rw [h, a0f]; rfl) (by rw [a0f]; exact Own.nil _ _ _ _) (Nat.le_refl _) hb
theorem w0l (f : Fm) (s : ByteArray) (w : World) (G : b0g f) (hs : s.size = f.size) (hT : TabW w) :
 Calls Tryz.prog 98 #[.agg #[.int .i64 (f.size : Int), .int .i64 (f.E : Int), .int .i64 (f.F : Int), .int .i64 f.g.rad, .int .i64 f.g.digs, .int .i64 f.g.lo, .int .i64 f.g.hi, .bool f.g.grad, .bool f.hid, .bool f.inf, .bool f.res, .func (.func (ordF f)) #[] #[]], .string s] w (t0a w (f.valN (a0w f s)) (f.neg (a0w f s))) := by
 have z2 := G.f2
 have he : f.exp (a0w f s) < 2 ^ f.E := Nat.mod_lt _ (Nat.pow_pos (by omega))
 have hx : f.frac (a0w f s) < 2 ^ f.F := Nat.mod_lt _ (Nat.pow_pos (by omega))
 have HS := fun W => hi0 (a1c f s W G hs)
 unfold Fm.valN Fm.decN
 generalize f.neg (a0w f s) = g at *
 generalize f.exp (a0w f s) = e at *
 generalize f.frac (a0w f s) = x at *
 have HV := fun p c base W h1 h2 => hi0 (a1k f g e x p c base W G h1 h2 he hx)
 have k1 := z0s f g e x
 have k2 := h1l (f := f) g (e := e) hx
 have k3 := k1c G g (frac := x) he
 have k4 := a0t k2 (k := 3) (by omega)
 have hrd : f.g.rad = 2 ∨ f.g.rad = 16 := by have := G.rad; split at this <;> omega
 clear k2
 generalize f.dec g e x = D at *
 obtain ⟨k, m, pw⟩ := D
 simp only at k1 k3 k4
 have hm0 := a0k a0b m
 rcases k1 with rfl | rfl | rfl | rfl | rfl
 · have hv : f.vl g ⟨1, m, pw⟩ = ⟨1, g, 0, 0⟩ := by unfold Fm.vl Dc.c; simp
   have I := Inv.start w [tabF] ⟨hT, True.intro⟩
   refine a0g [.v (.agg #[.int .i64 (f.size : Int), .int .i64 (f.E : Int), .int .i64 (f.F : Int), .int .i64 f.g.rad, .int .i64 f.g.digs, .int .i64 f.g.lo, .int .i64 f.g.hi, .bool f.g.grad, .bool f.hid, .bool f.inf, .bool f.res, .func (.func (ordF f)) #[] #[]]), .v (.string s)] I Tryz.func98 ?_
   refine zqo I (fun Al W I => (HS W).out) fun Al W p13 c13 I => ?_
   refine zqo I (fun Al W I => have hzW := I.bel.size; (HV p13 c13 _ W I.fa.1 (by omega)).out) fun Al W p17 c17 I => ?_
   refine zd [1] I fun Al W I => ?_
   refine zk [0, 1, 2] I fun I => ?_
   refine zo 3 I fun I => ?_
   refine zn I fun Al W I => ?_
   refine zk [4] I fun I => ?_
   exact zret I fun Al W I => e0m hv rfl I.below
 · by_cases h0 : m = 0
   · have hv : f.vl g ⟨2, m, pw⟩ = ⟨1, g, 0, 0⟩ := by unfold Fm.vl Dc.c; simp [h0]
     have I := Inv.start w [tabF] ⟨hT, True.intro⟩
     refine a0g [.v (.agg #[.int .i64 (f.size : Int), .int .i64 (f.E : Int), .int .i64 (f.F : Int), .int .i64 f.g.rad, .int .i64 f.g.digs, .int .i64 f.g.lo, .int .i64 f.g.hi, .bool f.g.grad, .bool f.hid, .bool f.inf, .bool f.res, .func (.func (ordF f)) #[] #[]]), .v (.string s)] I Tryz.func98 ?_
     refine zqo I (fun Al W I => (HS W).out) fun Al W p13 c13 I => ?_
     refine zqo I (fun Al W I => have hzW := I.bel.size; (HV p13 c13 _ W I.fa.1 (by omega)).out) fun Al W p17 c17 I => ?_
     refine zb I 28 ((((dig B32 m).length : Nat) : Int) == 0) (true) (beq_iff_eq.2 (by omega)) fun Al W I => ?_
     refine zd [1] I fun Al W I => ?_
     refine zk [0, 1, 2] I fun I => ?_
     refine zo 3 I fun I => ?_
     refine zn I fun Al W I => ?_
     refine zk [4] I fun I => ?_
     exact zret I fun Al W I => e0m hv rfl I.below
   · have hv : f.vl g ⟨2, m, pw⟩ = ⟨2, g, m / 2 ^ (tz m / wid f.g * wid f.g), pw + (tz m / wid f.g : Nat)⟩ := by unfold Fm.vl Dc.c; simp [h0]
     have HB := fun p c base W h1 hT => hi0 (a1l p c m pw f.g base W h1 (by omega) (by omega) hrd hT)
     generalize m / 2 ^ (tz m / wid f.g * wid f.g) = mm at *
     generalize pw + ((tz m / wid f.g : Nat) : Int) = pp at *
     have I := Inv.start w [tabF] ⟨hT, True.intro⟩
     refine a0g [.v (.agg #[.int .i64 (f.size : Int), .int .i64 (f.E : Int), .int .i64 (f.F : Int), .int .i64 f.g.rad, .int .i64 f.g.digs, .int .i64 f.g.lo, .int .i64 f.g.hi, .bool f.g.grad, .bool f.hid, .bool f.inf, .bool f.res, .func (.func (ordF f)) #[] #[]]), .v (.string s)] I Tryz.func98 ?_
     refine zqo I (fun Al W I => (HS W).out) fun Al W p13 c13 I => ?_
     refine zqo I (fun Al W I => have hzW := I.bel.size; (HV p13 c13 _ W I.fa.1 (by omega)).out) fun Al W p17 c17 I => ?_
     refine zb I 28 ((((dig B32 m).length : Nat) : Int) == 0) (false) (bFn (by omega)) fun Al W I => ?_
     refine zqo I (fun Al W I => (HB p17 c17 _ W I.fa.1 I.fa.2.2.1).out) fun Al W q44 d44 I => ?_
     refine zd [1] I fun Al W I => ?_
     refine zk [0, 1, 2] I fun I => ?_
     refine zo 3 I fun I => ?_
     refine zn I fun Al W I => ?_
     refine zk [4] I fun I => ?_
     exact zret I fun Al W I => n0t hv rfl I.fa.1 (by omega) I.below
 · have hv : f.vl g ⟨3, m, pw⟩ = ⟨3, g, 0, 0⟩ := by unfold Fm.vl Dc.c; simp
   have I := Inv.start w [tabF] ⟨hT, True.intro⟩
   refine a0g [.v (.agg #[.int .i64 (f.size : Int), .int .i64 (f.E : Int), .int .i64 (f.F : Int), .int .i64 f.g.rad, .int .i64 f.g.digs, .int .i64 f.g.lo, .int .i64 f.g.hi, .bool f.g.grad, .bool f.hid, .bool f.inf, .bool f.res, .func (.func (ordF f)) #[] #[]]), .v (.string s)] I Tryz.func98 ?_
   refine zqo I (fun Al W I => (HS W).out) fun Al W p13 c13 I => ?_
   refine zqo I (fun Al W I => have hzW := I.bel.size; (HV p13 c13 _ W I.fa.1 (by omega)).out) fun Al W p17 c17 I => ?_
   refine zd [1] I fun Al W I => ?_
   refine zk [0, 1, 2] I fun I => ?_
   refine zo 3 I fun I => ?_
   refine zn I fun Al W I => ?_
   refine zk [4] I fun I => ?_
   exact zret I fun Al W I => e0m hv rfl I.below
 · have hv : f.vl g ⟨4, m, pw⟩ = ⟨4, false, 0, 0⟩ := by unfold Fm.vl Dc.c; simp
   have I := Inv.start w [tabF] ⟨hT, True.intro⟩
   refine a0g [.v (.agg #[.int .i64 (f.size : Int), .int .i64 (f.E : Int), .int .i64 (f.F : Int), .int .i64 f.g.rad, .int .i64 f.g.digs, .int .i64 f.g.lo, .int .i64 f.g.hi, .bool f.g.grad, .bool f.hid, .bool f.inf, .bool f.res, .func (.func (ordF f)) #[] #[]]), .v (.string s)] I Tryz.func98 ?_
   refine zqo I (fun Al W I => (HS W).out) fun Al W p13 c13 I => ?_
   refine zqo I (fun Al W I => have hzW := I.bel.size; (HV p13 c13 _ W I.fa.1 (by omega)).out) fun Al W p17 c17 I => ?_
   refine zd [1] I fun Al W I => ?_
   refine zk [0, 1, 2] I fun I => ?_
   refine zo 3 I fun I => ?_
   refine zn I fun Al W I => ?_
   refine zk [4] I fun I => ?_
   exact zret I fun Al W I => e0m hv rfl I.below
 · have hv : f.vl g ⟨5, m, pw⟩ = ⟨5, false, 0, 0⟩ := by unfold Fm.vl Dc.c; simp
   have I := Inv.start w [tabF] ⟨hT, True.intro⟩
   refine a0g [.v (.agg #[.int .i64 (f.size : Int), .int .i64 (f.E : Int), .int .i64 (f.F : Int), .int .i64 f.g.rad, .int .i64 f.g.digs, .int .i64 f.g.lo, .int .i64 f.g.hi, .bool f.g.grad, .bool f.hid, .bool f.inf, .bool f.res, .func (.func (ordF f)) #[] #[]]), .v (.string s)] I Tryz.func98 ?_
   refine zqo I (fun Al W I => (HS W).out) fun Al W p13 c13 I => ?_
   refine zqo I (fun Al W I => have hzW := I.bel.size; (HV p13 c13 _ W I.fa.1 (by omega)).out) fun Al W p17 c17 I => ?_
   refine zd [1] I fun Al W I => ?_
   refine zk [0, 1, 2] I fun I => ?_
   refine zo 3 I fun I => ?_
   refine zn I fun Al W I => ?_
   refine zk [4] I fun I => ?_
   exact zret I fun Al W I => e0m hv rfl I.below
def b0c (n : Int) (s : ByteArray) : Int := if IsFm n then (if s.size = (fmt n).size then 0 else 1) else 6
theorem h1r (n : Int) (s : ByteArray) (w : World) (hn : IsFm n) (hs : s.size = (fmt n).size) :
 Calls Tryz.prog 97 #[.int .i64 n, .string s] w fun en w' => en = .returned (.tuple #[.agg #[.int .i64 (((fmt n).size : Nat) : Int), .int .i64 (((fmt n).E : Nat) : Int), .int .i64 (((fmt n).F : Nat) : Int), .int .i64 (fmt n).g.rad, .int .i64 (fmt n).g.digs, .int .i64 (fmt n).g.lo, .int .i64 (fmt n).g.hi, .bool (fmt n).g.grad, .bool (fmt n).hid, .bool (fmt n).inf, .bool (fmt n).res, .func (.func (ordF (fmt n))) #[] #[]], .int .i64 0]) ∧ Below w.heap.size w w' := by
 have HF := fun W => hi0 (h0c n hn W)
 generalize fmt n = f at *
 have I := Inv.start w [] True.intro
 refine a0g [.v (.int .i64 n), .v (.string s)] I Tryz.func97 ?_
 refine zq I (fun Al W I => (HF W).out) fun Al W I => ?_
 refine zb I 20 ((s.size : Int) != (f.size : Int)) (false) (by simp [hs]) fun Al W I => ?_
 exact zrb I
theorem d1s (n : Int) (s : ByteArray) (w : World) (hn : IsFm n) (hs : s.size ≠ (fmt n).size) :
 Calls Tryz.prog 97 #[.int .i64 n, .string s] w fun en w' => en = .returned (.tuple #[.agg #[.int .i64 (((fmt n).size : Nat) : Int), .int .i64 (((fmt n).E : Nat) : Int), .int .i64 (((fmt n).F : Nat) : Int), .int .i64 (fmt n).g.rad, .int .i64 (fmt n).g.digs, .int .i64 (fmt n).g.lo, .int .i64 (fmt n).g.hi, .bool (fmt n).g.grad, .bool (fmt n).hid, .bool (fmt n).inf, .bool (fmt n).res, .func (.func (ordF (fmt n))) #[] #[]], .int .i64 1]) ∧ Below w.heap.size w w' := by
 have HF := fun W => hi0 (h0c n hn W)
 generalize fmt n = f at *
 have I := Inv.start w [] True.intro
 refine a0g [.v (.int .i64 n), .v (.string s)] I Tryz.func97 ?_
 refine zq I (fun Al W I => (HF W).out) fun Al W I => ?_
 refine zb I 20 ((s.size : Int) != (f.size : Int)) (true) (bne_iff_ne.2 (fun h => hs (by omega))) fun Al W I => ?_
 exact zrb I
theorem d1t (n : Int) (s : ByteArray) (w : World) (hn : ¬ IsFm n) :
 Calls Tryz.prog 97 #[.int .i64 n, .string s] w fun en w' => en = .returned (.tuple #[.agg #[.int .i64 0, .int .i64 0, .int .i64 0, .int .i64 0, .int .i64 0, .int .i64 0, .int .i64 0, .bool false, .bool false, .bool false, .bool false, .nilFunc], .int .i64 6]) ∧ Below w.heap.size w w' := by
 have HF := fun W => hi0 (j0k n hn W)
 have I := Inv.start w [] True.intro
 refine a0g [.v (.int .i64 n), .v (.string s)] I Tryz.func97 ?_
 refine zq I (fun Al W I => (HF W).out) fun Al W I => ?_
 exact zrb I
def t0b (w : World) (v : Vl) (er : Int) (en : Ending) (w' : World) : Prop :=
 ∃ p c, en = .returned (.tuple #[.agg #[.int .i64 (v.cls : Int), .bool v.neg, .slice p (dig B32 v.d).length c, .int .i64 v.pow], .int .i64 er]) ∧ Own w' w.heap.size .u32 141 p c (dig B32 v.d) ∧ Below w.heap.size w w'
def u0r : Vl := ⟨0, false, 0, 0⟩
def decP (n : Int) (s : ByteArray) : Vl := if b0c n s = 0 then (fmt n).valN (a0w (fmt n) s) else u0r
theorem c0l {n : Int} {s : ByteArray} : b0c n s = 0 ↔ IsFm n ∧ s.size = (fmt n).size := by
 unfold b0c
 by_cases h1 : IsFm n
 · rw [if_pos h1]
   by_cases h2 : s.size = (fmt n).size
   · rw [if_pos h2]; simp [h1, h2]
   · rw [if_neg h2]; simp [h2]
 · rw [if_neg h1]; simp [h1]
theorem m0j {w w' : World} {er : Int} {en : Ending} (h : en = .returned (.tuple #[.agg #[.int .i64 0, .bool false, .slice none 0 0, .int .i64 0], .int .i64 er])) (hb : Below w.heap.size w w') : t0b w u0r er en w' := by
 refine ⟨none, 0, ?_, ?_, hb⟩
 · rw [h]; show _ = Ending.returned (.tuple #[.agg #[_, _, .slice none (dig B32 0).length 0, _], _]); rw [a0f]; rfl
 · show Own _ _ _ _ _ _ (dig B32 0); rw [a0f]; exact Own.nil _ _ _ _
theorem h0q (n : Int) (s : ByteArray) (w : World) (hT : TabW w) :
 Calls Tryz.prog 41 #[.int .i64 n, .string s] w (t0b w (decP n s) (b0c n s)) := by
 by_cases hn : IsFm n
 · by_cases hs : s.size = (fmt n).size
   · have h0 : b0c n s = 0 := c0l.2 ⟨hn, hs⟩
     have hd : decP n s = (fmt n).valN (a0w (fmt n) s) := by unfold decP; rw [if_pos h0]
     rw [hd, h0]
     have HF := fun W => hi0 (h1r n s W hn hs)
     have HD := fun W h => hi0 (w0l (fmt n) s W (b0m hn) hs h)
     generalize (fmt n).valN (a0w (fmt n) s) = v at *
     generalize (fmt n).neg (a0w (fmt n) s) = g at *
     generalize fmt n = f at *
     have I := Inv.start w [tabF] ⟨hT, True.intro⟩
     refine a0g [.v (.int .i64 n), .v (.string s)] I Tryz.func41 ?_
     refine zq I (fun Al W I => (HF W).out) fun Al W I => ?_
     refine zqo I (fun Al W I => (HD W I.fa.1).out) fun Al W p23 c23 I => ?_
     exact zret I fun Al W I => ⟨p23, c23, rfl, I.fa.1.mono (by omega), I.below⟩
   · have h0 : b0c n s = 1 := by unfold b0c; rw [if_pos hn, if_neg hs]
     have hd : decP n s = u0r := by unfold decP; rw [if_neg (by omega)]
     rw [hd, h0]
     have HF := fun W => hi0 (d1s n s W hn hs)
     generalize fmt n = f at *
     have I := Inv.start w [] True.intro
     refine a0g [.v (.int .i64 n), .v (.string s)] I Tryz.func41 ?_
     refine zq I (fun Al W I => (HF W).out) fun Al W I => ?_
     exact zret I fun Al W I => m0j rfl I.below
 · have h0 : b0c n s = 6 := by unfold b0c; rw [if_neg hn]
   have hd : decP n s = u0r := by unfold decP; rw [if_neg (by omega)]
   rw [hd, h0]
   have HF := fun W => hi0 (d1t n s W hn)
   have I := Inv.start w [] True.intro
   refine a0g [.v (.int .i64 n), .v (.string s)] I Tryz.func41 ?_
   refine zq I (fun Al W I => (HF W).out) fun Al W I => ?_
   exact zret I fun Al W I => m0j rfl I.below
def g0u (n : Int) : Int := if IsFm n then 0 else 6
theorem a1m {n : Int} (h : ¬ IsFm n) : fmt n = ⟨0, 0, 0, ⟨0, 0, 0, 0, false⟩, 0, false⟩ := by
 unfold IsFm at h
 unfold fmt
 rw [if_neg (by omega), if_neg (by omega), if_neg (by omega), if_neg (by omega), if_neg (by omega), if_neg (by omega), if_neg (by omega), if_neg (by omega)]
theorem d1u (n : Int) (w : World) : Calls Tryz.prog 43 #[.int .i64 n] w fun en w' => en = .returned (.tuple #[.agg #[.int .i64 (fmt n).g.rad, .int .i64 (fmt n).g.digs, .int .i64 (fmt n).g.lo, .int .i64 (fmt n).g.hi, .bool (fmt n).g.grad], .int .i64 (g0u n)]) ∧ Below w.heap.size w w' := by
 by_cases hn : IsFm n
 · have h0 : g0u n = 0 := by unfold g0u; rw [if_pos hn]
   rw [h0]
   have HF := fun W => hi0 (h0c n hn W)
   generalize fmt n = f at *
   have I := Inv.start w [] True.intro
   refine a0g [.v (.int .i64 n)] I Tryz.func43 ?_
   refine zq I (fun Al W I => (HF W).out) fun Al W I => ?_
   exact zrb I
 · have h0 : g0u n = 6 := by unfold g0u; rw [if_neg hn]
   rw [h0, a1m hn]
   have HF := fun W => hi0 (j0k n hn W)
   have I := Inv.start w [] True.intro
   refine a0g [.v (.int .i64 n)] I Tryz.func43 ?_
   refine zq I (fun Al W I => (HF W).out) fun Al W I => ?_
   exact zrb I
end Go.Proofs.YtmacohmclpnphaaGreatDoor
namespace Go.Slip
structure Pt where
 neg : Bool
 e : Nat
 x : Nat
def Fm.fr (f : Fm) (d : Dv) : Nat := d.m * 2 ^ (d.e - wid f.g * c0b d f.g).toNat
def Fm.numP (f : Fm) (d : Dv) : Pt :=
 if f.fam = 2 then ⟨d.neg, (c0b d f.g - f.g.lo).toNat, f.fr d⟩
 else if (blen (f.fr d) : Int) = f.g.digs then ⟨d.neg, (c0b d f.g - f.g.lo).toNat + 1, if f.ext then f.fr d else f.fr d - 2 ^ f.F⟩
 else ⟨d.neg, (c0b d f.g - f.g.lo).toNat, f.fr d⟩
def Fm.encP (f : Fm) (cls : Nat) (g : Bool) (d : Dv) : Pt :=
 if cls = 2 then f.numP d
 else if cls = 3 then ⟨g, 2 ^ f.E - 1, if f.ext then 2 ^ 63 else 0⟩
 else if cls = 4 then ⟨g, 2 ^ f.E - 1, if f.ext then 2 ^ 63 + 2 ^ 62 else 2 ^ (f.F - 1)⟩
 else if cls = 5 then ⟨true, 0, 0⟩
 else ⟨g, 0, 0⟩
def Fm.strP (f : Fm) (p : Pt) : List Nat := f.str p.neg p.e p.x
structure NumF (f : Fm) (d : Dv) : Prop where
 k1 : f.g.lo ≤ c0b d f.g
 k2 : c0b d f.g ≤ f.g.hi
 e0 : 0 ≤ d.e - wid f.g * c0b d f.g
 e1 : d.e - wid f.g * c0b d f.g ≤ 484
 lt : f.fr d < 2 ^ (wid f.g * f.g.digs.toNat)
 ne : f.fr d ≠ 0
 bl : (blen (f.fr d) : Int) ≤ wid f.g * f.g.digs
 low : f.fam ≠ 2 → (blen (f.fr d) : Int) ≠ f.g.digs → c0b d f.g = f.g.lo ∧ f.fam = 1
theorem a1n {f : Fm} (G : b0g f) {d : Dv} (hin : b0u d f.g = true) (h0 : d.m ≠ 0) : NumF f d := by
 have hg := b0s G.g
 obtain ⟨a1, a2, a3, a4⟩ := z0l hg hin h0
 have hd1 := hg.d1
 have wp := b0l f.g
 obtain ⟨D, hD⟩ : ∃ D : Nat, f.g.digs = D := ⟨f.g.digs.toNat, by omega⟩
 have hDt : f.g.digs.toNat = D := by omega
 have hbl : (blen (f.fr d) : Int) = topD d - wid f.g * c0b d f.g := by
  unfold Fm.fr
  rw [h0k (by omega)]
  unfold topD
  omega
 have hpos : f.fr d ≠ 0 := by
  unfold Fm.fr
  have := Nat.mul_pos (show 0 < d.m by omega) (Nat.pow_pos (n := (d.e - wid f.g * c0b d f.g).toNat) (show 0 < 2 by omega))
  omega
 have hb := f0v (topD d - 1) (wid f.g) (by omega)
 have eU : upK d (wid f.g) D = (topD d - 1) / (wid f.g : Int) - D + 1 := rfl
 have eS : c0b d f.g = max f.g.lo (upK d (wid f.g) f.g.digs.toNat) := rfl
 rw [hDt] at eS
 have hle : upK d (wid f.g) D ≤ c0b d f.g := by omega
 have hmul : (wid f.g : Int) * upK d (wid f.g) D ≤ wid f.g * c0b d f.g := Int.mul_le_mul_of_nonneg_left hle (by omega)
 have eK : (wid f.g : Int) * upK d (wid f.g) D = wid f.g * ((topD d - 1) / (wid f.g : Int)) - wid f.g * D + wid f.g := by rw [eU]; grind
 have hbD : (blen (f.fr d) : Int) ≤ wid f.g * f.g.digs := by rw [hD]; omega
 have ewD : ((wid f.g * D : Nat) : Int) = wid f.g * D := Int.natCast_mul _ _
 refine ⟨a3, a4, by omega, by omega, ?_, hpos, hbD, fun hf hn => ?_⟩
 · rw [hDt]
   refine (b0e _ _).1 ?_
   rw [hD] at hbD
   omega
 · have hw : wid f.g = 1 := by rw [G.w, if_neg hf]
   rw [hw] at hbl eU
   have hu : ¬ c0b d f.g = upK d 1 D := by
    intro h
    apply hn
    rw [hbl, h, eU, hD]
    have : (topD d - 1) / ((1 : Nat) : Int) = topD d - 1 := by simp
    omega
   rw [hw] at eS
   have hlo : c0b d f.g = f.g.lo := by omega
   refine ⟨hlo, ?_⟩
   have hlt : upK d 1 D < f.g.lo := by omega
   unfold b0u at hin
   rw [if_neg h0, hDt, hw] at hin
   split at hin
   · simp at hin
   · have hgr := G.grad
     by_cases hf1 : f.fam = 1
     · exact hf1
     · rw [decide_eq_false hf1] at hgr
       rw [hgr] at hin
       simp at hin
theorem p0j {f : Fm} (G : b0g f) (hf : f.fam ≠ 2) : (f.ext = false ∧ f.g.digs = f.F + 1) ∨ (f.ext = true ∧ f.g.digs = f.F ∧ f.F = 64) := by
 cases h : f.ext with
 | false => exact .inl ⟨rfl, G.d1 hf h⟩
 | true => have := G.ext h; exact .inr ⟨rfl, by omega, this.2.1⟩
theorem a1o {f : Fm} (G : b0g f) {d : Dv} (N : NumF f d) : (f.numP d).e < 2 ^ f.E ∧ (f.numP d).x < 2 ^ f.F := by
 have hE1 : (2 : Nat) ^ 7 ≤ 2 ^ f.E := Nat.pow_le_pow_right (by omega) G.e1
 have h1 := N.k1
 have h2 := N.k2
 have hF2 := N.lt
 have hdd := G.d2
 have hw := G.w
 unfold Fm.numP
 by_cases hf : f.fam = 2
 · rw [if_pos hf]
   have := G.hi2 hf
   rw [hw, if_pos hf, show 4 * f.g.digs.toNat = f.F by have := hdd hf; omega] at hF2
   exact ⟨by simp only; omega, hF2⟩
 · rw [if_neg hf]
   rw [hw, if_neg hf, Nat.one_mul] at hF2
   have hhi : f.g.hi + 2 ≤ f.g.lo + (2 ^ f.E : Nat) := by
    have h3 := G.hi1
    have h4 := G.hi3
    have h5 := G.fam
    omega
   rcases p0j G hf with ⟨he, hd⟩ | ⟨he, hd, h64⟩
   · rw [show f.g.digs.toNat = f.F + 1 by omega, Nat.pow_succ] at hF2
     by_cases hb : (blen (f.fr d) : Int) = f.g.digs
     · rw [if_pos hb, if_neg (by simp [he])]
       exact ⟨by simp only; omega, by simp only; omega⟩
     · rw [if_neg hb]
       refine ⟨by simp only; omega, ?_⟩
       have hbl := N.bl
       rw [hw, if_neg hf] at hbl
       show f.fr d < 2 ^ f.F
       exact (b0e _ _).1 (by omega)
   · rw [show f.g.digs.toNat = f.F by omega] at hF2
     by_cases hb : (blen (f.fr d) : Int) = f.g.digs
     · rw [if_pos hb, if_pos he]
       exact ⟨by simp only; omega, hF2⟩
     · rw [if_neg hb]
       exact ⟨by simp only; omega, hF2⟩
theorem h1s {f : Fm} (G : b0g f) {cls : Nat} {g : Bool} {d : Dv} (N : cls = 2 → NumF f d) : (f.encP cls g d).e < 2 ^ f.E ∧ (f.encP cls g d).x < 2 ^ f.F := by
 have h0 : 0 < 2 ^ f.E := Nat.pow_pos (by omega)
 have h1 : 0 < 2 ^ f.F := Nat.pow_pos (by omega)
 have hF := G.f1
 have h2 : 2 ^ (f.F - 1) < 2 ^ f.F := Nat.pow_lt_pow_right (by omega) (by omega)
 have h3 : f.ext = true → 2 ^ f.F = 2 ^ 64 := fun h => by rw [(G.ext h).2.1]
 unfold Fm.encP
 by_cases c2 : cls = 2
 · rw [if_pos c2]; exact a1o G (N c2)
 · rw [if_neg c2]
   by_cases c3 : cls = 3
   · rw [if_pos c3]
     refine ⟨by simp only; omega, ?_⟩
     simp only
     split
     · rename_i h; rw [h3 h]; omega
     · exact h1
   · rw [if_neg c3]
     by_cases c4 : cls = 4
     · rw [if_pos c4]
       refine ⟨by simp only; omega, ?_⟩
       simp only
       split
       · rename_i h; rw [h3 h]; omega
       · exact h2
     · rw [if_neg c4]
       split
       · exact ⟨h0, h1⟩
       · exact ⟨h0, h1⟩
theorem r0d (g : Bool) (m : Nat) (e : Int) : (if g then b0i (bare ⟨false, m, e⟩) else bare ⟨false, m, e⟩) = bare ⟨g, m, e⟩ := by
 cases g with
 | false => rfl
 | true =>
  rw [if_pos rfl]
  by_cases h : m = 0
  · subst h; rfl
  · unfold bare b0i
    rw [if_neg h, if_neg h]
    have h1 := c0t m (by omega)
    have h2 : 0 < m / 2 ^ tz m := by
     rcases Nat.eq_zero_or_pos (m / 2 ^ tz m) with k | k
     · rw [k] at h1; simp at h1
     · exact k
    simp [h2]
theorem p0k {x k n : Nat} (h : x < 2 ^ k) (hk : k ≤ 32 * n) : (dig B32 x).length ≤ n := by
 rw [a0l a0b]
 unfold B32
 rw [show (4294967296 : Nat) = 2 ^ 32 from rfl, ← Nat.pow_mul]
 exact Nat.lt_of_lt_of_le h (Nat.pow_le_pow_right (by omega) hk)
theorem d1v (f : Fm) (g : Bool) (d : Dc) : bare ⟨(f.vl g d).neg, (f.vl g d).d, wid f.g * (f.vl g d).pow⟩ = (f.vr g d).x := by
 by_cases h : d.c = 2
 · unfold Fm.vl Fm.vr
   simp only [h, if_true]
   have hw := b0l f.g
   rw [if_pos (by omega)]
   have e : (wid f.g : Int) * (d.p + (tz d.m / wid f.g : Nat)) = wid f.g * d.p + ((tz d.m / wid f.g * wid f.g : Nat) : Int) := by
    rw [Int.mul_add, Int.natCast_mul, Int.mul_comm (wid f.g : Int) ((tz d.m / wid f.g : Nat) : Int)]
   rw [e, ← j0w]
   have hm : d.m ≠ 0 := by
    intro h0
    unfold Dc.c at h
    split at h
    · omega
    · rename_i k
      exact k ⟨h, h0⟩
   have hdv : 2 ^ (tz d.m / wid f.g * wid f.g) ∣ d.m := Nat.dvd_trans (Nat.pow_dvd_pow 2 (Nat.div_mul_le_self _ _)) ⟨d.m / 2 ^ tz d.m, ((c0t d.m (by omega)).1).symm⟩
   rw [Nat.div_mul_cancel hdv]
 · unfold Fm.vl Fm.vr
   simp only [if_neg h]
   exact q0f _ _
theorem m0k (d : Dv) : f0p d = 0 ↔ d.m = 0 := by unfold f0p; by_cases h : d.m = 0 <;> cases d.neg <;> simp [h]
structure CanF (f : Fm) (cls : Nat) (g : Bool) (d : Dv) : Prop where
 c : 1 ≤ cls ∧ cls ≤ 5
 c1 : cls = 1 → g = true → f.fam ≠ 3
 c2 : cls = 2 → NumF f d ∧ Bare d ∧ d.m ≠ 0 ∧ d.neg = g
 c3 : cls = 3 → f.fam = 1
 c4 : cls = 4 → f.fam = 1 ∧ g = false
 c5 : cls = 5 → f.fam = 3 ∧ g = false
theorem h1t {f : Fm} {d : Dv} (N : NumF f d) (hB : Bare d) : bare ⟨d.neg, f.fr d, wid f.g * c0b d f.g⟩ = d := by
 have h0 := N.e0
 unfold Fm.fr
 rw [j0w, show wid f.g * c0b d f.g + (((d.e - wid f.g * c0b d f.g).toNat : Nat) : Int) = d.e by omega]
 exact o0i hB
theorem d1w {f : Fm} (G : b0g f) {d : Dv} (N : NumF f d) : (f.numP d).neg = d.neg ∧ f.dec (f.numP d).neg (f.numP d).e (f.numP d).x = ⟨2, f.fr d, c0b d f.g⟩ := by
 have hE1 : (2 : Nat) ^ 7 ≤ 2 ^ f.E := Nat.pow_le_pow_right (by omega) G.e1
 have h1 := N.k1
 have h2 := N.k2
 have hw := G.w
 by_cases hf : f.fam = 2
 · have e : f.numP d = ⟨d.neg, (c0b d f.g - f.g.lo).toNat, f.fr d⟩ := by unfold Fm.numP; rw [if_pos hf]
   rw [e]
   refine ⟨rfl, ?_⟩
   unfold Fm.dec
   rw [if_pos hf]
   simp only [Dc.mk.injEq, true_and]
   omega
 · have hhi : f.g.hi + 2 ≤ f.g.lo + (2 ^ f.E : Nat) := by
    have h3 := G.hi1
    have h4 := G.hi3
    have h5 := G.fam
    omega
   have hhi1 : f.fam = 1 → f.g.hi + 3 = f.g.lo + (2 ^ f.E : Nat) := fun h => by have := G.hi1 h; omega
   by_cases hb : (blen (f.fr d) : Int) = f.g.digs
   · have hp := g0f (f.fr d) (by have := N.ne; omega)
     obtain ⟨X, hX, hk1, hk2⟩ : ∃ X, f.numP d = ⟨d.neg, (c0b d f.g - f.g.lo).toNat + 1, X⟩ ∧ (f.ext = false → X + 2 ^ f.F = f.fr d) ∧ (f.ext = true → X = f.fr d ∧ 2 ^ 63 ≤ X) := by
      refine ⟨_, by unfold Fm.numP; rw [if_neg hf, if_pos hb], fun he => ?_, fun he => ?_⟩
      · rw [he]
        simp only [Bool.false_eq_true, if_false]
        rcases p0j G hf with ⟨_, hd⟩ | ⟨h, _⟩
        · rw [show blen (f.fr d) - 1 = f.F by omega] at hp
          omega
        · rw [he] at h; cases h
      · rw [if_pos he]
        refine ⟨rfl, ?_⟩
        rcases p0j G hf with ⟨h, _⟩ | ⟨_, hd, h64⟩
        · rw [he] at h; cases h
        · rw [show blen (f.fr d) - 1 = 63 by omega] at hp
          exact hp
     rw [hX]
     refine ⟨rfl, ?_⟩
     unfold Fm.dec
     simp only
     rw [if_neg hf, if_neg (by rintro ⟨h, k⟩; have := hhi1 h; omega), if_neg (by omega), if_neg (by omega)]
     cases he : f.ext with
     | false =>
      rw [if_pos rfl, hk1 he]
      simp only [Dc.mk.injEq, true_and]
      omega
     | true =>
      rw [if_neg (by simp), if_neg (by have := (hk2 he).2; omega), (hk2 he).1]
      simp only [Dc.mk.injEq, true_and]
      omega
   · obtain ⟨l1, l2⟩ := N.low hf hb
     have e : f.numP d = ⟨d.neg, (c0b d f.g - f.g.lo).toNat, f.fr d⟩ := by unfold Fm.numP; rw [if_neg hf, if_neg hb]
     rw [e]
     refine ⟨rfl, ?_⟩
     unfold Fm.dec
     simp only
     rw [if_neg hf, if_neg (by rintro ⟨h, k⟩; omega), if_neg (by omega), if_pos (by omega), l1]
theorem h1u {f : Fm} (G : b0g f) {cls : Nat} {g : Bool} {d : Dv} (C : CanF f cls g d) :
 f.vr (f.encP cls g d).neg (f.dec (f.encP cls g d).neg (f.encP cls g d).e (f.encP cls g d).x) = ⟨cls, g, if cls = 2 then d else ⟨false, 0, 0⟩⟩ := by
 have hE1 : (2 : Nat) ^ 7 ≤ 2 ^ f.E := Nat.pow_le_pow_right (by omega) G.e1
 have hfam := G.fam
 obtain ⟨c1, c2⟩ := C.c
 have hx := G.ext
 rcases (show cls = 1 ∨ cls = 2 ∨ cls = 3 ∨ cls = 4 ∨ cls = 5 by omega) with rfl | rfl | rfl | rfl | rfl
 · have h := C.c1 rfl
   have hd : (f.dec g 0 0).c = 1 := by
    unfold Fm.dec
    by_cases h2 : f.fam = 2
    · rw [if_pos h2]; rfl
    · rw [if_neg h2, if_neg (by rintro ⟨_, k⟩; omega)]
      by_cases h3 : f.fam = 3
      · rw [if_pos ⟨h3, rfl⟩, if_neg (fun k => h k h3)]; rfl
      · rw [if_neg (fun k => h3 k.1), if_pos rfl]; rfl
   show f.vr g (f.dec g 0 0) = _
   unfold Fm.vr
   rw [hd]
   rfl
 · obtain ⟨N, hB, h0, hg⟩ := C.c2 rfl
   obtain ⟨k1, k2⟩ := d1w G N
   show f.vr (f.numP d).neg (f.dec (f.numP d).neg (f.numP d).e (f.numP d).x) = _
   rw [k2, k1]
   have hc : (⟨2, f.fr d, c0b d f.g⟩ : Dc).c = 2 := by unfold Dc.c; rw [if_neg (fun h => N.ne h.2)]
   unfold Fm.vr
   rw [hc]
   simp only [if_true]
   rw [if_pos (by omega), h1t N hB, hg]
 · have h := C.c3 rfl
   have hd : f.dec g (2 ^ f.E - 1) (if f.ext then 2 ^ 63 else 0) = ⟨3, 0, 0⟩ := by
    unfold Fm.dec
    rw [if_neg (by omega), if_pos ⟨h, rfl⟩, if_pos (by cases f.ext <;> simp)]
   show f.vr g (f.dec g (2 ^ f.E - 1) (if f.ext then 2 ^ 63 else 0)) = _
   rw [hd]
   rfl
 · obtain ⟨h, rfl⟩ := C.c4 rfl
   have hp : 0 < 2 ^ (f.F - 1) := Nat.pow_pos (by omega)
   have hd : f.dec false (2 ^ f.E - 1) (if f.ext then 2 ^ 63 + 2 ^ 62 else 2 ^ (f.F - 1)) = ⟨4, 0, 0⟩ := by
    unfold Fm.dec
    rw [if_neg (by omega), if_pos ⟨h, rfl⟩, if_neg (by cases f.ext <;> simp <;> omega)]
   show f.vr false (f.dec false (2 ^ f.E - 1) (if f.ext then 2 ^ 63 + 2 ^ 62 else 2 ^ (f.F - 1))) = _
   rw [hd]
   rfl
 · obtain ⟨h, rfl⟩ := C.c5 rfl
   have hd : f.dec true 0 0 = ⟨5, 0, 0⟩ := by
    unfold Fm.dec
    rw [if_neg (by omega), if_neg (by omega), if_pos ⟨h, rfl⟩, if_pos rfl]
   show f.vr true (f.dec true 0 0) = _
   rw [hd]
   rfl
theorem f1r {D : Dc} (h : D.c = 2) : D.m ≠ 0 := by
 intro h0
 unfold Dc.c at h
 split at h
 · omega
 · rename_i k
   exact k ⟨h, h0⟩
theorem l1z {f : Fm} (G : b0g f) (g : Bool) {e x : Nat} (he : e < 2 ^ f.E) (hx : x < 2 ^ f.F) (neg : Bool) :
 (dig B32 (f.vl g (f.dec neg e x)).d).length ≤ 1000 ∧ -20000 ≤ (f.vl g (f.dec neg e x)).pow ∧ (f.vl g (f.dec neg e x)).pow ≤ 20000 := by
 have k2 := h1l (f := f) neg (e := e) hx
 have k3 := k1c G neg (frac := x) he
 have z2 := G.f2
 generalize f.dec neg e x = D at *
 have hml : (dig B32 D.m).length ≤ 3 := p0k k2 (by omega)
 unfold Fm.vl
 simp only
 refine ⟨?_, ?_⟩
 · split
   · exact Nat.le_trans (a0o a0b (Nat.div_le_self _ _)) (by omega)
   · simp [a0f]
 · split
   · rename_i hc
     have h1 := h0l (m := D.m) (by have := f1r hc; omega)
     have h3 := (b0e _ _).2 k2
     have h2 := Nat.div_le_self (tz D.m) (wid f.g)
     obtain ⟨q, hq⟩ : ∃ q : Nat, tz D.m / wid f.g = q := ⟨_, rfl⟩
     rw [hq] at h2 ⊢
     omega
   · omega
theorem d1x (f : Fm) (g : Bool) (D : Dc) (h : (f.vl g D).cls ≠ 2) : (f.vl g D).d = 0 ∧ (f.vl g D).pow = 0 := by
 have hc : D.c ≠ 2 := h
 unfold Fm.vl
 simp only [if_neg hc, and_self]
def vz : Dv := ⟨false, 0, 0⟩
def Fm.nothM (f : Fm) : Vr := ⟨if f.fam = 1 then 4 else if f.fam = 2 then 1 else 5, false, vz⟩
def Fm.greatM (f : Fm) (neg : Bool) : Vr := ⟨2, neg, bare ⟨neg, 2 ^ (wid f.g * f.g.digs.toNat) - 1, wid f.g * f.g.hi⟩⟩
def Fm.zeroM (f : Fm) (neg : Bool) : Vr := ⟨1, neg && decide (f.fam = 1), vz⟩
def infM (neg : Bool) : Vr := ⟨3, neg, vz⟩
def Fm.flP (f : Fm) (p : Pl) : Nat := if p.under then (if f.fam = 1 then (if p.exact then 0 else 3) else 3) else if p.exact then 0 else 1
def Fm.placedM (f : Fm) (p : Pl) (way : Int) : Vr × Nat :=
 if p.over then (if f.fam = 2 then f.greatM p.neg else if f.fam = 3 then f.nothM else if way ≤ 2 ∨ (way = 4 ∧ p.neg = false) ∨ (way = 5 ∧ p.neg = true) then infM p.neg else f.greatM p.neg, 5)
 else if p.under = true ∧ f.fam ≠ 1 ∧ p.pow < f.g.lo then (f.zeroM false, 3)
 else if p.d = 0 then (f.zeroM p.neg, f.flP p)
 else (⟨2, p.neg, bare ⟨p.neg, p.d, wid f.g * p.pow⟩⟩, f.flP p)
def Fm.numM (f : Fm) (x : Dv) (way : Int) : Vr × Nat := if x.m = 0 then (f.zeroM false, 0) else f.placedM (a0s x.neg x.m 1 x.e f.g way) way
def Fm.sumM (f : Fm) (x y : Dv) (p q : Bool) (way : Int) : Vr × Nat :=
 if (i0k x y).m ≠ 0 then f.numM (i0k x y) way else if x.m = 0 ∧ p = q then (f.zeroM p, 0) else (f.zeroM (decide (way = 5)), 0)
def Fm.offM (f : Fm) : Vr × Nat := (f.nothM, if f.fam = 3 then 16 else 0)
def Fm.lostM (f : Fm) : Vr × Nat := (f.nothM, 16)
def Fm.addM (f : Fm) (a b : Vr) (way : Int) : Vr × Nat :=
 if 4 ≤ a.cls ∨ 4 ≤ b.cls then f.offM
 else if a.cls = 3 ∨ b.cls = 3 then (if a.cls = b.cls ∧ a.neg ≠ b.neg then f.lostM else if a.cls = 3 then (a, 0) else (b, 0))
 else f.sumM a.x b.x a.neg b.neg way
def Fm.poleM (f : Fm) (neg : Bool) : Vr × Nat := (if f.fam = 1 then infM neg else if f.fam = 2 then f.greatM neg else f.nothM, 8)
def Fm.divM (f : Fm) (a b : Vr) (way : Int) : Vr × Nat :=
 if 4 ≤ a.cls ∨ 4 ≤ b.cls then f.offM
 else if (a.cls = 3 ∧ b.cls = 3) ∨ (a.cls = 1 ∧ b.cls = 1) then f.lostM
 else if a.cls = 3 then (infM (a.neg != b.neg), 0)
 else if b.cls = 3 ∨ a.cls = 1 then (f.zeroM (a.neg != b.neg), 0)
 else if b.cls = 1 then f.poleM (a.neg != b.neg)
 else f.placedM (a0s (a.neg != b.neg) a.x.m b.x.m (a.x.e - b.x.e) f.g way) way
end Go.Slip
namespace Go.Proofs.YtmacohmclpnphaaGreatDoor
open Go.RowKit Go.Slip
def famB (f : Fm) : Int := if f.fam = 1 then 65 else if f.fam = 2 then 66 else 67
abbrev uS (f : Fm) (n way k : Int) : List SV := [.v (.int .i64 n), .v (.int .i64 way), .v (.int .i64 f.g.rad), .v (.int .i64 f.g.digs), .v (.int .i64 f.g.lo), .v (.int .i64 f.g.hi), .v (.bool f.g.grad), .v (.int .u8 (famB f)), .v (.int .i64 k)]
theorem c0i (f : Fm) (n way a b c : Int) (u : Nat) (w : World) (U : Bt w u 182 #[.int .i64 n, .int .i64 way, .int .i64 f.g.rad, .int .i64 f.g.digs, .int .i64 f.g.lo, .int .i64 f.g.hi, .bool f.g.grad, .int .u8 (famB f), .int .i64 a]) (hc : bits .or .i64 a b = c) :
 Calls Tryz.prog 163 #[.pointer (some ⟨u, 0, none⟩), .int .i64 b] w fun e w' => e = .returned (.tuple #[]) ∧ Kp [u] w w' ∧ Bt w' u 182 #[.int .i64 n, .int .i64 way, .int .i64 f.g.rad, .int .i64 f.g.digs, .int .i64 f.g.lo, .int .i64 f.g.hi, .bool f.g.grad, .int .u8 (famB f), .int .i64 c] := by
 have I := Inv.startW w u 182 (uS f n way a) [] U True.intro True.intro
 refine a0g [.p 0 0, .v (.int .i64 b)] I Tryz.func163 ?_
 refine zbin I 9 _ (fun _ _ _ _ _ => j1x .i64 (a) (b) (c) (hc)) fun Al W I => ?_
 exact zret I fun Al W I => ⟨rfl, I.bel, I.boxE 182 _⟩
theorem a1p (f : Fm) (n way a : Int) (u : Nat) (w : World) (U : Bt w u 182 #[.int .i64 n, .int .i64 way, .int .i64 f.g.rad, .int .i64 f.g.digs, .int .i64 f.g.lo, .int .i64 f.g.hi, .bool f.g.grad, .int .u8 (famB f), .int .i64 a]) :
 Calls Tryz.prog 165 #[.pointer (some ⟨u, 0, none⟩)] w fun e w' => e = .returned (.int .i64 ((wid f.g : Nat) : Int)) ∧ Below w.heap.size w w' := by
 by_cases h : f.g.rad = 16
 · have hw : wid f.g = 4 := by unfold wid; rw [if_pos h]
   rw [hw]
   have I := Inv.startR w [u] [⟨182, (uS f n way a), true⟩] [] ⟨U, True.intro⟩ True.intro
   refine a0g [.p 0 0] I Tryz.func165 ?_
   refine zb I 8 (f.g.rad == 16) (true) (beq_iff_eq.2 h) fun Al W I => ?_
   exact zrb I
 · have hw : wid f.g = 1 := by unfold wid; rw [if_neg h]
   rw [hw]
   have I := Inv.startR w [u] [⟨182, (uS f n way a), true⟩] [] ⟨U, True.intro⟩ True.intro
   refine a0g [.p 0 0] I Tryz.func165 ?_
   refine zb I 8 (f.g.rad == 16) (false) (bFn h) fun Al W I => ?_
   exact zrb I
theorem n0u (f : Fm) (n way a : Int) (g : Bool) (u : Nat) (w : World) (U : Bt w u 182 #[.int .i64 n, .int .i64 way, .int .i64 f.g.rad, .int .i64 f.g.digs, .int .i64 f.g.lo, .int .i64 f.g.hi, .bool f.g.grad, .int .u8 (famB f), .int .i64 a]) :
 Calls Tryz.prog 119 #[.pointer (some ⟨u, 0, none⟩), .bool g] w fun e w' => e = .returned (.agg #[.int .i64 1, .bool (g && decide (f.fam = 1)), .slice none 0 0, .int .i64 0]) ∧ Below w.heap.size w w' := by
 have hB : (famB f == 65) = decide (f.fam = 1) := by
  unfold famB
  by_cases h1 : f.fam = 1
  · simp [h1]
  · by_cases h2 : f.fam = 2 <;> simp [h1, h2]
 cases g
 · have I := Inv.startR w [u] [⟨182, (uS f n way a), true⟩] [] ⟨U, True.intro⟩ True.intro
   refine a0g [.p 0 0, .v (.bool false)] I Tryz.func119 ?_
   exact zrb I
 · generalize decide (f.fam = 1) = q at *
   have I := Inv.startR w [u] [⟨182, (uS f n way a), true⟩] [] ⟨U, True.intro⟩ True.intro
   refine a0g [.p 0 0, .v (.bool true)] I Tryz.func119 ?_
   refine zb I 11 ((famB f) == 65) (q) (hB) fun Al W I => ?_
   exact zrb I
theorem d1y : Tryz.prog.underlying 216 = some (.map 5 3) := by kernel_rfl
def m0l : Array MapEntry := #[⟨.int .u8 65, .int .i64 4, 0⟩, ⟨.int .u8 66, .int .i64 1, 1⟩, ⟨.int .u8 67, .int .i64 5, 2⟩]
theorem h0h (f : Fm) (n way a : Int) (u : Nat) (w : World) (U : Bt w u 182 #[.int .i64 n, .int .i64 way, .int .i64 f.g.rad, .int .i64 f.g.digs, .int .i64 f.g.lo, .int .i64 f.g.hi, .bool f.g.grad, .int .u8 (famB f), .int .i64 a]) :
 Calls Tryz.prog 141 #[.pointer (some ⟨u, 0, none⟩)] w fun e w' => e = .returned (.agg #[.int .i64 (f.nothM.cls : Int), .bool false, .slice none 0 0, .int .i64 0]) ∧ Below w.heap.size w w' := by
 have hmm := @run_makeMap Tryz.prog
 go_enter Tryz.func141, Tryz.ntmps141
 have hs : (w.alloc (Obj.cells #[Value.int IntKind.i64 0, Value.bool false, Value.slice none 0 0, Value.int IntKind.i64 0] 75)).heap.size = w.heap.size + 1 := by show (w.heap.push _).size = _; exact Array.size_push ..
 have h1 := e0f (w := w.alloc (Obj.cells #[Value.int IntKind.i64 0, Value.bool false, Value.slice none 0 0, Value.int IntKind.i64 0] 75)) d1y Tryz.underlying5 #[] 0 65 (.int .i64 4) rfl
 have h2 := e0f (w := w.alloc (Obj.cells #[Value.int IntKind.i64 0, Value.bool false, Value.slice none 0 0, Value.int IntKind.i64 0] 75)) d1y Tryz.underlying5 #[⟨.int .u8 65, .int .i64 4, 0⟩] 1 66 (.int .i64 1) rfl
 have h3 := e0f (w := w.alloc (Obj.cells #[Value.int IntKind.i64 0, Value.bool false, Value.slice none 0 0, Value.int IntKind.i64 0] 75)) d1y Tryz.underlying5 #[⟨.int .u8 65, .int .i64 4, 0⟩, ⟨.int .u8 66, .int .i64 1, 1⟩] 2 67 (.int .i64 5) rfl
 rw [hs] at h1 h2 h3
 have U3 : ∀ es c, Bt ((w.alloc (Obj.cells #[Value.int IntKind.i64 0, Value.bool false, Value.slice none 0 0, Value.int IntKind.i64 0] 75)).alloc (Obj.map es c)) u 182 #[.int .i64 n, .int .i64 way, .int .i64 f.g.rad, .int .i64 f.g.digs, .int .i64 f.g.lo, .int .i64 f.g.hi, .bool f.g.grad, .int .u8 (famB f), .int .i64 a] := fun es c => U.past (((Below.refl _ _).alloc (Nat.le_refl _) _).alloc (by rw [hs]; omega) _)
 have hL := (U3 m0l 3).bx.c 7 (v := .int .u8 (famB f)) rfl
 have hM : ((w.alloc (Obj.cells #[Value.int IntKind.i64 0, Value.bool false, Value.slice none 0 0, Value.int IntKind.i64 0] 75)).alloc (Obj.map m0l 3)).heap[w.heap.size + 1]? = some (.map m0l 3) := by
  rw [← hs]; show ((World.alloc _ _).heap.push _)[_]? = _; exact Array.getElem?_push_size
 have hF : ∃ i, Instr.findNow (.int .u8) (.int .u8 (famB f)) m0l.toList 0 = some (some (i, .int .i64 (f.nothM.cls : Int))) := by
  unfold famB Fm.nothM
  by_cases h1 : f.fam = 1
  · rw [if_pos h1, if_pos h1]; exact ⟨0, rfl⟩
  · rw [if_neg h1, if_neg h1]
    by_cases h2 : f.fam = 2
    · rw [if_pos h2, if_pos h2]; exact ⟨1, rfl⟩
    · rw [if_neg h2, if_neg h2]; exact ⟨2, rfl⟩
 obtain ⟨i, hF⟩ := hF
 have hK := f0x d1y Tryz.underlying5 hM (famB f) hF
 simp only [m0l] at hL hK
 clear hM hF U3
 go_wp2_with fail
 have hC : Bt ((w.alloc (Obj.cells #[.int .i64 (f.nothM.cls : Int), .bool false, .slice none 0 0, .int .i64 0] 75)).alloc (Obj.map m0l 3)) w.heap.size 75 #[.int .i64 (f.nothM.cls : Int), .bool false, .slice none 0 0, .int .i64 0] := by
  show ((w.heap.push _).push _)[_]? = _
  rw [Array.getElem?_push_lt (by rw [Array.size_push]; omega)]
  simp
 simp only [m0l] at hC
 have ⟨b0, b1, b2, b3⟩ := hC.bx.e4
 refine bodyPost_ret (v := .agg #[.int .i64 (f.nothM.cls : Int), .bool false, .slice none 0 0, .int .i64 0]) (by simp [results, Tryz.results141, go_sem, b0, b1, b2, b3]) rfl ⟨rfl, ?_⟩
 refine ((Below.refl _ _).alloc (Nat.le_refl _) _).alloc ?_ _
 show _ ≤ (w.heap.push _).size
 rw [Array.size_push]; omega
def h1v (w : World) (v : Vl) (en : Ending) (w' : World) : Prop :=
 ∃ p c, en = .returned (.agg #[.int .i64 (v.cls : Int), .bool v.neg, .slice p (dig B32 v.d).length c, .int .i64 v.pow]) ∧ Own w' w.heap.size .u32 141 p c (dig B32 v.d) ∧ Below w.heap.size w w'
theorem f0a (f : Fm) (n way a : Int) (g : Bool) (u : Nat) (w : World) (U : Bt w u 182 #[.int .i64 n, .int .i64 way, .int .i64 f.g.rad, .int .i64 f.g.digs, .int .i64 f.g.lo, .int .i64 f.g.hi, .bool f.g.grad, .int .u8 (famB f), .int .i64 a]) (hd : 0 ≤ f.g.digs ∧ f.g.digs ≤ 1000) :
 Calls Tryz.prog 164 #[.pointer (some ⟨u, 0, none⟩), .bool g] w (h1v w ⟨2, g, 2 ^ (wid f.g * f.g.digs.toNat) - 1, f.g.hi⟩) := by
 have wp := b0l f.g
 have lu := U.lt
 have hmw : ((wid f.g * f.g.digs.toNat : Nat) : Int) = (wid f.g : Nat) * f.g.digs := by rw [Int.natCast_mul, Int.toNat_of_nonneg hd.1]
 have hmb : wid f.g * f.g.digs.toNat ≤ 4 * 1000 := Nat.mul_le_mul wp.2 (by omega)
 have l1 : (dig B32 1).length ≤ 1 := by rw [a0l a0b]; unfold B32; omega
 have l2 : (dig B32 (2 ^ (wid f.g * f.g.digs.toNat))).length ≤ 126 := a0t (n := wid f.g * f.g.digs.toNat + 1) (k := 126) (Nat.pow_lt_pow_right (a := 2) (by omega) (by omega)) (by omega)
 have h1 := Nat.one_le_two_pow (n := wid f.g * f.g.digs.toNat)
 have HW := fun W u hU => hi0 (a1p f n way a u W hU)
 generalize wid f.g * f.g.digs.toNat = m at *
 generalize hx : 2 ^ m = x at *
 have HX := hi0 hx
 clear hx
 have HM := hi0 hmw
 clear hmw
 have I := Inv.startR w [u] [⟨182, (uS f n way a), true⟩] [] ⟨U, True.intro⟩ True.intro
 refine a0g [.p 0 0, .v (.bool g)] I Tryz.func164 ?_
 refine zq I (fun Al W I => (HW W _ (I.box 0 182 _)).out) fun Al W I => ?_
 refine zd [] I fun Al W I => ?_
 refine zk [1, 2, 3, 4, 5, 6] I fun I => ?_
 refine zki 7 I .i64 (((wid f.g : Nat) : Int) * f.g.digs) ((m : Int)) ((by rw [HM.out]; exact IntWalk.i64_in _ (by rw [← HM.out]; omega))) fun I => ?_
 refine zo 0 I fun I => ?_
 refine zqo I (fun Al W I => have hzW := I.bel.size; sof 1 1 rfl (by omega) W) fun Al W p9 c9 I => ?_
 refine zo 8 I fun I => ?_
 refine zqo I (fun Al W I => have hzW := I.bel.size; sshl p9 _ c9 1 m x _ W I.fa.1.rd rfl (by omega) (by omega) rfl (by rw [HX.out]; omega)) fun Al W p17 c17 I => ?_
 refine zo 9 I fun I => ?_
 refine zqo I (fun Al W I => have hzW := I.bel.size; sof 1 1 rfl (by omega) W) fun Al W p18 c18 I => ?_
 refine zo 10 I fun I => ?_
 refine zqo I (fun Al W I => have hzW := I.bel.size; ssub p17 p18 _ _ c17 c18 x 1 (x - 1) W I.fa.2.1.rd I.fa.1.rd rfl rfl (by omega) (by omega) rfl) fun Al W p19 c19 I => ?_
 refine zk [11] I fun I => ?_
 exact zret I fun Al W I => ⟨p19, c19, rfl, I.fa.1.mono (by omega), I.below⟩
def k0p (f : Fm) (n way c : Int) (u : Nat) (w : World) (v : Vl) (en : Ending) (w' : World) : Prop :=
 ∃ p k, en = .returned (.agg #[.int .i64 (v.cls : Int), .bool v.neg, .slice p (dig B32 v.d).length k, .int .i64 v.pow]) ∧ Own w' w.heap.size .u32 141 p k (dig B32 v.d) ∧ Kp [u] w w' ∧ Bt w' u 182 #[.int .i64 n, .int .i64 way, .int .i64 f.g.rad, .int .i64 f.g.digs, .int .i64 f.g.lo, .int .i64 f.g.hi, .bool f.g.grad, .int .u8 (famB f), .int .i64 c]
theorem d1z (f : Fm) (n way a c : Int) (g : Bool) (u : Nat) (w : World) (U : Bt w u 182 #[.int .i64 n, .int .i64 way, .int .i64 f.g.rad, .int .i64 f.g.digs, .int .i64 f.g.lo, .int .i64 f.g.hi, .bool f.g.grad, .int .u8 (famB f), .int .i64 a]) (hd : 0 ≤ f.g.digs ∧ f.g.digs ≤ 1000) (hc : bits .or .i64 a 5 = c) (h2 : f.fam = 2) :
 Calls Tryz.prog 180 #[.pointer (some ⟨u, 0, none⟩), .bool g] w (k0p f n way c u w ⟨2, g, 2 ^ (wid f.g * f.g.digs.toNat) - 1, f.g.hi⟩) := by
 have hF : famB f = 66 := by unfold famB; rw [if_neg (by omega), if_pos h2]
 have HR := fun W u hU => hi0 (c0i f n way a 5 c u W hU hc)
 have HG := fun W u hU => hi0 (f0a f n way c g u W hU hd)
 generalize 2 ^ (wid f.g * f.g.digs.toNat) - 1 = m at *
 have I := Inv.startW w u 182 (uS f n way a) [] U True.intro True.intro
 refine a0g [.p 0 0, .v (.bool g)] I Tryz.func180 ?_
 refine zge I 0 182 (fun Al W I => (HR W _ (I.box 0 182 _)).out) fun Al V Iv _ _ kz => ?_
 rintro _ W ⟨rfl, hO, hB⟩
 refine ⟨_, rfl, kz _ (uS f n way c) _ hO hB fun I => ?_⟩
 refine zb I 13 ((famB f) == 66) (true) (beq_iff_eq.2 hF) fun Al W I => ?_
 refine zqo I (fun Al W I => (HG W _ (I.box 0 182 _)).out) fun Al W p16 c16 I => ?_
 exact zret I fun Al W I => ⟨p16, c16, rfl, I.fa.1.mono (by omega), I.bel, I.boxE 182 _⟩
theorem d0m {f : Fm} {n way c : Int} {u k : Nat} {g : Bool} {w w' : World} {en : Ending} (h : en = .returned (.agg #[.int .i64 (k : Int), .bool g, .slice none 0 0, .int .i64 0])) (hk : Kp [u] w w') (hb : Bt w' u 182 #[.int .i64 n, .int .i64 way, .int .i64 f.g.rad, .int .i64 f.g.digs, .int .i64 f.g.lo, .int .i64 f.g.hi, .bool f.g.grad, .int .u8 (famB f), .int .i64 c]) : k0p f n way c u w ⟨k, g, 0, 0⟩ en w' := by
 refine ⟨none, 0, ?_, ?_, hk, hb⟩
 · rw [h, a0f]; rfl
 · show Own _ _ _ _ _ _ (dig B32 0); rw [a0f]; exact Own.nil _ _ _ _
theorem e1b (f : Fm) (n way a c : Int) (g : Bool) (u : Nat) (w : World) (U : Bt w u 182 #[.int .i64 n, .int .i64 way, .int .i64 f.g.rad, .int .i64 f.g.digs, .int .i64 f.g.lo, .int .i64 f.g.hi, .bool f.g.grad, .int .u8 (famB f), .int .i64 a]) (hc : bits .or .i64 a 5 = c) (h1 : f.fam ≠ 1) (h2 : f.fam ≠ 2) :
 Calls Tryz.prog 180 #[.pointer (some ⟨u, 0, none⟩), .bool g] w (k0p f n way c u w ⟨f.nothM.cls, false, 0, 0⟩) := by
 have hF : famB f = 67 := by unfold famB; rw [if_neg h1, if_neg h2]
 have HR := fun W u hU => hi0 (c0i f n way a 5 c u W hU hc)
 have HG := fun W u hU => hi0 (h0h f n way c u W hU)
 generalize f.nothM.cls = k at *
 have I := Inv.startW w u 182 (uS f n way a) [] U True.intro True.intro
 refine a0g [.p 0 0, .v (.bool g)] I Tryz.func180 ?_
 refine zge I 0 182 (fun Al W I => (HR W _ (I.box 0 182 _)).out) fun Al V Iv _ _ kz => ?_
 rintro _ W ⟨rfl, hO, hB⟩
 refine ⟨_, rfl, kz _ (uS f n way c) _ hO hB fun I => ?_⟩
 refine zb I 13 ((famB f) == 66) (false) (bFn (by rw [hF]; decide)) fun Al W I => ?_
 refine zb I 18 ((famB f) == 67) (true) (beq_iff_eq.2 hF) fun Al W I => ?_
 refine zq I (fun Al W I => (HG W _ (I.box 0 182 _)).out) fun Al W I => ?_
 exact zret I fun Al W I => d0m rfl I.bel (I.boxE 182 _)
theorem e0q (g : Bool) (w : World) : Calls Tryz.prog 118 #[.bool g] w fun e w' => e = .returned (.agg #[.int .i64 3, .bool g, .slice none 0 0, .int .i64 0]) ∧ Below w.heap.size w w' := by
 have I := Inv.start w [] True.intro
 refine a0g [.v (.bool g)] I Tryz.func118 ?_
 exact zrb I
theorem h0i (k : Nat) (g : Bool) (p : Option Addr) (l c : Nat) (pw : Int) (w : World) : Calls Tryz.prog 147 #[.agg #[.int .i64 (k : Int), .bool g, .slice p l c, .int .i64 pw]] w fun e w' => e = .returned (.bool (decide (k = 4) || decide (k = 5))) ∧ Below w.heap.size w w' := by
 have e4 : ((k : Int) == 4) = decide (k = 4) := by rw [Bool.eq_iff_iff]; simp; omega
 have e5 : ((k : Int) == 5) = decide (k = 5) := by rw [Bool.eq_iff_iff]; simp; omega
 generalize decide (k = 5) = q at *
 by_cases h : k = 4
 · rw [decide_eq_true h] at e4 ⊢
   have I := Inv.start w [] True.intro
   refine a0g [.v (.agg #[.int .i64 (k : Int), .bool g, .slice p l c, .int .i64 pw])] I Tryz.func147 ?_
   refine zb I 5 ((k : Int) == 4) (true) (e4) fun Al W I => ?_
   exact zret I (v := fun Al => .bool true) fun Al W I => ⟨by rw [Bool.true_or], I.below⟩
 · rw [decide_eq_false h] at e4 ⊢
   have I := Inv.start w [] True.intro
   refine a0g [.v (.agg #[.int .i64 (k : Int), .bool g, .slice p l c, .int .i64 pw])] I Tryz.func147 ?_
   refine zb I 5 ((k : Int) == 4) (false) (e4) fun Al W I => ?_
   refine zb I 9 ((k : Int) == 5) (q) (e5) fun Al W I => ?_
   exact zret I (v := fun Al => .bool q) fun Al W I => ⟨by rw [Bool.false_or], I.below⟩
theorem a0a (k : Nat) (g : Bool) (p : Option Addr) (l c : Nat) (pw : Int) (w : World) : Calls Tryz.prog 115 #[.agg #[.int .i64 (k : Int), .bool g, .slice p l c, .int .i64 pw]] w fun e w' => e = .returned (.bool (decide (k = 3))) ∧ Below w.heap.size w w' := by
 have e : ((k : Int) == 3) = decide (k = 3) := by rw [Bool.eq_iff_iff]; simp; omega
 have I := Inv.start w [] True.intro
 refine a0g [.v (.agg #[.int .i64 (k : Int), .bool g, .slice p l c, .int .i64 pw])] I Tryz.func115 ?_
 exact zret I fun Al W I => ⟨congrArg (fun b => Ending.returned (.bool b)) e, I.below⟩
theorem a0i (k : Nat) (g : Bool) (p : Option Addr) (l c : Nat) (pw : Int) (w : World) : Calls Tryz.prog 116 #[.agg #[.int .i64 (k : Int), .bool g, .slice p l c, .int .i64 pw]] w fun e w' => e = .returned (.bool (decide (k = 1))) ∧ Below w.heap.size w w' := by
 have e : ((k : Int) == 1) = decide (k = 1) := by rw [Bool.eq_iff_iff]; simp; omega
 have I := Inv.start w [] True.intro
 refine a0g [.v (.agg #[.int .i64 (k : Int), .bool g, .slice p l c, .int .i64 pw])] I Tryz.func116 ?_
 exact zret I fun Al W I => ⟨congrArg (fun b => Ending.returned (.bool b)) e, I.below⟩
end Go.Proofs.YtmacohmclpnphaaGreatDoor
namespace Go.Slip
def LL (bs : List Nat) (i : Nat) : List Nat := bs.take i ++ List.replicate (bs.length - i) 0
theorem m0m (bs : List Nat) (i : Nat) : (LL bs i).length = bs.length := by unfold LL; rw [List.length_append, List.length_take, List.length_replicate]; omega
theorem h1w (bs : List Nat) : LL bs 0 = List.replicate bs.length 0 := by unfold LL; rw [List.take_zero]; rfl
theorem k1q (bs : List Nat) : LL bs bs.length = bs := by unfold LL; rw [List.take_length, Nat.sub_self]; simp
theorem a1q (bs : List Nat) (i j : Nat) : dg (LL bs i) j = if j < i then dg bs j else 0 := by
 unfold LL
 by_cases h : j < (bs.take i).length
 · rw [p0v h]
   have h2 : j < i := by rw [List.length_take] at h; omega
   rw [j0n h2, if_pos h2]
 · rw [p0w (by omega), c0q]
   split
   · rw [c0w]
     rw [List.length_take] at h
     omega
   · rfl
theorem k1r (bs : List Nat) {i : Nat} (h : i < bs.length) : (LL bs i).set i (dg bs i) = LL bs (i + 1) := by
 refine n0o (by rw [List.length_set, m0m, m0m]) fun j hj => ?_
 rw [List.length_set, m0m] at hj
 by_cases e : i = j
 · subst e
   rw [b0b (by rw [m0m]; exact h), a1q, if_pos (by omega)]
 · rw [b0p e, a1q, a1q]
   by_cases k : j < i
   · rw [if_pos k, if_pos (by omega)]
   · rw [if_neg k, if_neg (by omega)]
theorem h1x (bs : List Nat) {i : Nat} (h0 : dg bs i = 0) : LL bs i = LL bs (i + 1) := by
 refine n0o (by rw [m0m, m0m]) fun j _ => ?_
 rw [a1q, a1q]
 by_cases e : j = i
 · subst e
   rw [if_neg (by omega), if_pos (by omega), h0]
 · by_cases k : j < i
   · rw [if_pos k, if_pos (by omega)]
   · rw [if_neg k, if_neg (by omega)]
theorem a1r (n : Nat) : IntKind.u8.wrap (n : Int) = ((n % 256 : Nat) : Int) := by
 simp [IntKind.wrap, IntKind.signed, IntKind.bits]
theorem a1s (n : Nat) : dg (dig B32 n) 0 = n % 4294967296 := by
 rcases Nat.eq_zero_or_pos n with h | h
 · subst h; rw [a0f]; rfl
 · rw [f0c a0b h]; rfl
section
open Go.RowKit
variable {P : Program} {ops : Array Oper} {Q : Exit → Act → World → Prop} {a : Act} {w : World} {rest : List Oper} {o : Oper}
theorem smkn (d : Nat) {x y : Operand} {t : TypeId} {e : TypeId} {k : IntKind} {bytes : Nat} (hty : k0s P t e (.int k 0) bytes) (n : Nat) (hb : n ≤ 4000000000)
 (h : ∀ p' c' w', Own w' w.heap.size k e p' c' (List.replicate n 0) → Below w.heap.size w w' → WpL P ops Q rest (a.put (some d) (.slice p' n c')) w')
 (hx : a.eval x = .int .i64 (n : Int) := by kernel_rfl) (hy : a.eval y = .int .i64 (n : Int) := by kernel_rfl)
 (ho : o.op = .makeSlice t x y := by rfl) (hd : o.dst = some d := by kernel_rfl)
 (hw : Region.wanted o (yielded ops a.tmps) = true := by kernel_rfl) : WpL P ops Q (o :: rest) a w :=
 c0h (j1u (some d) hd x y t ho hty .i64 .i64 n hx hy hb hw fun p' c' w' h1 h2 => h p' c' w' (u0e (by rw [List.map_replicate]; exact h1)) h2)
end
end Go.Slip
namespace Go.Proofs.YtmacohmclpnphaaGreatDoor
open Go.RowKit Go.Slip
theorem u0s (f : Fm) (g : Bool) (e x : Nat) (p : Option Addr) (c : Nat) (w : World) (G : b0g f) (hp : Rd w .u32 p (dig B32 x)) (he : e < 2 ^ f.E) (hx : x < 2 ^ f.F) :
 Calls Tryz.prog 106 #[.agg #[.int .i64 (f.size : Int), .int .i64 (f.E : Int), .int .i64 (f.F : Int), .int .i64 f.g.rad, .int .i64 f.g.digs, .int .i64 f.g.lo, .int .i64 f.g.hi, .bool f.g.grad, .bool f.hid, .bool f.inf, .bool f.res, .func (.func (ordF f)) #[] #[]], .agg #[.bool g, .int .i64 (e : Int), .slice p (dig B32 x).length c]] w fun en w' => en = .returned (.string (b0a (f.str g e x))) ∧ Below w.heap.size w w' := by
 have z1 := G.sz
 have z2 := G.e2
 have z3 := G.f2
 have z4 := G.bits
 have hlt := f1p G (neg := g) he hx
 have hxl := a0t hx (k := 2) (by omega)
 have hT : g.toNat * 2 ^ f.E + e < 2 ^ 16 := by
  have h1 : 2 ^ f.E ≤ 2 ^ 15 := Nat.pow_le_pow_right (by omega) (by omega)
  cases g <;> simp <;> omega
 have hpw : 2 ^ f.E ≤ 2 ^ 15 := Nat.pow_le_pow_right (by omega) (by omega)
 have hsh := o0z (E := f.E) (by omega)
 have hor := w0a (x := e) (E := f.E) he (by omega)
 have h80 : f.pat g e x < 2 ^ 80 := Nat.lt_of_lt_of_le hlt (Nat.pow_le_pow_right (by omega) (by omega))
 unfold Fm.str
 have hpe : f.pat g e x = (g.toNat * 2 ^ f.E + e) * 2 ^ f.F + x := rfl
 have hord := fun (W : World) (base : Nat) (p : Option Addr) (c : Nat) (xs : List Nat) h1 h2 h3 => z0w f base p f.size c xs W G h1 h2.symm h2 h3
 generalize hNN : f.pat g e x = NN at *
 have hbl : (d0t NN f.size).length = f.size := d0q _ _
 have hdg := fun i h => q0u f.size NN i h
 have hbs := fun i h => k1r (d0t NN f.size) (i := i) h
 have hbz := fun i h => h1x (d0t NN f.size) (i := i) h
 have hball := k1q (d0t NN f.size)
 have hb0 := h1w (d0t NN f.size)
 have hLl := m0m (d0t NN f.size)
 rw [hbl] at hball hb0
 generalize d0t NN f.size = bs at *
 generalize h2E : 2 ^ f.E = P at *
 have hNl := a0t h80 (k := 3) (by omega)
 have hTl : (dig B32 ((g.toNat * P + e) * 2 ^ f.F)).length ≤ 3 := a0t (n := 80) (by omega) (by omega)
 have hQl : ∀ N, (dig B32 (NN / 2 ^ N)).length ≤ 3 := fun N => a0t (n := 80) (Nat.lt_of_le_of_lt (Nat.div_le_self _ _) h80) (by omega)
 have HSH := hi0 hsh
 have HOR := hi0 hor
 have HPE := hi0 hpe
 have HB0 := hi0 hb0
 clear hsh hor hpe hb0 hlt h80 hNN h2E
 have hT3 : e0a Tryz.prog 3 := c0p (by kernel_rfl) (by kernel_rfl)
 have hT4 : e0a Tryz.prog 4 := c0p (by kernel_rfl) (by kernel_rfl)
 have hT73 : e0a Tryz.prog 73 := c0p (by kernel_rfl) (by kernel_rfl)
 have hT144 : e0a Tryz.prog 144 := c0p (by kernel_rfl) (by kernel_rfl)
 refine calls_of_wp Tryz.func106 rfl ?_
 refine b0d (a' := ⟨((.agg #[.int .i64 (f.size : Int), .int .i64 (f.E : Int), .int .i64 (f.F : Int), .int .i64 f.g.rad, .int .i64 f.g.digs, .int .i64 f.g.lo, .int .i64 f.g.hi, .bool f.g.grad, .bool f.hid, .bool f.inf, .bool f.res, .func (.func (ordF f)) #[] #[]]) :: (.agg #[.bool g, .int .i64 (e : Int), .slice p (dig B32 x).length c]) :: us 58 []).toArray, []⟩) (by kernel_rfl) ?_
 refine ye ?_
 refine yw 0 rfl 2 #[.int .i64 (f.size : Int), .int .i64 (f.E : Int), .int .i64 (f.F : Int), .int .i64 f.g.rad, .int .i64 f.g.digs, .int .i64 f.g.lo, .int .i64 f.g.hi, .bool f.g.grad, .bool f.hid, .bool f.inf, .bool f.res, .func (.func (ordF f)) #[] #[]] 146 (fun V1 hbV1 hzV1 b2 => ?_)
 refine yw 0 rfl 3 #[.bool g, .int .i64 (e : Int), .slice p (dig B32 x).length c] 157 (fun V2 hbV2 hzV2 b3 => ?_)
 refine yzt 1 ?_
 refine ye ?_
 refine yl 1 rfl 11 b3 hT3 1 ?_
 refine yzt 1 ?_
 refine wp_seq ?_
 refine ye ?_
 rcases Bool.eq_false_or_eq_true (g) with f13 | f13
 · refine ylb 1 rfl 13 b3 hT4 0 (g) true (f13) ?_
   refine yzt 0 ?_
   refine yT ?_
   refine c0g ?_
   have b2_w2 := b2.past hbV2
   refine yl 2 rfl 16 b2_w2 hT3 1 ?_
   refine yv 0 rfl 17 (.int .i64 (P : Int)) ?_ (k0v (X := (1)) (Y := (f.E : Int)) (k2 := .i64) (P : Int) (by kernel_rfl) (by kernel_rfl) (by omega) ((HSH.out)))
   refine yv 0 rfl 18 (.int .i64 ((P + e : Nat) : Int)) ?_ (g1u (X := (e : Int)) (Y := ((P : Int))) ((P + e : Nat) : Int) (by kernel_rfl) (by kernel_rfl) ((HOR.out)))
   refine yz 1 ?_
   refine b0f ?_
   refine wp_seq ?_
   obtain ⟨V3, hVV3, hbV3, hzV3⟩ := o0o V2
   have b2_w3 := b2.past (a0h hbV2 hbV3)
   replace b3 := (b3.past hbV3)
   refine yd2 hVV3 ⟨b2_w3, b3⟩ ?_
   clear hVV3
   refine yt 7 [0, 2] rfl ⟨b2_w3, b3⟩ ?_
   refine ytl 3 rfl 22 (fun _ h => h.1) hT3 2 ⟨b2_w3, b3⟩ ?_
   refine yt 5 [5] rfl ⟨b2_w3, b3⟩ ?_
   refine ytl 6 rfl 25 (fun _ h => h.2) hT73 2 ⟨b2_w3, b3⟩ ?_
   refine sxr [1] ?_
   refine rd1 (fun Kx hKx => ?_)
   refine yck 20 (sof ((P + e : Nat) : Int) (g.toNat * P + e) (by rw [f13, Bool.toNat_true, Nat.one_mul]) (by omega) V3) ?_
   rintro eV4 V4 ⟨p20, c20, rfl, o20, hbV4⟩
   have hzV4 := hbV4.size
   refine ⟨_, rfl, ?_⟩
   have b2_w4 := b2.past (a0h (a0h hbV2 hbV3) hbV4)
   replace b3 := (b3.past hbV4)
   refine hKx.out _ _ ⟨b2_w4, b3⟩ ?_
   clear hKx Kx
   refine sxr [4] ?_
   refine rd1 (fun Kx hKx => ?_)
   refine yck 23 (sshl p20 _ c20 (g.toNat * P + e) f.F ((g.toNat * P + e) * 2 ^ f.F) _ V4 o20.rd rfl (by have := a0t hT (k := 1) (by omega); omega) (by omega) rfl rfl) ?_
   rintro eV5 V5 ⟨p23, c23, rfl, o23, hbV5⟩
   have hzV5 := hbV5.size
   refine ⟨_, rfl, ?_⟩
   have b2_w5 := b2.past (a0h (a0h (a0h hbV2 hbV3) hbV4) hbV5)
   replace b3 := (b3.past hbV5)
   refine hKx.out _ _ ⟨b2_w5, b3⟩ ?_
   clear hKx Kx
   refine sxr [7] ?_
   refine rd1 (fun Kx hKx => ?_)
   replace hp := (hp.past (a0h (a0h (a0h (a0h hbV1 hbV2) hbV3) hbV4) hbV5))
   refine yck 26 (sadd p23 p _ _ c23 c ((g.toNat * P + e) * 2 ^ f.F) x NN V5 o23.rd hp rfl rfl (by omega) (by omega) HPE.out.symm) ?_
   rintro eV6 V6 ⟨p26, c26, rfl, o26, hbV6⟩
   have hzV6 := hbV6.size
   refine ⟨_, rfl, ?_⟩
   have b2_w6 := b2.past (a0h (a0h (a0h (a0h hbV2 hbV3) hbV4) hbV5) hbV6)
   replace b3 := (b3.past hbV6)
   refine hKx.out _ _ ⟨b2_w6, b3⟩ ?_
   clear hKx Kx
   refine yt 0 [8] rfl ⟨b2_w6, b3⟩ ?_
   refine l0l (by kernel_rfl) ?_
   refine b0f ?_
   refine ye ?_
   refine yl 1 rfl 28 b2_w6 hT3 0 ?_
   refine smkn 29 k0d f.size (by omega) (fun p29 c29 V7 b29 hjV7 => ?_)
   have hbV7 : Below V6.heap.size V6 V7 := (Below.refl _ _).trans (hjV7.mono (by omega))
   have hzV7 := hbV7.size
   refine yzt 1 ?_
   refine wp_seq ?_
   refine yq ?_
   refine wp_block ?_
   refine b0d (a' := ⟨((.agg #[.int .i64 (f.size : Int), .int .i64 (f.E : Int), .int .i64 (f.F : Int), .int .i64 f.g.rad, .int .i64 f.g.digs, .int .i64 f.g.lo, .int .i64 f.g.hi, .bool f.g.grad, .bool f.hid, .bool f.inf, .bool f.res, .func (.func (ordF f)) #[] #[]]) :: (.agg #[.bool g, .int .i64 (e : Int), .slice p (dig B32 x).length c]) :: (.pointer (some ⟨w.heap.size, 0, none⟩)) :: (.pointer (some ⟨V1.heap.size, 0, none⟩)) :: (Go.Value.string (ByteArray.mk #[])) :: (.int .i64 ((P + e : Nat) : Int)) :: (.slice p26 (dig B32 NN).length c26) :: (.slice p29 f.size c29) :: us 2 ((.pointer (some ⟨V1.heap.size, 1, none⟩)) :: (.int .i64 (e : Int)) :: (.pointer (some ⟨V1.heap.size, 0, none⟩)) :: (.bool true) :: (.int .i64 (e : Int)) :: (.pointer (some ⟨w.heap.size, 1, none⟩)) :: (.int .i64 (f.E : Int)) :: (.int .i64 (P : Int)) :: (.int .i64 ((P + e : Nat) : Int)) :: (.int .i64 ((P + e : Nat) : Int)) :: (.slice p20 (dig B32 (g.toNat * P + e)).length c20) :: (.pointer (some ⟨w.heap.size, 2, none⟩)) :: (.int .i64 (f.F : Int)) :: (.slice p23 (dig B32 ((g.toNat * P + e) * 2 ^ f.F)).length c23) :: (.pointer (some ⟨V1.heap.size, 2, none⟩)) :: (.slice p (dig B32 x).length c) :: (.slice p26 (dig B32 NN).length c26) :: (.pointer (some ⟨w.heap.size, 0, none⟩)) :: (.int .i64 (f.size : Int)) :: (.slice p29 f.size c29) :: (.slice p29 f.size c29) :: (.int .i64 (f.size : Int)) :: (.int .i64 0) :: us 27 [])).toArray, []⟩) (by kernel_rfl) ?_
   refine o0n (fun (gk : Nat) U0 a' w' => ∃ (i : Nat), a' = ⟨((.agg #[.int .i64 (f.size : Int), .int .i64 (f.E : Int), .int .i64 (f.F : Int), .int .i64 f.g.rad, .int .i64 f.g.digs, .int .i64 f.g.lo, .int .i64 f.g.hi, .bool f.g.grad, .bool f.hid, .bool f.inf, .bool f.res, .func (.func (ordF f)) #[] #[]]) :: (.agg #[.bool g, .int .i64 (e : Int), .slice p (dig B32 x).length c]) :: (.pointer (some ⟨w.heap.size, 0, none⟩)) :: (.pointer (some ⟨V1.heap.size, 0, none⟩)) :: (Go.Value.string (ByteArray.mk #[])) :: (.int .i64 ((P + e : Nat) : Int)) :: (.slice p26 (dig B32 NN).length c26) :: (.slice p29 f.size c29) :: uvs U0 8 2 ((.pointer (some ⟨V1.heap.size, 1, none⟩)) :: (.int .i64 (e : Int)) :: (.pointer (some ⟨V1.heap.size, 0, none⟩)) :: (.bool true) :: (.int .i64 (e : Int)) :: (.pointer (some ⟨w.heap.size, 1, none⟩)) :: (.int .i64 (f.E : Int)) :: (.int .i64 (P : Int)) :: (.int .i64 ((P + e : Nat) : Int)) :: (.int .i64 ((P + e : Nat) : Int)) :: (.slice p20 (dig B32 (g.toNat * P + e)).length c20) :: (.pointer (some ⟨w.heap.size, 2, none⟩)) :: (.int .i64 (f.F : Int)) :: (.slice p23 (dig B32 ((g.toNat * P + e) * 2 ^ f.F)).length c23) :: (.pointer (some ⟨V1.heap.size, 2, none⟩)) :: (.slice p (dig B32 x).length c) :: (.slice p26 (dig B32 NN).length c26) :: (.pointer (some ⟨w.heap.size, 0, none⟩)) :: (.int .i64 (f.size : Int)) :: (.slice p29 f.size c29) :: (.slice p29 f.size c29) :: (.int .i64 (f.size : Int)) :: (.int .i64 (i : Int)) :: uvs U0 33 21 (us 6 []))).toArray, []⟩ ∧ (Own w' V6.heap.size .u8 5 p29 c29 (LL bs i)) ∧ Below V6.heap.size V6 w' ∧ (gk + i = f.size)) f.size ?_ (fun Gx hGx => ?_)
   · exact ⟨0, by kernel_rfl, (by rw [HB0.out]; exact b29), hbV7, (by omega)⟩
   rintro gk0 U0 _ V8 ⟨i, rfl, r29, hbV8, hgk⟩
   refine hGx _ _ _ ?_
   clear hGx Gx
   have hzV8 := hbV8.size
   refine ye ?_
   rcases Bool.eq_false_or_eq_true (decide ((i : Int) < (f.size : Int))) with f33 | f33
   · refine yb 0 rfl 33 (decide ((i : Int) < (f.size : Int))) (true) (f33) ?_
     refine yzt 0 ?_
     refine yTs ?_
     refine wp_skip ?_
     refine b0f ?_
     refine wp_seq ?_
     refine wp_block ?_
     refine yq ?_
     refine ye ?_
     have b2_w8 := b2.past (a0h (a0h (a0h (a0h (a0h hbV2 hbV3) hbV4) hbV5) hbV6) hbV8)
     refine yl 2 rfl 37 b2_w8 hT3 0 ?_
     refine ya 0 rfl 38 .i64 ((f.size : Int) - 1) (((f.size - 1 : Nat) : Int)) ((by rw [show ((f.size : Int) - 1) = ((f.size - 1 : Nat) : Int) by omega]; exact iwo)) ?_
     refine ya 1 rfl 40 .i64 (((f.size - 1 : Nat) : Int) - (i : Int)) (((f.size - 1 - i : Nat) : Int)) ((by rw [show (((f.size - 1 : Nat) : Int) - (i : Int)) = ((f.size - 1 - i : Nat) : Int) by have := oTr f33; omega]; exact iwo)) ?_
     refine ya 0 rfl 41 .i64 ((8 : Int) * ((f.size - 1 - i : Nat) : Int)) (((8 * (f.size - 1 - i) : Nat) : Int)) ((by rw [show ((8 : Int) * ((f.size - 1 - i : Nat) : Int)) = ((8 * (f.size - 1 - i) : Nat) : Int) by omega]; exact iwo)) ?_
     have o26_w8 := o26.past hbV8
     refine yc 0 rfl 42 (sshr p26 _ c26 NN (8 * (f.size - 1 - i)) (NN / 2 ^ (8 * (f.size - 1 - i))) _ V8 o26_w8.rd rfl (by have := o26_w8.le_cap; omega) (by omega) (by omega) rfl rfl) (fun Gx hGx => ?_)
     rintro eV9 V9 ⟨p42, c42, rfl, o42, hbV9⟩
     have hzV9 := hbV9.size
     refine ⟨_, rfl, hGx _ _ ?_⟩
     clear hGx Gx
     refine yzt 1 ?_
     have hi := oTr f33
     have hdi := hdg i (by omega)
     have hq0 := a0k a0b (NN / 2 ^ (8 * (f.size - 1 - i)))
     refine ye ?_
     rcases Bool.eq_false_or_eq_true (decide ((((dig B32 (NN / 2 ^ (8 * (f.size - 1 - i)))).length : Nat) : Int) > 0)) with f45 | f45
     · refine yb 2 rfl 45 (decide ((((dig B32 (NN / 2 ^ (8 * (f.size - 1 - i)))).length : Nat) : Int) > 0)) (true) (f45) ?_
       refine yzt 0 ?_
       refine yT ?_
       refine c0g ?_
       refine yv 3 rfl 49 (.pointer (some (at_ p42 0))) ?_ (o0w (p := p42) (n := (dig B32 (NN / 2 ^ (8 * (f.size - 1 - i)))).length) (c := c42) (m := 0) c0d o42.rd.solid (by kernel_rfl) (by kernel_rfl) (by have := oTr f45; omega))
       refine yv 0 rfl 50 (.int .u32 ((dg (dig B32 (NN / 2 ^ (8 * (f.size - 1 - i)))) 0 : Nat) : Int)) ?_ (k0w o42.rd h1o (m := 0) (by kernel_rfl) (by have := oTr f45; omega) rfl)
       refine ya 0 rfl 51 .u8 ((dg (dig B32 (NN / 2 ^ (8 * (f.size - 1 - i)))) 0 : Nat) : Int) (((dg bs i : Nat) : Int)) ((by rw [a1r, a1s, hdi]; congr 1; exact Nat.mod_mod_of_dvd _ (by decide))) ?_
       replace r29 := (r29.past hbV9)
       refine yv 0 rfl 52 (.pointer (some (at_ p29 i))) ?_ (u0g (p := p29) (n := f.size) (c := c29) (m := i) k0d (by have h := r29.solid; rw [hLl, hbl] at h; exact h) (by kernel_rfl) (by kernel_rfl) (by omega))
       refine j1w k0d V6.heap.size p29 c29 _ r29 i (by rw [hLl, hbl]; omega) (dg bs i) (fun V10 n29 hjV10 => ?_)
       have hbV10 : Below V6.heap.size V6 V10 := (a0h hbV8 hbV9).trans (hjV10.mono (by omega))
       have hzV10 := hbV10.size
       refine yz 0 ?_
       refine e0x ?_
       refine b0f ?_
       refine c0g ?_
       refine ya 0 rfl 53 .i64 ((i : Int) + 1) (((i + 1 : Nat) : Int)) ((by rw [show ((i : Int) + 1) = ((i + 1 : Nat) : Int) by omega]; exact iwo)) ?_
       refine yz 1 ?_
       refine b0f ?_
       refine ⟨gk0 - 1, (by omega), ?_⟩
       exact ⟨i + 1, by kernel_rfl, (by rw [← hbs i (by omega)]; exact n29), hbV10, (by omega)⟩
     refine yb 2 rfl 45 (decide ((((dig B32 (NN / 2 ^ (8 * (f.size - 1 - i)))).length : Nat) : Int) > 0)) (false) (f45) ?_
     refine yzt 0 ?_
     refine yF ?_
     refine wp_skip ?_
     refine e0x ?_
     refine b0f ?_
     refine c0g ?_
     refine ya 0 rfl 53 .i64 ((i : Int) + 1) (((i + 1 : Nat) : Int)) ((by rw [show ((i : Int) + 1) = ((i + 1 : Nat) : Int) by omega]; exact iwo)) ?_
     refine yz 1 ?_
     refine b0f ?_
     refine ⟨gk0 - 1, (by omega), ?_⟩
     replace r29 := (r29.past hbV9)
     exact ⟨i + 1, by kernel_rfl, (by rw [← hbz i (by rw [hdi, hq0.1 (by have := oFa f45; omega)])]; exact r29), (a0h hbV8 hbV9), (by omega)⟩
   refine yb 0 rfl 33 (decide ((i : Int) < (f.size : Int))) (false) (f33) ?_
   refine yzt 0 ?_
   refine yFs ?_
   refine wp_exit ?_
   repeat (with_reducible refine i0p ?_)
   refine s0e (id := 0) ?_
   refine b0f ?_
   have hi : i = f.size := by have := oFa f33; omega
   rw [hi, hball] at r29
   refine ye ?_
   have b2_w8 := b2.past (a0h (a0h (a0h (a0h (a0h hbV2 hbV3) hbV4) hbV5) hbV6) hbV8)
   refine yl 1 rfl 55 b2_w8 hT144 11 ?_
   refine yn 1 rfl ?_
   refine se 57 (ordF f) #[.slice p29 f.size c29] (fun Gx hGx => ?_) (hr := m0b (ordF f) (s0s f) (by kernel_rfl) (by kernel_rfl))
   ((with_reducible refine (hord V8 V6.heap.size p29 c29 bs r29.wr hbl (by omega)).mono ?_))
   rintro eV9 V9 ⟨rfl, x57, hjV9⟩
   have hbV9 : Below V6.heap.size V6 V9 := hbV8.trans (hjV9.mono (by omega))
   have hzV9 := hbV9.size
   refine ⟨.tuple #[], rfl, hGx _ _ ?_⟩
   clear hGx Gx
   refine yzt 0 ?_
   refine ye ?_
   refine yv 1 rfl 59 (.string (b0a (ordL f.ord bs))) ?_ (h0p (p := p29) (n := f.size) (c := c29) m0d s0v uStr x57.rd (by rw [c0e, hbl]) (by kernel_rfl))
   refine yzt 1 ?_
   refine wp_ret ?_
   repeat (first | with_reducible refine a0x ?_ | with_reducible refine a0r ?_)
   refine yret (.string (b0a (ordL f.ord bs))) (res1 Tryz.results106 rvt) ?_
   exact ⟨rfl, (a0h (a0h (a0h (a0h (a0h (a0h hbV1 hbV2) hbV3) hbV4) hbV5) hbV6) hbV9)⟩
 refine ylb 1 rfl 13 b3 hT4 0 (g) false (f13) ?_
 refine yzt 0 ?_
 refine yF ?_
 refine wp_skip ?_
 refine b0f ?_
 refine wp_seq ?_
 have b2_w2 := b2.past hbV2
 obtain ⟨V3, hVV3, hbV3, hzV3⟩ := o0o V2
 have b2_w3 := b2.past (a0h hbV2 hbV3)
 replace b3 := (b3.past hbV3)
 refine yd2 hVV3 ⟨b2_w3, b3⟩ ?_
 clear hVV3
 refine yt 7 [0, 2] rfl ⟨b2_w3, b3⟩ ?_
 refine ytl 3 rfl 22 (fun _ h => h.1) hT3 2 ⟨b2_w3, b3⟩ ?_
 refine yt 5 [5] rfl ⟨b2_w3, b3⟩ ?_
 refine ytl 6 rfl 25 (fun _ h => h.2) hT73 2 ⟨b2_w3, b3⟩ ?_
 refine sxr [1] ?_
 refine rd1 (fun Kx hKx => ?_)
 refine yck 20 (sof (e : Int) (g.toNat * P + e) (by rw [f13, Bool.toNat_false, Nat.zero_mul, Nat.zero_add]) (by omega) V3) ?_
 rintro eV4 V4 ⟨p20, c20, rfl, o20, hbV4⟩
 have hzV4 := hbV4.size
 refine ⟨_, rfl, ?_⟩
 have b2_w4 := b2.past (a0h (a0h hbV2 hbV3) hbV4)
 replace b3 := (b3.past hbV4)
 refine hKx.out _ _ ⟨b2_w4, b3⟩ ?_
 clear hKx Kx
 refine sxr [4] ?_
 refine rd1 (fun Kx hKx => ?_)
 refine yck 23 (sshl p20 _ c20 (g.toNat * P + e) f.F ((g.toNat * P + e) * 2 ^ f.F) _ V4 o20.rd rfl (by have := a0t hT (k := 1) (by omega); omega) (by omega) rfl rfl) ?_
 rintro eV5 V5 ⟨p23, c23, rfl, o23, hbV5⟩
 have hzV5 := hbV5.size
 refine ⟨_, rfl, ?_⟩
 have b2_w5 := b2.past (a0h (a0h (a0h hbV2 hbV3) hbV4) hbV5)
 replace b3 := (b3.past hbV5)
 refine hKx.out _ _ ⟨b2_w5, b3⟩ ?_
 clear hKx Kx
 refine sxr [7] ?_
 refine rd1 (fun Kx hKx => ?_)
 replace hp := (hp.past (a0h (a0h (a0h (a0h hbV1 hbV2) hbV3) hbV4) hbV5))
 refine yck 26 (sadd p23 p _ _ c23 c ((g.toNat * P + e) * 2 ^ f.F) x NN V5 o23.rd hp rfl rfl (by omega) (by omega) HPE.out.symm) ?_
 rintro eV6 V6 ⟨p26, c26, rfl, o26, hbV6⟩
 have hzV6 := hbV6.size
 refine ⟨_, rfl, ?_⟩
 have b2_w6 := b2.past (a0h (a0h (a0h (a0h hbV2 hbV3) hbV4) hbV5) hbV6)
 replace b3 := (b3.past hbV6)
 refine hKx.out _ _ ⟨b2_w6, b3⟩ ?_
 clear hKx Kx
 refine yt 0 [8] rfl ⟨b2_w6, b3⟩ ?_
 refine l0l (by kernel_rfl) ?_
 refine b0f ?_
 refine ye ?_
 refine yl 1 rfl 28 b2_w6 hT3 0 ?_
 refine smkn 29 k0d f.size (by omega) (fun p29 c29 V7 b29 hjV7 => ?_)
 have hbV7 : Below V6.heap.size V6 V7 := (Below.refl _ _).trans (hjV7.mono (by omega))
 have hzV7 := hbV7.size
 refine yzt 1 ?_
 refine wp_seq ?_
 refine yq ?_
 refine wp_block ?_
 refine b0d (a' := ⟨((.agg #[.int .i64 (f.size : Int), .int .i64 (f.E : Int), .int .i64 (f.F : Int), .int .i64 f.g.rad, .int .i64 f.g.digs, .int .i64 f.g.lo, .int .i64 f.g.hi, .bool f.g.grad, .bool f.hid, .bool f.inf, .bool f.res, .func (.func (ordF f)) #[] #[]]) :: (.agg #[.bool g, .int .i64 (e : Int), .slice p (dig B32 x).length c]) :: (.pointer (some ⟨w.heap.size, 0, none⟩)) :: (.pointer (some ⟨V1.heap.size, 0, none⟩)) :: (Go.Value.string (ByteArray.mk #[])) :: (.int .i64 (e : Int)) :: (.slice p26 (dig B32 NN).length c26) :: (.slice p29 f.size c29) :: us 2 ((.pointer (some ⟨V1.heap.size, 1, none⟩)) :: (.int .i64 (e : Int)) :: (.pointer (some ⟨V1.heap.size, 0, none⟩)) :: (.bool false) :: us 5 ((.int .i64 (e : Int)) :: (.slice p20 (dig B32 (g.toNat * P + e)).length c20) :: (.pointer (some ⟨w.heap.size, 2, none⟩)) :: (.int .i64 (f.F : Int)) :: (.slice p23 (dig B32 ((g.toNat * P + e) * 2 ^ f.F)).length c23) :: (.pointer (some ⟨V1.heap.size, 2, none⟩)) :: (.slice p (dig B32 x).length c) :: (.slice p26 (dig B32 NN).length c26) :: (.pointer (some ⟨w.heap.size, 0, none⟩)) :: (.int .i64 (f.size : Int)) :: (.slice p29 f.size c29) :: (.slice p29 f.size c29) :: (.int .i64 (f.size : Int)) :: (.int .i64 0) :: us 27 []))).toArray, []⟩) (by kernel_rfl) ?_
 refine o0n (fun (gk : Nat) U0 a' w' => ∃ (i : Nat), a' = ⟨((.agg #[.int .i64 (f.size : Int), .int .i64 (f.E : Int), .int .i64 (f.F : Int), .int .i64 f.g.rad, .int .i64 f.g.digs, .int .i64 f.g.lo, .int .i64 f.g.hi, .bool f.g.grad, .bool f.hid, .bool f.inf, .bool f.res, .func (.func (ordF f)) #[] #[]]) :: (.agg #[.bool g, .int .i64 (e : Int), .slice p (dig B32 x).length c]) :: (.pointer (some ⟨w.heap.size, 0, none⟩)) :: (.pointer (some ⟨V1.heap.size, 0, none⟩)) :: (Go.Value.string (ByteArray.mk #[])) :: (.int .i64 (e : Int)) :: (.slice p26 (dig B32 NN).length c26) :: (.slice p29 f.size c29) :: uvs U0 8 2 ((.pointer (some ⟨V1.heap.size, 1, none⟩)) :: (.int .i64 (e : Int)) :: (.pointer (some ⟨V1.heap.size, 0, none⟩)) :: (.bool false) :: us 5 ((.int .i64 (e : Int)) :: (.slice p20 (dig B32 (g.toNat * P + e)).length c20) :: (.pointer (some ⟨w.heap.size, 2, none⟩)) :: (.int .i64 (f.F : Int)) :: (.slice p23 (dig B32 ((g.toNat * P + e) * 2 ^ f.F)).length c23) :: (.pointer (some ⟨V1.heap.size, 2, none⟩)) :: (.slice p (dig B32 x).length c) :: (.slice p26 (dig B32 NN).length c26) :: (.pointer (some ⟨w.heap.size, 0, none⟩)) :: (.int .i64 (f.size : Int)) :: (.slice p29 f.size c29) :: (.slice p29 f.size c29) :: (.int .i64 (f.size : Int)) :: (.int .i64 (i : Int)) :: uvs U0 33 21 (us 6 [])))).toArray, []⟩ ∧ (Own w' V6.heap.size .u8 5 p29 c29 (LL bs i)) ∧ Below V6.heap.size V6 w' ∧ (gk + i = f.size)) f.size ?_ (fun Gx hGx => ?_)
 · exact ⟨0, by kernel_rfl, (by rw [HB0.out]; exact b29), hbV7, (by omega)⟩
 rintro gk0 U0 _ V8 ⟨i, rfl, r29, hbV8, hgk⟩
 refine hGx _ _ _ ?_
 clear hGx Gx
 have hzV8 := hbV8.size
 refine ye ?_
 rcases Bool.eq_false_or_eq_true (decide ((i : Int) < (f.size : Int))) with f33 | f33
 · refine yb 0 rfl 33 (decide ((i : Int) < (f.size : Int))) (true) (f33) ?_
   refine yzt 0 ?_
   refine yTs ?_
   refine wp_skip ?_
   refine b0f ?_
   refine wp_seq ?_
   refine wp_block ?_
   refine yq ?_
   refine ye ?_
   have b2_w8 := b2.past (a0h (a0h (a0h (a0h (a0h hbV2 hbV3) hbV4) hbV5) hbV6) hbV8)
   refine yl 2 rfl 37 b2_w8 hT3 0 ?_
   refine ya 0 rfl 38 .i64 ((f.size : Int) - 1) (((f.size - 1 : Nat) : Int)) ((by rw [show ((f.size : Int) - 1) = ((f.size - 1 : Nat) : Int) by omega]; exact iwo)) ?_
   refine ya 1 rfl 40 .i64 (((f.size - 1 : Nat) : Int) - (i : Int)) (((f.size - 1 - i : Nat) : Int)) ((by rw [show (((f.size - 1 : Nat) : Int) - (i : Int)) = ((f.size - 1 - i : Nat) : Int) by have := oTr f33; omega]; exact iwo)) ?_
   refine ya 0 rfl 41 .i64 ((8 : Int) * ((f.size - 1 - i : Nat) : Int)) (((8 * (f.size - 1 - i) : Nat) : Int)) ((by rw [show ((8 : Int) * ((f.size - 1 - i : Nat) : Int)) = ((8 * (f.size - 1 - i) : Nat) : Int) by omega]; exact iwo)) ?_
   have o26_w8 := o26.past hbV8
   refine yc 0 rfl 42 (sshr p26 _ c26 NN (8 * (f.size - 1 - i)) (NN / 2 ^ (8 * (f.size - 1 - i))) _ V8 o26_w8.rd rfl (by have := o26_w8.le_cap; omega) (by omega) (by omega) rfl rfl) (fun Gx hGx => ?_)
   rintro eV9 V9 ⟨p42, c42, rfl, o42, hbV9⟩
   have hzV9 := hbV9.size
   refine ⟨_, rfl, hGx _ _ ?_⟩
   clear hGx Gx
   refine yzt 1 ?_
   have hi := oTr f33
   have hdi := hdg i (by omega)
   have hq0 := a0k a0b (NN / 2 ^ (8 * (f.size - 1 - i)))
   refine ye ?_
   rcases Bool.eq_false_or_eq_true (decide ((((dig B32 (NN / 2 ^ (8 * (f.size - 1 - i)))).length : Nat) : Int) > 0)) with f45 | f45
   · refine yb 2 rfl 45 (decide ((((dig B32 (NN / 2 ^ (8 * (f.size - 1 - i)))).length : Nat) : Int) > 0)) (true) (f45) ?_
     refine yzt 0 ?_
     refine yT ?_
     refine c0g ?_
     refine yv 3 rfl 49 (.pointer (some (at_ p42 0))) ?_ (o0w (p := p42) (n := (dig B32 (NN / 2 ^ (8 * (f.size - 1 - i)))).length) (c := c42) (m := 0) c0d o42.rd.solid (by kernel_rfl) (by kernel_rfl) (by have := oTr f45; omega))
     refine yv 0 rfl 50 (.int .u32 ((dg (dig B32 (NN / 2 ^ (8 * (f.size - 1 - i)))) 0 : Nat) : Int)) ?_ (k0w o42.rd h1o (m := 0) (by kernel_rfl) (by have := oTr f45; omega) rfl)
     refine ya 0 rfl 51 .u8 ((dg (dig B32 (NN / 2 ^ (8 * (f.size - 1 - i)))) 0 : Nat) : Int) (((dg bs i : Nat) : Int)) ((by rw [a1r, a1s, hdi]; congr 1; exact Nat.mod_mod_of_dvd _ (by decide))) ?_
     replace r29 := (r29.past hbV9)
     refine yv 0 rfl 52 (.pointer (some (at_ p29 i))) ?_ (u0g (p := p29) (n := f.size) (c := c29) (m := i) k0d (by have h := r29.solid; rw [hLl, hbl] at h; exact h) (by kernel_rfl) (by kernel_rfl) (by omega))
     refine j1w k0d V6.heap.size p29 c29 _ r29 i (by rw [hLl, hbl]; omega) (dg bs i) (fun V10 n29 hjV10 => ?_)
     have hbV10 : Below V6.heap.size V6 V10 := (a0h hbV8 hbV9).trans (hjV10.mono (by omega))
     have hzV10 := hbV10.size
     refine yz 0 ?_
     refine e0x ?_
     refine b0f ?_
     refine c0g ?_
     refine ya 0 rfl 53 .i64 ((i : Int) + 1) (((i + 1 : Nat) : Int)) ((by rw [show ((i : Int) + 1) = ((i + 1 : Nat) : Int) by omega]; exact iwo)) ?_
     refine yz 1 ?_
     refine b0f ?_
     refine ⟨gk0 - 1, (by omega), ?_⟩
     exact ⟨i + 1, by kernel_rfl, (by rw [← hbs i (by omega)]; exact n29), hbV10, (by omega)⟩
   refine yb 2 rfl 45 (decide ((((dig B32 (NN / 2 ^ (8 * (f.size - 1 - i)))).length : Nat) : Int) > 0)) (false) (f45) ?_
   refine yzt 0 ?_
   refine yF ?_
   refine wp_skip ?_
   refine e0x ?_
   refine b0f ?_
   refine c0g ?_
   refine ya 0 rfl 53 .i64 ((i : Int) + 1) (((i + 1 : Nat) : Int)) ((by rw [show ((i : Int) + 1) = ((i + 1 : Nat) : Int) by omega]; exact iwo)) ?_
   refine yz 1 ?_
   refine b0f ?_
   refine ⟨gk0 - 1, (by omega), ?_⟩
   replace r29 := (r29.past hbV9)
   exact ⟨i + 1, by kernel_rfl, (by rw [← hbz i (by rw [hdi, hq0.1 (by have := oFa f45; omega)])]; exact r29), (a0h hbV8 hbV9), (by omega)⟩
 refine yb 0 rfl 33 (decide ((i : Int) < (f.size : Int))) (false) (f33) ?_
 refine yzt 0 ?_
 refine yFs ?_
 refine wp_exit ?_
 repeat (with_reducible refine i0p ?_)
 refine s0e (id := 0) ?_
 refine b0f ?_
 have hi : i = f.size := by have := oFa f33; omega
 rw [hi, hball] at r29
 refine ye ?_
 have b2_w8 := b2.past (a0h (a0h (a0h (a0h (a0h hbV2 hbV3) hbV4) hbV5) hbV6) hbV8)
 refine yl 1 rfl 55 b2_w8 hT144 11 ?_
 refine yn 1 rfl ?_
 refine se 57 (ordF f) #[.slice p29 f.size c29] (fun Gx hGx => ?_) (hr := m0b (ordF f) (s0s f) (by kernel_rfl) (by kernel_rfl))
 ((with_reducible refine (hord V8 V6.heap.size p29 c29 bs r29.wr hbl (by omega)).mono ?_))
 rintro eV9 V9 ⟨rfl, x57, hjV9⟩
 have hbV9 : Below V6.heap.size V6 V9 := hbV8.trans (hjV9.mono (by omega))
 have hzV9 := hbV9.size
 refine ⟨.tuple #[], rfl, hGx _ _ ?_⟩
 clear hGx Gx
 refine yzt 0 ?_
 refine ye ?_
 refine yv 1 rfl 59 (.string (b0a (ordL f.ord bs))) ?_ (h0p (p := p29) (n := f.size) (c := c29) m0d s0v uStr x57.rd (by rw [c0e, hbl]) (by kernel_rfl))
 refine yzt 1 ?_
 refine wp_ret ?_
 repeat (first | with_reducible refine a0x ?_ | with_reducible refine a0r ?_)
 refine yret (.string (b0a (ordL f.ord bs))) (res1 Tryz.results106 rvt) ?_
 exact ⟨rfl, (a0h (a0h (a0h (a0h (a0h (a0h hbV1 hbV2) hbV3) hbV4) hbV5) hbV6) hbV9)⟩
theorem _root_.Go.Slip.Bx.b3 {w : World} {b : Nat} {v0 v1 v2 : Value} (h : Bx w b #[v0, v1, v2]) : Box3 w b v0 v1 v2 :=
 ⟨h.e3.1, h.e3.2.1, h.e3.2.2, h.f 0, h.f 1, h.f 2, h.lt⟩
theorem k0g (p : Option Addr) (n c : Nat) (e : Int) (m : Nat) (w : World) (hp : Rd w .u32 p (dig B32 m)) (hn : n = (dig B32 m).length) (hc : n ≤ c) (hl : (dig B32 m).length ≤ 10000000)
 (he : -1000000000 ≤ e ∧ e ≤ 1000000000) (hT : TabW w) :
 Calls Tryz.prog 64 #[.slice p n c, .int .i64 e] w (e0h w w.heap.size (bare ⟨false, m, e⟩)) := by
 subst hn
 go_enter Tryz.func64, Tryz.ntmps64
 go_wp2_with fail
 refine n0i (fun W1 hb1 hz1 R => ?_)
 replace hp := hp.past hb1
 replace hT := hT.past hb1
 have hs1 := hb1
 ((with_reducible refine (d0k false p _ c e m _ hp rfl hc hl he hT).mono ?_))
 generalize bare ⟨false, m, e⟩ = r at *
 rintro e2 w2 ⟨p2, c2, rfl, ho2, hb2⟩
 replace R := R.past hb2
 obtain ⟨R_0, R_1, R_2⟩ := R.e3
 have R_f0 := R.f 0
 have R_f1 := R.f 1
 have R_f2 := R.f 2
 go_wp2_with fail
 clear R_0 R_1 R_2 R_f0 R_f1 R_f2
 obtain ⟨R_0, R_1, R_2⟩ := R.e3
 refine bodyPost_ret (v := .agg #[.bool r.neg, .slice p2 (dig B32 r.m).length c2, .int .i64 r.e]) (by simp [results, Tryz.results64, go_sem, R_0, R_1, R_2]) rfl ?_
 have hz := hs1.size
 exact k0o (hs1.trans (hb2.mono hs1.size)) ho2 hz (Nat.le_refl _) (fun h => by have := (ho2.blk_lt h).1; omega)
theorem e1c (g : Bool) (p : Option Addr) (n c : Nat) (e : Int) (m : Nat) (w : World) (hn : n = (dig B32 m).length) :
 Calls Tryz.prog 67 #[.agg #[.bool g, .slice p n c, .int .i64 e]] w fun en w' => en = .returned (.agg #[.bool (b0i ⟨g, m, e⟩).neg, .slice p (dig B32 m).length c, .int .i64 e]) ∧ Below w.heap.size w w' := by
 subst hn
 have hz := a0k a0b m
 have A := (f0j w #[.bool g, .slice p (dig B32 m).length c, .int .i64 e] 112).b3
 cases g
 · by_cases h0 : 0 < (dig B32 m).length
   · have t1 : decide ((0 : Int) < ((dig B32 m).length : Int)) = true := dTr (by omega)
     have hd : (b0i ⟨false, m, e⟩).neg = true := by unfold b0i; simp; (try omega)
     rw [hd]
     clear hd hz
     obtain ⟨A_0, A_1, A_2, A_f0, A_f1, A_f2, A_lt⟩ := A
     go_enter Tryz.func67, Tryz.ntmps67
     go_wp2_with fail
     refine bodyPost_ret (v := .agg #[.bool true, .slice p (dig B32 m).length c, .int .i64 e]) (by simp [results, Tryz.results67, go_sem]) rfl ?_
     exact ⟨rfl, d0n _ _ _⟩
   · have t1 : decide ((0 : Int) < ((dig B32 m).length : Int)) = false := dFa (by omega)
     have hd : (b0i ⟨false, m, e⟩).neg = false := by unfold b0i; simp; (try omega)
     rw [hd]
     clear hd hz
     obtain ⟨A_0, A_1, A_2, A_f0, A_f1, A_f2, A_lt⟩ := A
     go_enter Tryz.func67, Tryz.ntmps67
     go_wp2_with fail
     refine bodyPost_ret (v := .agg #[.bool false, .slice p (dig B32 m).length c, .int .i64 e]) (by simp [results, Tryz.results67, go_sem]) rfl ?_
     exact ⟨rfl, d0n _ _ _⟩
 · have t1 := True.intro
   have hd : (b0i ⟨true, m, e⟩).neg = false := by unfold b0i; simp; (try omega)
   rw [hd]
   clear hd hz
   obtain ⟨A_0, A_1, A_2, A_f0, A_f1, A_f2, A_lt⟩ := A
   go_enter Tryz.func67, Tryz.ntmps67
   go_wp2_with fail
   refine bodyPost_ret (v := .agg #[.bool false, .slice p (dig B32 m).length c, .int .i64 e]) (by simp [results, Tryz.results67, go_sem]) rfl ?_
   exact ⟨rfl, d0n _ _ _⟩
structure Pin where
 g : Bool
 p : Option Addr
 c : Nat
 xs : List Nat
 k : Int
 x : Bool
 o : Bool
 u : Bool
structure InP (w : World) (a : Pin) : Prop where
 rd : Rd w .u32 a.p a.xs
 cap : a.xs.length ≤ a.c
 len : a.xs.length ≤ 9223372036854775807
 lt : ∀ x ∈ a.xs, x < B32
theorem InP.past {w w' : World} {a : Pin} (h : InP w a) (hb : Below w.heap.size w w') : InP w' a := ⟨h.rd.past hb, h.cap, h.len, h.lt⟩
def g0c (a : Pin) (g : Gd) : Int := if a0u a.xs ≠ 0 then a0u a.xs else if errG g ≠ 0 then errG g else if a.k < -20000 ∨ 20000 < a.k then 3 else 0
def numV (a : Pin) (g : Gd) : Dv := bare ⟨a.g, val B32 a.xs, wid g * a.k⟩
theorem n0v (m : Nat) (e : Int) : b0i (bare ⟨false, m, e⟩) = bare ⟨true, m, e⟩ := by
 unfold bare b0i
 by_cases h : m = 0
 · simp [h]
 · have := (c0t m (by omega)).2
   simp only [if_neg h]
   have h2 : 0 < m / 2 ^ tz m := by
    generalize m / 2 ^ tz m = q at *
    omega
   simp [h2]
theorem t0c (a : Pin) (g : Gd) (w : World) (ha : InP w a) (hT : TabW w) :
 Calls Tryz.prog 44 #[.agg #[.bool a.g, .slice a.p a.xs.length a.c, .int .i64 a.k, .bool a.x, .bool a.o, .bool a.u], .agg #[.int .i64 g.rad, .int .i64 g.digs, .int .i64 g.lo, .int .i64 g.hi, .bool g.grad]] w (g0x w w.heap.size (s0u (g0c a g) (numV a g)) (z0x (g0c a g) (numV a g))) := by
 have HCG := fun W => hi0 (g0o g W)
 have HWD := fun W => hi0 (q0z g W)
 have HCX := fun W (h : Rd W .u32 a.p a.xs) => hi0 (d0s a.p a.xs.length a.c a.xs W h rfl ha.len)
 unfold s0u z0x
 by_cases h0 : g0c a g = 0
 · rw [if_pos h0, if_pos h0]
   unfold g0c at h0
   have hx0 : a0u a.xs = 0 := by
    by_cases h : a0u a.xs = 0
    · exact h
    · rw [if_pos h] at h0; exact absurd h0 h
   rw [hx0, if_neg (by simp)] at h0
   have hg0 : errG g = 0 := by
    by_cases h : errG g = 0
    · exact h
    · rw [if_pos h] at h0; exact absurd h0 h
   rw [hg0, if_neg (by simp)] at h0
   have hk0 : -20000 ≤ a.k ∧ a.k ≤ 20000 := by
    by_cases h : a.k < -20000 ∨ 20000 < a.k
    · rw [if_pos h] at h0; simp at h0
    · omega
   obtain ⟨hk1, hk2⟩ := hk0
   have t2 := g0n (n := a.k) (m := 20000) (by omega) (by omega)
   obtain ⟨ex, lx⟩ := f0d ha.lt hx0
   have wp := b0l g
   have hm := r0c (k := a.k) wp.2 (B := 20000) ⟨by omega, by omega⟩
   obtain ⟨r, hr⟩ : ∃ r, numV a g = r := ⟨_, rfl⟩
   have HRV := hi0 hr
   rw [hr]
   have lr : (dig B32 r.m).length ≤ 1200 := by
    rw [← hr]; unfold numV
    refine Nat.le_trans (g0h a0b _) ?_
    simp only
    rw [← ex]; exact lx
   rw [hx0] at HCX
   rw [hg0] at HCG
   unfold numV at hr
   generalize wid g = wd at *
   generalize val B32 a.xs = m at *
   have HX := hi0 ex
   have hca := ha.cap
   have HR := hi0 hr
   clear hx0 hg0 h0 ex hr
   go_enter Tryz.func44, Tryz.ntmps44
   go_wp2_with fail
   refine h0n (fun W1 hb1 hz1 P G R => ?_)
   replace ha := ha.past hb1
   replace hT := hT.past hb1
   have hs1 := hb1
   obtain ⟨P_0, P_1, P_2, P_3, P_4, P_5⟩ := P.e6
   go_wp2_with fail
   clear P_0 P_1 P_2 P_3 P_4 P_5
   ((with_reducible refine ((HCX _ ha.rd).out).mono ?_))
   rintro e2 w2 ⟨rfl, hb2⟩
   replace P := P.past hb2
   replace G := G.past hb2
   replace R := R.past hb2
   replace ha := ha.past hb2
   replace hT := hT.past hb2
   have hs2 := hs1.trans (hb2.mono hs1.size)
   obtain ⟨G_0, G_1, G_2, G_3, G_4⟩ := G.e5
   go_wp2_with fail
   clear G_0 G_1 G_2 G_3 G_4
   ((with_reducible refine ((HCG _).out).mono ?_))
   rintro e3 w3 ⟨rfl, hb3⟩
   replace P := P.past hb3
   replace G := G.past hb3
   replace R := R.past hb3
   replace ha := ha.past hb3
   replace hT := hT.past hb3
   have hs3 := hs2.trans (hb3.mono hs2.size)
   obtain ⟨P_0, P_1, P_2, P_3, P_4, P_5⟩ := P.e6
   go_wp2_with fail
   clear P_0 P_1 P_2 P_3 P_4 P_5
   ((with_reducible refine ((b0v a.k 20000 _ (by omega))).mono ?_))
   rintro _ _ ⟨rfl, rfl⟩
   go_wp2_with fail
   have e0 : IntKind.i64.wrap ((wd : Int) * a.k) = (wd : Int) * a.k := iwo
   have lx2 : (dig B32 m).length ≤ 10000000 := by rw [← HX.out]; omega
   have hx3 : Rd w3 .u32 a.p (dig B32 m) := by rw [← HX.out]; exact ha.rd
   have HLX := hi0 (show a.xs.length = (dig B32 m).length by rw [← HX.out])
   have hmb : -1000000000 ≤ (wd : Int) * a.k ∧ (wd : Int) * a.k ≤ 1000000000 := ⟨by omega, by omega⟩
   obtain ⟨r0, hr0⟩ : ∃ r0, bare ⟨false, m, (wd : Int) * a.k⟩ = r0 := ⟨_, rfl⟩
   have HR0 := hi0 hr0
   clear hr0
   have hRl := R.lt
   have hzd : w3.drew.heap.size = w3.heap.size := rfl
   have HZD := hi0 hzd
   clear hzd
   go_cut [8] (fun s8 wx => ∃ (kx : Nat) (px : Option Addr) (cx : Nat), s8 = .pointer (some ⟨kx, 0, none⟩) ∧ Bx wx kx #[.bool r0.neg, .slice px (dig B32 r0.m).length cx, .int .i64 r0.e] ∧ w3.heap.size ≤ kx ∧ Own wx w3.heap.size .u32 141 px cx (dig B32 r0.m) ∧ (px.isSome = true → blk px ≠ kx) ∧ Below w3.heap.size w3 wx)
   case first =>
    go_region_held3 (fun w' => (w'.cell? ⟨w.heap.size, 0, none⟩ = some (.bool a.g) ∧ w'.cell? ⟨w.heap.size, 1, none⟩ = some (.slice a.p a.xs.length a.c) ∧ w'.cell? ⟨w.heap.size, 2, none⟩ = some (.int .i64 a.k) ∧ w'.cell? ⟨w.heap.size, 3, none⟩ = some (.bool a.x) ∧ w'.cell? ⟨w.heap.size, 4, none⟩ = some (.bool a.o) ∧ w'.cell? ⟨w.heap.size, 5, none⟩ = some (.bool a.u)) ∧
      (w'.cell? ⟨w.heap.size + 1, 0, none⟩ = some (.int .i64 g.rad) ∧ w'.cell? ⟨w.heap.size + 1, 1, none⟩ = some (.int .i64 g.digs) ∧ w'.cell? ⟨w.heap.size + 1, 2, none⟩ = some (.int .i64 g.lo) ∧ w'.cell? ⟨w.heap.size + 1, 3, none⟩ = some (.int .i64 g.hi) ∧ w'.cell? ⟨w.heap.size + 1, 4, none⟩ = some (.bool g.grad)))
     (first
     | with_reducible exact ⟨P.e6, G.e5⟩
     | with_reducible exact ⟨(P.drew).e6, (G.drew).e5⟩
     | with_reducible exact ⟨((P.laid _).drew).e6, ((G.laid _).drew).e5⟩
     | with_reducible exact ⟨(((P.laid _).drew).past hbx).e6, (((G.laid _).drew).past hbx).e5⟩
     | with_reducible exact ⟨((P.drew).past hbx).e6, ((G.drew).past hbx).e5⟩
     | with_reducible exact ⟨(((P.drew).past hbx).laid _).e6, (((G.drew).past hbx).laid _).e5⟩
     | with_reducible exact ⟨((((P.laid _).drew).past hbx).past hby).e6, ((((G.laid _).drew).past hbx).past hby).e5⟩
     | with_reducible exact ⟨((((P.drew).past hbx).laid _).past hby).e6, ((((G.drew).past hbx).laid _).past hby).e5⟩
     | with_reducible exact ⟨(((P.drew).past hbx).past hby).e6, (((G.drew).past hbx).past hby).e5⟩
     | with_reducible exact ⟨((((P.drew).past hbx).past hby).laid _).e6, ((((G.drew).past hbx).past hby).laid _).e5⟩
     | with_reducible exact ⟨(((((P.laid _).drew).past hbx).past hby).only (s0c _ _ _ _ _) (by omega)).e6, (((((G.laid _).drew).past hbx).past hby).only (s0c _ _ _ _ _) (by omega)).e5⟩
     | with_reducible exact ⟨(((((P.drew).past hbx).laid _).past hby).only (s0c _ _ _ _ _) (by omega)).e6, (((((G.drew).past hbx).laid _).past hby).only (s0c _ _ _ _ _) (by omega)).e5⟩)
     (first
       | (go_at_call 109; ((with_reducible refine (HWD _).out.mono ?_)); rintro ex wx ⟨rfl, hbx⟩; (have hzx : w3.heap.size ≤ wx.heap.size := by have := hbx.size; simp at this; omega))
       | (go_at_call 64; (first
           | with_reducible refine (k0g a.p _ a.c _ m _ (hx3.drew.past hbx) HLX.out hca lx2 hmb (hT.drew.past hbx)).mono ?_
           | with_reducible refine (k0g a.p _ a.c _ m _ ((hx3.laid _).drew.past hbx) HLX.out hca lx2 hmb ((hT.laid _).drew.past hbx)).mono ?_
           | with_reducible refine (k0g a.p _ a.c _ m _ ((hx3.drew.past hbx).laid _) HLX.out hca lx2 hmb ((hT.drew.past hbx).laid _)).mono ?_); rw [HR0.out]; rintro ey wy ⟨py, cy, rfl, hoy, hby⟩; (first
           | (have XX := (f0j w3 #[.bool false, .slice none 0 0, .int .i64 0] 112).drew.past hbx |>.past hby; obtain ⟨X_0, X_1, X_2⟩ := XX.e3; have X_f0 := XX.f 0; have X_f1 := XX.f 1; have X_f2 := XX.f 2)
           | (have XX := (f0j wx #[.bool false, .slice none 0 0, .int .i64 0] 112).past hby; obtain ⟨X_0, X_1, X_2⟩ := XX.e3; have X_f0 := XX.f 0; have X_f1 := XX.f 1; have X_f2 := XX.f 2)
           | skip)))
    all_goals (clear e0)
    all_goals (go_wp2_with fail)
    all_goals go_meet
    · have hzy := hby.size
      exact ⟨wy.heap.size, py, cy, rfl, f0j wy _ _, by omega, (hoy.laid _).mono hzx, fun h => by have := (hoy.blk_lt h).2; omega,
        (((Below.refl w3.heap.size w3).drew.trans hbx).trans (hby.mono hzx)).trans ((b0j wy _).mono (by omega))⟩
    · have hzy := hby.size
      rw [World.size_alloc] at hzy
      have hO := s0c wy wx.heap.size (.bool r0.neg) (.slice py (dig B32 r0.m).length cy) (.int .i64 r0.e)
      exact ⟨wx.heap.size, py, cy, rfl, XX.put3 _ _ _, hzx, (hoy.only hO (fun h => by have := (hoy.blk_lt h).1; rw [World.size_alloc] at this; omega)).mono (by rw [World.size_alloc]; omega), fun h => by have := (hoy.blk_lt h).1; rw [World.size_alloc] at this; omega,
        ((((Below.refl w3.heap.size w3).drew.trans hbx).trans ((b0j wx _).mono hzx)).trans (hby.mono (by rw [World.size_alloc]; omega))).trans (hO.below hzx)⟩
    · have hzy := hby.size
      have hzl : w3.heap.size < wx.heap.size := by have := hbx.size; simp at this; omega
      have hO := s0c wy w3.heap.size (.bool r0.neg) (.slice py (dig B32 r0.m).length cy) (.int .i64 r0.e)
      exact ⟨w3.heap.size, py, cy, rfl, XX.put3 _ _ _, Nat.le_refl _, (hoy.only hO (fun h => by have := (hoy.blk_lt h).1; omega)).mono hzx, fun h => by have := (hoy.blk_lt h).1; omega,
        ((((b0j w3 _).drew).trans (hbx.mono (by simp))).trans (hby.mono hzx)).trans (hO.below (Nat.le_refl _))⟩
   case rest =>
    clear e0
    obtain ⟨kx, px, cx, rfl, X, hkx, hox, hnx, hbc⟩ := hcut
    have hs4 := hs3.trans (hbc.mono hs3.size)
    have hz3 := hs3.size
    replace P := P.past hbc
    replace G := G.past hbc
    replace R := R.past hbc
    replace hT := hT.past hbc
    have hXl := X.lt
    have hbz := hbc.size
    by_cases hg : a.g = true
    · have er : r = b0i r0 := by
       rw [← HR.out, ← HR0.out, n0v, hg]
      have lr0 : (dig B32 r0.m).length ≤ 1200 := by
       have : r0.m = r.m := by rw [er]; rfl
       rw [this]; exact lr
      clear er
      have HER : Hid (r = b0i r0) := by
       show r = b0i r0
       rw [← HR.out, ← HR0.out, n0v, hg]
      have HOP : Hid (Calls Tryz.prog 67 #[.agg #[.bool r0.neg, .slice px (dig B32 r0.m).length cx, .int .i64 r0.e]] wc fun en w' => en = .returned (.agg #[.bool r.neg, .slice px (dig B32 r.m).length cx, .int .i64 r.e]) ∧ Below wc.heap.size wc w') := by
       have h := e1c r0.neg px _ cx r0.e r0.m wc rfl
       rw [HER.out]
       exact h
      have hox2 : Own wc w3.heap.size .u32 141 px cx (dig B32 r.m) := by rw [HER.out]; exact hox
      clear HER
      obtain ⟨P_0, P_1, P_2, P_3, P_4, P_5⟩ := P.e6
      obtain ⟨X_0, X_1, X_2⟩ := X.e3
      go_wp2_with fail
      clear P_0 P_1 P_2 P_3 P_4 P_5 X_0 X_1 X_2
      ((with_reducible refine HOP.out.mono ?_))
      rintro e12 w12 ⟨rfl, hb12⟩
      have ho12 := hox2.past hb12
      have hs12 := hs4.trans (hb12.mono hs4.size)
      replace R := R.past hb12
      replace X := X.past hb12
      obtain ⟨X_0, X_1, X_2⟩ := X.e3
      have X_f0 := X.f 0
      have X_f1 := X.f 1
      have X_f2 := X.f 2
      go_wp2_with fail
      clear X_0 X_1 X_2 X_f0 X_f1 X_f2
      refine w0f X (fun W13 hO13 X => ?_)
      replace R := R.only hO13 (by omega)
      replace ho12 := ho12.only hO13 hnx
      have hs13 := hs12.trans (hO13.below (B := w.heap.size) (by omega))
      ((with_reducible refine (q0i r.neg px _ cx _ r.e r.m _ ho12 rfl (by omega)).mono ?_))
      rintro e14 w14 ⟨p14, c14, rfl, ho14, hb14⟩
      have hs14 := hs13.trans (hb14.mono hs13.size)
      replace R := R.past hb14
      obtain ⟨R_0, R_1, R_2⟩ := R.e3
      have R_f0 := R.f 0
      have R_f1 := R.f 1
      have R_f2 := R.f 2
      go_wp2_with fail
      clear R_0 R_1 R_2 R_f0 R_f1 R_f2
      obtain ⟨R_0, R_1, R_2⟩ := R.e3
      refine bodyPost_ret (v := .tuple #[.agg #[.bool (i0l r).neg, .slice p14 (dig B32 (i0l r).m).length c14, .int .i64 (i0l r).e], .int .i64 (errD r)]) (by simp [results, Tryz.results44, go_sem, R_0, R_1, R_2]) rfl ?_
      exact j0d hs14 ho14 hz3 (by omega) (fun h => by have := (ho14.blk_lt h).1; omega)
    · have hg2 : a.g = false := by simpa using hg
      clear hg
      have er : r0 = r := by rw [← HR.out, ← HR0.out, hg2]
      subst er
      obtain ⟨P_0, P_1, P_2, P_3, P_4, P_5⟩ := P.e6
      obtain ⟨X_0, X_1, X_2⟩ := X.e3
      go_wp2_with fail
      clear P_0 P_1 P_2 P_3 P_4 P_5 X_0 X_1 X_2
      ((with_reducible refine (q0i r0.neg px _ cx _ r0.e r0.m _ hox rfl (by omega)).mono ?_))
      rintro e14 w14 ⟨p14, c14, rfl, ho14, hb14⟩
      have hs14 := hs4.trans (hb14.mono hs4.size)
      replace R := R.past hb14
      obtain ⟨R_0, R_1, R_2⟩ := R.e3
      have R_f0 := R.f 0
      have R_f1 := R.f 1
      have R_f2 := R.f 2
      go_wp2_with fail
      clear R_0 R_1 R_2 R_f0 R_f1 R_f2
      obtain ⟨R_0, R_1, R_2⟩ := R.e3
      refine bodyPost_ret (v := .tuple #[.agg #[.bool (i0l r0).neg, .slice p14 (dig B32 (i0l r0).m).length c14, .int .i64 (i0l r0).e], .int .i64 (errD r0)]) (by simp [results, Tryz.results44, go_sem, R_0, R_1, R_2]) rfl ?_
      exact j0d hs14 ho14 hz3 (by omega) (fun h => by have := (ho14.blk_lt h).1; omega)
 · rw [if_neg h0, if_neg h0]
   obtain ⟨e1, he1⟩ : ∃ e1, a0u a.xs = e1 := ⟨_, rfl⟩
   obtain ⟨e2, he2⟩ : ∃ e2, errG g = e2 := ⟨_, rfl⟩
   rw [he1] at HCX
   rw [he2] at HCG
   by_cases h1 : e1 = 0
   · by_cases h2 : e2 = 0
     · have hk : a.k < -20000 ∨ 20000 < a.k := by
        unfold g0c at h0
        rw [he1, h1, he2, h2, if_neg (by simp), if_neg (by simp)] at h0
        by_cases h : a.k < -20000 ∨ 20000 < a.k
        · exact h
        · rw [if_neg h] at h0; simp at h0
       have he : g0c a g = 3 := by unfold g0c; rw [he1, h1, he2, h2, if_neg (by simp), if_neg (by simp), if_pos hk]
       have t2 := e0l hk
       subst h1 h2
       rw [he]
       clear h0 he1 he2 hk he
       go_enter Tryz.func44, Tryz.ntmps44
       go_wp2_with fail
       refine h0n (fun W1 hb1 hz1 P G R => ?_)
       replace ha := ha.past hb1
       replace hT := hT.past hb1
       have hs1 := hb1
       obtain ⟨P_0, P_1, P_2, P_3, P_4, P_5⟩ := P.e6
       go_wp2_with fail
       clear P_0 P_1 P_2 P_3 P_4 P_5
       ((with_reducible refine ((HCX _ ha.rd).out).mono ?_))
       rintro e2 w2 ⟨rfl, hb2⟩
       replace P := P.past hb2
       replace G := G.past hb2
       replace R := R.past hb2
       replace ha := ha.past hb2
       replace hT := hT.past hb2
       have hs2 := hs1.trans (hb2.mono hs1.size)
       obtain ⟨G_0, G_1, G_2, G_3, G_4⟩ := G.e5
       go_wp2_with fail
       clear G_0 G_1 G_2 G_3 G_4
       ((with_reducible refine ((HCG _).out).mono ?_))
       rintro e3 w3 ⟨rfl, hb3⟩
       replace P := P.past hb3
       replace G := G.past hb3
       replace R := R.past hb3
       replace ha := ha.past hb3
       replace hT := hT.past hb3
       have hs3 := hs2.trans (hb3.mono hs2.size)
       obtain ⟨P_0, P_1, P_2, P_3, P_4, P_5⟩ := P.e6
       go_wp2_with fail
       clear P_0 P_1 P_2 P_3 P_4 P_5
       ((with_reducible refine ((b0v a.k 20000 _ (by omega))).mono ?_))
       rintro _ _ ⟨rfl, rfl⟩
       obtain ⟨R_0, R_1, R_2⟩ := R.e3
       have R_f0 := R.f 0
       have R_f1 := R.f 1
       have R_f2 := R.f 2
       go_wp2_with fail
       clear R_0 R_1 R_2 R_f0 R_f1 R_f2
       obtain ⟨R_0, R_1, R_2⟩ := R.e3
       refine bodyPost_ret (v := .tuple #[.agg #[.bool false, .slice none 0 0, .int .i64 0], .int .i64 3]) (by simp [results, Tryz.results44, go_sem, R_0, R_1, R_2]) rfl ?_
       exact h0f hs3 (by omega)
     · have he : g0c a g = e2 := by unfold g0c; rw [he1, h1, he2, if_neg (by simp), if_pos h2]
       have t1 : (e2 == 0) = false := bFn h2
       have t2 : (e2 != 0) = true := by rw [bne, t1]; rfl
       subst h1
       rw [he]
       clear h0 he1 he2 he h2
       go_enter Tryz.func44, Tryz.ntmps44
       go_wp2_with fail
       refine h0n (fun W1 hb1 hz1 P G R => ?_)
       replace ha := ha.past hb1
       replace hT := hT.past hb1
       have hs1 := hb1
       obtain ⟨P_0, P_1, P_2, P_3, P_4, P_5⟩ := P.e6
       go_wp2_with fail
       clear P_0 P_1 P_2 P_3 P_4 P_5
       ((with_reducible refine ((HCX _ ha.rd).out).mono ?_))
       rintro e2 w2 ⟨rfl, hb2⟩
       replace P := P.past hb2
       replace G := G.past hb2
       replace R := R.past hb2
       replace ha := ha.past hb2
       replace hT := hT.past hb2
       have hs2 := hs1.trans (hb2.mono hs1.size)
       obtain ⟨G_0, G_1, G_2, G_3, G_4⟩ := G.e5
       go_wp2_with fail
       clear G_0 G_1 G_2 G_3 G_4
       ((with_reducible refine ((HCG _).out).mono ?_))
       rintro e3 w3 ⟨rfl, hb3⟩
       replace P := P.past hb3
       replace G := G.past hb3
       replace R := R.past hb3
       replace ha := ha.past hb3
       replace hT := hT.past hb3
       have hs3 := hs2.trans (hb3.mono hs2.size)
       obtain ⟨R_0, R_1, R_2⟩ := R.e3
       have R_f0 := R.f 0
       have R_f1 := R.f 1
       have R_f2 := R.f 2
       go_wp2_with fail
       clear R_0 R_1 R_2 R_f0 R_f1 R_f2
       obtain ⟨R_0, R_1, R_2⟩ := R.e3
       refine bodyPost_ret (v := .tuple #[.agg #[.bool false, .slice none 0 0, .int .i64 0], .int .i64 e2]) (by simp [results, Tryz.results44, go_sem, R_0, R_1, R_2]) rfl ?_
       exact h0f hs3 (by omega)
   · have he : g0c a g = e1 := by unfold g0c; rw [he1, if_pos h1]
     have t1 : (e1 == 0) = false := bFn h1
     have t2 : (e1 != 0) = true := by rw [bne, t1]; rfl
     rw [he]
     clear h0 he1 he2 he h1
     go_enter Tryz.func44, Tryz.ntmps44
     go_wp2_with fail
     refine h0n (fun W1 hb1 hz1 P G R => ?_)
     replace ha := ha.past hb1
     replace hT := hT.past hb1
     have hs1 := hb1
     obtain ⟨P_0, P_1, P_2, P_3, P_4, P_5⟩ := P.e6
     go_wp2_with fail
     clear P_0 P_1 P_2 P_3 P_4 P_5
     ((with_reducible refine ((HCX _ ha.rd).out).mono ?_))
     rintro e2 w2 ⟨rfl, hb2⟩
     replace P := P.past hb2
     replace G := G.past hb2
     replace R := R.past hb2
     replace ha := ha.past hb2
     replace hT := hT.past hb2
     have hs2 := hs1.trans (hb2.mono hs1.size)
     obtain ⟨R_0, R_1, R_2⟩ := R.e3
     have R_f0 := R.f 0
     have R_f1 := R.f 1
     have R_f2 := R.f 2
     go_wp2_with fail
     clear R_0 R_1 R_2 R_f0 R_f1 R_f2
     obtain ⟨R_0, R_1, R_2⟩ := R.e3
     refine bodyPost_ret (v := .tuple #[.agg #[.bool false, .slice none 0 0, .int .i64 0], .int .i64 e1]) (by simp [results, Tryz.results44, go_sem, R_0, R_1, R_2]) rfl ?_
     exact h0f hs2 (by omega)
theorem w0m (g : Bool) (p : Option Addr) (n c : Nat) (e : Int) (w : World) :
 Calls Tryz.prog 157 #[.agg #[.bool g, .slice p n c, .int .i64 e]] w fun en w' => ∃ q d, en = .returned (.agg #[.bool g, .slice p n c, .slice q (dig B32 1).length d, .int .i64 e]) ∧ Own w' w.heap.size .u32 141 q d (dig B32 1) ∧ Below w.heap.size w w' := by
 go_enter Tryz.func157, Tryz.ntmps157
 go_wp2_with fail
 refine g1f (fun W1 hb1 hz1 A R => ?_)
 have hs1 := hb1
 have hzd : W1.drew.heap.size = W1.heap.size := rfl
 have HZD := hi0 hzd
 clear hzd
 go_region_held3 (fun w' => w'.cell? ⟨w.heap.size, 0, none⟩ = some (.bool g) ∧ w'.cell? ⟨w.heap.size, 1, none⟩ = some (.slice p n c) ∧ w'.cell? ⟨w.heap.size, 2, none⟩ = some (.int .i64 e))
  (first
    | with_reducible exact A.e3
    | with_reducible exact A.drew.e3
    | with_reducible exact (A.drew.past hbx).e3
    | with_reducible exact ((A.drew.past hbx).only (j1j _ _ _ _ _ _) (by omega)).e3)
  (first
    | (go_at_call 65; ((with_reducible refine (s0w _).mono ?_)); rintro ex wx ⟨px, cx, rfl, hox, hbx⟩; (have RR := R.drew.past hbx); obtain ⟨R_0, R_1, R_2, R_3⟩ := RR.e4; (have R_f0 := RR.f 0); (have R_f1 := RR.f 1); (have R_f2 := RR.f 2); (have R_f3 := RR.f 3)))
 all_goals (go_wp2_with fail)
 refine bodyPost_ret (v := .agg #[.bool g, .slice p n c, .slice px (dig B32 1).length cx, .int .i64 e]) (by simp [results, Tryz.results157, go_sem, R_0, R_1, R_2, R_3]) rfl ?_
 have hzd := HZD.out
 have hO := j1j wx (w.heap.size + 1) (.bool g) (.slice p n c) (.slice px (dig B32 1).length cx) (.int .i64 e)
 have hz := hs1.size
 exact ⟨px, cx, rfl, (hox.only hO (fun h => by have := (hox.blk_lt h).1; omega)).mono (by omega), (hs1.drew.trans (hbx.mono hz)).trans (hO.below (by omega))⟩
theorem k0h (s : Bool) (p : Option Addr) (c : Nat) (e : Int) (m : Nat) (g : Gd) (w : World) (hp : Rd w .u32 p (dig B32 m)) (hl : (dig B32 m).length ≤ 100000) (he : -1000000 ≤ e ∧ e ≤ 1000000) (G : k0c g) :
 Calls Tryz.prog 101 #[.agg #[.bool s, .slice p (dig B32 m).length c, .int .i64 e], .agg #[.int .i64 g.rad, .int .i64 g.digs, .int .i64 g.lo, .int .i64 g.hi, .bool g.grad]] w fun en w' => en = .returned (.bool (g0a ⟨s, m, e⟩ g)) ∧ Below w.heap.size w w' := by
 by_cases h0 : m = 0
 · have hk : g0a ⟨s, m, e⟩ g = true := by unfold g0a; rw [if_pos h0]
   have HS := hi0 (show f0p ⟨s, m, e⟩ = 0 by unfold f0p; rw [if_pos h0])
   rw [hk]
   clear hk h0
   go_enter Tryz.func101, Tryz.ntmps101
   go_wp2_with fail
   refine e0w (fun W1 hb1 hz1 A B => ?_)
   have hs1 := hb1
   ((with_reducible refine (d0d s p _ c e m _ rfl).mono ?_))
   rintro e2 w2 ⟨rfl, hb2⟩
   rw [HS.out]
   go_wp2
   go_ret
   exact ⟨rfl, hs1.trans (hb2.mono hs1.size)⟩
 · have hsg := j0e (g := s) (e := e) (show 0 < m by omega)
   have wp := b0l g
   have hd1 := G.d1
   have hK := s0r (show 0 < m by omega) e (w := wid g) (D := g.digs.toNat) wp.1 (by omega)
   have hl1 : (dig B32 1).length ≤ 1 := by rw [a0l a0b]; unfold B32; omega
   have HF := fun W q d (h1 : Rd W .u32 p (dig B32 m)) (h2 : Rd W .u32 q (dig B32 1)) => hi0 (p0h s p q c d m 1 e g 3 _ W h1 h2 hl (by omega) (by omega) (by omega) he G (by omega) (by omega) hK)
   have hkk : g0a ⟨s, m, e⟩ g = ((fitK s m 1 e g 3 ((e + blen m - 1) / wid g - g.digs.toNat + 1)).exact && !(fitK s m 1 e g 3 ((e + blen m - 1) / wid g - g.digs.toNat + 1)).over && (!(fitK s m 1 e g 3 ((e + blen m - 1) / wid g - g.digs.toNat + 1)).under || g.grad)) := by
    unfold g0a
    rw [if_neg h0]
    rfl
   rw [hkk]
   generalize fitK s m 1 e g 3 ((e + blen m - 1) / wid g - g.digs.toNat + 1) = pf at *
   clear hkk h0 hK hd1 wp
   generalize hds : f0p ⟨s, m, e⟩ = sg0 at *
   have HSG := hi0 hds
   clear hds
   go_enter Tryz.func101, Tryz.ntmps101
   go_wp2_with fail
   refine e0w (fun W1 hb1 hz1 A B => ?_)
   replace hp := hp.past hb1
   have hs1 := hb1
   ((with_reducible refine (d0d s p _ c e m _ rfl).mono ?_))
   rintro e2 w2 ⟨rfl, hb2⟩
   rw [HSG.out]
   replace A := A.past hb2
   replace B := B.past hb2
   replace hp := hp.past hb2
   have hs2 := hs1.trans (hb2.mono hs1.size)
   go_wp2_with fail
   have hAl := A.lt
   have hBl := B.lt
   have hzd : w2.drew.heap.size = w2.heap.size := rfl
   have HZD := hi0 hzd
   clear hzd
   go_cut [5] (fun s5 wx => ∃ (kx : Nat) (px : Option Addr) (cx : Nat), s5 = .pointer (some ⟨kx, 0, none⟩) ∧ Bx wx kx #[.bool pf.neg, .slice px (dig B32 pf.d).length cx, .int .i64 pf.pow, .bool pf.exact, .bool pf.over, .bool pf.under] ∧ w2.heap.size ≤ kx ∧ Below w2.heap.size w2 wx)
   case first =>
    go_region_held3 (fun w' => (w'.cell? ⟨w.heap.size, 0, none⟩ = some (.bool s) ∧ w'.cell? ⟨w.heap.size, 1, none⟩ = some (.slice p (dig B32 m).length c) ∧ w'.cell? ⟨w.heap.size, 2, none⟩ = some (.int .i64 e)) ∧
        (w'.cell? ⟨w.heap.size + 1, 0, none⟩ = some (.int .i64 g.rad) ∧ w'.cell? ⟨w.heap.size + 1, 1, none⟩ = some (.int .i64 g.digs) ∧ w'.cell? ⟨w.heap.size + 1, 2, none⟩ = some (.int .i64 g.lo) ∧ w'.cell? ⟨w.heap.size + 1, 3, none⟩ = some (.int .i64 g.hi) ∧ w'.cell? ⟨w.heap.size + 1, 4, none⟩ = some (.bool g.grad)))
     (first
     | with_reducible exact ⟨A.e3, B.e5⟩
     | with_reducible exact ⟨(A.drew).e3, (B.drew).e5⟩
     | with_reducible exact ⟨((A.laid _).drew).e3, ((B.laid _).drew).e5⟩
     | with_reducible exact ⟨(((A.laid _).drew).past hbx).e3, (((B.laid _).drew).past hbx).e5⟩
     | with_reducible exact ⟨((A.drew).past hbx).e3, ((B.drew).past hbx).e5⟩
     | with_reducible exact ⟨(((A.drew).past hbx).laid _).e3, (((B.drew).past hbx).laid _).e5⟩
     | with_reducible exact ⟨((((A.laid _).drew).past hbx).past hby).e3, ((((B.laid _).drew).past hbx).past hby).e5⟩
     | with_reducible exact ⟨((((A.drew).past hbx).laid _).past hby).e3, ((((B.drew).past hbx).laid _).past hby).e5⟩
     | with_reducible exact ⟨(((A.drew).past hbx).past hby).e3, (((B.drew).past hbx).past hby).e5⟩
     | with_reducible exact ⟨((((A.drew).past hbx).past hby).laid _).e3, ((((B.drew).past hbx).past hby).laid _).e5⟩
     | with_reducible exact ⟨(((((A.laid _).drew).past hbx).past hby).only (o0m _ _ _ _ _ _ _ _) (by omega)).e3, (((((B.laid _).drew).past hbx).past hby).only (o0m _ _ _ _ _ _ _ _) (by omega)).e5⟩
     | with_reducible exact ⟨(((((A.drew).past hbx).laid _).past hby).only (o0m _ _ _ _ _ _ _ _) (by omega)).e3, (((((B.drew).past hbx).laid _).past hby).only (o0m _ _ _ _ _ _ _ _) (by omega)).e5⟩)
     (first
       | (go_at_call 157; ((with_reducible refine (w0m s p _ c e _).mono ?_)); rintro ex wx ⟨qx, dx, rfl, hox, hbx⟩; (have hzx : w2.heap.size ≤ wx.heap.size := by have := hbx.size; simp at this; omega))
       | (go_at_call 72; (first
           | with_reducible refine (HF _ qx dx (hp.drew.past hbx) hox.rd).out.mono ?_
           | with_reducible refine (HF _ qx dx ((hp.laid _).drew.past hbx) hox.rd).out.mono ?_
           | with_reducible refine (HF _ qx dx ((hp.drew.past hbx).laid _) (hox.rd.laid _)).out.mono ?_); rintro ey wy ⟨py, cy, rfl, hoy, hby⟩; (first
           | (have XX := (f0j w2 #[.bool false, .slice none 0 0, .int .i64 0, .bool false, .bool false, .bool false] 87).drew.past hbx |>.past hby; obtain ⟨X_0, X_1, X_2, X_3, X_4, X_5⟩ := XX.e6; have X_f0 := XX.f 0; have X_f1 := XX.f 1; have X_f2 := XX.f 2; have X_f3 := XX.f 3; have X_f4 := XX.f 4; have X_f5 := XX.f 5)
           | (have XX := (f0j wx #[.bool false, .slice none 0 0, .int .i64 0, .bool false, .bool false, .bool false] 87).past hby; obtain ⟨X_0, X_1, X_2, X_3, X_4, X_5⟩ := XX.e6; have X_f0 := XX.f 0; have X_f1 := XX.f 1; have X_f2 := XX.f 2; have X_f3 := XX.f 3; have X_f4 := XX.f 4; have X_f5 := XX.f 5)
           | skip)))
    all_goals (go_wp2_with fail)
    all_goals go_meet
    · have hzy := hby.size
      exact ⟨wy.heap.size, py, cy, rfl, f0j wy _ _, by omega, (((Below.refl w2.heap.size w2).drew.trans hbx).trans (hby.mono hzx)).trans ((b0j wy _).mono (by omega))⟩
    · have hzy := hby.size
      rw [World.size_alloc] at hzy
      have hO := o0m wy wx.heap.size (.bool pf.neg) (.slice py (dig B32 pf.d).length cy) (.int .i64 pf.pow) (.bool pf.exact) (.bool pf.over) (.bool pf.under)
      exact ⟨wx.heap.size, py, cy, rfl, XX.put6 _ _ _ _ _ _, hzx, ((((Below.refl w2.heap.size w2).drew.trans hbx).trans ((b0j wx _).mono hzx)).trans (hby.mono (by rw [World.size_alloc]; omega))).trans (hO.below hzx)⟩
    · have hzy := hby.size
      have hO := o0m wy w2.heap.size (.bool pf.neg) (.slice py (dig B32 pf.d).length cy) (.int .i64 pf.pow) (.bool pf.exact) (.bool pf.over) (.bool pf.under)
      exact ⟨w2.heap.size, py, cy, rfl, XX.put6 _ _ _ _ _ _, Nat.le_refl _, ((((b0j w2 _).drew).trans (hbx.mono (by simp))).trans (hby.mono hzx)).trans (hO.below (Nat.le_refl _))⟩
   case rest =>
    obtain ⟨kx, px, cx, rfl, X, hkx, hbc⟩ := hcut
    have hs4 := hs2.trans (hbc.mono hs2.size)
    replace B := B.past hbc
    clear hbc
    obtain ⟨png, pd, ppw, pex, pov, pun⟩ := pf
    obtain ⟨X_0, X_1, X_2, X_3, X_4, X_5⟩ := X.e6
    obtain ⟨B_0, B_1, B_2, B_3, B_4⟩ := B.e5
    simp only at X_3 X_4 X_5 ⊢
    clear HF
    generalize hgr : g.grad = gr at *
    have HGR := hi0 hgr
    clear hgr
    cases pex <;> cases pov <;> cases pun <;> cases gr <;> (go_wp2; go_ret; exact ⟨by first | rfl | (rw [HGR.out]; rfl), hs4⟩)
end Go.Proofs.YtmacohmclpnphaaGreatDoor
namespace Go.Slip
theorem e1d {s : Bool} {m : Nat} {e : Int} {g : Gd} (G : k0c g) (hin : b0u ⟨s, m, e⟩ g = true) (h0 : m ≠ 0) :
 (fitK s m 1 e g 3 ((e + blen m - 1) / wid g - g.digs.toNat + 1)).d = qP m 1 (e - wid g * c0b ⟨s, m, e⟩ g) ∧
 ((fitK s m 1 e g 3 ((e + blen m - 1) / wid g - g.digs.toNat + 1)).d ≠ 0 → (fitK s m 1 e g 3 ((e + blen m - 1) / wid g - g.digs.toNat + 1)).pow = c0b ⟨s, m, e⟩ g) ∧
 (fitK s m 1 e g 3 ((e + blen m - 1) / wid g - g.digs.toNat + 1)).d ≠ 0 := by
 have hb := z0l G hin h0
 simp only at hb
 have hp : powK g ((e + blen m - 1) / wid g - g.digs.toNat + 1) = c0b ⟨s, m, e⟩ g := by
  have eK : c0b ⟨s, m, e⟩ g = max g.lo ((e + blen m - 1) / wid g - g.digs.toNat + 1) := rfl
  rw [eK]
  unfold powK
  by_cases h1 : (e + blen m - 1) / wid g - g.digs.toNat + 1 < g.lo
  · by_cases h2 : g.grad = true
    · rw [if_pos ⟨h1, h2⟩]; omega
    · exfalso
      unfold b0u at hin
      rw [if_neg h0] at hin
      have eU : upK ⟨s, m, e⟩ (wid g) g.digs.toNat = (e + blen m - 1) / wid g - g.digs.toNat + 1 := rfl
      rw [eU] at hin
      rw [if_pos h1, if_neg h2] at hin
      simp at hin
  · rw [if_neg (fun h => h1 h.1)]; omega
 unfold fitK
 simp only
 rw [hp, z0j, q0r]
 have hq : qP m 1 (e - wid g * c0b ⟨s, m, e⟩ g) ≠ 0 := by
  unfold qP numP denP
  rw [show (-(e - wid g * c0b ⟨s, m, e⟩ g)).toNat = 0 by omega, Nat.pow_zero, Nat.mul_one, Nat.div_one]
  have := Nat.mul_pos (show 0 < m by omega) (Nat.pow_pos (n := (e - wid g * c0b ⟨s, m, e⟩ g).toNat) (show 0 < 2 by omega))
  omega
 exact ⟨rfl, fun h => by rw [if_neg h], hq⟩
end Go.Slip
namespace Go.Proofs.YtmacohmclpnphaaGreatDoor
open Go.RowKit Go.Slip
theorem h0r (f : Fm) (w : World) : Calls Tryz.prog 158 #[.agg #[.int .i64 (f.size : Int), .int .i64 (f.E : Int), .int .i64 (f.F : Int), .int .i64 f.g.rad, .int .i64 f.g.digs, .int .i64 f.g.lo, .int .i64 f.g.hi, .bool f.g.grad, .bool f.hid, .bool f.inf, .bool f.res, .func (.func (ordF f)) #[] #[]]] w fun en w' => en = .returned (.int .i64 ((wid f.g : Nat) : Int)) ∧ Below w.heap.size w w' := by
 by_cases h : f.g.rad = 16
 · have hw : wid f.g = 4 := by unfold wid; rw [if_pos h]
   rw [hw]
   have I := Inv.start w [] True.intro
   refine a0g [.v (.agg #[.int .i64 (f.size : Int), .int .i64 (f.E : Int), .int .i64 (f.F : Int), .int .i64 f.g.rad, .int .i64 f.g.digs, .int .i64 f.g.lo, .int .i64 f.g.hi, .bool f.g.grad, .bool f.hid, .bool f.inf, .bool f.res, .func (.func (ordF f)) #[] #[]])] I Tryz.func158 ?_
   refine zb I 6 (f.g.rad == 16) (true) (beq_iff_eq.2 h) fun Al W I => ?_
   exact zrb I
 · have hw : wid f.g = 1 := by unfold wid; rw [if_neg h]
   rw [hw]
   have I := Inv.start w [] True.intro
   refine a0g [.v (.agg #[.int .i64 (f.size : Int), .int .i64 (f.E : Int), .int .i64 (f.F : Int), .int .i64 f.g.rad, .int .i64 f.g.digs, .int .i64 f.g.lo, .int .i64 f.g.hi, .bool f.g.grad, .bool f.hid, .bool f.inf, .bool f.res, .func (.func (ordF f)) #[] #[]])] I Tryz.func158 ?_
   refine zb I 6 (f.g.rad == 16) (false) (bFn h) fun Al W I => ?_
   exact zrb I
theorem h1y (f : Fm) (g : Bool) (m : Nat) (pw k : Int) (p : Option Addr) (c : Nat) (w : World) (hp : Rd w .u32 p (dig B32 m)) (hc : (dig B32 m).length ≤ c) (hl : (dig B32 m).length ≤ 1000000) (hpw : -100000 ≤ pw ∧ pw ≤ 100000) (hT : TabW w) :
 Calls Tryz.prog 102 #[.agg #[.int .i64 (f.size : Int), .int .i64 (f.E : Int), .int .i64 (f.F : Int), .int .i64 f.g.rad, .int .i64 f.g.digs, .int .i64 f.g.lo, .int .i64 f.g.hi, .bool f.g.grad, .bool f.hid, .bool f.inf, .bool f.res, .func (.func (ordF f)) #[] #[]], .agg #[.int .i64 k, .bool g, .slice p (dig B32 m).length c, .int .i64 pw]] w (e0h w w.heap.size (bare ⟨g, m, wid f.g * pw⟩)) := by
 have wp := b0l f.g
 have hmu := r0c (wd := wid f.g) (k := pw) (B := 100000) wp.2 hpw
 rw [← r0d]
 generalize hmw : (wid f.g : Int) * pw = mw at *
 have HMW := hi0 hmw
 have HW := fun W h1 h2 => hi0 (m0c p _ c mw m W h1 rfl hc (by omega) (by omega) h2)
 clear hmw
 generalize hd : bare ⟨false, m, mw⟩ = d at *
 clear hd
 cases g with
 | false =>
  rw [if_neg (by simp)]
  have I := Inv.start w [rdF .u32 p (dig B32 m), tabF] ⟨hp, hT, True.intro⟩
  refine a0g [.v (.agg #[.int .i64 (f.size : Int), .int .i64 (f.E : Int), .int .i64 (f.F : Int), .int .i64 f.g.rad, .int .i64 f.g.digs, .int .i64 f.g.lo, .int .i64 f.g.hi, .bool f.g.grad, .bool f.hid, .bool f.inf, .bool f.res, .func (.func (ordF f)) #[] #[]]), .v (.agg #[.int .i64 k, .bool false, .slice p (dig B32 m).length c, .int .i64 pw])] I Tryz.func102 ?_
  refine zcut I none (fun fr bx gs => ∃ (U1 : Nat → Value) (p13 : Option Addr) (c13 : Nat), fr = (.v (.agg #[.int .i64 (f.size : Int), .int .i64 (f.E : Int), .int .i64 (f.F : Int), .int .i64 f.g.rad, .int .i64 f.g.digs, .int .i64 f.g.lo, .int .i64 f.g.hi, .bool f.g.grad, .bool f.hid, .bool f.inf, .bool f.res, .func (.func (ordF f)) #[] #[]]) :: .v (.agg #[.int .i64 k, .bool false, .slice p (dig B32 m).length c, .int .i64 pw]) :: .p 0 0 :: .p 1 0 :: .p 2 0 :: .p 3 0 :: sw U1 6 9 (.v undef :: sw U1 16 3 []) : List SV) ∧ bx = [⟨146, [.v (.int .i64 (f.size : Int)), .v (.int .i64 (f.E : Int)), .v (.int .i64 (f.F : Int)), .v (.int .i64 f.g.rad), .v (.int .i64 f.g.digs), .v (.int .i64 f.g.lo), .v (.int .i64 f.g.hi), .v (.bool f.g.grad), .v (.bool f.hid), .v (.bool f.inf), .v (.bool f.res), .v (.func (.func (ordF f)) #[] #[])], false⟩, ⟨75, [.v (.int .i64 k), .v (.bool false), .v (.slice p (dig B32 m).length c), .v (.int .i64 pw)], false⟩, ⟨112, [.v (.bool false), .v (.slice none 0 0), .v (.int .i64 0)], false⟩, ⟨112, [.v (.bool d.neg), .v (.slice p13 (dig B32 d.m).length c13), .v (.int .i64 d.e)], false⟩] ∧ gs = [ownF w.heap.size .u32 141 p13 c13 (dig B32 d.m), rdF .u32 p (dig B32 m), tabF]) ?_ ?_
  · intro J hJ Al W I
    refine zd [] I fun Al W I => ?_
    refine zk [0, 1, 2, 4, 5] I fun I => ?_
    refine zo2 3 8 I (fun I => ?_) (fun I => ?_)
    · refine zq I (fun Al W I => h0r f W) fun Al W I => ?_
      refine zki 6 I .i64 (((wid f.g : Nat) : Int) * pw) (mw) ((by rw [HMW.out]; exact iwo)) fun I => ?_
      refine zo2 7 8 I (fun I => ?_) (fun I => ?_)
      · refine zqo I (fun Al W I => (HW W I.fa.1 I.fa.2.1).out) fun Al W p13 c13 I => ?_
        refine zo 8 I fun I => ?_
        refine zn I fun Al W I => ?_
        refine zo 9 I fun I => ?_
        refine zn I fun Al W I => ?_
        exact a0m I J fun Al W U I => hJ _ _ _ _ _ ⟨U, p13, c13, rfl, rfl, rfl⟩ (I.pick [0, 1, 2])
      refine zn I fun Al W I => ?_
      refine zo 7 I fun I => ?_
      refine zqo I (fun Al W I => (HW W I.fa.1 I.fa.2.1).out) fun Al W p13 c13 I => ?_
      refine zo 9 I fun I => ?_
      refine zn I fun Al W I => ?_
      exact a0m I J fun Al W U I => hJ _ _ _ _ _ ⟨U, p13, c13, rfl, rfl, rfl⟩ (I.pick [0, 1, 2])
    refine zn I fun Al W I => ?_
    refine zo 3 I fun I => ?_
    refine zq I (fun Al W I => h0r f W) fun Al W I => ?_
    refine zki 6 I .i64 (((wid f.g : Nat) : Int) * pw) (mw) ((by rw [HMW.out]; exact iwo)) fun I => ?_
    refine zo 7 I fun I => ?_
    refine zqo I (fun Al W I => (HW W I.fa.1 I.fa.2.1).out) fun Al W p13 c13 I => ?_
    refine zo 9 I fun I => ?_
    refine zn I fun Al W I => ?_
    exact a0m I J fun Al W U I => hJ _ _ _ _ _ ⟨U, p13, c13, rfl, rfl, rfl⟩ (I.pick [0, 1, 2])
  rintro _ _ _ ⟨U1, p13, c13, rfl, rfl, rfl⟩ Al W I
  exact zret I fun Al W I => ⟨p13, c13, rfl, I.fa.1.mono (by omega), I.below⟩
 | true =>
  rw [if_pos rfl]
  have I := Inv.start w [rdF .u32 p (dig B32 m), tabF] ⟨hp, hT, True.intro⟩
  refine a0g [.v (.agg #[.int .i64 (f.size : Int), .int .i64 (f.E : Int), .int .i64 (f.F : Int), .int .i64 f.g.rad, .int .i64 f.g.digs, .int .i64 f.g.lo, .int .i64 f.g.hi, .bool f.g.grad, .bool f.hid, .bool f.inf, .bool f.res, .func (.func (ordF f)) #[] #[]]), .v (.agg #[.int .i64 k, .bool true, .slice p (dig B32 m).length c, .int .i64 pw])] I Tryz.func102 ?_
  refine zcut I none (fun fr bx gs => ∃ (U1 : Nat → Value) (p13 : Option Addr) (c13 : Nat), fr = (.v (.agg #[.int .i64 (f.size : Int), .int .i64 (f.E : Int), .int .i64 (f.F : Int), .int .i64 f.g.rad, .int .i64 f.g.digs, .int .i64 f.g.lo, .int .i64 f.g.hi, .bool f.g.grad, .bool f.hid, .bool f.inf, .bool f.res, .func (.func (ordF f)) #[] #[]]) :: .v (.agg #[.int .i64 k, .bool true, .slice p (dig B32 m).length c, .int .i64 pw]) :: .p 0 0 :: .p 1 0 :: .p 2 0 :: .p 3 0 :: sw U1 6 9 (.v undef :: sw U1 16 3 []) : List SV) ∧ bx = [⟨146, [.v (.int .i64 (f.size : Int)), .v (.int .i64 (f.E : Int)), .v (.int .i64 (f.F : Int)), .v (.int .i64 f.g.rad), .v (.int .i64 f.g.digs), .v (.int .i64 f.g.lo), .v (.int .i64 f.g.hi), .v (.bool f.g.grad), .v (.bool f.hid), .v (.bool f.inf), .v (.bool f.res), .v (.func (.func (ordF f)) #[] #[])], false⟩, ⟨75, [.v (.int .i64 k), .v (.bool true), .v (.slice p (dig B32 m).length c), .v (.int .i64 pw)], false⟩, ⟨112, [.v (.bool false), .v (.slice none 0 0), .v (.int .i64 0)], false⟩, ⟨112, [.v (.bool d.neg), .v (.slice p13 (dig B32 d.m).length c13), .v (.int .i64 d.e)], false⟩] ∧ gs = [ownF w.heap.size .u32 141 p13 c13 (dig B32 d.m), rdF .u32 p (dig B32 m), tabF]) ?_ ?_
  · intro J hJ Al W I
    refine zd [] I fun Al W I => ?_
    refine zk [0, 1, 2, 4, 5] I fun I => ?_
    refine zo2 3 8 I (fun I => ?_) (fun I => ?_)
    · refine zq I (fun Al W I => h0r f W) fun Al W I => ?_
      refine zki 6 I .i64 (((wid f.g : Nat) : Int) * pw) (mw) ((by rw [HMW.out]; exact iwo)) fun I => ?_
      refine zo2 7 8 I (fun I => ?_) (fun I => ?_)
      · refine zqo I (fun Al W I => (HW W I.fa.1 I.fa.2.1).out) fun Al W p13 c13 I => ?_
        refine zo 8 I fun I => ?_
        refine zn I fun Al W I => ?_
        refine zo 9 I fun I => ?_
        refine zn I fun Al W I => ?_
        exact a0m I J fun Al W U I => hJ _ _ _ _ _ ⟨U, p13, c13, rfl, rfl, rfl⟩ (I.pick [0, 1, 2])
      refine zn I fun Al W I => ?_
      refine zo 7 I fun I => ?_
      refine zqo I (fun Al W I => (HW W I.fa.1 I.fa.2.1).out) fun Al W p13 c13 I => ?_
      refine zo 9 I fun I => ?_
      refine zn I fun Al W I => ?_
      exact a0m I J fun Al W U I => hJ _ _ _ _ _ ⟨U, p13, c13, rfl, rfl, rfl⟩ (I.pick [0, 1, 2])
    refine zn I fun Al W I => ?_
    refine zo 3 I fun I => ?_
    refine zq I (fun Al W I => h0r f W) fun Al W I => ?_
    refine zki 6 I .i64 (((wid f.g : Nat) : Int) * pw) (mw) ((by rw [HMW.out]; exact iwo)) fun I => ?_
    refine zo 7 I fun I => ?_
    refine zqo I (fun Al W I => (HW W I.fa.1 I.fa.2.1).out) fun Al W p13 c13 I => ?_
    refine zo 9 I fun I => ?_
    refine zn I fun Al W I => ?_
    exact a0m I J fun Al W U I => hJ _ _ _ _ _ ⟨U, p13, c13, rfl, rfl, rfl⟩ (I.pick [0, 1, 2])
  rintro _ _ _ ⟨U1, p13, c13, rfl, rfl, rfl⟩ Al W I
  refine zq I (fun Al W I => z0y d.neg p13 _ c13 d.e d.m W rfl) fun Al W I => ?_
  exact zret I fun Al W I => ⟨p13, c13, rfl, I.fa.1.mono (by omega), I.below⟩
theorem p0l (f : Fm) (g : Bool) (E : Int) (e x : Nat) (hE : E = e) (p : Option Addr) (c : Nat) (w : World) (G : b0g f) (hp : Rd w .u32 p (dig B32 x)) (he : e < 2 ^ f.E) (hx : x < 2 ^ f.F) :
 Calls Tryz.prog 106 #[.agg #[.int .i64 (f.size : Int), .int .i64 (f.E : Int), .int .i64 (f.F : Int), .int .i64 f.g.rad, .int .i64 f.g.digs, .int .i64 f.g.lo, .int .i64 f.g.hi, .bool f.g.grad, .bool f.hid, .bool f.inf, .bool f.res, .func (.func (ordF f)) #[] #[]], .agg #[.bool g, .int .i64 E, .slice p (dig B32 x).length c]] w fun en w' => en = .returned (.string (b0a (f.str g e x))) ∧ Below w.heap.size w w' := by
 subst hE
 exact u0s f g e x p c w G hp he hx
theorem h1z {F : Nat} (h : F ≤ 64) : (dig B32 (2 ^ F)).length ≤ 3 := a0t (n := F + 1) (Nat.pow_lt_pow_right (by omega) (by omega)) (by omega)
theorem w0n (f : Fm) (d : Dv) (p : Option Addr) (c : Nat) (w : World) (G : b0g f) (hp : Rd w .u32 p (dig B32 d.m)) (hl : (dig B32 d.m).length ≤ 1200) (he : -60000 ≤ d.e ∧ d.e ≤ 60000) (hin : b0u d f.g = true) (h0 : d.m ≠ 0) :
 Calls Tryz.prog 103 #[.agg #[.int .i64 (f.size : Int), .int .i64 (f.E : Int), .int .i64 (f.F : Int), .int .i64 f.g.rad, .int .i64 f.g.digs, .int .i64 f.g.lo, .int .i64 f.g.hi, .bool f.g.grad, .bool f.hid, .bool f.inf, .bool f.res, .func (.func (ordF f)) #[] #[]], .agg #[.bool d.neg, .slice p (dig B32 d.m).length c, .int .i64 d.e]] w fun en w' => en = .returned (.string (b0a (f.strP (f.numP d)))) ∧ Below w.heap.size w w' := by
 have hg := b0s G.g
 have N := a1n G hin h0
 have hlt := a1o G N
 obtain ⟨s, m, e⟩ := d
 simp only at h0 hl he hp
 have hd1 := hg.d1
 have hd2 := hg.d2
 have hl1 : (dig B32 1).length ≤ 1 := by rw [a0l a0b]; unfold B32; omega
 obtain ⟨f1, f2, f3⟩ := e1d hg hin h0
 have f4 := f2 f3
 have hq : qP m 1 (e - wid f.g * c0b ⟨s, m, e⟩ f.g) = f.fr ⟨s, m, e⟩ := by
  have := N.e0
  simp only at this
  unfold qP numP denP Fm.fr
  rw [show (-(e - wid f.g * c0b ⟨s, m, e⟩ f.g)).toNat = 0 by omega, Nat.pow_zero, Nat.mul_one, Nat.div_one]
 rw [hq] at f1
 have hK := s0r (show 0 < m by omega) e (w := wid f.g) (D := f.g.digs.toNat) (b0l f.g).1 (by omega)
 have HF := fun W q d (h1 : Rd W .u32 p (dig B32 m)) (h2 : Rd W .u32 q (dig B32 1)) => hi0 (p0h s p q c d m 1 e f.g 3 _ W h1 h2 (by omega) (by omega) (by omega) (by omega) (by omega) hg (by omega) (by omega) hK)
 have hlow := N.low
 have hbl := N.bl
 have hk1 := N.k1
 have hk2 := N.k2
 have hfl : (dig B32 (f.fr ⟨s, m, e⟩)).length ≤ 16 := a0t N.lt (k := 16) (by have := Nat.mul_le_mul (b0l f.g).2 (show f.g.digs.toNat ≤ 120 by omega); omega)
 have hnp : f.numP ⟨s, m, e⟩ = if f.fam = 2 then ⟨s, (c0b ⟨s, m, e⟩ f.g - f.g.lo).toNat, f.fr ⟨s, m, e⟩⟩
  else if (blen (f.fr ⟨s, m, e⟩) : Int) = f.g.digs then ⟨s, (c0b ⟨s, m, e⟩ f.g - f.g.lo).toNat + 1, if f.ext then f.fr ⟨s, m, e⟩ else f.fr ⟨s, m, e⟩ - 2 ^ f.F⟩
  else ⟨s, (c0b ⟨s, m, e⟩ f.g - f.g.lo).toNat, f.fr ⟨s, m, e⟩⟩ := rfl
 rw [hnp] at hlt ⊢
 clear hnp N
 generalize f.fr ⟨s, m, e⟩ = X at *
 generalize c0b ⟨s, m, e⟩ f.g = K at *
 generalize fitK s m 1 e f.g 3 ((e + blen m - 1) / wid f.g - f.g.digs.toNat + 1) = pf at *
 obtain ⟨pn, pd, pp, pex, pov, pun⟩ := pf
 simp only at f1 f4
 subst f1 f4
 clear hK f2 f3 hq
 have z5 := G.lo
 have z6 := G.hi
 have hr := G.rad
 have hw := G.w
 have HJ := fun (W : World) (g : Bool) (e x : Nat) (p : Option Addr) (c : Nat) h h1 h2 => hi0 (u0s f g e x p c W G h h1 h2)
 unfold Fm.strP
 by_cases hf : f.fam = 2
 · rw [if_pos hf] at hr hw hlt ⊢
   simp only at hlt ⊢
   have hei : ((pp - f.g.lo).toNat : Int) = pp - f.g.lo := by omega
   generalize (pp - f.g.lo).toNat = e1 at *
   have I := Inv.start w [rdF .u32 p (dig B32 m)] ⟨hp, True.intro⟩
   refine a0g [.v (.agg #[.int .i64 (f.size : Int), .int .i64 (f.E : Int), .int .i64 (f.F : Int), .int .i64 f.g.rad, .int .i64 f.g.digs, .int .i64 f.g.lo, .int .i64 f.g.hi, .bool f.g.grad, .bool f.hid, .bool f.inf, .bool f.res, .func (.func (ordF f)) #[] #[]]), .v (.agg #[.bool s, .slice p (dig B32 m).length c, .int .i64 e])] I Tryz.func103 ?_
   refine zcut I none (fun fr bx gs => ∃ (U1 : Nat → Value) (p21 : Option Addr) (c21 : Nat), fr = (.v (.agg #[.int .i64 (f.size : Int), .int .i64 (f.E : Int), .int .i64 (f.F : Int), .int .i64 f.g.rad, .int .i64 f.g.digs, .int .i64 f.g.lo, .int .i64 f.g.hi, .bool f.g.grad, .bool f.hid, .bool f.inf, .bool f.res, .func (.func (ordF f)) #[] #[]]) :: .v (.agg #[.bool s, .slice p (dig B32 m).length c, .int .i64 e]) :: .p 0 0 :: .p 1 0 :: .v (Go.Value.string (ByteArray.mk #[])) :: .p 2 0 :: su 2 (sw U1 8 25 (.v undef :: sw U1 34 7 (.v undef :: .v (U1 42) :: .v undef :: sw U1 44 13 []))) : List SV) ∧ bx = [⟨146, [.v (.int .i64 (f.size : Int)), .v (.int .i64 (f.E : Int)), .v (.int .i64 (f.F : Int)), .v (.int .i64 f.g.rad), .v (.int .i64 f.g.digs), .v (.int .i64 f.g.lo), .v (.int .i64 f.g.hi), .v (.bool f.g.grad), .v (.bool f.hid), .v (.bool f.inf), .v (.bool f.res), .v (.func (.func (ordF f)) #[] #[])], false⟩, ⟨112, [.v (.bool s), .v (.slice p (dig B32 m).length c), .v (.int .i64 e)], false⟩, ⟨87, [.v (.bool pn), .v (.slice p21 (dig B32 pd).length c21), .v (.int .i64 pp), .v (.bool pex), .v (.bool pov), .v (.bool pun)], false⟩] ∧ gs = [ownF w.heap.size .u32 141 p21 c21 (dig B32 pd), rdF .u32 p (dig B32 m)]) ?_ ?_
   · intro J hJ Al W I
     refine zd [] I fun Al W I => ?_
     refine zk [0, 1, 2, 3, 4, 5, 7, 8, 9, 11, 12] I fun I => ?_
     refine zo2 6 14 I (fun I => ?_) (fun I => ?_)
     · refine zqo I (fun Al W I => have hzW := I.bel.size; sof 1 1 rfl (by omega) W) fun Al W p14 c14 I => ?_
       refine zk [10] I fun I => ?_
       refine zo2 13 14 I (fun I => ?_) (fun I => ?_)
       · refine zqo I (fun Al W I => (HF W p14 c14 I.fa.2.1 I.fa.1.rd).out) fun Al W p21 c21 I => ?_
         refine zo 14 I fun I => ?_
         refine zn I fun Al W I => ?_
         refine zo 15 I fun I => ?_
         refine zn I fun Al W I => ?_
         exact a0m I J fun Al W U I => hJ _ _ _ _ _ ⟨U, p21, c21, rfl, rfl, rfl⟩ (I.pick [0, 2])
       refine zn I fun Al W I => ?_
       refine zo 13 I fun I => ?_
       refine zqo I (fun Al W I => (HF W p14 c14 I.fa.2.1 I.fa.1.rd).out) fun Al W p21 c21 I => ?_
       refine zo 15 I fun I => ?_
       refine zn I fun Al W I => ?_
       exact a0m I J fun Al W U I => hJ _ _ _ _ _ ⟨U, p21, c21, rfl, rfl, rfl⟩ (I.pick [0, 2])
     refine zn I fun Al W I => ?_
     refine zo 6 I fun I => ?_
     refine zqo I (fun Al W I => have hzW := I.bel.size; sof 1 1 rfl (by omega) W) fun Al W p14 c14 I => ?_
     refine zk [10] I fun I => ?_
     refine zo 13 I fun I => ?_
     refine zqo I (fun Al W I => (HF W p14 c14 I.fa.2.1 I.fa.1.rd).out) fun Al W p21 c21 I => ?_
     refine zo 15 I fun I => ?_
     refine zn I fun Al W I => ?_
     exact a0m I J fun Al W U I => hJ _ _ _ _ _ ⟨U, p21, c21, rfl, rfl, rfl⟩ (I.pick [0, 2])
   rintro _ _ _ ⟨U1, p21, c21, rfl, rfl, rfl⟩ Al W I
   refine zi I 27 .i64 (pp - f.g.lo) ((e1 : Int)) ((by rw [hei]; exact iwo)) fun Al W I => ?_
   refine zb I 33 (f.g.rad == 2) (false) (by rw [hr]; rfl) fun Al W I => ?_
   refine zq I (fun Al W I => (HJ W s e1 pd p21 c21 I.fa.1.rd hlt.1 hlt.2).out) fun Al W I => ?_
   exact zrb I
 · rw [if_neg hf] at hr hw hlt ⊢
   rw [hw] at hbl
   by_cases hb : (blen pd : Int) = f.g.digs
   · rw [if_pos hb] at hlt ⊢
     simp only at hlt ⊢
     have hei : (((pp - f.g.lo).toNat + 1 : Nat) : Int) = pp - f.g.lo + 1 := by omega
     generalize (pp - f.g.lo).toNat + 1 = e1 at *
     by_cases hx : f.ext = true
     · rw [if_pos hx] at hlt ⊢
       have hh : f.hid = false := by unfold Fm.hid; rw [hx]; simp
       have I := Inv.start w [rdF .u32 p (dig B32 m)] ⟨hp, True.intro⟩
       refine a0g [.v (.agg #[.int .i64 (f.size : Int), .int .i64 (f.E : Int), .int .i64 (f.F : Int), .int .i64 f.g.rad, .int .i64 f.g.digs, .int .i64 f.g.lo, .int .i64 f.g.hi, .bool f.g.grad, .bool f.hid, .bool f.inf, .bool f.res, .func (.func (ordF f)) #[] #[]]), .v (.agg #[.bool s, .slice p (dig B32 m).length c, .int .i64 e])] I Tryz.func103 ?_
       refine zcut I none (fun fr bx gs => ∃ (U1 : Nat → Value) (p21 : Option Addr) (c21 : Nat), fr = (.v (.agg #[.int .i64 (f.size : Int), .int .i64 (f.E : Int), .int .i64 (f.F : Int), .int .i64 f.g.rad, .int .i64 f.g.digs, .int .i64 f.g.lo, .int .i64 f.g.hi, .bool f.g.grad, .bool f.hid, .bool f.inf, .bool f.res, .func (.func (ordF f)) #[] #[]]) :: .v (.agg #[.bool s, .slice p (dig B32 m).length c, .int .i64 e]) :: .p 0 0 :: .p 1 0 :: .v (Go.Value.string (ByteArray.mk #[])) :: .p 2 0 :: su 2 (sw U1 8 25 (.v undef :: sw U1 34 7 (.v undef :: .v (U1 42) :: .v undef :: sw U1 44 13 []))) : List SV) ∧ bx = [⟨146, [.v (.int .i64 (f.size : Int)), .v (.int .i64 (f.E : Int)), .v (.int .i64 (f.F : Int)), .v (.int .i64 f.g.rad), .v (.int .i64 f.g.digs), .v (.int .i64 f.g.lo), .v (.int .i64 f.g.hi), .v (.bool f.g.grad), .v (.bool f.hid), .v (.bool f.inf), .v (.bool f.res), .v (.func (.func (ordF f)) #[] #[])], false⟩, ⟨112, [.v (.bool s), .v (.slice p (dig B32 m).length c), .v (.int .i64 e)], false⟩, ⟨87, [.v (.bool pn), .v (.slice p21 (dig B32 pd).length c21), .v (.int .i64 pp), .v (.bool pex), .v (.bool pov), .v (.bool pun)], false⟩] ∧ gs = [ownF w.heap.size .u32 141 p21 c21 (dig B32 pd), rdF .u32 p (dig B32 m)]) ?_ ?_
       · intro J hJ Al W I
         refine zd [] I fun Al W I => ?_
         refine zk [0, 1, 2, 3, 4, 5, 7, 8, 9, 11, 12] I fun I => ?_
         refine zo2 6 14 I (fun I => ?_) (fun I => ?_)
         · refine zqo I (fun Al W I => have hzW := I.bel.size; sof 1 1 rfl (by omega) W) fun Al W p14 c14 I => ?_
           refine zk [10] I fun I => ?_
           refine zo2 13 14 I (fun I => ?_) (fun I => ?_)
           · refine zqo I (fun Al W I => (HF W p14 c14 I.fa.2.1 I.fa.1.rd).out) fun Al W p21 c21 I => ?_
             refine zo 14 I fun I => ?_
             refine zn I fun Al W I => ?_
             refine zo 15 I fun I => ?_
             refine zn I fun Al W I => ?_
             exact a0m I J fun Al W U I => hJ _ _ _ _ _ ⟨U, p21, c21, rfl, rfl, rfl⟩ (I.pick [0, 2])
           refine zn I fun Al W I => ?_
           refine zo 13 I fun I => ?_
           refine zqo I (fun Al W I => (HF W p14 c14 I.fa.2.1 I.fa.1.rd).out) fun Al W p21 c21 I => ?_
           refine zo 15 I fun I => ?_
           refine zn I fun Al W I => ?_
           exact a0m I J fun Al W U I => hJ _ _ _ _ _ ⟨U, p21, c21, rfl, rfl, rfl⟩ (I.pick [0, 2])
         refine zn I fun Al W I => ?_
         refine zo 6 I fun I => ?_
         refine zqo I (fun Al W I => have hzW := I.bel.size; sof 1 1 rfl (by omega) W) fun Al W p14 c14 I => ?_
         refine zk [10] I fun I => ?_
         refine zo 13 I fun I => ?_
         refine zqo I (fun Al W I => (HF W p14 c14 I.fa.2.1 I.fa.1.rd).out) fun Al W p21 c21 I => ?_
         refine zo 15 I fun I => ?_
         refine zn I fun Al W I => ?_
         exact a0m I J fun Al W U I => hJ _ _ _ _ _ ⟨U, p21, c21, rfl, rfl, rfl⟩ (I.pick [0, 2])
       rintro _ _ _ ⟨U1, p21, c21, rfl, rfl, rfl⟩ Al W I
       refine zi I 27 .i64 (pp - f.g.lo) (pp - f.g.lo) (iwo) fun Al W I => ?_
       refine zb I 33 (f.g.rad == 2) (true) (by rw [hr]; rfl) fun Al W I => ?_
       refine zi I 35 .i64 ((pp - f.g.lo) + 1) ((e1 : Int)) ((by rw [hei]; exact iwo)) fun Al W I => ?_
       refine zd [] I fun Al W I => ?_
       refine zk [0, 2, 3, 4] I fun I => ?_
       refine zo 1 I fun I => ?_
       refine zq I (fun Al W I => have hzW := I.bel.size; stay (f0i p21 _ c21 pd W I.fa.1.rd rfl (by omega))) fun Al W I => ?_
       refine zkb 5 I (decide (((blen pd : Nat) : Int) < f.g.digs)) (false) (dFa (by omega)) fun I => ?_
       refine zb I 43 (f.hid) (false) (hh) fun Al W I => ?_
       refine zq I (fun Al W I => (HJ W s e1 pd p21 c21 I.fa.1.rd hlt.1 hlt.2).out) fun Al W I => ?_
       exact zrb I
     · rw [if_neg hx] at hlt ⊢
       have hx' : f.ext = false := by simpa using hx
       have hh : f.hid = true := by unfold Fm.hid; rw [hx']; simp [hf]
       have hFF := G.d1 hf hx'
       have hge : 2 ^ f.F ≤ pd := by
        have h1 := g0f pd ((e0c pd).1 (by omega))
        rw [show blen pd - 1 = f.F by omega] at h1
        exact h1
       have ht := h1z G.f2
       have I := Inv.start w [rdF .u32 p (dig B32 m)] ⟨hp, True.intro⟩
       refine a0g [.v (.agg #[.int .i64 (f.size : Int), .int .i64 (f.E : Int), .int .i64 (f.F : Int), .int .i64 f.g.rad, .int .i64 f.g.digs, .int .i64 f.g.lo, .int .i64 f.g.hi, .bool f.g.grad, .bool f.hid, .bool f.inf, .bool f.res, .func (.func (ordF f)) #[] #[]]), .v (.agg #[.bool s, .slice p (dig B32 m).length c, .int .i64 e])] I Tryz.func103 ?_
       refine zcut I none (fun fr bx gs => ∃ (U1 : Nat → Value) (p21 : Option Addr) (c21 : Nat), fr = (.v (.agg #[.int .i64 (f.size : Int), .int .i64 (f.E : Int), .int .i64 (f.F : Int), .int .i64 f.g.rad, .int .i64 f.g.digs, .int .i64 f.g.lo, .int .i64 f.g.hi, .bool f.g.grad, .bool f.hid, .bool f.inf, .bool f.res, .func (.func (ordF f)) #[] #[]]) :: .v (.agg #[.bool s, .slice p (dig B32 m).length c, .int .i64 e]) :: .p 0 0 :: .p 1 0 :: .v (Go.Value.string (ByteArray.mk #[])) :: .p 2 0 :: su 2 (sw U1 8 25 (.v undef :: sw U1 34 7 (.v undef :: .v (U1 42) :: .v undef :: sw U1 44 13 []))) : List SV) ∧ bx = [⟨146, [.v (.int .i64 (f.size : Int)), .v (.int .i64 (f.E : Int)), .v (.int .i64 (f.F : Int)), .v (.int .i64 f.g.rad), .v (.int .i64 f.g.digs), .v (.int .i64 f.g.lo), .v (.int .i64 f.g.hi), .v (.bool f.g.grad), .v (.bool f.hid), .v (.bool f.inf), .v (.bool f.res), .v (.func (.func (ordF f)) #[] #[])], false⟩, ⟨112, [.v (.bool s), .v (.slice p (dig B32 m).length c), .v (.int .i64 e)], false⟩, ⟨87, [.v (.bool pn), .v (.slice p21 (dig B32 pd).length c21), .v (.int .i64 pp), .v (.bool pex), .v (.bool pov), .v (.bool pun)], false⟩] ∧ gs = [ownF w.heap.size .u32 141 p21 c21 (dig B32 pd), rdF .u32 p (dig B32 m)]) ?_ ?_
       · intro J hJ Al W I
         refine zd [] I fun Al W I => ?_
         refine zk [0, 1, 2, 3, 4, 5, 7, 8, 9, 11, 12] I fun I => ?_
         refine zo2 6 14 I (fun I => ?_) (fun I => ?_)
         · refine zqo I (fun Al W I => have hzW := I.bel.size; sof 1 1 rfl (by omega) W) fun Al W p14 c14 I => ?_
           refine zk [10] I fun I => ?_
           refine zo2 13 14 I (fun I => ?_) (fun I => ?_)
           · refine zqo I (fun Al W I => (HF W p14 c14 I.fa.2.1 I.fa.1.rd).out) fun Al W p21 c21 I => ?_
             refine zo 14 I fun I => ?_
             refine zn I fun Al W I => ?_
             refine zo 15 I fun I => ?_
             refine zn I fun Al W I => ?_
             exact a0m I J fun Al W U I => hJ _ _ _ _ _ ⟨U, p21, c21, rfl, rfl, rfl⟩ (I.pick [0, 2])
           refine zn I fun Al W I => ?_
           refine zo 13 I fun I => ?_
           refine zqo I (fun Al W I => (HF W p14 c14 I.fa.2.1 I.fa.1.rd).out) fun Al W p21 c21 I => ?_
           refine zo 15 I fun I => ?_
           refine zn I fun Al W I => ?_
           exact a0m I J fun Al W U I => hJ _ _ _ _ _ ⟨U, p21, c21, rfl, rfl, rfl⟩ (I.pick [0, 2])
         refine zn I fun Al W I => ?_
         refine zo 6 I fun I => ?_
         refine zqo I (fun Al W I => have hzW := I.bel.size; sof 1 1 rfl (by omega) W) fun Al W p14 c14 I => ?_
         refine zk [10] I fun I => ?_
         refine zo 13 I fun I => ?_
         refine zqo I (fun Al W I => (HF W p14 c14 I.fa.2.1 I.fa.1.rd).out) fun Al W p21 c21 I => ?_
         refine zo 15 I fun I => ?_
         refine zn I fun Al W I => ?_
         exact a0m I J fun Al W U I => hJ _ _ _ _ _ ⟨U, p21, c21, rfl, rfl, rfl⟩ (I.pick [0, 2])
       rintro _ _ _ ⟨U1, p21, c21, rfl, rfl, rfl⟩ Al W I
       refine zi I 27 .i64 (pp - f.g.lo) (pp - f.g.lo) (iwo) fun Al W I => ?_
       refine zb I 33 (f.g.rad == 2) (true) (by rw [hr]; rfl) fun Al W I => ?_
       refine zi I 35 .i64 ((pp - f.g.lo) + 1) ((e1 : Int)) ((by rw [hei]; exact iwo)) fun Al W I => ?_
       refine zd [] I fun Al W I => ?_
       refine zk [0, 2, 3, 4] I fun I => ?_
       refine zo 1 I fun I => ?_
       refine zq I (fun Al W I => have hzW := I.bel.size; stay (f0i p21 _ c21 pd W I.fa.1.rd rfl (by omega))) fun Al W I => ?_
       refine zkb 5 I (decide (((blen pd : Nat) : Int) < f.g.digs)) (false) (dFa (by omega)) fun I => ?_
       refine zb I 43 (f.hid) (true) (hh) fun Al W I => ?_
       refine zqo I (fun Al W I => have hzW := I.bel.size; f0w f.F (2 ^ f.F) _ W (by have := G.f2; omega) rfl rfl) fun Al W p47 c47 I => ?_
       refine zqo I (fun Al W I => have hzW := I.bel.size; ssub p21 p47 _ _ c21 c47 pd (2 ^ f.F) (pd - 2 ^ f.F) W I.fa.2.1.rd I.fa.1.rd rfl rfl (by omega) hge rfl) fun Al W p48 c48 I => ?_
       refine zq I (fun Al W I => (HJ W s e1 (pd - 2 ^ f.F) p48 c48 I.fa.1.rd hlt.1 hlt.2).out) fun Al W I => ?_
       exact zrb I
   · rw [if_neg hb] at hlt ⊢
     simp only at hlt ⊢
     have hlo := (hlow hf hb).1
     have h0e : (pp - f.g.lo).toNat = 0 := by omega
     rw [h0e] at hlt ⊢
     have I := Inv.start w [rdF .u32 p (dig B32 m)] ⟨hp, True.intro⟩
     refine a0g [.v (.agg #[.int .i64 (f.size : Int), .int .i64 (f.E : Int), .int .i64 (f.F : Int), .int .i64 f.g.rad, .int .i64 f.g.digs, .int .i64 f.g.lo, .int .i64 f.g.hi, .bool f.g.grad, .bool f.hid, .bool f.inf, .bool f.res, .func (.func (ordF f)) #[] #[]]), .v (.agg #[.bool s, .slice p (dig B32 m).length c, .int .i64 e])] I Tryz.func103 ?_
     refine zcut I none (fun fr bx gs => ∃ (U1 : Nat → Value) (p21 : Option Addr) (c21 : Nat), fr = (.v (.agg #[.int .i64 (f.size : Int), .int .i64 (f.E : Int), .int .i64 (f.F : Int), .int .i64 f.g.rad, .int .i64 f.g.digs, .int .i64 f.g.lo, .int .i64 f.g.hi, .bool f.g.grad, .bool f.hid, .bool f.inf, .bool f.res, .func (.func (ordF f)) #[] #[]]) :: .v (.agg #[.bool s, .slice p (dig B32 m).length c, .int .i64 e]) :: .p 0 0 :: .p 1 0 :: .v (Go.Value.string (ByteArray.mk #[])) :: .p 2 0 :: su 2 (sw U1 8 25 (.v undef :: sw U1 34 7 (.v undef :: .v (U1 42) :: .v undef :: sw U1 44 13 []))) : List SV) ∧ bx = [⟨146, [.v (.int .i64 (f.size : Int)), .v (.int .i64 (f.E : Int)), .v (.int .i64 (f.F : Int)), .v (.int .i64 f.g.rad), .v (.int .i64 f.g.digs), .v (.int .i64 f.g.lo), .v (.int .i64 f.g.hi), .v (.bool f.g.grad), .v (.bool f.hid), .v (.bool f.inf), .v (.bool f.res), .v (.func (.func (ordF f)) #[] #[])], false⟩, ⟨112, [.v (.bool s), .v (.slice p (dig B32 m).length c), .v (.int .i64 e)], false⟩, ⟨87, [.v (.bool pn), .v (.slice p21 (dig B32 pd).length c21), .v (.int .i64 pp), .v (.bool pex), .v (.bool pov), .v (.bool pun)], false⟩] ∧ gs = [ownF w.heap.size .u32 141 p21 c21 (dig B32 pd), rdF .u32 p (dig B32 m)]) ?_ ?_
     · intro J hJ Al W I
       refine zd [] I fun Al W I => ?_
       refine zk [0, 1, 2, 3, 4, 5, 7, 8, 9, 11, 12] I fun I => ?_
       refine zo2 6 14 I (fun I => ?_) (fun I => ?_)
       · refine zqo I (fun Al W I => have hzW := I.bel.size; sof 1 1 rfl (by omega) W) fun Al W p14 c14 I => ?_
         refine zk [10] I fun I => ?_
         refine zo2 13 14 I (fun I => ?_) (fun I => ?_)
         · refine zqo I (fun Al W I => (HF W p14 c14 I.fa.2.1 I.fa.1.rd).out) fun Al W p21 c21 I => ?_
           refine zo 14 I fun I => ?_
           refine zn I fun Al W I => ?_
           refine zo 15 I fun I => ?_
           refine zn I fun Al W I => ?_
           exact a0m I J fun Al W U I => hJ _ _ _ _ _ ⟨U, p21, c21, rfl, rfl, rfl⟩ (I.pick [0, 2])
         refine zn I fun Al W I => ?_
         refine zo 13 I fun I => ?_
         refine zqo I (fun Al W I => (HF W p14 c14 I.fa.2.1 I.fa.1.rd).out) fun Al W p21 c21 I => ?_
         refine zo 15 I fun I => ?_
         refine zn I fun Al W I => ?_
         exact a0m I J fun Al W U I => hJ _ _ _ _ _ ⟨U, p21, c21, rfl, rfl, rfl⟩ (I.pick [0, 2])
       refine zn I fun Al W I => ?_
       refine zo 6 I fun I => ?_
       refine zqo I (fun Al W I => have hzW := I.bel.size; sof 1 1 rfl (by omega) W) fun Al W p14 c14 I => ?_
       refine zk [10] I fun I => ?_
       refine zo 13 I fun I => ?_
       refine zqo I (fun Al W I => (HF W p14 c14 I.fa.2.1 I.fa.1.rd).out) fun Al W p21 c21 I => ?_
       refine zo 15 I fun I => ?_
       refine zn I fun Al W I => ?_
       exact a0m I J fun Al W U I => hJ _ _ _ _ _ ⟨U, p21, c21, rfl, rfl, rfl⟩ (I.pick [0, 2])
     rintro _ _ _ ⟨U1, p21, c21, rfl, rfl, rfl⟩ Al W I
     refine zi I 27 .i64 (pp - f.g.lo) (pp - f.g.lo) (iwo) fun Al W I => ?_
     refine zb I 33 (f.g.rad == 2) (true) (by rw [hr]; rfl) fun Al W I => ?_
     refine zi I 35 .i64 ((pp - f.g.lo) + 1) ((pp - f.g.lo) + 1) (iwo) fun Al W I => ?_
     refine zd [] I fun Al W I => ?_
     refine zk [0, 2, 3, 4] I fun I => ?_
     refine zo 1 I fun I => ?_
     refine zq I (fun Al W I => have hzW := I.bel.size; stay (f0i p21 _ c21 pd W I.fa.1.rd rfl (by omega))) fun Al W I => ?_
     refine zkb 5 I (decide (((blen pd : Nat) : Int) < f.g.digs)) (true) (dTr (by omega)) fun I => ?_
     refine zq I (fun Al W I => p0l f s 0 0 pd rfl p21 c21 W G I.fa.1.rd hlt.1 hlt.2) fun Al W I => ?_
     exact zrb I
def numD (f : Fm) (a : Din) : Dv := bare ⟨a.g, val B32 a.xs, wid f.g * a.e⟩
def a0n (f : Fm) (cls : Int) (a : Din) : Int :=
 if cls < 1 ∨ 5 < cls then 6
 else if a0u a.xs ≠ 0 then a0u a.xs
 else if ((cls = 3 ∨ cls = 4) ∧ f.inf = false) ∨ (cls = 5 ∧ f.res = false) then 5
 else if cls = 2 then
  if a.e < -20000 ∨ 20000 < a.e then 3
  else if a.xs.length = 0 ∨ b0u (numD f a) f.g = false then 4 else 0
 else if 0 < a.xs.length ∨ a.e ≠ 0 ∨ (a.g = true ∧ (4 ≤ cls ∨ f.res = true)) then 4 else 0
def k0q (f : Fm) (cls : Int) (a : Din) : ByteArray := b0a (f.strP (f.encP cls.toNat a.g (numD f a)))
def m0n (w : World) (er : Int) (s : ByteArray) (en : Ending) (w' : World) : Prop :=
 en = .returned (.tuple #[.string (if er = 0 then s else b0a []), .int .i64 er]) ∧ Below w.heap.size w w'
theorem a0p {w w' : World} {er r : Int} {s : ByteArray} {en : Ending} (h : er = r) (hr : r ≠ 0) (he : en = .returned (.tuple #[.string ⟨#[]⟩, .int .i64 r])) (hb : Below w.heap.size w w') : m0n w er s en w' := by
 subst h
 exact ⟨by rw [he, if_neg hr]; rfl, hb⟩
theorem d0h {w w' : World} {er : Int} {s t : ByteArray} {en : Ending} (h : er = 0) (hs : s = t) (he : en = .returned (.tuple #[.string t, .int .i64 0])) (hb : Below w.heap.size w w') : m0n w er s en w' := by
 subst h hs
 exact ⟨by rw [he, if_pos rfl], hb⟩
theorem i1a {f : Fm} {w : World} {a : Din} (ha : InD w a) (h : a0u a.xs = 0) (he : -20000 ≤ a.e ∧ a.e ≤ 20000) : (dig B32 (numD f a).m).length ≤ 1200 ∧ -100000 ≤ (numD f a).e ∧ (numD f a).e ≤ 150000 := by
 obtain ⟨h1, h2⟩ := f0d ha.lt h
 have hl : (dig B32 (val B32 a.xs)).length ≤ 1200 := by rw [← h1]; exact h2
 have k1 := g0h a0b (⟨a.g, val B32 a.xs, wid f.g * a.e⟩ : Dv)
 have wp := b0l f.g
 have hmu := r0c (wd := wid f.g) (k := a.e) (B := 20000) wp.2 he
 refine ⟨Nat.le_trans k1 hl, ?_⟩
 unfold numD
 by_cases h0 : val B32 a.xs = 0
 · rw [h0, q0f]; simp
 · have ht := h0l (m := val B32 a.xs) (by omega)
   have hb := e0v (val B32 a.xs)
   unfold bare
   rw [if_neg h0]
   simp only
   omega
theorem e1e (f : Fm) (g : Bool) (E : Int) (e : Nat) (hE : E = e) (w : World) (G : b0g f) (he : e < 2 ^ f.E) :
 Calls Tryz.prog 106 #[.agg #[.int .i64 (f.size : Int), .int .i64 (f.E : Int), .int .i64 (f.F : Int), .int .i64 f.g.rad, .int .i64 f.g.digs, .int .i64 f.g.lo, .int .i64 f.g.hi, .bool f.g.grad, .bool f.hid, .bool f.inf, .bool f.res, .func (.func (ordF f)) #[] #[]], .agg #[.bool g, .int .i64 E, .slice none 0 0]] w fun en w' => en = .returned (.string (b0a (f.str g e 0))) ∧ Below w.heap.size w w' := by
 have := p0l f g E e 0 hE none 0 w G (by rw [a0f]; exact Rd.nil _ _ _) he (Nat.pow_pos (by omega))
 rw [a0f] at this
 exact this
theorem a1t (n : Int) (cls : Int) (a : Din) (w : World) (hn : IsFm n) (ha : InD w a) (hT : TabW w) :
 Calls Tryz.prog 42 #[.int .i64 n, .agg #[.int .i64 cls, .bool a.g, .slice a.p a.xs.length a.c, .int .i64 a.e]] w (m0n w (a0n (fmt n) cls a) (k0q (fmt n) cls a)) := by
 have G := b0m hn
 have HF := fun W => hi0 (h0c n hn W)
 generalize fmt n = f at *
 have HR : ∀ (W : World), a0u a.xs = 0 → Rd W .u32 a.p a.xs → -20000 ≤ a.e ∧ a.e ≤ 20000 → TabW W → Hid (Calls Tryz.prog 102 #[.agg #[.int .i64 (f.size : Int), .int .i64 (f.E : Int), .int .i64 (f.F : Int), .int .i64 f.g.rad, .int .i64 f.g.digs, .int .i64 f.g.lo, .int .i64 f.g.hi, .bool f.g.grad, .bool f.hid, .bool f.inf, .bool f.res, .func (.func (ordF f)) #[] #[]], .agg #[.int .i64 cls, .bool a.g, .slice a.p a.xs.length a.c, .int .i64 a.e]] W (e0h W W.heap.size (numD f a))) := by
  intro W h1 h2 h3 h4
  obtain ⟨k1, k2⟩ := f0d ha.lt h1
  have hc := ha.cap
  have := h1y f a.g (val B32 a.xs) a.e cls a.p a.c W (by rw [← k1]; exact h2) (by rw [← k1]; exact hc) (by rw [← k1]; omega) ⟨by omega, by omega⟩ h4
  rw [← k1] at this
  exact hi0 this
 have hB : Bare (numD f a) := g0w _
 have hbd := fun h h2 => i1a (f := f) ha h h2
 have hkp := u0l hB (b0s G.g)
 have hxl : 0 < a.xs.length ↔ a.xs.length ≠ 0 := by omega
 have hm0 : a0u a.xs = 0 → a.xs.length ≠ 0 → (numD f a).m ≠ 0 := fun h1 h2 h3 => by
  obtain ⟨k1, _⟩ := f0d ha.lt h1
  have h4 : val B32 a.xs ≠ 0 := fun h => h2 (by rw [k1]; exact (a0k a0b _).2 h)
  unfold numD bare at h3
  rw [if_neg h4] at h3
  simp only at h3
  have := (c0t (val B32 a.xs) (by omega)).2
  rw [h3] at this
  simp at this
 have hige := fun h => c1t (a := numD f a) G.g hB h
 have z2 := G.e2
 have z3 := G.f2
 have z4 := G.f1
 have hsh := o0z (E := f.E) (by omega)
 have h0T : 0 < 2 ^ f.E := Nat.pow_pos (by omega)
 have h0T2 : 2 ^ f.E ≤ 2 ^ 15 := Nat.pow_le_pow_right (by omega) (by omega)
 have HSH := hi0 hsh
 have hlen := ha.len
 have hhid : f.inf = true → (f.hid = true ↔ f.ext = false) := fun h => by
  have h1 : f.fam = 1 := by unfold Fm.inf at h; simpa using h
  unfold Fm.hid
  rw [h1]
  cases f.ext <;> simp
 have rd := ha.rd
 unfold k0q
 obtain ⟨d, hD⟩ : ∃ d, numD f a = d := ⟨_, rfl⟩
 rw [hD] at HR hB hbd hkp hm0 hige ⊢
 have e1 : f.encP 1 a.g d = ⟨a.g, 0, 0⟩ := rfl
 have e2 : f.encP 2 a.g d = f.numP d := rfl
 have e3 : f.encP 3 a.g d = ⟨a.g, 2 ^ f.E - 1, if f.ext then 2 ^ 63 else 0⟩ := rfl
 have e4 : f.encP 4 a.g d = ⟨a.g, 2 ^ f.E - 1, if f.ext then 2 ^ 63 + 2 ^ 62 else 2 ^ (f.F - 1)⟩ := rfl
 have e5 : f.encP 5 a.g d = ⟨true, 0, 0⟩ := rfl
 have hF1 : 2 ^ (f.F - 1) < 2 ^ f.F := Nat.pow_lt_pow_right (by omega) (by omega)
 have hF0 : 0 < 2 ^ f.F := Nat.pow_pos (by omega)
 have hx64 : f.ext = true → 2 ^ f.F = 2 ^ 64 := fun h => by rw [(G.ext h).2.1]
 have hext : f.inf = true → f.hid = false → f.ext = true := fun h1 h2 => by
  cases hx : f.ext with
  | true => rfl
  | false => have := (hhid h1).2 hx; rw [h2] at this; cases this
 have hJ := fun (W : World) (g : Bool) (E : Int) (e x : Nat) (hE : E = e) (p : Option Addr) (c : Nat) h h1 h2 => hi0 (p0l f g E e x hE p c W G h h1 h2)
 have hJ0 := fun (W : World) (g : Bool) (E : Int) (e : Nat) (hE : E = e) h1 => hi0 (e1e f g E e hE W G h1)
 have h63 : (dig B32 (2 ^ 63)).length ≤ 2 := a0t (n := 64) (by omega) (by omega)
 have h62 : (dig B32 (2 ^ 62)).length ≤ 2 := a0t (n := 64) (by omega) (by omega)
 generalize 2 ^ f.E = P at *
 clear hsh ha
 have I := Inv.start w [rdF .u32 a.p a.xs, tabF] ⟨rd, hT, True.intro⟩
 refine a0g [.v (.int .i64 n), .v (.agg #[.int .i64 cls, .bool a.g, .slice a.p a.xs.length a.c, .int .i64 a.e])] I Tryz.func42 ?_
 refine zq I (fun Al W I => (HF W).out) fun Al W I => ?_
 rcases Bool.eq_false_or_eq_true (decide (cls < 1)) with f21 | f21
 · refine zb I 21 (decide (cls < 1)) (true) (f21) fun Al W I => ?_
   have hE : a0n f cls a = 6 := by unfold a0n; rw [if_pos (by first | (have := oTr f21; omega) | (have := oTr f25; omega))]
   have hN : (6 : Int) ≠ 0 := by decide
   exact zret I fun Al W I => a0p hE hN rfl I.below
 refine zb I 21 (decide (cls < 1)) (false) (f21) fun Al W I => ?_
 rcases Bool.eq_false_or_eq_true (decide (cls > 5)) with f25 | f25
 · refine zb I 25 (decide (cls > 5)) (true) (f25) fun Al W I => ?_
   have hE : a0n f cls a = 6 := by unfold a0n; rw [if_pos (by first | (have := oTr f21; omega) | (have := oTr f25; omega))]
   have hN : (6 : Int) ≠ 0 := by decide
   exact zret I fun Al W I => a0p hE hN rfl I.below
 refine zb I 25 (decide (cls > 5)) (false) (f25) fun Al W I => ?_
 have c1 : ¬ (cls < 1 ∨ 5 < cls) := by have := oFa f21; have := oFa f25; omega
 refine zq I (fun Al W I => d0s a.p _ a.c a.xs W I.fa.1 rfl hlen) fun Al W I => ?_
 rcases Bool.eq_false_or_eq_true ((a0u a.xs) != 0) with f31 | f31
 · refine zb I 31 ((a0u a.xs) != 0) (true) (f31) fun Al W I => ?_
   have hN : a0u a.xs ≠ 0 := bne_iff_ne.1 f31
   have hE : a0n f cls a = a0u a.xs := by unfold a0n; rw [if_neg c1, if_pos hN]
   exact zret I fun Al W I => a0p hE hN rfl I.below
 refine zb I 31 ((a0u a.xs) != 0) (false) (f31) fun Al W I => ?_
 have c2 : a0u a.xs = 0 := by simpa using f31
 rcases Bool.eq_false_or_eq_true (cls == 3) with f35 | f35
 · refine zb I 35 (cls == 3) (true) (f35) fun Al W I => ?_
   rcases Bool.eq_false_or_eq_true (f.inf) with f43 | f43
   · refine zb I 43 (f.inf) (true) (f43) fun Al W I => ?_
     refine zb I 49 (cls == 5) (false) (bFn (by have := beq_iff_eq.1 f35; omega)) fun Al W I => ?_
     have c3 : ¬ (((cls = 3 ∨ cls = 4) ∧ f.inf = false) ∨ (cls = 5 ∧ f.res = false)) := fun h => by rcases h with ⟨h, k⟩ | ⟨h, k⟩ <;> first | (rw [f43] at k; cases k; done) | (rw [f52] at k; cases k; done) | (have q := beq_iff_eq.1 f35; omega) | (have q := beq_iff_eq.1 f39; omega) | (have q := bnF f35; have q2 := bnF f39; omega) | (have q := bnF f49; omega)
     refine zb I 58 (cls == 2) (false) (bFn (by have := beq_iff_eq.1 f35; omega)) fun Al W I => ?_
     have c58 : cls ≠ 2 := by first | (have := beq_iff_eq.1 f35; omega) | (have := beq_iff_eq.1 f39; omega) | (have := beq_iff_eq.1 f49; omega) | exact bnF f58
     rcases Bool.eq_false_or_eq_true (decide ((a.xs.length : Int) > 0)) with f88 | f88
     · refine zb I 88 (decide ((a.xs.length : Int) > 0)) (true) (f88) fun Al W I => ?_
       have hE : a0n f cls a = 4 := by unfold a0n; rw [if_neg c1, if_neg (by omega), if_neg c3, if_neg c58, if_pos (by first | (have := oTr f88; omega) | exact .inr (.inl (bne_iff_ne.1 f92)) | exact .inr (.inr ⟨f96, .inr f103⟩) | exact .inr (.inr ⟨f96, .inl (by first | (have := beq_iff_eq.1 f39; omega) | (have := beq_iff_eq.1 f49; omega))⟩))]
       have hN : (4 : Int) ≠ 0 := by decide
       exact zret I fun Al W I => a0p hE hN rfl I.below
     refine zb I 88 (decide ((a.xs.length : Int) > 0)) (false) (f88) fun Al W I => ?_
     rcases Bool.eq_false_or_eq_true (a.e != 0) with f92 | f92
     · refine zb I 92 (a.e != 0) (true) (f92) fun Al W I => ?_
       have hE : a0n f cls a = 4 := by unfold a0n; rw [if_neg c1, if_neg (by omega), if_neg c3, if_neg c58, if_pos (by first | (have := oTr f88; omega) | exact .inr (.inl (bne_iff_ne.1 f92)) | exact .inr (.inr ⟨f96, .inr f103⟩) | exact .inr (.inr ⟨f96, .inl (by first | (have := beq_iff_eq.1 f39; omega) | (have := beq_iff_eq.1 f49; omega))⟩))]
       have hN : (4 : Int) ≠ 0 := by decide
       exact zret I fun Al W I => a0p hE hN rfl I.below
     refine zb I 92 (a.e != 0) (false) (f92) fun Al W I => ?_
     rcases Bool.eq_false_or_eq_true (a.g) with f96 | f96
     · refine zb I 96 (a.g) (true) (f96) fun Al W I => ?_
       refine zb I 100 (decide (cls ≥ 4)) (false) (dFa (by have := beq_iff_eq.1 f35; omega)) fun Al W I => ?_
       rcases Bool.eq_false_or_eq_true (f.res) with f103 | f103
       · refine zb I 103 (f.res) (true) (f103) fun Al W I => ?_
         have hE : a0n f cls a = 4 := by unfold a0n; rw [if_neg c1, if_neg (by omega), if_neg c3, if_neg c58, if_pos (by first | (have := oTr f88; omega) | exact .inr (.inl (bne_iff_ne.1 f92)) | exact .inr (.inr ⟨f96, .inr f103⟩) | exact .inr (.inr ⟨f96, .inl (by first | (have := beq_iff_eq.1 f39; omega) | (have := beq_iff_eq.1 f49; omega))⟩))]
         have hN : (4 : Int) ≠ 0 := by decide
         exact zret I fun Al W I => a0p hE hN rfl I.below
       refine zb I 103 (f.res) (false) (f103) fun Al W I => ?_
       have hE : a0n f cls a = 0 := by unfold a0n; rw [if_neg c1, if_neg (by omega), if_neg c3, if_neg c58, if_neg (fun h => by rcases h with h | h | ⟨h, k⟩ <;> first | (have := oFa f88; omega) | (rw [show (a.e != 0) = true from bne_iff_ne.2 h] at f92; cases f92; done) | (rw [f96] at h; cases h; done) | (rcases k with k | k <;> first | (have := beq_iff_eq.1 f35; omega) | (have := bnF f49; have := bnF f35; have := bnF f39; omega) | (rw [f103] at k; cases k; done)))]
       refine zbin I 109 _ (fun _ _ _ _ _ => c0u .i64 (1) .i64 (f.E : Int) ((P : Int)) (by omega) ((HSH.out))) fun Al W I => ?_
       refine zi I 110 .i64 ((P : Int) - 1) (((P - 1 : Nat) : Int)) ((by rw [show ((P : Int) - 1) = ((P - 1 : Nat) : Int) by omega]; exact iwo)) fun Al W I => ?_
       refine zb I 117 (cls == 3) (true) (f35) fun Al W I => ?_
       rcases Bool.eq_false_or_eq_true (f.hid) with f121 | f121
       · refine zb I 121 (f.hid) (true) (f121) fun Al W I => ?_
         refine zg I (fun Al W I => have hzW := I.bel.size; (hJ0 W a.g ((P - 1 : Nat) : Int) (P - 1) rfl (by omega)).out) fun Al V Iv _ hB _ kz => ?_
         rintro _ W ⟨rfl, hb⟩
         have hS : b0a (f.strP (f.encP cls.toNat a.g d)) = b0a (f.str a.g (P - 1) 0) := by rw [show cls.toNat = 3 by have := beq_iff_eq.1 f35; omega, e3, if_neg (by rw [(hhid f43).1 f121]; simp)]; rfl
         refine ⟨_, rfl, kz _ _ hb fun I => ?_⟩
         exact zret I fun Al W I => d0h hE hS rfl I.below
       refine zb I 121 (f.hid) (false) (f121) fun Al W I => ?_
       refine zqo I (fun Al W I => have hzW := I.bel.size; f0w 63 (2 ^ 63) 63 W (by omega) rfl rfl) fun Al W p123 c123 I => ?_
       refine zg I (fun Al W I => have hzW := I.bel.size; (hJ W a.g ((P - 1 : Nat) : Int) (P - 1) (2 ^ 63) rfl p123 c123 I.fa.1.rd (by omega) (by rw [hx64 (hext f43 f121)]; omega)).out) fun Al V Iv _ hB _ kz => ?_
       rintro _ W ⟨rfl, hb⟩
       have hS : b0a (f.strP (f.encP cls.toNat a.g d)) = b0a (f.str a.g (P - 1) (2 ^ 63)) := by rw [show cls.toNat = 3 by have := beq_iff_eq.1 f35; omega, e3, if_pos (hext f43 f121)]; rfl
       refine ⟨_, rfl, kz _ _ hb fun I => ?_⟩
       exact zret I fun Al W I => d0h hE hS rfl I.below
     refine zb I 96 (a.g) (false) (f96) fun Al W I => ?_
     have hE : a0n f cls a = 0 := by unfold a0n; rw [if_neg c1, if_neg (by omega), if_neg c3, if_neg c58, if_neg (fun h => by rcases h with h | h | ⟨h, k⟩ <;> first | (have := oFa f88; omega) | (rw [show (a.e != 0) = true from bne_iff_ne.2 h] at f92; cases f92; done) | (rw [f96] at h; cases h; done) | (rcases k with k | k <;> first | (have := beq_iff_eq.1 f35; omega) | (have := bnF f49; have := bnF f35; have := bnF f39; omega) | (rw [f103] at k; cases k; done)))]
     refine zbin I 109 _ (fun _ _ _ _ _ => c0u .i64 (1) .i64 (f.E : Int) ((P : Int)) (by omega) ((HSH.out))) fun Al W I => ?_
     refine zi I 110 .i64 ((P : Int) - 1) (((P - 1 : Nat) : Int)) ((by rw [show ((P : Int) - 1) = ((P - 1 : Nat) : Int) by omega]; exact iwo)) fun Al W I => ?_
     refine zb I 117 (cls == 3) (true) (f35) fun Al W I => ?_
     rcases Bool.eq_false_or_eq_true (f.hid) with f121 | f121
     · refine zb I 121 (f.hid) (true) (f121) fun Al W I => ?_
       refine zg I (fun Al W I => have hzW := I.bel.size; (hJ0 W a.g ((P - 1 : Nat) : Int) (P - 1) rfl (by omega)).out) fun Al V Iv _ hB _ kz => ?_
       rintro _ W ⟨rfl, hb⟩
       have hS : b0a (f.strP (f.encP cls.toNat a.g d)) = b0a (f.str a.g (P - 1) 0) := by rw [show cls.toNat = 3 by have := beq_iff_eq.1 f35; omega, e3, if_neg (by rw [(hhid f43).1 f121]; simp)]; rfl
       refine ⟨_, rfl, kz _ _ hb fun I => ?_⟩
       exact zret I fun Al W I => d0h hE hS rfl I.below
     refine zb I 121 (f.hid) (false) (f121) fun Al W I => ?_
     refine zqo I (fun Al W I => have hzW := I.bel.size; f0w 63 (2 ^ 63) 63 W (by omega) rfl rfl) fun Al W p123 c123 I => ?_
     refine zg I (fun Al W I => have hzW := I.bel.size; (hJ W a.g ((P - 1 : Nat) : Int) (P - 1) (2 ^ 63) rfl p123 c123 I.fa.1.rd (by omega) (by rw [hx64 (hext f43 f121)]; omega)).out) fun Al V Iv _ hB _ kz => ?_
     rintro _ W ⟨rfl, hb⟩
     have hS : b0a (f.strP (f.encP cls.toNat a.g d)) = b0a (f.str a.g (P - 1) (2 ^ 63)) := by rw [show cls.toNat = 3 by have := beq_iff_eq.1 f35; omega, e3, if_pos (hext f43 f121)]; rfl
     refine ⟨_, rfl, kz _ _ hb fun I => ?_⟩
     exact zret I fun Al W I => d0h hE hS rfl I.below
   refine zb I 43 (f.inf) (false) (f43) fun Al W I => ?_
   have hE : a0n f cls a = 5 := by unfold a0n; rw [if_neg c1, if_neg (by omega), if_pos (by first | exact .inl ⟨.inl (beq_iff_eq.1 f35), f43⟩ | exact .inl ⟨.inr (beq_iff_eq.1 f39), f43⟩ | exact .inr ⟨beq_iff_eq.1 f49, f52⟩)]
   have hN : (5 : Int) ≠ 0 := by decide
   exact zret I fun Al W I => a0p hE hN rfl I.below
 refine zb I 35 (cls == 3) (false) (f35) fun Al W I => ?_
 rcases Bool.eq_false_or_eq_true (cls == 4) with f39 | f39
 · refine zb I 39 (cls == 4) (true) (f39) fun Al W I => ?_
   rcases Bool.eq_false_or_eq_true (f.inf) with f43 | f43
   · refine zb I 43 (f.inf) (true) (f43) fun Al W I => ?_
     refine zb I 49 (cls == 5) (false) (bFn (by have := beq_iff_eq.1 f39; omega)) fun Al W I => ?_
     have c3 : ¬ (((cls = 3 ∨ cls = 4) ∧ f.inf = false) ∨ (cls = 5 ∧ f.res = false)) := fun h => by rcases h with ⟨h, k⟩ | ⟨h, k⟩ <;> first | (rw [f43] at k; cases k; done) | (rw [f52] at k; cases k; done) | (have q := beq_iff_eq.1 f35; omega) | (have q := beq_iff_eq.1 f39; omega) | (have q := bnF f35; have q2 := bnF f39; omega) | (have q := bnF f49; omega)
     refine zb I 58 (cls == 2) (false) (bFn (by have := beq_iff_eq.1 f39; omega)) fun Al W I => ?_
     have c58 : cls ≠ 2 := by first | (have := beq_iff_eq.1 f35; omega) | (have := beq_iff_eq.1 f39; omega) | (have := beq_iff_eq.1 f49; omega) | exact bnF f58
     rcases Bool.eq_false_or_eq_true (decide ((a.xs.length : Int) > 0)) with f88 | f88
     · refine zb I 88 (decide ((a.xs.length : Int) > 0)) (true) (f88) fun Al W I => ?_
       have hE : a0n f cls a = 4 := by unfold a0n; rw [if_neg c1, if_neg (by omega), if_neg c3, if_neg c58, if_pos (by first | (have := oTr f88; omega) | exact .inr (.inl (bne_iff_ne.1 f92)) | exact .inr (.inr ⟨f96, .inr f103⟩) | exact .inr (.inr ⟨f96, .inl (by first | (have := beq_iff_eq.1 f39; omega) | (have := beq_iff_eq.1 f49; omega))⟩))]
       have hN : (4 : Int) ≠ 0 := by decide
       exact zret I fun Al W I => a0p hE hN rfl I.below
     refine zb I 88 (decide ((a.xs.length : Int) > 0)) (false) (f88) fun Al W I => ?_
     rcases Bool.eq_false_or_eq_true (a.e != 0) with f92 | f92
     · refine zb I 92 (a.e != 0) (true) (f92) fun Al W I => ?_
       have hE : a0n f cls a = 4 := by unfold a0n; rw [if_neg c1, if_neg (by omega), if_neg c3, if_neg c58, if_pos (by first | (have := oTr f88; omega) | exact .inr (.inl (bne_iff_ne.1 f92)) | exact .inr (.inr ⟨f96, .inr f103⟩) | exact .inr (.inr ⟨f96, .inl (by first | (have := beq_iff_eq.1 f39; omega) | (have := beq_iff_eq.1 f49; omega))⟩))]
       have hN : (4 : Int) ≠ 0 := by decide
       exact zret I fun Al W I => a0p hE hN rfl I.below
     refine zb I 92 (a.e != 0) (false) (f92) fun Al W I => ?_
     rcases Bool.eq_false_or_eq_true (a.g) with f96 | f96
     · refine zb I 96 (a.g) (true) (f96) fun Al W I => ?_
       refine zb I 100 (decide (cls ≥ 4)) (true) (dTr (by have := beq_iff_eq.1 f39; omega)) fun Al W I => ?_
       have hE : a0n f cls a = 4 := by unfold a0n; rw [if_neg c1, if_neg (by omega), if_neg c3, if_neg c58, if_pos (by first | (have := oTr f88; omega) | exact .inr (.inl (bne_iff_ne.1 f92)) | exact .inr (.inr ⟨f96, .inr f103⟩) | exact .inr (.inr ⟨f96, .inl (by first | (have := beq_iff_eq.1 f39; omega) | (have := beq_iff_eq.1 f49; omega))⟩))]
       have hN : (4 : Int) ≠ 0 := by decide
       exact zret I fun Al W I => a0p hE hN rfl I.below
     refine zb I 96 (a.g) (false) (f96) fun Al W I => ?_
     have hE : a0n f cls a = 0 := by unfold a0n; rw [if_neg c1, if_neg (by omega), if_neg c3, if_neg c58, if_neg (fun h => by rcases h with h | h | ⟨h, k⟩ <;> first | (have := oFa f88; omega) | (rw [show (a.e != 0) = true from bne_iff_ne.2 h] at f92; cases f92; done) | (rw [f96] at h; cases h; done) | (rcases k with k | k <;> first | (have := beq_iff_eq.1 f35; omega) | (have := bnF f49; have := bnF f35; have := bnF f39; omega) | (rw [f103] at k; cases k; done)))]
     refine zbin I 109 _ (fun _ _ _ _ _ => c0u .i64 (1) .i64 (f.E : Int) ((P : Int)) (by omega) ((HSH.out))) fun Al W I => ?_
     refine zi I 110 .i64 ((P : Int) - 1) (((P - 1 : Nat) : Int)) ((by rw [show ((P : Int) - 1) = ((P - 1 : Nat) : Int) by omega]; exact iwo)) fun Al W I => ?_
     refine zb I 117 (cls == 3) (false) (f35) fun Al W I => ?_
     refine zb I 126 (cls == 4) (true) (f39) fun Al W I => ?_
     refine zi I 130 .i64 ((f.F : Int) - 1) (((f.F - 1 : Nat) : Int)) ((by rw [show ((f.F : Int) - 1) = ((f.F - 1 : Nat) : Int) by omega]; exact iwo)) fun Al W I => ?_
     refine zqo I (fun Al W I => have hzW := I.bel.size; f0w (f.F - 1) (2 ^ (f.F - 1)) _ W (by omega) rfl rfl) fun Al W p131 c131 I => ?_
     rcases Bool.eq_false_or_eq_true (f.hid) with f135 | f135
     · refine zb I 135 (f.hid) (true) (f135) fun Al W I => ?_
       refine zg I (fun Al W I => have hzW := I.bel.size; (hJ W a.g ((P - 1 : Nat) : Int) (P - 1) (2 ^ (f.F - 1)) rfl p131 c131 I.fa.1.rd (by omega) hF1).out) fun Al V Iv _ hB _ kz => ?_
       rintro _ W ⟨rfl, hb⟩
       have hS : b0a (f.strP (f.encP cls.toNat a.g d)) = b0a (f.str a.g (P - 1) (2 ^ (f.F - 1))) := by rw [show cls.toNat = 4 by have := beq_iff_eq.1 f39; omega, e4, if_neg (by rw [(hhid f43).1 f135]; simp)]; rfl
       refine ⟨_, rfl, kz _ _ hb fun I => ?_⟩
       exact zret I fun Al W I => d0h hE hS rfl I.below
     refine zb I 135 (f.hid) (false) (f135) fun Al W I => ?_
     refine zqo I (fun Al W I => have hzW := I.bel.size; f0w 63 (2 ^ 63) 63 W (by omega) rfl rfl) fun Al W p137 c137 I => ?_
     refine zqo I (fun Al W I => have hzW := I.bel.size; f0w 62 (2 ^ 62) 62 W (by omega) rfl rfl) fun Al W p138 c138 I => ?_
     refine zqo I (fun Al W I => have hzW := I.bel.size; sadd p137 p138 _ _ c137 c138 (2 ^ 63) (2 ^ 62) (2 ^ 63 + 2 ^ 62) W I.fa.2.1.rd I.fa.1.rd rfl rfl (by omega) (by omega) rfl) fun Al W p139 c139 I => ?_
     refine zg I (fun Al W I => have hzW := I.bel.size; (hJ W a.g ((P - 1 : Nat) : Int) (P - 1) (2 ^ 63 + 2 ^ 62) rfl p139 c139 I.fa.1.rd (by omega) (by rw [hx64 (hext f43 f135)]; omega)).out) fun Al V Iv _ hB _ kz => ?_
     rintro _ W ⟨rfl, hb⟩
     have hS : b0a (f.strP (f.encP cls.toNat a.g d)) = b0a (f.str a.g (P - 1) (2 ^ 63 + 2 ^ 62)) := by rw [show cls.toNat = 4 by have := beq_iff_eq.1 f39; omega, e4, if_pos (hext f43 f135)]; rfl
     refine ⟨_, rfl, kz _ _ hb fun I => ?_⟩
     exact zret I fun Al W I => d0h hE hS rfl I.below
   refine zb I 43 (f.inf) (false) (f43) fun Al W I => ?_
   have hE : a0n f cls a = 5 := by unfold a0n; rw [if_neg c1, if_neg (by omega), if_pos (by first | exact .inl ⟨.inl (beq_iff_eq.1 f35), f43⟩ | exact .inl ⟨.inr (beq_iff_eq.1 f39), f43⟩ | exact .inr ⟨beq_iff_eq.1 f49, f52⟩)]
   have hN : (5 : Int) ≠ 0 := by decide
   exact zret I fun Al W I => a0p hE hN rfl I.below
 refine zb I 39 (cls == 4) (false) (f39) fun Al W I => ?_
 rcases Bool.eq_false_or_eq_true (cls == 5) with f49 | f49
 · refine zb I 49 (cls == 5) (true) (f49) fun Al W I => ?_
   rcases Bool.eq_false_or_eq_true (f.res) with f52 | f52
   · refine zb I 52 (f.res) (true) (f52) fun Al W I => ?_
     have c3 : ¬ (((cls = 3 ∨ cls = 4) ∧ f.inf = false) ∨ (cls = 5 ∧ f.res = false)) := fun h => by rcases h with ⟨h, k⟩ | ⟨h, k⟩ <;> first | (rw [f43] at k; cases k; done) | (rw [f52] at k; cases k; done) | (have q := beq_iff_eq.1 f35; omega) | (have q := beq_iff_eq.1 f39; omega) | (have q := bnF f35; have q2 := bnF f39; omega) | (have q := bnF f49; omega)
     refine zb I 58 (cls == 2) (false) (bFn (by have := beq_iff_eq.1 f49; omega)) fun Al W I => ?_
     have c58 : cls ≠ 2 := by first | (have := beq_iff_eq.1 f35; omega) | (have := beq_iff_eq.1 f39; omega) | (have := beq_iff_eq.1 f49; omega) | exact bnF f58
     rcases Bool.eq_false_or_eq_true (decide ((a.xs.length : Int) > 0)) with f88 | f88
     · refine zb I 88 (decide ((a.xs.length : Int) > 0)) (true) (f88) fun Al W I => ?_
       have hE : a0n f cls a = 4 := by unfold a0n; rw [if_neg c1, if_neg (by omega), if_neg c3, if_neg c58, if_pos (by first | (have := oTr f88; omega) | exact .inr (.inl (bne_iff_ne.1 f92)) | exact .inr (.inr ⟨f96, .inr f103⟩) | exact .inr (.inr ⟨f96, .inl (by first | (have := beq_iff_eq.1 f39; omega) | (have := beq_iff_eq.1 f49; omega))⟩))]
       have hN : (4 : Int) ≠ 0 := by decide
       exact zret I fun Al W I => a0p hE hN rfl I.below
     refine zb I 88 (decide ((a.xs.length : Int) > 0)) (false) (f88) fun Al W I => ?_
     rcases Bool.eq_false_or_eq_true (a.e != 0) with f92 | f92
     · refine zb I 92 (a.e != 0) (true) (f92) fun Al W I => ?_
       have hE : a0n f cls a = 4 := by unfold a0n; rw [if_neg c1, if_neg (by omega), if_neg c3, if_neg c58, if_pos (by first | (have := oTr f88; omega) | exact .inr (.inl (bne_iff_ne.1 f92)) | exact .inr (.inr ⟨f96, .inr f103⟩) | exact .inr (.inr ⟨f96, .inl (by first | (have := beq_iff_eq.1 f39; omega) | (have := beq_iff_eq.1 f49; omega))⟩))]
       have hN : (4 : Int) ≠ 0 := by decide
       exact zret I fun Al W I => a0p hE hN rfl I.below
     refine zb I 92 (a.e != 0) (false) (f92) fun Al W I => ?_
     rcases Bool.eq_false_or_eq_true (a.g) with f96 | f96
     · refine zb I 96 (a.g) (true) (f96) fun Al W I => ?_
       refine zb I 100 (decide (cls ≥ 4)) (true) (dTr (by have := beq_iff_eq.1 f49; omega)) fun Al W I => ?_
       have hE : a0n f cls a = 4 := by unfold a0n; rw [if_neg c1, if_neg (by omega), if_neg c3, if_neg c58, if_pos (by first | (have := oTr f88; omega) | exact .inr (.inl (bne_iff_ne.1 f92)) | exact .inr (.inr ⟨f96, .inr f103⟩) | exact .inr (.inr ⟨f96, .inl (by first | (have := beq_iff_eq.1 f39; omega) | (have := beq_iff_eq.1 f49; omega))⟩))]
       have hN : (4 : Int) ≠ 0 := by decide
       exact zret I fun Al W I => a0p hE hN rfl I.below
     refine zb I 96 (a.g) (false) (f96) fun Al W I => ?_
     have hE : a0n f cls a = 0 := by unfold a0n; rw [if_neg c1, if_neg (by omega), if_neg c3, if_neg c58, if_neg (fun h => by rcases h with h | h | ⟨h, k⟩ <;> first | (have := oFa f88; omega) | (rw [show (a.e != 0) = true from bne_iff_ne.2 h] at f92; cases f92; done) | (rw [f96] at h; cases h; done) | (rcases k with k | k <;> first | (have := beq_iff_eq.1 f35; omega) | (have := bnF f49; have := bnF f35; have := bnF f39; omega) | (rw [f103] at k; cases k; done)))]
     refine zbin I 109 _ (fun _ _ _ _ _ => c0u .i64 (1) .i64 (f.E : Int) ((P : Int)) (by omega) ((HSH.out))) fun Al W I => ?_
     refine zi I 110 .i64 ((P : Int) - 1) (((P - 1 : Nat) : Int)) ((by rw [show ((P : Int) - 1) = ((P - 1 : Nat) : Int) by omega]; exact iwo)) fun Al W I => ?_
     refine zb I 117 (cls == 3) (false) (f35) fun Al W I => ?_
     refine zb I 126 (cls == 4) (false) (f39) fun Al W I => ?_
     refine zb I 142 (cls == 5) (true) (f49) fun Al W I => ?_
     refine zg I (fun Al W I => (hJ0 W true 0 0 rfl h0T).out) fun Al V Iv _ hB _ kz => ?_
     rintro _ W ⟨rfl, hb⟩
     have hS : b0a (f.strP (f.encP cls.toNat a.g d)) = b0a (f.str true 0 0) := by rw [show cls.toNat = 5 by have := beq_iff_eq.1 f49; omega, e5]; rfl
     refine ⟨_, rfl, kz _ _ hb fun I => ?_⟩
     exact zret I fun Al W I => d0h hE hS rfl I.below
   refine zb I 52 (f.res) (false) (f52) fun Al W I => ?_
   have hE : a0n f cls a = 5 := by unfold a0n; rw [if_neg c1, if_neg (by omega), if_pos (by first | exact .inl ⟨.inl (beq_iff_eq.1 f35), f43⟩ | exact .inl ⟨.inr (beq_iff_eq.1 f39), f43⟩ | exact .inr ⟨beq_iff_eq.1 f49, f52⟩)]
   have hN : (5 : Int) ≠ 0 := by decide
   exact zret I fun Al W I => a0p hE hN rfl I.below
 refine zb I 49 (cls == 5) (false) (f49) fun Al W I => ?_
 have c3 : ¬ (((cls = 3 ∨ cls = 4) ∧ f.inf = false) ∨ (cls = 5 ∧ f.res = false)) := fun h => by rcases h with ⟨h, k⟩ | ⟨h, k⟩ <;> first | (rw [f43] at k; cases k; done) | (rw [f52] at k; cases k; done) | (have q := beq_iff_eq.1 f35; omega) | (have q := beq_iff_eq.1 f39; omega) | (have q := bnF f35; have q2 := bnF f39; omega) | (have q := bnF f49; omega)
 rcases Bool.eq_false_or_eq_true (cls == 2) with f58 | f58
 · refine zb I 58 (cls == 2) (true) (f58) fun Al W I => ?_
   have c58 : cls = 2 := beq_iff_eq.1 f58
   rcases Bool.eq_false_or_eq_true (decide (a.e < (-20000))) with f61 | f61
   · refine zb I 61 (decide (a.e < (-20000))) (true) (f61) fun Al W I => ?_
     have hE : a0n f cls a = 3 := by unfold a0n; rw [if_neg c1, if_neg (by omega), if_neg c3, if_pos c58, if_pos (by first | (have := oTr f61; omega) | (have := oTr f65; omega))]
     have hN : (3 : Int) ≠ 0 := by decide
     exact zret I fun Al W I => a0p hE hN rfl I.below
   refine zb I 61 (decide (a.e < (-20000))) (false) (f61) fun Al W I => ?_
   rcases Bool.eq_false_or_eq_true (decide (a.e > 20000)) with f65 | f65
   · refine zb I 65 (decide (a.e > 20000)) (true) (f65) fun Al W I => ?_
     have hE : a0n f cls a = 3 := by unfold a0n; rw [if_neg c1, if_neg (by omega), if_neg c3, if_pos c58, if_pos (by first | (have := oTr f61; omega) | (have := oTr f65; omega))]
     have hN : (3 : Int) ≠ 0 := by decide
     exact zret I fun Al W I => a0p hE hN rfl I.below
   refine zb I 65 (decide (a.e > 20000)) (false) (f65) fun Al W I => ?_
   by_cases h70 : a.xs.length = 0
   · by_cases h77 : b0u d f.g = true
     · have c4 : -20000 ≤ a.e ∧ a.e ≤ 20000 := by have := oFa f61; have := oFa f65; omega
       have hb1 := hbd c2 c4
       refine zd [] I fun Al W I => ?_
       refine zk [0, 1, 2] I fun I => ?_
       refine zkb 3 I ((a.xs.length : Int) == 0) (true) (beq_iff_eq.2 (by omega)) fun I => ?_
       refine zk [4, 5, 6, 7, 8, 9, 10, 11, 12] I fun I => ?_
       have hE : a0n f cls a = 4 := by unfold a0n; rw [if_neg c1, if_neg (by omega), if_neg c3, if_pos c58, if_neg (by omega), if_pos (by first | exact .inl h70 | exact .inr (by rw [hD]; simpa using h77))]
       have hN : (4 : Int) ≠ 0 := by decide
       exact zret I fun Al W I => a0p hE hN rfl I.below
     have c4 : -20000 ≤ a.e ∧ a.e ≤ 20000 := by have := oFa f61; have := oFa f65; omega
     have hb1 := hbd c2 c4
     refine zd [] I fun Al W I => ?_
     refine zk [0, 1, 2] I fun I => ?_
     refine zkb 3 I ((a.xs.length : Int) == 0) (true) (beq_iff_eq.2 (by omega)) fun I => ?_
     refine zk [4, 5, 6, 7, 8, 9, 10, 11, 12] I fun I => ?_
     have hE : a0n f cls a = 4 := by unfold a0n; rw [if_neg c1, if_neg (by omega), if_neg c3, if_pos c58, if_neg (by omega), if_pos (by first | exact .inl h70 | exact .inr (by rw [hD]; simpa using h77))]
     have hN : (4 : Int) ≠ 0 := by decide
     exact zret I fun Al W I => a0p hE hN rfl I.below
   by_cases h77 : b0u d f.g = true
   · have c4 : -20000 ≤ a.e ∧ a.e ≤ 20000 := by have := oFa f61; have := oFa f65; omega
     have hb1 := hbd c2 c4
     refine zd [] I fun Al W I => ?_
     refine zk [0, 1, 2] I fun I => ?_
     refine zkb 3 I ((a.xs.length : Int) == 0) (false) (bFn (by omega)) fun I => ?_
     refine zk [4, 5, 6, 8, 9] I fun I => ?_
     refine zo 7 I fun I => ?_
     refine zqo I (fun Al W I => (HR W c2 I.fa.1 c4 I.fa.2.1).out) fun Al W p74 c74 I => ?_
     refine zo 10 I fun I => ?_
     refine zqd I (fun Al W I => have hzW := I.bel.size; k0h d.neg p74 c74 d.e d.m f.g W I.fa.1.rd (by omega) (by omega) (b0s G.g)) (show (g0a ⟨d.neg, d.m, d.e⟩ f.g) = true from hkp.trans h77) fun Al W I => ?_
     refine zk [11, 12] I fun I => ?_
     have hi := hige h77
     refine zd [] I fun Al W I => ?_
     refine zk [0, 1, 2] I fun I => ?_
     refine zo 3 I fun I => ?_
     refine zqo I (fun Al W I => (HR W c2 I.fa.2.1 c4 I.fa.2.2.1).out) fun Al W p83 c83 I => ?_
     refine zo 4 I fun I => ?_
     refine zq I (fun Al W I => have hzW := I.bel.size; w0n f d p83 c83 W G I.fa.1.rd hb1.1 (by omega) h77 (hm0 c2 h70)) fun Al W I => ?_
     refine zk [5, 6] I fun I => ?_
     have hE : a0n f cls a = 0 := by unfold a0n; rw [if_neg c1, if_neg (by omega), if_neg c3, if_pos c58, if_neg (by omega), if_neg (fun h => by rcases h with h | h <;> first | exact h70 h | (rw [hD, h77] at h; cases h; done))]
     exact zret I (v := fun Al => .tuple #[.string (b0a (f.strP (f.numP d))), .int .i64 0]) fun Al W I => d0h hE (by rw [show cls.toNat = 2 by omega, e2]) rfl I.below
   have c4 : -20000 ≤ a.e ∧ a.e ≤ 20000 := by have := oFa f61; have := oFa f65; omega
   have hb1 := hbd c2 c4
   refine zd [] I fun Al W I => ?_
   refine zk [0, 1, 2] I fun I => ?_
   refine zkb 3 I ((a.xs.length : Int) == 0) (false) (bFn (by omega)) fun I => ?_
   refine zk [4, 5, 6, 8, 9] I fun I => ?_
   refine zo 7 I fun I => ?_
   refine zqo I (fun Al W I => (HR W c2 I.fa.1 c4 I.fa.2.1).out) fun Al W p74 c74 I => ?_
   refine zo 10 I fun I => ?_
   refine zqd I (fun Al W I => have hzW := I.bel.size; k0h d.neg p74 c74 d.e d.m f.g W I.fa.1.rd (by omega) (by omega) (b0s G.g)) (show (g0a ⟨d.neg, d.m, d.e⟩ f.g) = false from hkp.trans (by simpa using h77)) fun Al W I => ?_
   refine zk [11, 12] I fun I => ?_
   have hE : a0n f cls a = 4 := by unfold a0n; rw [if_neg c1, if_neg (by omega), if_neg c3, if_pos c58, if_neg (by omega), if_pos (by first | exact .inl h70 | exact .inr (by rw [hD]; simpa using h77))]
   have hN : (4 : Int) ≠ 0 := by decide
   exact zret I fun Al W I => a0p hE hN rfl I.below
 refine zb I 58 (cls == 2) (false) (f58) fun Al W I => ?_
 have c58 : cls ≠ 2 := by first | (have := beq_iff_eq.1 f35; omega) | (have := beq_iff_eq.1 f39; omega) | (have := beq_iff_eq.1 f49; omega) | exact bnF f58
 rcases Bool.eq_false_or_eq_true (decide ((a.xs.length : Int) > 0)) with f88 | f88
 · refine zb I 88 (decide ((a.xs.length : Int) > 0)) (true) (f88) fun Al W I => ?_
   have hE : a0n f cls a = 4 := by unfold a0n; rw [if_neg c1, if_neg (by omega), if_neg c3, if_neg c58, if_pos (by first | (have := oTr f88; omega) | exact .inr (.inl (bne_iff_ne.1 f92)) | exact .inr (.inr ⟨f96, .inr f103⟩) | exact .inr (.inr ⟨f96, .inl (by first | (have := beq_iff_eq.1 f39; omega) | (have := beq_iff_eq.1 f49; omega))⟩))]
   have hN : (4 : Int) ≠ 0 := by decide
   exact zret I fun Al W I => a0p hE hN rfl I.below
 refine zb I 88 (decide ((a.xs.length : Int) > 0)) (false) (f88) fun Al W I => ?_
 rcases Bool.eq_false_or_eq_true (a.e != 0) with f92 | f92
 · refine zb I 92 (a.e != 0) (true) (f92) fun Al W I => ?_
   have hE : a0n f cls a = 4 := by unfold a0n; rw [if_neg c1, if_neg (by omega), if_neg c3, if_neg c58, if_pos (by first | (have := oTr f88; omega) | exact .inr (.inl (bne_iff_ne.1 f92)) | exact .inr (.inr ⟨f96, .inr f103⟩) | exact .inr (.inr ⟨f96, .inl (by first | (have := beq_iff_eq.1 f39; omega) | (have := beq_iff_eq.1 f49; omega))⟩))]
   have hN : (4 : Int) ≠ 0 := by decide
   exact zret I fun Al W I => a0p hE hN rfl I.below
 refine zb I 92 (a.e != 0) (false) (f92) fun Al W I => ?_
 rcases Bool.eq_false_or_eq_true (a.g) with f96 | f96
 · refine zb I 96 (a.g) (true) (f96) fun Al W I => ?_
   refine zb I 100 (decide (cls ≥ 4)) (false) (dFa (by have := bnF f49; have := bnF f35; have := bnF f39; omega)) fun Al W I => ?_
   rcases Bool.eq_false_or_eq_true (f.res) with f103 | f103
   · refine zb I 103 (f.res) (true) (f103) fun Al W I => ?_
     have hE : a0n f cls a = 4 := by unfold a0n; rw [if_neg c1, if_neg (by omega), if_neg c3, if_neg c58, if_pos (by first | (have := oTr f88; omega) | exact .inr (.inl (bne_iff_ne.1 f92)) | exact .inr (.inr ⟨f96, .inr f103⟩) | exact .inr (.inr ⟨f96, .inl (by first | (have := beq_iff_eq.1 f39; omega) | (have := beq_iff_eq.1 f49; omega))⟩))]
     have hN : (4 : Int) ≠ 0 := by decide
     exact zret I fun Al W I => a0p hE hN rfl I.below
   refine zb I 103 (f.res) (false) (f103) fun Al W I => ?_
   have hE : a0n f cls a = 0 := by unfold a0n; rw [if_neg c1, if_neg (by omega), if_neg c3, if_neg c58, if_neg (fun h => by rcases h with h | h | ⟨h, k⟩ <;> first | (have := oFa f88; omega) | (rw [show (a.e != 0) = true from bne_iff_ne.2 h] at f92; cases f92; done) | (rw [f96] at h; cases h; done) | (rcases k with k | k <;> first | (have := beq_iff_eq.1 f35; omega) | (have := bnF f49; have := bnF f35; have := bnF f39; omega) | (rw [f103] at k; cases k; done)))]
   refine zbin I 109 _ (fun _ _ _ _ _ => c0u .i64 (1) .i64 (f.E : Int) ((P : Int)) (by omega) ((HSH.out))) fun Al W I => ?_
   refine zi I 110 .i64 ((P : Int) - 1) (((P - 1 : Nat) : Int)) ((by rw [show ((P : Int) - 1) = ((P - 1 : Nat) : Int) by omega]; exact iwo)) fun Al W I => ?_
   refine zb I 117 (cls == 3) (false) (f35) fun Al W I => ?_
   refine zb I 126 (cls == 4) (false) (f39) fun Al W I => ?_
   refine zb I 142 (cls == 5) (false) (f49) fun Al W I => ?_
   refine zg I (fun Al W I => (hJ0 W a.g 0 0 rfl h0T).out) fun Al V Iv _ hB _ kz => ?_
   rintro _ W ⟨rfl, hb⟩
   have hS : b0a (f.strP (f.encP cls.toNat a.g d)) = b0a (f.str a.g 0 0) := by rw [show cls.toNat = 1 by have := bnF f49; have := bnF f35; have := bnF f39; omega, e1]; rfl
   refine ⟨_, rfl, kz _ _ hb fun I => ?_⟩
   exact zret I fun Al W I => d0h hE hS rfl I.below
 refine zb I 96 (a.g) (false) (f96) fun Al W I => ?_
 have hE : a0n f cls a = 0 := by unfold a0n; rw [if_neg c1, if_neg (by omega), if_neg c3, if_neg c58, if_neg (fun h => by rcases h with h | h | ⟨h, k⟩ <;> first | (have := oFa f88; omega) | (rw [show (a.e != 0) = true from bne_iff_ne.2 h] at f92; cases f92; done) | (rw [f96] at h; cases h; done) | (rcases k with k | k <;> first | (have := beq_iff_eq.1 f35; omega) | (have := bnF f49; have := bnF f35; have := bnF f39; omega) | (rw [f103] at k; cases k; done)))]
 refine zbin I 109 _ (fun _ _ _ _ _ => c0u .i64 (1) .i64 (f.E : Int) ((P : Int)) (by omega) ((HSH.out))) fun Al W I => ?_
 refine zi I 110 .i64 ((P : Int) - 1) (((P - 1 : Nat) : Int)) ((by rw [show ((P : Int) - 1) = ((P - 1 : Nat) : Int) by omega]; exact iwo)) fun Al W I => ?_
 refine zb I 117 (cls == 3) (false) (f35) fun Al W I => ?_
 refine zb I 126 (cls == 4) (false) (f39) fun Al W I => ?_
 refine zb I 142 (cls == 5) (false) (f49) fun Al W I => ?_
 refine zg I (fun Al W I => (hJ0 W a.g 0 0 rfl h0T).out) fun Al V Iv _ hB _ kz => ?_
 rintro _ W ⟨rfl, hb⟩
 have hS : b0a (f.strP (f.encP cls.toNat a.g d)) = b0a (f.str a.g 0 0) := by rw [show cls.toNat = 1 by have := bnF f49; have := bnF f35; have := bnF f39; omega, e1]; rfl
 refine ⟨_, rfl, kz _ _ hb fun I => ?_⟩
 exact zret I fun Al W I => d0h hE hS rfl I.below
end Go.Proofs.YtmacohmclpnphaaGreatDoor
namespace Go.Slip
def w0o (N : Nat) (D : List Nat) (i d A : Nat) : Prop := (∀ x ∈ D, x < 10) ∧ d < 10 ^ (4 - i) ∧ N = val 10 D + 10 ^ D.length * (d + 10 ^ (4 - i) * A)
def m0o (N : Nat) (D : List Nat) (A : Nat) : Prop := (∀ x ∈ D, x < 10) ∧ N = val 10 D + 10 ^ D.length * A
theorem m0o.start (N : Nat) : m0o N [] N := ⟨by simp, by simp⟩
theorem m0o.enter {N : Nat} {D : List Nat} {A : Nat} (h : m0o N D A) : w0o N D 0 (A % 10000) (A / 10000) := by
 refine ⟨h.1, Nat.mod_lt _ (by omega), ?_⟩
 rw [h.2]
 congr 2
 have := Nat.mod_add_div A 10000
 show A = A % 10000 + 10000 * (A / 10000)
 omega
theorem w0o.step {N : Nat} {D : List Nat} {i d A : Nat} (h : w0o N D i d A) (hi : i < 4) : w0o N (D ++ [d % 10]) (i + 1) (d / 10) A := by
 obtain ⟨h1, h2, h3⟩ := h
 have e : 4 - i = 4 - (i + 1) + 1 := by omega
 rw [e, Nat.pow_succ] at h2 h3
 refine ⟨fun x hx => ?_, by omega, ?_⟩
 · rcases List.mem_append.1 hx with hx | hx
   · exact h1 x hx
   · simp at hx; omega
 · rw [h3, e0b, List.length_append, List.length_singleton, Nat.pow_succ]
   have := Nat.mod_add_div d 10
   generalize d % 10 = s at *
   generalize d / 10 = q at *
   subst this
   grind
theorem w0o.leave {N : Nat} {D : List Nat} {d A : Nat} (h : w0o N D 4 d A) : m0o N D A := by
 obtain ⟨h1, h2, h3⟩ := h
 have hd : d = 0 := by simpa using h2
 subst hd
 exact ⟨h1, by rw [h3]; simp⟩
theorem m0o.size {N : Nat} {D : List Nat} {A : Nat} (h : m0o N D A) (hA : 0 < A) : D.length ≤ 16 * (dig B16 N).length := by
 have h1 : 10 ^ D.length ≤ N := by
  rw [h.2]
  have := Nat.le_mul_of_pos_right (10 ^ D.length) hA
  omega
 have h2 := (a0l j0r N _).1 (Nat.le_refl _)
 have h3 : B16 ^ (dig B16 N).length = 2 ^ (16 * (dig B16 N).length) := by rw [Nat.pow_mul]; congr 1
 have h4 : 2 ^ D.length ≤ 10 ^ D.length := Nat.pow_le_pow_left (by omega) _
 have h5 : 2 ^ D.length < 2 ^ (16 * (dig B16 N).length) := by rw [← h3]; omega
 exact Nat.le_of_lt ((Nat.pow_lt_pow_iff_right (by omega)).1 h5)
def p0m (L X : List Nat) (ten d0 i d : Nat) : Prop :=
 (∀ x ∈ L, x < B32) ∧ L.length = X.length ∧ (∀ j, i ≤ j → dg L j = dg X j) ∧ val B32 (L.take i) + d * B32 ^ i = val B32 (X.take i) * ten + d0
theorem p0m.start {X : List Nat} (h : ∀ x ∈ X, x < B32) (ten d0 : Nat) : p0m X X ten d0 0 d0 := ⟨h, rfl, fun _ _ => rfl, by simp⟩
theorem p0m.step {L X : List Nat} {ten d0 i d : Nat} (h : p0m L X ten d0 i d) (hi : i < X.length) (t : Nat) (ht : t = dg X i * ten + d) : p0m (L.set i (t % B32)) X ten d0 (i + 1) (t / B32) := by
 obtain ⟨h1, h2, h3, h4⟩ := h
 refine ⟨h0z L h1 i _ (Nat.mod_lt _ c0f), by simpa using h2, fun j hj => ?_, ?_⟩
 · rw [b0p (by omega)]; exact h3 j (by omega)
 · rw [a0j, c0x, b0b (by omega), a0j, Nat.pow_succ]
   have h5 := Nat.div_add_mod t B32
   generalize t / B32 = q at *
   generalize t % B32 = r at *
   have e : B32 ^ i * (B32 * q + r) = B32 ^ i * (dg X i * ten + d) := by rw [h5, ht]
   grind
theorem p0m.done0 {L : List Nat} {ten d0 a : Nat} (h : p0m L (dig B32 a) ten d0 (dig B32 a).length 0) (h1 : 0 < ten) : L = dig B32 (a * ten + d0) := by
 have h4 := h.2.2.2
 rw [List.take_length, b0k a0b, ← h.2.1, List.take_length] at h4
 obtain ⟨m, rfl⟩ : ∃ m, ten = m + 1 := ⟨ten - 1, by omega⟩
 have e : a * (m + 1) + d0 = a + (a * m + d0) := by grind
 rw [e] at h4 ⊢
 exact t0q a0b L a _ h.1 h.2.1 (by omega)
theorem p0m.done1 {L : List Nat} {ten d0 a d : Nat} (h : p0m L (dig B32 a) ten d0 (dig B32 a).length d) (h1 : 0 < d) (h2 : d < B32) : L ++ [d] = dig B32 (a * ten + d0) := by
 have h4 := h.2.2.2
 rw [List.take_length, b0k a0b, ← h.2.1, List.take_length] at h4
 exact t0r a0b L d _ h.1 h1 h2 h4
end Go.Slip
namespace Go.Proofs.YtmacohmclpnphaaGreatDoor
open Go.RowKit Go.Slip
theorem _root_.Go.Slip.SmallRel.skip {B : Nat} {L xs : List Nat} {d k r : Nat} (h : SmallRel B L xs d (k + 1) r) (hk : k < xs.length) (hL : k < L.length) (hx : dg xs k < B) (hz : dg L k = 0) (hlt : r * B + dg xs k < d) : SmallRel B L xs d k (r * B + dg xs k) := by
 have h1 := (h.step hk hL hx).1
 rw [Nat.div_eq_of_lt hlt, Nat.mod_eq_of_lt hlt, b1v L k hz] at h1
 exact h1
instance decDv : DecidableEq Dv := fun a b => decidable_of_iff (a.neg = b.neg ∧ a.m = b.m ∧ a.e = b.e) ⟨fun h => Dv.ext' h.1 h.2.1 h.2.2, fun h => by subst h; exact ⟨rfl, rfl, rfl⟩⟩
structure InF (w : World) (base : Nat) (a : Rw) : Prop where
 rd : Rd w .i64 a.p (dig B16 a.m)
 cap : (dig B16 a.m).length ≤ a.c
 len : (dig B16 a.m).length ≤ 1000000
 lo : -1000000 ≤ a.e
 hi : a.e ≤ 1000000
 at_ : 0 < (dig B16 a.m).length → base ≤ blk a.p
theorem InF.past {w w' : World} {base : Nat} {a : Rw} (h : InF w base a) (hb : Below w.heap.size w w') : InF w' base a := ⟨h.rd.past hb, h.cap, h.len, h.lo, h.hi, h.at_⟩
theorem InF.drew {w : World} {base : Nat} {a : Rw} (h : InF w base a) : InF w.drew base a := ⟨h.rd.drew, h.cap, h.len, h.lo, h.hi, h.at_⟩
theorem InF.mono {w : World} {base base' : Nat} {a : Rw} (h : InF w base a) (hb : base' ≤ base) : InF w base' a := ⟨h.rd, h.cap, h.len, h.lo, h.hi, fun k => Nat.le_trans hb (h.at_ k)⟩
theorem InF.only {w w' : World} {base k : Nat} {a : Rw} (h : InF w base a) (hb : Only k w w') (hne : 0 < (dig B16 a.m).length → blk a.p ≠ k) : InF w' base a := ⟨h.rd.only hb hne, h.cap, h.len, h.lo, h.hi, h.at_⟩
theorem InF.lt {w : World} {base : Nat} {a : Rw} (h : InF w base a) : 0 < (dig B16 a.m).length → blk a.p < w.heap.size := fun k => h.rd.lt k
end Go.Proofs.YtmacohmclpnphaaGreatDoor
namespace Go.Slip
theorem g0p {xs : List Nat} (h : ∀ x ∈ xs, x < 256) : d0b (b0a xs) = xs := by
 unfold d0b b0a
 simp only [List.map_map]
 rw [show (xs.map (UInt8.toNat ∘ UInt8.ofNat)) = xs.map id from List.map_congr_left fun x hx => by
  have := h x hx
  simp only [Function.comp, id]
  rw [UInt8.toNat_ofNat']
  omega]
 simp
theorem p0n {w : World} {b : Nat} {t : TypeId} {k : IntKind} {x0 x1 x2 x3 : Nat} (h : Bt w b t #[.int k (x0 : Int), .int k (x1 : Int), .int k (x2 : Int), .int k (x3 : Int)]) : Rd w k (some ⟨b, 0, none⟩) [x0, x1, x2, x3] := by
 refine ⟨fun _ => ⟨rfl, rfl⟩, fun j hj => ?_⟩
 obtain ⟨h0, h1, h2, h3⟩ := h.bx.e4
 simp only [List.length_cons, List.length_nil] at hj
 match j, hj with
 | 0, _ => exact h0
 | 1, _ => exact h1
 | 2, _ => exact h2
 | 3, _ => exact h3
theorem i1b {w : World} {b : Nat} {t : TypeId} {k : IntKind} {x0 : Nat} (h : Bt w b t #[.int k (x0 : Int)]) : Rd w k (some ⟨b, 0, none⟩) [x0] := by
 refine ⟨fun _ => ⟨rfl, rfl⟩, fun j hj => ?_⟩
 simp only [List.length_cons, List.length_nil] at hj
 obtain rfl : j = 0 := by omega
 exact h.e1
theorem u0t {P : Program} {a : Act} {w : World} {x y : Operand} {dst : Option Tmp} {t t2 tt : TypeId} {pos : String} {af : Array Edge} {g : Option (Nat × Bool)} {s : ByteArray} (hx : a.eval x = .string s) (hy : a.eval y = .string s) :
 (execOp a.eval ⟨dst, .binOp .eql t x y tt, t2, pos, af, g⟩).run P w = .ok (.value (.bool true)) w := by
 unfold execOp
 simp only [hx, hy]
 simp [go_sem, eqGuard]
end Go.Slip
namespace Go.Proofs.YtmacohmclpnphaaGreatDoor
open Go.RowKit Go.Slip
def k0i (n cls : Int) (a : Din) : Int := if IsFm n then a0n (fmt n) cls a else 6
theorem k0j (n : Int) (cls : Int) (a : Din) (w : World) (ha : InD w a) (hT : TabW w) :
 Calls Tryz.prog 42 #[.int .i64 n, .agg #[.int .i64 cls, .bool a.g, .slice a.p a.xs.length a.c, .int .i64 a.e]] w (m0n w (k0i n cls a) (k0q (fmt n) cls a)) := by
 unfold k0i
 by_cases hn : IsFm n
 · rw [if_pos hn]; exact a1t n cls a w hn ha hT
 · rw [if_neg hn]
   have HF := fun W => hi0 (j0k n hn W)
   generalize k0q (fmt n) cls a = s
   have hT146 : d0z Tryz.prog 146 12 := c0k (by kernel_rfl) (by kernel_rfl)
   refine calls_of_wp Tryz.func42 rfl ?_
   refine b0d (a' := ⟨((.int .i64 n) :: (.agg #[.int .i64 cls, .bool a.g, .slice a.p a.xs.length a.c, .int .i64 a.e]) :: us 145 []).toArray, []⟩) (by kernel_rfl) ?_
   refine ye ?_
   refine yw 0 rfl 3 #[.int .i64 cls, .bool a.g, .slice a.p a.xs.length a.c, .int .i64 a.e] 75 (fun V1 hbV1 hzV1 b3 => ?_)
   refine yzt 2 ?_
   refine ye ?_
   refine yc 1 rfl 13 ((HF V1).out) (fun Gx hGx => ?_)
   rintro eV2 V2 ⟨rfl, hbV2⟩
   have hzV2 := hbV2.size
   refine ⟨_, rfl, hGx _ _ ?_⟩
   clear hGx Gx
   refine yw 3 rfl 6 #[.int .i64 0, .int .i64 0, .int .i64 0, .int .i64 0, .int .i64 0, .int .i64 0, .int .i64 0, .bool false, .bool false, .bool false, .bool false, .nilFunc] 146 (fun V3 hbV3 hzV3 b6 => ?_)
   have boV4 := b6
   refine ysw 0 rfl b6 hT146 #[.int .i64 0, .int .i64 0, .int .i64 0, .int .i64 0, .int .i64 0, .int .i64 0, .int .i64 0, .bool false, .bool false, .bool false, .bool false, .nilFunc] ?_
   clear b6
   intro V4 hOV4 b6
   have hzV4 := hOV4.size
   refine yzt 1 ?_
   refine wp_seq ?_
   refine yq ?_
   refine yT ?_
   refine yq ?_
   refine wp_ret ?_
   repeat (first | with_reducible refine a0x ?_ | with_reducible refine a0r ?_)
   refine yret (.tuple #[Go.Value.string (ByteArray.mk #[]), .int .i64 6]) (res2 Tryz.results42 rvt rvt) ?_
   exact a0p (r := 6) rfl (by decide) rfl ((a0h (a0h hbV1 hbV2) hbV3).trans (hOV4.below (by omega)))
def a5 : Din := ⟨false, none, 0, [], 0⟩
theorem i1c : a0w (fmt 1) (b0a [64, 64, 0, 0]) = 1077936128 := by
 unfold a0w
 rw [g0p (by decide)]
 decide +kernel
theorem a1u : b0c 1 (b0a [64, 64, 0, 0]) = 0 := c0l.2 ⟨by decide, by rw [j0t]; rfl⟩
theorem i1d : decP 1 (b0a [64, 64, 0, 0]) = ⟨2, false, 3, 0⟩ := by
 unfold decP
 rw [if_pos a1u, i1c]
 have hd : (fmt 1).decN 1077936128 = ⟨2, 12582912, -22⟩ := by kernel_rfl
 have hg : (fmt 1).neg 1077936128 = false := by decide +kernel
 unfold Fm.valN Fm.vl
 rw [hd, hg]
 have ht : tz 12582912 = 22 := k0n 3 22 rfl
 have hw : wid (fmt 1).g = 1 := by decide
 unfold Dc.c
 simp [ht, hw]
theorem a1v : k0i 6 5 a5 = 0 ∧ k0q (fmt 6) 5 a5 = b0a [0, 128, 0, 0] := by
 refine ⟨by decide +kernel, ?_⟩
 show b0a ((fmt 6).strP ((fmt 6).encP 5 a5.g (numD (fmt 6) a5))) = _
 have h1 : (fmt 6).encP 5 a5.g (numD (fmt 6) a5) = ⟨true, 0, 0⟩ := rfl
 have h2 : (fmt 6).strP ⟨true, 0, 0⟩ = [0, 128, 0, 0] := by decide +kernel
 rw [h1, h2]
theorem m0x (w : World) (hT : TabW w) : Calls Tryz.prog 35 #[] w fun en w' => en = .returned (.bool true) ∧ Below w.heap.size w w' := by
 have HD := fun W h => hi0 (h0q 1 (b0a [64, 64, 0, 0]) W h)
 rw [i1d, a1u] at HD
 have HE : ∀ W, TabW W → Hid (Calls Tryz.prog 42 #[.int .i64 6, .agg #[.int .i64 5, .bool false, .slice none 0 0, .int .i64 0]] W fun en w' => en = .returned (.tuple #[.string (b0a [0, 128, 0, 0]), .int .i64 0]) ∧ Below W.heap.size W w') := by
  intro W h
  have := k0j 6 5 a5 W ⟨Rd.nil _ _ _, by simp [a5], by simp [a5], by simp [a5]⟩ h
  rw [a1v.1, a1v.2] at this
  unfold m0n at this
  rw [if_pos rfl] at this
  exact hi0 this
 have e3 : dig B32 3 = [3] := m0e a0b (by omega) (by unfold B32; omega)
 have hT3 : e0a Tryz.prog 3 := c0p (by kernel_rfl) (by kernel_rfl)
 have hT73 : e0a Tryz.prog 73 := c0p (by kernel_rfl) (by kernel_rfl)
 have hT75 : d0z Tryz.prog 75 4 := c0k (by kernel_rfl) (by kernel_rfl)
 refine calls_of_wp Tryz.func35 rfl ?_
 refine b0d (a' := ⟨(us 44 []).toArray, []⟩) (by kernel_rfl) ?_
 refine yq ?_
 refine ye ?_
 refine ywv 0 rfl 6 (.slice (some ⟨w.heap.size, 0, none⟩) 4 4) #[.int .u8 64, .int .u8 64, .int .u8 0, .int .u8 0] 5 (fun V1 hbV1 hzV1 b6 => ?_)
 refine yv 0 rfl 7 (.string (b0a [64, 64, 0, 0])) ?_ (h0p (p := some ⟨w.heap.size, 0, none⟩) (n := 4) (c := 4) (xs := [64, 64, 0, 0]) m0d s0v uStr (p0n b6) rfl (by kernel_rfl))
 replace hT := (hT.past hbV1)
 refine yc 0 rfl 8 ((HD V1 hT).out) (fun Gx hGx => ?_)
 rintro eV2 V2 ⟨p8, c8, rfl, o8, hbV2⟩
 have hzV2 := hbV2.size
 refine ⟨_, rfl, hGx _ _ ?_⟩
 clear hGx Gx
 refine yw 3 rfl 1 #[.int .i64 0, .bool false, .slice none 0 0, .int .i64 0] 75 (fun V3 hbV3 hzV3 b1 => ?_)
 have boV4 := b1
 refine ysw 0 rfl b1 hT75 #[.int .i64 2, .bool false, .slice p8 (dig B32 3).length c8, .int .i64 0] ?_
 clear b1
 intro V4 hOV4 b1
 have hzV4 := hOV4.size
 refine yzt 1 ?_
 refine ye ?_
 replace hT := (hT.past ((a0h hbV2 hbV3).trans (hOV4.below (by omega))))
 refine yc 1 rfl 13 ((HE V4 hT).out) (fun Gx hGx => ?_)
 rintro eV5 V5 ⟨rfl, hbV5⟩
 have hzV5 := hbV5.size
 refine ⟨_, rfl, hGx _ _ ?_⟩
 clear hGx Gx
 refine yzt 5 ?_
 refine ye ?_
 replace b1 := (b1.past hbV5)
 refine yl 4 rfl 20 b1 hT3 0 ?_
 refine yl 4 rfl 25 b1 hT73 2 ?_
 refine ywv 0 rfl 26 (.slice (some ⟨V5.heap.size, 0, none⟩) 1 1) #[.int .u32 3] 141 (fun V6 hbV6 hzV6 b26 => ?_)
 replace o8 := (o8.past (a0h (a0h (hbV3.trans (hOV4.below (by omega))) hbV5) hbV6))
 refine yc 0 rfl 27 (i0c p8 (some ⟨V5.heap.size, 0, none⟩) _ c8 1 1 (dig B32 3) [3] V6 o8.rd (i1b b26) rfl rfl e3 (by rw [e3]; decide)) (fun Gx hGx => ?_)
 rintro eV7 V7 ⟨rfl, hbV7⟩
 have hzV7 := hbV7.size
 refine ⟨_, rfl, hGx _ _ ?_⟩
 clear hGx Gx
 replace b1 := (b1.past (a0h hbV6 hbV7))
 refine yl 3 rfl 31 b1 hT3 3 ?_
 refine ywv 8 rfl 40 (.slice (some ⟨V7.heap.size, 0, none⟩) 4 4) #[.int .u8 0, .int .u8 128, .int .u8 0, .int .u8 0] 5 (fun V8 hbV8 hzV8 b40 => ?_)
 refine yv 0 rfl 41 (.string (b0a [0, 128, 0, 0])) ?_ (h0p (p := some ⟨V7.heap.size, 0, none⟩) (n := 4) (c := 4) (xs := [0, 128, 0, 0]) m0d s0v uStr (p0n b40) rfl (by kernel_rfl))
 refine yv 0 rfl 42 (.bool true) ?_ (u0t (s := b0a [0, 128, 0, 0]) (by kernel_rfl) (by kernel_rfl))
 refine yzt 2 ?_
 refine wp_ret ?_
 repeat (first | with_reducible refine a0x ?_ | with_reducible refine a0r ?_)
 refine yret (.bool true) (res1 Tryz.results35 rvt) ?_
 exact ⟨rfl, (a0h (a0h (a0h (a0h ((a0h (a0h hbV1 hbV2) hbV3).trans (hOV4.below (by omega))) hbV5) hbV6) hbV7) hbV8)⟩
end Go.Proofs.YtmacohmclpnphaaGreatDoor
namespace Go.Slip
open Go.RowKit
theorem RdV.grown {w w' : World} {p : Option Addr} {vs : List Value} {row : Option Nat} (h : RdV w p vs) (hg : w.grownBy w' row) (hne : 0 < vs.length → some (blk p) ≠ row) : RdV w' p vs :=
 h.same fun h0 => hg.block _ (h.lt h0) (hne h0)
theorem Rf.grown {w w' : World} {base : Nat} {p : Option Addr} {c : Nat} {xs : List Nat} {row : Option Nat} (h : Rf w base p c xs) (hg : w.grownBy w' row) (hne : 0 < xs.length → some (blk p) ≠ row) : Rf w' base p c xs :=
 ⟨h.rd.same fun h0 => hg.block _ (h.rd.lt h0) (hne h0), h.cap, h.at_⟩
section
variable {P : Program} {ops : Array Oper} {Q : Exit → Act → World → Prop} {a : Act} {w : World} {rest : List Oper} {o : Oper} {K : Act → World → Prop}
end
end Go.Slip
namespace Go.Proofs.YtmacohmclpnphaaGreatDoor
open Go.RowKit Go.Slip
theorem w0p (f : Fm) {k : Nat} (h : k ≠ 2) (g : Bool) (d d' : Dv) : f.encP k g d = f.encP k g d' := by
 unfold Fm.encP
 rw [if_neg h, if_neg h]
theorem t0d {f : Fm} (G : b0g f) {neg : Bool} {e x : Nat} (he : e < 2 ^ f.E) (hx : x < 2 ^ f.F) : a0w f (b0a (f.str neg e x)) = f.pat neg e x := by
 have ho : f.ord = 1 → f.size % 2 = 0 := fun _ => by have := G.sz; omega
 unfold a0w
 rw [g0p (by unfold Fm.str; exact n0p (by rw [d0q]; exact ho) (q0s _ _)), k1d G he hx]
theorem g0q {r : Nat} (h : (dig B32 r).length ≤ 1200) : a0u (dig B32 r) = 0 := by rw [Go.Slip.v0h, if_neg (by omega)]
structure Is (a : Din) (v : Vl) : Prop where
 g : a.g = v.neg
 xs : a.xs = dig B32 v.d
 e : a.e = v.pow
theorem Is.num {a : Din} {v : Vl} (h : Is a v) (f : Fm) : numD f a = bare ⟨v.neg, v.d, wid f.g * v.pow⟩ := by
 unfold numD
 rw [h.g, h.xs, h.e, b0k a0b]
def dinV (v : Vl) (p : Option Addr) (c : Nat) : Din := ⟨v.neg, p, c, dig B32 v.d, v.pow⟩
theorem a1w {v : Vl} {p : Option Addr} {c base : Nat} {w : World} (h : Own w base .u32 141 p c (dig B32 v.d)) (hl : (dig B32 v.d).length ≤ 1000) : InD w (dinV v p c) :=
 ⟨h.rd, h.le_cap, by show (dig B32 v.d).length ≤ _; omega, c0o a0b _⟩
end Go.Proofs.YtmacohmclpnphaaGreatDoor
