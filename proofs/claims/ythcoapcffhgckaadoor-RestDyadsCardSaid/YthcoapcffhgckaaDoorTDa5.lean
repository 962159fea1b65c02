/- grid: Round. -/
import Derived.Deep.LoopGhost
import Derived.Maps.AppendAt
import Derived.Lib.Strings
import Derived.Lib.Slices
import Derived.Lib.Small
import Derived.Lib.Walk
import Derived.Lib.BitFns
import Derived.Test.YthcoapcffhgckaaDoorTDa1
import Derived.Test.YthcoapcffhgckaaDoorTDa2
import Derived.Test.YthcoapcffhgckaaDoorTDa3
import Derived.Test.YthcoapcffhgckaaDoorTDa4
set_option maxHeartbeats 8000000
set_option maxRecDepth 100000
namespace Go.Proofs.YthcoapcffhgckaaDoor
open Go.RowKit Go.Slip
structure Rin where
 g : Bool
 p : OA
 c : Nat
 xs : List Nat
 q : OA
 d : Nat
 ys : List Nat
 e : Int
structure InR (w : World) (a : Rin) : Prop where
 r1 : Rd w .u32 a.p a.xs
 l1 : a.xs.length ≤ 9223372036854775807
 b1 : ∀ x ∈ a.xs, x < B32
 r2 : Rd w .u32 a.q a.ys
 l2 : a.ys.length ≤ 9223372036854775807
 b2 : ∀ x ∈ a.ys, x < B32
theorem InR.past {w w' : World} {a : Rin} (h : InR w a) (hb : Below w.heap.size w w') : InR w' a := ⟨h.r1.past hb, h.l1, h.b1, h.r2.past hb, h.l2, h.b2⟩
def d0m (a : Rin) : Int := if a0n a.xs ≠ 0 then a0n a.xs else if a0n a.ys ≠ 0 then a0n a.ys else if a.ys.length = 0 ∨ a.e < -20000 ∨ 20000 < a.e then 3 else 0
def b0v (a : Rin) (g : Gd) (way : Int) : Int := if d0m a ≠ 0 then d0m a else if errG g ≠ 0 then errG g else if way < 1 ∨ 5 < way then 6 else 0
def a1u : Pl := ⟨false, 0, 0, false, false, false⟩
def f0j (a : Rin) (g : Gd) (way : Int) : Pl := if b0v a g way = 0 then g0g a.g (val B32 a.xs) (val B32 a.ys) a.e g way else a1u
def m0y (w : World) (d : Pl) (er : Int) (en : Ending) (w' : World) : Prop :=
 ∃ p c, en = .returned (.tuple #[.agg #[.bool d.neg, .slice p (dig B32 d.d).length c, .int .i64 d.pow, .bool d.exact, .bool d.over, .bool d.under], .int .i64 er]) ∧ Own w' w.heap.size .u32 55 p c (dig B32 d.d) ∧ Below w.heap.size w w'
theorem b0x {w wk : World} {b : Nat} {er : Int} {v3 : Bool} {d : Pl} (hd : d = ⟨false, 0, 0, v3, false, false⟩) (hs : Below w.heap.size w wk) (hB : w.heap.size ≤ b) :
 m0y w d er (.returned (.tuple #[.agg #[.bool false, .slice none 0 0, .int .i64 0, .bool v3, .bool false, .bool false], .int .i64 er]))
  ((((((wk.setCell ⟨b, 0, none⟩ (.bool false)).setCell ⟨b, 1, none⟩ (.slice none 0 0)).setCell ⟨b, 2, none⟩ (.int .i64 0)).setCell ⟨b, 3, none⟩ (.bool v3)).setCell ⟨b, 4, none⟩ (.bool false)).setCell ⟨b, 5, none⟩ (.bool false)) := by
 subst hd
 exact ⟨none, 0, by rw [a0b]; rfl, by simp only [a0b]; exact Own.nil _ _ _ _, hs.trans ((e0z wk b _ _ _ _ _ _).below hB)⟩
theorem m0z {w wk : World} {b base : Nat} {er : Int} {d : Pl} {p : OA} {c : Nat} (hs : Below w.heap.size w wk) (ho : Own wk base .u32 55 p c (dig B32 d.d)) (hb : w.heap.size ≤ base) (hB : w.heap.size ≤ b) (hne : p.isSome = true → blk p ≠ b) :
 m0y w d er (.returned (.tuple #[.agg #[.bool d.neg, .slice p (dig B32 d.d).length c, .int .i64 d.pow, .bool d.exact, .bool d.over, .bool d.under], .int .i64 er]))
  ((((((wk.setCell ⟨b, 0, none⟩ (.bool d.neg)).setCell ⟨b, 1, none⟩ (.slice p (dig B32 d.d).length c)).setCell ⟨b, 2, none⟩ (.int .i64 d.pow)).setCell ⟨b, 3, none⟩ (.bool d.exact)).setCell ⟨b, 4, none⟩ (.bool d.over)).setCell ⟨b, 5, none⟩ (.bool d.under)) :=
 ⟨p, c, rfl, (ho.only (e0z wk b _ _ _ _ _ _) hne).mono hb, hs.trans ((e0z wk b _ _ _ _ _ _).below hB)⟩
theorem o0l (a : Rin) (g : Gd) (way : Int) (w : World) (ha : InR w a) :
 Calls Tryd.prog 15 #[.agg #[.bool a.g, .slice a.p a.xs.length a.c, .slice a.q a.ys.length a.d, .int .i64 a.e], .agg #[.int .i64 g.rad, .int .i64 g.digs, .int .i64 g.lo, .int .i64 g.hi, .bool g.grad], .int .i64 way] w (m0y w (f0j a g way) (b0v a g way)) := by
 obtain ⟨er, her⟩ : ∃ er, b0v a g way = er := ⟨_, rfl⟩
 obtain ⟨rv, hrv⟩ : ∃ rv, f0j a g way = rv := ⟨_, rfl⟩
 rw [her, hrv]
 have HER := lHd her
 have HRV := lHd hrv
 clear her hrv
 have hz0 : er ≠ 0 → rv = a1u := fun h => by rw [← HRV.out]; unfold f0j; rw [HER.out, if_neg h]
 have HZ0 := lHd hz0
 clear hz0
 have HCG := fun W => lHd (m0s g W)
 have HCX := fun W (h : Rd W .u32 a.p a.xs) => lHd (e0p a.p a.xs.length a.c a.xs W h rfl ha.l1)
 have HCY := fun W (h : Rd W .u32 a.q a.ys) => lHd (e0p a.q a.ys.length a.d a.ys W h rfl ha.l2)
 obtain ⟨e1, he1⟩ : ∃ e1, a0n a.xs = e1 := ⟨_, rfl⟩
 obtain ⟨e2, he2⟩ : ∃ e2, a0n a.ys = e2 := ⟨_, rfl⟩
 obtain ⟨e3, he3⟩ : ∃ e3, errG g = e3 := ⟨_, rfl⟩
 rw [he1] at HCX
 rw [he2] at HCY
 rw [he3] at HCG
 have HE1 := lHd he1
 have HE2 := lHd he2
 have HE3 := lHd he3
 clear he1 he2 he3
 go_enter Tryd.func15, Tryd.ntmps15
 go_wp2_with fail
 refine a1d (fun W1 hb1 hz1 Q G R L => ?_)
 replace ha := ha.past hb1
 have hs1 := hb1
 go_loopg [9, 10, 18] 2 (fun gk s9 s10 iv wr => ∃ i : Nat, iv = .int .i64 i ∧ gk + i = 2 ∧ Below W1.heap.size W1 wr ∧ Hid (i = 0 ∨ (i = 1 ∧ e1 = 0) ∨ (i = 2 ∧ e1 = 0 ∧ e2 = 0)))
 case atStart => exact ⟨0, rfl, rfl, Below.refl _ _, .inl rfl⟩
 case round =>
  obtain ⟨i, rfl, hgk, hb, HI⟩ := hrel
  have hs2 := hs1.trans (hb.mono hs1.size)
  replace Q := Q.past hb
  replace G := G.past hb
  replace R := R.past hb
  replace L := L.past hb
  replace ha := ha.past hb
  rcases HI.out with rfl | ⟨rfl, h10⟩ | ⟨rfl, h10, h20⟩
  · clear HI
    obtain ⟨L_0, L_1⟩ := L.e2
    go_wp2_with fail
    clear L_0 L_1
    ((with_reducible refine ((HCX _ ha.r1).out).mono ?_))
    rintro e3 w3 ⟨rfl, hb3⟩
    replace Q := Q.past hb3
    replace G := G.past hb3
    replace R := R.past hb3
    replace L := L.past hb3
    replace ha := ha.past hb3
    have hs3 := hs2.trans (hb3.mono hs2.size)
    by_cases h1 : e1 = 0
    · subst h1
      obtain ⟨L_0, L_1⟩ := L.e2
      go_wp2_with fail
      clear L_0 L_1
      go_roundg 1
      case measure => omega
      case rel => exact ⟨1, by go_num, rfl, hb.trans (hb3.mono hb.size), by unfold Hid; simp⟩
    · have t1 : (e1 == 0) = false := bFn h1
      have t2 : (e1 != 0) = true := by rw [bne, t1]; rfl
      have H1 := lHd h1
      clear h1
      obtain ⟨R_0, R_1, R_2, R_3, R_4, R_5⟩ := R.e6
      have R_f0 := R.f 0
      have R_f1 := R.f 1
      have R_f2 := R.f 2
      have R_f3 := R.f 3
      have R_f4 := R.f 4
      have R_f5 := R.f 5
      go_wp2_with fail
      clear R_0 R_1 R_2 R_3 R_4 R_5 R_f0 R_f1 R_f2 R_f3 R_f4 R_f5
      obtain ⟨R_0, R_1, R_2, R_3, R_4, R_5⟩ := R.e6
      refine bodyPost_ret (v := .tuple #[.agg #[.bool false, .slice none 0 0, .int .i64 0, .bool false, .bool false, .bool false], .int .i64 e1]) (by simp [results, Tryd.results15, go_sem, R_0, R_1, R_2, R_3, R_4, R_5]) rfl ?_
      have e0 : er = e1 := by rw [← HER.out]; unfold b0v d0m; rw [HE1.out, if_pos H1.out, if_pos H1.out]
      subst e0
      exact b0x (HZ0.out H1.out) hs3 (by omega)
  · subst h10
    clear HI
    obtain ⟨L_0, L_1⟩ := L.e2
    go_wp2_with fail
    clear L_0 L_1
    ((with_reducible refine ((HCY _ ha.r2).out).mono ?_))
    rintro e3 w3 ⟨rfl, hb3⟩
    replace Q := Q.past hb3
    replace G := G.past hb3
    replace R := R.past hb3
    replace L := L.past hb3
    replace ha := ha.past hb3
    have hs3 := hs2.trans (hb3.mono hs2.size)
    by_cases h1 : e2 = 0
    · subst h1
      obtain ⟨L_0, L_1⟩ := L.e2
      go_wp2_with fail
      clear L_0 L_1
      go_roundg 0
      case measure => omega
      case rel => exact ⟨2, by go_num, rfl, hb.trans (hb3.mono hb.size), by unfold Hid; simp⟩
    · have t1 : (e2 == 0) = false := bFn h1
      have t2 : (e2 != 0) = true := by rw [bne, t1]; rfl
      have H1 := lHd h1
      clear h1
      obtain ⟨R_0, R_1, R_2, R_3, R_4, R_5⟩ := R.e6
      have R_f0 := R.f 0
      have R_f1 := R.f 1
      have R_f2 := R.f 2
      have R_f3 := R.f 3
      have R_f4 := R.f 4
      have R_f5 := R.f 5
      go_wp2_with fail
      clear R_0 R_1 R_2 R_3 R_4 R_5 R_f0 R_f1 R_f2 R_f3 R_f4 R_f5
      obtain ⟨R_0, R_1, R_2, R_3, R_4, R_5⟩ := R.e6
      refine bodyPost_ret (v := .tuple #[.agg #[.bool false, .slice none 0 0, .int .i64 0, .bool false, .bool false, .bool false], .int .i64 e2]) (by simp [results, Tryd.results15, go_sem, R_0, R_1, R_2, R_3, R_4, R_5]) rfl ?_
      have e00 : d0m a = e2 := by unfold d0m; rw [HE1.out, HE2.out, if_neg (by simp), if_pos H1.out]
      have e0 : er = e2 := by rw [← HER.out]; unfold b0v; rw [e00, if_pos H1.out]
      subst e0
      exact b0x (HZ0.out H1.out) hs3 (by omega)
  · subst h10 h20
    clear HI
    have HR0 : Hid (d0m a = if a.ys.length = 0 ∨ a.e < -20000 ∨ 20000 < a.e then 3 else 0) := by
     show d0m a = _
     unfold d0m
     rw [HE1.out, HE2.out, if_neg (by simp), if_neg (by simp)]
    by_cases hy : a.ys.length = 0
    · have t1 : ((a.ys.length : Int) == 0) = true := by rw [hy]; rfl
      have e0 : er = 3 := by
       have e00 : d0m a = 3 := HR0.out.trans (if_pos (.inl hy))
       rw [← HER.out]; unfold b0v; rw [e00, if_pos (by omega)]
      subst e0
      clear hy
      obtain ⟨L_0, L_1⟩ := L.e2
      obtain ⟨Q_0, Q_1, Q_2, Q_3⟩ := Q.e4
      go_upto_region 9 with (fail)
      clear L_0 L_1 Q_0 Q_1 Q_2 Q_3
      obtain ⟨R_0, R_1, R_2, R_3, R_4, R_5⟩ := R.e6
      have R_f0 := R.f 0
      have R_f1 := R.f 1
      have R_f2 := R.f 2
      have R_f3 := R.f 3
      have R_f4 := R.f 4
      have R_f5 := R.f 5
      go_wp2_with fail
      clear R_0 R_1 R_2 R_3 R_4 R_5 R_f0 R_f1 R_f2 R_f3 R_f4 R_f5
      obtain ⟨R_0, R_1, R_2, R_3, R_4, R_5⟩ := R.e6
      refine bodyPost_ret (v := .tuple #[.agg #[.bool false, .slice none 0 0, .int .i64 0, .bool false, .bool false, .bool false], .int .i64 3]) (by simp [results, Tryd.results15, go_sem, R_0, R_1, R_2, R_3, R_4, R_5]) rfl ?_
      exact b0x (HZ0.out (by omega)) hs2 (by omega)
    · have t1 : ((a.ys.length : Int) == 0) = false := bFn (by omega)
      by_cases hf : a.e < -20000 ∨ 20000 < a.e
      · have t2 := d0l hf
        have e0 : er = 3 := by
         have e00 : d0m a = 3 := HR0.out.trans (if_pos (.inr hf))
         rw [← HER.out]; unfold b0v; rw [e00, if_pos (by omega)]
        subst e0
        clear hy hf
        obtain ⟨L_0, L_1⟩ := L.e2
        obtain ⟨Q_0, Q_1, Q_2, Q_3⟩ := Q.e4
        go_wp2_with fail
        clear L_0 L_1 Q_0 Q_1 Q_2 Q_3
        ((with_reducible refine ((b0r _ _ _ (by omega))).mono ?_))
        rintro _ _ ⟨rfl, rfl⟩
        obtain ⟨R_0, R_1, R_2, R_3, R_4, R_5⟩ := R.e6
        have R_f0 := R.f 0
        have R_f1 := R.f 1
        have R_f2 := R.f 2
        have R_f3 := R.f 3
        have R_f4 := R.f 4
        have R_f5 := R.f 5
        go_wp2_with fail
        clear R_0 R_1 R_2 R_3 R_4 R_5 R_f0 R_f1 R_f2 R_f3 R_f4 R_f5
        obtain ⟨R_0, R_1, R_2, R_3, R_4, R_5⟩ := R.e6
        refine bodyPost_ret (v := .tuple #[.agg #[.bool false, .slice none 0 0, .int .i64 0, .bool false, .bool false, .bool false], .int .i64 3]) (by simp [results, Tryd.results15, go_sem, R_0, R_1, R_2, R_3, R_4, R_5]) rfl ?_
        exact b0x (HZ0.out (by omega)) hs2 (by omega)
      · have t2 := f0v (n := a.e) (m := 20000) (by omega) (by omega)
        have HR1 : Hid (d0m a = 0) := HR0.out.trans (if_neg (by omega))
        have he1 : -20000 ≤ a.e := by omega
        have he2 : a.e ≤ 20000 := by omega
        have hy1 : 0 < a.ys.length := by omega
        clear hy hf
        obtain ⟨L_0, L_1⟩ := L.e2
        obtain ⟨Q_0, Q_1, Q_2, Q_3⟩ := Q.e4
        go_wp2_with fail
        clear L_0 L_1 Q_0 Q_1 Q_2 Q_3
        ((with_reducible refine ((b0r _ _ _ (by omega))).mono ?_))
        rintro _ _ ⟨rfl, rfl⟩
        obtain ⟨G_0, G_1, G_2, G_3, G_4⟩ := G.e5
        go_wp2_with fail
        clear G_0 G_1 G_2 G_3 G_4
        ((with_reducible refine ((HCG _).out).mono ?_))
        rintro e4 w4 ⟨rfl, hb4⟩
        replace Q := Q.past hb4
        replace G := G.past hb4
        replace R := R.past hb4
        replace L := L.past hb4
        replace ha := ha.past hb4
        have hs4 := hs2.trans (hb4.mono hs2.size)
        by_cases h3 : e3 = 0
        · subst h3
          by_cases hw : way < 1 ∨ 5 < way
          · have t4 := l0h hw
            have e0 : er = 6 := by rw [← HER.out]; unfold b0v; rw [HR1.out, HE3.out, if_neg (by simp), if_neg (by simp), if_pos hw]
            subst e0
            clear hw
            go_wp2_with fail
            ((with_reducible refine (o0k way _).mono ?_))
            rintro e5 w5 ⟨rfl, hb5⟩
            replace Q := Q.past hb5
            replace G := G.past hb5
            replace R := R.past hb5
            replace L := L.past hb5
            replace ha := ha.past hb5
            have hs5 := hs4.trans (hb5.mono hs4.size)
            obtain ⟨R_0, R_1, R_2, R_3, R_4, R_5⟩ := R.e6
            have R_f0 := R.f 0
            have R_f1 := R.f 1
            have R_f2 := R.f 2
            have R_f3 := R.f 3
            have R_f4 := R.f 4
            have R_f5 := R.f 5
            go_wp2_with fail
            clear R_0 R_1 R_2 R_3 R_4 R_5 R_f0 R_f1 R_f2 R_f3 R_f4 R_f5
            obtain ⟨R_0, R_1, R_2, R_3, R_4, R_5⟩ := R.e6
            refine bodyPost_ret (v := .tuple #[.agg #[.bool false, .slice none 0 0, .int .i64 0, .bool false, .bool false, .bool false], .int .i64 6]) (by simp [results, Tryd.results15, go_sem, R_0, R_1, R_2, R_3, R_4, R_5]) rfl ?_
            exact b0x (HZ0.out (by omega)) hs5 (by omega)
          · have t4 := o0j (k := way) (by omega) (by omega)
            have e0 : er = 0 := by rw [← HER.out]; unfold b0v; rw [HR1.out, HE3.out, if_neg (by simp), if_neg (by simp), if_neg hw]
            subst e0
            have hw1 : 1 ≤ way := by omega
            have hw2 : way ≤ 5 := by omega
            clear hw
            go_wp2_with fail
            ((with_reducible refine (o0k way _).mono ?_))
            rintro e5 w5 ⟨rfl, hb5⟩
            replace Q := Q.past hb5
            replace G := G.past hb5
            replace R := R.past hb5
            replace L := L.past hb5
            replace ha := ha.past hb5
            have hs5 := hs4.trans (hb5.mono hs4.size)
            obtain ⟨ex, lx⟩ := g0o ha.b1 HE1.out
            obtain ⟨ey, ly⟩ := g0o ha.b2 HE2.out
            have HRV2 : Hid (rv = g0g a.g (val B32 a.xs) (val B32 a.ys) a.e g way) := by
             show rv = _
             rw [← HRV.out]; unfold f0j; rw [HER.out, if_pos rfl]
            by_cases hx : a.xs.length = 0
            · have t5 : ((a.xs.length : Int) == 0) = true := by rw [hx]; rfl
              have hxs : a.xs = [] := List.eq_nil_of_length_eq_zero hx
              have hrv : rv = ⟨false, 0, 0, true, false, false⟩ := by rw [HRV2.out, hxs]; rfl
              have HRV3 := lHd hrv
              clear hx hxs hrv ex ey
              obtain ⟨Q_0, Q_1, Q_2, Q_3⟩ := Q.e4
              obtain ⟨R_0, R_1, R_2, R_3, R_4, R_5⟩ := R.e6
              have R_f0 := R.f 0
              have R_f1 := R.f 1
              have R_f2 := R.f 2
              have R_f3 := R.f 3
              have R_f4 := R.f 4
              have R_f5 := R.f 5
              go_wp2_with fail
              clear Q_0 Q_1 Q_2 Q_3 R_0 R_1 R_2 R_3 R_4 R_5 R_f0 R_f1 R_f2 R_f3 R_f4 R_f5
              obtain ⟨R_0, R_1, R_2, R_3, R_4, R_5⟩ := R.e6
              refine bodyPost_ret (v := .tuple #[.agg #[.bool false, .slice none 0 0, .int .i64 0, .bool true, .bool false, .bool false], .int .i64 0]) (by simp [results, Tryd.results15, go_sem, R_0, R_1, R_2, R_3, R_4, R_5]) rfl ?_
              exact b0x HRV3.out hs5 (by omega)
            · have t5 : ((a.xs.length : Int) == 0) = false := bFn (by omega)
              have hnum : 0 < val B32 a.xs := by
               rcases Nat.eq_zero_or_pos (val B32 a.xs) with h | h
               · rw [h, a0b] at ex; rw [ex] at hx; simp at hx
               · exact h
              have hden : 0 < val B32 a.ys := by
               rcases Nat.eq_zero_or_pos (val B32 a.ys) with h | h
               · rw [h, a0b] at ey; rw [ey] at hy1; simp at hy1
               · exact h
              generalize val B32 a.xs = num at *
              generalize val B32 a.ys = den at *
              have GG := r0f HE3.out
              have wp := j0s g
              have hd1 := GG.d1
              have HF := fun W h1 h2 => lHd (a1t a.g a.p a.q a.c a.d num den a.e g way _ W h1 h2 (by rw [← ex]; omega) (by rw [← ey]; omega) hnum hden ⟨by omega, by omega⟩ GG hw1 hw2 (p0x hnum hden a.e (by omega) (by omega)))
              have hrv : fitK a.g num den a.e g way (theK num den a.e (wid g) g.digs.toNat) = rv := by rw [HRV2.out]; unfold g0g; rw [if_neg (by omega)]
              rw [hrv, ← ex, ← ey] at HF
              clear hrv ex ey hx GG hd1 wp hnum hden
              obtain ⟨Q_0, Q_1, Q_2, Q_3⟩ := Q.e4
              obtain ⟨G_0, G_1, G_2, G_3, G_4⟩ := G.e5
              go_wp2_with fail
              clear Q_0 Q_1 Q_2 Q_3 G_0 G_1 G_2 G_3 G_4
              ((with_reducible refine ((HF _ ha.r1 ha.r2).out).mono ?_))
              rintro e6 w6 ⟨p6, c6, rfl, ho6, hb6⟩
              replace Q := Q.past hb6
              replace G := G.past hb6
              replace R := R.past hb6
              replace L := L.past hb6
              replace ha := ha.past hb6
              have hs6 := hs5.trans (hb6.mono hs5.size)
              obtain ⟨R_0, R_1, R_2, R_3, R_4, R_5⟩ := R.e6
              have R_f0 := R.f 0
              have R_f1 := R.f 1
              have R_f2 := R.f 2
              have R_f3 := R.f 3
              have R_f4 := R.f 4
              have R_f5 := R.f 5
              go_wp2_with fail
              clear R_0 R_1 R_2 R_3 R_4 R_5 R_f0 R_f1 R_f2 R_f3 R_f4 R_f5
              obtain ⟨R_0, R_1, R_2, R_3, R_4, R_5⟩ := R.e6
              refine bodyPost_ret (v := .tuple #[.agg #[.bool rv.neg, .slice p6 (dig B32 rv.d).length c6, .int .i64 rv.pow, .bool rv.exact, .bool rv.over, .bool rv.under], .int .i64 0]) (by simp [results, Tryd.results15, go_sem, R_0, R_1, R_2, R_3, R_4, R_5]) rfl ?_
              have hz5 := hs5.size
              exact m0z hs6 ho6 hz5 (by omega) (fun h => by have := (ho6.blk_lt h).1; have := hb5.size; have := hb4.size; have := hb.size; omega)
        · have t1 : (e3 == 0) = false := bFn h3
          have t2 : (e3 != 0) = true := by rw [bne, t1]; rfl
          have H3 := lHd h3
          clear h3
          obtain ⟨R_0, R_1, R_2, R_3, R_4, R_5⟩ := R.e6
          have R_f0 := R.f 0
          have R_f1 := R.f 1
          have R_f2 := R.f 2
          have R_f3 := R.f 3
          have R_f4 := R.f 4
          have R_f5 := R.f 5
          go_wp2_with fail
          clear R_0 R_1 R_2 R_3 R_4 R_5 R_f0 R_f1 R_f2 R_f3 R_f4 R_f5
          obtain ⟨R_0, R_1, R_2, R_3, R_4, R_5⟩ := R.e6
          refine bodyPost_ret (v := .tuple #[.agg #[.bool false, .slice none 0 0, .int .i64 0, .bool false, .bool false, .bool false], .int .i64 e3]) (by simp [results, Tryd.results15, go_sem, R_0, R_1, R_2, R_3, R_4, R_5]) rfl ?_
          have e0 : er = e3 := by rw [← HER.out]; unfold b0v; rw [HR1.out, HE3.out, if_neg (by simp), if_pos H3.out]
          subst e0
          exact b0x (HZ0.out H3.out) hs4 (by omega)
theorem r0i (g : Bool) (p : OA) (n c : Nat) (e : Int) (m : Nat) (w : World) (hp : Rd w .u32 p (dig B32 m)) (hn : n = (dig B32 m).length) (hl : (dig B32 m).length ≤ 1000000) (he : -1000000 ≤ e ∧ e ≤ 1000000) :
 Calls Tryd.prog 81 #[.agg #[.bool g, .slice p n c, .int .i64 e]] w fun en w' => en = .returned (.int .i64 (topD ⟨g, m, e⟩)) ∧ Below w.heap.size w w' := by
 subst hn
 obtain ⟨W1, hW1⟩ : ∃ W1, W1 = w.alloc (.cells #[.bool g, .slice p (dig B32 m).length c, .int .i64 e] 61) := ⟨_, rfl⟩
 have hs1 : Below w.heap.size w W1 := by rw [hW1]; exact (Below.refl _ _).alloc (Nat.le_refl _) _
 have A1 : Box3 W1 w.heap.size (.bool g) (.slice p (dig B32 m).length c) (.int .i64 e) := by rw [hW1]; exact a0i w _ _ _ _
 have hp1 := hp.past hs1
 have hbl := b0e m
 have HW1 := lHd hW1
 obtain ⟨L, hL⟩ : ∃ L, blen m = L := ⟨_, rfl⟩
 have HL := lHd hL
 have HT := lHd (show topD ⟨g, m, e⟩ = e + (L : Int) by unfold topD; rw [hL])
 have e1 : IntKind.i64.wrap (e + (L : Int)) = e + (L : Int) := iwo
 clear hW1 hL
 go_enter Tryd.func81, Tryd.ntmps81
 go_wp2_with fail
 rw [← HW1.out]
 clear HW1
 go_region_held3 (fun w' => w'.cell? ⟨w.heap.size, 0, none⟩ = some (.bool g) ∧ w'.cell? ⟨w.heap.size, 1, none⟩ = some (.slice p (dig B32 m).length c) ∧ w'.cell? ⟨w.heap.size, 2, none⟩ = some (.int .i64 e))
  (first | exact ⟨A1.drew.c0, A1.drew.c1, A1.drew.c2⟩ | exact ⟨A1.c0, A1.c1, A1.c2⟩)
  (first | (go_at_call 46; refine (e0d p _ c m _ hp1.drew rfl (by clear e1; omega)).mono ?_; rw [HL.out]; rintro e2 w2 ⟨rfl, rfl⟩))
 all_goals (go_wp2_with fail)
 all_goals go_ret
 all_goals exact ⟨a0s HT.out.symm, hs1.drew⟩
theorem a1v (a b : Nat) : -1 ≤ cmpN a b ∧ cmpN a b ≤ 1 := by
 unfold cmpN
 split
 · omega
 · split <;> omega
theorem n0a (v : Dv) : -1 ≤ a0k v ∧ a0k v ≤ 1 := by
 unfold a0k
 split
 · omega
 · split <;> omega
theorem a1w (n : Int) : clip n = max (-1) (min 1 n) := rfl
theorem y0m (g h : Bool) (p q : OA) (n c m d : Nat) (e f : Int) (a b : Nat) (w : World) (hp : Rd w .u32 p (dig B32 a)) (hq : Rd w .u32 q (dig B32 b)) (hn : n = (dig B32 a).length) (hm : m = (dig B32 b).length)
 (hl : (dig B32 a).length ≤ 1000000) (hl2 : (dig B32 b).length ≤ 1000000) (he : -1000000 ≤ e ∧ e ≤ 1000000) (hf : -1000000 ≤ f ∧ f ≤ 1000000) :
 Calls Tryd.prog 71 #[.agg #[.bool g, .slice p n c, .int .i64 e], .agg #[.bool h, .slice q m d, .int .i64 f]] w fun en w' => en = .returned (.int .i64 (pCmp ⟨g, a, e⟩ ⟨h, b, f⟩)) ∧ Below w.heap.size w w' := by
 subst hn hm
 obtain ⟨W1, hW1⟩ : ∃ W1, W1 = (w.alloc (.cells #[.bool g, .slice p (dig B32 a).length c, .int .i64 e] 61)).alloc (.cells #[.bool h, .slice q (dig B32 b).length d, .int .i64 f] 61) := ⟨_, rfl⟩
 have hs1 : Below w.heap.size w W1 := by rw [hW1]; exact b0d w _ _
 have A1 : Box3 W1 w.heap.size (.bool g) (.slice p (dig B32 a).length c) (.int .i64 e) := by rw [hW1]; exact (a0i w _ _ _ _).laid _
 have B1 : Box3 W1 (w.heap.size + 1) (.bool h) (.slice q (dig B32 b).length d) (.int .i64 f) := by
  have := a0i (w.alloc (.cells #[.bool g, .slice p (dig B32 a).length c, .int .i64 e] 61)) (.bool h) (.slice q (dig B32 b).length d) (.int .i64 f) 61
  rw [hW1]; simpa using this
 have hp1 := hp.past hs1
 have hq1 := hq.past hs1
 have HW1 := lHd hW1
 clear hW1
 have hS := n0a ⟨g, a, e⟩
 have hT := n0a ⟨h, b, f⟩
 have HC := lHd (show pCmp ⟨g, a, e⟩ ⟨h, b, f⟩ = if a0k ⟨g, a, e⟩ ≠ a0k ⟨h, b, f⟩ ∨ a0k ⟨g, a, e⟩ = 0 then clip (a0k ⟨g, a, e⟩ - a0k ⟨h, b, f⟩)
   else (if topD ⟨g, a, e⟩ ≠ topD ⟨h, b, f⟩ then clip (topD ⟨g, a, e⟩ - topD ⟨h, b, f⟩) else cmpN (a * 2 ^ (e - min e f).toNat) (b * 2 ^ (f - min e f).toNat)) * a0k ⟨g, a, e⟩ from rfl)
 obtain ⟨S, hSS⟩ : ∃ S, a0k ⟨g, a, e⟩ = S := ⟨_, rfl⟩
 obtain ⟨T, hTT⟩ : ∃ T, a0k ⟨h, b, f⟩ = T := ⟨_, rfl⟩
 rw [hSS] at HC hS
 rw [hTT] at HC hT
 have HSS := lHd hSS
 have HTT := lHd hTT
 clear hSS hTT
 go_enter Tryd.func71, Tryd.ntmps71
 go_wp2_with fail
 rw [← HW1.out]
 clear HW1
 go_cut [5, 6] (fun s5 s6 wx => s5 = .int .i64 S ∧ s6 = .int .i64 T ∧ Below W1.heap.size W1 wx)
 case first =>
  go_region_held3 (fun w' => (w'.cell? ⟨w.heap.size, 0, none⟩ = some (.bool g) ∧ w'.cell? ⟨w.heap.size, 1, none⟩ = some (.slice p (dig B32 a).length c) ∧ w'.cell? ⟨w.heap.size, 2, none⟩ = some (.int .i64 e)) ∧
      (w'.cell? ⟨w.heap.size + 1, 0, none⟩ = some (.bool h) ∧ w'.cell? ⟨w.heap.size + 1, 1, none⟩ = some (.slice q (dig B32 b).length d) ∧ w'.cell? ⟨w.heap.size + 1, 2, none⟩ = some (.int .i64 f)))
   (first
          | exact ⟨⟨((A1.drew.past hbx).past hby).c0, ((A1.drew.past hbx).past hby).c1, ((A1.drew.past hbx).past hby).c2⟩, ((B1.drew.past hbx).past hby).c0, ((B1.drew.past hbx).past hby).c1, ((B1.drew.past hbx).past hby).c2⟩
          | exact ⟨⟨((A1.drew.past hby).past hbx).c0, ((A1.drew.past hby).past hbx).c1, ((A1.drew.past hby).past hbx).c2⟩, ((B1.drew.past hby).past hbx).c0, ((B1.drew.past hby).past hbx).c1, ((B1.drew.past hby).past hbx).c2⟩
          | exact ⟨⟨(A1.drew.past hbx).c0, (A1.drew.past hbx).c1, (A1.drew.past hbx).c2⟩, (B1.drew.past hbx).c0, (B1.drew.past hbx).c1, (B1.drew.past hbx).c2⟩
          | exact ⟨⟨(A1.drew.past hby).c0, (A1.drew.past hby).c1, (A1.drew.past hby).c2⟩, (B1.drew.past hby).c0, (B1.drew.past hby).c1, (B1.drew.past hby).c2⟩
          | exact ⟨⟨(A1.drew).c0, (A1.drew).c1, (A1.drew).c2⟩, (B1.drew).c0, (B1.drew).c1, (B1.drew).c2⟩
          | exact ⟨⟨(A1).c0, (A1).c1, (A1).c2⟩, (B1).c0, (B1).c1, (B1).c2⟩
          )
   (first
     | (go_at_call_of 38 (Value.agg #[.bool g, .slice p (dig B32 a).length c, .int .i64 e]); refine (c0e g p _ c e a _ rfl).mono ?_; rw [HSS.out]; rintro ex wx ⟨rfl, hbx⟩)
     | (go_at_call_of 38 (Value.agg #[.bool h, .slice q (dig B32 b).length d, .int .i64 f]); refine (c0e h q _ d f b _ rfl).mono ?_; rw [HTT.out]; rintro ey wy ⟨rfl, hby⟩))
  all_goals (go_wp2_with fail)
  all_goals go_meet
  all_goals (first
    | exact ⟨rfl, rfl, ((Below.refl _ _).drew.trans hbx).trans (hby.mono hbx.size)⟩
    | exact ⟨rfl, rfl, ((Below.refl _ _).drew.trans hby).trans (hbx.mono hby.size)⟩)
 case rest =>
  obtain ⟨rfl, rfl, hb2⟩ := hcut
  have hs2 := hs1.trans (hb2.mono hs1.size)
  replace A1 := A1.past hb2
  replace B1 := B1.past hb2
  replace hp1 := hp1.past hb2
  replace hq1 := hq1.past hb2
  clear hb2
  by_cases hST : S = T
  · subst hST
    by_cases h0 : S = 0
    · subst h0
      have HK := lHd (HC.out.trans (if_pos (.inr rfl)))
      go_wp2
      go_ret
      exact ⟨a0s HK.out.symm, hs2⟩
    · have HK := lHd (HC.out.trans (if_neg (by intro h; rcases h with h | h; exact h rfl; exact h0 h)))
      have t1 : (S == S) = true := by simp
      have t2 : (S != S) = false := by simp
      have t3 : (S == 0) = false := bFn h0
      have hS2 : S = 1 ∨ S = -1 := by omega
      have HS2 := lHd hS2
      clear hS2
      have hbx : -50000000 ≤ topD ⟨g, a, e⟩ ∧ topD ⟨g, a, e⟩ ≤ 50000000 := by unfold topD; have := b0e a; simp only; omega
      have hby : -50000000 ≤ topD ⟨h, b, f⟩ ∧ topD ⟨h, b, f⟩ ≤ 50000000 := by unfold topD; have := b0e b; simp only; omega
      have HTX := fun W h1 => lHd (r0i g p _ c e a W h1 rfl hl he)
      have HTY := fun W h1 => lHd (r0i h q _ d f b W h1 rfl hl2 hf)
      generalize topD ⟨g, a, e⟩ = x at *
      generalize topD ⟨h, b, f⟩ = y at *
      obtain ⟨w2, hw2⟩ : ∃ w2, w2 = wc := ⟨_, rfl⟩
      subst hw2
      clear h0
      go_wp2_with fail
      clear t1 t2 t3
      go_cut [8, 9] (fun s8 s9 wx => s8 = .int .i64 x ∧ s9 = .int .i64 y ∧ Below w2.heap.size w2 wx)
      case first =>
       go_region_held3 (fun w' => (w'.cell? ⟨w.heap.size, 0, none⟩ = some (.bool g) ∧ w'.cell? ⟨w.heap.size, 1, none⟩ = some (.slice p (dig B32 a).length c) ∧ w'.cell? ⟨w.heap.size, 2, none⟩ = some (.int .i64 e)) ∧
           (w'.cell? ⟨w.heap.size + 1, 0, none⟩ = some (.bool h) ∧ w'.cell? ⟨w.heap.size + 1, 1, none⟩ = some (.slice q (dig B32 b).length d) ∧ w'.cell? ⟨w.heap.size + 1, 2, none⟩ = some (.int .i64 f)))
        (first
               | exact ⟨⟨((A1.drew.past hbx).past hby).c0, ((A1.drew.past hbx).past hby).c1, ((A1.drew.past hbx).past hby).c2⟩, ((B1.drew.past hbx).past hby).c0, ((B1.drew.past hbx).past hby).c1, ((B1.drew.past hbx).past hby).c2⟩
               | exact ⟨⟨((A1.drew.past hby).past hbx).c0, ((A1.drew.past hby).past hbx).c1, ((A1.drew.past hby).past hbx).c2⟩, ((B1.drew.past hby).past hbx).c0, ((B1.drew.past hby).past hbx).c1, ((B1.drew.past hby).past hbx).c2⟩
               | exact ⟨⟨(A1.drew.past hbx).c0, (A1.drew.past hbx).c1, (A1.drew.past hbx).c2⟩, (B1.drew.past hbx).c0, (B1.drew.past hbx).c1, (B1.drew.past hbx).c2⟩
               | exact ⟨⟨(A1.drew.past hby).c0, (A1.drew.past hby).c1, (A1.drew.past hby).c2⟩, (B1.drew.past hby).c0, (B1.drew.past hby).c1, (B1.drew.past hby).c2⟩
               | exact ⟨⟨(A1.drew).c0, (A1.drew).c1, (A1.drew).c2⟩, (B1.drew).c0, (B1.drew).c1, (B1.drew).c2⟩
               | exact ⟨⟨(A1).c0, (A1).c1, (A1).c2⟩, (B1).c0, (B1).c1, (B1).c2⟩
               )
        (first
          | (go_at_call_of 81 (Value.agg #[.bool g, .slice p (dig B32 a).length c, .int .i64 e]); refine (HTX _ ?_).out.mono ?_; (first | exact hp1.drew | exact hp1.drew.past hby); rintro ex wx ⟨rfl, hbx⟩)
          | (go_at_call_of 81 (Value.agg #[.bool h, .slice q (dig B32 b).length d, .int .i64 f]); refine (HTY _ ?_).out.mono ?_; (first | exact hq1.drew | exact hq1.drew.past hbx); rintro ey wy ⟨rfl, hby⟩))
       all_goals (go_wp2_with fail)
       all_goals go_meet
       all_goals (first
         | exact ⟨rfl, rfl, ((Below.refl _ _).drew.trans hbx).trans (hby.mono hbx.size)⟩
         | exact ⟨rfl, rfl, ((Below.refl _ _).drew.trans hby).trans (hbx.mono hby.size)⟩)
      case rest =>
       obtain ⟨rfl, rfl, hb3⟩ := hcut
       have hs3 := hs2.trans (hb3.mono hs2.size)
       replace A1 := A1.past hb3
       replace B1 := B1.past hb3
       replace hp1 := hp1.past hb3
       replace hq1 := hq1.past hb3
       clear hb3
       by_cases hxy : x = y
       · subst hxy
         have HJ := lHd (HK.out.trans (congrArg (· * S) (if_neg (by simp))))
         have t1 : (x == x) = true := by simp
         have t2 : (x != x) = false := by simp
         have a2 := A1.c2
         have b2 := B1.c2
         go_wp2_with fail
         clear a2 b2 t1 t2
         have hk1 : min e f ≤ e := by omega
         have hk2 : min e f ≤ f := by omega
         have hk3 : -1000000 ≤ min e f := by omega
         generalize min e f = k at *
         obtain ⟨N1, hN1⟩ : ∃ N1, N1 = (e - k).toNat := ⟨_, rfl⟩
         obtain ⟨N2, hN2⟩ : ∃ N2, N2 = (f - k).toNat := ⟨_, rfl⟩
         rw [← hN1, ← hN2] at HJ
         have n1 : N1 ≤ 2000000 := by omega
         have n2 : N2 ≤ 2000000 := by omega
         have lX : (dig B32 (a * 2 ^ N1)).length ≤ 2000000 := by have := e0e a N1; omega
         have lY : (dig B32 (b * 2 ^ N2)).length ≤ 2000000 := by have := e0e b N2; omega
         have hC := a1v (a * 2 ^ N1) (b * 2 ^ N2)
         have e1 : IntKind.i64.wrap (e - k) = (N1 : Int) := by rw [iwo]; omega
         have e2 : IntKind.i64.wrap (f - k) = (N2 : Int) := by rw [iwo]; omega
         clear hN1 hN2 HK HC
         obtain ⟨w3, hw3⟩ : ∃ w3, w3 = wc := ⟨_, rfl⟩
         subst hw3
         have HX := fun W h1 => lHd (d0h p _ c a N1 W h1 rfl (by omega) (by omega))
         have HY := fun W h1 => lHd (d0h q _ d b N2 W h1 rfl (by omega) (by omega))
         generalize a * 2 ^ N1 = xx at *
         generalize b * 2 ^ N2 = yy at *
         go_cut [7] (fun s7 wx => s7 = .int .i64 (cmpN xx yy) ∧ Below w3.heap.size w3 wx)
         case first =>
          go_region_held3 (fun w' => (w'.cell? ⟨w.heap.size, 1, none⟩ = some (.slice p (dig B32 a).length c) ∧ w'.cell? ⟨w.heap.size, 2, none⟩ = some (.int .i64 e)) ∧
              (w'.cell? ⟨w.heap.size + 1, 1, none⟩ = some (.slice q (dig B32 b).length d) ∧ w'.cell? ⟨w.heap.size + 1, 2, none⟩ = some (.int .i64 f)))
           (first
                  | exact ⟨⟨(((A1.drew.past hbx).past hby).past hbz).c1, (((A1.drew.past hbx).past hby).past hbz).c2⟩, (((B1.drew.past hbx).past hby).past hbz).c1, (((B1.drew.past hbx).past hby).past hbz).c2⟩
                  | exact ⟨⟨((A1.drew.past hbx).past hby).c1, ((A1.drew.past hbx).past hby).c2⟩, ((B1.drew.past hbx).past hby).c1, ((B1.drew.past hbx).past hby).c2⟩
                  | exact ⟨⟨(A1.drew.past hbx).c1, (A1.drew.past hbx).c2⟩, (B1.drew.past hbx).c1, (B1.drew.past hbx).c2⟩
                  | exact ⟨⟨(A1.drew).c1, (A1.drew).c2⟩, (B1.drew).c1, (B1.drew).c2⟩
                  | exact ⟨⟨(A1).c1, (A1).c2⟩, (B1).c1, (B1).c2⟩
                  )
           (first
             | (go_at_call_of 41 (Value.slice p (dig B32 a).length c); refine (HX _ ?_).out.mono ?_; exact hp1.drew; rintro ex wx ⟨px, cx, rfl, hox, hbx⟩)
             | (go_at_call_of 41 (Value.slice q (dig B32 b).length d); refine (HY _ ?_).out.mono ?_; exact hq1.drew.past hbx; rintro ey wy ⟨py, cy, rfl, hoy, hby⟩)
             | (go_at_call 43; refine (d0j px py _ _ cx cy xx yy _ (hox.past hby).rd hoy.rd rfl rfl (by clear e1 e2; omega) (by clear e1 e2; omega)).mono ?_; rintro ez wz ⟨rfl, hbz⟩))
          all_goals (clear e1 e2)
          all_goals (go_wp2_with fail)
          all_goals go_meet
          all_goals exact ⟨rfl, (((Below.refl _ _).drew.trans hbx).trans (hby.mono hbx.size)).trans (hbz.mono (Nat.le_trans hbx.size hby.size))⟩
         case rest =>
          obtain ⟨rfl, hb4⟩ := hcut
          clear e1 e2
          have HJ2 := HJ
          generalize cmpN xx yy = C at *
          replace hs3 := hs3.trans (hb4.mono hs3.size)
          replace A1 := A1.past hb4
          have a0 := A1.c0
          have a1 := A1.c1
          have a2 := A1.c2
          go_wp2_with fail
          clear a0 a1 a2
          ((with_reducible refine (c0e g p _ c e a _ rfl).mono ?_))
          rw [HSS.out]
          rintro e5 w5 ⟨rfl, hb5⟩
          have hs5 := hs3.trans (hb5.mono hs3.size)
          rcases HS2.out with rfl | rfl
          · go_wp2
            go_ret
            exact ⟨a0s (by rw [HJ2.out]; omega), hs5⟩
          · go_wp2
            go_ret
            exact ⟨a0s (by rw [HJ2.out]; omega), hs5⟩
       · have HJ := lHd (HK.out.trans (congrArg (· * S) (if_pos hxy)))
         have t1 : (x == y) = false := bFn hxy
         have t2 : (x != y) = true := by rw [bne, t1]; rfl
         clear hxy
         have a0 := A1.c0
         have a1 := A1.c1
         have a2 := A1.c2
         go_wp2_with fail
         obtain ⟨C, hC⟩ : ∃ C, max (-1) (min 1 (x - y)) = C := ⟨_, rfl⟩
         have HJ2 := lHd (show pCmp ⟨g, a, e⟩ ⟨h, b, f⟩ = C * S by rw [HJ.out, a1w, hC])
         rw [hC]
         have hC1 : -1 ≤ C ∧ C ≤ 1 := by omega
         clear HJ HK HC hC a0 a1 a2 t1 t2
         ((with_reducible refine (c0e g p _ c e a _ rfl).mono ?_))
         rw [HSS.out]
         rintro e5 w5 ⟨rfl, hb5⟩
         have hs5 := hs3.trans (hb5.mono hs3.size)
         rcases HS2.out with rfl | rfl
         · go_wp2
           go_ret
           exact ⟨a0s (by rw [HJ2.out]; omega), hs5⟩
         · go_wp2
           go_ret
           exact ⟨a0s (by rw [HJ2.out]; omega), hs5⟩
  · have HK := lHd (HC.out.trans (if_pos (.inl hST)))
    have t1 : (S == T) = false := bFn hST
    have t2 : (S != T) = true := by rw [bne, t1]; rfl
    clear hST
    go_wp2
    go_ret
    exact ⟨a0s HK.out.symm, hs2⟩
theorem Box3.put {w : World} {b : Nat} {v0 v1 v2 : Value} (h : Box3 w b v0 v1 v2) (u0 u1 u2 : Value) : Box3 (((w.setCell ⟨b, 0, none⟩ u0).setCell ⟨b, 1, none⟩ u1).setCell ⟨b, 2, none⟩ u2) b u0 u1 u2 := by
 have h1 : Box3 (w.setCell ⟨b, 0, none⟩ u0) b u0 v1 v2 :=
  ⟨World.cell?_setCell_same _ _ _ h.c0, (World.cell?_setCell_other _ _ _ _ (by simp)).trans h.c1, (World.cell?_setCell_other _ _ _ _ (by simp)).trans h.c2, by simpa using h.f0, by simpa using h.f1, by simpa using h.f2, by simpa using h.lt⟩
 have h2 : Box3 ((w.setCell ⟨b, 0, none⟩ u0).setCell ⟨b, 1, none⟩ u1) b u0 u1 v2 :=
  ⟨(World.cell?_setCell_other _ _ _ _ (by simp)).trans h1.c0, World.cell?_setCell_same _ _ _ h1.c1, (World.cell?_setCell_other _ _ _ _ (by simp)).trans h1.c2, by simpa using h.f0, by simpa using h.f1, by simpa using h.f2, by simpa using h.lt⟩
 exact ⟨(World.cell?_setCell_other _ _ _ _ (by simp)).trans h2.c0, (World.cell?_setCell_other _ _ _ _ (by simp)).trans h2.c1, World.cell?_setCell_same _ _ _ h2.c2, by simpa using h.f0, by simpa using h.f1, by simpa using h.f2, by simpa using h.lt⟩
theorem Box3.beside {w : World} {b k : Nat} {v0 v1 v2 : Value} (h : Box3 w b v0 v1 v2) (hne : b ≠ k) (u0 u1 u2 : Value) : Box3 (((w.setCell ⟨k, 0, none⟩ u0).setCell ⟨k, 1, none⟩ u1).setCell ⟨k, 2, none⟩ u2) b v0 v1 v2 := by
 have key : ∀ (W : World) (o : Nat) (u : Value), Box3 W b v0 v1 v2 → Box3 (W.setCell ⟨k, o, none⟩ u) b v0 v1 v2 := fun W o u h =>
  ⟨(World.cell?_setCell_other _ _ _ _ (fun e => hne (congrArg Addr.block e).symm)).trans h.c0, (World.cell?_setCell_other _ _ _ _ (fun e => hne (congrArg Addr.block e).symm)).trans h.c1, (World.cell?_setCell_other _ _ _ _ (fun e => hne (congrArg Addr.block e).symm)).trans h.c2, by simpa using h.f0, by simpa using h.f1, by simpa using h.f2, by simpa using h.lt⟩
 exact key _ _ _ (key _ _ _ (key _ _ _ h))
theorem Own.beside {w : World} {base k : Nat} {kd : IntKind} {e : TypeId} {p : OA} {c : Nat} {xs : List Nat} (h : Own w base kd e p c xs) (hne : p.isSome = true → blk p ≠ k) (u0 u1 u2 : Value) :
 Own (((w.setCell ⟨k, 0, none⟩ u0).setCell ⟨k, 1, none⟩ u1).setCell ⟨k, 2, none⟩ u2) base kd e p c xs :=
 h.same (fun h => by rw [Below.heap_setCell _ _ _ _ (hne h), Below.heap_setCell _ _ _ _ (hne h), Below.heap_setCell _ _ _ _ (hne h)])
theorem Rd.beside {w : World} {k : Nat} {kd : IntKind} {p : OA} {xs : List Nat} (h : Rd w kd p xs) (hne : 0 < xs.length → blk p ≠ k) (u0 u1 u2 : Value) :
 Rd (((w.setCell ⟨k, 0, none⟩ u0).setCell ⟨k, 1, none⟩ u1).setCell ⟨k, 2, none⟩ u2) kd p xs :=
 h.same (fun h => by rw [Below.heap_setCell _ _ _ _ (hne h), Below.heap_setCell _ _ _ _ (hne h), Below.heap_setCell _ _ _ _ (hne h)])
theorem TabW.beside {w : World} {k : Nat} (h : TabW w) (hk : 0 < k) (u0 u1 u2 : Value) : TabW (((w.setCell ⟨k, 0, none⟩ u0).setCell ⟨k, 1, none⟩ u1).setCell ⟨k, 2, none⟩ u2) :=
 h.below (((Below.refl k w).setCell (Nat.le_refl _) _ |>.setCell (Nat.le_refl _) _).setCell (Nat.le_refl _) _) hk
theorem Below.beside {w w' : World} {B k : Nat} (h : Below B w w') (hk : B ≤ k) (u0 u1 u2 : Value) : Below B w (((w'.setCell ⟨k, 0, none⟩ u0).setCell ⟨k, 1, none⟩ u1).setCell ⟨k, 2, none⟩ u2) :=
 ((h.setCell hk _).setCell hk _).setCell hk _
def i0i (e0 : Int) (r : Dv) : Int := if e0 = 0 then errD r else e0
def e0g (e0 : Int) (r : Dv) : Dv := if e0 = 0 then c0k r else ⟨false, 0, 0⟩
theorem d0u {w wk : World} {base b : Nat} {er : Int} (hs : Below w.heap.size w wk) (hB : w.heap.size ≤ b) :
 c0b w base ⟨false, 0, 0⟩ er (.returned (.tuple #[.agg #[.bool false, .slice none 0 0, .int .i64 0], .int .i64 er])) (((wk.setCell ⟨b, 0, none⟩ (.bool false)).setCell ⟨b, 1, none⟩ (.slice none 0 0)).setCell ⟨b, 2, none⟩ (.int .i64 0)) :=
 ⟨none, 0, by rw [a0b]; rfl, by rw [a0b]; exact Own.nil _ _ _ _, Below.beside hs hB _ _ _⟩
theorem s0r (a : Din) (w : World) (ha : InD w a) (hT : TabW w) :
 Calls Tryd.prog 10 #[.agg #[.bool a.g, .slice a.p a.xs.length a.c, .int .i64 a.e]] w (c0b w w.heap.size (e0g (a0w a) (dyV a)) (i0i (a0w a) (dyV a))) := by
 obtain ⟨W1, hW1, hs1, A1, R1, hz1⟩ := u0g w (.bool a.g) (.slice a.p a.xs.length a.c) (.int .i64 a.e) (.bool false) (.slice none 0 0) (.int .i64 0) 25 25
 have ha1 := ha.past hs1
 have hT1 := hT.past hs1
 have HW1 := lHd hW1
 clear hW1
 unfold e0g i0i
 by_cases he : a0w a = 0
 · rw [if_pos he, if_pos he]
   obtain ⟨hla, hea, hea2⟩ := i0f ha he
   obtain ⟨ma, exa, eva, la, e1a, e2a⟩ := ha.ok he
   have HVA := lHd (show bare ⟨a.g, ma, a.e⟩ = dyV a by unfold dyV; rw [eva])
   have HXA := lHd exa
   have hca := ha.cap
   have HE := lHd he
   clear he exa eva
   generalize dyV a = va at *
   obtain ⟨gv, mv, fv⟩ := va
   simp only at hla hea hea2
   go_enter Tryd.func10, Tryd.ntmps10
   go_wp2_with fail
   rw [← HW1.out]
   ((with_reducible refine (b0w a _ _ hz1.symm ha1.rd ha1.len).mono ?_))
   rintro e2 w2 ⟨rfl, hb2⟩
   have hb3 : Below W1.heap.size W1 w2 := ((Below.refl _ _).alloc (Nat.le_refl _) _).trans (hb2.mono (by simp))
   have hs2 := hs1.trans (hb3.mono hs1.size)
   replace A1 := A1.past hb3
   replace R1 := R1.past hb3
   replace ha1 := ha1.past hb3
   replace hT1 := hT1.past hb3
   clear hb2 HW1 hs1 hb3
   rw [HE.out]
   have ra1 : Rd w2 .u32 a.p (dig B32 ma) := by rw [← HXA.out]; exact ha1.rd
   have a0 := A1.c0
   have a1 := A1.c1
   have a2 := A1.c2
   go_wp2_with fail
   ((with_reducible refine (j0j a.g a.p _ a.c a.e ma _ ra1 (by rw [HXA.out]) hca (by omega) (by omega) hT1).mono ?_))
   rw [HVA.out]
   rintro e4 w4 ⟨p4, c4, rfl, ho4, hb4⟩
   go_wp2_with fail
   ((with_reducible refine (g0u gv p4 _ c4 _ fv mv _ ho4 rfl (by omega)).mono ?_))
   rintro e5 w5 ⟨p5, c5, rfl, ho5, hb5⟩
   obtain ⟨d0, d1, d2, f0, f1, f2, dlt⟩ := (R1.past hb4).past hb5
   go_wp2_with fail
   refine bodyPost_ret (v := .tuple #[.agg #[.bool (c0k ⟨gv, mv, fv⟩).neg, .slice p5 (dig B32 (c0k ⟨gv, mv, fv⟩).m).length c5, .int .i64 (c0k ⟨gv, mv, fv⟩).e], .int .i64 (errD ⟨gv, mv, fv⟩)]) (by simp [results, Tryd.results10, go_sem, d0, d1, d2]) rfl ?_
   have hs4 := hs2.trans (hb4.mono hs2.size)
   have hzR := R1.lt
   exact d0a (hs4.trans (hb5.mono hs4.size)) ho5 hs2.size (by omega) (fun h => by have := (ho5.blk_lt h).1; omega)
 · rw [if_neg he, if_neg he]
   have HE := lHd he
   obtain ⟨er, her⟩ : ∃ er, a0w a = er := ⟨_, rfl⟩
   have HC := fun W bk h1 h2 => lHd (b0w a W bk h1 h2 ha.len)
   simp only [her] at HC
   rw [her] at HE ⊢
   have hz0 : (er == 0) = false := bFn HE.out
   have hz2 : (er != 0) = true := by rw [bne, hz0]; rfl
   clear he her
   go_enter Tryd.func10, Tryd.ntmps10
   go_wp2_with fail
   rw [← HW1.out]
   ((with_reducible refine (HC _ _ hz1.symm ha1.rd).out.mono ?_))
   rintro e2 w2 ⟨rfl, hb2⟩
   have hb3 : Below W1.heap.size W1 w2 := ((Below.refl _ _).alloc (Nat.le_refl _) _).trans (hb2.mono (by simp))
   have hs2 := hs1.trans (hb3.mono hs1.size)
   obtain ⟨d0, d1, d2, f0, f1, f2, dlt⟩ := R1.past hb3
   clear hb2 HW1 hs1 hb3
   go_wp2_with fail
   refine bodyPost_ret (v := .tuple #[.agg #[.bool false, .slice none 0 0, .int .i64 0], .int .i64 er]) (by simp [results, Tryd.results10, go_sem, d0, d1, d2]) rfl ?_
   exact d0u hs2 (by omega)
def i0j (e0 : Int) (far : Prop) [Decidable far] : Int := if e0 = 0 then (if far then 3 else 0) else e0
theorem c1t (w : World) : Calls Tryd.prog 48 #[.int .i64 1] w (g0i w .u32 55 (dig B32 1)) := v0q 1 w (by omega)
theorem s0s {g : Bool} {m : Nat} {e : Int} {b : Nat} (up : Bool) (h : blen m ≤ b) : pCut ⟨g, m, e⟩ b up = ⟨g, m, e⟩ := by unfold pCut; rw [if_pos h]
theorem v0y {g : Bool} {m : Nat} {e : Int} {b N : Nat} (h : blen m = b + N) (h0 : 0 < N) : pCut ⟨g, m, e⟩ b g = bare ⟨g, m / 2 ^ N, e + N⟩ := by
 unfold pCut
 rw [if_neg (by simp only; omega)]
 simp [h]
theorem v0z {g up : Bool} {m : Nat} {e : Int} {b N : Nat} (h : blen m = b + N) (h0 : 0 < N) (hu : up ≠ g) : pCut ⟨g, m, e⟩ b up = bare ⟨g, m / 2 ^ N + 1, e + N⟩ := by
 unfold pCut
 rw [if_neg (by simp only; omega)]
 simp [h, hu]
theorem r0j (g : Bool) (p : OA) (n c base : Nat) (e : Int) (m b : Nat) (up : Bool) (w : World) (ho : Own w base .u32 55 p c (dig B32 m)) (hn : n = (dig B32 m).length) (hl : (dig B32 m).length ≤ 1000000)
 (he : -1000000 ≤ e ∧ e ≤ 1000000) (hb : b ≤ 1000000) (hT : TabW w) (hbase : base ≤ w.heap.size) :
 Calls Tryd.prog 23 #[.agg #[.bool g, .slice p n c, .int .i64 e], .int .i64 b, .bool up] w (d0i w base (pCut ⟨g, m, e⟩ b up)) := by
 subst hn
 obtain ⟨W1, hW1, hs1, A1, R1, hz1⟩ := u0g w (.bool g) (.slice p (dig B32 m).length c) (.int .i64 e) (.bool false) (.slice none 0 0) (.int .i64 0) 61 61
 have ho1 := ho.past hs1
 have hT1 := hT.past hs1
 have hbl := b0e m
 have hp0 : p.isSome = true → blk p < w.heap.size := fun h => (ho.blk_lt h).2
 have HW1 := lHd hW1
 clear hW1
 have a0 := A1.c0
 have a1 := A1.c1
 have a2 := A1.c2
 by_cases h : blen m ≤ b
 · rw [s0s up h]
   obtain ⟨L, hL⟩ : ∃ L, blen m = L := ⟨_, rfl⟩
   have HL := lHd hL
   rw [hL] at h hbl
   clear hL
   obtain ⟨d0, d1, d2, f0, f1, f2, dlt⟩ := R1
   go_enter Tryd.func23, Tryd.ntmps23
   go_wp2_with fail
   rw [← HW1.out]
   ((with_reducible refine (e0d p _ c m _ ho1.rd rfl (by omega)).mono ?_))
   rintro e2 w2 ⟨rfl, rfl⟩
   rw [HL.out]
   clear HW1
   go_wp2_with fail
   refine bodyPost_ret (v := .agg #[.bool g, .slice p (dig B32 m).length c, .int .i64 e]) (by simp [results, Tryd.results23, go_sem, d0, d1, d2]) rfl ?_
   exact d0s (d := ⟨g, m, e⟩) hs1 ho1 (Nat.le_refl _) (by omega) (fun h => by have := hp0 h; omega)
 · obtain ⟨N, hN⟩ : ∃ N, blen m = b + N := ⟨blen m - b, by omega⟩
   have hN0 : 0 < N := by omega
   obtain ⟨L, hL⟩ : ∃ L, blen m = L := ⟨_, rfl⟩
   have HL := lHd hL
   have e1 : (L : Int) - (b : Int) = (N : Int) := by omega
   have hLb : L ≤ 32000000 := by omega
   have hLN : N ≤ L := by omega
   have lm : (dig B32 (m / 2 ^ N)).length ≤ (dig B32 m).length := a0e a0a (Nat.div_le_self _ _)
   by_cases hu : up = g
   · subst hu
     have HC := lHd (v0y (g := up) (e := e) hN hN0)
     have t1 : (up != up) = false := by simp
     clear h hL hN hbl
     go_enter Tryd.func23, Tryd.ntmps23
     go_wp2_with fail
     rw [← HW1.out]
     clear HW1
     ((with_reducible refine (e0d p _ c m _ ho1.rd rfl (by omega)).mono ?_))
     rintro e2 w2 ⟨rfl, rfl⟩
     rw [HL.out]
     go_wp2_with fail
     clear e1
     ((with_reducible refine (m0e p _ c m N _ ho1.rd rfl ho1.le_cap (by omega) (by omega)).mono ?_))
     rintro e4 w4 ⟨p4, c4, rfl, ho4, hb4⟩
     have hs4 := hs1.trans (hb4.mono hs1.size)
     replace A1 := A1.past hb4
     replace R1 := R1.past hb4
     replace hT1 := hT1.past hb4
     clear a0 a1 a2
     obtain ⟨a0, a1, a2, _, _, _, _⟩ := A1
     go_wp2_with fail
     ((with_reducible refine (c0h up p4 _ c4 (e + N) (m / 2 ^ N) _ ho4.rd rfl ho4.le_cap (by omega) (by omega) hT1).mono ?_))
     rw [← HC.out]
     generalize pCut ⟨up, m, e⟩ b up = rr at *
     rintro e5 w5 ⟨p5, c5, rfl, ho5, hb5⟩
     obtain ⟨d0, d1, d2, f0, f1, f2, dlt⟩ := R1.past hb5
     go_wp2_with fail
     refine bodyPost_ret (v := .agg #[.bool rr.neg, .slice p5 (dig B32 rr.m).length c5, .int .i64 rr.e]) (by simp [results, Tryd.results23, go_sem, d0, d1, d2]) rfl ?_
     have hzR := R1.lt
     exact d0s (hs4.trans (hb5.mono hs4.size)) ho5 (Nat.le_trans hbase hs4.size) (by omega) (fun h => by have := (ho5.blk_lt h).1; omega)
   · have HC := lHd (v0z (g := g) (e := e) hN hN0 hu)
     have t0 : (up == g) = false := by simpa using hu
     have t1 : (up != g) = true := by rw [bne, t0]; rfl
     have l1 : (dig B32 1).length ≤ 1 := by rw [a0d a0a]; unfold B32; omega
     have lm2 : (dig B32 (m / 2 ^ N + 1)).length ≤ (dig B32 (m / 2 ^ N)).length + (dig B32 1).length + 1 := b0b a0a _ _
     clear h hL hN hbl hu
     go_enter Tryd.func23, Tryd.ntmps23
     go_wp2_with fail
     rw [← HW1.out]
     clear HW1
     ((with_reducible refine (e0d p _ c m _ ho1.rd rfl (by omega)).mono ?_))
     rintro e2 w2 ⟨rfl, rfl⟩
     rw [HL.out]
     go_wp2_with fail
     clear e1
     ((with_reducible refine (m0e p _ c m N _ ho1.rd rfl ho1.le_cap (by omega) (by omega)).mono ?_))
     rintro e4 w4 ⟨p4, c4, rfl, ho4, hb4⟩
     have hs4 := hs1.trans (hb4.mono hs1.size)
     replace A1 := A1.past hb4
     replace R1 := R1.past hb4
     replace hT1 := hT1.past hb4
     clear a0 a1 a2
     have a0 := A1.c0
     go_wp2_with fail
     clear a0
     ((with_reducible refine (c1t _).mono ?_))
     rintro e6 w6 ⟨p6, c6, rfl, ho6, hb6⟩
     have hs6 := hs4.trans (hb6.mono hs4.size)
     replace A1 := A1.past hb6
     replace R1 := R1.past hb6
     replace hT1 := hT1.past hb6
     replace ho4 := ho4.past hb6
     go_wp2_with fail
     ((with_reducible refine (l0x p4 p6 _ _ c4 c6 (m / 2 ^ N) 1 _ ho4.rd ho6.rd rfl rfl (by omega) (by omega)).mono ?_))
     rintro e7 w7 ⟨p7, c7, rfl, ho7, hb7⟩
     have hs7 := hs6.trans (hb7.mono hs6.size)
     replace A1 := A1.past hb7
     replace R1 := R1.past hb7
     replace hT1 := hT1.past hb7
     obtain ⟨a0, a1, a2, _, _, _, _⟩ := A1
     go_wp2_with fail
     ((with_reducible refine (c0h g p7 _ c7 (e + N) (m / 2 ^ N + 1) _ ho7.rd rfl ho7.le_cap (by omega) (by omega) hT1).mono ?_))
     rw [← HC.out]
     generalize pCut ⟨g, m, e⟩ b up = rr at *
     rintro e5 w5 ⟨p5, c5, rfl, ho5, hb5⟩
     obtain ⟨d0, d1, d2, f0, f1, f2, dlt⟩ := R1.past hb5
     go_wp2_with fail
     refine bodyPost_ret (v := .agg #[.bool rr.neg, .slice p5 (dig B32 rr.m).length c5, .int .i64 rr.e]) (by simp [results, Tryd.results23, go_sem, d0, d1, d2]) rfl ?_
     have hzR := R1.lt
     exact d0s (hs7.trans (hb5.mono hs7.size)) ho5 (Nat.le_trans hbase hs7.size) (by omega) (fun h => by have := (ho5.blk_lt h).1; omega)
theorem w0a (a : Din) (n : Int) (up : Bool) (w : World) (ha : InD w a) (hT : TabW w) :
 Calls Tryd.prog 9 #[.agg #[.bool a.g, .slice a.p a.xs.length a.c, .int .i64 a.e], .int .i64 n, .bool up] w
  (c0b w w.heap.size (e0g (i0j (a0w a) (n < 1 ∨ 4096 < n)) (pCut (dyV a) n.toNat up)) (i0i (i0j (a0w a) (n < 1 ∨ 4096 < n)) (pCut (dyV a) n.toNat up))) := by
 obtain ⟨W1, hW1, hs1, A1, R1, hz1⟩ := u0g w (.bool a.g) (.slice a.p a.xs.length a.c) (.int .i64 a.e) (.bool false) (.slice none 0 0) (.int .i64 0) 25 25
 have ha1 := ha.past hs1
 have hT1 := hT.past hs1
 have HW1 := lHd hW1
 clear hW1
 by_cases he : a0w a = 0
 · by_cases hn : n < 1 ∨ 4096 < n
   · have e0 : i0j (a0w a) (n < 1 ∨ 4096 < n) = 3 := by unfold i0j; rw [if_pos he, if_pos hn]
     rw [e0]
     unfold e0g i0i
     rw [if_neg (by omega), if_neg (by omega)]
     clear e0
     have HE := lHd he
     clear he
     rcases hn with hn | hn
     · go_enter Tryd.func9, Tryd.ntmps9
       go_wp2_with fail
       rw [← HW1.out]
       ((with_reducible refine (b0w a _ _ hz1.symm ha1.rd ha1.len).mono ?_))
       rintro e2 w2 ⟨rfl, hb2⟩
       have hb3 : Below W1.heap.size W1 w2 := ((Below.refl _ _).alloc (Nat.le_refl _) _).trans (hb2.mono (by simp))
       have hs2 := hs1.trans (hb3.mono hs1.size)
       replace A1 := A1.past hb3
       replace R1 := R1.past hb3
       replace ha1 := ha1.past hb3
       replace hT1 := hT1.past hb3
       clear hb2 HW1 hs1 hb3
       rw [HE.out]
       obtain ⟨d0, d1, d2, f0, f1, f2, dlt⟩ := R1
       go_wp2_with fail
       refine bodyPost_ret (v := .tuple #[.agg #[.bool false, .slice none 0 0, .int .i64 0], .int .i64 3]) (by simp [results, Tryd.results9, go_sem, d0, d1, d2]) rfl ?_
       exact d0u hs2 (by omega)
     · have hn2 : ¬ n < 1 := by omega
       go_enter Tryd.func9, Tryd.ntmps9
       go_wp2_with fail
       rw [← HW1.out]
       ((with_reducible refine (b0w a _ _ hz1.symm ha1.rd ha1.len).mono ?_))
       rintro e2 w2 ⟨rfl, hb2⟩
       have hb3 : Below W1.heap.size W1 w2 := ((Below.refl _ _).alloc (Nat.le_refl _) _).trans (hb2.mono (by simp))
       have hs2 := hs1.trans (hb3.mono hs1.size)
       replace A1 := A1.past hb3
       replace R1 := R1.past hb3
       replace ha1 := ha1.past hb3
       replace hT1 := hT1.past hb3
       clear hb2 HW1 hs1 hb3
       rw [HE.out]
       obtain ⟨d0, d1, d2, f0, f1, f2, dlt⟩ := R1
       go_wp2_with fail
       refine bodyPost_ret (v := .tuple #[.agg #[.bool false, .slice none 0 0, .int .i64 0], .int .i64 3]) (by simp [results, Tryd.results9, go_sem, d0, d1, d2]) rfl ?_
       exact d0u hs2 (by omega)
   · have e0 : i0j (a0w a) (n < 1 ∨ 4096 < n) = 0 := by unfold i0j; rw [if_pos he, if_neg hn]
     rw [e0]
     unfold e0g i0i
     rw [if_pos rfl, if_pos rfl]
     clear e0
     obtain ⟨b, rfl⟩ : ∃ b : Nat, n = (b : Int) := ⟨n.toNat, by omega⟩
     rw [Int.toNat_natCast]
     have hn1 : ¬ (b : Int) < 1 := by omega
     have hn2 : ¬ 4096 < (b : Int) := by omega
     have hb0 : b ≤ 4096 := by omega
     clear hn
     obtain ⟨hla, hea, hea2⟩ := i0f ha he
     obtain ⟨ma, exa, eva, la, e1a, e2a⟩ := ha.ok he
     have HVA := lHd (show bare ⟨a.g, ma, a.e⟩ = dyV a by unfold dyV; rw [eva])
     have HXA := lHd exa
     have hca := ha.cap
     have HE := lHd he
     clear he exa eva
     generalize dyV a = va at *
     obtain ⟨gv, mv, fv⟩ := va
     simp only at hla hea hea2
     obtain ⟨r, hr⟩ : ∃ r, pCut ⟨gv, mv, fv⟩ b up = r := ⟨_, rfl⟩
     have lr : (dig B32 r.m).length ≤ 3000 := by
      rw [← hr]
      unfold pCut
      split
      · simp only; omega
      · refine Nat.le_trans (c0z a0a _) ?_
        refine Nat.le_trans (b0b a0a _ _) ?_
        have h1 : (dig B32 (mv / 2 ^ (blen mv - b))).length ≤ (dig B32 mv).length := a0e a0a (Nat.div_le_self _ _)
        have h2 : (dig B32 (if up ≠ gv then 1 else 0)).length ≤ 1 := by rw [a0d a0a]; unfold B32; split <;> omega
        simp only at *
        omega
     rw [hr]
     have HR := lHd hr
     clear hr
     go_enter Tryd.func9, Tryd.ntmps9
     go_wp2_with fail
     rw [← HW1.out]
     ((with_reducible refine (b0w a _ _ hz1.symm ha1.rd ha1.len).mono ?_))
     rintro e2 w2 ⟨rfl, hb2⟩
     have hb3 : Below W1.heap.size W1 w2 := ((Below.refl _ _).alloc (Nat.le_refl _) _).trans (hb2.mono (by simp))
     have hs2 := hs1.trans (hb3.mono hs1.size)
     replace A1 := A1.past hb3
     replace R1 := R1.past hb3
     replace ha1 := ha1.past hb3
     replace hT1 := hT1.past hb3
     clear hb2 HW1 hs1 hb3
     rw [HE.out]
     have ra1 : Rd w2 .u32 a.p (dig B32 ma) := by rw [← HXA.out]; exact ha1.rd
     have a0 := A1.c0
     have a1 := A1.c1
     have a2 := A1.c2
     go_wp2_with fail
     ((with_reducible refine (j0j a.g a.p _ a.c a.e ma _ ra1 (by rw [HXA.out]) hca (by omega) (by omega) hT1).mono ?_))
     rw [HVA.out]
     rintro e4 w4 ⟨p4, c4, rfl, ho4, hb4⟩
     have hs4 := hs2.trans (hb4.mono hs2.size)
     have hzR := R1.lt
     replace R1 := R1.past hb4
     replace hT1 := hT1.past hb4
     clear a0 a1 a2
     go_wp2_with fail
     ((with_reducible refine (r0j gv p4 _ c4 w2.heap.size fv mv b up _ ho4 rfl (by omega) (by omega) (by omega) hT1 hb4.size).mono ?_))
     rw [HR.out]
     rintro e5 w5 ⟨p5, c5, rfl, ho5, hb5⟩
     have hs5 := hs4.trans (hb5.mono hs4.size)
     replace R1 := R1.past hb5
     go_wp2_with fail
     ((with_reducible refine (g0u r.neg p5 _ c5 _ r.e r.m _ ho5 rfl (by omega)).mono ?_))
     rintro e7 w7 ⟨p7, c7, rfl, ho7, hb7⟩
     obtain ⟨d0, d1, d2, f0, f1, f2, dlt⟩ := R1.past hb7
     go_wp2_with fail
     refine bodyPost_ret (v := .tuple #[.agg #[.bool (c0k r).neg, .slice p7 (dig B32 (c0k r).m).length c7, .int .i64 (c0k r).e], .int .i64 (errD r)]) (by simp [results, Tryd.results9, go_sem, d0, d1, d2]) rfl ?_
     exact d0a (hs5.trans (hb7.mono hs5.size)) ho7 hs2.size (by omega) (fun h => by have := (ho7.blk_lt h).1; omega)
 · have e0 : i0j (a0w a) (n < 1 ∨ 4096 < n) = a0w a := by unfold i0j; rw [if_neg he]
   rw [e0]
   unfold e0g i0i
   rw [if_neg he, if_neg he]
   clear e0
   have HE := lHd he
   obtain ⟨er, her⟩ : ∃ er, a0w a = er := ⟨_, rfl⟩
   have HC := fun W bk h1 h2 => lHd (b0w a W bk h1 h2 ha.len)
   simp only [her] at HC
   rw [her] at HE ⊢
   have hz0 : (er == 0) = false := bFn HE.out
   have hz2 : (er != 0) = true := by rw [bne, hz0]; rfl
   clear he her
   go_enter Tryd.func9, Tryd.ntmps9
   go_wp2_with fail
   rw [← HW1.out]
   ((with_reducible refine (HC _ _ hz1.symm ha1.rd).out.mono ?_))
   rintro e2 w2 ⟨rfl, hb2⟩
   have hb3 : Below W1.heap.size W1 w2 := ((Below.refl _ _).alloc (Nat.le_refl _) _).trans (hb2.mono (by simp))
   have hs2 := hs1.trans (hb3.mono hs1.size)
   obtain ⟨d0, d1, d2, f0, f1, f2, dlt⟩ := R1.past hb3
   clear hb2 HW1 hs1 hb3
   go_wp2_with fail
   refine bodyPost_ret (v := .tuple #[.agg #[.bool false, .slice none 0 0, .int .i64 0], .int .i64 er]) (by simp [results, Tryd.results9, go_sem, d0, d1, d2]) rfl ?_
   exact d0u hs2 (by omega)
end Go.Proofs.YthcoapcffhgckaaDoor
namespace Go.Slip
open Go.RowKit
section
variable {P : Program} {f : FuncId} {args : Array Value} {R : Ending → World → Prop} {w : World} {v0 v1 v2 v3 v4 v5 u0 u1 u2 u3 u4 u5 : Value} {c : Code} {Q : Exit → Act → World → Prop} {a : Act} {b : Nat}
theorem q0a (hX : Bx w b #[v0, v1, v2]) (h : ∀ W, Only b w W → Bx W b #[u0, u1, u2] → c.wp P Q a W) : c.wp P Q a (((w.setCell ⟨b, 0, none⟩ u0).setCell ⟨b, 1, none⟩ u1).setCell ⟨b, 2, none⟩ u2) := h _ (b1y _ _ _ _ _) (hX.put3 _ _ _)
end
end Go.Slip
namespace Go.Proofs.YthcoapcffhgckaaDoor
open Go.RowKit Go.Slip
theorem o0m (p : OA) (n c : Nat) (e : Int) (m : Nat) (w : World) (hp : Rd w .u32 p (dig B32 m)) (hn : n = (dig B32 m).length) (hc : n ≤ c) (hl : (dig B32 m).length ≤ 10000000)
 (he : -1000000000 ≤ e ∧ e ≤ 1000000000) (hT : TabW w) :
 Calls Tryd.prog 79 #[.slice p n c, .int .i64 e] w (d0i w w.heap.size (bare ⟨false, m, e⟩)) := by
 subst hn
 go_enter Tryd.func79, Tryd.ntmps79
 go_wp2_with fail
 refine h0u (fun W1 hb1 hz1 R => ?_)
 replace hp := hp.past hb1
 replace hT := hT.past hb1
 have hs1 := hb1
 ((with_reducible refine (c0h false p _ c e m _ hp rfl hc hl he hT).mono ?_))
 generalize bare ⟨false, m, e⟩ = r at *
 rintro e2 w2 ⟨p2, c2, rfl, ho2, hb2⟩
 replace R := R.past hb2
 obtain ⟨R_0, R_1, R_2⟩ := R.e3
 have R_f0 := R.f 0
 have R_f1 := R.f 1
 have R_f2 := R.f 2
 go_wp2_with fail
 clear R_0 R_1 R_2 R_f0 R_f1 R_f2
 obtain ⟨R_0, R_1, R_2⟩ := R.e3
 refine bodyPost_ret (v := .agg #[.bool r.neg, .slice p2 (dig B32 r.m).length c2, .int .i64 r.e]) (by simp [results, Tryd.results79, go_sem, R_0, R_1, R_2]) rfl ?_
 have hz := hs1.size
 exact d0s (hs1.trans (hb2.mono hs1.size)) ho2 hz (Nat.le_refl _) (fun h => by have := (ho2.blk_lt h).1; omega)
end Go.Proofs.YthcoapcffhgckaaDoor
namespace Go.Slip
def h0x (g : Bool) (X Y n j : Nat) (e : Int) : Dv := ⟨g, 2 ^ j * (X * 2 ^ n / Y) + (if X * 2 ^ n % Y ≠ 0 then 1 else 0), e - n - j⟩
theorem w0b {X Y n b : Nat} (hX : 0 < X) (hY : 0 < Y) (h : b + 1 + blen Y ≤ blen X + n) : b < blen (X * 2 ^ n / Y) := by
 have h1 := f0r X hX
 have h2 := (b0s Y (blen Y)).1 (Nat.le_refl _)
 have h0 := (d0r X).2 hX
 have h3 : 2 ^ (blen X - 1 + n) ≤ X * 2 ^ n := by rw [Nat.pow_add]; exact Nat.mul_le_mul_right _ h1
 have h4 : 2 ^ b ≤ X * 2 ^ n / Y := by
  rw [Nat.le_div_iff_mul_le hY]
  refine Nat.le_trans (Nat.mul_le_mul_left _ (Nat.le_of_lt h2)) (Nat.le_trans ?_ h3)
  rw [← Nat.pow_add]
  exact Nat.pow_le_pow_right (by omega) (by omega)
 rcases Nat.lt_or_ge b (blen (X * 2 ^ n / Y)) with h5 | h5
 · exact h5
 · have := (b0s (X * 2 ^ n / Y) b).1 h5
   omega
def a0t (a b : Dv) (bits : Nat) (up : Bool) : Dv := if a.m = 0 then a else pCut (bare (h0x (xor a.neg b.neg) a.m b.m (bits + 2 + blen b.m - blen a.m) 1 (a.e - b.e))) bits up
/-! ### roots -/
def h0e (m R : Nat) : Prop := R * R ≤ m ∧ m < (R + 1) * (R + 1)
theorem h0e.unique {m R S : Nat} (h : h0e m R) (k : h0e m S) : R = S := by
 rcases Nat.lt_trichotomy R S with c | c | c
 · have := Nat.mul_le_mul c c
   have h1 := h.2; have h2 := k.1
   simp only [Nat.succ_eq_add_one] at this
   omega
 · exact c
 · have := Nat.mul_le_mul c c
   have h1 := k.2; have h2 := h.1
   simp only [Nat.succ_eq_add_one] at this
   omega
theorem h0e.half {m R : Nat} (h : h0e (m * 4) R) : h0e m (R / 2) := by
 obtain ⟨h1, h2⟩ := h
 have h3 : R = 2 * (R / 2) + R % 2 := by omega
 have h4 : R % 2 < 2 := Nat.mod_lt _ (by omega)
 generalize R / 2 = u at *
 generalize R % 2 = v at *
 subst h3
 constructor
 · have : (2 * u) * (2 * u) ≤ (2 * u + v) * (2 * u + v) := Nat.mul_le_mul (by omega) (by omega)
   have e : (2 * u) * (2 * u) = 4 * (u * u) := by grind
   omega
 · have : (2 * u + v + 1) * (2 * u + v + 1) ≤ (2 * (u + 1)) * (2 * (u + 1)) := Nat.mul_le_mul (by omega) (by omega)
   have e : (2 * (u + 1)) * (2 * (u + 1)) = 4 * ((u + 1) * (u + 1)) := by grind
   omega
theorem h0e.mono {m m' R R' : Nat} (h : h0e m R) (k : h0e m' R') (hm : m ≤ m') : R ≤ R' := by
 rcases Nat.lt_or_ge R' R with c | c
 · have := Nat.mul_le_mul c c
   have h1 := h.1; have h2 := k.2
   simp only [Nat.succ_eq_add_one] at this
   omega
 · exact c
def lowD (a : Dv) (l : List Dv) : Dv := l.foldl (fun s x => if pCmp x s < 0 then x else s) a
def f0a (a : Dv) (l : List Dv) : Dv := l.foldl (fun s x => if 0 < pCmp x s then x else s) a
theorem a1x (l : List Dv) : ∀ a, lowD a l = a ∨ lowD a l ∈ l := by
 induction l with
 | nil => intro a; exact .inl rfl
 | cons y l ih =>
  intro a
  show lowD (if pCmp y a < 0 then y else a) l = a ∨ lowD (if pCmp y a < 0 then y else a) l ∈ y :: l
  rcases ih (if pCmp y a < 0 then y else a) with h | h
  · rw [h]; split
    · exact .inr (by simp)
    · exact .inl rfl
  · exact .inr (by simp [h])
theorem y0n (l : List Dv) : ∀ a, f0a a l = a ∨ f0a a l ∈ l := by
 induction l with
 | nil => intro a; exact .inl rfl
 | cons y l ih =>
  intro a
  show f0a (if 0 < pCmp y a then y else a) l = a ∨ f0a (if 0 < pCmp y a then y else a) l ∈ y :: l
  rcases ih (if 0 < pCmp y a then y else a) with h | h
  · rw [h]; split
    · exact .inr (by simp)
    · exact .inl rfl
  · exact .inr (by simp [h])
def errB (l h : Dv) : Int := if errD l = 0 then errD h else errD l
def e0s (l h : Dv) : Dv := if errB l h = 0 then l else e0y
def e0t (l h : Dv) : Dv := if errB l h = 0 then h else e0y
theorem a1y {l h : Dv} (k : errB l h = 0) : errD l = 0 ∧ errD h = 0 := by
 unfold errB at k
 by_cases h1 : errD l = 0
 · rw [if_pos h1] at k; exact ⟨h1, k⟩
 · rw [if_neg h1] at k; exact absurd k h1
end Go.Slip
namespace Go.Proofs.YthcoapcffhgckaaDoor
open Go.RowKit Go.Slip
structure Rw where
 g : Bool
 p : OA
 c : Nat
 m : Nat
 e : Int
def Rw.v (a : Rw) : Dv := ⟨a.g, a.m, a.e⟩
structure InW (w : World) (base : Nat) (a : Rw) : Prop where
 ow : Own w base .u32 55 a.p a.c (dig B32 a.m)
 len : (dig B32 a.m).length ≤ 1000000
 lo : -1000000 ≤ a.e
 hi : a.e ≤ 1000000
theorem InW.past {w w' : World} {base : Nat} {a : Rw} (h : InW w base a) (hb : Below w.heap.size w w') : InW w' base a := ⟨h.ow.past hb, h.len, h.lo, h.hi⟩
theorem InW.drew {w : World} {base : Nat} {a : Rw} (h : InW w base a) : InW w.drew base a := ⟨h.ow.drew, h.len, h.lo, h.hi⟩
theorem InW.mono {w : World} {base base' : Nat} {a : Rw} (h : InW w base a) (hb : base' ≤ base) : InW w base' a := ⟨h.ow.mono hb, h.len, h.lo, h.hi⟩
theorem InW.only {w w' : World} {base k : Nat} {a : Rw} (h : InW w base a) (hb : Only k w w') (hne : a.p.isSome = true → blk a.p ≠ k) : InW w' base a := ⟨h.ow.only hb hne, h.len, h.lo, h.hi⟩
def lowR (a : Rw) (l : List Rw) : Rw := l.foldl (fun s x => if pCmp x.v s.v < 0 then x else s) a
def k0p (a : Rw) (l : List Rw) : Rw := l.foldl (fun s x => if 0 < pCmp x.v s.v then x else s) a
theorem c1u (l : List Rw) : ∀ a : Rw, (lowR a l).v = lowD a.v (l.map Rw.v) := by
 induction l with
 | nil => intro a; rfl
 | cons y l ih =>
  intro a
  show (lowR (if pCmp y.v a.v < 0 then y else a) l).v = lowD (if pCmp y.v a.v < 0 then y.v else a.v) (l.map Rw.v)
  rw [ih]; congr 1; split <;> rfl
theorem a1z (l : List Rw) : ∀ a : Rw, (k0p a l).v = f0a a.v (l.map Rw.v) := by
 induction l with
 | nil => intro a; rfl
 | cons y l ih =>
  intro a
  show (k0p (if 0 < pCmp y.v a.v then y else a) l).v = f0a (if 0 < pCmp y.v a.v then y.v else a.v) (l.map Rw.v)
  rw [ih]; congr 1; split <;> rfl
theorem w0c (l : List Rw) (a : Rw) (i : Nat) (h : i < l.length) : lowR a (l.take (i + 1)) = if pCmp l[i].v (lowR a (l.take i)).v < 0 then l[i] else lowR a (l.take i) := by
 unfold lowR
 rw [List.take_succ_eq_append_getElem h, List.foldl_append]
 rfl
theorem s0t (l : List Rw) (a : Rw) (i : Nat) (h : i < l.length) : k0p a (l.take (i + 1)) = if 0 < pCmp l[i].v (k0p a (l.take i)).v then l[i] else k0p a (l.take i) := by
 unfold k0p
 rw [List.take_succ_eq_append_getElem h, List.foldl_append]
 rfl
structure El (w : World) (g o : Nat) (a : Rw) : Prop where
 c0 : w.cell? ⟨g, o, none⟩ = some (.bool a.g)
 c1 : w.cell? ⟨g, o + 1, none⟩ = some (.slice a.p (dig B32 a.m).length a.c)
 c2 : w.cell? ⟨g, o + 2, none⟩ = some (.int .i64 a.e)
 lt : g < w.heap.size
theorem El.e3 {w : World} {g o : Nat} {a : Rw} (h : El w g o a) : w.cell? ⟨g, o, none⟩ = some (.bool a.g) ∧ w.cell? ⟨g, o + 1, none⟩ = some (.slice a.p (dig B32 a.m).length a.c) ∧ w.cell? ⟨g, o + 2, none⟩ = some (.int .i64 a.e) := ⟨h.c0, h.c1, h.c2⟩
theorem El.below {w w' : World} {B g o : Nat} {a : Rw} (h : El w g o a) (hb : Below B w w') (hB : g < B) : El w' g o a :=
 ⟨by rw [Below.cell hb hB]; exact h.c0, by rw [Below.cell hb hB]; exact h.c1, by rw [Below.cell hb hB]; exact h.c2, Nat.lt_of_lt_of_le h.lt hb.size⟩
theorem El.past {w w' : World} {g o : Nat} {a : Rw} (h : El w g o a) (hb : Below w.heap.size w w') : El w' g o a := h.below hb h.lt
theorem El.drew {w : World} {g o : Nat} {a : Rw} (h : El w g o a) : El w.drew g o a := ⟨h.c0, h.c1, h.c2, h.lt⟩
theorem El.laid {w : World} {g o : Nat} {a : Rw} (h : El w g o a) (ob : Obj) : El (w.alloc ob) g o a := h.past (a0l _ _)
theorem El.set {w : World} {g o k i : Nat} {a : Rw} {v : Value} (h : El w g o a) (hne : g < k) : El (w.setCell ⟨k, i, none⟩ v) g o a :=
 h.below ((Below.refl k w).setCell (p := ⟨k, i, none⟩) (Nat.le_refl _) v) hne
def Tb (w : World) (b : Nat) (t : TypeId) : Prop := ∃ vs fz, w.heap[b]? = some (.cells vs t fz)
theorem Tb.lt {w : World} {b : Nat} {t : TypeId} (h : Tb w b t) : b < w.heap.size := by
 obtain ⟨_, _, h⟩ := h
 exact (Array.getElem?_eq_some_iff.1 h).1
theorem Tb.past {w w' : World} {b : Nat} {t : TypeId} (h : Tb w b t) (hb : Below w.heap.size w w') : Tb w' b t := by
 have hl := h.lt
 obtain ⟨vs, fz, h⟩ := h
 exact ⟨vs, fz, (hb.block _ hl).trans h⟩
theorem Tb.drew {w : World} {b : Nat} {t : TypeId} (h : Tb w b t) : Tb w.drew b t := h
theorem Tb.only {w w' : World} {b k : Nat} {t : TypeId} (h : Tb w b t) (hb : Only k w w') (hne : b ≠ k) : Tb w' b t := by
 obtain ⟨vs, fz, h⟩ := h
 exact ⟨vs, fz, (hb.block _ hne).trans h⟩
theorem _root_.Go.Slip.Own.ne_tb {w : World} {base b : Nat} {k : IntKind} {e t : TypeId} {p : OA} {c : Nat} {xs : List Nat} (h : Own w base k e p c xs) (hb : Tb w b t) (hne : e ≠ t) (hp : p.isSome = true) : blk p ≠ b := by
 obtain ⟨vs, fz, hb⟩ := hb
 rcases h.2 with ⟨h1, _⟩ | ⟨g, cap, cur, hv, _, hg, _⟩
 · simp only [Value.slice.injEq] at h1
   rw [h1.1] at hp; simp at hp
 · simp only [Value.slice.injEq] at hv
   obtain ⟨rfl, _, rfl⟩ := hv
   intro h2
   have h3 : g = b := h2
   rw [h3, hb] at hg
   simp only [Option.some.injEq, Obj.cells.injEq] at hg
   exact hne hg.2.1.symm
theorem y0o {P : Program} {c : Code} {Q : Exit → Act → World → Prop} {a : Act} {w : World} {v1 : Array Value} {t1 : TypeId} (h : ∀ W, Below w.heap.size w W → w.heap.size < W.heap.size → Bx W w.heap.size v1 → Tb W w.heap.size t1 → c.wp P Q a W) : c.wp P Q a (w.alloc (.cells v1 t1)) :=
 h _ (a0l _ _) (by simp) (e0w _ _ _) ⟨v1, (0, 0), by show (w.heap.push _)[_]? = _; simp⟩
def h0f (w : World) (base : Nat) (l h : Dv) (en : Ending) (w' : World) : Prop :=
 ∃ p c q d, en = .returned (.agg #[.bool l.neg, .slice p (dig B32 l.m).length c, .int .i64 l.e, .bool h.neg, .slice q (dig B32 h.m).length d, .int .i64 h.e]) ∧
  Own w' base .u32 55 p c (dig B32 l.m) ∧ Own w' base .u32 55 q d (dig B32 h.m) ∧ Below w.heap.size w w'
theorem i0w (x s : Rw) (b b' : Nat) (w : World) (hx : InW w b x) (hs : InW w b' s) :
 Calls Tryd.prog 71 #[.agg #[.bool x.g, .slice x.p (dig B32 x.m).length x.c, .int .i64 x.e], .agg #[.bool s.g, .slice s.p (dig B32 s.m).length s.c, .int .i64 s.e]] w fun en w' => en = .returned (.int .i64 (pCmp x.v s.v)) ∧ Below w.heap.size w w' :=
 y0m x.g s.g x.p s.p _ x.c _ s.c x.e s.e x.m s.m w hx.ow.rd hs.ow.rd rfl rfl hx.len hs.len ⟨hx.lo, hx.hi⟩ ⟨hs.lo, hs.hi⟩
theorem i0x (s : Rw) (base b : Nat) (up : Bool) (w : World) (hs : InW w base s) (hb : b ≤ 1000000) (hT : TabW w) (hbase : base ≤ w.heap.size) :
 Calls Tryd.prog 23 #[.agg #[.bool s.g, .slice s.p (dig B32 s.m).length s.c, .int .i64 s.e], .int .i64 b, .bool up] w (d0i w base (pCut s.v b up)) :=
 r0j s.g s.p _ s.c base s.e s.m b up w hs.ow rfl hs.len ⟨hs.lo, hs.hi⟩ hb hT hbase
theorem s0u (b g c base : Nat) (L : List Rw) (w : World) (n : Nat) (hn : n = L.length) (hL : 2 ≤ L.length) (hc : L.length ≤ c) (hl : L.length ≤ 1000)
 (hcell : ∀ j (h : j < L.length), w.cell? ⟨g, j * 3, none⟩ = some (.bool L[j].g) ∧ w.cell? ⟨g, j * 3 + 1, none⟩ = some (.slice L[j].p (dig B32 L[j].m).length L[j].c) ∧ w.cell? ⟨g, j * 3 + 2, none⟩ = some (.int .i64 L[j].e))
 (hr : ∀ j (h : j < L.length), InW w base L[j]) (hg : g < w.heap.size) (hb : b ≤ 1000000) (hT : TabW w) (hbase : base ≤ w.heap.size) :
 Calls Tryd.prog 55 #[.int .i64 b, .slice (some ⟨g, 0, none⟩) n c] w (h0f w base (pCut (lowR (L[0]'(by omega)) L.tail).v b false) (pCut (k0p (L[0]'(by omega)) L.tail).v b true)) := by
 subst hn
 obtain ⟨a0, hA0⟩ : ∃ a0, a0 = L[0]'(by omega) := ⟨_, rfl⟩
 have HA := lHd hA0
 obtain ⟨k0, k1, k2⟩ := hcell 0 (by omega)
 have hr0 := hr 0 (by omega)
 rw [← hA0] at k0 k1 k2 hr0 ⊢
 simp only [Nat.zero_mul, Nat.zero_add] at k0 k1 k2
 have HC := lHd hcell
 have HR := lHd hr
 clear hcell hr hA0
 have E : El w g 0 a0 := ⟨k0, k1, k2, hg⟩
 clear k0 k1 k2
 go_enter Tryd.func55, Tryd.ntmps55
 go_wp2_with fail
 refine y0o (fun W1 hb1 hz1 R RT => ?_)
 have hs1 := hb1
 replace E := E.past hb1
 go_cut [5, 6] (fun s5 s6 wx => ∃ bl bh : Nat, s5 = .pointer (some ⟨bl, 0, none⟩) ∧ s6 = .pointer (some ⟨bh, 0, none⟩) ∧ bl ≠ bh ∧ W1.heap.size ≤ bl ∧ W1.heap.size ≤ bh ∧ Bx wx bl #[.bool a0.g, .slice a0.p (dig B32 a0.m).length a0.c, .int .i64 a0.e] ∧ Bx wx bh #[.bool a0.g, .slice a0.p (dig B32 a0.m).length a0.c, .int .i64 a0.e] ∧ Below W1.heap.size W1 wx)
 case first =>
  have hgW := hs1.size
  have hL0 : 0 < L.length := by omega
  have hL1 : (0 : Int) < (L.length : Int) := by omega
  go_region_held3 (fun w' => w'.cell? ⟨g, 0, none⟩ = some (.bool a0.g) ∧ w'.cell? ⟨g, 1, none⟩ = some (.slice a0.p (dig B32 a0.m).length a0.c) ∧ w'.cell? ⟨g, 2, none⟩ = some (.int .i64 a0.e))
   (((refine El.e3 (o := 0) ?_); (repeat (first | with_reducible exact E | with_reducible refine El.drew ?_ | with_reducible refine El.laid ?_ _ | (with_reducible refine El.set ?_ (by first | omega | (simp; omega)))))))
   (fail)
  all_goals (go_wp2_with fail)
  all_goals go_meet
  · exact ⟨_, _, rfl, rfl, by omega, by omega, by omega, ((e0w W1 _ _).laid _).drew, (by have h := (e0w (W1.alloc (.cells #[.bool a0.g, .slice a0.p (dig B32 a0.m).length a0.c, .int .i64 a0.e] 61)) #[.bool a0.g, .slice a0.p (dig B32 a0.m).length a0.c, .int .i64 a0.e] 61).drew; rw [World.size_alloc] at h; exact h), (f0t W1 _ _).drew⟩
  · exact ⟨_, _, rfl, rfl, by omega, by omega, by omega, (by have h := (e0w (W1.alloc (.cells #[.bool a0.g, .slice a0.p (dig B32 a0.m).length a0.c, .int .i64 a0.e] 61)) #[.bool a0.g, .slice a0.p (dig B32 a0.m).length a0.c, .int .i64 a0.e] 61).drew; rw [World.size_alloc] at h; exact h), ((e0w W1 _ _).laid _).drew, (f0t W1 _ _).drew⟩
 case rest =>
  obtain ⟨bl, bh, rfl, rfl, hne, hbl, hbh, LO, HI, hbc⟩ := hcut
  have hs2 := hs1.trans (hbc.mono hs1.size)
  replace R := R.past hbc
  replace RT := RT.past hbc
  have hzW := hs1.size
  have c1 : (1 : Int) ≤ (L.length : Int) := by omega
  have c2 : (L.length : Int) ≤ (c : Int) := by omega
  have c3 : (c == 1) = false := bFn (by omega)
  clear hbc E
  go_wp2_with fail
  obtain ⟨N, hN⟩ : ∃ N, N = L.length - 1 := ⟨_, rfl⟩
  have HT0 : Hid (L.tail.length = N) := by rw [List.length_tail, hN]; exact rfl
  rw [← hN]
  have hN1 : N + 1 = L.length := by omega
  have HN := lHd hN
  clear hN
  clear c1 c2 c3
  generalize c - 1 = c' at *
  go_loopg [18] N (fun gk iv wr => ∃ (i : Nat) (s t : Rw), iv = .int .i64 i ∧ gk + i = N ∧ Below w.heap.size w wr ∧ Bx wr bl #[.bool s.g, .slice s.p (dig B32 s.m).length s.c, .int .i64 s.e] ∧ Bx wr bh #[.bool t.g, .slice t.p (dig B32 t.m).length t.c, .int .i64 t.e] ∧ Bx wr w.heap.size #[.bool false, .slice none 0 0, .int .i64 0, .bool false, .slice none 0 0, .int .i64 0] ∧ InW w base s ∧ InW w base t ∧ Tb wr w.heap.size 73 ∧ Hid (s = lowR a0 (L.tail.take i) ∧ t = k0p a0 (L.tail.take i)))
  case atStart => exact ⟨0, a0, a0, rfl, by omega, hs2, LO, HI, R, hr0, hr0, RT, ⟨rfl, rfl⟩⟩
  case round =>
   obtain ⟨i, s, t, rfl, hgk, hb2, LO, HI, R, hs, ht, RT, HF⟩ := hrel
   by_cases hlt : i < N
   · have hi1 : i + 1 < L.length := by omega
     obtain ⟨k0, k1, k2⟩ := HC.out (i + 1) hi1
     have hx := HR.out (i + 1) hi1
     have HLi : Hid (L.tail[i]'(by rw [List.length_tail]; omega) = L[i + 1]) := List.getElem_tail _
     obtain ⟨x, hX⟩ : ∃ x, x = L[i + 1] := ⟨_, rfl⟩
     rw [← hX] at k0 k1 k2 hx HLi
     have HLT : Hid (lowR a0 (L.tail.take (i + 1)) = if pCmp x.v s.v < 0 then x else s) := by
      have := w0c L.tail a0 i (by rw [List.length_tail]; omega)
      rw [HLi.out, ← HF.out.1] at this; exact this
     have HHT : Hid (k0p a0 (L.tail.take (i + 1)) = if 0 < pCmp x.v t.v then x else t) := by
      have := s0t L.tail a0 i (by rw [List.length_tail]; omega)
      rw [HLi.out, ← HF.out.2] at this; exact this
     rw [show (i + 1) * 3 = 3 + i * 3 by omega] at k0 k1 k2
     have E : El w g (3 + i * 3) x := ⟨k0, k1, k2, hg⟩
     replace E := E.past hb2
     obtain ⟨k0, k1, k2⟩ := E.e3
     have hhx := hx.past hb2
     have hhs := hs.past hb2
     have hht := ht.past hb2
     have hX0 := lHd hX
     clear hX
     go_upto_region 5 with (fail)
     have hbl1 := LO.lt
     have hbh1 := HI.lt
     have hRl := R.lt
     refine c0l (fun W4 hb4 hz4 X => ?_)
     replace LO := LO.past hb4
     replace HI := HI.past hb4
     replace R := R.past hb4
     replace hhx := hhx.past hb4
     replace hhs := hhs.past hb4
     replace hht := hht.past hb4
     replace RT := RT.past hb4
     have hs4 := hb2.trans (hb4.mono hb2.size)
     have hXl := X.lt
     obtain ⟨X_0, X_1, X_2⟩ := X.e3
     obtain ⟨LO_0, LO_1, LO_2⟩ := LO.e3
     go_wp2_with fail
     clear X_0 X_1 X_2 LO_0 LO_1 LO_2
     ((with_reducible refine ((i0w x s _ _ _ hhx hhs)).mono ?_))
     rintro e5 w5 ⟨rfl, hb5⟩
     replace LO := LO.past hb5
     replace HI := HI.past hb5
     replace R := R.past hb5
     replace X := X.past hb5
     replace hhx := hhx.past hb5
     replace hhs := hhs.past hb5
     replace hht := hht.past hb5
     replace RT := RT.past hb5
     have hs5 := hs4.trans (hb5.mono hs4.size)
     obtain ⟨C, hC0⟩ : ∃ C, pCmp x.v s.v = C := ⟨_, rfl⟩
     rw [hC0] at HLT ⊢
     clear hC0
     obtain ⟨D, hD0⟩ : ∃ D, pCmp x.v t.v = D := ⟨_, rfl⟩
     rw [hD0] at HHT
     have HDD := lHd hD0
     clear hD0
     by_cases hC : C < 0
     · have t1 : decide (C < 0) = true := dTr hC
       rw [if_pos hC] at HLT
       obtain ⟨X_0, X_1, X_2⟩ := X.e3
       obtain ⟨LO_0, LO_1, LO_2⟩ := LO.e3
       have LO_f0 := LO.f 0
       have LO_f1 := LO.f 1
       have LO_f2 := LO.f 2
       go_upto_region 7 with (fail)
       clear X_0 X_1 X_2 LO_0 LO_1 LO_2 LO_f0 LO_f1 LO_f2
       refine q0a LO (fun W6 hO6 LO => ?_)
       replace X := X.only hO6 (by omega)
       replace HI := HI.only hO6 (by omega)
       replace R := R.only hO6 (by omega)
       replace RT := RT.only hO6 (by omega)
       replace hhx := hhx.only hO6 (fun h => by have := (hx.ow.blk_lt h).2; omega)
       replace hht := hht.only hO6 (fun h => by have := (ht.ow.blk_lt h).2; omega)
       have hs6 := hs5.trans (hO6.below (B := w.heap.size) (by omega))
       clear hs5 hO6 hb5
       obtain ⟨X_0, X_1, X_2⟩ := X.e3
       obtain ⟨HI_0, HI_1, HI_2⟩ := HI.e3
       go_wp2_with fail
       clear X_0 X_1 X_2 HI_0 HI_1 HI_2
       ((with_reducible refine ((i0w x t _ _ _ hhx hht)).mono ?_))
       rintro e7 w7 ⟨rfl, hb7⟩
       replace X := X.past hb7
       replace LO := LO.past hb7
       replace HI := HI.past hb7
       replace R := R.past hb7
       replace hhx := hhx.past hb7
       replace hht := hht.past hb7
       replace RT := RT.past hb7
       have hs7 := hs6.trans (hb7.mono hs6.size)
       rw [HDD.out]
       by_cases hD : 0 < D
       · have t2 : decide (0 < D) = true := dTr hD
         rw [if_pos hD] at HHT
         obtain ⟨X_0, X_1, X_2⟩ := X.e3
         obtain ⟨HI_0, HI_1, HI_2⟩ := HI.e3
         have HI_f0 := HI.f 0
         have HI_f1 := HI.f 1
         have HI_f2 := HI.f 2
         go_upto_region 9 with (fail)
         clear X_0 X_1 X_2 HI_0 HI_1 HI_2 HI_f0 HI_f1 HI_f2
         refine q0a HI (fun W8 hO8 HI => ?_)
         replace LO := LO.only hO8 (by omega)
         replace R := R.only hO8 (by omega)
         replace RT := RT.only hO8 (by omega)
         have hs8 := hs7.trans (hO8.below (B := w.heap.size) (by omega))
         clear hs7 hO8 hb7 t1 t2
         go_wp2_with fail
         go_roundg (gk - 1)
         case measure => omega
         case rel => exact ⟨i + 1, x, x, by go_num, by omega, hs8, LO, HI, R, hx, hx, RT, ⟨HLT.out.symm, HHT.out.symm⟩⟩
       · have t2 : decide (0 < D) = false := dFa hD
         rw [if_neg hD] at HHT
         go_upto_region 9 with (fail)
         clear hb7 t1 t2
         go_wp2_with fail
         go_roundg (gk - 1)
         case measure => omega
         case rel => exact ⟨i + 1, x, t, by go_num, by omega, hs7, LO, HI, R, hx, ht, RT, ⟨HLT.out.symm, HHT.out.symm⟩⟩
     · have t1 : decide (C < 0) = false := dFa hC
       rw [if_neg hC] at HLT
       go_upto_region 7 with (fail)
       have hs6 := hs5
       obtain ⟨W6, hW6⟩ : ∃ W6, W6 = w5 := ⟨_, rfl⟩
       subst hW6
       clear hs5
       obtain ⟨X_0, X_1, X_2⟩ := X.e3
       obtain ⟨HI_0, HI_1, HI_2⟩ := HI.e3
       go_wp2_with fail
       clear X_0 X_1 X_2 HI_0 HI_1 HI_2
       ((with_reducible refine ((i0w x t _ _ _ hhx hht)).mono ?_))
       rintro e7 w7 ⟨rfl, hb7⟩
       replace X := X.past hb7
       replace LO := LO.past hb7
       replace HI := HI.past hb7
       replace R := R.past hb7
       replace hhx := hhx.past hb7
       replace hht := hht.past hb7
       replace RT := RT.past hb7
       have hs7 := hs6.trans (hb7.mono hs6.size)
       rw [HDD.out]
       by_cases hD : 0 < D
       · have t2 : decide (0 < D) = true := dTr hD
         rw [if_pos hD] at HHT
         obtain ⟨X_0, X_1, X_2⟩ := X.e3
         obtain ⟨HI_0, HI_1, HI_2⟩ := HI.e3
         have HI_f0 := HI.f 0
         have HI_f1 := HI.f 1
         have HI_f2 := HI.f 2
         go_upto_region 9 with (fail)
         clear X_0 X_1 X_2 HI_0 HI_1 HI_2 HI_f0 HI_f1 HI_f2
         refine q0a HI (fun W8 hO8 HI => ?_)
         replace LO := LO.only hO8 (by omega)
         replace R := R.only hO8 (by omega)
         replace RT := RT.only hO8 (by omega)
         have hs8 := hs7.trans (hO8.below (B := w.heap.size) (by omega))
         clear hs7 hO8 hb7 t1 t2
         go_wp2_with fail
         go_roundg (gk - 1)
         case measure => omega
         case rel => exact ⟨i + 1, s, x, by go_num, by omega, hs8, LO, HI, R, hs, hx, RT, ⟨HLT.out.symm, HHT.out.symm⟩⟩
       · have t2 : decide (0 < D) = false := dFa hD
         rw [if_neg hD] at HHT
         go_upto_region 9 with (fail)
         clear hb7 t1 t2
         go_wp2_with fail
         go_roundg (gk - 1)
         case measure => omega
         case rel => exact ⟨i + 1, s, t, by go_num, by omega, hs7, LO, HI, R, hs, ht, RT, ⟨HLT.out.symm, HHT.out.symm⟩⟩
   · have hiN : i = N := by omega
     have hHF := HF.out
     rw [show L.tail.take i = L.tail by rw [hiN, ← HT0.out, List.take_length]] at hHF
     have HSL := lHd (congrArg (fun z => pCut (Rw.v z) b false) hHF.1)
     have HSH := lHd (congrArg (fun z => pCut (Rw.v z) b true) hHF.2)
     clear hHF hiN
     have hhs := hs.past hb2
     have hht := ht.past hb2
     have HCL := fun W h1 h2 h3 => lHd (i0x s base b false W h1 hb h2 h3)
     have HCH := fun W h1 h2 h3 => lHd (i0x t base b true W h1 hb h2 h3)
     obtain ⟨dl, hdl⟩ : ∃ dl, pCut s.v b false = dl := ⟨_, rfl⟩
     obtain ⟨dh, hdh⟩ : ∃ dh, pCut t.v b true = dh := ⟨_, rfl⟩
     rw [hdl] at HCL
     rw [hdh] at HCH
     have HDL := lHd (HSL.out.symm.trans hdl)
     have HDH := lHd (HSH.out.symm.trans hdh)
     clear hdl hdh HSL HSH
     have hTr := hT.past hb2
     have hbW : base ≤ wr.drew.heap.size := Nat.le_trans hbase hb2.size
     have hzW2 := hb2.size
     have hzd : wr.drew.heap.size = wr.heap.size := rfl
     have HZD := lHd hzd
     clear hzd
     have hsl := fun h => (hs.ow.blk_lt h).2
     have htl := fun h => (ht.ow.blk_lt h).2
     go_upto_region 10 with (fail)
     go_region_held3 (fun w' => (w'.cell? ⟨bl, 0, none⟩ = some (.bool s.g) ∧ w'.cell? ⟨bl, 1, none⟩ = some (.slice s.p (dig B32 s.m).length s.c) ∧ w'.cell? ⟨bl, 2, none⟩ = some (.int .i64 s.e)) ∧
         (w'.cell? ⟨bh, 0, none⟩ = some (.bool t.g) ∧ w'.cell? ⟨bh, 1, none⟩ = some (.slice t.p (dig B32 t.m).length t.c) ∧ w'.cell? ⟨bh, 2, none⟩ = some (.int .i64 t.e)))
      (first
        | with_reducible exact ⟨LO.e3, HI.e3⟩
        | with_reducible exact ⟨LO.drew.e3, HI.drew.e3⟩
        | with_reducible exact ⟨(LO.drew.past hbx).e3, (HI.drew.past hbx).e3⟩
        | with_reducible exact ⟨(LO.drew.past hby).e3, (HI.drew.past hby).e3⟩
        | with_reducible exact ⟨((LO.drew.past hbx).past hby).e3, ((HI.drew.past hbx).past hby).e3⟩
        | with_reducible exact ⟨((LO.drew.past hby).past hbx).e3, ((HI.drew.past hby).past hbx).e3⟩
        | with_reducible exact ⟨(((LO.drew.past hbx).past hby).only (e0z _ _ _ _ _ _ _ _) (by omega)).e3, (((HI.drew.past hbx).past hby).only (e0z _ _ _ _ _ _ _ _) (by omega)).e3⟩
        | with_reducible exact ⟨(((LO.drew.past hby).past hbx).only (e0z _ _ _ _ _ _ _ _) (by omega)).e3, (((HI.drew.past hby).past hbx).only (e0z _ _ _ _ _ _ _ _) (by omega)).e3⟩)
      (first
        | (go_at_call_of 23 (Value.agg #[.bool s.g, .slice s.p (dig B32 s.m).length s.c, .int .i64 s.e]); (first | with_reducible refine (HCL _ hhs.drew hTr.drew hbW).out.mono ?_ | with_reducible refine (HCL _ (hhs.drew.past hby) (hTr.drew.past hby) (Nat.le_trans hbW hby.size)).out.mono ?_); rintro ex wx ⟨px, cx, rfl, hox, hbx⟩; (first | (have RR := (R.drew.past hby).past hbx; obtain ⟨R_0, R_1, R_2, R_3, R_4, R_5⟩ := RR.e6; have R_f0 := RR.f 0; have R_f1 := RR.f 1; have R_f2 := RR.f 2; have R_f3 := RR.f 3; have R_f4 := RR.f 4; have R_f5 := RR.f 5) | skip))
        | (go_at_call_of 23 (Value.agg #[.bool t.g, .slice t.p (dig B32 t.m).length t.c, .int .i64 t.e]); (first | with_reducible refine (HCH _ hht.drew hTr.drew hbW).out.mono ?_ | with_reducible refine (HCH _ (hht.drew.past hbx) (hTr.drew.past hbx) (Nat.le_trans hbW hbx.size)).out.mono ?_); rintro ey wy ⟨py, cy, rfl, hoy, hby⟩; (first | (have RR := (R.drew.past hbx).past hby; obtain ⟨R_0, R_1, R_2, R_3, R_4, R_5⟩ := RR.e6; have R_f0 := RR.f 0; have R_f1 := RR.f 1; have R_f2 := RR.f 2; have R_f3 := RR.f 3; have R_f4 := RR.f 4; have R_f5 := RR.f 5) | skip)))
     all_goals (go_wp2_with fail)
     all_goals (refine bodyPost_ret (v := .agg #[.bool dl.neg, .slice px (dig B32 dl.m).length cx, .int .i64 dl.e, .bool dh.neg, .slice py (dig B32 dh.m).length cy, .int .i64 dh.e]) (by simp [results, Tryd.results55, go_sem, R_0, R_1, R_2, R_3, R_4, R_5]) rfl ?_)
     all_goals rw [show pCut (lowR a0 L.tail).v b false = dl from HDL.out, show pCut (k0p a0 L.tail).v b true = dh from HDH.out]
     · have ho1 := hox.past hby
       have hTT := (RT.drew.past hbx).past hby
       have hO := e0z wy w.heap.size (.bool dl.neg) (.slice px (dig B32 dl.m).length cx) (.int .i64 dl.e) (.bool dh.neg) (.slice py (dig B32 dh.m).length cy) (.int .i64 dh.e)
       exact ⟨px, cx, py, cy, rfl, ho1.only hO (ho1.ne_tb hTT (by decide)), hoy.only hO (hoy.ne_tb hTT (by decide)),
         ((hb2.drew.trans (hbx.mono hzW2)).trans (hby.mono (Nat.le_trans hzW2 hbx.size))).trans (hO.below (Nat.le_refl _))⟩
theorem h0g (a : Din) (w : World) (ha : InD w a) (he : a0w a = 0) (hT : TabW w) :
 Calls Tryd.prog 22 #[.agg #[.bool a.g, .slice a.p a.xs.length a.c, .int .i64 a.e]] w (d0i w w.heap.size (dyV a)) := by
 obtain ⟨m, hx, hv, hl, e1, e2⟩ := ha.ok he
 have h := j0j a.g a.p a.xs.length a.c a.e m w (by rw [← hx]; exact ha.rd) (by rw [hx]) ha.cap (by omega) ⟨by omega, by omega⟩ hT
 rw [show dyV a = bare ⟨a.g, m, a.e⟩ by unfold dyV; rw [hv]]
 exact h
theorem f0k {w wk : World} {base base' b : Nat} {l h : Dv} {p q : OA} {c d : Nat} {v0 v1 v2 v3 v4 v5 : Value} (hs : Below w.heap.size w wk) (ho : Own wk base' .u32 55 p c (dig B32 l.m)) (hq : Own wk base' .u32 55 q d (dig B32 h.m))
 (hb : base ≤ base') (hB : w.heap.size ≤ b) (hne : p.isSome = true → blk p ≠ b) (hne2 : q.isSome = true → blk q ≠ b) :
 h0f w base l h (.returned (.agg #[.bool l.neg, .slice p (dig B32 l.m).length c, .int .i64 l.e, .bool h.neg, .slice q (dig B32 h.m).length d, .int .i64 h.e]))
  ((((((wk.setCell ⟨b, 0, none⟩ v0).setCell ⟨b, 1, none⟩ v1).setCell ⟨b, 2, none⟩ v2).setCell ⟨b, 3, none⟩ v3).setCell ⟨b, 4, none⟩ v4).setCell ⟨b, 5, none⟩ v5) :=
 have hO := e0z wk b v0 v1 v2 v3 v4 v5
 ⟨p, c, q, d, rfl, (ho.mono hb).only hO hne, (hq.mono hb).only hO hne2, hs.trans (hO.below hB)⟩
theorem f0w (a b : Din) (w : World) (ha : InD w a) (hb : InD w b) (hea : a0w a = 0) (heb : a0w b = 0) (hT : TabW w) :
 Calls Tryd.prog 37 #[.agg #[.bool a.g, .slice a.p a.xs.length a.c, .int .i64 a.e, .bool b.g, .slice b.p b.xs.length b.c, .int .i64 b.e]] w (h0f w w.heap.size (dyV a) (dyV b)) := by
 have HA := fun W h1 h2 => lHd (h0g a W h1 hea h2)
 have HB := fun W h1 h2 => lHd (h0g b W h1 heb h2)
 generalize dyV a = va at *
 generalize dyV b = vb at *
 clear hea heb
 go_enter Tryd.func37, Tryd.ntmps37
 go_wp2_with fail
 refine p0l (fun W1 hb1 hz1 A R => ?_)
 replace ha := ha.past hb1
 replace hb := hb.past hb1
 replace hT := hT.past hb1
 have hs1 := hb1
 have hRl := R.lt
 have hzd : W1.drew.heap.size = W1.heap.size := rfl
 have HZD := lHd hzd
 clear hzd
 go_region_held3 (fun w' => w'.cell? ⟨w.heap.size, 0, none⟩ = some (.bool a.g) ∧ w'.cell? ⟨w.heap.size, 1, none⟩ = some (.slice a.p a.xs.length a.c) ∧ w'.cell? ⟨w.heap.size, 2, none⟩ = some (.int .i64 a.e) ∧ w'.cell? ⟨w.heap.size, 3, none⟩ = some (.bool b.g) ∧ w'.cell? ⟨w.heap.size, 4, none⟩ = some (.slice b.p b.xs.length b.c) ∧ w'.cell? ⟨w.heap.size, 5, none⟩ = some (.int .i64 b.e))
  (first
    | with_reducible exact A.e6
    | with_reducible exact A.drew.e6
    | with_reducible exact (A.drew.past hbx).e6
    | with_reducible exact ((A.drew.past hbx).past hby).e6
    | with_reducible exact (((A.drew.past hbx).past hby).only (e0z _ _ _ _ _ _ _ _) (by omega)).e6)
  (first
    | (go_at_call_of 22 (Value.agg #[.bool a.g, .slice a.p a.xs.length a.c, .int .i64 a.e]); ((with_reducible refine (HA _ ha.drew hT.drew).out.mono ?_)); rintro ex wx ⟨px, cx, rfl, hox, hbx⟩)
    | (go_at_call_of 22 (Value.agg #[.bool b.g, .slice b.p b.xs.length b.c, .int .i64 b.e]); ((with_reducible refine (HB _ (hb.drew.past hbx) (hT.drew.past hbx)).out.mono ?_)); rintro ey wy ⟨py, cy, rfl, hoy, hby⟩; (have RR := (R.drew.past hbx).past hby); obtain ⟨R_0, R_1, R_2, R_3, R_4, R_5⟩ := RR.e6; (have R_f0 := RR.f 0); (have R_f1 := RR.f 1); (have R_f2 := RR.f 2); (have R_f3 := RR.f 3); (have R_f4 := RR.f 4); have R_f5 := RR.f 5))
 all_goals (go_wp2_with fail)
 all_goals (refine bodyPost_ret (v := .agg #[.bool va.neg, .slice px (dig B32 va.m).length cx, .int .i64 va.e, .bool vb.neg, .slice py (dig B32 vb.m).length cy, .int .i64 vb.e]) (by simp [results, Tryd.results37, go_sem, R_0, R_1, R_2, R_3, R_4, R_5]) rfl ?_)
 have hzd := HZD.out
 have hz1 := hs1.size
 have hzx := hbx.size
 exact f0k ((hs1.drew.trans (hbx.mono hs1.size)).trans (hby.mono (Nat.le_trans hs1.size hbx.size))) (hox.past hby) (hoy.mono hbx.size) (by omega) (by omega) (fun h => by have := ((hox.past hby).blk_lt h).1; omega) (fun h => by have := (hoy.blk_lt h).1; omega)
theorem j0x (x : Rw) (w : World) :
 Calls Tryd.prog 38 #[.agg #[.bool x.g, .slice x.p (dig B32 x.m).length x.c, .int .i64 x.e]] w fun en w' => en = .returned (.int .i64 (a0k x.v)) ∧ Below w.heap.size w w' :=
 c0e x.g x.p _ x.c x.e x.m w rfl
theorem h0y {w wk : World} {base b : Nat} {d : Dv} {p : OA} {c : Nat} {v0 v1 v2 : Value} (hs : Below w.heap.size w wk) (ho : Own wk base .u32 55 p c (dig B32 d.m)) (hB : w.heap.size ≤ b)
 (hne : p.isSome = true → blk p ≠ b) :
 d0i w base d (.returned (.agg #[.bool d.neg, .slice p (dig B32 d.m).length c, .int .i64 d.e])) (((wk.setCell ⟨b, 0, none⟩ v0).setCell ⟨b, 1, none⟩ v1).setCell ⟨b, 2, none⟩ v2) :=
 have hO := b1y wk b v0 v1 v2
 ⟨p, c, rfl, ho.only hO hne, hs.trans (hO.below hB)⟩
theorem b1a {x : Rw} : a0k x.v = 0 ↔ x.m = 0 := by
 unfold a0k Rw.v
 simp only
 split
 · simp [*]
 · split <;> simp [*]
theorem y0p (p : OA) (c : Nat) (a : Nat) (w : World) (hp : Rd w .u32 p (dig B32 a)) (hl : (dig B32 a).length ≤ 1000000000) :
 Calls Tryd.prog 41 #[.slice p (dig B32 a).length c, .int .i64 1] w (g0i w .u32 55 (dig B32 (a * 2 ^ 1))) := d0h p _ c a 1 w hp rfl hl (by omega)
theorem b1b (w : World) : Calls Tryd.prog 48 #[.int .i64 1] w (g0i w .u32 55 (dig B32 1)) := v0q 1 w (by omega)
theorem r0k {g : Bool} {m : Nat} {e : Int} (h : 0 < m) : bare ⟨g, m, e⟩ = ⟨g, (bare ⟨false, m, e⟩).m, (bare ⟨false, m, e⟩).e⟩ := by
 rw [i0s h, i0s h]
theorem _root_.Go.Slip.Bx.put0of3 {w : World} {b : Nat} {v0 v1 v2 : Value} (h : Bx w b #[v0, v1, v2]) (u : Value) : Bx (w.setCell ⟨b, 0, none⟩ u) b #[u, v1, v2] := h.set 0 u
theorem l0i {P : Program} {c : Code} {Q : Exit → Act → World → Prop} {a : Act} {w : World} {b : Nat} {v0 v1 v2 u : Value} (hX : Bx w b #[v0, v1, v2]) (h : ∀ W, Only b w W → Bx W b #[u, v1, v2] → c.wp P Q a W) : c.wp P Q a (w.setCell ⟨b, 0, none⟩ u) :=
 h _ (f0s _ _ _ _) (hX.put0of3 u)
theorem y0q (x y : Rw) (b base base' : Nat) (up : Bool) (w : World) (hx : InW w base x) (hy : InW w base' y) (hy0 : 0 < y.m) (hb : b ≤ 5000) (hxl : (dig B32 x.m).length ≤ 4000) (hyl : (dig B32 y.m).length ≤ 4000) (hxe : -200000 ≤ x.e ∧ x.e ≤ 200000) (hye : -200000 ≤ y.e ∧ y.e ≤ 200000) (hT : TabW w) (hbase : base ≤ w.heap.size) :
 Calls Tryd.prog 62 #[.agg #[.bool x.g, .slice x.p (dig B32 x.m).length x.c, .int .i64 x.e], .agg #[.bool y.g, .slice y.p (dig B32 y.m).length y.c, .int .i64 y.e], .int .i64 b, .bool up] w (d0i w base (a0t x.v y.v b up)) := by
 have HS := fun W => lHd (j0x x W)
 have HJ := lHd (show a0t x.v y.v b up = if x.m = 0 then x.v else pCut (bare (h0x (xor x.g y.g) x.m y.m (b + 2 + blen y.m - blen x.m) 1 (x.e - y.e))) b up from rfl)
 have hS0 := b1a (x := x)
 have hSb := n0a x.v
 obtain ⟨S, hS⟩ : ∃ S, a0k x.v = S := ⟨_, rfl⟩
 rw [hS] at HS hS0 hSb
 clear hS
 by_cases h0 : x.m = 0
 · have t1 : (S == 0) = true := by simpa using hS0.2 h0
   have HK := lHd (HJ.out.trans (if_pos h0))
   clear HJ hS0 h0
   go_enter Tryd.func62, Tryd.ntmps62
   go_wp2_with fail
   refine l0a (fun W1 hb1 hz1 A B R => ?_)
   have hs1 := hb1
   obtain ⟨A_0, A_1, A_2⟩ := A.e3
   go_wp2_with fail
   clear A_0 A_1 A_2
   ((with_reducible refine ((HS _).out).mono ?_))
   rintro e2 w2 ⟨rfl, hb2⟩
   replace A := A.past hb2
   replace B := B.past hb2
   replace R := R.past hb2
   have hs2 := hs1.trans (hb2.mono hs1.size)
   have hxl := fun h => (hx.ow.blk_lt h).2
   obtain ⟨A_0, A_1, A_2⟩ := A.e3
   obtain ⟨R_0, R_1, R_2⟩ := R.e3
   have R_f0 := R.f 0
   have R_f1 := R.f 1
   have R_f2 := R.f 2
   go_wp2_with fail
   clear A_0 A_1 A_2 R_0 R_1 R_2 R_f0 R_f1 R_f2
   obtain ⟨R_0, R_1, R_2⟩ := R.e3
   refine bodyPost_ret (v := .agg #[.bool x.g, .slice x.p (dig B32 x.m).length x.c, .int .i64 x.e]) (by simp [results, Tryd.results62, go_sem, R_0, R_1, R_2]) rfl ?_
   rw [HK.out]
   exact h0y (d := x.v) hs2 (hx.ow.past hs2) (by omega) (fun h => by have := hxl h; omega)
 · have t1 : (S == 0) = false := bFn (fun h => h0 (hS0.1 h))
   have HK := lHd (HJ.out.trans (if_neg h0))
   have hx0 : 0 < x.m := by omega
   clear HJ hS0 h0
   have hLX := b0e x.m
   have hLY := b0e y.m
   have HLX := fun W h => lHd (e0d x.p _ x.c x.m W h rfl (by omega))
   have HLY := fun W h => lHd (e0d y.p _ y.c y.m W h rfl (by omega))
   obtain ⟨N, hN⟩ : ∃ N, N = b + 2 + blen y.m - blen x.m := ⟨_, rfl⟩
   rw [← hN] at HK
   replace HK := lHd (HK.out.trans (show pCut (bare (h0x (xor x.g y.g) x.m y.m N 1 (x.e - y.e))) b up = pCut (bare ⟨xor x.g y.g, 2 ^ 1 * (x.m * 2 ^ N / y.m) + (if x.m * 2 ^ N % y.m ≠ 0 then 1 else 0), x.e - y.e - (N : Int) - 1⟩) b up from rfl))
   have HQB := lHd (w0b (X := x.m) (Y := y.m) (n := N) (b := b) hx0 hy0 (by omega))
   generalize blen x.m = LX at *
   generalize blen y.m = LY at *
   have HSX := fun W h => lHd (d0h x.p _ x.c x.m N W h rfl (by omega) (by omega))
   have lXN : (dig B32 (x.m * 2 ^ N)).length ≤ 8300 := by have := e0e x.m N; omega
   generalize x.m * 2 ^ N = XN at *
   go_enter Tryd.func62, Tryd.ntmps62
   go_wp2_with fail
   refine l0a (fun W1 hb1 hz1 A B R => ?_)
   replace hx := hx.past hb1
   replace hy := hy.past hb1
   replace hT := hT.past hb1
   have hs1 := hb1
   obtain ⟨A_0, A_1, A_2⟩ := A.e3
   go_wp2_with fail
   clear A_0 A_1 A_2
   ((with_reducible refine ((HS _).out).mono ?_))
   rintro e2 w2 ⟨rfl, hb2⟩
   replace A := A.past hb2
   replace B := B.past hb2
   replace R := R.past hb2
   replace hx := hx.past hb2
   replace hy := hy.past hb2
   replace hT := hT.past hb2
   have hs2 := hs1.trans (hb2.mono hs1.size)
   obtain ⟨A_0, A_1, A_2⟩ := A.e3
   obtain ⟨B_0, B_1, B_2⟩ := B.e3
   go_upto_region 4 with (fail)
   clear A_0 A_1 A_2 B_0 B_1 B_2
   have e1 : IntKind.i64.wrap ((b : Int) + 2) = (b : Int) + 2 := iwo
   have e2 : IntKind.i64.wrap ((b : Int) + 2 + (LY : Int)) = (b : Int) + 2 + (LY : Int) := iwo
   have e3 : IntKind.i64.wrap ((b : Int) + 2 + (LY : Int) - (LX : Int)) = (b : Int) + 2 + (LY : Int) - (LX : Int) := iwo
   have m1 : max 0 ((b : Int) + 2 + (LY : Int) - (LX : Int)) = (N : Int) := by omega
   have HN := lHd hN
   have hN2 : N ≤ 134000 := by omega
   clear hN
   go_region_held3 (fun w' => (w'.cell? ⟨w.heap.size, 0, none⟩ = some (.bool x.g) ∧ w'.cell? ⟨w.heap.size, 1, none⟩ = some (.slice x.p (dig B32 x.m).length x.c) ∧ w'.cell? ⟨w.heap.size, 2, none⟩ = some (.int .i64 x.e)) ∧
       (w'.cell? ⟨w.heap.size + 1, 0, none⟩ = some (.bool y.g) ∧ w'.cell? ⟨w.heap.size + 1, 1, none⟩ = some (.slice y.p (dig B32 y.m).length y.c) ∧ w'.cell? ⟨w.heap.size + 1, 2, none⟩ = some (.int .i64 y.e)))
    (first
      | with_reducible exact ⟨A.e3, B.e3⟩
      | with_reducible exact ⟨A.drew.e3, B.drew.e3⟩)
    (first
      | (go_at_call_of 46 (Value.slice x.p (dig B32 x.m).length x.c); ((with_reducible refine (HLX _ hx.ow.rd.drew).out.mono ?_)); rintro ex wx ⟨rfl, rfl⟩)
      | (go_at_call_of 46 (Value.slice y.p (dig B32 y.m).length y.c); ((with_reducible refine (HLY _ hy.ow.rd.drew).out.mono ?_)); rintro ey wy ⟨rfl, rfl⟩))
   clear e1 e2 e3 m1
   go_wp2_with fail
   have hs3 := hs2.drew
   replace A := A.drew
   replace B := B.drew
   replace R := R.drew
   replace hx := hx.drew
   replace hy := hy.drew
   replace hT := hT.drew
   generalize w2.drew = W3 at *
   have hzd : W3.drew.heap.size = W3.heap.size := rfl
   have HZD := lHd hzd
   clear hzd
   obtain ⟨Q, hQ⟩ : ∃ Q, Q = XN / y.m := ⟨_, rfl⟩
   obtain ⟨T, hT0⟩ : ∃ T, T = XN % y.m := ⟨_, rfl⟩
   have HDV := fun W p c h1 q d h2 => lHd (g0m p q _ _ c d XN y.m W h1 h2 rfl rfl (by omega) (by omega) hy0)
   have lQ : (dig B32 Q).length ≤ 8300 := by rw [hQ]; exact Nat.le_trans (a0e a0a (Nat.div_le_self _ _)) lXN
   rw [← hQ] at HDV HQB HK
   rw [← hT0] at HDV HK
   have HQ := lHd hQ
   have HT := lHd hT0
   clear hQ hT0
   go_region_held3 (fun w' => (w'.cell? ⟨w.heap.size, 0, none⟩ = some (.bool x.g) ∧ w'.cell? ⟨w.heap.size, 1, none⟩ = some (.slice x.p (dig B32 x.m).length x.c) ∧ w'.cell? ⟨w.heap.size, 2, none⟩ = some (.int .i64 x.e)) ∧
       (w'.cell? ⟨w.heap.size + 1, 0, none⟩ = some (.bool y.g) ∧ w'.cell? ⟨w.heap.size + 1, 1, none⟩ = some (.slice y.p (dig B32 y.m).length y.c) ∧ w'.cell? ⟨w.heap.size + 1, 2, none⟩ = some (.int .i64 y.e)))
    (first
      | with_reducible exact ⟨A.e3, B.e3⟩
      | with_reducible exact ⟨A.drew.e3, B.drew.e3⟩
      | with_reducible exact ⟨(A.drew.past hbx).e3, (B.drew.past hbx).e3⟩
      | with_reducible exact ⟨((A.drew.past hbx).past hby).e3, ((B.drew.past hbx).past hby).e3⟩)
    (first
      | (go_at_call 41; ((with_reducible refine (HSX _ hx.ow.rd.drew).out.mono ?_)); rintro ex wx ⟨px, cx, rfl, hox, hbx⟩)
      | (go_at_call 77; ((with_reducible refine (HDV _ _ _ hox.rd _ _ (hy.ow.rd.drew.past hbx)).out.mono ?_)); rintro ey wy ⟨pq, cq, pr, cr, rfl, hoq, hor, hby, -⟩))
   have hs4 := (hs3.drew.trans (hbx.mono hs3.size)).trans (hby.mono (Nat.le_trans hs3.size hbx.size))
   replace A := (A.drew.past hbx).past hby
   replace B := (B.drew.past hbx).past hby
   replace R := (R.drew.past hbx).past hby
   replace hT := (hT.drew.past hbx).past hby
   clear HDV HSX HLX HLY HS hx hy
   go_wp2_with fail
   rw [show xor x.g y.g = !(x.g == y.g) by cases x.g <;> cases y.g <;> rfl] at HK
   generalize (!(x.g == y.g)) = ng at *
   have lQ2 : (dig B32 (Q * 2 ^ 1)).length ≤ 8310 := by have := e0e Q 1; omega
   have HSQ := fun W p c h => lHd (y0p p c Q W h (by omega))
   have HQ2 := lHd (show Q * 2 ^ 1 = 2 ^ 1 * Q from Nat.mul_comm _ _)
   have HQ0 := lHd (show 0 < Q * 2 ^ 1 by have h1 := HQB.out; have h2 : 0 < Q := (d0r Q).1 (by omega); omega)
   generalize Q * 2 ^ 1 = Q2 at *
   have hRl0 := R.lt
   ((with_reducible refine ((HSQ _ pq cq hoq.rd).out).mono ?_))
   rintro e5 w5 ⟨p5, c5, rfl, ho5, hb5⟩
   replace A := A.past hb5
   replace B := B.past hb5
   replace R := R.past hb5
   replace hT := hT.past hb5
   replace hor := hor.past hb5
   have hs5 := hs4.trans (hb5.mono hs4.size)
   have hs5s := hs5.size
   by_cases hT0 : T = 0
   · have HM := lHd (show Q2 = 2 ^ 1 * Q + (if T ≠ 0 then 1 else 0) by rw [if_neg (by omega), HQ2.out]; rfl)
     have hTL : (dig B32 T).length = 0 := (a0h a0a T).2 hT0
     have t2 : decide (0 < (dig B32 T).length) = false := dFa (by omega)
     have hM0 := HQ0.out
     have lM : (dig B32 Q2).length ≤ 8500 := by omega
     clear hTL hT0
     obtain ⟨A_0, A_1, A_2⟩ := A.e3
     obtain ⟨B_0, B_1, B_2⟩ := B.e3
     go_wp2_with fail
     clear A_0 A_1 A_2 B_0 B_1 B_2
     obtain ⟨r0, hr0⟩ : ∃ r0, bare ⟨false, Q2, x.e - y.e - (N : Int) - 1⟩ = r0 := ⟨_, rfl⟩
     have HW := fun W h1 h2 => lHd (o0m p5 _ c5 (x.e - y.e - (N : Int) - 1) (Q2) W h1 rfl (ho5).le_cap (by omega) (by omega) h2)
     have hr1 := c0z a0a ⟨false, Q2, x.e - y.e - (N : Int) - 1⟩
     have hr2 := k0y ⟨false, Q2, x.e - y.e - (N : Int) - 1⟩ (n := 8500) (by simp only; omega) (lo := -600000) (hi := 400000) (by simp only; omega) (by simp only; omega) (by omega) (by omega)
     rw [hr0] at HW hr1 hr2
     simp only at hr1
     have HKK := lHd (HK.out.trans (congrArg (fun z => pCut z b up) (show bare ⟨ng, 2 ^ 1 * Q + (if T ≠ 0 then 1 else 0), x.e - y.e - (N : Int) - 1⟩ = ⟨ng, r0.m, r0.e⟩ by rw [← HM.out, r0k hM0, hr0])))
     clear hr0 HK
     ((with_reducible refine (HW _ (ho5).rd hT).out.mono ?_))
     rintro e8 w8 ⟨p8, c8, rfl, ho8, hb8⟩
     have hs8 := (hs5).trans (hb8.mono (hs5).size)
     have hzw8 := Nat.le_trans (hs5).size hb8.size
     have hzw5 := Nat.le_trans (hs5).size (Nat.le_refl (w5).heap.size)
     have hR8 := R.lt
     replace R := R.past hb8
     replace hT := hT.past hb8
     have hR9 := R.lt
     have hp8 : p8.isSome = true → blk p8 < w8.heap.size := fun h => (ho8.blk_lt h).2
     go_upto_region 10 with (fail)
     refine c0l (fun W9 hb9 hz9 O => ?_)
     replace R := R.past hb9
     replace hT := hT.past hb9
     replace ho8 := ho8.past hb9
     have hs9 := hs8.trans (hb9.mono hs8.size)
     obtain ⟨O_0, O_1, O_2⟩ := O.e3
     have O_f0 := O.f 0
     have O_f1 := O.f 1
     have O_f2 := O.f 2
     go_upto_region 11 with (fail)
     clear O_0 O_1 O_2 O_f0 O_f1 O_f2
     refine l0i O (fun W10 hO10 O => ?_)
     replace R := R.only hO10 (by omega)
     replace ho8 := ho8.only hO10 (fun h => by have := hp8 h; omega)
     replace hT := TabW.below hT (hO10.below (B := w8.heap.size) (Nat.le_refl _)) (by omega)
     have hs10 := hs9.trans (hO10.below (B := w.heap.size) hzw8)
     have hz10 : (w5).heap.size ≤ W10.heap.size := by rw [hO10.size]; exact Nat.le_trans hb8.size hb9.size
     obtain ⟨O_0, O_1, O_2⟩ := O.e3
     go_wp2_with fail
     clear O_0 O_1 O_2
     ((with_reducible refine ((i0x ⟨ng, p8, c8, r0.m, r0.e⟩ (w5).heap.size b up _ ⟨ho8, by simp only; omega, by simp only; omega, by simp only; omega⟩ (by omega) hT hz10)).mono ?_))
     rintro e11 w11 ⟨p11, c11, rfl, ho11, hb11⟩
     replace R := R.past hb11
     replace O := O.past hb11
     replace hT := hT.past hb11
     have hs11 := hs10.trans (hb11.mono hs10.size)
     generalize hrr : pCut (Rw.v ⟨ng, p8, c8, r0.m, r0.e⟩) b up = rr at *
     have HRR := lHd (HKK.out.trans hrr)
     clear hrr
     obtain ⟨R_0, R_1, R_2⟩ := R.e3
     have R_f0 := R.f 0
     have R_f1 := R.f 1
     have R_f2 := R.f 2
     go_wp2_with fail
     clear R_0 R_1 R_2 R_f0 R_f1 R_f2
     obtain ⟨R_0, R_1, R_2⟩ := R.e3
     refine bodyPost_ret (v := .agg #[.bool rr.neg, .slice p11 (dig B32 rr.m).length c11, .int .i64 rr.e]) (by simp [results, Tryd.results62, go_sem, R_0, R_1, R_2]) rfl ?_
     rw [HRR.out]
     exact h0y hs11 (ho11.mono (Nat.le_trans hbase hzw5)) (by omega) (fun h => by have := (ho11.blk_lt h).1; omega)
   · have hTL := a0h a0a T
     have t2 : decide (0 < (dig B32 T).length) = true := dTr (by omega)
     have HM := lHd (show Q2 + 1 = 2 ^ 1 * Q + (if T ≠ 0 then 1 else 0) by rw [if_pos hT0, HQ2.out])
     have hM0 : 0 < Q2 + 1 := by omega
     have l1 : (dig B32 1).length ≤ 1 := (a0d a0a 1 1).2 (by decide)
     have lM : (dig B32 (Q2 + 1)).length ≤ 8500 := by have := b0b a0a Q2 1; omega
     clear hTL hT0
     go_wp2_with fail
     ((with_reducible refine ((b1b _)).mono ?_))
     rintro e6 w6 ⟨p6, c6, rfl, ho6, hb6⟩
     replace A := A.past hb6
     replace B := B.past hb6
     replace R := R.past hb6
     replace hT := hT.past hb6
     replace hor := hor.past hb6
     replace ho5 := ho5.past hb6
     have hs6 := hs5.trans (hb6.mono hs5.size)
     go_wp2_with fail
     ((with_reducible refine ((l0x p5 p6 _ _ c5 c6 Q2 1 _ ho5.rd ho6.rd rfl rfl (by omega) (by omega))).mono ?_))
     rintro e7 w7 ⟨p7, c7, rfl, ho7, hb7⟩
     replace A := A.past hb7
     replace B := B.past hb7
     replace R := R.past hb7
     replace hT := hT.past hb7
     replace hor := hor.past hb7
     replace ho5 := ho5.past hb7
     replace ho6 := ho6.past hb7
     have hs7 := hs6.trans (hb7.mono hs6.size)
     obtain ⟨A_0, A_1, A_2⟩ := A.e3
     obtain ⟨B_0, B_1, B_2⟩ := B.e3
     go_wp2_with fail
     clear A_0 A_1 A_2 B_0 B_1 B_2
     obtain ⟨r0, hr0⟩ : ∃ r0, bare ⟨false, (Q2 + 1), x.e - y.e - (N : Int) - 1⟩ = r0 := ⟨_, rfl⟩
     have HW := fun W h1 h2 => lHd (o0m p7 _ c7 (x.e - y.e - (N : Int) - 1) ((Q2 + 1)) W h1 rfl (ho7).le_cap (by omega) (by omega) h2)
     have hr1 := c0z a0a ⟨false, (Q2 + 1), x.e - y.e - (N : Int) - 1⟩
     have hr2 := k0y ⟨false, (Q2 + 1), x.e - y.e - (N : Int) - 1⟩ (n := 8500) (by simp only; omega) (lo := -600000) (hi := 400000) (by simp only; omega) (by simp only; omega) (by omega) (by omega)
     rw [hr0] at HW hr1 hr2
     simp only at hr1
     have HKK := lHd (HK.out.trans (congrArg (fun z => pCut z b up) (show bare ⟨ng, 2 ^ 1 * Q + (if T ≠ 0 then 1 else 0), x.e - y.e - (N : Int) - 1⟩ = ⟨ng, r0.m, r0.e⟩ by rw [← HM.out, r0k hM0, hr0])))
     clear hr0 HK
     ((with_reducible refine (HW _ (ho7).rd hT).out.mono ?_))
     rintro e8 w8 ⟨p8, c8, rfl, ho8, hb8⟩
     have hs8 := (hs7).trans (hb8.mono (hs7).size)
     have hzw8 := Nat.le_trans (hs7).size hb8.size
     have hzw5 := Nat.le_trans (hs7).size (Nat.le_refl (w7).heap.size)
     have hR8 := R.lt
     replace R := R.past hb8
     replace hT := hT.past hb8
     have hR9 := R.lt
     have hp8 : p8.isSome = true → blk p8 < w8.heap.size := fun h => (ho8.blk_lt h).2
     go_upto_region 10 with (fail)
     refine c0l (fun W9 hb9 hz9 O => ?_)
     replace R := R.past hb9
     replace hT := hT.past hb9
     replace ho8 := ho8.past hb9
     have hs9 := hs8.trans (hb9.mono hs8.size)
     obtain ⟨O_0, O_1, O_2⟩ := O.e3
     have O_f0 := O.f 0
     have O_f1 := O.f 1
     have O_f2 := O.f 2
     go_upto_region 11 with (fail)
     clear O_0 O_1 O_2 O_f0 O_f1 O_f2
     refine l0i O (fun W10 hO10 O => ?_)
     replace R := R.only hO10 (by omega)
     replace ho8 := ho8.only hO10 (fun h => by have := hp8 h; omega)
     replace hT := TabW.below hT (hO10.below (B := w8.heap.size) (Nat.le_refl _)) (by omega)
     have hs10 := hs9.trans (hO10.below (B := w.heap.size) hzw8)
     have hz10 : (w7).heap.size ≤ W10.heap.size := by rw [hO10.size]; exact Nat.le_trans hb8.size hb9.size
     obtain ⟨O_0, O_1, O_2⟩ := O.e3
     go_wp2_with fail
     clear O_0 O_1 O_2
     ((with_reducible refine ((i0x ⟨ng, p8, c8, r0.m, r0.e⟩ (w7).heap.size b up _ ⟨ho8, by simp only; omega, by simp only; omega, by simp only; omega⟩ (by omega) hT hz10)).mono ?_))
     rintro e11 w11 ⟨p11, c11, rfl, ho11, hb11⟩
     replace R := R.past hb11
     replace O := O.past hb11
     replace hT := hT.past hb11
     have hs11 := hs10.trans (hb11.mono hs10.size)
     generalize hrr : pCut (Rw.v ⟨ng, p8, c8, r0.m, r0.e⟩) b up = rr at *
     have HRR := lHd (HKK.out.trans hrr)
     clear hrr
     obtain ⟨R_0, R_1, R_2⟩ := R.e3
     have R_f0 := R.f 0
     have R_f1 := R.f 1
     have R_f2 := R.f 2
     go_wp2_with fail
     clear R_0 R_1 R_2 R_f0 R_f1 R_f2
     obtain ⟨R_0, R_1, R_2⟩ := R.e3
     refine bodyPost_ret (v := .agg #[.bool rr.neg, .slice p11 (dig B32 rr.m).length c11, .int .i64 rr.e]) (by simp [results, Tryd.results62, go_sem, R_0, R_1, R_2]) rfl ?_
     rw [HRR.out]
     exact h0y hs11 (ho11.mono (Nat.le_trans hbase hzw5)) (by omega) (fun h => by have := (ho11.blk_lt h).1; omega)
end Go.Proofs.YthcoapcffhgckaaDoor
namespace Go.Slip
theorem b1c {a : Dv} (b : Nat) (up : Bool) {n : Nat} {lo hi : Int} (hl : (dig B32 a.m).length ≤ n) (h1 : lo ≤ a.e) (h2 : a.e ≤ hi) (h3 : lo ≤ 0) (h4 : 0 ≤ hi) :
 (dig B32 (pCut a b up).m).length ≤ n + 2 ∧ lo ≤ (pCut a b up).e ∧ (pCut a b up).e ≤ hi + 64 * n + 64 := by
 have hb := b0e a.m
 unfold pCut
 split
 · omega
 · have hm : (dig B32 (a.m / 2 ^ (blen a.m - b) + if up ≠ a.neg then 1 else 0)).length ≤ n + 2 := by
    refine Nat.le_trans (b0b a0a _ _) ?_
    have h5 := a0e a0a (Nat.div_le_self a.m (2 ^ (blen a.m - b)))
    have h6 : (dig B32 (if up ≠ a.neg then 1 else 0)).length ≤ 1 := (a0d a0a _ 1).2 (by split <;> decide)
    omega
   have h7 := k0y ⟨a.neg, a.m / 2 ^ (blen a.m - b) + (if up ≠ a.neg then 1 else 0), a.e + ((blen a.m - b : Nat) : Int)⟩ (n := n + 2) hm (lo := lo) (hi := hi + 32 * n) (by simp only; omega) (by simp only; omega) h3 (by omega)
   have h8 := c0z a0a ⟨a.neg, a.m / 2 ^ (blen a.m - b) + (if up ≠ a.neg then 1 else 0), a.e + ((blen a.m - b : Nat) : Int)⟩
   refine ⟨Nat.le_trans h8 hm, h7.1, ?_⟩
   have := h7.2
   omega
theorem r0l {a c : Dv} (b : Nat) (up : Bool) (hb : b ≤ 5000) (hal : (dig B32 a.m).length ≤ 1300) (hcl : (dig B32 c.m).length ≤ 1300) (ha1 : -100000 ≤ a.e) (ha2 : a.e ≤ 100000) (hc1 : -100000 ≤ c.e) (hc2 : c.e ≤ 100000) :
 (dig B32 (a0t a c b up).m).length ≤ 3000 ∧ -900000 ≤ (a0t a c b up).e ∧ (a0t a c b up).e ≤ 900000 := by
 unfold a0t
 split
 · omega
 · have hLY := b0e c.m
   have hN : b + 2 + blen c.m - blen a.m ≤ 46700 := by omega
   generalize b + 2 + blen c.m - blen a.m = N at *
   unfold h0x
   have l1 : (dig B32 (a.m * 2 ^ N / c.m)).length ≤ 2761 := by
    refine Nat.le_trans (a0e a0a (Nat.div_le_self _ _)) ?_
    have := e0e a.m N
    omega
   have l2 : (dig B32 (2 ^ 1 * (a.m * 2 ^ N / c.m))).length ≤ 2762 := by
    refine Nat.le_trans (e0l a0a _ _) ?_
    have : (dig B32 (2 ^ 1)).length ≤ 1 := (a0d a0a _ 1).2 (by decide)
    omega
   have l3 : (dig B32 (2 ^ 1 * (a.m * 2 ^ N / c.m) + if a.m * 2 ^ N % c.m ≠ 0 then 1 else 0)).length ≤ 2764 := by
    refine Nat.le_trans (b0b a0a _ _) ?_
    have h6 : (dig B32 (if a.m * 2 ^ N % c.m ≠ 0 then 1 else 0)).length ≤ 1 := (a0d a0a _ 1).2 (by split <;> decide)
    omega
   have h7 := k0y ⟨xor a.neg c.neg, 2 ^ 1 * (a.m * 2 ^ N / c.m) + (if a.m * 2 ^ N % c.m ≠ 0 then 1 else 0), a.e - c.e - N - (1 : Nat)⟩ (n := 2764) l3 (lo := -300000) (hi := 200000) (by simp only; omega) (by simp only; omega) (by omega) (by omega)
   have h8 := c0z a0a ⟨xor a.neg c.neg, 2 ^ 1 * (a.m * 2 ^ N / c.m) + (if a.m * 2 ^ N % c.m ≠ 0 then 1 else 0), a.e - c.e - N - (1 : Nat)⟩
   have h9 := b1c b up (n := 2764) (Nat.le_trans h8 l3) h7.1 (h7.2) (by omega) (by omega)
   omega
end Go.Slip
namespace Go.Proofs.YthcoapcffhgckaaDoor
open Go.RowKit Go.Slip
theorem c1v : Tryd.prog.underlying 105 = some (.slice 61) := by kernel_rfl
theorem b1d : ∃ i z, Tryd.prog.info? 61 = some i ∧ i.zero = some z ∧ i.size = 3 ∧ i.bytes = 40 ∧ z.cells.size = 3 := by
 have h : (Tryd.prog.info? 61).map (fun i => (i.zero.map (fun z => z.cells.size), i.size, i.bytes)) = some (some 3, 3, 40) := by kernel_rfl
 cases hi : Tryd.prog.info? 61 with
 | none => rw [hi] at h; simp at h
 | some i =>
  rw [hi] at h
  simp only [Option.map_some, Option.some.injEq, Prod.mk.injEq] at h
  obtain ⟨h1, h2, h3⟩ := h
  cases hz : i.zero with
  | none => rw [hz] at h1; simp at h1
  | some z => rw [hz] at h1; simp at h1; exact ⟨i, z, rfl, hz, h2, h3, h1⟩
def a0u (L : List Rw) : List Value := L.flatMap fun x => [.bool x.g, .slice x.p (dig B32 x.m).length x.c, .int .i64 x.e]
theorem d0v (L : List Rw) : (a0u L).length = L.length * 3 := by
 induction L with
 | nil => rfl
 | cons x L ih => show (_ :: _ :: _ :: a0u L).length = _; simp only [List.length_cons, ih]; omega
theorem o0n (L M : List Rw) : a0u (L ++ M) = a0u L ++ a0u M := List.flatMap_append
theorem q0b (L : List Rw) : ∀ (j : Nat) (h : j < L.length), (a0u L)[j * 3]? = some (.bool L[j].g) ∧ (a0u L)[j * 3 + 1]? = some (.slice L[j].p (dig B32 L[j].m).length L[j].c) ∧ (a0u L)[j * 3 + 2]? = some (.int .i64 L[j].e) := by
 induction L with
 | nil => intro j h; simp at h
 | cons x L ih =>
  intro j h
  match j with
  | 0 => exact ⟨rfl, rfl, rfl⟩
  | j + 1 =>
   have h2 := ih j (by simpa using h)
   show (_ :: _ :: _ :: a0u L)[(j + 1) * 3]? = _ ∧ (_ :: _ :: _ :: a0u L)[(j + 1) * 3 + 1]? = _ ∧ (_ :: _ :: _ :: a0u L)[(j + 1) * 3 + 2]? = _
   rw [show (j + 1) * 3 = j * 3 + 1 + 1 + 1 by omega]
   simpa using h2
def RowW (w : World) (base : Nat) (v : Value) (L : List Rw) : Prop := w.ownsRow base 61 3 v L.length (a0u L)
def Ov (w : World) (base0 base : Nat) (v : Value) (D : List Dv) : Prop := ∃ L : List Rw, RowW w base0 v L ∧ L.map Rw.v = D ∧ ∀ x ∈ L, InW w base x
def Off (v : Value) (k : Nat) : Prop := v.ownBlock ≠ some k
theorem Ov.nil (w : World) (base0 base : Nat) : Ov w base0 base (.slice none 0 0) [] := ⟨[], World.ownsRow_nil _ _ _ _, rfl, by simp⟩
theorem Ov.lt {w : World} {base0 base : Nat} {v : Value} {D : List Dv} (h : Ov w base0 base v D) : ∀ k, v.ownBlock = some k → base0 ≤ k ∧ k < w.heap.size := by
 obtain ⟨L, h1, _⟩ := h
 exact World.ownsRow.lt h1
theorem Ov.off {w : World} {base0 base : Nat} {v : Value} {D : List Dv} (h : Ov w base0 base v D) {k : Nat} (hk : k < base0 ∨ w.heap.size ≤ k) : Off v k := fun h1 => by
 have := h.lt k h1
 omega
theorem Off.app {w : World} {v v' : Value} {k : Nat} (h : Off v k) (ha : v'.ownBlock = v.ownBlock ∨ v'.ownBlock = some w.heap.size) (hk : k < w.heap.size) : Off v' k := fun h1 => by
 rcases ha with h2 | h2
 · exact h (h2.symm.trans h1)
 · rw [h2] at h1; simp at h1; omega
theorem RowW.past {w w' : World} {base : Nat} {v : Value} {L : List Rw} (h : RowW w base v L) (hb : Below w.heap.size w w') : RowW w' base v L := by
 refine ⟨h.1, ?_⟩
 rcases h.2 with hn | ⟨g, cap, cur, hv, hbg, hg, r⟩
 · exact .inl hn
 · exact .inr ⟨g, cap, cur, hv, hbg, (hb.block _ (Array.getElem?_eq_some_iff.1 hg).1).trans hg, r⟩
theorem Ov.past {w w' : World} {base0 base : Nat} {v : Value} {D : List Dv} (h : Ov w base0 base v D) (hb : Below w.heap.size w w') : Ov w' base0 base v D := by
 obtain ⟨L, h1, h2, h3⟩ := h
 exact ⟨L, h1.past hb, h2, fun x hx => (h3 x hx).past hb⟩
theorem InW.grown {w w' : World} {base base2 : Nat} {x : Rw} {v : Value} {n : Nat} {xs : List Value} (h : InW w base x) (hg : w.grownBy w' v.ownBlock) (h2 : w.ownsRow base2 61 3 v n xs) : InW w' base x :=
 ⟨h.ow.grown hg (fun hp he => by
   rcases h2.2 with ⟨h3, _⟩ | ⟨g, cap, cur, hv, _, hgg, _⟩
   · rw [h3] at he; simp [Value.ownBlock] at he
   · rw [hv] at he
     simp only [Value.ownBlock, Option.some.injEq] at he
     exact h.ow.ne_tb (b := g) ⟨cur, (0, 0), hgg⟩ (by decide) hp he), h.len, h.lo, h.hi⟩
theorem Ov.grown {w w' : World} {base0 base base2 base3 : Nat} {v v2 : Value} {D D2 : List Dv} (h : Ov w base0 base v D) (hg : w.grownBy w' v2.ownBlock) (h2 : Ov w base2 base3 v2 D2) (hne : v.ownBlock = none ∨ v.ownBlock ≠ v2.ownBlock) : Ov w' base0 base v D := by
 obtain ⟨L, h3, h4, h5⟩ := h
 obtain ⟨L2, h6, _⟩ := h2
 exact ⟨L, h3.kept hg hne, h4, fun x hx => (h5 x hx).grown hg h6⟩
theorem _root_.Go.Slip.Bx.grown {w w' : World} {b : Nat} {v : Value} {vs : Array Value} (h : Bx w b vs) (hg : w.grownBy w' v.ownBlock) (hne : Off v b) : Bx w' b vs :=
 h.same (hg.block _ h.lt fun he => hne he.symm)
theorem RowW.el {w : World} {base : Nat} {v : Value} {L : List Rw} (h : RowW w base v L) (h0 : 0 < L.length) :
 ∃ g c, v = .slice (some ⟨g, 0, none⟩) L.length c ∧ L.length ≤ c ∧ ∀ j (hj : j < L.length), El w g (j * 3) L[j] := by
 rcases h.2 with ⟨_, h1⟩ | ⟨g, cap, cur, hv, hb, hg, hn, _, _, _⟩
 · omega
 · refine ⟨g, cap, hv, hn, fun j hj => ?_⟩
   have hc := World.ownsRow.cells h (g := g) (by rw [hv]; rfl)
   obtain ⟨k0, k1, k2⟩ := q0b L j hj
   have e0 := hc _ _ k0
   have e1 := hc _ _ k1
   have e2 := hc _ _ k2
   simp only [Addr.add_lit, Nat.zero_add] at e0 e1 e2
   exact ⟨e0, e1, e2, (Array.getElem?_eq_some_iff.1 hg).1⟩
theorem j0y {ops : Array Oper} {rest : List Oper} {o : Oper} {a : Act} {Q : Exit → Act → World → Prop} {w : World} (hgd : o.guard = none) (s x : Operand)
 (ho : o.op = .call { callee := .builtin .append, args := #[s, x], argTypes := #[105, 105] })
 (base0 base : Nat) (v : Value) (D : List Dv) (hs : a.eval s = v) (h : Ov w base0 base v D) (q c2 : Nat) (y : Rw) (hx : a.eval x = .slice (some ⟨q, 0, none⟩) 1 c2) (hq : El w q 0 y) (hy : InW w base y) (hD : D.length ≤ 1000) (hbase : base0 ≤ w.heap.size)
 (hK : ∀ v' w', Ov w' base0 base v' (D ++ [y.v]) → w.grownBy w' v.ownBlock → (v'.ownBlock = v.ownBlock ∨ v'.ownBlock = some w.heap.size) → wpList Tryd.prog ops Q rest (a.put o.dst v') w') :
 wpList Tryd.prog ops Q (o :: rest) a w := by
 obtain ⟨i, z, hi, hz, h1, h2, h3⟩ := b1d
 obtain ⟨L, k1, k2, k3⟩ := h
 have hl : L.length = D.length := by rw [← k2, List.length_map]
 refine wpList_append_own_at w hgd s x _ ho base0 61 i z 3 40 c1v hi hz h1 h2 h3 (by omega) v L.length (a0u L) hs k1 ⟨q, 0, none⟩ 1 c2 (a0u [y]) hx (by rw [d0v]; rfl) ?_ ?_ (by unfold maxLen; omega) (by omega) hbase ?_
 · intro j u hj
   rw [Addr.add_lit, Nat.zero_add]
   match j, hj with
   | 0, hj => simp [a0u] at hj; subst hj; exact hq.c0
   | 1, hj => simp [a0u] at hj; subst hj; exact hq.c1
   | 2, hj => simp [a0u] at hj; subst hj; exact hq.c2
   | j + 3, hj => simp [a0u] at hj
 · intro u hu
   simp [a0u] at hu
   rcases hu with rfl | rfl | rfl <;> rfl
 · intro v' w' ho' hg _ hat
   refine hK v' w' ⟨L ++ [y], ?_, by rw [List.map_append, k2]; rfl, fun z hz => ?_⟩ hg hat
   · unfold RowW
     rw [o0n, List.length_append]
     exact ho'
   · rcases List.mem_append.1 hz with h4 | h4
     · exact (k3 z h4).grown hg k1
     · simp only [List.mem_singleton] at h4
       subst h4
       exact hy.grown hg k1
end Go.Proofs.YthcoapcffhgckaaDoor
namespace Go.Slip
end Go.Slip
namespace Go.Proofs.YthcoapcffhgckaaDoor
open Go.RowKit Go.Slip
def h0z (b : Nat) (up : Bool) (x : Rw) (l : List Rw) : List Dv := l.map fun y => a0t x.v y.v b up
def h0h (b : Nat) (up : Bool) (l m : List Rw) : List Dv := l.flatMap fun x => h0z b up x m
theorem l0j {b : Nat} {up : Bool} {x : Rw} {m : List Rw} {j : Nat} (h : j < m.length) : h0z b up x (m.take (j + 1)) = h0z b up x (m.take j) ++ [a0t x.v m[j].v b up] := by
 unfold h0z
 rw [List.take_succ_eq_append_getElem h, List.map_append]
 rfl
theorem l0k {b : Nat} {up : Bool} {l m : List Rw} {i : Nat} (h : i < l.length) : h0h b up (l.take (i + 1)) m = h0h b up (l.take i) m ++ h0z b up l[i] m := by
 unfold h0h
 rw [List.take_succ_eq_append_getElem h, List.flatMap_append]
 simp
theorem w0d (b : Nat) (up : Bool) (l m : List Rw) : (h0h b up l m).length = l.length * m.length := by
 induction l with
 | nil => simp [h0h]
 | cons x l ih =>
  have : h0h b up (x :: l) m = h0z b up x m ++ h0h b up l m := rfl
  rw [this, List.length_append, ih, List.length_cons, Nat.add_mul, Nat.one_mul]
  simp only [h0z, List.length_map]
  omega
theorem z0q (b : Nat) (up : Bool) (x : Rw) (l m : List Rw) (i j : Nat) (hl : l.length = 2) (hm : m.length = 2) : (h0h b up (l.take i) m ++ h0z b up x (m.take j)).length ≤ 1000 := by
 rw [List.length_append, w0d, hm]
 simp only [h0z, List.length_map, List.length_take]
 omega
structure Sm (x : Rw) : Prop where
 len : (dig B32 x.m).length ≤ 1300
 lo : -100000 ≤ x.e
 hi : x.e ≤ 100000
theorem y0r {w : World} {base : Nat} {x y : Rw} {b : Nat} {up : Bool} {p : OA} {c : Nat} (hx : Sm x) (hy : Sm y) (hb : b ≤ 5000) (ho : Own w base .u32 55 p c (dig B32 (a0t x.v y.v b up).m)) :
 InW w base ⟨(a0t x.v y.v b up).neg, p, c, (a0t x.v y.v b up).m, (a0t x.v y.v b up).e⟩ := by
 obtain ⟨h1, h2, h3⟩ := r0l (a := x.v) (c := y.v) b up hb hx.len hy.len hx.lo hx.hi hy.lo hy.hi
 exact ⟨ho, by simp only; omega, by simp only; omega, by simp only; omega⟩
theorem o0o (x y : Rw) (b base : Nat) (up : Bool) (w : World) (hx : InW w base x) (hy : InW w base y) (hy0 : 0 < y.m) (hb : b ≤ 5000) (sx : Sm x) (sy : Sm y) (hT : TabW w) (hbase : base ≤ w.heap.size) :
 Calls Tryd.prog 62 #[.agg #[.bool x.g, .slice x.p (dig B32 x.m).length x.c, .int .i64 x.e], .agg #[.bool y.g, .slice y.p (dig B32 y.m).length y.c, .int .i64 y.e], .int .i64 b, .bool up] w fun en w' => ∃ r : Rw, r.v = a0t x.v y.v b up ∧ en = .returned (.agg #[.bool r.g, .slice r.p (dig B32 r.m).length r.c, .int .i64 r.e]) ∧ InW w' base r ∧ Below w.heap.size w w' :=
 (y0q x y b base base up w hx hy hy0 hb (by have := sx.len; omega) (by have := sy.len; omega) ⟨by have := sx.lo; omega, by have := sx.hi; omega⟩ ⟨by have := sy.lo; omega, by have := sy.hi; omega⟩ hT hbase).mono
  fun en w' h => by
   obtain ⟨p, c, he, ho, hb2⟩ := h
   exact ⟨⟨(a0t x.v y.v b up).neg, p, c, (a0t x.v y.v b up).m, (a0t x.v y.v b up).e⟩, rfl, he, y0r sx sy hb ho, hb2⟩
theorem w0e (w : World) (vs : Array Value) (t : TypeId) : Tb (w.alloc (.cells vs t)) w.heap.size t := ⟨vs, (0, 0), by show (w.heap.push _)[_]? = _; simp⟩
theorem y0s {P : Program} {c : Code} {Q : Exit → Act → World → Prop} {a : Act} {w : World} {v1 v2 v3 v4 : Array Value} {t1 t2 t3 t4 : TypeId} (h : ∀ W, Below w.heap.size w W → w.heap.size + 1 + 1 + 1 < W.heap.size → Bx W w.heap.size v1 → Bx W (w.heap.size + 1) v2 → Bx W (w.heap.size + 1 + 1) v3 → Bx W (w.heap.size + 1 + 1 + 1) v4 → Tb W (w.heap.size + 1 + 1) t3 → c.wp P Q a W) :
 c.wp P Q a ((((w.alloc (.cells v1 t1)).alloc (.cells v2 t2)).alloc (.cells v3 t3)).alloc (.cells v4 t4)) := by
 obtain ⟨W, rfl, k1, k2, k3, k4, k5, k6⟩ := lay4 w v1 t1 v2 t2 v3 t3 v4 t4
 refine h _ k1 k2 k3 k4 k5 k6 ?_
 have h1 := w0e ((w.alloc (.cells v1 t1)).alloc (.cells v2 t2)) v3 t3
 rw [show ((w.alloc (.cells v1 t1)).alloc (.cells v2 t2)).heap.size = w.heap.size + 1 + 1 by simp] at h1
 exact h1.past (a0l _ _)
theorem Tb.grown {w w' : World} {b : Nat} {t : TypeId} {v : Value} (h : Tb w b t) (hg : w.grownBy w' v.ownBlock) (hne : Off v b) : Tb w' b t := by
 have hl := h.lt
 obtain ⟨vs, fz, h⟩ := h
 exact ⟨vs, fz, (hg.block _ hl fun he => hne he.symm).trans h⟩
theorem r0m {P : Nat → Rw → Prop} {x y : Rw} {L : List Rw} (hL : L = [x, y]) (h0 : P 0 x) (h1 : P 1 y) : ∀ i (h : i < L.length), P i (L[i]) := by
 subst hL
 intro i h
 match i, h with
 | 0, _ => exact h0
 | 1, _ => exact h1
theorem n0b {a b : Option Nat} (h : a = none ∨ a ≠ b) : b = none ∨ b ≠ a := by
 by_cases hb : b = none
 · exact .inl hb
 · right
   rintro rfl
   rcases h with h | h
   · exact hb h
   · exact h rfl
theorem w0f {w : World} {v v' u : Value} (h : v.ownBlock = none ∨ v.ownBlock ≠ u.ownBlock) (ha : v'.ownBlock = v.ownBlock ∨ v'.ownBlock = some w.heap.size) (hu : ∀ k, u.ownBlock = some k → k < w.heap.size) : v'.ownBlock = none ∨ v'.ownBlock ≠ u.ownBlock := by
 rcases ha with ha | ha
 · rw [ha]; exact h
 · right
   rw [ha]
   intro he
   have := hu _ he.symm
   omega
theorem El.new (w : World) (r : Rw) (t : TypeId) : El (w.alloc (.cells #[.bool r.g, .slice r.p (dig B32 r.m).length r.c, .int .i64 r.e] t)) w.heap.size 0 r :=
 have h := e0w w #[.bool r.g, .slice r.p (dig B32 r.m).length r.c, .int .i64 r.e] t
 ⟨h.c 0 rfl, h.c 1 rfl, h.c 2 rfl, h.lt⟩
theorem z0r : ∃ f0 f1 : Field, Tryd.prog.underlying 73 = some (.struct #[f0, f1]) ∧ f0.type = 61 ∧ f0.offset = 0 ∧ f1.type = 61 ∧ f1.offset = 3 := by
 have h := Tryd.underlying73
 exact ⟨_, _, h, rfl, rfl, rfl, rfl⟩
theorem q0c (v0 v1 v2 v3 v4 v5 : Value) (W : World) : (Instr.field 73 (.agg #[v0, v1, v2, v3, v4, v5]) 0).run Tryd.prog W = .ok (.agg #[v0, v1, v2]) W := by
 obtain ⟨f0, f1, h, h0, h1, h2, h3⟩ := z0r
 obtain ⟨i, z, hi, hz, k1, k2, k3⟩ := b1d
 obtain ⟨d, hd⟩ : ∃ d, Tryd.prog.underlying 61 = some (.struct d) := ⟨_, Tryd.underlying61⟩
 simp [Instr.field, run_underlying h, h0, h1, part, isAgg, asAgg, sizeOf, typeInfo, hi, k1, run_underlying hd]
theorem q0d (v0 v1 v2 v3 v4 v5 : Value) (W : World) : (Instr.field 73 (.agg #[v0, v1, v2, v3, v4, v5]) 1).run Tryd.prog W = .ok (.agg #[v3, v4, v5]) W := by
 obtain ⟨f0, f1, h, h0, h1, h2, h3⟩ := z0r
 obtain ⟨i, z, hi, hz, k1, k2, k3⟩ := b1d
 obtain ⟨d, hd⟩ : ∃ d, Tryd.prog.underlying 61 = some (.struct d) := ⟨_, Tryd.underlying61⟩
 simp [Instr.field, run_underlying h, h2, h3, part, isAgg, asAgg, sizeOf, typeInfo, hi, k1, run_underlying hd]
theorem j0z (b base0 base : Nat) (v : Value) (d : Dv) (D : List Dv) (w : World) (O : Ov w base0 base v (d :: D)) (h1 : 1 ≤ D.length) (h2 : D.length ≤ 900) (hb : b ≤ 1000000) (hT : TabW w) (hbase : base ≤ w.heap.size) :
 Calls Tryd.prog 55 #[.int .i64 b, v] w (h0f w base (pCut (lowD d D) b false) (pCut (f0a d D) b true)) := by
 obtain ⟨L, k1, k2, k3⟩ := O
 match L, k1, k2, k3 with
 | a :: L, k1, k2, k3 =>
  simp only [List.map_cons, List.cons.injEq] at k2
  obtain ⟨k4, k5⟩ := k2
  have hl : L.length = D.length := by rw [← k5, List.length_map]
  obtain ⟨g, c, hv, hc, hel⟩ := k1.el (by simp)
  rw [hv]
  have h := s0u b g c base (a :: L) w _ rfl (by simp; omega) hc (by simp; omega) (fun j hj => (hel j hj).e3) (fun j hj => k3 _ (List.getElem_mem hj)) (hel 0 (by simp)).lt hb hT hbase
  simp only [List.getElem_cons_zero, List.tail_cons] at h
  rw [c1u, a1z, k4, k5] at h
  exact h
theorem y0t (al ah bl bh : Rw) (b base : Nat) (w : World) (ha : InW w base al) (hah : InW w base ah) (hbl : InW w base bl) (hbh : InW w base bh) (sa : Sm al) (sah : Sm ah) (sb : Sm bl) (sbh : Sm bh) (b0 : 0 < bl.m) (b1 : 0 < bh.m) (hb : b ≤ 5000) (hT : TabW w) (hbase : base ≤ w.heap.size) :
 Calls Tryd.prog 39 #[.agg #[.bool al.g, .slice al.p (dig B32 al.m).length al.c, .int .i64 al.e, .bool ah.g, .slice ah.p (dig B32 ah.m).length ah.c, .int .i64 ah.e], .agg #[.bool bl.g, .slice bl.p (dig B32 bl.m).length bl.c, .int .i64 bl.e, .bool bh.g, .slice bh.p (dig B32 bh.m).length bh.c, .int .i64 bh.e], .int .i64 b] w
  (h0f w base (pCut (lowD (a0t al.v bl.v b false) [a0t al.v bh.v b false, a0t ah.v bl.v b false, a0t ah.v bh.v b false]) b false) (pCut (f0a (a0t al.v bl.v b true) [a0t al.v bh.v b true, a0t ah.v bl.v b true, a0t ah.v bh.v b true]) b true)) := by
 obtain ⟨LX, hLX⟩ : ∃ LX, LX = [al, ah] := ⟨_, rfl⟩
 obtain ⟨LY, hLY⟩ : ∃ LY, LY = [bl, bh] := ⟨_, rfl⟩
 have HX := lHd (r0m (P := fun _ x => InW w base x ∧ Sm x) hLX ⟨ha, sa⟩ ⟨hah, sah⟩)
 have HY := lHd (r0m (P := fun _ x => InW w base x ∧ Sm x ∧ 0 < x.m) hLY ⟨hbl, sb, b0⟩ ⟨hbh, sbh, b1⟩)
 have HDF := lHd (show h0h b false LX LY = [a0t al.v bl.v b false, a0t al.v bh.v b false, a0t ah.v bl.v b false, a0t ah.v bh.v b false] by rw [hLX, hLY]; rfl)
 have HDT := lHd (show h0h b true LX LY = [a0t al.v bl.v b true, a0t al.v bh.v b true, a0t ah.v bl.v b true, a0t ah.v bh.v b true] by rw [hLX, hLY]; rfl)
 have HEX : ∀ (W : World) (k : Nat), Hid (Bx W k #[.bool al.g, .slice al.p (dig B32 al.m).length al.c, .int .i64 al.e, .bool ah.g, .slice ah.p (dig B32 ah.m).length ah.c, .int .i64 ah.e] → ∀ i (h : i < LX.length), El W k (i * 3) (LX[i])) := fun W k h => r0m hLX ⟨h.c 0 rfl, h.c 1 rfl, h.c 2 rfl, h.lt⟩ ⟨h.c 3 rfl, h.c 4 rfl, h.c 5 rfl, h.lt⟩
 have HEY : ∀ (W : World) (k : Nat), Hid (Bx W k #[.bool bl.g, .slice bl.p (dig B32 bl.m).length bl.c, .int .i64 bl.e, .bool bh.g, .slice bh.p (dig B32 bh.m).length bh.c, .int .i64 bh.e] → ∀ i (h : i < LY.length), El W k (i * 3) (LY[i])) := fun W k h => r0m hLY ⟨h.c 0 rfl, h.c 1 rfl, h.c 2 rfl, h.lt⟩ ⟨h.c 3 rfl, h.c 4 rfl, h.c 5 rfl, h.lt⟩
 have HLX : Hid (LX.length = 2) := by rw [hLX]; exact rfl
 have HLY : Hid (LY.length = 2) := by rw [hLY]; exact rfl
 clear hLX hLY ha hah hbl hbh sa sah sb sbh b0 b1
 go_enter Tryd.func39, Tryd.ntmps39
 go_wp2_with fail
 refine y0s (fun W1 hs1 hz1 A B R XS RT => ?_)
 go_loopg [7, 8, 19] 2 (fun gk v7 v8 iv wr => ∃ (i : Nat), iv = .int .i64 i ∧ gk + i = 2 ∧ Below w.heap.size w wr ∧ Bx wr w.heap.size #[.bool al.g, .slice al.p (dig B32 al.m).length al.c, .int .i64 al.e, .bool ah.g, .slice ah.p (dig B32 ah.m).length ah.c, .int .i64 ah.e] ∧ Bx wr (w.heap.size + 1) #[.bool bl.g, .slice bl.p (dig B32 bl.m).length bl.c, .int .i64 bl.e, .bool bh.g, .slice bh.p (dig B32 bh.m).length bh.c, .int .i64 bh.e] ∧
   Bx wr (w.heap.size + 1 + 1) #[.bool false, .slice none 0 0, .int .i64 0, .bool false, .slice none 0 0, .int .i64 0] ∧ Bx wr (w.heap.size + 1 + 1 + 1) #[.bool al.g, .slice al.p (dig B32 al.m).length al.c, .int .i64 al.e, .bool ah.g, .slice ah.p (dig B32 ah.m).length ah.c, .int .i64 ah.e] ∧ Tb wr (w.heap.size + 1 + 1) 73 ∧
   Ov wr W1.heap.size base v7 (h0h b false (LX.take i) LY) ∧ Ov wr W1.heap.size base v8 (h0h b true (LX.take i) LY) ∧ (v7.ownBlock = none ∨ v7.ownBlock ≠ v8.ownBlock) ∧ W1.heap.size ≤ wr.heap.size)
 case atStart => exact ⟨0, rfl, rfl, hs1, A, B, R, XS, RT, Ov.nil _ _ _, Ov.nil _ _ _, .inl rfl, Nat.le_refl _⟩
 case round =>
  obtain ⟨i, rfl, hgk, hb2, A, B, R, XS, RT, O7, O8, hne, hzr⟩ := hrel
  obtain ⟨wo, hwo⟩ : ∃ wo, wo = wr := ⟨_, rfl⟩
  subst hwo
  obtain ⟨go, hgo⟩ : ∃ go, go = gk := ⟨_, rfl⟩
  subst hgo
  by_cases hlt : i < 2
  · have hi : i < LX.length := by rw [HLX.out]; exact hlt
    have HEXi := (HEX wo _).out XS i hi
    obtain ⟨hXw, hXs⟩ := HX.out i hi
    have HOA := lHd (l0k (b := b) (up := false) (m := LY) hi)
    have HOB := lHd (l0k (b := b) (up := true) (m := LY) hi)
    obtain ⟨x, hx⟩ : ∃ x, x = LX[i] := ⟨_, rfl⟩
    rw [← hx] at HEXi hXw hXs HOA HOB
    clear hx
    obtain ⟨k0, k1, k2⟩ := HEXi.e3
    have ti : decide ((i : Int) < 2) = true := dTr (by omega)
    go_upto_region 5 with (fail)
    clear k0 k1 k2
    have hAl := A.lt
    have hBl := B.lt
    have hRl := R.lt
    have hXSl := XS.lt
    have f7o := O7.off (k := wo.heap.size) (.inr (Nat.le_refl _))
    have f8o := O8.off (k := wo.heap.size) (.inr (Nat.le_refl _))
    refine c0l (fun W3 hb3 hz3 X => ?_)
    replace A := A.past hb3
    replace B := B.past hb3
    replace R := R.past hb3
    replace XS := XS.past hb3
    replace RT := RT.past hb3
    replace O7 := O7.past hb3
    replace O8 := O8.past hb3
    have hs3 := hb2.trans (hb3.mono hb2.size)
    have hXl := X.lt
    have f7y := O7.off (k := W3.heap.size) (.inr (Nat.le_refl _))
    have f8y := O8.off (k := W3.heap.size) (.inr (Nat.le_refl _))
    obtain ⟨B_0, B_1, B_2, B_3, B_4, B_5⟩ := B.e6
    go_upto_region 6 with (fail)
    clear B_0 B_1 B_2 B_3 B_4 B_5
    refine c0l (fun W5 hb5 hz5 YS => ?_)
    replace A := A.past hb5
    replace B := B.past hb5
    replace R := R.past hb5
    replace XS := XS.past hb5
    replace X := X.past hb5
    replace RT := RT.past hb5
    replace O7 := O7.past hb5
    replace O8 := O8.past hb5
    have hs5 := hs3.trans (hb5.mono hs3.size)
    have hYSl := YS.lt
    have h35 := hb5.size
    go_loopg [7, 8, 29] 2 (fun gj v7 v8 jv wr => ∃ (j : Nat), jv = .int .i64 j ∧ gj + j = 2 ∧ Below w.heap.size w wr ∧ Bx wr w.heap.size #[.bool al.g, .slice al.p (dig B32 al.m).length al.c, .int .i64 al.e, .bool ah.g, .slice ah.p (dig B32 ah.m).length ah.c, .int .i64 ah.e] ∧ Bx wr (w.heap.size + 1) #[.bool bl.g, .slice bl.p (dig B32 bl.m).length bl.c, .int .i64 bl.e, .bool bh.g, .slice bh.p (dig B32 bh.m).length bh.c, .int .i64 bh.e] ∧
      Bx wr (w.heap.size + 1 + 1) #[.bool false, .slice none 0 0, .int .i64 0, .bool false, .slice none 0 0, .int .i64 0] ∧ Bx wr (w.heap.size + 1 + 1 + 1) #[.bool al.g, .slice al.p (dig B32 al.m).length al.c, .int .i64 al.e, .bool ah.g, .slice ah.p (dig B32 ah.m).length ah.c, .int .i64 ah.e] ∧ Tb wr (w.heap.size + 1 + 1) 73 ∧
      Bx wr wo.heap.size #[.bool x.g, .slice x.p (dig B32 x.m).length x.c, .int .i64 x.e] ∧ Bx wr W3.heap.size #[.bool bl.g, .slice bl.p (dig B32 bl.m).length bl.c, .int .i64 bl.e, .bool bh.g, .slice bh.p (dig B32 bh.m).length bh.c, .int .i64 bh.e] ∧ Off v7 wo.heap.size ∧ Off v8 wo.heap.size ∧ Off v7 W3.heap.size ∧ Off v8 W3.heap.size ∧
      Ov wr W1.heap.size base v7 (h0h b false (LX.take i) LY ++ h0z b false x (LY.take j)) ∧ Ov wr W1.heap.size base v8 (h0h b true (LX.take i) LY ++ h0z b true x (LY.take j)) ∧ (v7.ownBlock = none ∨ v7.ownBlock ≠ v8.ownBlock) ∧ W1.heap.size ≤ wr.heap.size)
    case atStart => exact ⟨0, rfl, rfl, hs5, A, B, R, XS, RT, X, YS, f7o, f8o, f7y, f8y, by simpa [h0z] using O7, by simpa [h0z] using O8, hne, by omega⟩
    case round =>
     obtain ⟨j, rfl, hgk, hb6, A, B, R, XS, RT, X, YS, f7x, f8x, f7y, f8y, O7, O8, hne, hzq⟩ := hrel
     by_cases hlj : j < 2
     · have hj : j < LY.length := by rw [HLY.out]; exact hlj
       have HEYj := (HEY wr _).out YS j hj
       obtain ⟨hYw, hYs, hY0⟩ := HY.out j hj
       have HQA := lHd (l0j (b := b) (up := false) (x := x) hj)
       have HQB := lHd (l0j (b := b) (up := true) (x := x) hj)
       obtain ⟨y, hy⟩ : ∃ y, y = LY[j] := ⟨_, rfl⟩
       rw [← hy] at HEYj hYw hYs hY0 HQA HQB
       clear hy
       obtain ⟨k0, k1, k2⟩ := HEYj.e3
       go_upto_region 8 with (fail)
       clear k0 k1 k2
       have hAl := A.lt
       have hBl := B.lt
       have hRl := R.lt
       have hXSl := XS.lt
       have hXl := X.lt
       have hYSl := YS.lt
       have f7z := O7.off (k := wr.heap.size) (.inr (Nat.le_refl _))
       have f8z := O8.off (k := wr.heap.size) (.inr (Nat.le_refl _))
       refine c0l (fun W7 hb7 hz7 Y => ?_)
       replace A := A.past hb7
       replace B := B.past hb7
       replace R := R.past hb7
       replace XS := XS.past hb7
       replace X := X.past hb7
       replace YS := YS.past hb7
       replace RT := RT.past hb7
       replace O7 := O7.past hb7
       replace O8 := O8.past hb7
       have hs7 := hb6.trans (hb7.mono hb6.size)
       have hYl := Y.lt
       obtain ⟨X_0, X_1, X_2⟩ := X.e3
       obtain ⟨Y_0, Y_1, Y_2⟩ := Y.e3
       go_wp2_with fail
       clear X_0 X_1 X_2 Y_0 Y_1 Y_2
       ((with_reducible refine (o0o x y b base false _ (hXw.past hs7) (hYw.past hs7) hY0 hb hXs hYs (hT.past hs7) (Nat.le_trans hbase hs7.size)).mono ?_))
       rintro e8 w8 ⟨r, hrv, rfl, hr, hb8⟩
       have hs8 := hs7.trans (hb8.mono hs7.size)
       replace A := A.past hb8
       replace B := B.past hb8
       replace R := R.past hb8
       replace XS := XS.past hb8
       replace X := X.past hb8
       replace YS := YS.past hb8
       replace Y := Y.past hb8
       replace RT := RT.past hb8
       replace O7 := O7.past hb8
       replace O8 := O8.past hb8
       have HRV := lHd hrv
       clear hrv
       have hz78 := hb7.size
       have hz88 := hb8.size
       have hl8 := a0l w8 (.cells #[.bool r.g, .slice r.p (dig B32 r.m).length r.c, .int .i64 r.e] 61)
       have hz8 : (w8.alloc (.cells #[.bool r.g, .slice r.p (dig B32 r.m).length r.c, .int .i64 r.e] 61)).heap.size = w8.heap.size + 1 := by simp
       have HZ8 := lHd hz8
       have HL7 := lHd (z0q b false x LX LY i j HLX.out HLY.out)
       have HL8 := lHd (z0q b true x LX LY i j HLX.out HLY.out)
       clear hz8
       go_wp2_with (at_builtin; refine j0y rfl _ _ rfl W1.heap.size base _ _ rfl (O7.past hl8) w8.heap.size _ r rfl (El.new _ _ _) (hr.past hl8) HL7.out (by rw [HZ8.out]; omega) ?_; intro v7 w9 P7 hg9 hat9; have X9 := (X.past hl8).grown hg9 f7x; have Y9 := (Y.past hl8).grown hg9 f7z; obtain ⟨X_0, X_1, X_2⟩ := X9.e3; obtain ⟨Y_0, Y_1, Y_2⟩ := Y9.e3)
       clear X_0 X_1 X_2 Y_0 Y_1 Y_2
       have L7 := (O7.past hl8).lt
       have L8 := (O8.past hl8).lt
       have hs9 := (hs8.trans (hl8.mono hs8.size)).trans (a0z hg9 (B := w.heap.size) (Nat.le_trans hs8.size hl8.size) (fun k hk => Nat.le_trans hs1.size (L7 k hk).1))
       replace A := (A.past hl8).grown hg9 ((O7.past hl8).off (.inl (by omega)))
       replace B := (B.past hl8).grown hg9 ((O7.past hl8).off (.inl (by omega)))
       replace R := (R.past hl8).grown hg9 ((O7.past hl8).off (.inl (by omega)))
       replace XS := (XS.past hl8).grown hg9 ((O7.past hl8).off (.inl (by omega)))
       replace YS := (YS.past hl8).grown hg9 f7y
       replace RT := (RT.past hl8).grown hg9 ((O7.past hl8).off (.inl (by omega)))
       have P8 := (O8.past hl8).grown hg9 (O7.past hl8) (n0b hne)
       have hne9 := n0b (w0f hne hat9 (fun k hk => (L8 k hk).2))
       have hz8 := HZ8.out
       have hz9 : w8.heap.size + 1 ≤ w9.heap.size := by rw [← hz8]; exact hg9.size
       have g7x := f7x.app hat9 (by omega)
       have g7y := f7y.app hat9 (by omega)
       clear hz8 X Y O7 O8 L7 L8 hs8 hl8 hg9 hat9 hr hb8 hne f7x f7y f7z
       ((with_reducible refine (o0o x y b base true _ (hXw.past hs9) (hYw.past hs9) hY0 hb hXs hYs (hT.past hs9) (Nat.le_trans hbase hs9.size)).mono ?_))
       rintro e10 w10 ⟨r2, hrv2, rfl, hr2, hb10⟩
       have hs10 := hs9.trans (hb10.mono hs9.size)
       replace A := A.past hb10
       replace B := B.past hb10
       replace R := R.past hb10
       replace XS := XS.past hb10
       replace YS := YS.past hb10
       replace RT := RT.past hb10
       replace X9 := X9.past hb10
       replace P7 := P7.past hb10
       replace P8 := P8.past hb10
       have HRV2 := lHd hrv2
       clear hrv2 hYw
       have hz10 := hb10.size
       have hl10 := a0l w10 (.cells #[.bool r2.g, .slice r2.p (dig B32 r2.m).length r2.c, .int .i64 r2.e] 61)
       have hzl : (w10.alloc (.cells #[.bool r2.g, .slice r2.p (dig B32 r2.m).length r2.c, .int .i64 r2.e] 61)).heap.size = w10.heap.size + 1 := by simp
       have HZL := lHd hzl
       clear hzl
       go_wp2_with (at_builtin; refine j0y rfl _ _ rfl W1.heap.size base _ _ rfl (P8.past hl10) w10.heap.size _ r2 rfl (El.new _ _ _) (hr2.past hl10) HL8.out (by rw [HZL.out]; omega) ?_; intro v8 w11 Q8 hg11 hat11)
       have L7 := (P7.past hl10).lt
       have L8 := (P8.past hl10).lt
       have hs11 := (hs10.trans (hl10.mono hs10.size)).trans (a0z hg11 (B := w.heap.size) (Nat.le_trans hs10.size hl10.size) (fun k hk => Nat.le_trans hs1.size (L8 k hk).1))
       replace A := (A.past hl10).grown hg11 ((P8.past hl10).off (.inl (by omega)))
       replace B := (B.past hl10).grown hg11 ((P8.past hl10).off (.inl (by omega)))
       replace R := (R.past hl10).grown hg11 ((P8.past hl10).off (.inl (by omega)))
       replace XS := (XS.past hl10).grown hg11 ((P8.past hl10).off (.inl (by omega)))
       replace YS := (YS.past hl10).grown hg11 f8y
       replace X9 := (X9.past hl10).grown hg11 f8x
       replace RT := (RT.past hl10).grown hg11 ((P8.past hl10).off (.inl (by omega)))
       have Q7 := (P7.past hl10).grown hg11 (P8.past hl10) (n0b hne9)
       have hneB := n0b (w0f hne9 hat11 (fun k hk => (L7 k hk).2))
       have hzl := HZL.out
       have h11 : w10.heap.size + 1 ≤ w11.heap.size := by rw [← hzl]; exact hg11.size
       have g8x := f8x.app hat11 (by omega)
       have g8y := f8y.app hat11 (by omega)
       have hzB : W1.heap.size ≤ w11.heap.size := by omega
       clear hzl P7 P8 L7 L8 hs10 hs9 hl10 hg11 hat11 hr2 hb10 hne9 f8x f8y f8z
       go_roundg (gk - 1)
       case measure => omega
       case rel =>
        refine ⟨j + 1, by go_num, by omega, hs11, A, B, R, XS, RT, X9, YS, g7x, g8x, g7y, g8y, ?_, ?_, hneB, hzB⟩
        · rw [HQA.out, ← HRV.out, ← List.append_assoc]; exact Q7
        · rw [HQB.out, ← HRV2.out, ← List.append_assoc]; exact Q8
     · have hjj : j = 2 := by omega
       have HJ := lHd (show LY.take j = LY by rw [hjj, ← HLY.out, List.take_length])
       rw [HJ.out] at O7 O8
       have hjn : ¬ j < 2 := hlj
       clear hjj
       go_wp2_with fail
       go_roundg (go - 1)
       case measure => omega
       case rel => exact ⟨i + 1, by go_num, by omega, hb6, A, B, R, XS, RT, by rw [HOA.out]; exact O7, by rw [HOB.out]; exact O8, hne, hzq⟩
  · have hii : i = 2 := by omega
    have HJ := lHd (show LX.take i = LX by rw [hii, ← HLX.out, List.take_length])
    rw [HJ.out, HDF.out] at O7
    rw [HJ.out, HDT.out] at O8
    have hin : ¬ i < 2 := hlt
    clear hii HDF HDT HEX HEY HX HY
    have hTo := hT.past hb2
    have HAL := fun W v h1 h2 h3 => lHd (j0z b W1.heap.size base v (a0t al.v bl.v b false) [a0t al.v bh.v b false, a0t ah.v bl.v b false, a0t ah.v bh.v b false] W h1 (by simp) (by simp) (by omega) h2 h3)
    have HAH := fun W v h1 h2 h3 => lHd (j0z b W1.heap.size base v (a0t al.v bl.v b true) [a0t al.v bh.v b true, a0t ah.v bl.v b true, a0t ah.v bh.v b true] W h1 (by simp) (by simp) (by omega) h2 h3)
    generalize a0t al.v bl.v b false = d0 at *
    generalize a0t al.v bh.v b false = d1 at *
    generalize a0t ah.v bl.v b false = d2 at *
    generalize a0t ah.v bh.v b false = d3 at *
    generalize a0t al.v bl.v b true = e0 at *
    generalize a0t al.v bh.v b true = e1 at *
    generalize a0t ah.v bl.v b true = e2 at *
    generalize a0t ah.v bh.v b true = e3 at *
    generalize pCut (lowD d0 [d1, d2, d3]) b false = rl at *
    generalize pCut (f0a d0 [d1, d2, d3]) b true = xl at *
    generalize pCut (lowD e0 [e1, e2, e3]) b false = xh at *
    generalize pCut (f0a e0 [e1, e2, e3]) b true = rh at *
    go_wp2_with fail
    have rf0 := q0c
    have rf1 := q0d
    ((with_reducible refine (HAL _ _ O7 hTo (Nat.le_trans hbase hb2.size)).out.mono ?_))
    rintro ex wx ⟨px, cx, qx, dx, rfl, hox, hoxx, hbx⟩
    have hs3 := hb2.trans (hbx.mono hb2.size)
    replace R := R.past hbx
    replace RT := RT.past hbx
    replace O8 := O8.past hbx
    replace hTo := hTo.past hbx
    go_wp2_with fail
    ((with_reducible refine (HAH _ _ O8 hTo (Nat.le_trans hbase hs3.size)).out.mono ?_))
    rintro ey wy ⟨py, cy, qy, dy, rfl, hoy, hoyy, hby⟩
    have hs4 := hs3.trans (hby.mono hs3.size)
    replace R := R.past hby
    replace RT := RT.past hby
    replace hox := hox.past hby
    obtain ⟨R_0, R_1, R_2, R_3, R_4, R_5⟩ := (R).e6
    have R_f0 := (R).f 0
    have R_f1 := (R).f 1
    have R_f2 := (R).f 2
    have R_f3 := (R).f 3
    have R_f4 := (R).f 4
    have R_f5 := (R).f 5
    go_wp2_with fail
    refine bodyPost_ret (v := .agg #[.bool rl.neg, .slice px (dig B32 rl.m).length cx, .int .i64 rl.e, .bool rh.neg, .slice qy (dig B32 rh.m).length dy, .int .i64 rh.e]) (by simp [results, Tryd.results39, go_sem, R_0, R_1, R_2, R_3, R_4, R_5]) rfl ?_
    exact f0k hs4 hox hoyy (Nat.le_refl _) (by omega) (hox.ne_tb RT (by decide)) (hoyy.ne_tb RT (by decide))
end Go.Proofs.YthcoapcffhgckaaDoor
namespace Go.Slip
end Go.Slip
namespace Go.Proofs.YthcoapcffhgckaaDoor
open Go.RowKit Go.Slip
theorem y0u (w : World) (L : List Rw) (base0 : Nat) (vs : Array Value) (hvs : vs = (a0u L).toArray) (hb : base0 ≤ w.heap.size) (hl : L.length ≤ 1000) : RowW (w.alloc (.cells vs 61)) base0 (.slice (some ⟨w.heap.size, 0, none⟩) L.length L.length) L := by
 subst hvs
 refine ⟨d0v L, .inr ⟨w.heap.size, L.length, (a0u L).toArray, rfl, hb, heap_alloc_new w _, Nat.le_refl _, by unfold maxLen; omega, ?_, ?_⟩⟩
 · simp only [List.size_toArray]; exact d0v L
 · show (a0u L).take (L.length * 3) = a0u L
   rw [← d0v, List.take_length]
theorem q0e (b base : Nat) (x y z t : Rw) (w : World) (hx : InW w base x) (hy : InW w base y) (hz : InW w base z) (ht : InW w base t) (hb : b ≤ 1000000) (hT : TabW w) (hbase : base ≤ w.heap.size) :
 Calls Tryd.prog 55 #[.int .i64 b, .slice (some ⟨w.heap.size, 0, none⟩) 4 4] (w.alloc (.cells #[.bool x.g, .slice x.p (dig B32 x.m).length x.c, .int .i64 x.e, .bool y.g, .slice y.p (dig B32 y.m).length y.c, .int .i64 y.e, .bool z.g, .slice z.p (dig B32 z.m).length z.c, .int .i64 z.e, .bool t.g, .slice t.p (dig B32 t.m).length t.c, .int .i64 t.e] 61))
  (h0f w base (pCut (lowD x.v [y.v, z.v, t.v]) b false) (pCut (f0a x.v [y.v, z.v, t.v]) b true)) := by
 have hl := a0l w (.cells #[.bool x.g, .slice x.p (dig B32 x.m).length x.c, .int .i64 x.e, .bool y.g, .slice y.p (dig B32 y.m).length y.c, .int .i64 y.e, .bool z.g, .slice z.p (dig B32 z.m).length z.c, .int .i64 z.e, .bool t.g, .slice t.p (dig B32 t.m).length t.c, .int .i64 t.e] 61)
 refine (j0z b base base _ x.v [y.v, z.v, t.v] _ ⟨[x, y, z, t], y0u w [x, y, z, t] base _ rfl hbase (by simp), rfl, ?_⟩ (by simp) (by simp) hb (hT.past hl) (Nat.le_trans hbase hl.size)).mono ?_
 · intro u hu
   simp only [List.mem_cons, List.not_mem_nil, or_false] at hu
   rcases hu with rfl | rfl | rfl | rfl
   · exact hx.past hl
   · exact hy.past hl
   · exact hz.past hl
   · exact ht.past hl
 · rintro en w' ⟨p, c, q, d, he, h1, h2, h3⟩
   exact ⟨p, c, q, d, he, h1, h2, hl.trans (h3.mono hl.size)⟩
theorem d0w {P : Program} {c : Code} {Q : Exit → Act → World → Prop} {a : Act} {w : World} {v1 v2 v3 : Array Value} {t1 t2 t3 : TypeId} (h : ∀ W, Below w.heap.size w W → w.heap.size + 1 + 1 < W.heap.size → Bx W w.heap.size v1 → Bx W (w.heap.size + 1) v2 → Bx W (w.heap.size + 1 + 1) v3 → Tb W (w.heap.size + 1 + 1) t3 → c.wp P Q a W) :
 c.wp P Q a (((w.alloc (.cells v1 t1)).alloc (.cells v2 t2)).alloc (.cells v3 t3)) := by
 obtain ⟨W, rfl, k1, k2, k3, k4, k5⟩ := lay3 w v1 t1 v2 t2 v3 t3
 refine h _ k1 k2 k3 k4 k5 ?_
 have h1 := w0e ((w.alloc (.cells v1 t1)).alloc (.cells v2 t2)) v3 t3
 rw [show ((w.alloc (.cells v1 t1)).alloc (.cells v2 t2)).heap.size = w.heap.size + 1 + 1 by simp] at h1
 exact h1
theorem w0g (al ah bl bh : Rw) (b base : Nat) (w : World) (h1 : InW w base al) (h2 : InW w base ah) (h3 : InW w base bl) (h4 : InW w base bh) (hb : b ≤ 5000) (hT : TabW w) (hbase : base ≤ w.heap.size) :
 Calls Tryd.prog 30 #[.agg #[.bool al.g, .slice al.p (dig B32 al.m).length al.c, .int .i64 al.e, .bool ah.g, .slice ah.p (dig B32 ah.m).length ah.c, .int .i64 ah.e], .agg #[.bool bl.g, .slice bl.p (dig B32 bl.m).length bl.c, .int .i64 bl.e, .bool bh.g, .slice bh.p (dig B32 bh.m).length bh.c, .int .i64 bh.e], .int .i64 b] w (h0f w base (pCut (lowD al.v [ah.v, bl.v, bh.v]) b false) (pCut (f0a al.v [ah.v, bl.v, bh.v]) b true)) := by
 have HA := fun W k1 k2 k3 k4 k5 k6 => lHd (q0e b base al ah bl bh W k1 k2 k3 k4 (by omega) k5 k6)
 generalize pCut (lowD al.v [ah.v, bl.v, bh.v]) b false = rl at *
 generalize pCut (f0a al.v [ah.v, bl.v, bh.v]) b true = rh at *
 go_enter Tryd.func30, Tryd.ntmps30
 go_upto_region 1 with (fail)
 refine d0w (fun W1 hs1 hz1 A B R RT => ?_)
 obtain ⟨A_0, A_1, A_2, A_3, A_4, A_5⟩ := (A).e6
 have A_f0 := (A).f 0
 have A_f1 := (A).f 1
 have A_f2 := (A).f 2
 have A_f3 := (A).f 3
 have A_f4 := (A).f 4
 have A_f5 := (A).f 5
 obtain ⟨B_0, B_1, B_2, B_3, B_4, B_5⟩ := (B).e6
 have B_f0 := (B).f 0
 have B_f1 := (B).f 1
 have B_f2 := (B).f 2
 have B_f3 := (B).f 3
 have B_f4 := (B).f 4
 have B_f5 := (B).f 5
 go_wp2_with fail
 ((with_reducible refine (HA _ (h1.past hs1) (h2.past hs1) (h3.past hs1) (h4.past hs1) (hT.past hs1) (Nat.le_trans hbase hs1.size)).out.mono ?_))
 clear A_0 A_1 A_2 A_3 A_4 A_5 B_0 B_1 B_2 B_3 B_4 B_5
 rintro e2 w2 ⟨p2, c2, q2, d2, rfl, ho2, hq2, hb2⟩
 have hs2 := hs1.trans (hb2.mono hs1.size)
 replace R := R.past hb2
 replace RT := RT.past hb2
 obtain ⟨R_0, R_1, R_2, R_3, R_4, R_5⟩ := (R).e6
 have R_f0 := (R).f 0
 have R_f1 := (R).f 1
 have R_f2 := (R).f 2
 have R_f3 := (R).f 3
 have R_f4 := (R).f 4
 have R_f5 := (R).f 5
 go_wp2_with fail
 refine bodyPost_ret (v := .agg #[.bool rl.neg, .slice p2 (dig B32 rl.m).length c2, .int .i64 rl.e, .bool rh.neg, .slice q2 (dig B32 rh.m).length d2, .int .i64 rh.e]) (by simp [results, Tryd.results30, go_sem, R_0, R_1, R_2, R_3, R_4, R_5]) rfl ?_
 exact f0k hs2 ho2 hq2 (Nat.le_refl _) (by omega) (ho2.ne_tb RT (by decide)) (hq2.ne_tb RT (by decide))
def b0o (a b : Din) : Int := if b0t a b = 0 then (if 0 < pCmp (dyV a) (dyV b) then 4 else 0) else b0t a b
theorem d0d {a b : Din} (h : b0o a b = 0) : a0w a = 0 ∧ a0w b = 0 ∧ pCmp (dyV a) (dyV b) ≤ 0 := by
 unfold b0o at h
 by_cases h1 : b0t a b = 0
 · rw [if_pos h1] at h
   obtain ⟨h2, h3⟩ := f0f h1
   refine ⟨h2, h3, ?_⟩
   split at h
   · omega
   · omega
 · rw [if_neg h1] at h; exact absurd h h1
theorem w0h {w w' : World} {a : Din} {base : Nat} {p : OA} {c : Nat} (ha : InD w a) (he : a0w a = 0) (ho : Own w' base .u32 55 p c (dig B32 (dyV a).m)) :
 InW w' base ⟨(dyV a).neg, p, c, (dyV a).m, (dyV a).e⟩ := by
 obtain ⟨h1, h2, h3⟩ := i0f ha he
 exact ⟨ho, by simp only; omega, by simp only; omega, by simp only; omega⟩
theorem n0c (a b : Din) (w : World) (ha : InD w a) (hb : InD w b) (hT : TabW w) :
 Calls Tryd.prog 61 #[.agg #[.bool a.g, .slice a.p a.xs.length a.c, .int .i64 a.e, .bool b.g, .slice b.p b.xs.length b.c, .int .i64 b.e]] w fun en w' => en = .returned (.int .i64 (b0o a b)) ∧ Below w.heap.size w w' := by
 have HE := lHd (show b0o a b = if a0w a = 0 then (if a0w b = 0 then (if 0 < pCmp (dyV a) (dyV b) then 4 else 0) else a0w b) else a0w a by
   unfold b0o b0t
   by_cases h1 : a0w a = 0
   · simp only [if_pos h1]
   · simp only [if_neg h1])
 have HCA := fun W (h : InD W a) => lHd (g0e a W h.rd h.len)
 have HCB := fun W (h : InD W b) => lHd (g0e b W h.rd h.len)
 have HOA := fun W (he : a0w a = 0) h1 h2 => lHd (h0g a W h1 he h2)
 have HOB := fun W (he : a0w b = 0) h1 h2 => lHd (h0g b W h1 he h2)
 have HWA := fun W base p c (he : a0w a = 0) h => w0h (w' := W) (base := base) (p := p) (c := c) ha he h
 have HWB := fun W base p c (he : a0w b = 0) h => w0h (w' := W) (base := base) (p := p) (c := c) hb he h
 obtain ⟨ea, hea⟩ : ∃ ea, a0w a = ea := ⟨_, rfl⟩
 obtain ⟨eb, heb⟩ : ∃ eb, a0w b = eb := ⟨_, rfl⟩
 rw [hea] at HE HCA HOA HWA
 rw [heb] at HE HCB HOB HWB
 clear hea heb
 go_enter Tryd.func61, Tryd.ntmps61
 go_wp2_with fail
 refine p0l (fun W1 hb1 hz1 A L => ?_)
 have hs1 := hb1
 obtain ⟨LB, hLB⟩ : ∃ LB, w.heap.size + 1 = LB := ⟨_, rfl⟩
 rw [hLB] at L ⊢
 have HLB := lHd hLB
 clear hLB
 go_loopg [12] 2 (fun gk iv wr => ∃ (i : Nat), iv = .int .i64 i ∧ gk + i = 2 ∧ Below w.heap.size w wr ∧ Bx wr w.heap.size #[.bool a.g, .slice a.p a.xs.length a.c, .int .i64 a.e, .bool b.g, .slice b.p b.xs.length b.c, .int .i64 b.e] ∧ Bx wr LB #[.bool a.g, .slice a.p a.xs.length a.c, .int .i64 a.e, .bool b.g, .slice b.p b.xs.length b.c, .int .i64 b.e] ∧ Hid ((1 ≤ i → ea = 0) ∧ (2 ≤ i → eb = 0)))
 case atStart => exact ⟨0, rfl, rfl, hs1, A, L, ⟨fun h => by omega, fun h => by omega⟩⟩
 case round =>
  obtain ⟨i, rfl, hgk, hb2, A, L, HF⟩ := hrel
  have hA2 := ha.past hb2
  have hB2 := hb.past hb2
  have hT2 := hT.past hb2
  by_cases hi0 : i = 0
  · subst hi0
    obtain rfl : gk = 2 := by omega
    obtain ⟨L_0, L_1, L_2, L_3, L_4, L_5⟩ := L.e6
    go_upto_region 4 with (fail)
    clear L_0 L_1 L_2 L_3 L_4 L_5
    refine c0l (fun W4 hb4 hz4 X => ?_)
    replace A := A.past hb4
    replace L := L.past hb4
    have hs4 := hb2.trans (hb4.mono hb2.size)
    obtain ⟨X_0, X_1, X_2⟩ := X.e3
    go_wp2_with fail
    clear X_0 X_1 X_2
    ((with_reducible refine ((HCA _ (hA2.past hb4)).out).mono ?_))
    rintro e5 w5 ⟨rfl, hb5⟩
    replace A := A.past hb5
    replace L := L.past hb5
    replace X := X.past hb5
    have hs5 := hs4.trans (hb5.mono hs4.size)
    by_cases h0 : ea = 0
    · have t1 : (ea == 0) = true := by simpa using h0
      have t2 : (ea != 0) = false := by simpa using h0
      have H0 := lHd h0
      clear h0
      go_upto_region 7 with (fail)
      go_wp2_with fail
      go_roundg 1
      case measure => omega
      case rel => exact ⟨1, by go_num, rfl, hs5, A, L, ⟨fun _ => H0.out, fun h => by omega⟩⟩
    · have t1 : (ea == 0) = false := bFn h0
      have t2 : (ea != 0) = true := by rw [bne, t1]; rfl
      have HEE := lHd (HE.out.trans (if_neg h0))
      clear h0
      go_wp2
      go_ret
      exact ⟨a0s HEE.out.symm, hs5⟩
  · by_cases hi1 : i = 1
    · subst hi1
      obtain rfl : gk = 1 := by omega
      have H0 := lHd (HF.out.1 (Nat.le_refl _))
      obtain ⟨L_0, L_1, L_2, L_3, L_4, L_5⟩ := L.e6
      go_upto_region 4 with (fail)
      clear L_0 L_1 L_2 L_3 L_4 L_5
      refine c0l (fun W4 hb4 hz4 X => ?_)
      replace A := A.past hb4
      replace L := L.past hb4
      have hs4 := hb2.trans (hb4.mono hb2.size)
      obtain ⟨X_0, X_1, X_2⟩ := X.e3
      go_wp2_with fail
      clear X_0 X_1 X_2
      ((with_reducible refine ((HCB _ (hB2.past hb4)).out).mono ?_))
      rintro e5 w5 ⟨rfl, hb5⟩
      replace A := A.past hb5
      replace L := L.past hb5
      replace X := X.past hb5
      have hs5 := hs4.trans (hb5.mono hs4.size)
      by_cases h0 : eb = 0
      · have t1 : (eb == 0) = true := by simpa using h0
        have t2 : (eb != 0) = false := by simpa using h0
        have H1 := lHd h0
        clear h0
        go_upto_region 7 with (fail)
        go_wp2_with fail
        go_roundg 0
        case measure => omega
        case rel => exact ⟨2, by go_num, rfl, hs5, A, L, ⟨fun _ => H0.out, fun _ => H1.out⟩⟩
      · have t1 : (eb == 0) = false := bFn h0
        have t2 : (eb != 0) = true := by rw [bne, t1]; rfl
        have HEE := lHd (HE.out.trans ((if_pos H0.out).trans (if_neg h0)))
        clear h0
        go_wp2
        go_ret
        exact ⟨a0s HEE.out.symm, hs5⟩
    · obtain rfl : i = 2 := by omega
      obtain rfl : gk = 0 := by omega
      have H0 := lHd (HF.out.1 (by omega))
      have H1 := lHd (HF.out.2 (Nat.le_refl _))
      have HEE := lHd (HE.out.trans ((if_pos H0.out).trans (if_pos H1.out)))
      have HOA := fun W h1 h2 => HOA W H0.out h1 h2
      have HOB := fun W h1 h2 => HOB W H1.out h1 h2
      have HWA := fun W base p c h => HWA W base p c H0.out h
      have HWB := fun W base p c h => HWB W base p c H1.out h
      generalize dyV a = va at *
      generalize dyV b = vb at *
      obtain ⟨C, hC⟩ : ∃ C, pCmp va vb = C := ⟨_, rfl⟩
      rw [hC] at HEE
      have HC := lHd hC
      clear hC
      go_upto_region 8 with (fail)
      go_region_held3 (fun w' => w'.cell? ⟨w.heap.size, 0, none⟩ = some (.bool a.g) ∧ w'.cell? ⟨w.heap.size, 1, none⟩ = some (.slice a.p a.xs.length a.c) ∧ w'.cell? ⟨w.heap.size, 2, none⟩ = some (.int .i64 a.e) ∧ w'.cell? ⟨w.heap.size, 3, none⟩ = some (.bool b.g) ∧ w'.cell? ⟨w.heap.size, 4, none⟩ = some (.slice b.p b.xs.length b.c) ∧ w'.cell? ⟨w.heap.size, 5, none⟩ = some (.int .i64 b.e))
       (first
         | with_reducible exact A.e6
         | with_reducible exact A.drew.e6
         | with_reducible exact (A.drew.past hbx).e6
         | with_reducible exact ((A.drew.past hbx).past hby).e6
         | with_reducible exact (((A.drew.past hbx).past hby).past hbz).e6)
       (first
         | (go_at_call_of 22 (Value.agg #[.bool a.g, .slice a.p a.xs.length a.c, .int .i64 a.e]); ((with_reducible refine (HOA _ hA2.drew hT2.drew).out.mono ?_)); rintro ex wx ⟨px, cx, rfl, hox, hbx⟩)
         | (go_at_call_of 22 (Value.agg #[.bool b.g, .slice b.p b.xs.length b.c, .int .i64 b.e]); ((with_reducible refine (HOB _ (hB2.drew.past hbx) (hT2.drew.past hbx)).out.mono ?_)); rintro ey wy ⟨py, cy, rfl, hoy, hby⟩)
         | (go_at_call 71; ((with_reducible refine (i0w ⟨va.neg, px, cx, va.m, va.e⟩ ⟨vb.neg, py, cy, vb.m, vb.e⟩ _ _ _ (HWA _ _ _ _ (hox.past hby)) (HWB _ _ _ _ hoy)).mono ?_)); rw [show pCmp (Rw.v ⟨va.neg, px, cx, va.m, va.e⟩) (Rw.v ⟨vb.neg, py, cy, vb.m, vb.e⟩) = C from HC.out]; rintro ez wz ⟨rfl, hbz⟩))
      have hsz := ((hb2.drew.trans (hbx.mono hb2.size)).trans (hby.mono (Nat.le_trans hb2.size hbx.size))).trans (hbz.mono (Nat.le_trans (Nat.le_trans hb2.size hbx.size) hby.size))
      by_cases hC : 0 < C
      · have HEF := lHd (HEE.out.trans (if_pos hC))
        go_wp2
        go_ret
        exact ⟨a0s HEF.out.symm, hsz⟩
      · have HEF := lHd (HEE.out.trans (if_neg hC))
        go_wp2
        go_ret
        exact ⟨a0s HEF.out.symm, hsz⟩
def b0m : List (Din × Din) → Int
 | [] => 0
 | x :: xs => if b0o x.1 x.2 = 0 then b0m xs else b0o x.1 x.2
def errC (n : Int) (L : List (Din × Din)) : Int := if b0m L = 0 then (if n < 1 ∨ 4096 < n then 3 else 0) else b0m L
structure In2 (w : World) (x : Din × Din) : Prop where
 a : InD w x.1
 b : InD w x.2
theorem In2.past {w w' : World} {x : Din × Din} (h : In2 w x) (hb : Below w.heap.size w w') : In2 w' x := ⟨h.a.past hb, h.b.past hb⟩
theorem s0v (n : Int) (g c : Nat) (L : List (Din × Din)) (w : World)
 (hc : ∀ j (h : j < L.length), w.cell? ⟨g, j * 6, none⟩ = some (.bool L[j].1.g) ∧ w.cell? ⟨g, j * 6 + 1, none⟩ = some (.slice L[j].1.p L[j].1.xs.length L[j].1.c) ∧ w.cell? ⟨g, j * 6 + 2, none⟩ = some (.int .i64 L[j].1.e) ∧
   w.cell? ⟨g, j * 6 + 3, none⟩ = some (.bool L[j].2.g) ∧ w.cell? ⟨g, j * 6 + 4, none⟩ = some (.slice L[j].2.p L[j].2.xs.length L[j].2.c) ∧ w.cell? ⟨g, j * 6 + 5, none⟩ = some (.int .i64 L[j].2.e))
 (hr : ∀ j (h : j < L.length), In2 w L[j]) (hg : g < w.heap.size) (k : Nat) (hn : k = L.length) (hl : L.length ≤ 1000000) (hT : TabW w) :
 Calls Tryd.prog 36 #[.int .i64 n, .slice (some ⟨g, 0, none⟩) k c] w fun e w' => e = .returned (.int .i64 (errC n L)) ∧ Below w.heap.size w w' := by
 subst hn
 have HC := lHd hc
 have HR := lHd hr
 have HE := lHd (show errC n L = if b0m L = 0 then (if n < 1 ∨ 4096 < n then 3 else 0) else b0m L from rfl)
 clear hc hr
 go_enter Tryd.func36, Tryd.ntmps36
 go_wp2
 go_loopg [10] L.length (fun gk iv wr => ∃ (i : Nat), iv = .int .i64 i ∧ gk + i = L.length ∧ Below w.heap.size w wr ∧ Hid (b0m L = b0m (L.drop i)))
 case atStart => exact ⟨0, rfl, rfl, Below.refl _ _, rfl⟩
 case round =>
  obtain ⟨i, rfl, hgk, hb, HF⟩ := hrel
  by_cases hlt : i < L.length
  · obtain ⟨a, b, hL⟩ : ∃ a b, L[i] = (a, b) := ⟨_, _, rfl⟩
    obtain ⟨k0, k1, k2, k3, k4, k5⟩ := HC.out i hlt
    have hx := (HR.out i hlt).past hb
    have hT1 := hT.past hb
    have hF := HF.out
    rw [List.drop_eq_getElem_cons hlt, hL] at hF
    rw [hL] at k0 k1 k2 k3 k4 k5 hx
    simp only at k0 k1 k2 k3 k4 k5 hx
    rw [← Below.cell hb hg] at k0 k1 k2 k3 k4 k5
    have HFF := lHd hF
    have hgi : 0 < gk := by omega
    clear hL hF
    go_upto_region 4 with (fail)
    clear k0 k1 k2 k3 k4 k5
    refine c0l (fun W4 hb4 hz4 X => ?_)
    replace hx := hx.past hb4
    replace hT1 := hT1.past hb4
    have hs4 := hb.trans (hb4.mono hb.size)
    obtain ⟨X_0, X_1, X_2, X_3, X_4, X_5⟩ := X.e6
    go_wp2_with fail
    clear X_0 X_1 X_2 X_3 X_4 X_5
    ((with_reducible refine ((n0c a b _ hx.a hx.b hT1)).mono ?_))
    rintro e5 w5 ⟨rfl, hb5⟩
    replace X := X.past hb5
    replace hx := hx.past hb5
    replace hT1 := hT1.past hb5
    have hs5 := hs4.trans (hb5.mono hs4.size)
    obtain ⟨er, her⟩ : ∃ er, b0o a b = er := ⟨_, rfl⟩
    rw [her]
    by_cases he : er = 0
    · have t1 : (er == 0) = true := by simpa using he
      have t2 : (er != 0) = false := by simpa using he
      have HEE : Hid (b0m L = b0m (L.drop (i + 1))) := by
       have := HFF.out
       simp only [b0m, her, if_pos he] at this
       exact this
      clear he her
      go_wp2_with fail
      go_roundg (gk - 1)
      case measure => omega
      case rel => exact ⟨i + 1, by go_num, by omega, hs5, HEE⟩
    · have t1 : (er == 0) = false := bFn he
      have t2 : (er != 0) = true := by rw [bne, t1]; rfl
      have HEE : Hid (errC n L = er) := by
       have := HFF.out
       simp only [b0m, her, if_neg he] at this
       show errC n L = er
       rw [HE.out, this, if_neg he]
      clear he her
      go_wp2
      go_ret
      exact ⟨a0s HEE.out.symm, hs5⟩
  · have H : Hid (errC n L = if n < 1 ∨ 4096 < n then 3 else 0) := by
     have := HF.out
     rw [List.drop_of_length_le (by omega)] at this
     show errC n L = _
     rw [HE.out, this]; rfl
    by_cases h1 : n < 1
    · have H2 := lHd (H.out.trans (if_pos (.inl h1)))
      go_wp2
      go_ret
      exact ⟨a0s H2.out.symm, hb⟩
    · by_cases h2 : 4096 < n
      · have H2 := lHd (H.out.trans (if_pos (.inr h2)))
        go_wp2
        go_ret
        exact ⟨a0s H2.out.symm, hb⟩
      · have H2 := lHd (H.out.trans (if_neg (by omega)))
        go_wp2
        go_ret
        exact ⟨a0s H2.out.symm, hb⟩
theorem k0a (n : Int) (a b a' b' : Din) (w : World) (bk : Nat) (hbk : bk = w.heap.size) (ha : InD w a) (hb : InD w b) (ha' : InD w a') (hb' : InD w b') (hT : TabW w) :
 Calls Tryd.prog 36 #[.int .i64 n, .slice (some ⟨bk, 0, none⟩) 2 2] (w.alloc (.cells #[.bool a.g, .slice a.p a.xs.length a.c, .int .i64 a.e, .bool b.g, .slice b.p b.xs.length b.c, .int .i64 b.e, .bool a'.g, .slice a'.p a'.xs.length a'.c, .int .i64 a'.e, .bool b'.g, .slice b'.p b'.xs.length b'.c, .int .i64 b'.e] 46)) fun e w' =>
  e = .returned (.int .i64 (errC n [(a, b), (a', b')])) ∧ Below (w.heap.size + 1) (w.alloc (.cells #[.bool a.g, .slice a.p a.xs.length a.c, .int .i64 a.e, .bool b.g, .slice b.p b.xs.length b.c, .int .i64 b.e, .bool a'.g, .slice a'.p a'.xs.length a'.c, .int .i64 a'.e, .bool b'.g, .slice b'.p b'.xs.length b'.c, .int .i64 b'.e] 46)) w' := by
 subst hbk
 have h := s0v n w.heap.size 2 [(a, b), (a', b')] (w.alloc (.cells #[.bool a.g, .slice a.p a.xs.length a.c, .int .i64 a.e, .bool b.g, .slice b.p b.xs.length b.c, .int .i64 b.e, .bool a'.g, .slice a'.p a'.xs.length a'.c, .int .i64 a'.e, .bool b'.g, .slice b'.p b'.xs.length b'.c, .int .i64 b'.e] 46)) (fun j h => by
   match j, h with
   | 0, _ => simp [go_sem]
   | 1, _ => simp [go_sem]) (fun j h => by
   match j, h with
   | 0, _ => exact ⟨ha.laid _, hb.laid _⟩
   | 1, _ => exact ⟨ha'.laid _, hb'.laid _⟩) (by simp) 2 rfl (by simp) (hT.laid _)
 simpa using h
def e0u (w : World) (base : Nat) (l h : Dv) (er : Int) (en : Ending) (w' : World) : Prop :=
 ∃ p c q d, en = .returned (.tuple #[.agg #[.bool l.neg, .slice p (dig B32 l.m).length c, .int .i64 l.e, .bool h.neg, .slice q (dig B32 h.m).length d, .int .i64 h.e], .int .i64 er]) ∧
  Own w' base .u32 55 p c (dig B32 l.m) ∧ Own w' base .u32 55 q d (dig B32 h.m) ∧ Below w.heap.size w w'
theorem d0n {w wk : World} {base b : Nat} {l h : Dv} {er : Int} {p q : OA} {c d : Nat} {v0 v1 v2 v3 v4 v5 : Value} (hs : Below w.heap.size w wk) (ho : Own wk base .u32 55 p c (dig B32 l.m)) (hq : Own wk base .u32 55 q d (dig B32 h.m))
 (hB : w.heap.size ≤ b) (hT : Tb wk b 46) :
 e0u w base l h er (.returned (.tuple #[.agg #[.bool l.neg, .slice p (dig B32 l.m).length c, .int .i64 l.e, .bool h.neg, .slice q (dig B32 h.m).length d, .int .i64 h.e], .int .i64 er]))
  ((((((wk.setCell ⟨b, 0, none⟩ v0).setCell ⟨b, 1, none⟩ v1).setCell ⟨b, 2, none⟩ v2).setCell ⟨b, 3, none⟩ v3).setCell ⟨b, 4, none⟩ v4).setCell ⟨b, 5, none⟩ v5) :=
 have hO := e0z wk b v0 v1 v2 v3 v4 v5
 ⟨p, c, q, d, rfl, ho.only hO (ho.ne_tb hT (by decide)), hq.only hO (hq.ne_tb hT (by decide)), hs.trans (hO.below hB)⟩
theorem c0v {w wk : World} {base b : Nat} {er : Int} {v0 v1 v2 v3 v4 v5 : Value} (hs : Below w.heap.size w wk) (hB : w.heap.size ≤ b) :
 e0u w base e0y e0y er (.returned (.tuple #[.agg #[.bool false, .slice none 0 0, .int .i64 0, .bool false, .slice none 0 0, .int .i64 0], .int .i64 er]))
  ((((((wk.setCell ⟨b, 0, none⟩ v0).setCell ⟨b, 1, none⟩ v1).setCell ⟨b, 2, none⟩ v2).setCell ⟨b, 3, none⟩ v3).setCell ⟨b, 4, none⟩ v4).setCell ⟨b, 5, none⟩ v5) :=
 have hO := e0z wk b v0 v1 v2 v3 v4 v5
 have hd : dig B32 e0y.m = [] := a0b _
 ⟨none, 0, none, 0, by rw [hd]; rfl, by rw [hd]; exact Own.nil _ _ _ _, by rw [hd]; exact Own.nil _ _ _ _, hs.trans (hO.below hB)⟩
theorem q0f {P : Program} {f : FuncId} {args : Array Value} {R : Ending → World → Prop} {w : World} {v1 v2 : Array Value} {t1 t2 : TypeId} (h : ∀ W, Below w.heap.size w W → w.heap.size + 1 < W.heap.size → Bx W w.heap.size v1 → Bx W (w.heap.size + 1) v2 → Tb W (w.heap.size + 1) t2 → Calls P f args W R) :
 Calls P f args ((w.alloc (.cells v1 t1)).alloc (.cells v2 t2)) R := by
 obtain ⟨W, rfl, k1, k2, k3, k4⟩ := lay2 w v1 t1 v2 t2
 refine h _ k1 k2 k3 k4 ?_
 have h1 := w0e (w.alloc (.cells v1 t1)) v2 t2
 rw [show (w.alloc (.cells v1 t1)).heap.size = w.heap.size + 1 by simp] at h1
 exact h1
structure InL (w : World) (base : Nat) (a : Rw) : Prop where
 ow : Own w base .u32 55 a.p a.c (dig B32 a.m)
 len : (dig B32 a.m).length ≤ 1000000
theorem InL.past {w w' : World} {base : Nat} {a : Rw} (h : InL w base a) (hb : Below w.heap.size w w') : InL w' base a := ⟨h.ow.past hb, h.len⟩
theorem o0p (x : Rw) (base : Nat) (w : World) (h : InL w base x) :
 Calls Tryd.prog 24 #[.agg #[.bool x.g, .slice x.p (dig B32 x.m).length x.c, .int .i64 x.e]] w (c0b w base (c0k x.v) (errD x.v)) :=
 g0u x.g x.p _ x.c base x.e x.m w h.ow rfl (by have := h.len; omega)
theorem l0l {d : Dv} (h : errD d = 0) : c0k d = d := by unfold c0k; rw [if_pos h]
theorem q0g (l h : Rw) (base : Nat) (w : World) (hl : InL w base l) (hh : InL w base h) :
 Calls Tryd.prog 40 #[.agg #[.bool l.g, .slice l.p (dig B32 l.m).length l.c, .int .i64 l.e, .bool h.g, .slice h.p (dig B32 h.m).length h.c, .int .i64 h.e]] w (e0u w base (e0s l.v h.v) (e0t l.v h.v) (errB l.v h.v)) := by
 have HDL := fun W h1 => lHd (o0p l base W h1)
 have HDH := fun W h1 => lHd (o0p h base W h1)
 have HE := lHd (show errB l.v h.v = if errD l.v = 0 then errD h.v else errD l.v from rfl)
 have HP := lHd (show e0s l.v h.v = if errB l.v h.v = 0 then l.v else e0y from rfl)
 have HQ := lHd (show e0t l.v h.v = if errB l.v h.v = 0 then h.v else e0y from rfl)
 have HXL := lHd (fun k : errD l.v = 0 => l0l k)
 have HXH := lHd (fun k : errD h.v = 0 => l0l k)
 obtain ⟨e, he⟩ : ∃ e, errD l.v = e := ⟨_, rfl⟩
 obtain ⟨f, hf⟩ : ∃ f, errD h.v = f := ⟨_, rfl⟩
 obtain ⟨dl, hdl⟩ : ∃ dl, c0k l.v = dl := ⟨_, rfl⟩
 obtain ⟨dh, hdh⟩ : ∃ dh, c0k h.v = dh := ⟨_, rfl⟩
 rw [he] at HDL HE HXL
 rw [hf] at HDH HE HXH
 rw [hdl] at HDL HXL
 rw [hdh] at HDH HXH
 clear he hf hdl hdh
 go_enter Tryd.func40, Tryd.ntmps40
 go_wp2_with fail
 refine q0f (fun W1 hb1 hz1 A R RT => ?_)
 have hs1 := hb1
 replace hl := hl.past hb1
 replace hh := hh.past hb1
 obtain ⟨A_0, A_1, A_2, A_3, A_4, A_5⟩ := A.e6
 go_wp2_with fail
 clear A_0 A_1 A_2 A_3 A_4 A_5
 ((with_reducible refine ((HDL _ hl).out).mono ?_))
 rintro e2 w2 ⟨p2, c2, rfl, ho2, hb2⟩
 replace A := A.past hb2
 replace R := R.past hb2
 replace hl := hl.past hb2
 replace hh := hh.past hb2
 replace RT := RT.past hb2
 have hs2 := hs1.trans (hb2.mono hs1.size)
 go_upto_region 2 with (fail)
 refine c0l (fun W3 hb3 hz3 LO => ?_)
 replace A := A.past hb3
 replace R := R.past hb3
 replace hl := hl.past hb3
 replace hh := hh.past hb3
 replace RT := RT.past hb3
 replace ho2 := ho2.past hb3
 have hs3 := hs2.trans (hb3.mono hs2.size)
 obtain ⟨A_0, A_1, A_2, A_3, A_4, A_5⟩ := A.e6
 go_wp2_with fail
 clear A_0 A_1 A_2 A_3 A_4 A_5
 ((with_reducible refine ((HDH _ hh).out).mono ?_))
 rintro e4 w4 ⟨p4, c4, rfl, ho4, hb4⟩
 replace A := A.past hb4
 replace R := R.past hb4
 replace LO := LO.past hb4
 replace hl := hl.past hb4
 replace hh := hh.past hb4
 replace RT := RT.past hb4
 replace ho2 := ho2.past hb4
 have hs4 := hs3.trans (hb4.mono hs3.size)
 go_upto_region 4 with (fail)
 refine p0l (fun W5 hb5 hz5 HI ES => ?_)
 replace A := A.past hb5
 replace R := R.past hb5
 replace LO := LO.past hb5
 replace hl := hl.past hb5
 replace hh := hh.past hb5
 replace RT := RT.past hb5
 replace ho2 := ho2.past hb5
 replace ho4 := ho4.past hb5
 have hs5 := hs4.trans (hb5.mono hs4.size)
 have hzw1 := hs1.size
 go_loopg [26] 2 (fun gk iv wr => ∃ (i : Nat), iv = .int .i64 i ∧ gk + i = 2 ∧ wr = W5 ∧ Hid ((1 ≤ i → e = 0) ∧ (2 ≤ i → f = 0)))
 case atStart => exact ⟨0, rfl, rfl, rfl, ⟨fun h => by omega, fun h => by omega⟩⟩
 case round =>
  obtain ⟨i, rfl, hgk, rfl, HF⟩ := hrel
  obtain ⟨ES_0, ES_1⟩ := ES.e2
  by_cases hi0 : i = 0
  · subst hi0
    obtain rfl : gk = 2 := by omega
    by_cases h0 : e = 0
    · have t1 : (e == 0) = true := by simpa using h0
      have t2 : (e != 0) = false := by simpa using h0
      have H0 := lHd h0
      clear h0
      go_wp2_with fail
      go_roundg 1
      case measure => omega
      case rel => exact ⟨1, by go_num, rfl, rfl, ⟨fun _ => H0.out, fun h => by omega⟩⟩
    · have t1 : (e == 0) = false := bFn h0
      have t2 : (e != 0) = true := by rw [bne, t1]; rfl
      have HEE := lHd (HE.out.trans (if_neg h0))
      have HPP := lHd (HP.out.trans (if_neg (by rw [HEE.out]; exact h0)))
      have HQQ := lHd (HQ.out.trans (if_neg (by rw [HEE.out]; exact h0)))
      clear h0
      obtain ⟨R_0, R_1, R_2, R_3, R_4, R_5⟩ := (R).e6
      have R_f0 := (R).f 0
      have R_f1 := (R).f 1
      have R_f2 := (R).f 2
      have R_f3 := (R).f 3
      have R_f4 := (R).f 4
      have R_f5 := (R).f 5
      go_wp2_with fail
      refine bodyPost_ret (v := .tuple #[.agg #[.bool false, .slice none 0 0, .int .i64 0, .bool false, .slice none 0 0, .int .i64 0], .int .i64 e]) (by simp [results, Tryd.results40, go_sem, R_0, R_1, R_2, R_3, R_4, R_5]) rfl ?_
      rw [HPP.out, HQQ.out, HEE.out]
      exact c0v hs5 (by omega)
  · by_cases hi1 : i = 1
    · subst hi1
      obtain rfl : gk = 1 := by omega
      have H0 := lHd (HF.out.1 (Nat.le_refl _))
      by_cases h0 : f = 0
      · have t1 : (f == 0) = true := by simpa using h0
        have t2 : (f != 0) = false := by simpa using h0
        have H1 := lHd h0
        clear h0
        go_wp2_with fail
        go_roundg 0
        case measure => omega
        case rel => exact ⟨2, by go_num, rfl, rfl, ⟨fun _ => H0.out, fun _ => H1.out⟩⟩
      · have t1 : (f == 0) = false := bFn h0
        have t2 : (f != 0) = true := by rw [bne, t1]; rfl
        have HEE := lHd (HE.out.trans (if_pos H0.out))
        have HPP := lHd (HP.out.trans (if_neg (by rw [HEE.out]; exact h0)))
        have HQQ := lHd (HQ.out.trans (if_neg (by rw [HEE.out]; exact h0)))
        clear h0
        obtain ⟨R_0, R_1, R_2, R_3, R_4, R_5⟩ := (R).e6
        have R_f0 := (R).f 0
        have R_f1 := (R).f 1
        have R_f2 := (R).f 2
        have R_f3 := (R).f 3
        have R_f4 := (R).f 4
        have R_f5 := (R).f 5
        go_wp2_with fail
        refine bodyPost_ret (v := .tuple #[.agg #[.bool false, .slice none 0 0, .int .i64 0, .bool false, .slice none 0 0, .int .i64 0], .int .i64 f]) (by simp [results, Tryd.results40, go_sem, R_0, R_1, R_2, R_3, R_4, R_5]) rfl ?_
        rw [HPP.out, HQQ.out, HEE.out]
        exact c0v hs5 (by omega)
    · obtain rfl : i = 2 := by omega
      obtain rfl : gk = 0 := by omega
      have H0 := lHd (HF.out.1 (by omega))
      have H1 := lHd (HF.out.2 (Nat.le_refl _))
      have HEE := lHd (HE.out.trans ((if_pos H0.out).trans H1.out))
      have HPP := lHd ((HP.out.trans (if_pos HEE.out)).trans (HXL.out H0.out).symm)
      have HQQ := lHd ((HQ.out.trans (if_pos HEE.out)).trans (HXH.out H1.out).symm)
      obtain ⟨R_0, R_1, R_2, R_3, R_4, R_5⟩ := (R).e6
      have R_f0 := (R).f 0
      have R_f1 := (R).f 1
      have R_f2 := (R).f 2
      have R_f3 := (R).f 3
      have R_f4 := (R).f 4
      have R_f5 := (R).f 5
      obtain ⟨LO_0, LO_1, LO_2⟩ := LO.e3
      obtain ⟨HI_0, HI_1, HI_2⟩ := HI.e3
      go_wp2_with fail
      refine bodyPost_ret (v := .tuple #[.agg #[.bool dl.neg, .slice p2 (dig B32 dl.m).length c2, .int .i64 dl.e, .bool dh.neg, .slice p4 (dig B32 dh.m).length c4, .int .i64 dh.e], .int .i64 0]) (by simp [results, Tryd.results40, go_sem, R_0, R_1, R_2, R_3, R_4, R_5]) rfl ?_
      rw [HPP.out, HQQ.out, HEE.out]
      exact d0n hs5 ho2 ho4 (by omega) RT
theorem h0i (x y : Din × Din) : b0m [x, y] = if b0o x.1 x.2 = 0 then b0o y.1 y.2 else b0o x.1 x.2 := by
 simp only [b0m]
 split <;> (try split) <;> simp_all
theorem n0d {n : Int} {a b a' b' : Din} (h : errC n [(a, b), (a', b')] = 0) : b0o a b = 0 ∧ b0o a' b' = 0 ∧ 1 ≤ n ∧ n ≤ 4096 := by
 unfold errC at h
 rw [h0i] at h
 by_cases h1 : b0o a b = 0
 · simp only [if_pos h1] at h
   by_cases h2 : b0o a' b' = 0
   · simp only [if_pos h2] at h
     refine ⟨h1, h2, ?_⟩
     split at h <;> omega
   · simp only [if_neg h2] at h
     exact absurd h h2
 · simp only [if_neg h1] at h
   exact absurd h h1
def twoE (n : Int) (L : List (Din × Din)) (rl rh : Dv) : Int := if errC n L = 0 then errB rl rh else errC n L
def twoL (n : Int) (L : List (Din × Din)) (rl rh : Dv) : Dv := if errC n L = 0 then e0s rl rh else e0y
def twoH (n : Int) (L : List (Din × Din)) (rl rh : Dv) : Dv := if errC n L = 0 then e0t rl rh else e0y
structure Fit (d : Dv) : Prop where
 len : (dig B32 d.m).length ≤ 1000000
 lo : -1000000 ≤ d.e
 hi : d.e ≤ 1000000
theorem i0k {w : World} {base : Nat} {d : Dv} {p : OA} {c : Nat} (ho : Own w base .u32 55 p c (dig B32 d.m)) (h : Fit d) : InW w base ⟨d.neg, p, c, d.m, d.e⟩ := ⟨ho, h.len, h.lo, h.hi⟩
theorem f0l {w : World} {a : Din} (h : InD w a) (he : a0w a = 0) : Fit (dyV a) := by
 obtain ⟨h1, h2, h3⟩ := i0f h he
 exact ⟨by omega, by omega, by omega⟩
theorem i0l {w : World} {a : Din} {p : OA} {c : Nat} (h : InD w a) (he : a0w a = 0) : Sm ⟨(dyV a).neg, p, c, (dyV a).m, (dyV a).e⟩ := by
 obtain ⟨h1, h2, h3⟩ := i0f h he
 exact ⟨by simp only; omega, by simp only; omega, by simp only; omega⟩
theorem f0m (l h : Dv) (p q : OA) (c d base : Nat) (w : World) (hl : Own w base .u32 55 p c (dig B32 l.m)) (hh : Own w base .u32 55 q d (dig B32 h.m)) (f1 : (dig B32 l.m).length ≤ 1000000) (f2 : (dig B32 h.m).length ≤ 1000000) :
 Calls Tryd.prog 40 #[.agg #[.bool l.neg, .slice p (dig B32 l.m).length c, .int .i64 l.e, .bool h.neg, .slice q (dig B32 h.m).length d, .int .i64 h.e]] w (e0u w base (e0s l h) (e0t l h) (errB l h)) :=
 q0g ⟨l.neg, p, c, l.m, l.e⟩ ⟨h.neg, q, d, h.m, h.e⟩ base w ⟨hl, f1⟩ ⟨hh, f2⟩
theorem q0h (a b a' b' : Din) (n : Int) (rl rh : Dv) (w : World) (ha : InD w a) (hb : InD w b) (ha' : InD w a') (hb' : InD w b') (hT : TabW w)
 (HF : errC n [(a, b), (a', b')] = 0 → (dig B32 rl.m).length ≤ 1000000 ∧ (dig B32 rh.m).length ≤ 1000000 ∧ ∀ W (al ah bl bh : Rw), al.v = dyV a → ah.v = dyV b → bl.v = dyV a' → bh.v = dyV b' → Sm al → Sm ah → Sm bl → Sm bh → ∀ base, InW W base al → InW W base ah → InW W base bl → InW W base bh → TabW W → base ≤ W.heap.size →
   Calls Tryd.prog 30 #[.agg #[.bool al.g, .slice al.p (dig B32 al.m).length al.c, .int .i64 al.e, .bool ah.g, .slice ah.p (dig B32 ah.m).length ah.c, .int .i64 ah.e], .agg #[.bool bl.g, .slice bl.p (dig B32 bl.m).length bl.c, .int .i64 bl.e, .bool bh.g, .slice bh.p (dig B32 bh.m).length bh.c, .int .i64 bh.e], .int .i64 n] W (h0f W base rl rh)) :
 Calls Tryd.prog 29 #[.agg #[.bool a.g, .slice a.p a.xs.length a.c, .int .i64 a.e, .bool b.g, .slice b.p b.xs.length b.c, .int .i64 b.e], .agg #[.bool a'.g, .slice a'.p a'.xs.length a'.c, .int .i64 a'.e, .bool b'.g, .slice b'.p b'.xs.length b'.c, .int .i64 b'.e], .int .i64 n, .func (.func 30) #[] #[]] w (e0u w w.heap.size (twoL n [(a, b), (a', b')] rl rh) (twoH n [(a, b), (a', b')] rl rh) (twoE n [(a, b), (a', b')] rl rh)) := by
 have HC := fun W k1 k2 k3 k4 k5 => lHd (k0a n a b a' b' W _ rfl k1 k2 k3 k4 k5)
 have HE := lHd (show twoE n [(a, b), (a', b')] rl rh = if errC n [(a, b), (a', b')] = 0 then errB rl rh else errC n [(a, b), (a', b')] from rfl)
 have HL := lHd (show twoL n [(a, b), (a', b')] rl rh = if errC n [(a, b), (a', b')] = 0 then e0s rl rh else e0y from rfl)
 have HH := lHd (show twoH n [(a, b), (a', b')] rl rh = if errC n [(a, b), (a', b')] = 0 then e0t rl rh else e0y from rfl)
 have HOK := lHd (fun h : errC n [(a, b), (a', b')] = 0 => n0d h)
 generalize errC n [(a, b), (a', b')] = ec at *
 by_cases h0 : ec = 0
 · obtain ⟨k1, k2, k3, k4⟩ := HOK.out h0
   obtain ⟨q1, q2, -⟩ := d0d k1
   obtain ⟨q3, q4, -⟩ := d0d k2
   have t1 : (ec == 0) = true := by simpa using h0
   have t2 : (ec != 0) = false := by simpa using h0
   rw [if_pos h0] at HE HL HH
   obtain ⟨f1, f2, HFF⟩ := HF h0
   have HFH := lHd HFF
   have HOA := fun W k1 k2 k3 => lHd (f0w a b W k1 k2 q1 q2 k3)
   have HOB := fun W k1 k2 k3 => lHd (f0w a' b' W k1 k2 q3 q4 k3)
   have HWa := fun W base p c h => i0k (w := W) (base := base) (p := p) (c := c) h (f0l ha q1)
   have HWb := fun W base p c h => i0k (w := W) (base := base) (p := p) (c := c) h (f0l hb q2)
   have HWa' := fun W base p c h => i0k (w := W) (base := base) (p := p) (c := c) h (f0l ha' q3)
   have HWb' := fun W base p c h => i0k (w := W) (base := base) (p := p) (c := c) h (f0l hb' q4)
   have HSa := fun p c => i0l (p := p) (c := c) ha q1
   have HSb := fun p c => i0l (p := p) (c := c) hb q2
   have HSa' := fun p c => i0l (p := p) (c := c) ha' q3
   have HSb' := fun p c => i0l (p := p) (c := c) hb' q4
   clear HFF HF HOK k1 k2 q1 q2 q3 q4 h0
   generalize dyV a = va at *
   generalize dyV b = vb at *
   generalize dyV a' = va' at *
   generalize dyV b' = vb' at *
   go_enter Tryd.func29, Tryd.ntmps29
   go_upto_region 1 with (fail)
   refine d0w (fun W1 hs1 hz1 A B R RT => ?_)
   replace ha := ha.past hs1
   replace hb := hb.past hs1
   replace ha' := ha'.past hs1
   replace hb' := hb'.past hs1
   replace hT := hT.past hs1
   obtain ⟨A_0, A_1, A_2, A_3, A_4, A_5⟩ := (A).e6
   have A_f0 := (A).f 0
   have A_f1 := (A).f 1
   have A_f2 := (A).f 2
   have A_f3 := (A).f 3
   have A_f4 := (A).f 4
   have A_f5 := (A).f 5
   obtain ⟨B_0, B_1, B_2, B_3, B_4, B_5⟩ := (B).e6
   have B_f0 := (B).f 0
   have B_f1 := (B).f 1
   have B_f2 := (B).f 2
   have B_f3 := (B).f 3
   have B_f4 := (B).f 4
   have B_f5 := (B).f 5
   go_wp2_with fail
   ((with_reducible refine (HC _ ha hb ha' hb' hT).out.mono ?_))
   clear A_0 A_1 A_2 A_3 A_4 A_5 B_0 B_1 B_2 B_3 B_4 B_5
   rintro e2 w2 ⟨rfl, hb2⟩
   replace hb2 : Below W1.heap.size W1 w2 := (a0l W1 _).trans (hb2.mono (by omega))
   have hs2 := hs1.trans (hb2.mono hs1.size)
   replace A := A.past hb2
   replace B := B.past hb2
   replace R := R.past hb2
   replace RT := RT.past hb2
   replace ha := ha.past hb2
   replace hb := hb.past hb2
   replace ha' := ha'.past hb2
   replace hb' := hb'.past hb2
   replace hT := hT.past hb2
   go_upto_region 4 with (fail)
   have hzd : w2.drew.heap.size = w2.heap.size := rfl
   have HZD := lHd hzd
   clear hzd
   have hzb : w.heap.size ≤ w2.drew.heap.size := hs2.size
   go_region_held3 (fun w' => (w'.cell? ⟨w.heap.size, 0, none⟩ = some (.bool a.g) ∧ w'.cell? ⟨w.heap.size, 1, none⟩ = some (.slice a.p a.xs.length a.c) ∧ w'.cell? ⟨w.heap.size, 2, none⟩ = some (.int .i64 a.e) ∧ w'.cell? ⟨w.heap.size, 3, none⟩ = some (.bool b.g) ∧ w'.cell? ⟨w.heap.size, 4, none⟩ = some (.slice b.p b.xs.length b.c) ∧ w'.cell? ⟨w.heap.size, 5, none⟩ = some (.int .i64 b.e)) ∧
       (w'.cell? ⟨w.heap.size + 1, 0, none⟩ = some (.bool a'.g) ∧ w'.cell? ⟨w.heap.size + 1, 1, none⟩ = some (.slice a'.p a'.xs.length a'.c) ∧ w'.cell? ⟨w.heap.size + 1, 2, none⟩ = some (.int .i64 a'.e) ∧ w'.cell? ⟨w.heap.size + 1, 3, none⟩ = some (.bool b'.g) ∧ w'.cell? ⟨w.heap.size + 1, 4, none⟩ = some (.slice b'.p b'.xs.length b'.c) ∧ w'.cell? ⟨w.heap.size + 1, 5, none⟩ = some (.int .i64 b'.e)))
    (first
      | with_reducible exact ⟨A.e6, B.e6⟩
      | with_reducible exact ⟨A.drew.e6, B.drew.e6⟩
      | with_reducible exact ⟨(A.drew.past hbx).e6, (B.drew.past hbx).e6⟩
      | with_reducible exact ⟨((A.drew.past hbx).past hby).e6, ((B.drew.past hbx).past hby).e6⟩
      | with_reducible exact ⟨(((A.drew.past hbx).past hby).past hbz).e6, (((B.drew.past hbx).past hby).past hbz).e6⟩
      | with_reducible exact ⟨((((A.drew.past hbx).past hby).past hbz).past hbt).e6, ((((B.drew.past hbx).past hby).past hbz).past hbt).e6⟩
      | with_reducible exact ⟨(((((A.drew.past hbx).past hby).past hbz).past hbt).only (e0z _ _ _ _ _ _ _ _) (by omega)).e6, (((((B.drew.past hbx).past hby).past hbz).past hbt).only (e0z _ _ _ _ _ _ _ _) (by omega)).e6⟩)
    (first
      | (go_at_call_of 37 (Value.agg #[.bool a.g, .slice a.p a.xs.length a.c, .int .i64 a.e, .bool b.g, .slice b.p b.xs.length b.c, .int .i64 b.e]); ((with_reducible refine (HOA _ ha.drew hb.drew hT.drew).out.mono ?_)); rintro ex wx ⟨px, cx, qx, dx, rfl, hox, hqx, hbx⟩)
      | (go_at_call_of 37 (Value.agg #[.bool a'.g, .slice a'.p a'.xs.length a'.c, .int .i64 a'.e, .bool b'.g, .slice b'.p b'.xs.length b'.c, .int .i64 b'.e]); ((with_reducible refine (HOB _ (ha'.drew.past hbx) (hb'.drew.past hbx) (hT.drew.past hbx)).out.mono ?_)); rintro ey wy ⟨py, cy, qy, dy, rfl, hoy, hqy, hby⟩)
      | (go_at_call 40; ((with_reducible refine (f0m rl rh pz qz cz dz _ _ hoz hqz f1 f2).mono ?_)); rintro et wt ⟨pt, ct, qt, dt, rfl, hot, hqt, hbt⟩; (have RR := (((R.drew.past hbx).past hby).past hbz).past hbt); obtain ⟨R_0, R_1, R_2, R_3, R_4, R_5⟩ := RR.e6; (have R_f0 := RR.f 0); (have R_f1 := RR.f 1); (have R_f2 := RR.f 2); (have R_f3 := RR.f 3); (have R_f4 := RR.f 4); have R_f5 := RR.f 5)
      | (go_at_call 30; ((with_reducible refine (HFH.out _ ⟨va.neg, px, cx, va.m, va.e⟩ ⟨vb.neg, qx, dx, vb.m, vb.e⟩ ⟨va'.neg, py, cy, va'.m, va'.e⟩ ⟨vb'.neg, qy, dy, vb'.m, vb'.e⟩ rfl rfl rfl rfl (HSa _ _) (HSb _ _) (HSa' _ _) (HSb' _ _) w2.drew.heap.size (HWa _ _ _ _ (hox.past hby)) (HWb _ _ _ _ (hqx.past hby)) (HWa' _ _ _ _ (hoy.mono hbx.size)) (HWb' _ _ _ _ (hqy.mono hbx.size)) ((hT.drew.past hbx).past hby) (Nat.le_trans hbx.size hby.size)).mono ?_)); rintro ez wz ⟨pz, cz, qz, dz, rfl, hoz, hqz, hbz⟩))
   all_goals (go_wp2_with fail)
   all_goals (refine bodyPost_ret (v := .tuple #[.agg #[.bool (e0s rl rh).neg, .slice pt (dig B32 (e0s rl rh).m).length ct, .int .i64 (e0s rl rh).e, .bool (e0t rl rh).neg, .slice qt (dig B32 (e0t rl rh).m).length dt, .int .i64 (e0t rl rh).e], .int .i64 (errB rl rh)]) (by simp [results, Tryd.results29, go_sem, R_0, R_1, R_2, R_3, R_4, R_5]) rfl ?_)
   rw [HE.out, HL.out, HH.out]
   have y2 := Nat.le_trans hs2.size hbx.size
   have y3 := Nat.le_trans y2 hby.size
   have y4 := Nat.le_trans y3 hbz.size
   exact d0n ((((hs2.drew.trans (hbx.mono hs2.size)).trans (hby.mono y2)).trans (hbz.mono y3)).trans (hbt.mono y4)) (hot.mono hzb) (hqt.mono hzb) (by omega) ((((RT.drew.past hbx).past hby).past hbz).past hbt)
 · have t1 : (ec == 0) = false := bFn h0
   have t2 : (ec != 0) = true := by rw [bne, t1]; rfl
   rw [if_neg h0] at HE HL HH
   clear HF HOK h0
   go_enter Tryd.func29, Tryd.ntmps29
   go_upto_region 1 with (fail)
   refine d0w (fun W1 hs1 hz1 A B R RT => ?_)
   replace ha := ha.past hs1
   replace hb := hb.past hs1
   replace ha' := ha'.past hs1
   replace hb' := hb'.past hs1
   replace hT := hT.past hs1
   obtain ⟨A_0, A_1, A_2, A_3, A_4, A_5⟩ := (A).e6
   have A_f0 := (A).f 0
   have A_f1 := (A).f 1
   have A_f2 := (A).f 2
   have A_f3 := (A).f 3
   have A_f4 := (A).f 4
   have A_f5 := (A).f 5
   obtain ⟨B_0, B_1, B_2, B_3, B_4, B_5⟩ := (B).e6
   have B_f0 := (B).f 0
   have B_f1 := (B).f 1
   have B_f2 := (B).f 2
   have B_f3 := (B).f 3
   have B_f4 := (B).f 4
   have B_f5 := (B).f 5
   go_wp2_with fail
   ((with_reducible refine (HC _ ha hb ha' hb' hT).out.mono ?_))
   clear A_0 A_1 A_2 A_3 A_4 A_5 B_0 B_1 B_2 B_3 B_4 B_5
   rintro e2 w2 ⟨rfl, hb2⟩
   replace hb2 : Below W1.heap.size W1 w2 := (a0l W1 _).trans (hb2.mono (by omega))
   have hs2 := hs1.trans (hb2.mono hs1.size)
   replace R := R.past hb2
   obtain ⟨R_0, R_1, R_2, R_3, R_4, R_5⟩ := (R).e6
   have R_f0 := (R).f 0
   have R_f1 := (R).f 1
   have R_f2 := (R).f 2
   have R_f3 := (R).f 3
   have R_f4 := (R).f 4
   have R_f5 := (R).f 5
   go_wp2_with fail
   refine bodyPost_ret (v := .tuple #[.agg #[.bool false, .slice none 0 0, .int .i64 0, .bool false, .slice none 0 0, .int .i64 0], .int .i64 ec]) (by simp [results, Tryd.results29, go_sem, R_0, R_1, R_2, R_3, R_4, R_5]) rfl ?_
   rw [HE.out, HL.out, HH.out]
   exact c0v hs2 (by omega)
end Go.Proofs.YthcoapcffhgckaaDoor
namespace Go.Slip
def k0b (a b a' b' : Dv) (n : Int) : Dv := pCut (lowD a [b, a', b']) n.toNat false
def k0c (a b a' b' : Dv) (n : Int) : Dv := pCut (f0a a [b, a', b']) n.toNat true
theorem n0e (a : Dv) (b : Nat) (up : Bool) {n : Nat} (h : (dig B32 a.m).length ≤ n) : (dig B32 (pCut a b up).m).length ≤ n + 2 := by
 unfold pCut
 split
 · omega
 · refine Nat.le_trans (c0z a0a _) ?_
   refine Nat.le_trans (b0b a0a _ _) ?_
   have h5 := a0e a0a (Nat.div_le_self a.m (2 ^ (blen a.m - b)))
   have h6 : (dig B32 (if up ≠ a.neg then 1 else 0)).length ≤ 1 := (a0d a0a _ 1).2 (by split <;> decide)
   omega
theorem w0i {n : Nat} {a : Dv} {l : List Dv} (h0 : (dig B32 a.m).length ≤ n) (h : ∀ x ∈ l, (dig B32 x.m).length ≤ n) : (dig B32 (lowD a l).m).length ≤ n := by
 rcases a1x l a with h1 | h1
 · rw [h1]; exact h0
 · exact h _ h1
theorem r0n {n : Nat} {a : Dv} {l : List Dv} (h0 : (dig B32 a.m).length ≤ n) (h : ∀ x ∈ l, (dig B32 x.m).length ≤ n) : (dig B32 (f0a a l).m).length ≤ n := by
 rcases y0n l a with h1 | h1
 · rw [h1]; exact h0
 · exact h _ h1
structure SmD (a : Dv) : Prop where
 len : (dig B32 a.m).length ≤ 1300
 lo : -100000 ≤ a.e
 hi : a.e ≤ 100000
theorem i0y {P : Dv → Prop} {x y z : Dv} (h : P x) (k : P y) (m : P z) : ∀ t ∈ [x, y, z], P t := by
 intro t ht
 simp only [List.mem_cons, List.not_mem_nil, or_false] at ht
 rcases ht with rfl | rfl | rfl <;> assumption
theorem w0j {a b a' b' : Dv} {n : Int} (h1 : SmD a) (h2 : SmD b) (h3 : SmD a') (h4 : SmD b') : (dig B32 (k0b a b a' b' n).m).length ≤ 1000000 :=
 Nat.le_trans (n0e _ _ _ (w0i h1.len (i0y (P := fun d => (dig B32 d.m).length ≤ 1300) h2.len h3.len h4.len))) (by omega)
theorem w0k {a b a' b' : Dv} {n : Int} (h1 : SmD a) (h2 : SmD b) (h3 : SmD a') (h4 : SmD b') : (dig B32 (k0c a b a' b' n).m).length ≤ 1000000 :=
 Nat.le_trans (n0e _ _ _ (r0n h1.len (i0y (P := fun d => (dig B32 d.m).length ≤ 1300) h2.len h3.len h4.len))) (by omega)
end Go.Slip
namespace Go.Proofs.YthcoapcffhgckaaDoor
open Go.RowKit Go.Slip
theorem c0c {w : World} {a : Din} (h : InD w a) (he : a0w a = 0) : SmD (dyV a) := by
 obtain ⟨h1, h2, h3⟩ := i0f h he
 exact ⟨by omega, by omega, by omega⟩
theorem w0l (a b a' b' : Din) (n : Int) (w : World) (ha : InD w a) (hb : InD w b) (ha' : InD w a') (hb' : InD w b') (hT : TabW w) :
 Calls Tryd.prog 14 #[.agg #[.bool a.g, .slice a.p a.xs.length a.c, .int .i64 a.e, .bool b.g, .slice b.p b.xs.length b.c, .int .i64 b.e], .agg #[.bool a'.g, .slice a'.p a'.xs.length a'.c, .int .i64 a'.e, .bool b'.g, .slice b'.p b'.xs.length b'.c, .int .i64 b'.e], .int .i64 n] w (e0u w w.heap.size (twoL n [(a, b), (a', b')] (k0b (dyV a) (dyV b) (dyV a') (dyV b') n) (k0c (dyV a) (dyV b) (dyV a') (dyV b') n))
   (twoH n [(a, b), (a', b')] (k0b (dyV a) (dyV b) (dyV a') (dyV b') n) (k0c (dyV a) (dyV b) (dyV a') (dyV b') n)) (twoE n [(a, b), (a', b')] (k0b (dyV a) (dyV b) (dyV a') (dyV b') n) (k0c (dyV a) (dyV b) (dyV a') (dyV b') n))) := by
 have HT := fun W k1 k2 k3 k4 k5 => lHd (q0h a b a' b' n (k0b (dyV a) (dyV b) (dyV a') (dyV b') n) (k0c (dyV a) (dyV b) (dyV a') (dyV b') n) W k1 k2 k3 k4 k5 (fun h => by
   obtain ⟨e1, e2, e3, e4⟩ := n0d h
   obtain ⟨q1, q2, -⟩ := d0d e1
   obtain ⟨q3, q4, -⟩ := d0d e2
   refine ⟨w0j (c0c ha q1) (c0c hb q2) (c0c ha' q3) (c0c hb' q4), w0k (c0c ha q1) (c0c hb q2) (c0c ha' q3) (c0c hb' q4), ?_⟩
   intro V al ah bl bh v1 v2 v3 v4 s1 s2 s3 s4 base i1 i2 i3 i4 iT ib
   have hn : n = (n.toNat : Int) := by omega
   rw [← v1, ← v2, ← v3, ← v4, hn]
   have h5 : n.toNat ≤ 5000 := by omega
   unfold k0b k0c
   rw [Int.toNat_natCast]
   exact w0g al ah bl bh n.toNat base V i1 i2 i3 i4  h5 iT ib))
 generalize twoL n [(a, b), (a', b')] (k0b (dyV a) (dyV b) (dyV a') (dyV b') n) (k0c (dyV a) (dyV b) (dyV a') (dyV b') n) = rl at *
 generalize twoH n [(a, b), (a', b')] (k0b (dyV a) (dyV b) (dyV a') (dyV b') n) (k0c (dyV a) (dyV b) (dyV a') (dyV b') n) = rh at *
 generalize twoE n [(a, b), (a', b')] (k0b (dyV a) (dyV b) (dyV a') (dyV b') n) (k0c (dyV a) (dyV b) (dyV a') (dyV b') n) = er at *
 go_enter Tryd.func14, Tryd.ntmps14
 go_upto_region 1 with (fail)
 refine d0w (fun W1 hs1 hz1 A B R RT => ?_)
 obtain ⟨A_0, A_1, A_2, A_3, A_4, A_5⟩ := (A).e6
 have A_f0 := (A).f 0
 have A_f1 := (A).f 1
 have A_f2 := (A).f 2
 have A_f3 := (A).f 3
 have A_f4 := (A).f 4
 have A_f5 := (A).f 5
 obtain ⟨B_0, B_1, B_2, B_3, B_4, B_5⟩ := (B).e6
 have B_f0 := (B).f 0
 have B_f1 := (B).f 1
 have B_f2 := (B).f 2
 have B_f3 := (B).f 3
 have B_f4 := (B).f 4
 have B_f5 := (B).f 5
 go_wp2_with fail
 ((with_reducible refine (HT _ (ha.past hs1) (hb.past hs1) (ha'.past hs1) (hb'.past hs1) (hT.past hs1)).out.mono ?_))
 clear A_0 A_1 A_2 A_3 A_4 A_5 B_0 B_1 B_2 B_3 B_4 B_5
 rintro e2 w2 ⟨p2, c2, q2, d2, rfl, ho2, hq2, hb2⟩
 have hs2 := hs1.trans (hb2.mono hs1.size)
 replace R := R.past hb2
 replace RT := RT.past hb2
 obtain ⟨R_0, R_1, R_2, R_3, R_4, R_5⟩ := (R).e6
 have R_f0 := (R).f 0
 have R_f1 := (R).f 1
 have R_f2 := (R).f 2
 have R_f3 := (R).f 3
 have R_f4 := (R).f 4
 have R_f5 := (R).f 5
 go_wp2_with fail
 refine bodyPost_ret (v := .tuple #[.agg #[.bool rl.neg, .slice p2 (dig B32 rl.m).length c2, .int .i64 rl.e, .bool rh.neg, .slice q2 (dig B32 rh.m).length d2, .int .i64 rh.e], .int .i64 er]) (by simp [results, Tryd.results14, go_sem, R_0, R_1, R_2, R_3, R_4, R_5]) rfl ?_
 exact d0n hs2 (ho2.mono hs1.size) (hq2.mono hs1.size) (by omega) RT
end Go.Proofs.YthcoapcffhgckaaDoor
namespace Go.Slip
theorem y0v {d r : Nat} (h0 : 0 < d) (h : d < 65536) : tz (d + 65536 * r) = tz d := by
 obtain ⟨h1, h2⟩ := f0e d h0
 have hle : tz d < 16 := by
  rcases Nat.lt_or_ge (tz d) 16 with h3 | h3
  · exact h3
  · have h4 : 2 ^ 16 ≤ 2 ^ tz d := Nat.pow_le_pow_right (by omega) h3
    have h5 : 0 < d / 2 ^ tz d := by
     rcases Nat.eq_zero_or_pos (d / 2 ^ tz d) with h | h
     · rw [h] at h2; simp at h2
     · exact h
    have h6 := Nat.mul_le_mul_left (2 ^ tz d) h5
    simp only [Nat.succ_eq_add_one, Nat.zero_add, Nat.mul_one] at h6
    omega
 obtain ⟨t, ht⟩ : ∃ t, t = tz d := ⟨_, rfl⟩
 rw [← ht] at h1 h2 hle ⊢
 obtain ⟨s, hs⟩ : ∃ s, 16 = t + (s + 1) := ⟨15 - t, by omega⟩
 have e : d + 65536 * r = (d / 2 ^ t + 2 * (2 ^ s * r)) * 2 ^ t := by
  have e1 : (65536 : Nat) = 2 ^ t * (2 ^ s * 2) := by
   rw [show (65536 : Nat) = 2 ^ 16 by decide, hs, Nat.pow_add, Nat.pow_succ]
  rw [e1, Nat.add_mul]
  conv => lhs; rw [← h1]
  grind
 rw [e]
 exact q0z _ _ (by omega)
theorem y0w {xs : List Nat} {a i : Nat} (ha : val B16 xs = a) (hz : ∀ j, j < i → dg xs j = 0) (hd : 0 < dg xs i) (hl : dg xs i < 65536) : tz a = 16 * i + tz (dg xs i) := by
 have h1 := a0m B16 xs i
 have h2 : val B16 (xs.take i) = 0 := by
  have : xs.take i = List.replicate (xs.take i).length 0 := by
   apply b0j
   · simp
   · intro t ht
     simp only [List.length_take] at ht
     rw [i0z (by omega), c0i, hz t (by omega)]
  rw [this, b0f]
 rw [h2, e0i, Nat.zero_add] at h1
 have e : a = (dg xs i + 65536 * val B16 (xs.drop (i + 1))) * 2 ^ (16 * i) := by
  rw [← ha, h1, Nat.pow_mul, show (2 : Nat) ^ 16 = B16 by decide, Nat.mul_comm]
  rfl
 rw [e, r0a (by omega), y0v hd hl]
 omega
def e0h (xs : List Nat) (j n : Nat) : Prop := n = 16 * j ∧ ∀ i, i < j → dg xs i = 0
theorem e0h.start (xs : List Nat) : e0h xs 0 0 := ⟨rfl, fun i hi => by omega⟩
theorem e0h.step {xs : List Nat} {j n : Nat} (h : e0h xs j n) (hz : dg xs j = 0) : e0h xs (j + 1) (n + 16) :=
 ⟨by have := h.1; omega, fun i hi => by
   by_cases he : i = j
   · subst he; exact hz
   · exact h.2 i (by omega)⟩
theorem e0h.lt {xs : List Nat} {j n m : Nat} (h : e0h xs j n) (hv : val B16 xs = m) (h0 : 0 < m) : j < xs.length := by
 rcases Nat.lt_or_ge j xs.length with h1 | h1
 · exact h1
 · have := j0i (B := B16) (xs := xs) (fun i hi => h.2 i (by omega))
   omega
def h0j (m d n : Nat) : Prop := ∃ t, n + tz d = t ∧ t = tz m ∧ 0 < d
theorem h0j.start {xs : List Nat} {j n m : Nat} (h : e0h xs j n) (hv : val B16 xs = m) (h0 : 0 < dg xs j) (hl : dg xs j < 65536) : h0j m (dg xs j) n :=
 ⟨_, rfl, by rw [y0w hv h.2 h0 hl, h.1], h0⟩
theorem h0j.step {m d n : Nat} (h : h0j m d n) (he : d % 2 = 0) : h0j m (d / 2) (n + 1) := by
 obtain ⟨t, h1, h2, h3⟩ := h
 rw [m0d h3 he] at h1
 exact ⟨t, by omega, h2, by omega⟩
theorem h0j.done {m d n : Nat} (h : h0j m d n) (he : d % 2 = 1) : n = tz m := by
 obtain ⟨t, h1, h2, h3⟩ := h
 rw [n0v he] at h1
 omega
theorem s0w (a : Nat) : blen a ≤ 16 * (dig B16 a).length := by
 rw [b0s, Nat.pow_mul]
 exact (a0d a0g a _).1 (Nat.le_refl _)
end Go.Slip
namespace Go.Proofs.YthcoapcffhgckaaDoor
open Go.RowKit Go.Slip
theorem c1w {x y : Nat} (hx : x < 65536) (hy : y < 65536) : (x : Int) * y ≤ 4294836225 ∧ 0 ≤ (x : Int) * y := by
 have h : x * y ≤ 65535 * 65535 := Nat.mul_le_mul (by omega) (by omega)
 have e : (x : Int) * y = ((x * y : Nat) : Int) := by simp
 rw [e]; omega
theorem o0q (p q : OA) (n m c d : Nat) (a b : Nat) (w : World) (hp : Rd w .i64 p (dig B16 a)) (hq : Rd w .i64 q (dig B16 b)) (hn : n = (dig B16 a).length) (hm : m = (dig B16 b).length)
 (hl : (dig B16 a).length + (dig B16 b).length ≤ 1000000000) :
 Calls Tryd.prog 69 #[.slice p n c, .slice q m d] w (i0d w .i64 (dig B16 (a * b))) := by
 subst hn hm
 have HA := lHd (a0q a0g a)
 have HB := lHd (a0q a0g b)
 have HXL := lHd (b0a a0g a)
 have HYL := lHd (b0a a0g b)
 generalize dig B16 a = xs at hp hl HA HXL ⊢
 generalize dig B16 b = ys at hq hl HB HYL ⊢
 have hsx := hp.solid
 have hsy := hq.solid
 go_enter Tryd.func69, Tryd.ntmps69
 go_wp2_with (refine i0q rfl _ _ _ rfl tyN .i64 .i64 (xs.length + ys.length) _ _ rfl rfl ?_ ?_ ?_ ?_; omega; omega; omega; intro p1 c1 w1 ho1 hb1 hz1)
 go_loopw [6] (fun iv wr => ∃ (i : Nat) (L : List Nat), iv = .int .i64 i ∧ i ≤ xs.length ∧ Hid (L.length = xs.length + ys.length) ∧ Own wr w.heap.size .i64 3 p1 c1 L ∧ Below w.heap.size w wr ∧ Hid (e0v B16 L xs ys i))
  (fun iv _ => xs.length - (intOf iv).toNat)
 case atStart => exact ⟨0, _, rfl, Nat.zero_le _, List.length_replicate, ho1, hb1, e0v.start B16 l0u xs ys _⟩
 case round =>
  obtain ⟨i, L, rfl, hi, hL, hoL, hbL, HR⟩ := hrel
  by_cases hlt : i < xs.length
  · have hxd := a0f (B := 65536) (by omega) xs HXL.out i
    go_wp2
    obtain ⟨wo, rfl⟩ : ∃ wo : World, wo = wr := ⟨_, rfl⟩
    go_loopw [7, 8, 9] (fun cv kv _ wr => ∃ (k cr : Nat) (L : List Nat), kv = .int .i64 k ∧ cv = .int .i64 cr ∧ k ≤ ys.length + 1 ∧ cr < 65536 ∧ Hid (L.length = xs.length + ys.length) ∧ Own wr w.heap.size .i64 3 p1 c1 L ∧ Below w.heap.size w wr ∧ Hid (c0n L xs ys i k cr))
     (fun _ kv _ _ => ys.length + 1 - (intOf kv).toNat)
    case atStart => exact ⟨0, 0, L, rfl, rfl, Nat.zero_le _, by omega, hL, hoL, hbL, .inl ⟨Nat.zero_le _, HR.out.enter⟩⟩
    case round =>
     obtain ⟨k, cr, L, rfl, rfl, hk, hcr, hL, hoL, hbL, HR⟩ := hrel
     have hpL := hp.past hbL
     have hqL := hq.past hbL
     have hsL := hoL.solid
     rw [hL.out] at hsL
     by_cases hkt : k < ys.length
     · have hc1 := hpL.cells i hlt
       have hc2 := hqL.cells k hkt
       have hc3 := hoL.rd.cells (i + k) (by rw [hL.out]; omega)
       have hyd := a0f (B := 65536) (by omega) ys HYL.out k
       have hLd := a0f (B := 65536) (by omega) L HR.out.digits (i + k)
       obtain ⟨hpr, hpr0⟩ := c1w hxd hyd
       have HS := lHd (HR.out.step hkt (by rw [hL.out]; omega))
       have HC := lHd (HR.out.carry hcr hxd hyd)
       have i0 : (0 : Int) ≤ (i : Int) := by omega
       have i1 : (i : Int) < (xs.length : Int) := by omega
       have k0 : (0 : Int) ≤ (k : Int) := by omega
       have k1 : (k : Int) < (ys.length : Int) := by omega
       go_wp2_with fail
       go_quiet (fail)
       have hoL := hoL.drewN nq
       have hbL := below_drewN hbL nq
       generalize wr.drewN nq = wq at hoL hbL ⊢
       clear hc1 hc2 hc3 hpL hqL
       go_wp2_with (refine a0j rfl _ _ _ rfl 3 tyN _ _ _ _ hoL (i + k) (by rw [hL.out]; omega) _ ?_ rfl rfl ?_; omega; intro w3 ho3 hg3 hb3)
       have e3 : (((dg L (i + k) : Int) + cr + dg xs i * dg ys k) % 65536).toNat = (dg L (i + k) + cr + dg xs i * dg ys k) % 65536 := by omega
       rw [e3] at ho3
       go_roundw
       case rel => exact ⟨k + 1, (dg L (i + k) + cr + dg xs i * dg ys k) / 65536, _, by go_num, by go_num, by omega, HC.out, (by show (List.set _ _ _).length = _; rw [List.length_set]; exact hL.out), ho3, hbL.trans hb3, HS⟩
       case measure => simp [intOf]; omega
     · by_cases h0 : 0 < cr
       · obtain ⟨hk2, hz, HS⟩ := HR.out.over hkt h0 hcr (by rw [hL.out]; omega)
         subst hk2
         have hc3 := hoL.rd.cells (i + ys.length) (by rw [hL.out]; omega)
         rw [hz] at hc3
         have HS := lHd HS
         clear hz hkt
         go_wp2_with (refine a0j rfl _ _ _ rfl 3 tyN _ _ _ _ hoL (i + ys.length) (by rw [hL.out]; omega) _ ?_ rfl rfl ?_; omega; intro w3 ho3 hg3 hb3)
         have e3 : ((cr : Int) % 65536).toNat = cr := by omega
         rw [e3] at ho3
         go_roundw
         case rel => exact ⟨ys.length + 1, 0, _, by go_num, (by rw [show (cr : Int) / 65536 = ((0 : Nat) : Int) by omega]), by omega, by omega, (by show (List.set _ _ _).length = _; rw [List.length_set]; exact hL.out), ho3, hbL.trans hb3, HS⟩
         case measure => simp [intOf]
       · obtain rfl : cr = 0 := by omega
         have HS := lHd (HR.out.done hkt)
         go_wp2
         go_roundw
         case rel => exact ⟨i + 1, L, by go_num, hlt, hL, hoL, hbL, HS⟩
         case measure => simp [intOf]; omega
  · obtain rfl : i = xs.length := by omega
    go_wp2_with (go_at_call 50; refine (e0o _ _ _ L _ hoL.rd hL.out.symm hoL.le_cap HR.out.1 (by rw [hL.out]; omega)).mono ?_; rintro e w3 ⟨rfl, rfl⟩)
    go_ret
    rw [← HR.out.done (Nat.le_refl _) HA.out HB.out]
    have ht := a0v a0g L HR.out.1
    have ho2 := hoL.take (dig B16 (val B16 L)).length
    rw [ht] at ho2
    exact ⟨p1, _, rfl, ho2.rd, Nat.le_refl _, h0t ho2, hbL⟩
theorem q0i (N : Nat) (w : World) (hN : N ≤ 1000000000) :
 Calls Tryd.prog 70 #[.int .i64 N] w (i0d w .i64 (dig B16 (2 ^ N))) := by
 have hs : N % 16 < 16 := Nat.mod_lt _ (by omega)
 have HD := lHd (g0s (B := B16) (w := 16) (by decide) (by omega) N)
 go_enter Tryd.func70, Tryd.ntmps70
 go_wp2_with (refine i0q rfl _ _ _ rfl tyN .i64 .i64 (N / 16 + 1) _ _ rfl rfl ?_ ?_ ?_ ?_; omega; omega; omega; intro p1 c1 w1 ho1 hb1 hz1)
 go_loop [4, 5] (fun dv iv => ∃ (i t : Nat), iv = .int .i64 i ∧ dv = .int .i64 t ∧ i ≤ N % 16 ∧ t ≤ 65536 ∧ Hid (t = 2 ^ i)) (fun _ iv => N % 16 - (intOf iv).toNat)
 case atStart => exact ⟨0, 1, rfl, rfl, Nat.zero_le _, by omega, rfl⟩
 case round =>
  obtain ⟨i, t, rfl, rfl, hi, ht, HT⟩ := hrel
  by_cases h1 : i < N % 16
  · have HS : Hid (2 * t = 2 ^ (i + 1)) := by show 2 * t = 2 ^ (i + 1); rw [HT.out, Nat.pow_succ]; omega
    have hb : 2 * t ≤ 65536 := by
     rw [HS.out]; exact Nat.pow_le_pow_right (show 0 < 2 by omega) (show i + 1 ≤ 16 by omega)
    go_wp2
    go_round
    case rel => exact ⟨i + 1, 2 * t, by go_num, by go_num, by omega, hb, HS⟩
    case measure => simp [intOf]; omega
  · obtain rfl : i = N % 16 := by omega
    have hso := ho1.solid
    rw [List.length_replicate] at hso
    have hsm := hso
    go_wp2_with (refine a0j rfl _ _ _ rfl 3 tyN _ _ _ _ ho1 (N / 16) (by simp) _ ?_ rfl rfl ?_; omega; intro w3 ho3 hg3 hb3)
    go_ret
    rw [Int.toNat_natCast, HT.out, HD.out] at ho3
    refine ⟨p1, c1, ?_, ho3.rd, ho3.le_cap, h0t ho3, hb1.trans hb3⟩
    rw [← HD.out]; simp
theorem o0r (N : Nat) : (dig B16 (2 ^ N)).length = N / 16 + 1 := by
 rw [← g0s (B := B16) (w := 16) (by decide) (by omega) N]; simp
theorem o0s (p : OA) (n c : Nat) (a N : Nat) (w : World) (hp : Rd w .i64 p (dig B16 a)) (hn : n = (dig B16 a).length) (hl : (dig B16 a).length ≤ 100000000) (hN : N ≤ 1000000000) :
 Calls Tryd.prog 51 #[.slice p n c, .int .i64 N] w (i0d w .i64 (dig B16 (a * 2 ^ N))) := by
 subst hn
 by_cases h0 : (dig B16 a).length = 0
 · have : a = 0 := (a0h a0g a).1 h0
   subst this
   rw [Nat.zero_mul]
   rw [a0b] at *
   go_enter Tryd.func51, Tryd.ntmps51
   go_wp2
   go_ret
   exact ⟨none, 0, rfl, Rd.nil _ _ _, by simp, by simp, Below.refl _ _⟩
 · have hlp := Nat.le_of_eq (o0r N)
   have h1 : 1 ≤ (dig B16 a).length := by omega
   clear h0
   go_enter Tryd.func51, Tryd.ntmps51
   go_wp2_with fail
   refine (q0i N _ hN).mono ?_
   rintro e w1 ⟨p1, c1, rfl, ho1, -, -, hb1⟩
   go_wp2_with fail
   refine (o0q p p1 _ _ c c1 a (2 ^ N) _ (hp.past hb1) ho1 rfl rfl (by omega)).mono ?_
   rintro e w2 ⟨p2, c2, rfl, ho2, hc2, hn2, hb2⟩
   go_wp2_with fail
   go_ret
   exact ⟨p2, c2, rfl, ho2, hc2, fun h => Nat.le_trans hb1.size (hn2 h), hb1.trans (hb2.mono hb1.size)⟩
theorem w0m {O Y : List Nat} {N a : Nat} (h : e0a B16 (2 ^ (N % 16)) O Y Y.length) (hY : val B16 Y = a / B16 ^ (N / 16)) : val B16 O = a / 2 ^ N := by
 rw [h.done, hY, j0e (B := B16) (w := 16) (by decide)]
theorem q0j (p : OA) (n c : Nat) (a N : Nat) (w : World) (hp : Rd w .i64 p (dig B16 a)) (hn : n = (dig B16 a).length) (hl : (dig B16 a).length ≤ 1000000000) (hN : N ≤ 9223372036854775807) :
 Calls Tryd.prog 49 #[.slice p n c, .int .i64 N] w (i0d w .i64 (dig B16 (a / 2 ^ N))) := by
 subst hn
 by_cases h0 : (dig B16 a).length ≤ N / 16
 · rw [k0u (w := 16) (by decide) a0g a N h0]
   rw [a0b]
   go_enter Tryd.func49, Tryd.ntmps49
   go_wp2
   go_ret
   exact ⟨none, 0, rfl, Rd.nil _ _ _, by simp, by simp, Below.refl _ _⟩
 · have HXL := lHd (b0a a0g a)
   have HV := lHd (i0a (B := B16) l0u _ (b0a a0g a) (N / 16))
   rw [a0q a0g] at HV
   generalize dig B16 a = xs at *
   have hsx := hp.solid
   have hk : N / 16 < xs.length := by omega
   have HY := lHd (show ∀ x ∈ xs.drop (N / 16), x < B16 from fun x h => HXL.out x (List.mem_of_mem_drop h))
   have hyl : (xs.drop (N / 16)).length = xs.length - N / 16 := List.length_drop
   have hylp : (xs.drop (N / 16)).length + N / 16 ≤ xs.length := by omega
   have hylq : xs.length ≤ (xs.drop (N / 16)).length + N / 16 := by omega
   have HG := lHd (show ∀ j, dg (xs.drop (N / 16)) j = dg xs (N / 16 + j) from fun j => d0z)
   clear h0 hyl
   have hs : N % 16 < 16 := Nat.mod_lt _ (by omega)
   generalize xs.drop (N / 16) = ys at *
   have H0 := lHd (e0a.start B16 (2 ^ (N % 16)) ys)
   have hpm : B16 % 2 ^ (N % 16) = 0 := i0b (w := 16) (by omega)
   have hpm := lHd hpm
   go_enter Tryd.func49, Tryd.ntmps49
   go_wp2
   go_loop [5, 6] (fun dv iv => ∃ (i t : Nat), iv = .int .i64 i ∧ dv = .int .i64 t ∧ i ≤ N % 16 ∧ t ≤ 65536 ∧ Hid (t = 2 ^ i)) (fun _ iv => N % 16 - (intOf iv).toNat)
   case atStart => exact ⟨0, 1, rfl, rfl, Nat.zero_le _, by omega, rfl⟩
   case round =>
    obtain ⟨i, t, rfl, rfl, hi, ht, HT⟩ := hrel
    by_cases h1 : i < N % 16
    · have HS : Hid (2 * t = 2 ^ (i + 1)) := by show 2 * t = 2 ^ (i + 1); rw [HT.out, Nat.pow_succ]; omega
      have hb : 2 * t ≤ 65536 := by
       rw [HS.out]; exact Nat.pow_le_pow_right (show 0 < 2 by omega) (show i + 1 ≤ 16 by omega)
      go_wp2
      go_round
      case rel => exact ⟨i + 1, 2 * t, by go_num, by go_num, by omega, hb, HS⟩
      case measure => simp [intOf]; omega
    · obtain rfl : i = N % 16 := by omega
      have htp : 1 ≤ t := by rw [HT.out]; exact Nat.pow_pos (by omega)
      go_wp2
      rw [← HT.out] at H0 hpm
      go_loopg [7, 8] (ys.length) (fun g ov iv wr => ∃ (i : Nat) (q : OA) (e : Nat) (O : List Nat), iv = .int .i64 ((N / 16 + i : Nat) : Int) ∧ ov = .slice q O.length e ∧ g + i = ys.length ∧ i ≤ ys.length ∧ Hid (O.length = i) ∧
          Own wr w.heap.size .i64 3 q e O ∧ Below w.heap.size w wr ∧ Hid (e0a B16 t O ys i))
      case atStart => exact ⟨0, none, 0, [], by go_num, rfl, by omega, by omega, rfl, Own.nil _ _ _ _, Below.refl _ _, H0⟩
      case round =>
       obtain ⟨i, q, e, O, rfl, rfl, hg, hi, hO, hoq, hb, HR⟩ := hrel
       have hpL := hp.past hb
       have hyd := a0f (B := 65536) (by omega) ys HY.out i
       have hyd2 := a0f (B := 65536) (by omega) ys HY.out (i + 1)
       by_cases hlt : i < ys.length
       · have hc1 := hpL.cells (N / 16 + i) (by omega)
         rw [← HG.out] at hc1
         obtain ⟨v, hv⟩ : ∃ v, v = dg ys i / t := ⟨_, rfl⟩
         have ev : ((dg ys i : Nat) : Int) / (t : Int) = (v : Nat) := by rw [hv]; rfl
         have hvd : v < 65536 := by rw [hv]; exact Nat.lt_of_le_of_lt (Nat.div_le_self _ _) hyd
         by_cases h2 : i + 1 < ys.length
         · have hc2 := hpL.cells (N / 16 + (i + 1)) (by omega)
           rw [← HG.out] at hc2
           obtain ⟨m, hm⟩ : ∃ m, m = dg ys (i + 1) % t := ⟨_, rfl⟩
           obtain ⟨k, hk2⟩ : ∃ k, k = 65536 / t := ⟨_, rfl⟩
           obtain ⟨r, hr⟩ : ∃ r, r = m * k := ⟨_, rfl⟩
           obtain ⟨u, hu⟩ : ∃ u, u = v + r := ⟨_, rfl⟩
           have hue : u = dg ys i / t + dg ys (i + 1) % t * (B16 / t) := by rw [hu, hr, hm, hk2, hv]; rfl
           have hub : u < 65536 := by rw [hue]; exact q0y htp hpm.out hyd
           have HS := lHd (HR.out.step htp hpm.out HY.out hlt u hue)
           have hkb : k ≤ 65536 := by rw [hk2]; exact Nat.div_le_self _ _
           have i0 : (0 : Int) ≤ (N : Int) / 16 + i + 1 := by omega
           have i1 : (N : Int) / 16 + i + 1 < (xs.length : Int) := by omega
           have e1 : IntKind.i64.wrap ((N : Int) / 16 + i + 1) = (N : Int) / 16 + i + 1 := iwo
           have e2 : ((dg ys (i + 1) : Nat) : Int).tmod (t : Int) = (m : Nat) := by rw [Int.tmod_eq_emod_of_nonneg (by omega), hm]; rfl
           have e3 : IntKind.i64.wrap ((65536 : Int) / (t : Int)) = (k : Nat) := by rw [hk2]; exact IntWalk.i64_in _ (by have : ((65536 / t : Nat) : Int) = 65536 / (t : Int) := rfl; omega)
           have e4 : IntKind.i64.wrap ((m : Int) * (k : Int)) = (r : Nat) := by
            have : (m : Int) * (k : Int) = (r : Nat) := by rw [hr]; simp
            rw [this]; exact iwo
           have e5 : IntKind.i64.wrap ((v : Int) + (r : Int)) = (u : Nat) := by rw [hu]; exact iwo
           have e6 : ((N : Int) / 16 + i + 1).toNat = N / 16 + (i + 1) := by omega
           have e7 : ¬ t = 0 := by omega
           have e8 : (65536 : Int).tdiv (t : Int) = (65536 : Int) / (t : Int) := Int.tdiv_eq_ediv_of_nonneg (by omega)
           clear hu hr hm hk2 hv hue
           go_wp2_with fail
           go_quiet (fail)
           have hoq := hoq.drewN nq
           have hb := hb.trans (below_drewN (Below.refl _ wr) nq)
           clear e1 e2 e3 e4 e5 e6 e7 e8 i0 i1 hc1 hc2 hpL
           go_wp2_with (first
             | (refine a0p rfl _ _ rfl tyN _ ?_ rfl ?_; omega; intro p2 w2 ho2 hb2 hz2 hp2)
             | (at_builtin; refine a0o rfl _ _ _ rfl tyN _ _ _ _ _ (hoq.past hb2) rfl _ _ _ _ ho2.rd rfl rfl rfl ?_ ?_ ?_; (have := hO.out; simp; omega); (have := hb2.size; have := hb.size; omega); intro p3 c3 w3 ho3 hg3 hb3 hn3))
           have hb4 := hb.trans ((hb2.mono hb.size).trans hb3)
           rw [Int.toNat_natCast] at ho3
           go_roundg (ys.length - 1 - i)
           case measure => omega
           case rel => exact ⟨i + 1, p3, c3, _, by go_num, by simp, by omega, by omega, (by show (O ++ _).length = _; have := hO.out; rw [List.length_append, List.length_singleton]; omega), ho3, hb4, HS⟩
         · have HS := lHd (HR.out.step htp hpm.out HY.out hlt v (by rw [hv, b0c (show ys.length ≤ i + 1 by omega), Nat.zero_mod, Nat.zero_mul]; rfl))
           clear hv
           go_wp2_with (first
             | (refine a0p rfl _ _ rfl tyN _ ?_ rfl ?_; omega; intro p2 w2 ho2 hb2 hz2 hp2)
             | (at_builtin; refine a0o rfl _ _ _ rfl tyN _ _ _ _ _ (hoq.past hb2) rfl _ _ _ _ ho2.rd rfl rfl rfl ?_ ?_ ?_; (have := hO.out; simp; omega); (have := hb2.size; have := hb.size; omega); intro p3 c3 w3 ho3 hg3 hb3 hn3))
           have hb4 := hb.trans ((hb2.mono hb.size).trans hb3)
           rw [Int.toNat_natCast] at ho3
           go_roundg (ys.length - 1 - i)
           case measure => omega
           case rel => exact ⟨i + 1, p3, c3, _, by go_num, by simp, by omega, by omega, (by show (O ++ _).length = _; have := hO.out; rw [List.length_append, List.length_singleton]; omega), ho3, hb4, HS⟩
       · obtain rfl : i = ys.length := by omega
         have HD := lHd (w0m (by rw [← HT.out]; exact HR.out) HV.out)
         have HX := lHd HR.out.1
         go_wp2_with (go_at_call 50; refine (e0o _ _ _ O _ hoq.rd rfl hoq.le_cap HX.out (by rw [hO.out]; omega)).mono ?_; rintro e w3 ⟨rfl, rfl⟩)
         go_ret
         have ht := a0v a0g O HX.out
         have ho2 := hoq.take (dig B16 (val B16 O)).length
         rw [ht, HD.out] at ho2
         rw [HD.out]
         exact ⟨q, _, rfl, ho2.rd, Nat.le_refl _, h0t ho2, hb⟩
theorem n0f (g : Bool) (p : OA) (c : Nat) (e : Int) (w : World) :
 Calls Tryd.prog 25 #[.agg #[.bool g, .slice p 0 c, .int .i64 e]] w (j0k w (fun _ => False) ⟨false, 0, 0⟩) := by
 go_enter Tryd.func25, Tryd.ntmps25
 go_wp2
 refine bodyPost_ret (v := .agg #[.bool false, .slice none 0 0, .int .i64 0]) (by simp [results, Tryd.results25, go_sem]) rfl ?_
 exact ⟨none, 0, by rw [a0b]; rfl, by rw [a0b]; exact Rd.nil _ _ _, by rw [a0b]; simp, by rw [a0b]; simp, ((Below.refl _ _).alloc (Nat.le_refl _) _).alloc (by simp) _⟩
theorem o0t (g : Bool) (p : OA) (n c : Nat) (e : Int) (m : Nat) (w : World) (hp : Rd w .i64 p (dig B16 m)) (hn : n = (dig B16 m).length) (hl : (dig B16 m).length ≤ 10000000) (h0 : 0 < m)
 (he : -1000000000 ≤ e ∧ e ≤ 1000000000) :
 Calls Tryd.prog 25 #[.agg #[.bool g, .slice p n c, .int .i64 e]] w (j0k w (fun _ => False) (bare ⟨g, m, e⟩)) := by
 subst hn
 have hl0 : 0 < (dig B16 m).length := by
  have := a0h a0g m
  omega
 have t1 : (((dig B16 m).length : Int) == 0) = false := bFn (by omega)
 obtain ⟨W1, hW1, hs1, A1, R1, hz1⟩ := u0g w (.bool g) (.slice p (dig B16 m).length c) (.int .i64 e) (.bool false) (.slice none 0 0) (.int .i64 0) 34 34
 have hp1 := hp.past hs1
 have HB := lHd (i0s (g := g) (e := e) h0)
 have htz : tz m ≤ 1000000000 := by have := h0s h0; have := s0w m; omega
 have HV := lHd (a0q a0g m)
 have HX := lHd (b0a a0g m)
 have HW1 := lHd hW1
 obtain ⟨xs, hxs⟩ : ∃ xs, xs = dig B16 m := ⟨_, rfl⟩
 have HXS := lHd hxs
 rw [← hxs] at hp hl hl0 t1 A1 hp1 HV HX HW1 ⊢
 have hsx := hp1.solid
 have a1 := A1.c1
 clear hW1 hxs
 go_enter Tryd.func25, Tryd.ntmps25
 go_wp2_with fail
 rw [← HW1.out]
 clear HW1
 go_wp2
 go_loopg [3] xs.length (fun gk nv wr => ∃ (j n : Nat), nv = .int .i64 n ∧ gk + j = xs.length ∧ wr = W1 ∧ Hid (e0h xs j n))
 case atStart => exact ⟨0, 0, rfl, rfl, rfl, e0h.start xs⟩
 case round =>
  obtain ⟨j, n, rfl, hgk, rfl, HO⟩ := hrel
  have hlt := HO.out.lt HV.out h0
  have hd := a0f (B := 65536) (by omega) xs HX.out j
  have hn1 : (n : Int) ≤ 160000000 := by have := HO.out.1; omega
  have e1 : (n : Int) / 16 = (j : Int) := by have := HO.out.1; omega
  have hcell := hp1.cells j hlt
  by_cases hz : dg xs j = 0
  · have HS := lHd (HO.out.step hz)
    rw [hz] at hcell
    have hgi : 0 < gk := by omega
    clear hz
    go_wp2
    go_roundg (gk - 1)
    case measure => omega
    case rel => exact ⟨j + 1, n + 16, by go_num, by omega, rfl, HS⟩
  · have h0d : 0 < dg xs j := by omega
    have HI := lHd (h0j.start HO.out HV.out h0d hd)
    have t2 : (((dg xs j : Nat) : Int) == 0) = false := bFn (by omega)
    clear hz
    go_wp2
    have hjn : n ≤ 160000000 := by omega
    clear e1 hcell t2 hn1
    obtain ⟨d0, hd0⟩ : ∃ d0, dg xs j = d0 := ⟨_, rfl⟩
    rw [hd0] at HI hd h0d ⊢
    clear hd0
    go_loopg [3, 4] d0 (fun gk nv dv wx => ∃ (n2 : Nat), nv = .int .i64 n2 ∧ dv = .int .i64 gk ∧ gk < 65536 ∧ wx = wr ∧ Hid (h0j m gk n2))
    case atStart => exact ⟨n, rfl, rfl, hd, rfl, HI⟩
    case round =>
     obtain ⟨n2, rfl, rfl, hgl, rfl, HN⟩ := hrel
     have hn2 : n2 ≤ 1000000000 := by obtain ⟨t, h1, h2, h3⟩ := HN.out; omega
     have hg0 : 0 < gk := by obtain ⟨t, h1, h2, h3⟩ := HN.out; omega
     by_cases hev : gk % 2 = 0
     · have HS := lHd (HN.out.step hev)
       have t3 : (gk : Int) % 2 = 0 := by omega
       clear hev
       go_wp2
       go_roundg (gk / 2)
       case measure => omega
       case rel => exact ⟨n2 + 1, by go_num, by go_num, by omega, rfl, HS⟩
     · have HD := HN.out.done (by omega)
       have t3 : (gk : Int) % 2 = 1 := by omega
       subst HD
       obtain ⟨t, ht⟩ : ∃ t, tz m = t := ⟨_, rfl⟩
       have HT := lHd ht
       rw [ht] at htz HB hn2 HN ⊢
       clear ht hev
       go_wp2_with fail
       clear t3
       have e1 : IntKind.i64.wrap (e + (t : Int)) = e + (t : Int) := iwo
       have hpm : Rd wr .i64 p (dig B16 m) := by rw [← HXS.out]; exact hp1
       go_region_held3 (fun w' => w'.cell? ⟨w.heap.size, 0, none⟩ = some (.bool g) ∧ w'.cell? ⟨w.heap.size, 1, none⟩ = some (.slice p xs.length c) ∧ w'.cell? ⟨w.heap.size, 2, none⟩ = some (.int .i64 e))
        (first | exact ⟨A1.c0, A1.c1, A1.c2⟩
               | (have D1 := A1.drew; exact ⟨D1.c0, D1.c1, D1.c2⟩)
               | (have D1 := A1.drew.past hb2; exact ⟨D1.c0, D1.c1, D1.c2⟩)
               | (have D1 := A1.drew.past hb2; exact ⟨(((D1.set (by omega)).set (by omega)).set (by omega)).c0, (((D1.set (by omega)).set (by omega)).set (by omega)).c1, (((D1.set (by omega)).set (by omega)).set (by omega)).c2⟩))
        (first | (go_at_call 49; refine (q0j p _ c m t _ hpm.drew (by rw [HXS.out]) (by rw [← HXS.out]; clear e1; omega) (by clear e1; omega)).mono ?_; rintro e2 w2 ⟨p2, c2, rfl, hr2, hc2, hf2, hb2⟩; obtain ⟨d0, d1, d2, f0, f1, f2, dlt⟩ := R1.drew.past hb2))
       all_goals (go_wp2_with fail)
       refine bodyPost_ret (v := .agg #[.bool g, .slice p2 (dig B16 (m / 2 ^ t)).length c2, .int .i64 (e + (t : Int))]) (by simp [results, Tryd.results25, go_sem, d0, d1, d2]) rfl ?_
       rw [HB.out]
       clear e1
       have hzd : wr.drew.heap.size = wr.heap.size := rfl
       exact c0s (d := ⟨g, m / 2 ^ t, e + t⟩) (hs1.drew.trans (hb2.mono hs1.size)) hr2 hc2 (fun h => .inr (by have := hf2 h; simp only at *; omega)) (by omega) (fun h => by have := hf2 h; simp only at *; omega)
theorem d0x (g : Bool) (p : OA) (n c : Nat) (e : Int) (m : Nat) (w : World) (hp : Rd w .i64 p (dig B16 m)) (hn : n = (dig B16 m).length) (hl : (dig B16 m).length ≤ 10000000)
 (he : -1000000000 ≤ e ∧ e ≤ 1000000000) :
 Calls Tryd.prog 25 #[.agg #[.bool g, .slice p n c, .int .i64 e]] w (j0k w (fun _ => False) (bare ⟨g, m, e⟩)) := by
 by_cases h0 : m = 0
 · subst h0
   rw [a0b] at hn
   subst hn
   exact n0f g p c e w
 · exact o0t g p n c e m w hp hn hl (by omega) he
theorem n0g (a : Din) (w : World) (ha : InD w a) (he : a0w a = 0) :
 Calls Tryd.prog 11 #[.agg #[.bool a.g, .slice a.p a.xs.length a.c, .int .i64 a.e]] w (j0k w (fun _ => False) (dyV a)) := by
 obtain ⟨W1, hW1, hs1, A1, R1, hz1⟩ := u0g w (.bool a.g) (.slice a.p a.xs.length a.c) (.int .i64 a.e) (.bool false) (.slice none 0 0) (.int .i64 0) 25 34
 obtain ⟨ma, exa, eva, la, e1a, e2a⟩ := ha.ok he
 have l16 := u0f ma
 have hl2 : a.xs.length ≤ 1200 := by rw [exa]; exact la
 have HVA := lHd (show bare ⟨a.g, ma, a.e⟩ = dyV a by unfold dyV; rw [eva])
 have HV := lHd eva
 generalize dyV a = va at *
 have ha1 := ha.past hs1
 clear exa eva
 have HW1 := lHd hW1
 clear hW1
 go_enter Tryd.func11, Tryd.ntmps11
 go_wp2_with fail
 rw [← HW1.out]
 clear HW1
 go_region_held3 (fun w' => w'.cell? ⟨w.heap.size, 0, none⟩ = some (.bool a.g) ∧ w'.cell? ⟨w.heap.size, 1, none⟩ = some (.slice a.p a.xs.length a.c) ∧ w'.cell? ⟨w.heap.size, 2, none⟩ = some (.int .i64 a.e))
  (first | exact ⟨A1.c0, A1.c1, A1.c2⟩
         | (have D1 := A1.drew; exact ⟨D1.c0, D1.c1, D1.c2⟩)
         | (have D1 := A1.drew.past hb2; exact ⟨D1.c0, D1.c1, D1.c2⟩)
         | (have D1 := (A1.drew.past hb2).past hb3; exact ⟨D1.c0, D1.c1, D1.c2⟩)
         | (have D1 := (A1.drew.past hb2).past hb3; exact ⟨(((D1.set (by omega)).set (by omega)).set (by omega)).c0, (((D1.set (by omega)).set (by omega)).set (by omega)).c1, (((D1.set (by omega)).set (by omega)).set (by omega)).c2⟩))
  (first
    | (go_at_call 26; refine (u0k a.p _ a.c a.xs _ ha1.drew.rd rfl ha1.lt (by omega)).mono ?_; rw [HV.out]; rintro e2 w2 ⟨p2, c2, rfl, hr2, hc2, hf2, hb2⟩)
    | (go_at_call 25; refine (d0x a.g p2 _ c2 a.e ma _ hr2 rfl (by omega) (by omega)).mono ?_; rw [HVA.out]; rintro e3 w3 ⟨p3, c3, rfl, hr3, hc3, hf3, hb3⟩; obtain ⟨d0, d1, d2, f0, f1, f2, dlt⟩ := (R1.drew.past hb2).past hb3))
 all_goals (go_wp2_with fail)
 refine bodyPost_ret (v := .agg #[.bool va.neg, .slice p3 (dig B16 va.m).length c3, .int .i64 va.e]) (by simp [results, Tryd.results11, go_sem, d0, d1, d2]) rfl ?_
 have hzd : W1.drew.heap.size = W1.heap.size := rfl
 have hs2 := hs1.drew.trans (hb2.mono hs1.size)
 have hz2 := hb2.size
 have hf : 0 < (dig B16 va.m).length → w2.heap.size ≤ blk p3 := fun h => by rcases hf3 h with h | h; exact h.elim; exact h
 exact c0s (hs2.trans (hb3.mono hs2.size)) hr3 hc3 (fun h => .inr (by have := hf h; omega)) (by omega) (fun h => by have := hf h; omega)
instance decDv : DecidableEq Dv := fun a b => decidable_of_iff (a.neg = b.neg ∧ a.m = b.m ∧ a.e = b.e) ⟨fun h => Dv.ext' h.1 h.2.1 h.2.2, fun h => by subst h; exact ⟨rfl, rfl, rfl⟩⟩
theorem k0q (p q : OA) (n c m d : Nat) (xs ys : List Nat) (w : World) (hp : Rd w .u32 p xs) (hq : Rd w .u32 q ys) (hn : n = xs.length) (hm : m = ys.length) (hl : xs.length ≤ 1000000000) (_hl2 : ys.length ≤ 1000000000) :
 Calls Tryd.prog 16 #[.slice p n c, .slice q m d] w fun e w' => e = .returned (.bool (decide (xs = ys))) ∧ Below w.heap.size w w' := by
 by_cases he : xs = ys
 · have h1 : decide (xs = ys) = true := dTr he
   rw [h1]
   exact a0r p q n c m d xs ys w hp hq hn hm he (by omega)
 · subst hn hm
   have h1 : decide (xs = ys) = false := dFa he
   rw [h1]
   have hs1 := hp.solid
   have hs2 := hq.solid
   by_cases hlen : xs.length = ys.length
   · have HN : Hid (∃ j, j < xs.length ∧ dg xs j ≠ dg ys j) := by
      apply Classical.byContradiction
      intro hc
      apply he
      apply b0j hlen
      intro t ht
      apply Classical.byContradiction
      intro hne
      exact hc ⟨t, ht, hne⟩
     have HL := lHd hlen
     rw [← hlen] at hs2
     rw [← hlen]
     clear he h1 hlen
     go_enter Tryd.func16, Tryd.ntmps16
     go_wp2
     go_loopw [5] (fun iv wr => ∃ (i : Nat), iv = .int .i64 i ∧ i ≤ xs.length ∧ Below w.heap.size w wr ∧ Hid (∀ j, j < i → dg xs j = dg ys j)) (fun iv _ => xs.length - (intOf iv).toNat)
     case atStart => exact ⟨0, rfl, Nat.zero_le _, Below.refl _ _, (show ∀ j, j < 0 → dg xs j = dg ys j from fun j hj => by omega)⟩
     case round =>
      obtain ⟨i, rfl, hi, hb, HE⟩ := hrel
      by_cases hlt : i < xs.length
      · have hc1 := (hp.past hb).cells i hlt
        have hc2 := (hq.past hb).cells i (by rw [← HL.out]; exact hlt)
        have i1 : (i : Int) < (xs.length : Int) := by omega
        have i0 : (0 : Int) ≤ (i : Int) := by omega
        by_cases hd : dg xs i = dg ys i
        · rw [← hd] at hc2
          have HS : Hid (∀ j, j < i + 1 → dg xs j = dg ys j) := fun j hj => by
           by_cases hji : j = i
           · subst hji; exact hd
           · exact HE.out j (by omega)
          clear hd
          go_wp2_with fail
          go_quiet (fail)
          go_wp2
          go_roundw
          case measure => simp [intOf]; omega
          case rel => exact ⟨i + 1, by go_num, hlt, hb.trans (below_drewN (Below.refl _ _) _), HS⟩
        · have h2 : (((dg xs i : Nat) : Int) == ((dg ys i : Nat) : Int)) = false := bFn (by omega)
          have h3 : (((dg xs i : Nat) : Int) != ((dg ys i : Nat) : Int)) = true := by rw [bne, h2]; rfl
          clear hd
          go_wp2_with fail
          go_quiet (fail)
          go_wp2
          go_ret
          exact ⟨rfl, hb.trans (below_drewN (Below.refl _ _) _)⟩
      · exfalso
        obtain ⟨j, hj, hne⟩ := HN.out
        exact hne (HE.out j (by omega))
   · have h2 : ((xs.length : Int) == (ys.length : Int)) = false := bFn (by omega)
     have h3 : ((xs.length : Int) != (ys.length : Int)) = true := by rw [bne, h2]; rfl
     clear he h1 hlen
     go_enter Tryd.func16, Tryd.ntmps16
     go_wp2
     go_ret
     exact ⟨rfl, Below.refl _ _⟩
theorem d0o (g h : Bool) (p q : OA) (n c m d : Nat) (e f : Int) (a b : Nat) (w : World) (hp : Rd w .u32 p (dig B32 a)) (hq : Rd w .u32 q (dig B32 b)) (hn : n = (dig B32 a).length) (hm : m = (dig B32 b).length) (hl : (dig B32 a).length ≤ 1000000000) (hl2 : (dig B32 b).length ≤ 1000000000) :
 Calls Tryd.prog 17 #[.agg #[.bool g, .slice p n c, .int .i64 e], .agg #[.bool h, .slice q m d, .int .i64 f]] w fun en w' => en = .returned (.bool (decide ((⟨g, a, e⟩ : Dv) = ⟨h, b, f⟩))) ∧ Below w.heap.size w w' := by
 subst hn hm
 have hs1 := b0d w (.cells #[.bool g, .slice p (dig B32 a).length c, .int .i64 e] 25) (.cells #[.bool h, .slice q (dig B32 b).length d, .int .i64 f] 25)
 have hp1 := (hp.laid (.cells #[.bool g, .slice p (dig B32 a).length c, .int .i64 e] 25)).laid (.cells #[.bool h, .slice q (dig B32 b).length d, .int .i64 f] 25)
 have hq1 := (hq.laid (.cells #[.bool g, .slice p (dig B32 a).length c, .int .i64 e] 25)).laid (.cells #[.bool h, .slice q (dig B32 b).length d, .int .i64 f] 25)
 by_cases hg : g = h
 · by_cases he : e = f
   · subst hg he
     have h1 : decide ((⟨g, a, e⟩ : Dv) = ⟨g, b, e⟩) = decide (dig B32 a = dig B32 b) := by
      by_cases hab : a = b
      · subst hab; simp
      · rw [decide_eq_false (fun h => hab (congrArg Dv.m h)), decide_eq_false (fun h => hab (z0w a0a h))]
     rw [h1]
     clear h1
     have t1 : (g == g) = true := by simp
     have t2 : (e == e) = true := by simp
     go_enter Tryd.func17, Tryd.ntmps17
     go_wp2_with fail
     ((with_reducible refine (k0q p q _ c _ d (dig B32 a) (dig B32 b) _ hp1 hq1 rfl rfl hl hl2).mono ?_))
     rintro e2 w2 ⟨rfl, hb2⟩
     go_wp2
     go_ret
     exact ⟨rfl, hs1.trans (hb2.mono hs1.size)⟩
   · subst hg
     have h1 : decide ((⟨g, a, e⟩ : Dv) = ⟨g, b, f⟩) = false := dFa (fun h => he (congrArg Dv.e h))
     rw [h1]
     have t1 : (g == g) = true := by simp
     have t2 : (e == f) = false := bFn he
     clear h1 he
     go_enter Tryd.func17, Tryd.ntmps17
     go_wp2
     go_ret
     exact ⟨rfl, hs1⟩
 · have h1 : decide ((⟨g, a, e⟩ : Dv) = ⟨h, b, f⟩) = false := dFa (fun h => hg (congrArg Dv.neg h))
   rw [h1]
   have t1 : (g == h) = false := by simpa using hg
   clear h1 hg
   go_enter Tryd.func17, Tryd.ntmps17
   go_wp2
   go_ret
   exact ⟨rfl, hs1⟩
theorem b1e {d : Dv} (h : ¬ 1200 < (dig B32 d.m).length) (h2 : ¬ (d.e < -20000 ∨ 20000 < d.e)) : errD d = 0 ∧ c0k d = d := by
 have he : errD d = 0 := by unfold errD; rw [if_neg h, if_neg h2]
 exact ⟨he, by unfold c0k; rw [he, if_pos rfl]⟩
theorem q0k : dig B32 1 = [1] := by rw [d0e a0a (by omega)]; simp [B32, a0b]
theorem w0n : c0x ⟨false, 1, 0⟩ ⟨false, 3, 0⟩ = ⟨false, 1, 2⟩ := by
 have h1 : c0x ⟨false, 1, 0⟩ ⟨false, 3, 0⟩ = bare ⟨false, 1 * 2 ^ 2, 0⟩ := rfl
 rw [h1, h0r]
 exact g0k (.inl rfl)
theorem z0s (w : World) (k : Nat) (hk : 0 < k) (hk2 : k < 4294967296) : InD (w.alloc (.cells #[.int .u32 (k : Int)] 55)) ⟨false, some ⟨w.heap.size, 0, none⟩, 1, [k], 0⟩ := by
 have h := (t0i w .u32 55 (k : Int) (by omega)).rd
 simp only [Int.toNat_natCast] at h
 exact ⟨h, by simp, by simp, by intro x hx; simp at hx; subst hx; exact hk2⟩
theorem l0m (k : Nat) (p : OA) (hk : 0 < k) : a0w ⟨false, p, 1, [k], 0⟩ = 0 := by
 unfold a0w
 have h : a0n [k] = 0 := by
  unfold a0n
  rw [if_neg, if_neg (by simp)]
  rintro ⟨_, h2⟩
  simp [dg] at h2
  omega
 simp [h]
theorem s0x (k : Nat) (p : OA) (hk : k % 2 = 1) : dyV ⟨false, p, 1, [k], 0⟩ = ⟨false, k, 0⟩ := by
 unfold dyV
 simp only [val_cons, val_nil, Nat.mul_zero, Nat.add_zero]
 exact g0k (.inl hk)
theorem n0h (w : World) (hT : TabW w) :
 Calls Tryd.prog 4 #[] w fun e w' => e = .returned (.bool true) ∧ Below w.heap.size w w' := by
 obtain ⟨W1, hW1⟩ : ∃ W1, W1 = (w.alloc (.cells #[.int .u32 1] 55)).alloc (.cells #[.int .u32 3] 55) := ⟨_, rfl⟩
 have hs1 : Below w.heap.size w W1 := by rw [hW1]; exact b0d w _ _
 have ha : InD W1 ⟨false, some ⟨w.heap.size, 0, none⟩, 1, [1], 0⟩ := by rw [hW1]; exact (z0s w 1 (by omega) (by omega)).laid _
 have hb : InD W1 ⟨false, some ⟨w.heap.size + 1, 0, none⟩, 1, [3], 0⟩ := by
  have := z0s (w.alloc (.cells #[.int .u32 1] 55)) 3 (by omega) (by omega)
  rw [hW1]; simpa using this
 have HA := o0d _ _ W1 ha hb (hT.past hs1)
 have he : b0t ⟨false, some ⟨w.heap.size, 0, none⟩, 1, [1], 0⟩ ⟨false, some ⟨w.heap.size + 1, 0, none⟩, 1, [3], 0⟩ = 0 := by unfold b0t; rw [if_pos (l0m 1 _ (by omega)), l0m 3 _ (by omega)]
 unfold e0q j0n at HA
 rw [if_pos he, if_pos he, s0x 1 _ (by omega), s0x 3 _ (by omega), w0n] at HA
 obtain ⟨e0, d0⟩ := b1e (d := ⟨false, 1, 2⟩) (by rw [q0k]; simp) (by simp)
 rw [e0, d0] at HA
 simp only [List.length_cons, List.length_nil, Nat.zero_add] at HA
 have HAA := lHd HA
 have HW1 := lHd hW1
 clear HA he e0 d0 hW1 ha hb
 go_enter Tryd.func4, Tryd.ntmps4
 go_wp2_with fail
 rw [← HW1.out]
 ((with_reducible refine HAA.out.mono ?_))
 rintro e2 w2 ⟨p2, c2, rfl, ho2, hb2⟩
 have hs2 := hs1.trans (hb2.mono hs1.size)
 rw [q0k] at ho2 ⊢
 obtain ⟨W3, hW3⟩ : ∃ W3, W3 = (w2.alloc (.cells #[.bool false, .slice p2 1 c2, .int .i64 2] 25)).alloc (.cells #[.int .u32 1] 55) := ⟨_, rfl⟩
 have hs3 : Below w2.heap.size w2 W3 := by rw [hW3]; exact b0d w2 _ _
 have B3 : Box3 W3 w2.heap.size (.bool false) (.slice p2 1 c2) (.int .i64 2) := by rw [hW3]; exact (a0i w2 _ _ _ _).laid _
 have ho3 := ho2.past hs3
 have hl3 : Rd W3 .u32 (some ⟨w2.heap.size + 1, 0, none⟩) [1] := by
  have := (t0i (w2.alloc (.cells #[.bool false, .slice p2 1 c2, .int .i64 2] 25)) .u32 55 1 (by omega)).rd
  rw [hW3]; simpa using this
 have HD := lHd q0k
 have b0 := (a0i w2 (.bool false) (.slice p2 1 c2) (.int .i64 2) 25).c0
 have HW3 := lHd hW3
 clear hW3 HAA b0
 go_wp2_with fail
 rw [← HW3.out]
 ((with_reducible refine (d0o false false p2 (some ⟨w2.heap.size + 1, 0, none⟩) _ c2 _ 1 2 2 1 1 _ (by rw [HD.out]; exact ho3.rd) (by rw [HD.out]; exact hl3) (by rw [HD.out]; simp) (by rw [HD.out]; simp) (by rw [HD.out]; simp) (by rw [HD.out]; simp)).mono ?_))
 rintro e4 w4 ⟨rfl, hb4⟩
 go_wp2
 go_ret
 exact ⟨by simp, (hs2.trans (hs3.mono hs2.size)).trans (hb4.mono (Nat.le_trans hs2.size hs3.size))⟩
structure w0o (r : Din) (d : Dv) : Prop where
 g : r.g = d.neg
 xs : r.xs = dig B32 d.m
 e : r.e = d.e
structure w0p (a b : Din) (D : Dv) (r : Din) (er : Int) : Prop where
 er : er = j0n a b D
 out : w0o r (e0q a b D)
structure w0q (e0 : Int) (D : Dv) (r : Din) (er : Int) : Prop where
 er : er = i0i e0 D
 out : w0o r (e0g e0 D)
theorem c1x (w' : World) (base : Nat) (d : Dv) (p : OA) (c : Nat) (ho : Own w' base .u32 55 p c (dig B32 d.m)) (hl : (dig B32 d.m).length ≤ 9223372036854775807) :
 InD w' ⟨d.neg, p, c, dig B32 d.m, d.e⟩ ∧ w0o ⟨d.neg, p, c, dig B32 d.m, d.e⟩ d :=
 ⟨⟨ho.rd, ho.le_cap, hl, b0a a0a _⟩, rfl, rfl, rfl⟩
theorem q0l {D : Dv} (h : errD D = 0) : (dig B32 D.m).length ≤ 1200 ∧ -20000 ≤ D.e ∧ D.e ≤ 20000 := by
 unfold errD at h
 split at h
 · omega
 · split at h
   · omega
   · omega
theorem w0p.ok {a b r : Din} {D : Dv} {er : Int} (h : w0p a b D r er) (h0 : er = 0) : b0t a b = 0 ∧ errD D = 0 ∧ w0o r D := by
 obtain ⟨h1, h2⟩ := h
 rw [h0] at h1
 unfold j0n at h1
 by_cases he : b0t a b = 0
 · rw [if_pos he] at h1
   refine ⟨he, h1.symm, ?_⟩
   unfold e0q at h2
   rw [if_pos he] at h2
   unfold c0k at h2
   rw [if_pos h1.symm] at h2
   exact h2
 · rw [if_neg he] at h1
   exact absurd h1.symm he
theorem w0q.ok {r : Din} {e0 er : Int} {D : Dv} (h : w0q e0 D r er) (h0 : er = 0) : e0 = 0 ∧ errD D = 0 ∧ w0o r D := by
 obtain ⟨h1, h2⟩ := h
 rw [h0] at h1
 unfold i0i at h1
 by_cases he : e0 = 0
 · rw [if_pos he] at h1
   refine ⟨he, h1.symm, ?_⟩
   unfold e0g at h2
   rw [if_pos he] at h2
   unfold c0k at h2
   rw [if_pos h1.symm] at h2
   exact h2
 · rw [if_neg he] at h1
   exact absurd h1.symm he
theorem q0m (p q : OA) (n m c d : Nat) (a b : Nat) (w : World) (hp : Rd w .i64 p (dig B16 a)) (hq : Rd w .i64 q (dig B16 b)) (hn : n = (dig B16 a).length) (hm : m = (dig B16 b).length)
 (hl : (dig B16 a).length + (dig B16 b).length ≤ 1000000000) :
 Calls Tryd.prog 52 #[.slice p n c, .slice q m d] w (i0d w .i64 (dig B16 (a + b))) := by
 subst hn hm
 have HXL := lHd (b0a a0g a)
 have HYL := lHd (b0a a0g b)
 obtain ⟨xs, hxs⟩ : ∃ xs, xs = dig B16 a := ⟨_, rfl⟩
 obtain ⟨ys, hys⟩ : ∃ ys, ys = dig B16 b := ⟨_, rfl⟩
 rw [← hxs] at hp hl HXL ⊢
 rw [← hys] at hq hl HYL ⊢
 have HA := lHd hxs
 have HB := lHd hys
 clear hxs hys
 have hsx := hp.solid
 have hsy := hq.solid
 go_enter Tryd.func52, Tryd.ntmps52
 go_wp2
 go_loopg [5, 6, 7] (xs.length + ys.length + 2) (fun g ov cv iv wr => ∃ (i cr : Nat) (t : OA) (e : Nat) (O : List Nat), iv = .int .i64 i ∧ cv = .int .i64 cr ∧ ov = .slice t O.length e ∧ g + i = xs.length + ys.length + 2 ∧ cr ≤ 1 ∧ i ≤ xs.length + ys.length + 1 ∧ Hid (O.length = i) ∧
     Own wr w.heap.size .i64 3 t e O ∧ Below w.heap.size w wr ∧ Hid (e0m O xs ys i cr))
 case atStart => exact ⟨0, 0, none, 0, [], rfl, rfl, rfl, rfl, by omega, by omega, rfl, Own.nil _ _ _ _, Below.refl _ _, e0m.start xs ys⟩
 case round =>
  obtain ⟨i, cr, t, e, O, rfl, rfl, rfl, hg, hcr, hi, hO, hoq, hb, HR⟩ := hrel
  have hpL := hp.past hb
  have hqL := hq.past hb
  have hxd := a0f (B := 65536) (by omega) xs HXL.out i
  have hyd := a0f (B := 65536) (by omega) ys HYL.out i
  have hi2 : 0 < i → cr = 1 → i ≤ xs.length ∨ i ≤ ys.length := fun h1 h2 => by have := HR.out.2.2.2.2; omega
  by_cases h1 : i < xs.length
  · have hc1 := hpL.cells i h1
    have HS := HR.out.step hxd hyd (.inl h1)
    by_cases h2 : i < ys.length
    · have hc2 := hqL.cells i h2
      have HS := lHd HS
      clear hi2
      go_wp2_with (first
        | (refine a0p rfl _ _ rfl tyN _ ?_ rfl ?_; omega; intro p2 w2 ho2 hb2 hz2 hp2)
        | (at_builtin; refine a0o rfl _ _ _ rfl tyN _ _ _ _ _ (hoq.past hb2) rfl _ _ _ _ ho2.rd rfl rfl rfl ?_ ?_ ?_; (have := hO.out; simp; omega); (have := hb2.size; have := hb.size; omega); intro p3 c3 w3 ho3 hg3 hb3 hn3))
      have hb4 := hb.trans ((hb2.mono hb.size).trans hb3)
      have e4 : (((cr : Int) + dg xs i + dg ys i : Int) % 65536).toNat = (cr + dg xs i + dg ys i) % B16 := by unfold B16; omega
      rw [e4] at ho3
      go_roundg (xs.length + ys.length + 1 - i)
      case measure => omega
      case rel => exact ⟨i + 1, (cr + dg xs i + dg ys i) / B16, p3, c3, _, by go_num, (by unfold B16; go_num), by simp, by omega, HS.out.2.2.1, by omega, (by show (O ++ _).length = i + 1; have := hO.out; simp; omega), ho3, hb4, HS⟩
    · have ez : dg ys i = 0 := b0c (by omega)
      rw [ez] at HS
      have HS := lHd HS
      clear ez hyd hi2
      go_wp2_with (first
        | (refine a0p rfl _ _ rfl tyN _ ?_ rfl ?_; omega; intro p2 w2 ho2 hb2 hz2 hp2)
        | (at_builtin; refine a0o rfl _ _ _ rfl tyN _ _ _ _ _ (hoq.past hb2) rfl _ _ _ _ ho2.rd rfl rfl rfl ?_ ?_ ?_; (have := hO.out; simp; omega); (have := hb2.size; have := hb.size; omega); intro p3 c3 w3 ho3 hg3 hb3 hn3))
      have hb4 := hb.trans ((hb2.mono hb.size).trans hb3)
      have e4 : (((cr : Int) + dg xs i : Int) % 65536).toNat = (cr + dg xs i + 0) % B16 := by unfold B16; omega
      rw [e4] at ho3
      go_roundg (xs.length + ys.length + 1 - i)
      case measure => omega
      case rel => exact ⟨i + 1, (cr + dg xs i + 0) / B16, p3, c3, _, by go_num, (by unfold B16; go_num), by simp, by omega, HS.out.2.2.1, by omega, (by show (O ++ _).length = i + 1; have := hO.out; simp; omega), ho3, hb4, HS⟩
  · have ex : dg xs i = 0 := b0c (by omega)
    by_cases h2 : i < ys.length
    · have hc2 := hqL.cells i h2
      have HS := HR.out.step hxd hyd (.inr (.inl h2))
      rw [ex] at HS
      have HS := lHd HS
      clear ex hxd hi2
      go_wp2_with (first
        | (refine a0p rfl _ _ rfl tyN _ ?_ rfl ?_; omega; intro p2 w2 ho2 hb2 hz2 hp2)
        | (at_builtin; refine a0o rfl _ _ _ rfl tyN _ _ _ _ _ (hoq.past hb2) rfl _ _ _ _ ho2.rd rfl rfl rfl ?_ ?_ ?_; (have := hO.out; simp; omega); (have := hb2.size; have := hb.size; omega); intro p3 c3 w3 ho3 hg3 hb3 hn3))
      have hb4 := hb.trans ((hb2.mono hb.size).trans hb3)
      have e4 : (((cr : Int) + dg ys i : Int) % 65536).toNat = (cr + 0 + dg ys i) % B16 := by unfold B16; omega
      rw [e4] at ho3
      go_roundg (xs.length + ys.length + 1 - i)
      case measure => omega
      case rel => exact ⟨i + 1, (cr + 0 + dg ys i) / B16, p3, c3, _, by go_num, (by unfold B16; go_num), by simp, by omega, HS.out.2.2.1, by omega, (by show (O ++ _).length = i + 1; have := hO.out; simp; omega), ho3, hb4, HS⟩
    · have ey : dg ys i = 0 := b0c (by omega)
      by_cases h3 : 0 < cr
      · have HS := HR.out.step hxd hyd (.inr (.inr h3))
        rw [ex, ey] at HS
        have HS := lHd HS
        have hi3 : i ≤ xs.length + ys.length := by
         by_cases h0 : 0 < i
         · have := hi2 h0 (by omega); omega
         · omega
        clear ex ey hxd hyd hi2
        go_wp2_with (first
          | (refine a0p rfl _ _ rfl tyN _ ?_ rfl ?_; omega; intro p2 w2 ho2 hb2 hz2 hp2)
          | (at_builtin; refine a0o rfl _ _ _ rfl tyN _ _ _ _ _ (hoq.past hb2) rfl _ _ _ _ ho2.rd rfl rfl rfl ?_ ?_ ?_; (have := hO.out; simp; omega); (have := hb2.size; have := hb.size; omega); intro p3 c3 w3 ho3 hg3 hb3 hn3))
        have hb4 := hb.trans ((hb2.mono hb.size).trans hb3)
        have e4 : (((cr : Int) : Int) % 65536).toNat = (cr + 0 + 0) % B16 := by unfold B16; omega
        rw [e4] at ho3
        go_roundg (xs.length + ys.length + 1 - i)
        case measure => omega
        case rel => exact ⟨i + 1, (cr + 0 + 0) / B16, p3, c3, _, by go_num, (by unfold B16; go_num), by simp, by omega, HS.out.2.2.1, by omega, (by show (O ++ _).length = i + 1; have := hO.out; simp; omega), ho3, hb4, HS⟩
      · obtain rfl : cr = 0 := by omega
        have HD := lHd (HR.out.done (by omega) (by omega) HA.out HB.out)
        clear ex ey hxd hyd hi2
        go_wp2
        go_ret
        exact u0j HD.out rfl hoq hb
theorem l0n (p q : OA) (n m c d : Nat) (a b : Nat) (w : World) (hp : Rd w .i64 p (dig B16 a)) (hq : Rd w .i64 q (dig B16 b)) (hn : n = (dig B16 a).length) (hm : m = (dig B16 b).length)
 (hl : (dig B16 a).length ≤ 1000000000) (hl2 : (dig B16 b).length ≤ 1000000000) :
 Calls Tryd.prog 53 #[.slice p n c, .slice q m d] w fun e w' => e = .returned (.int .i64 (cmpN a b)) ∧ Below w.heap.size w w' := by
 subst hn hm
 by_cases hlt : (dig B16 a).length < (dig B16 b).length
 · have H := lHd (f0d (f0q a0g hlt))
   go_enter Tryd.func53, Tryd.ntmps53
   go_wp2
   go_ret
   exact ⟨e0c H.out, Below.refl _ _⟩
 · by_cases hgt : (dig B16 b).length < (dig B16 a).length
   · have H := lHd (l0y (f0q a0g hgt))
     go_enter Tryd.func53, Tryd.ntmps53
     go_wp2
     go_ret
     exact ⟨e0c H.out, Below.refl _ _⟩
   · have hle : (dig B16 b).length = (dig B16 a).length := by omega
     have HXL := lHd (b0a a0g a)
     have HYL := lHd (b0a a0g b)
     have HA := lHd (a0q a0g a)
     have HB := lHd (a0q a0g b)
     rw [hle]
     have HL := lHd hle
     have hly := Nat.le_of_eq hle.symm
     clear hlt hgt hle
     generalize dig B16 a = xs at *
     generalize dig B16 b = ys at *
     have hsx := hp.solid
     have hsy := hq.solid
     rw [HL.out] at hsy
     go_enter Tryd.func53, Tryd.ntmps53
     go_wp2
     go_loopw [5] (fun iv wr => ∃ (k : Nat), iv = .int .i64 ((k : Int) - 1) ∧ k ≤ xs.length ∧ Below w.heap.size w wr ∧ Hid (xs.drop k = ys.drop k)) (fun iv _ => (intOf iv + 1).toNat)
     case atStart => exact ⟨xs.length, rfl, Nat.le_refl _, Below.refl _ _, (show xs.drop _ = ys.drop _ by rw [List.drop_length, List.drop_of_length_le (by have := HL.out; omega)])⟩
     case round =>
      obtain ⟨k, rfl, hk, hb, HD⟩ := hrel
      by_cases h0 : 0 < k
      · obtain ⟨k, rfl⟩ : ∃ j, k = j + 1 := ⟨k - 1, by omega⟩
        have ej : ((k + 1 : Nat) : Int) - 1 = k := by omega
        rw [ej]
        have hxd := a0f (B := 65536) (by omega) xs HXL.out k
        have hyd := a0f (B := 65536) (by omega) ys HYL.out k
        have hc1 := (hp.past hb).cells k (by omega)
        have hc2 := (hq.past hb).cells k (by omega)
        have i1 : (k : Int) < (xs.length : Int) := by omega
        have i0 : (0 : Int) ≤ (k : Int) := by omega
        clear ej
        by_cases h1 : dg xs k < dg ys k
        · have H := lHd (f0d (by have := l0z xs ys HXL.out k (by omega) HL.out.symm HD.out h1; rwa [HA.out, HB.out] at this))
          go_wp2_with fail
          go_quiet (fail)
          go_wp2
          go_ret
          exact ⟨e0c H.out, hb.trans (by first | exact below_drewN (Below.refl _ _) _ | exact below_drewN (below_drewN (Below.refl _ _) _) _)⟩
        · by_cases h2 : dg ys k < dg xs k
          · have H := lHd (l0y (by have := l0z ys xs HYL.out k (by have := HL.out; omega) HL.out HD.out.symm h2; rwa [HA.out, HB.out] at this))
            go_wp2_with fail
            go_quiet (fail)
            go_wp2_with fail
            go_quiet (fail)
            go_wp2
            go_ret
            exact ⟨e0c H.out, hb.trans (by first | exact below_drewN (Below.refl _ _) _ | exact below_drewN (below_drewN (Below.refl _ _) _) _)⟩
          · have h3 : dg xs k = dg ys k := by omega
            have HE := lHd (k0t (by omega) HL.out.symm HD.out h3)
            rw [← h3] at hc2
            clear h3 h1 h2
            go_wp2_with fail
            go_quiet (fail)
            go_wp2_with fail
            go_quiet (fail)
            go_wp2
            go_roundw
            case rel => exact ⟨k, rfl, by omega, hb.trans (by first | exact below_drewN (Below.refl _ _) _ | exact below_drewN (below_drewN (Below.refl _ _) _) _), HE⟩
            case measure => first | (simp [intOf]; done) | (simp [intOf]; omega)
      · obtain rfl : k = 0 := by omega
        have H : cmpN a b = 0 := by
         have := HD.out
         simp only [List.drop_zero] at this
         rw [← HA.out, ← HB.out, this]; exact t0l _
        have H := lHd H
        go_wp2
        go_ret
        exact ⟨e0c H.out, hb⟩
theorem k0d (p q : OA) (n m c d : Nat) (a b : Nat) (w : World) (hp : Rd w .i64 p (dig B16 a)) (hq : Rd w .i64 q (dig B16 b)) (hn : n = (dig B16 a).length) (hm : m = (dig B16 b).length)
 (hl : (dig B16 a).length ≤ 1000000000) (hab : b ≤ a) :
 Calls Tryd.prog 54 #[.slice p n c, .slice q m d] w (i0d w .i64 (dig B16 (a - b))) := by
 subst hn hm
 have hge := a0e a0g hab
 have HXL := lHd (b0a a0g a)
 have HYL := lHd (b0a a0g b)
 have HA := lHd (a0q a0g a)
 have HB := lHd (a0q a0g b)
 generalize dig B16 a = xs at *
 generalize dig B16 b = ys at *
 have hsx := hp.solid
 have hsy := hq.solid
 go_enter Tryd.func54, Tryd.ntmps54
 go_wp2
 go_loopg [5, 6, 7] (xs.length) (fun g ov cv iv wr => ∃ (i cr : Nat) (t : OA) (e : Nat) (O : List Nat), iv = .int .i64 i ∧ cv = .int .i64 cr ∧ ov = .slice t O.length e ∧ g + i = xs.length ∧ cr ≤ 1 ∧ i ≤ xs.length ∧ Hid (O.length = i) ∧
     Own wr w.heap.size .i64 3 t e O ∧ Below w.heap.size w wr ∧ Hid (e0n O xs ys i cr))
 case atStart => exact ⟨0, 0, none, 0, [], rfl, rfl, rfl, by omega, by omega, by omega, rfl, Own.nil _ _ _ _, Below.refl _ _, e0n.start xs ys⟩
 case round =>
  obtain ⟨i, cr, t, e, O, rfl, rfl, rfl, hg, hcr, hi, hO, hoq, hb, HR⟩ := hrel
  have hpL := hp.past hb
  have hqL := hq.past hb
  have hxd := a0f (B := 65536) (by omega) xs HXL.out i
  have hyd := a0f (B := 65536) (by omega) ys HYL.out i
  by_cases h1 : i < xs.length
  · have hc1 := hpL.cells i h1
    by_cases h2 : i < ys.length
    · have hc2 := hqL.cells i h2
      by_cases h3 : dg xs i < dg ys i + cr
      · have HS := lHd (HR.out.step (dg xs i + 65536 - dg ys i - cr) 1 (by unfold B16; omega) (by omega) (by unfold B16; omega))
        go_wp2_with (first
          | (refine a0p rfl _ _ rfl tyN _ ?_ rfl ?_; omega; intro p2 w2 ho2 hb2 hz2 hp2)
          | (at_builtin; refine a0o rfl _ _ _ rfl tyN _ _ _ _ _ (hoq.past hb2) rfl _ _ _ _ ho2.rd rfl rfl rfl ?_ ?_ ?_; (have := hO.out; simp; omega); (have := hb2.size; have := hb.size; omega); intro p3 c3 w3 ho3 hg3 hb3 hn3))
        have hb4 := hb.trans ((hb2.mono hb.size).trans hb3)
        have e4 : ((dg xs i : Int) - cr - dg ys i + 65536).toNat = dg xs i + 65536 - dg ys i - cr := by omega
        rw [e4] at ho3
        go_roundg (xs.length - 1 - i)
        case measure => omega
        case rel => exact ⟨i + 1, 1, p3, c3, _, by go_num, rfl, by simp, by omega, by omega, by omega, (by show (O ++ _).length = i + 1; have := hO.out; simp; omega), ho3, hb4, HS⟩
      · have HS := lHd (HR.out.step (dg xs i - dg ys i - cr) 0 (by unfold B16; omega) (by omega) (by unfold B16; omega))
        go_wp2_with (first
          | (refine a0p rfl _ _ rfl tyN _ ?_ rfl ?_; omega; intro p2 w2 ho2 hb2 hz2 hp2)
          | (at_builtin; refine a0o rfl _ _ _ rfl tyN _ _ _ _ _ (hoq.past hb2) rfl _ _ _ _ ho2.rd rfl rfl rfl ?_ ?_ ?_; (have := hO.out; simp; omega); (have := hb2.size; have := hb.size; omega); intro p3 c3 w3 ho3 hg3 hb3 hn3))
        have hb4 := hb.trans ((hb2.mono hb.size).trans hb3)
        have e4 : ((dg xs i : Int) - cr - dg ys i).toNat = dg xs i - dg ys i - cr := by omega
        rw [e4] at ho3
        go_roundg (xs.length - 1 - i)
        case measure => omega
        case rel => exact ⟨i + 1, 0, p3, c3, _, by go_num, rfl, by simp, by omega, by omega, by omega, (by show (O ++ _).length = i + 1; have := hO.out; simp; omega), ho3, hb4, HS⟩
    · have ez : dg ys i = 0 := b0c (by omega)
      by_cases h3 : dg xs i < cr
      · have HS := lHd (HR.out.step (dg xs i + 65536 - cr) 1 (by unfold B16; omega) (by omega) (by unfold B16; omega))
        clear ez hyd
        go_wp2_with (first
          | (refine a0p rfl _ _ rfl tyN _ ?_ rfl ?_; omega; intro p2 w2 ho2 hb2 hz2 hp2)
          | (at_builtin; refine a0o rfl _ _ _ rfl tyN _ _ _ _ _ (hoq.past hb2) rfl _ _ _ _ ho2.rd rfl rfl rfl ?_ ?_ ?_; (have := hO.out; simp; omega); (have := hb2.size; have := hb.size; omega); intro p3 c3 w3 ho3 hg3 hb3 hn3))
        have hb4 := hb.trans ((hb2.mono hb.size).trans hb3)
        have e4 : ((dg xs i : Int) - cr + 65536).toNat = dg xs i + 65536 - cr := by omega
        rw [e4] at ho3
        go_roundg (xs.length - 1 - i)
        case measure => omega
        case rel => exact ⟨i + 1, 1, p3, c3, _, by go_num, rfl, by simp, by omega, by omega, by omega, (by show (O ++ _).length = i + 1; have := hO.out; simp; omega), ho3, hb4, HS⟩
      · have HS := lHd (HR.out.step (dg xs i - cr) 0 (by unfold B16; omega) (by omega) (by unfold B16; omega))
        clear ez hyd
        go_wp2_with (first
          | (refine a0p rfl _ _ rfl tyN _ ?_ rfl ?_; omega; intro p2 w2 ho2 hb2 hz2 hp2)
          | (at_builtin; refine a0o rfl _ _ _ rfl tyN _ _ _ _ _ (hoq.past hb2) rfl _ _ _ _ ho2.rd rfl rfl rfl ?_ ?_ ?_; (have := hO.out; simp; omega); (have := hb2.size; have := hb.size; omega); intro p3 c3 w3 ho3 hg3 hb3 hn3))
        have hb4 := hb.trans ((hb2.mono hb.size).trans hb3)
        have e4 : ((dg xs i : Int) - cr).toNat = dg xs i - cr := by omega
        rw [e4] at ho3
        go_roundg (xs.length - 1 - i)
        case measure => omega
        case rel => exact ⟨i + 1, 0, p3, c3, _, by go_num, rfl, by simp, by omega, by omega, by omega, (by show (O ++ _).length = i + 1; have := hO.out; simp; omega), ho3, hb4, HS⟩
  · obtain rfl : i = xs.length := by omega
    have HD := lHd (HR.out.done HA.out HB.out hge hab)
    go_wp2_with (go_at_call 50; refine (e0o _ _ _ O _ hoq.rd rfl hoq.le_cap HR.out.1 (by rw [hO.out]; omega)).mono ?_; rintro e w3 ⟨rfl, rfl⟩)
    go_ret
    have ht := a0v a0g O HR.out.1
    have ho2 := hoq.take (dig B16 (val B16 O)).length
    rw [ht, HD.out] at ho2
    rw [HD.out]
    exact ⟨t, _, rfl, ho2.rd, Nat.le_refl _, h0t ho2, hb⟩
end Go.Proofs.YthcoapcffhgckaaDoor
