/- arith: Sub, Fused, Compare.
   The references' AddOf, MulOf, PoleOf, DivOf, FusedOf, CompareOf.
   The laws' opened.
   What must be in any case: 1 and 1 are 2.
   The laws ArithAdds, ArithMuls, ArithDivs: their walks.
   The law CodecNexts.
   The laws ArithSubs, ArithFuses: their walks. -/
import Derived.Carry
import Derived.Test.YtlcdfnaaenibgaaGreatDoorZf1
import Derived.Test.YtlcdfnaaenibgaaGreatDoorZf2
import Derived.Test.YtlcdfnaaenibgaaGreatDoorZf3
import Derived.Test.YtlcdfnaaenibgaaGreatDoorZf4
import Derived.Test.YtlcdfnaaenibgaaGreatDoorZf5
import Derived.Test.YtlcdfnaaenibgaaGreatDoorZf6
import Derived.Test.YtlcdfnaaenibgaaGreatDoorZf7
import Derived.Test.YtlcdfnaaenibgaaGreatDoorZf8
set_option maxHeartbeats 8000000
set_option maxRecDepth 100000
namespace Go.Proofs.YtlcdfnaaenibgaaGreatDoor
open Go.RowKit Go.Slip

def t0k (a : Vp) : Vp := ⟨⟨a.v.cls, if a.v.cls ≤ 3 then !a.v.neg else a.v.neg, a.v.d, a.v.pow⟩, a.p, a.c⟩
theorem l0o (a : Vp) (w : World) : Calls Tryz.prog 42 #[.agg #[.int .i64 (a.v.cls : Int), .bool a.v.neg, .slice a.p (dig B32 a.v.d).length a.c, .int .i64 a.v.pow]] w fun en w' => en = .returned (.agg #[.int .i64 (((t0k a).v.cls : Nat) : Int), .bool (t0k a).v.neg, .slice (t0k a).p (dig B32 (t0k a).v.d).length (t0k a).c, .int .i64 (t0k a).v.pow]) ∧ Below w.heap.size w w' := y0l a w
theorem g1a {g : Bool} {m : Nat} {e : Int} (h : m ≠ 0) : bare ⟨!g, m, e⟩ = c0l (bare ⟨g, m, e⟩) := by
 have h2 := (o0e (g := g) (e := e) h).2
 unfold bare c0l at *
 rw [if_neg h] at h2 ⊢
 rw [if_neg h]
 simp only at h2 ⊢
 rw [decide_eq_true (Nat.pos_of_ne_zero h2), Bool.and_true]
theorem c1z {f : Fm} {r : Vr} (h : r.cls = 3 → f.fam = 1) : r.opp.cls = 3 → f.fam = 1 := fun k => h (by unfold Vr.opp at k; split at k <;> exact k)
theorem g1b {f : Fm} {r : Vr} (R : VrF f r) : VrF f r.opp := by
 have hcls : r.opp.cls = r.cls := by unfold Vr.opp; split <;> rfl
 have hneg : r.opp.neg = if r.cls ≤ 3 then !r.neg else r.neg := by unfold Vr.opp; split <;> rfl
 have hx : r.opp.x = if r.cls ≤ 3 then c0l r.x else r.x := by unfold Vr.opp; split <;> rfl
 refine ⟨⟨?_, fun h => ?_, fun h => ?_, ?_, ?_, ?_, ?_⟩, c1z R.inf⟩
 · rw [hcls]; exact R.ok.c
 · rw [hcls] at h
   rw [hx, R.ok.x0 h]
   split <;> rfl
 · rw [hcls] at h
   obtain ⟨h1, h2⟩ := R.ok.x2 h
   rw [hx, hneg, if_pos (by omega), if_pos (by omega)]
   refine ⟨h1, ?_⟩
   show (!r.x.neg && decide (0 < r.x.m)) = !r.neg
   rw [decide_eq_true (by omega), Bool.and_true, h2]
 · rw [hx]; split
   · exact t0u R.ok.bare
   · exact R.ok.bare
 · rw [hx]; split <;> exact R.ok.len
 · rw [hx]; split <;> exact R.ok.lo
 · rw [hx]; split <;> exact R.ok.hi
theorem AtV.turn {f : Fm} {a : Vp} {r : Vr} (A : AtV f a r) : AtV f (t0k a) r.opp := by
 have hc := A.rep.cls
 have hcls : r.opp.cls = r.cls := by unfold Vr.opp; split <;> rfl
 have hneg : r.opp.neg = if r.cls ≤ 3 then !r.neg else r.neg := by unfold Vr.opp; split <;> rfl
 have hx : r.opp.x = if r.cls ≤ 3 then c0l r.x else r.x := by unfold Vr.opp; split <;> rfl
 refine ⟨⟨?_, ?_, fun h => ?_, fun h => ?_, A.rep.len, A.rep.lo, A.rep.hi⟩, (g1b ⟨A.ok, A.inf⟩).ok, c1z A.inf⟩
 · rw [hcls]; exact hc
 · rw [hneg, ← hc, ← A.rep.neg]; rfl
 · rw [hcls] at h
   rw [hx, if_pos (by omega), ← A.rep.num h]
   have hd : a.v.d ≠ 0 := fun hd => by
    have := (A.ok.x2 h).1
    rw [← A.rep.num h, hd] at this
    exact this rfl
   show bare ⟨if a.v.cls ≤ 3 then !a.v.neg else a.v.neg, a.v.d, wid f.g * a.v.pow⟩ = _
   rw [if_pos (by omega), g1a hd]
 · rw [hcls] at h; exact A.rep.oth h

theorem g1c (n way : Int) (s t : ByteArray) (h0 : errL n [s, t] = 0) (hw : 1 ≤ way ∧ way ≤ 5) : j1p n way [s, t] 41 ((fmt n).addM (refD n s) (refD n t).opp way) := by
 intro xs vs p c base u w hxs hvs oS oL U hT hb
 obtain ⟨hs, ht, hn⟩ := c1y h0
 obtain ⟨x, y, rfl, hx, hy⟩ := w0w hxs
 have ox := oL x (by simp)
 have oy := oL y (by simp)
 have HA := fun W u h1 h2 h3 h4 h5 => Lib.hid (m1n (fmt n) n way x (t0k y) (refD n s) (refD n t).opp base u W h1 h2 h3 h4 (w0v hs hx) (w0v ht hy).turn (b0z hn) hw h5)
 generalize (fmt n).addM (refD n s) (refD n t).opp way = R at *
 generalize fmt n = f at *
 subst hvs
 clear oL hx hy hxs h0 hs ht hn
 obtain ⟨r, fl⟩ := R
 have I := Inv.startW w u 139 [.v (.int .i64 n), .v (.int .i64 way), .v (.int .i64 f.g.rad), .v (.int .i64 f.g.digs), .v (.int .i64 f.g.lo), .v (.int .i64 f.g.hi), .v (.bool f.g.grad), .v (.int .u8 (famB f)), .v (.int .i64 0)] [h0l base 70 4 p c [s, t].length ([x, y].flatMap Vp.cells), ownF base .u32 160 x.p x.c (dig B32 x.v.d), ownF base .u32 160 y.p y.c (dig B32 y.v.d), tabF] U ⟨oS, ox, oy, hT, True.intro⟩ ⟨fun hf => oS.far U (by kernel_rfl) hf.1 hf.2, fun hf => ox.far U (by kernel_rfl) hf.1 hf.2, fun hf => oy.far U (by kernel_rfl) hf.1 hf.2, fun hf => hT.far U (by kernel_rfl) hf, True.intro⟩
 refine a0c [.p 0 0, .v (.slice p [s, t].length c)] I Tryz.func41 ?_
 refine zcut I none (fun fr bx gs => ∃ (U1 : Nat → Value) (v12 : Vl) (p12 : Option Addr) (c12 : Nat), fr = (.p 0 0 :: .v (.slice p [s, t].length c) :: su 2 (.p 1 0 :: sw U1 5 9 []) : List SV) ∧ bx = [⟨139, [.v (.int .i64 n), .v (.int .i64 way), .v (.int .i64 f.g.rad), .v (.int .i64 f.g.digs), .v (.int .i64 f.g.lo), .v (.int .i64 f.g.hi), .v (.bool f.g.grad), .v (.int .u8 (famB f)), .v (.int .i64 (fl : Int))], false⟩, ⟨70, [.v (.int .i64 (v12.cls : Int)), .v (.bool v12.neg), .v (.slice p12 (dig B32 v12.d).length c12), .v (.int .i64 v12.pow)], false⟩] ∧ gs = [ownF base .u32 160 p12 c12 (dig B32 v12.d), h0l base 70 4 p c [s, t].length ([x, y].flatMap Vp.cells), ownF base .u32 160 x.p x.c (dig B32 x.v.d), ownF base .u32 160 y.p y.c (dig B32 y.v.d), tabF] ∧ (VRep f v12 r)) ?_ ?_
 · intro J hJ Al W I
   refine zd [0, 1] I fun Al W I => ?_
   refine zk [0, 1, 4] I fun I => ?_
   refine i0v I [(2, .v (.pointer (some (at_ p (0 * 4))))), (3, .v (.agg #[.int .i64 (x.v.cls : Int), .bool x.v.neg, .slice x.p (dig B32 x.v.d).length x.c, .int .i64 x.v.pow])), (5, .v (.pointer (some (at_ p (1 * 4))))), (6, .v (.agg #[.int .i64 (y.v.cls : Int), .bool y.v.neg, .slice y.p (dig B32 y.v.d).length y.c, .int .i64 y.v.pow]))] (fun Al W I => ?_) (fun KL17 => ?_)
   · refine zo 7 I (fun I => ?_)
     refine zg I (fun Al W I => l0o y W) fun Al V Iv hzV hB Kz kz => ?_
     rintro _ W ⟨rfl, hb⟩
     refine ⟨_, rfl, kz _ _ hb fun I => ?_⟩
     refine zo 8 I (fun I => ?_)
     refine zge I 0 139 (fun Al W I => have hzW := I.bel.size; (HA W _ (I.box 0 139 _) I.fa.2.1 I.fa.2.2.1 (by omega) I.fa.2.2.2.1).out) fun Al V Iv hzV Kz kz => ?_
     rintro _ W ⟨v12, hR12, p12, c12, rfl, o12, hO, hB⟩
     refine ⟨_, rfl, kz _ [.v (.int .i64 n), .v (.int .i64 way), .v (.int .i64 f.g.rad), .v (.int .i64 f.g.digs), .v (.int .i64 f.g.lo), .v (.int .i64 f.g.hi), .v (.bool f.g.grad), .v (.int .u8 (famB f)), .v (.int .i64 (fl : Int))] _ hO hB fun I => ?_⟩
     have I := I.ownB base o12
     refine zo 9 I (fun I => ?_)
     refine zn I fun Al W I => ?_
     exact b0d I J fun Al W U I => hJ _ _ _ _ _ ⟨U, v12, p12, c12, rfl, rfl, rfl, hR12⟩ (I.pick [0, 1, 2, 3, 4])
   refine i0v I [(2, .v (.pointer (some (at_ p (0 * 4))))), (3, .v (.agg #[.int .i64 (x.v.cls : Int), .bool x.v.neg, .slice x.p (dig B32 x.v.d).length x.c, .int .i64 x.v.pow])), (5, .v (.pointer (some (at_ p (1 * 4)))))] (fun Al W I => ?_) (fun KL15 => ?_)
   · refine zo 6 I (fun I => ?_)
     refine zx I 11 (fun _ => .agg #[.int .i64 (y.v.cls : Int), .bool y.v.neg, .slice y.p (dig B32 y.v.d).length y.c, .int .i64 y.v.pow]) (fun Al W I => (d0s (m := 1 * 4) I.fa.1 h0q y.cells rfl rfl)) fun Al W I => ?_
     exact zuse KL17 I
   refine i0v I [(2, .v (.pointer (some (at_ p (0 * 4))))), (5, .v (.pointer (some (at_ p (1 * 4))))), (6, .v (.agg #[.int .i64 (y.v.cls : Int), .bool y.v.neg, .slice y.p (dig B32 y.v.d).length y.c, .int .i64 y.v.pow]))] (fun Al W I => ?_) (fun KL16 => ?_)
   · refine zo2 3 7 I (fun I => ?_) (fun I => ?_)
     · refine zx I 8 (fun _ => .agg #[.int .i64 (x.v.cls : Int), .bool x.v.neg, .slice x.p (dig B32 x.v.d).length x.c, .int .i64 x.v.pow]) (fun Al W I => (d0s (m := 0 * 4) I.fa.1 h0q x.cells rfl rfl)) fun Al W I => ?_
       refine zo 7 I (fun I => ?_)
       refine zg I (fun Al W I => l0o y W) fun Al V Iv hzV hB Kz kz => ?_
       rintro _ W ⟨rfl, hb⟩
       refine ⟨_, rfl, kz _ _ hb fun I => ?_⟩
       refine zo 8 I (fun I => ?_)
       refine zge I 0 139 (fun Al W I => have hzW := I.bel.size; (HA W _ (I.box 0 139 _) I.fa.2.1 I.fa.2.2.1 (by omega) I.fa.2.2.2.1).out) fun Al V Iv hzV Kz kz => ?_
       rintro _ W ⟨v12, hR12, p12, c12, rfl, o12, hO, hB⟩
       refine ⟨_, rfl, kz _ [.v (.int .i64 n), .v (.int .i64 way), .v (.int .i64 f.g.rad), .v (.int .i64 f.g.digs), .v (.int .i64 f.g.lo), .v (.int .i64 f.g.hi), .v (.bool f.g.grad), .v (.int .u8 (famB f)), .v (.int .i64 (fl : Int))] _ hO hB fun I => ?_⟩
       have I := I.ownB base o12
       refine zo 9 I (fun I => ?_)
       refine zn I fun Al W I => ?_
       exact b0d I J fun Al W U I => hJ _ _ _ _ _ ⟨U, v12, p12, c12, rfl, rfl, rfl, hR12⟩ (I.pick [0, 1, 2, 3, 4])
     refine zg I (fun Al W I => l0o y W) fun Al V Iv hzV hB Kz kz => ?_
     rintro _ W ⟨rfl, hb⟩
     refine ⟨_, rfl, kz _ _ hb fun I => ?_⟩
     refine zo 3 I (fun I => ?_)
     refine zx I 8 (fun _ => .agg #[.int .i64 (x.v.cls : Int), .bool x.v.neg, .slice x.p (dig B32 x.v.d).length x.c, .int .i64 x.v.pow]) (fun Al W I => (d0s (m := 0 * 4) I.fa.1 h0q x.cells rfl rfl)) fun Al W I => ?_
     refine zo 8 I (fun I => ?_)
     refine zge I 0 139 (fun Al W I => have hzW := I.bel.size; (HA W _ (I.box 0 139 _) I.fa.2.1 I.fa.2.2.1 (by omega) I.fa.2.2.2.1).out) fun Al V Iv hzV Kz kz => ?_
     rintro _ W ⟨v12, hR12, p12, c12, rfl, o12, hO, hB⟩
     refine ⟨_, rfl, kz _ [.v (.int .i64 n), .v (.int .i64 way), .v (.int .i64 f.g.rad), .v (.int .i64 f.g.digs), .v (.int .i64 f.g.lo), .v (.int .i64 f.g.hi), .v (.bool f.g.grad), .v (.int .u8 (famB f)), .v (.int .i64 (fl : Int))] _ hO hB fun I => ?_⟩
     have I := I.ownB base o12
     refine zo 9 I (fun I => ?_)
     refine zn I fun Al W I => ?_
     exact b0d I J fun Al W U I => hJ _ _ _ _ _ ⟨U, v12, p12, c12, rfl, rfl, rfl, hR12⟩ (I.pick [0, 1, 2, 3, 4])
   refine i0v I [(2, .v (.pointer (some (at_ p (0 * 4))))), (3, .v (.agg #[.int .i64 (x.v.cls : Int), .bool x.v.neg, .slice x.p (dig B32 x.v.d).length x.c, .int .i64 x.v.pow]))] (fun Al W I => ?_) (fun KL12 => ?_)
   · refine zo 5 I (fun I => ?_)
     refine zx I 10 (fun _ => .pointer (some (at_ p (1 * 4)))) (fun Al W I => (d0g (m := 1) (n := [s, t].length) (c := c) i0i I.fa.1.solid (by simp))) fun Al W I => ?_
     exact zuse KL15 I
   refine i0v I [(2, .v (.pointer (some (at_ p (0 * 4))))), (5, .v (.pointer (some (at_ p (1 * 4)))))] (fun Al W I => ?_) (fun KL13 => ?_)
   · refine zo2 3 6 I (fun I => ?_) (fun I => ?_)
     · refine zx I 8 (fun _ => .agg #[.int .i64 (x.v.cls : Int), .bool x.v.neg, .slice x.p (dig B32 x.v.d).length x.c, .int .i64 x.v.pow]) (fun Al W I => (d0s (m := 0 * 4) I.fa.1 h0q x.cells rfl rfl)) fun Al W I => ?_
       exact zuse KL15 I
     refine zx I 11 (fun _ => .agg #[.int .i64 (y.v.cls : Int), .bool y.v.neg, .slice y.p (dig B32 y.v.d).length y.c, .int .i64 y.v.pow]) (fun Al W I => (d0s (m := 1 * 4) I.fa.1 h0q y.cells rfl rfl)) fun Al W I => ?_
     exact zuse KL16 I
   refine i0v I [(5, .v (.pointer (some (at_ p (1 * 4))))), (6, .v (.agg #[.int .i64 (y.v.cls : Int), .bool y.v.neg, .slice y.p (dig B32 y.v.d).length y.c, .int .i64 y.v.pow]))] (fun Al W I => ?_) (fun KL14 => ?_)
   · refine zo2 2 7 I (fun I => ?_) (fun I => ?_)
     · refine zx I 7 (fun _ => .pointer (some (at_ p (0 * 4)))) (fun Al W I => (d0g (m := 0) (n := [s, t].length) (c := c) i0i I.fa.1.solid (by simp))) fun Al W I => ?_
       refine zo2 3 7 I (fun I => ?_) (fun I => ?_)
       · refine zx I 8 (fun _ => .agg #[.int .i64 (x.v.cls : Int), .bool x.v.neg, .slice x.p (dig B32 x.v.d).length x.c, .int .i64 x.v.pow]) (fun Al W I => (d0s (m := 0 * 4) I.fa.1 h0q x.cells rfl rfl)) fun Al W I => ?_
         refine zo 7 I (fun I => ?_)
         refine zg I (fun Al W I => l0o y W) fun Al V Iv hzV hB Kz kz => ?_
         rintro _ W ⟨rfl, hb⟩
         refine ⟨_, rfl, kz _ _ hb fun I => ?_⟩
         refine zo 8 I (fun I => ?_)
         refine zge I 0 139 (fun Al W I => have hzW := I.bel.size; (HA W _ (I.box 0 139 _) I.fa.2.1 I.fa.2.2.1 (by omega) I.fa.2.2.2.1).out) fun Al V Iv hzV Kz kz => ?_
         rintro _ W ⟨v12, hR12, p12, c12, rfl, o12, hO, hB⟩
         refine ⟨_, rfl, kz _ [.v (.int .i64 n), .v (.int .i64 way), .v (.int .i64 f.g.rad), .v (.int .i64 f.g.digs), .v (.int .i64 f.g.lo), .v (.int .i64 f.g.hi), .v (.bool f.g.grad), .v (.int .u8 (famB f)), .v (.int .i64 (fl : Int))] _ hO hB fun I => ?_⟩
         have I := I.ownB base o12
         refine zo 9 I (fun I => ?_)
         refine zn I fun Al W I => ?_
         exact b0d I J fun Al W U I => hJ _ _ _ _ _ ⟨U, v12, p12, c12, rfl, rfl, rfl, hR12⟩ (I.pick [0, 1, 2, 3, 4])
       refine zg I (fun Al W I => l0o y W) fun Al V Iv hzV hB Kz kz => ?_
       rintro _ W ⟨rfl, hb⟩
       refine ⟨_, rfl, kz _ _ hb fun I => ?_⟩
       refine zo 3 I (fun I => ?_)
       refine zx I 8 (fun _ => .agg #[.int .i64 (x.v.cls : Int), .bool x.v.neg, .slice x.p (dig B32 x.v.d).length x.c, .int .i64 x.v.pow]) (fun Al W I => (d0s (m := 0 * 4) I.fa.1 h0q x.cells rfl rfl)) fun Al W I => ?_
       refine zo 8 I (fun I => ?_)
       refine zge I 0 139 (fun Al W I => have hzW := I.bel.size; (HA W _ (I.box 0 139 _) I.fa.2.1 I.fa.2.2.1 (by omega) I.fa.2.2.2.1).out) fun Al V Iv hzV Kz kz => ?_
       rintro _ W ⟨v12, hR12, p12, c12, rfl, o12, hO, hB⟩
       refine ⟨_, rfl, kz _ [.v (.int .i64 n), .v (.int .i64 way), .v (.int .i64 f.g.rad), .v (.int .i64 f.g.digs), .v (.int .i64 f.g.lo), .v (.int .i64 f.g.hi), .v (.bool f.g.grad), .v (.int .u8 (famB f)), .v (.int .i64 (fl : Int))] _ hO hB fun I => ?_⟩
       have I := I.ownB base o12
       refine zo 9 I (fun I => ?_)
       refine zn I fun Al W I => ?_
       exact b0d I J fun Al W U I => hJ _ _ _ _ _ ⟨U, v12, p12, c12, rfl, rfl, rfl, hR12⟩ (I.pick [0, 1, 2, 3, 4])
     refine zg I (fun Al W I => l0o y W) fun Al V Iv hzV hB Kz kz => ?_
     rintro _ W ⟨rfl, hb⟩
     refine ⟨_, rfl, kz _ _ hb fun I => ?_⟩
     refine zo 2 I (fun I => ?_)
     refine zx I 7 (fun _ => .pointer (some (at_ p (0 * 4)))) (fun Al W I => (d0g (m := 0) (n := [s, t].length) (c := c) i0i I.fa.1.solid (by simp))) fun Al W I => ?_
     refine zo 3 I (fun I => ?_)
     refine zx I 8 (fun _ => .agg #[.int .i64 (x.v.cls : Int), .bool x.v.neg, .slice x.p (dig B32 x.v.d).length x.c, .int .i64 x.v.pow]) (fun Al W I => (d0s (m := 0 * 4) I.fa.1 h0q x.cells rfl rfl)) fun Al W I => ?_
     refine zo 8 I (fun I => ?_)
     refine zge I 0 139 (fun Al W I => have hzW := I.bel.size; (HA W _ (I.box 0 139 _) I.fa.2.1 I.fa.2.2.1 (by omega) I.fa.2.2.2.1).out) fun Al V Iv hzV Kz kz => ?_
     rintro _ W ⟨v12, hR12, p12, c12, rfl, o12, hO, hB⟩
     refine ⟨_, rfl, kz _ [.v (.int .i64 n), .v (.int .i64 way), .v (.int .i64 f.g.rad), .v (.int .i64 f.g.digs), .v (.int .i64 f.g.lo), .v (.int .i64 f.g.hi), .v (.bool f.g.grad), .v (.int .u8 (famB f)), .v (.int .i64 (fl : Int))] _ hO hB fun I => ?_⟩
     have I := I.ownB base o12
     refine zo 9 I (fun I => ?_)
     refine zn I fun Al W I => ?_
     exact b0d I J fun Al W U I => hJ _ _ _ _ _ ⟨U, v12, p12, c12, rfl, rfl, rfl, hR12⟩ (I.pick [0, 1, 2, 3, 4])
   refine i0v I [(2, .v (.pointer (some (at_ p (0 * 4)))))] (fun Al W I => ?_) (fun KL10 => ?_)
   · refine zo2 3 5 I (fun I => ?_) (fun I => ?_)
     · refine zx I 8 (fun _ => .agg #[.int .i64 (x.v.cls : Int), .bool x.v.neg, .slice x.p (dig B32 x.v.d).length x.c, .int .i64 x.v.pow]) (fun Al W I => (d0s (m := 0 * 4) I.fa.1 h0q x.cells rfl rfl)) fun Al W I => ?_
       exact zuse KL12 I
     refine zx I 10 (fun _ => .pointer (some (at_ p (1 * 4)))) (fun Al W I => (d0g (m := 1) (n := [s, t].length) (c := c) i0i I.fa.1.solid (by simp))) fun Al W I => ?_
     exact zuse KL13 I
   refine i0v I [(5, .v (.pointer (some (at_ p (1 * 4)))))] (fun Al W I => ?_) (fun KL11 => ?_)
   · refine zo2 2 6 I (fun I => ?_) (fun I => ?_)
     · refine zx I 7 (fun _ => .pointer (some (at_ p (0 * 4)))) (fun Al W I => (d0g (m := 0) (n := [s, t].length) (c := c) i0i I.fa.1.solid (by simp))) fun Al W I => ?_
       exact zuse KL13 I
     refine zx I 11 (fun _ => .agg #[.int .i64 (y.v.cls : Int), .bool y.v.neg, .slice y.p (dig B32 y.v.d).length y.c, .int .i64 y.v.pow]) (fun Al W I => (d0s (m := 1 * 4) I.fa.1 h0q y.cells rfl rfl)) fun Al W I => ?_
     exact zuse KL14 I
   refine zo2 2 5 I (fun I => ?_) (fun I => ?_)
   · refine zx I 7 (fun _ => .pointer (some (at_ p (0 * 4)))) (fun Al W I => (d0g (m := 0) (n := [s, t].length) (c := c) i0i I.fa.1.solid (by simp))) fun Al W I => ?_
     exact zuse KL10 I
   refine zx I 10 (fun _ => .pointer (some (at_ p (1 * 4)))) (fun Al W I => (d0g (m := 1) (n := [s, t].length) (c := c) i0i I.fa.1.solid (by simp))) fun Al W I => ?_
   exact zuse KL11 I
 rintro _ _ _ ⟨U1, v12, p12, c12, rfl, rfl, rfl, hR12⟩ Al W I
 exact zret I fun Al W I => ⟨v12, hR12, p12, c12, rfl, I.fa.1, I.bel, I.boxE 139 _⟩

theorem w0x (n way : Int) (s t : ByteArray) (w : World) (hT : TabW w) : Calls Tryz.prog 15 #[.int .i64 n, .string s, .string t, .int .i64 way] w (f0d n way [s, t] ((fmt n).addM (refD n s) (refD n t).opp way) w) := by
 unfold f0d
 by_cases h0 : errR n way [s, t] = 0
 · obtain ⟨hn, hL, hw⟩ := k0r h0
   have HR := fun b m W h1 h2 h3 => Lib.hid (h1h n way [s, t] 41 _ b m W h1 h2 (by simp) h3 (fun _ _ => by kernel_rfl) h0 (g1c n way s t hL hw) (c1v (b0z hn) (h0n hn) (g1b (h0n hn)) way))
   simp only [h0, if_true]
   generalize strR n ((fmt n).addM (refD n s) (refD n t).opp way).1 = str at *
   generalize ((fmt n).addM (refD n s) (refD n t).opp way).2 = fl at *
   have I := Inv.start w [tabF] ⟨hT, True.intro⟩
   refine a0c [.v (.int .i64 n), .v (.string s), .v (.string t), .v (.int .i64 way)] I Tryz.func15 ?_
   refine zg I (fun Al W I => (HR _ 2 W (I.box 0 9 _) rfl I.fa.1).out) fun Al V Iv hzV hB Kz kz => ?_
   rintro _ W ⟨rfl, hb⟩
   refine ⟨_, rfl, kz _ _ hb fun I => ?_⟩
   exact zret I fun Al W I => ⟨rfl, I.below⟩
 · have HR := fun b m W h1 h2 h3 => Lib.hid (c1t n way [s, t] 41 b m W h1 h2 (by simp) h3 h0)
   simp only [if_neg h0]
   generalize errR n way [s, t] = er at *
   have I := Inv.start w [tabF] ⟨hT, True.intro⟩
   refine a0c [.v (.int .i64 n), .v (.string s), .v (.string t), .v (.int .i64 way)] I Tryz.func15 ?_
   refine zg I (fun Al W I => (HR _ 2 W (I.box 0 9 _) rfl I.fa.1).out) fun Al V Iv hzV hB Kz kz => ?_
   rintro _ W ⟨rfl, hb⟩
   refine ⟨_, rfl, kz _ _ hb fun I => ?_⟩
   exact zret I fun Al W I => ⟨rfl, I.below⟩


theorem g0t {w : World} {b : Nat} {p : Option Addr} {c : Nat} {r : Vr} (h : r.x = vz) : Rf w b p c (dig B16 r.x.m) := by
 rw [h]
 show Rf _ _ _ _ (dig B16 0)
 rw [a0d]
 exact ⟨Rd.nil _ _ _, Nat.zero_le _, fun h => by simp at h⟩

theorem t0l (n way : Int) (a b : Wp) (ba bb : Nat) (w : World) (hn : IsFm n) (hw : 1 ≤ way ∧ way ≤ 5) (oa : Rf w ba a.p a.c (dig B16 a.r.x.m)) (ob : Rf w bb b.p b.c (dig B16 b.r.x.m)) (A1 : VrOk a.r) (B1 : VrOk b.r) :
 Calls Tryz.prog 12 #[.int .i64 n, .agg #[.int .i64 (a.r.cls : Int), .bool a.r.neg, .bool a.r.x.neg, .slice a.p (dig B16 a.r.x.m).length a.c, .int .i64 a.r.x.e], .agg #[.int .i64 (b.r.cls : Int), .bool b.r.neg, .bool b.r.x.neg, .slice b.p (dig B16 b.r.x.m).length b.c, .int .i64 b.r.x.e], .int .i64 way] w (GVf w w.heap.size ((fmt n).addM a.r b.r way)) := by
 have HY := fun W b0 h1 h2 => Lib.hid (y0q n [a, b] b0 2 W hn h1 rfl (by simp) h2)
 have HN := fun W b0 h1 h2 => Lib.hid (c1w n [a, b] b0 2 W hn h1 rfl (by simp) h2)
 have HL := fun W => Lib.hid (v0j n W hn)
 have hoffm : (fmt n).offM = (⟨(fmt n).nothM.cls, false, vz⟩, (fmt n).offM.2) := rfl
 have hlostm : (fmt n).lostM = (⟨(fmt n).nothM.cls, false, vz⟩, 16) := rfl
 have vza := A1.x0
 have ca := A1.c
 have vzb := B1.x0
 have cb := B1.c
 have HS := fun W h1 h2 => Lib.hid (t0i n way a.r.x b.r.x a.r.neg b.r.neg a.p b.p a.c b.c ba bb W hn hw h1 h2 A1.bare B1.bare A1.tn B1.tn)
 have hM : (fmt n).addM a.r b.r way = if 4 ≤ a.r.cls ∨ 4 ≤ b.r.cls then (fmt n).offM else if a.r.cls = 3 ∨ b.r.cls = 3 then (if a.r.cls = b.r.cls ∧ a.r.neg ≠ b.r.neg then (fmt n).lostM else if a.r.cls = 3 then (a.r, 0) else (b.r, 0)) else (fmt n).sumM a.r.x b.r.x a.r.neg b.r.neg way := rfl
 obtain ⟨rS, flS, hS⟩ : ∃ rS flS, (fmt n).sumM a.r.x b.r.x a.r.neg b.r.neg way = (rS, flS) := ⟨_, _, rfl⟩
 rw [hS] at HS hM
 unfold GVf at HS
 simp only at HS
 generalize (fmt n).addM a.r b.r way = R at *
 generalize (fmt n).offM.2 = flo at *
 generalize (fmt n).nothM.cls = kN at *
 clear hS
 have I := Inv.start w [rfF ba a.p a.c (dig B16 a.r.x.m), rfF bb b.p b.c (dig B16 b.r.x.m)] ⟨oa, ob, True.intro⟩
 refine a0c [.v (.int .i64 n), .v (.agg #[.int .i64 (a.r.cls : Int), .bool a.r.neg, .bool a.r.x.neg, .slice a.p (dig B16 a.r.x.m).length a.c, .int .i64 a.r.x.e]), .v (.agg #[.int .i64 (b.r.cls : Int), .bool b.r.neg, .bool b.r.x.neg, .slice b.p (dig B16 b.r.x.m).length b.c, .int .i64 b.r.x.e]), .v (.int .i64 way)] I Tryz.func12 ?_
 by_cases hof : 4 ≤ a.r.cls ∨ 4 ≤ b.r.cls
 · refine zg I (fun Al W I => (HY W _ (I.box 3 32 _) (by simpa using hof)).out) fun Al V Iv hzV hB Kz kz => ?_
   rintro _ W ⟨rfl, hb⟩
   refine ⟨_, rfl, kz _ _ hb fun I => ?_⟩
   rw [hM]
   refine zret I (v := fun Al => .tuple #[.agg #[.int .i64 (kN : Int), .bool false, .bool false, .slice none 0 0, .int .i64 0], .int .i64 (flo : Int)]) fun Al W I => ?_
   first | (rw [if_pos hof, hoffm]; exact a0r (fl := flo) rfl I.below) | (rw [if_neg hof, if_pos (by omega), if_neg (fun h => by first | exact h.2 hng | exact heq h.1), if_pos h3a]; exact ⟨a.p, a.c, rfl, g0t (vza (by omega)), I.below⟩) | (rw [if_neg hof, if_pos (by omega), if_neg (fun h => by have := h.1; omega), if_neg h3a]; exact ⟨b.p, b.c, rfl, g0t (vzb (by omega)), I.below⟩)
 refine zg I (fun Al W I => have hzW := I.bel.size; (HN W _ (I.box 3 32 _) (by simp only [List.mem_cons, List.mem_nil_iff, or_false]; rintro x (rfl | rfl) <;> omega)).out) fun Al V Iv hzV hB Kz kz => ?_
 rintro _ W ⟨rfl, hb⟩
 refine ⟨_, rfl, kz _ _ hb fun I => ?_⟩
 by_cases h3a : a.r.cls = 3
 · by_cases h3b : b.r.cls = 3
   · refine zb I 27 ((a.r.cls : Int) == 3) (true) (beq_iff_eq.2 (by omega)) fun Al W I => ?_
     by_cases heq : a.r.cls = b.r.cls
     · by_cases hng : a.r.neg = b.r.neg
       · refine zb I 37 ((a.r.cls : Int) == (b.r.cls : Int)) (true) (beq_iff_eq.2 (by omega)) fun Al W I => ?_
         refine zb I 43 (a.r.neg != b.r.neg) (false) (bne_eq_false_iff_eq.2 hng) fun Al W I => ?_
         refine zb I 51 ((a.r.cls : Int) == 3) (true) (beq_iff_eq.2 (by omega)) fun Al W I => ?_
         rw [hM]
         refine zret I (v := fun Al => .tuple #[.agg #[.int .i64 (a.r.cls : Int), .bool a.r.neg, .bool a.r.x.neg, .slice a.p (dig B16 a.r.x.m).length a.c, .int .i64 a.r.x.e], .int .i64 0]) fun Al W I => ?_
         first | (rw [if_pos hof, hoffm]; exact a0r (fl := flo) rfl I.below) | (rw [if_neg hof, if_pos (by omega), if_neg (fun h => by first | exact h.2 hng | exact heq h.1), if_pos h3a]; exact ⟨a.p, a.c, rfl, g0t (vza (by omega)), I.below⟩) | (rw [if_neg hof, if_pos (by omega), if_neg (fun h => by have := h.1; omega), if_neg h3a]; exact ⟨b.p, b.c, rfl, g0t (vzb (by omega)), I.below⟩)
       refine zb I 37 ((a.r.cls : Int) == (b.r.cls : Int)) (true) (beq_iff_eq.2 (by omega)) fun Al W I => ?_
       refine zb I 43 (a.r.neg != b.r.neg) (true) (bne_iff_ne.2 hng) fun Al W I => ?_
       refine zg I (fun Al W I => (HL W).out) fun Al V Iv hzV hB Kz kz => ?_
       rintro _ W ⟨rfl, hb⟩
       refine ⟨_, rfl, kz _ _ hb fun I => ?_⟩
       rw [hM, if_neg hof, if_pos (by omega), if_pos ⟨heq, hng⟩, hlostm]
       exact zret I fun Al W I => a0r (fl := 16) rfl I.below
     by_cases hng : a.r.neg = b.r.neg
     · refine zb I 37 ((a.r.cls : Int) == (b.r.cls : Int)) (false) (bFn (by omega)) fun Al W I => ?_
       refine zb I 51 ((a.r.cls : Int) == 3) (true) (beq_iff_eq.2 (by omega)) fun Al W I => ?_
       rw [hM]
       refine zret I (v := fun Al => .tuple #[.agg #[.int .i64 (a.r.cls : Int), .bool a.r.neg, .bool a.r.x.neg, .slice a.p (dig B16 a.r.x.m).length a.c, .int .i64 a.r.x.e], .int .i64 0]) fun Al W I => ?_
       first | (rw [if_pos hof, hoffm]; exact a0r (fl := flo) rfl I.below) | (rw [if_neg hof, if_pos (by omega), if_neg (fun h => by first | exact h.2 hng | exact heq h.1), if_pos h3a]; exact ⟨a.p, a.c, rfl, g0t (vza (by omega)), I.below⟩) | (rw [if_neg hof, if_pos (by omega), if_neg (fun h => by have := h.1; omega), if_neg h3a]; exact ⟨b.p, b.c, rfl, g0t (vzb (by omega)), I.below⟩)
     refine zb I 37 ((a.r.cls : Int) == (b.r.cls : Int)) (false) (bFn (by omega)) fun Al W I => ?_
     refine zb I 51 ((a.r.cls : Int) == 3) (true) (beq_iff_eq.2 (by omega)) fun Al W I => ?_
     rw [hM]
     refine zret I (v := fun Al => .tuple #[.agg #[.int .i64 (a.r.cls : Int), .bool a.r.neg, .bool a.r.x.neg, .slice a.p (dig B16 a.r.x.m).length a.c, .int .i64 a.r.x.e], .int .i64 0]) fun Al W I => ?_
     first | (rw [if_pos hof, hoffm]; exact a0r (fl := flo) rfl I.below) | (rw [if_neg hof, if_pos (by omega), if_neg (fun h => by first | exact h.2 hng | exact heq h.1), if_pos h3a]; exact ⟨a.p, a.c, rfl, g0t (vza (by omega)), I.below⟩) | (rw [if_neg hof, if_pos (by omega), if_neg (fun h => by have := h.1; omega), if_neg h3a]; exact ⟨b.p, b.c, rfl, g0t (vzb (by omega)), I.below⟩)
   refine zb I 27 ((a.r.cls : Int) == 3) (true) (beq_iff_eq.2 (by omega)) fun Al W I => ?_
   by_cases heq : a.r.cls = b.r.cls
   · by_cases hng : a.r.neg = b.r.neg
     · refine zb I 37 ((a.r.cls : Int) == (b.r.cls : Int)) (true) (beq_iff_eq.2 (by omega)) fun Al W I => ?_
       refine zb I 43 (a.r.neg != b.r.neg) (false) (bne_eq_false_iff_eq.2 hng) fun Al W I => ?_
       refine zb I 51 ((a.r.cls : Int) == 3) (true) (beq_iff_eq.2 (by omega)) fun Al W I => ?_
       rw [hM]
       refine zret I (v := fun Al => .tuple #[.agg #[.int .i64 (a.r.cls : Int), .bool a.r.neg, .bool a.r.x.neg, .slice a.p (dig B16 a.r.x.m).length a.c, .int .i64 a.r.x.e], .int .i64 0]) fun Al W I => ?_
       first | (rw [if_pos hof, hoffm]; exact a0r (fl := flo) rfl I.below) | (rw [if_neg hof, if_pos (by omega), if_neg (fun h => by first | exact h.2 hng | exact heq h.1), if_pos h3a]; exact ⟨a.p, a.c, rfl, g0t (vza (by omega)), I.below⟩) | (rw [if_neg hof, if_pos (by omega), if_neg (fun h => by have := h.1; omega), if_neg h3a]; exact ⟨b.p, b.c, rfl, g0t (vzb (by omega)), I.below⟩)
     refine zb I 37 ((a.r.cls : Int) == (b.r.cls : Int)) (true) (beq_iff_eq.2 (by omega)) fun Al W I => ?_
     refine zb I 43 (a.r.neg != b.r.neg) (true) (bne_iff_ne.2 hng) fun Al W I => ?_
     refine zg I (fun Al W I => (HL W).out) fun Al V Iv hzV hB Kz kz => ?_
     rintro _ W ⟨rfl, hb⟩
     refine ⟨_, rfl, kz _ _ hb fun I => ?_⟩
     rw [hM, if_neg hof, if_pos (by omega), if_pos ⟨heq, hng⟩, hlostm]
     exact zret I fun Al W I => a0r (fl := 16) rfl I.below
   by_cases hng : a.r.neg = b.r.neg
   · refine zb I 37 ((a.r.cls : Int) == (b.r.cls : Int)) (false) (bFn (by omega)) fun Al W I => ?_
     refine zb I 51 ((a.r.cls : Int) == 3) (true) (beq_iff_eq.2 (by omega)) fun Al W I => ?_
     rw [hM]
     refine zret I (v := fun Al => .tuple #[.agg #[.int .i64 (a.r.cls : Int), .bool a.r.neg, .bool a.r.x.neg, .slice a.p (dig B16 a.r.x.m).length a.c, .int .i64 a.r.x.e], .int .i64 0]) fun Al W I => ?_
     first | (rw [if_pos hof, hoffm]; exact a0r (fl := flo) rfl I.below) | (rw [if_neg hof, if_pos (by omega), if_neg (fun h => by first | exact h.2 hng | exact heq h.1), if_pos h3a]; exact ⟨a.p, a.c, rfl, g0t (vza (by omega)), I.below⟩) | (rw [if_neg hof, if_pos (by omega), if_neg (fun h => by have := h.1; omega), if_neg h3a]; exact ⟨b.p, b.c, rfl, g0t (vzb (by omega)), I.below⟩)
   refine zb I 37 ((a.r.cls : Int) == (b.r.cls : Int)) (false) (bFn (by omega)) fun Al W I => ?_
   refine zb I 51 ((a.r.cls : Int) == 3) (true) (beq_iff_eq.2 (by omega)) fun Al W I => ?_
   rw [hM]
   refine zret I (v := fun Al => .tuple #[.agg #[.int .i64 (a.r.cls : Int), .bool a.r.neg, .bool a.r.x.neg, .slice a.p (dig B16 a.r.x.m).length a.c, .int .i64 a.r.x.e], .int .i64 0]) fun Al W I => ?_
   first | (rw [if_pos hof, hoffm]; exact a0r (fl := flo) rfl I.below) | (rw [if_neg hof, if_pos (by omega), if_neg (fun h => by first | exact h.2 hng | exact heq h.1), if_pos h3a]; exact ⟨a.p, a.c, rfl, g0t (vza (by omega)), I.below⟩) | (rw [if_neg hof, if_pos (by omega), if_neg (fun h => by have := h.1; omega), if_neg h3a]; exact ⟨b.p, b.c, rfl, g0t (vzb (by omega)), I.below⟩)
 by_cases h3b : b.r.cls = 3
 · refine zb I 27 ((a.r.cls : Int) == 3) (false) (bFn (by omega)) fun Al W I => ?_
   refine zb I 31 ((b.r.cls : Int) == 3) (true) (beq_iff_eq.2 (by omega)) fun Al W I => ?_
   by_cases heq : a.r.cls = b.r.cls
   · by_cases hng : a.r.neg = b.r.neg
     · refine zb I 37 ((a.r.cls : Int) == (b.r.cls : Int)) (true) (beq_iff_eq.2 (by omega)) fun Al W I => ?_
       refine zb I 43 (a.r.neg != b.r.neg) (false) (bne_eq_false_iff_eq.2 hng) fun Al W I => ?_
       refine zb I 51 ((a.r.cls : Int) == 3) (false) (bFn (by omega)) fun Al W I => ?_
       rw [hM]
       refine zret I (v := fun Al => .tuple #[.agg #[.int .i64 (b.r.cls : Int), .bool b.r.neg, .bool b.r.x.neg, .slice b.p (dig B16 b.r.x.m).length b.c, .int .i64 b.r.x.e], .int .i64 0]) fun Al W I => ?_
       first | (rw [if_pos hof, hoffm]; exact a0r (fl := flo) rfl I.below) | (rw [if_neg hof, if_pos (by omega), if_neg (fun h => by first | exact h.2 hng | exact heq h.1), if_pos h3a]; exact ⟨a.p, a.c, rfl, g0t (vza (by omega)), I.below⟩) | (rw [if_neg hof, if_pos (by omega), if_neg (fun h => by have := h.1; omega), if_neg h3a]; exact ⟨b.p, b.c, rfl, g0t (vzb (by omega)), I.below⟩)
     refine zb I 37 ((a.r.cls : Int) == (b.r.cls : Int)) (true) (beq_iff_eq.2 (by omega)) fun Al W I => ?_
     refine zb I 43 (a.r.neg != b.r.neg) (true) (bne_iff_ne.2 hng) fun Al W I => ?_
     refine zg I (fun Al W I => (HL W).out) fun Al V Iv hzV hB Kz kz => ?_
     rintro _ W ⟨rfl, hb⟩
     refine ⟨_, rfl, kz _ _ hb fun I => ?_⟩
     rw [hM, if_neg hof, if_pos (by omega), if_pos ⟨heq, hng⟩, hlostm]
     exact zret I fun Al W I => a0r (fl := 16) rfl I.below
   by_cases hng : a.r.neg = b.r.neg
   · refine zb I 37 ((a.r.cls : Int) == (b.r.cls : Int)) (false) (bFn (by omega)) fun Al W I => ?_
     refine zb I 51 ((a.r.cls : Int) == 3) (false) (bFn (by omega)) fun Al W I => ?_
     rw [hM]
     refine zret I (v := fun Al => .tuple #[.agg #[.int .i64 (b.r.cls : Int), .bool b.r.neg, .bool b.r.x.neg, .slice b.p (dig B16 b.r.x.m).length b.c, .int .i64 b.r.x.e], .int .i64 0]) fun Al W I => ?_
     first | (rw [if_pos hof, hoffm]; exact a0r (fl := flo) rfl I.below) | (rw [if_neg hof, if_pos (by omega), if_neg (fun h => by first | exact h.2 hng | exact heq h.1), if_pos h3a]; exact ⟨a.p, a.c, rfl, g0t (vza (by omega)), I.below⟩) | (rw [if_neg hof, if_pos (by omega), if_neg (fun h => by have := h.1; omega), if_neg h3a]; exact ⟨b.p, b.c, rfl, g0t (vzb (by omega)), I.below⟩)
   refine zb I 37 ((a.r.cls : Int) == (b.r.cls : Int)) (false) (bFn (by omega)) fun Al W I => ?_
   refine zb I 51 ((a.r.cls : Int) == 3) (false) (bFn (by omega)) fun Al W I => ?_
   rw [hM]
   refine zret I (v := fun Al => .tuple #[.agg #[.int .i64 (b.r.cls : Int), .bool b.r.neg, .bool b.r.x.neg, .slice b.p (dig B16 b.r.x.m).length b.c, .int .i64 b.r.x.e], .int .i64 0]) fun Al W I => ?_
   first | (rw [if_pos hof, hoffm]; exact a0r (fl := flo) rfl I.below) | (rw [if_neg hof, if_pos (by omega), if_neg (fun h => by first | exact h.2 hng | exact heq h.1), if_pos h3a]; exact ⟨a.p, a.c, rfl, g0t (vza (by omega)), I.below⟩) | (rw [if_neg hof, if_pos (by omega), if_neg (fun h => by have := h.1; omega), if_neg h3a]; exact ⟨b.p, b.c, rfl, g0t (vzb (by omega)), I.below⟩)
 refine zb I 27 ((a.r.cls : Int) == 3) (false) (bFn (by omega)) fun Al W I => ?_
 refine zb I 31 ((b.r.cls : Int) == 3) (false) (bFn (by omega)) fun Al W I => ?_
 refine zg I (fun Al W I => (HS W I.fa.1 I.fa.2.1).out) fun Al V Iv hzV hB Kz kz => ?_
 rintro _ W ⟨p64, c64, rfl, o64, hb⟩
 refine ⟨_, rfl, kz _ _ hb fun I => ?_⟩
 have I := I.rf o64 (hB _) Iv
 rw [hM, if_neg hof, if_neg (by omega)]
 exact zret I fun Al W I => ⟨p64, c64, rfl, I.fa.1, I.below⟩


def rflF (b : Nat) (xs : List Wp) : PF :=
 ⟨fun w => ∀ x, x ∈ xs → Rf w b x.p x.c (dig B16 x.r.x.m), fun a => ∃ x, x ∈ xs ∧ 0 < (dig B16 x.r.x.m).length ∧ blk x.p = a, fun _ _ h hb _ x hx => ⟨(h x hx).rd.same fun hp => hb _ ((h x hx).rd.lt hp) ⟨x, hx, hp, rfl⟩, (h x hx).cap, (h x hx).at_⟩, fun _ _ h ⟨x, hx, hp, hf⟩ => hf ▸ (h x hx).rd.lt hp⟩
theorem g1d {w : World} {b : Nat} {xs : List Wp} {r : Vr} {p : Option Addr} {c : Nat} (h : ∀ x, x ∈ xs → Rf w b x.p x.c (dig B16 x.r.x.m)) (o : Rf w b p c (dig B16 r.x.m)) : ∀ x, x ∈ xs ++ [⟨r, p, c⟩] → Rf w b x.p x.c (dig B16 x.r.x.m) := fun x hx => by
 rw [List.mem_append, List.mem_singleton] at hx
 rcases hx with hx | rfl
 · exact h x hx
 · exact o
theorem d1a {b a : Nat} {xs : List Wp} {r : Vr} {p : Option Addr} {c : Nat} (h : (rflF b (xs ++ [⟨r, p, c⟩])).foot a) (h1 : ∀ x, (x ∈ xs ∧ 0 < (dig B16 x.r.x.m).length ∧ blk x.p = a) → False) (h2 : 0 < (dig B16 r.x.m).length → blk p = a → False) : False := by
 obtain ⟨x, hx, h3, h4⟩ := h
 rw [List.mem_append, List.mem_singleton] at hx
 rcases hx with hx | rfl
 · exact h1 x ⟨hx, h3, h4⟩
 · exact h2 h3 h4
def j1s (n : Int) (w : World) (L : List ByteArray) (en : Ending) (w' : World) : Prop :=
 ∃ (xs : List Wp) (vs : List Value) (p : Option Addr) (c : Nat), en = .returned (.tuple #[.slice p L.length c, .int .i64 0]) ∧ xs.map (·.r) = L.map (refD n) ∧ vs = xs.flatMap Wp.cells ∧ OwnS w' w.heap.size 32 5 p c L.length vs ∧ (∀ x, x ∈ xs → Rf w' w.heap.size x.p x.c (dig B16 x.r.x.m)) ∧ Below w.heap.size w w'
theorem d1b (n way : Int) (L : List ByteArray) (b m : Nat) (w : World) (hB0 : Bt w b 9 (L.map Value.string).toArray) (hm : m = L.length) (hl : L.length ≤ 1000) (h0 : errR n way L = 0) :
 Calls Tryz.prog 11 #[.int .i64 n, .int .i64 way, .slice (some ⟨b, 0, none⟩) m m] w (j1s n w L) := by
 subst hm
 obtain ⟨hn, hL, hw⟩ := k0r h0
 have HF := fun W => Lib.hid (b0f n W)
 rw [decide_eq_true hn] at HF
 have HX : ∀ i, i < L.length → ∃ s : ByteArray, L[i]? = some s ∧ a0y n s = 0 ∧ (L.map Value.string).toArray[i]? = some (.string s) ∧ L.take (i + 1) = L.take i ++ [s] := fun i h => ⟨L[i], List.getElem?_eq_getElem h, g0s n hL _ (List.getElem_mem h), by simp [h], by rw [List.take_add_one, List.getElem?_eq_getElem h]; rfl⟩
 have HO := fun s W => Lib.hid (n0x n s W)
 have HD := fun s W h => Lib.hid (i0h n s W hn h)
 have hsz := fun s (h : a0y n s = 0) => (c0x.1 h).2
 have HI := fun W => Lib.hid (stay (l0s way W))
 rw [s0q hw.1 hw.2] at HI
 have hrd : ∀ s, (fmt n).refN (a0z (fmt n) s) = refD n s := fun s => rfl
 simp only [hrd] at HD
 generalize hgs : (fun s => (fmt n).neg (a0z (fmt n) s)) = gs
 have HD2 : ∀ s (W : World), s.size = (fmt n).size → Hid (Calls Tryz.prog 36 #[.int .i64 n, .string s] W (k0q W (refD n s) (gs s))) := by subst hgs; exact HD
 clear hgs HD hrd
 generalize fmt n = f at *
 have I := Inv.start w [btF b 9 (L.map Value.string).toArray] ⟨hB0, True.intro⟩
 refine a0c [.v (.int .i64 n), .v (.int .i64 way), .v (.slice (some ⟨b, 0, none⟩) L.length L.length)] I Tryz.func11 ?_
 refine zg I (fun Al W I => (HF W).out) fun Al V Iv hzV hB Kz kz => ?_
 rintro _ W ⟨rfl, hb⟩
 refine ⟨_, rfl, kz _ _ hb fun I => ?_⟩
 have I := I.add (h0l w.heap.size 32 5 none 0 0 []) (OwnS.nil _ _ _ _) (fun _ _ h => by cases h.1)
 have I := I.add (rflF w.heap.size []) (fun _ h => by cases h) (fun _ _ ⟨_, h, _⟩ => by cases h)
 refine o0m I (fun gk fr bx gs => ∃ (U900 : Nat → Value) (i : Nat) (p8 : Option Addr) (c8 : Nat) (xs : List Wp) (vs : List Value), fr = (.v (.int .i64 n) :: .v (.int .i64 way) :: .v (.slice (some ⟨b, 0, none⟩) L.length L.length) :: su 3 (sw U900 6 2 (.v (.slice p8 i c8) :: .v (U900 9) :: .v (.bool true) :: .v (.int .i64 (i : Int)) :: sw U900 12 9 (.v (.bool false) :: sw U900 22 30 (.v undef :: .v (U900 53) :: [])))) : List SV) ∧ bx = [⟨55, [.v (.int .i64 (f.size : Int)), .v (.int .i64 (f.E : Int)), .v (.int .i64 (f.F : Int)), .v (.int .i64 f.g.rad), .v (.int .i64 f.g.digs), .v (.int .i64 f.g.lo), .v (.int .i64 f.g.hi), .v (.bool f.g.grad), .v (.int .i64 (f.fam : Int))], false⟩] ∧ gs = [rflF w.heap.size xs, h0l w.heap.size 32 5 p8 c8 i vs, btF b 9 (L.map Value.string).toArray] ∧ (gk + i = L.length) ∧ (vs = xs.flatMap Wp.cells) ∧ (xs.map (·.r) = (L.take i).map (refD n)) ∧ (p8.isSome = true → ¬ (rflF w.heap.size xs).foot (blk p8))) L.length (fun Al W U I => ⟨_, ⟨U, 0, none, 0, [], [], rfl, rfl, rfl, (by omega), rfl, rfl, (fun h => by cases h)⟩, I.pick [0, 1, 2]⟩) ?_
 rintro J gk0 _ _ _ ⟨U900, i, p8, c8, xs, vs, rfl, rfl, rfl, hgk, hvs, hxs, hap⟩ hJ Al W I
 rcases Bool.eq_false_or_eq_true (decide ((i : Int) < (L.length : Int))) with f25 | f25
 · refine zb I 25 (decide ((i : Int) < (L.length : Int))) (true) (f25) fun Al W I => ?_
   obtain ⟨s, hs, hse, hsv, hst⟩ := HX i (by have := oTr f25; omega)
   refine zx I 31 (fun _ => .pointer (some (at_ (some ⟨b, 0, none⟩) i))) (fun Al W I => (i0b (m := i) (n := L.length) (c := L.length) y0n (fun _ => ⟨rfl, rfl⟩) (by have := oTr f25; omega))) fun Al W I => ?_
   refine zx I 32 (fun _ => .string s) (fun Al W I => (i0j I.fa.2.2.1 y0o _ hsv)) fun Al W I => ?_
   refine zg I (fun Al W I => (HO s W).out) fun Al V Iv hzV hB Kz kz => ?_
   rintro _ W ⟨rfl, hb⟩
   refine ⟨_, rfl, kz _ _ hb fun I => ?_⟩
   refine zb I 35 ((a0y n s) != 0) (false) (bne_eq_false_iff_eq.2 hse) fun Al W I => ?_
   refine zx I 41 (fun _ => .pointer (some (at_ (some ⟨b, 0, none⟩) i))) (fun Al W I => (i0b (m := i) (n := L.length) (c := L.length) y0n (fun _ => ⟨rfl, rfl⟩) (by have := oTr f25; omega))) fun Al W I => ?_
   refine zx I 42 (fun _ => .string s) (fun Al W I => (i0j I.fa.2.2.1 y0o _ hsv)) fun Al W I => ?_
   refine zg I (fun Al W I => (HD2 s W (hsz s hse)).out) fun Al V Iv hzV hB Kz kz => ?_
   rintro _ W ⟨p43, c43, rfl, o43, hb⟩
   have n43 : p8.isSome = true → ¬ (0 < (dig B16 (refD n s).x.m).length ∧ blk p43 = blk p8) := fun hp h => by have h1 := o43.at_ h.1; have h2 := (Iv.fa.2.1.blk_lt hp).2; omega
   refine ⟨_, rfl, kz _ _ hb fun I => ?_⟩
   have I := I.rf o43 (hB _) Iv
   have I := I.pick [2, 0, 1, 3]
   refine zap I tvV 2 1 (fun Al => [.int .i64 (((refD n s).cls : Nat) : Int), .bool ((refD n s).neg), .bool ((refD n s).x.neg), .slice p43 (dig B16 (refD n s).x.m).length c43, .int .i64 ((refD n s).x.e)]) (fun Al W I => I.box 2 32 _) (by omega) (fun Al W I hp => ⟨n43 hp, hap hp, fun e => I.fa.1.far I.fa.2.2.2.1 (by kernel_rfl) hp (Eq.symm e), True.intro⟩) fun Al W p49 c49 hq_49 I => ?_
   have I := I.add (rflF w.heap.size (xs ++ [(⟨refD n s, p43, c43⟩ : Wp)])) (g1d I.fa.2.2.1 I.fa.2.1) (fun a ha h => d1a h ((fun a ha h0 e => (I.far a ha).2.2.1 ⟨h0, e⟩) a ha) ((fun a ha h0 e => (I.far a ha).2.1 ⟨h0, e⟩) a ha))
   refine zi I 27 .i64 ((i : Int) + 1) (((i + 1 : Nat) : Int)) ((by rw [show ((i : Int) + 1) = ((i + 1 : Nat) : Int) by omega]; exact IntWalk.i64_in _ (by have := oTr f25; omega))) fun Al W I => ?_
   exact p0p 1 I J fun Al W U I => hJ (gk0 - 1) _ _ _ _ _ ((by have := oTr f25; omega)) ⟨U, i + 1, p49, c49, xs ++ [(⟨refD n s, p43, c43⟩ : Wp)], _, rfl, rfl, rfl, (by have := oTr f25; omega), (by rw [hvs, List.flatMap_append]; rfl), (by rw [hst, List.map_append, List.map_append, hxs]; rfl), (fun hp h => d1a h (fun x hx => (hq_49 hp).2.1 ⟨x, hx⟩) (fun h1 h2 => (hq_49 hp).1 ⟨h1, h2⟩))⟩ (I.pick [0, 1, 4])
 refine zb I 25 (decide ((i : Int) < (L.length : Int))) (false) (f25) fun Al W I => ?_
 refine zg I (fun Al W I => (HI W).out) fun Al V Iv hzV hB Kz kz => ?_
 rintro _ W ⟨rfl, hb⟩
 refine ⟨_, rfl, kz _ _ hb fun I => ?_⟩
 have hi : i = L.length := by have := oFa f25; omega
 exact zret I (v := fun Al => .tuple #[.slice p8 i c8, .int .i64 0]) fun Al W I => ⟨xs, vs, p8, c8, by rw [hi], by rw [hxs, hi, List.take_length], hvs, hi ▸ I.fa.2.1, I.fa.1, I.below⟩

theorem y0r (n way : Int) (L : List ByteArray) (b m : Nat) (w : World) (hB0 : Bt w b 9 (L.map Value.string).toArray) (hm : m = L.length) (hl : L.length ≤ 1000) (h0 : errR n way L ≠ 0) :
 Calls Tryz.prog 11 #[.int .i64 n, .int .i64 way, .slice (some ⟨b, 0, none⟩) m m] w fun en w' => en = .returned (.tuple #[.slice none 0 0, .int .i64 (errR n way L)]) ∧ Below w.heap.size w w' := by
 subst hm
 have HF := fun W => Lib.hid (b0f n W)
 by_cases hn : IsFm n
 · rw [decide_eq_true hn] at HF
   have hE : errR n way L = if errL n L = 0 then (if 1 ≤ way ∧ way ≤ 5 then 0 else 6) else errL n L := by unfold errR; rw [if_pos hn]
   have HO := fun s W => Lib.hid (n0x n s W)
   have HD := fun s W h => Lib.hid (i0h n s W hn h)
   have hsz := fun s (h : a0y n s = 0) => (c0x.1 h).2
   have HI := fun W => Lib.hid (stay (l0s way W))
   generalize hgs : (fun s => (fmt n).neg (a0z (fmt n) s)) = gs
   have HD2 : ∀ s (W : World), s.size = (fmt n).size → Hid (Calls Tryz.prog 36 #[.int .i64 n, .string s] W (k0q W (refD n s) (gs s))) := by subst hgs; exact HD
   clear hgs HD
   have HX : ∀ i, i < L.length → ∃ s : ByteArray, L[i]? = some s ∧ (L.map Value.string).toArray[i]? = some (.string s) := fun i h => ⟨L[i], List.getElem?_eq_getElem h, by simp [h]⟩
   have HJ : errL n L ≠ 0 → ∃ (j : Nat) (s : ByteArray), L[j]? = some s ∧ errL n L = a0y n s ∧ a0y n s ≠ 0 ∧ ∀ i t, i < j → L[i]? = some t → a0y n t = 0 := v0h n L
   have HZ : errL n L = 0 → ∀ (i : Nat) (t : ByteArray), L[i]? = some t → a0y n t = 0 := fun h i t ht => g0s n h t (by obtain ⟨h1, h2⟩ := List.getElem?_eq_some_iff.1 ht; rw [← h2]; exact List.getElem_mem h1)
   -- where the first fault is, or behind all
   obtain ⟨j, hjl, hj1, hj2⟩ : ∃ j, j ≤ L.length ∧ (∀ (i : Nat) (t : ByteArray), i < j → L[i]? = some t → a0y n t = 0) ∧ (∀ (s : ByteArray), L[j]? = some s → a0y n s ≠ 0 ∧ errR n way L = a0y n s) := by
    by_cases hL : errL n L = 0
    · exact ⟨L.length, Nat.le_refl _, fun i t _ ht => HZ hL i t ht, fun s hs => by simp at hs⟩
    · obtain ⟨j, s, h1, h2, h3, h4⟩ := HJ hL
      refine ⟨j, by have := (List.getElem?_eq_some_iff.1 h1).1; omega, h4, fun t ht => ?_⟩
      rw [h1] at ht
      cases ht
      exact ⟨h3, by rw [hE, if_neg hL, h2]⟩
   have hend : j = L.length → wayB way = false ∧ errR n way L = 6 := fun h => by
    have hL : errL n L = 0 := by
     by_cases hL : errL n L = 0
     · exact hL
     · obtain ⟨j', s, h1, h2, h3, h4⟩ := HJ hL
       have := (List.getElem?_eq_some_iff.1 h1).1
       exact absurd (hj1 j' s (by omega) h1) h3
    rw [hE, if_pos hL] at h0 ⊢
    have hw : ¬ (1 ≤ way ∧ way ≤ 5) := fun k => h0 (if_pos k)
    exact ⟨l0i (by omega), if_neg hw⟩
   generalize errR n way L = er at *
   generalize fmt n = f at *
   clear HJ HZ hE
   have I := Inv.start w [btF b 9 (L.map Value.string).toArray] ⟨hB0, True.intro⟩
   refine a0c [.v (.int .i64 n), .v (.int .i64 way), .v (.slice (some ⟨b, 0, none⟩) L.length L.length)] I Tryz.func11 ?_
   refine zg I (fun Al W I => (HF W).out) fun Al V Iv hzV hB Kz kz => ?_
   rintro _ W ⟨rfl, hb⟩
   refine ⟨_, rfl, kz _ _ hb fun I => ?_⟩
   have I := I.add (h0l w.heap.size 32 5 none 0 0 []) (OwnS.nil _ _ _ _) (fun _ _ h => by cases h.1)
   refine o0m I (fun gk fr bx gs => ∃ (U900 : Nat → Value) (i : Nat) (p8 : Option Addr) (c8 : Nat) (vs : List Value), fr = (.v (.int .i64 n) :: .v (.int .i64 way) :: .v (.slice (some ⟨b, 0, none⟩) L.length L.length) :: su 3 (sw U900 6 2 (.v (.slice p8 i c8) :: .v (U900 9) :: .v (.bool true) :: .v (.int .i64 (i : Int)) :: sw U900 12 9 (.v (.bool false) :: sw U900 22 30 (.v undef :: .v (U900 53) :: [])))) : List SV) ∧ bx = [⟨55, [.v (.int .i64 (f.size : Int)), .v (.int .i64 (f.E : Int)), .v (.int .i64 (f.F : Int)), .v (.int .i64 f.g.rad), .v (.int .i64 f.g.digs), .v (.int .i64 f.g.lo), .v (.int .i64 f.g.hi), .v (.bool f.g.grad), .v (.int .i64 (f.fam : Int))], false⟩] ∧ gs = [h0l w.heap.size 32 5 p8 c8 i vs, btF b 9 (L.map Value.string).toArray] ∧ (gk + i = L.length) ∧ (i ≤ j)) L.length (fun Al W U I => ⟨_, ⟨U, 0, none, 0, [], rfl, rfl, rfl, (by omega), (by omega)⟩, I.pick [0, 1]⟩) ?_
   rintro J gk0 _ _ _ ⟨U900, i, p8, c8, vs, rfl, rfl, rfl, hgk, hij⟩ hJ Al W I
   rcases Bool.eq_false_or_eq_true (decide ((i : Int) < (L.length : Int))) with f25 | f25
   · refine zb I 25 (decide ((i : Int) < (L.length : Int))) (true) (f25) fun Al W I => ?_
     obtain ⟨s, hs, hsv⟩ := HX i (by have := oTr f25; omega)
     refine zx I 31 (fun _ => .pointer (some (at_ (some ⟨b, 0, none⟩) i))) (fun Al W I => (i0b (m := i) (n := L.length) (c := L.length) y0n (fun _ => ⟨rfl, rfl⟩) (by have := oTr f25; omega))) fun Al W I => ?_
     refine zx I 32 (fun _ => .string s) (fun Al W I => (i0j I.fa.2.1 y0o _ hsv)) fun Al W I => ?_
     refine zg I (fun Al W I => (HO s W).out) fun Al V Iv hzV hB Kz kz => ?_
     rintro _ W ⟨rfl, hb⟩
     refine ⟨_, rfl, kz _ _ hb fun I => ?_⟩
     by_cases hij2 : i = j
     · refine zb I 35 ((a0y n s) != 0) (true) (bne_iff_ne.2 (by subst hij2; exact (hj2 s hs).1)) fun Al W I => ?_
       exact zret I (v := fun Al => .tuple #[.slice none 0 0, .int .i64 (a0y n s)]) fun Al W I => ⟨by rw [(hj2 s (hij2 ▸ hs)).2], I.below⟩
     refine zb I 35 ((a0y n s) != 0) (false) (bne_eq_false_iff_eq.2 (hj1 i s (by omega) hs)) fun Al W I => ?_
     refine zx I 41 (fun _ => .pointer (some (at_ (some ⟨b, 0, none⟩) i))) (fun Al W I => (i0b (m := i) (n := L.length) (c := L.length) y0n (fun _ => ⟨rfl, rfl⟩) (by have := oTr f25; omega))) fun Al W I => ?_
     refine zx I 42 (fun _ => .string s) (fun Al W I => (i0j I.fa.2.1 y0o _ hsv)) fun Al W I => ?_
     refine zg I (fun Al W I => have hzW := I.bel.size; (HD2 s W (hsz s (hj1 i s (by omega) hs))).out) fun Al V Iv hzV hB Kz kz => ?_
     rintro _ W ⟨p43, c43, rfl, -, hb⟩
     refine ⟨_, rfl, kz _ _ hb fun I => ?_⟩
     refine zap I tvV 2 1 (fun Al => [.int .i64 (((refD n s).cls : Nat) : Int), .bool ((refD n s).neg), .bool ((refD n s).x.neg), .slice p43 (dig B16 (refD n s).x.m).length c43, .int .i64 ((refD n s).x.e)]) (fun Al W I => I.box 2 32 _) (by omega) (fun Al W I hp => ⟨fun e => I.fa.1.far I.fa.2.1 (by kernel_rfl) hp (Eq.symm e), True.intro⟩) fun Al W p49 c49 hq_49 I => ?_
     refine zi I 27 .i64 ((i : Int) + 1) (((i + 1 : Nat) : Int)) ((by rw [show ((i : Int) + 1) = ((i + 1 : Nat) : Int) by omega]; exact IntWalk.i64_in _ (by have := oTr f25; omega))) fun Al W I => ?_
     exact p0p 1 I J fun Al W U I => hJ (gk0 - 1) _ _ _ _ _ ((by have := oTr f25; omega)) ⟨U, i + 1, p49, c49, _, rfl, rfl, rfl, (by have := oTr f25; omega), (by omega)⟩ (I.pick [0, 1])
   refine zb I 25 (decide ((i : Int) < (L.length : Int))) (false) (f25) fun Al W I => ?_
   refine zg I (fun Al W I => (HI W).out) fun Al V Iv hzV hB Kz kz => ?_
   rintro _ W ⟨rfl, hb⟩
   refine ⟨_, congrArg (fun b => Ending.returned (.bool b)) (show (wayB way) = false from (hend (by have := oFa f25; omega)).1), kz _ _ hb fun I => ?_⟩
   exact zret I (v := fun Al => .tuple #[.slice none 0 0, .int .i64 6]) fun Al W I => ⟨by rw [(hend (by have := oFa f25; omega)).2], I.below⟩
 · rw [decide_eq_false hn] at HF
   have hE : errR n way L = 6 := by unfold errR; rw [if_neg hn]
   rw [hE]
   generalize fmt n = f at *
   have I := Inv.start w [] True.intro
   refine a0c [.v (.int .i64 n), .v (.int .i64 way), .v (.slice (some ⟨b, 0, none⟩) L.length L.length)] I Tryz.func11 ?_
   refine zg I (fun Al W I => (HF W).out) fun Al V Iv hzV hB Kz kz => ?_
   rintro _ W ⟨rfl, hb⟩
   refine ⟨_, rfl, kz _ _ hb fun I => ?_⟩
   exact zret I fun Al W I => ⟨rfl, I.below⟩

theorem v0k {m k : Nat} (h1 : 2 ^ k ≤ m) (h2 : m < 2 ^ (k + 1)) : blen m = k + 1 := by
 have a := (b0k m (k + 1)).2 h2
 have b : ¬ blen m ≤ k := fun h => by have := (b0k m k).1 h; omega
 omega
def oneS : ByteArray := b0m [63, 128, 0, 0]
def twoS : ByteArray := b0m [64, 0, 0, 0]
theorem j1t : a0z (fmt 1) oneS = 1065353216 := by
 unfold a0z oneS
 rw [r0e (by decide)]
 decide +kernel
theorem j1u : a0y 1 oneS = 0 := c0x.2 ⟨by decide, by unfold oneS; rw [x0c]; rfl⟩
theorem j1v : refD 1 oneS = ⟨2, false, ⟨false, 1, 0⟩⟩ := by
 unfold refD
 rw [j1t]
 have hd : (fmt 1).decN 1065353216 = ⟨2, 8388608, -23⟩ := by kernel_rfl
 have hg : (fmt 1).neg 1065353216 = false := by decide +kernel
 unfold Fm.refN Fm.vr
 rw [hd, hg]
 have ht : tz 8388608 = 23 := m0q 1 23 rfl
 have hw : wid (fmt 1).g = 1 := by decide
 unfold Dc.c bare
 simp [ht, hw]
theorem j1w : e0v ⟨false, 1, 0⟩ ⟨false, 1, 0⟩ = ⟨false, 1, 1⟩ := by
 rw [x0l _ _ (e := 0) (by decide) (by decide)]
 have hz : zOf ⟨false, 1, 0⟩ 0 + zOf ⟨false, 1, 0⟩ 0 = 2 := by decide
 rw [hz]
 have ht : tz 2 = 1 := m0q 1 1 rfl
 unfold norm ofZ bare
 simp [ht]
theorem j1x : (fmt 1).addM ⟨2, false, ⟨false, 1, 0⟩⟩ ⟨2, false, ⟨false, 1, 0⟩⟩ 1 = (⟨2, false, ⟨false, 1, 1⟩⟩, 0) := by
 have hK : theK 1 1 1 1 24 = -22 := by
  have h := u0c (m := 1) (by decide) 1 (w := 1) (D := 24) (by decide) (by decide)
  rw [show blen 1 = 1 from v0k (k := 0) (by decide) (by decide)] at h
  exact h1s (by decide) (by decide) (by decide) (by decide) h
 have hR : a0m false 1 1 1 (fmt 1).g 1 = ⟨false, 8388608, -22, true, false, false⟩ := by
  unfold a0m
  rw [if_neg (by decide), show wid (fmt 1).g = 1 from rfl, show (fmt 1).g.digs.toNat = 24 from rfl, hK]
  kernel_rfl
 have ht : tz 8388608 = 23 := m0q 1 23 rfl
 unfold Fm.addM
 rw [if_neg (by decide), if_neg (by decide)]
 unfold Fm.sumM
 rw [j1w, if_pos (by decide)]
 unfold Fm.numM
 rw [if_neg (by decide), hR]
 unfold Fm.placedM Fm.flP bare
 have hw : wid (fmt 1).g = 1 := by decide
 simp [ht, hw]
theorem j1y : strR 1 ⟨2, false, ⟨false, 1, 1⟩⟩ = twoS := by
 have hb : blen 1 = 1 := v0k (k := 0) (by decide) (by decide)
 have h24 : blen 8388608 = 24 := v0k (k := 23) (by decide) (by decide)
 have hs : c0t ⟨false, 1, 1⟩ (fmt 1).g = -22 := by
  unfold c0t upK topD
  simp only [hb]
  decide
 have hf : (fmt 1).fr ⟨false, 1, 1⟩ = 8388608 := by
  unfold Fm.fr
  rw [hs]
  decide
 have hn : (fmt 1).numP ⟨false, 1, 1⟩ = ⟨false, 128, 0⟩ := by
  unfold Fm.numP
  rw [hf, hs, h24]
  kernel_rfl
 have he : (fmt 1).encP 2 false ⟨false, 1, 1⟩ = ⟨false, 128, 0⟩ := hn
 have h2 : (fmt 1).strP ⟨false, 128, 0⟩ = [64, 0, 0, 0] := by decide +kernel
 unfold strR twoS
 simp only
 rw [he, h2]
theorem g1e : errR 1 1 [oneS, oneS] = 0 := by
 unfold errR errL errL errL
 rw [j1u]
 decide

theorem o0s (w : World) (hT : TabW w) : Calls Tryz.prog 13 #[] w fun en w' => en = .returned (.bool true) ∧ Below w.heap.size w w' := by
 have HA : ∀ W, TabW W → Hid (Calls Tryz.prog 10 #[.int .i64 1, .string oneS, .string oneS, .int .i64 1] W fun en w' => en = .returned (.tuple #[.string twoS, .int .i64 0, .int .i64 0]) ∧ Below W.heap.size W w') := by
  intro W h
  have := f1z 1 1 oneS oneS W h
  unfold f0d at this
  rw [g1e, j1v, j1x] at this
  simp only [j1y, if_true] at this
  exact Lib.hid this
 refine calls_of_wp Tryz.func13 rfl ?_
 refine a0u (a' := ⟨(us 26 []).toArray, []⟩) (by kernel_rfl) ?_
 refine yq ?_
 refine ye ?_
 refine ywv 0 rfl 5 (.slice (some ⟨w.heap.size, 0, none⟩) 4 4) #[.int .u8 63, .int .u8 128, .int .u8 0, .int .u8 0] 5 (fun V1 hbV1 hzV1 b5 => ?_)
 refine yv 0 rfl 6 (.string oneS) ?_ (k0h (p := some ⟨w.heap.size, 0, none⟩) (n := 4) (c := 4) (xs := [63, 128, 0, 0]) p0h x0x uStr (c1n b5) rfl (by kernel_rfl))
 refine yzt 1 ?_
 refine ye ?_
 replace hT := (hT.past hbV1)
 refine yc 2 rfl 10 ((HA V1 hT).out) (fun Gx hGx => ?_)
 rintro eV2 V2 ⟨rfl, hbV2⟩
 have hzV2 := hbV2.size
 refine ⟨_, rfl, hGx _ _ ?_⟩
 clear hGx Gx
 refine yzt 7 ?_
 refine ye ?_
 refine ywv 8 rfl 22 (.slice (some ⟨V2.heap.size, 0, none⟩) 4 4) #[.int .u8 64, .int .u8 0, .int .u8 0, .int .u8 0] 5 (fun V3 hbV3 hzV3 b22 => ?_)
 refine yv 0 rfl 23 (.string twoS) ?_ (k0h (p := some ⟨V2.heap.size, 0, none⟩) (n := 4) (c := 4) (xs := [64, 0, 0, 0]) p0h x0x uStr (c1n b22) rfl (by kernel_rfl))
 refine yv 0 rfl 24 (.bool true) ?_ (f1m (s := twoS) (by kernel_rfl) (by kernel_rfl))
 refine yzt 2 ?_
 refine wp_ret ?_
 repeat (first | with_reducible refine a0t ?_ | with_reducible refine a0p ?_)
 refine yret (.bool true) (res1 Tryz.results13 rvt) ?_
 exact ⟨rfl, (a0a (a0a hbV1 hbV2) hbV3)⟩

theorem t0m (n : Int) (r : Vr) (fl : Nat) (p : Option Addr) (c base : Nat) (w : World) (hn : IsFm n) (hp : Rf w base p c (dig B16 r.x.m)) (R : ResF (fmt n) r) :
 Calls Tryz.prog 14 #[.int .i64 n, .string (strR n r), .int .i64 (fl : Int), .int .i64 0, .int .i64 0, .agg #[.int .i64 (r.cls : Int), .bool r.neg, .bool r.x.neg, .slice p (dig B16 r.x.m).length c, .int .i64 r.x.e], .int .i64 (fl : Int)] w fun en w' => en = .returned (.bool true) ∧ Below w.heap.size w w' := by
 have hg := (b0z hn).g
 have hl : (dig B16 r.x.m).length ≤ 2400 := by
  by_cases h2 : r.cls = 2
  · have := v0x hg (R.c2 h2).1
    have := j0x r.x.m
    omega
  · rw [R.x0 h2]; show (dig B16 0).length ≤ _; rw [a0d]; decide
 have HE := fun W h => Lib.hid (n0z n r p c base W hn h hl (fun h2 => ⟨(R.c2 h2).1, (R.c2 h2).2.2.1, (R.c2 h2).2.1, (R.c2 h2).2.2.2, v0x hg (R.c2 h2).1⟩))
 have hs : b0m ((fmt n).strP ((fmt n).encP r.cls r.neg r.x)) = strR n r := rfl
 rw [hs] at HE
 generalize strR n r = s at *
 have I := Inv.start w [rfF base p c (dig B16 r.x.m)] ⟨hp, True.intro⟩
 refine a0c [.v (.int .i64 n), .v (.string s), .v (.int .i64 (fl : Int)), .v (.int .i64 0), .v (.int .i64 0), .v (.agg #[.int .i64 (r.cls : Int), .bool r.neg, .bool r.x.neg, .slice p (dig B16 r.x.m).length c, .int .i64 r.x.e]), .v (.int .i64 (fl : Int))] I Tryz.func14 ?_
 refine zg I (fun Al W I => (HE W I.fa.1).out) fun Al V Iv hzV hB Kz kz => ?_
 rintro _ W ⟨rfl, hb⟩
 refine ⟨_, rfl, kz _ _ hb fun I => ?_⟩
 refine zbin I 27 _ (fun _ _ _ _ _ => b1j s) fun Al W I => ?_
 refine zb I 32 ((fl : Int) == (fl : Int)) (true) (beq_self_eq_true _) fun Al W I => ?_
 exact zret I fun Al W I => ⟨rfl, I.below⟩
theorem r0k (n er fl : Int) (v : Value) (hv : ∃ k g h q l c e, v = .agg #[.int .i64 k, .bool g, .bool h, .slice q l c, .int .i64 e]) (w : World) (he : er ≠ 0) :
 Calls Tryz.prog 14 #[.int .i64 n, .string (b0m []), .int .i64 0, .int .i64 er, .int .i64 er, v, .int .i64 fl] w fun en w' => en = .returned (.bool true) ∧ Below w.heap.size w w' := by
 obtain ⟨k, g, h, q, l, c, e, rfl⟩ := hv
 have I := Inv.start w [] True.intro
 refine a0c [.v (.int .i64 n), .v (.string (b0m [])), .v (.int .i64 0), .v (.int .i64 er), .v (.int .i64 er), .v (.agg #[.int .i64 k, .bool g, .bool h, .slice q l c, .int .i64 e]), .v (.int .i64 fl)] I Tryz.func14 ?_
 refine zb I 17 (er == 0) (false) (bFn he) fun Al W I => ?_
 refine zb I 23 (er == er) (true) (beq_self_eq_true _) fun Al W I => ?_
 refine zbin I 27 _ (fun _ _ _ _ _ => b1j (b0m [])) fun Al W I => ?_
 exact zret I fun Al W I => ⟨rfl, I.below⟩

theorem m1t {n : Int} {xs : List Wp} {s t : ByteArray} (h : xs.map (·.r) = [s, t].map (refD n)) : ∃ p1 c1 p2 c2, xs = [⟨refD n s, p1, c1⟩, ⟨refD n t, p2, c2⟩] := by
 cases xs with
 | nil => simp at h
 | cons x l =>
  cases l with
  | nil => simp at h
  | cons y l =>
   cases l with
   | nil => simp only [List.map_cons, List.map_nil, List.cons.injEq, and_true] at h; rw [← h.1, ← h.2]; exact ⟨x.p, x.c, y.p, y.c, rfl⟩
   | cons _ _ => simp at h
def j1z (w : World) (r s : Vr) (en : Ending) (w' : World) : Prop :=
 ∃ p1 c1 p2 c2 p c, en = .returned (.tuple #[.slice p 2 c, .int .i64 0]) ∧ OwnS w' w.heap.size 32 5 p c 2 ((⟨r, p1, c1⟩ : Wp).cells ++ (⟨s, p2, c2⟩ : Wp).cells) ∧ Rf w' w.heap.size p1 c1 (dig B16 r.x.m) ∧ Rf w' w.heap.size p2 c2 (dig B16 s.x.m) ∧ Below w.heap.size w w'
theorem y0s (n way : Int) (s t : ByteArray) (b : Nat) (w : World) (hB0 : Bt w b 9 #[.string s, .string t]) (h0 : errR n way [s, t] = 0) :
 Calls Tryz.prog 11 #[.int .i64 n, .int .i64 way, .slice (some ⟨b, 0, none⟩) 2 2] w (j1z w (refD n s) (refD n t)) := by
 refine (d1b n way [s, t] b 2 w hB0 rfl (by simp) h0).mono fun en w' hh => ?_
 obtain ⟨xs, vs, p, c, h1, h2, h3, h4, h5, h6⟩ := hh
 obtain ⟨p1, c1, p2, c2, rfl⟩ := m1t h2
 subst h3
 exact ⟨p1, c1, p2, c2, p, c, h1, h4, h5 ⟨refD n s, p1, c1⟩ (by simp), h5 ⟨refD n t, p2, c2⟩ (by simp), h6⟩
theorem o0t (n way : Int) (s t : ByteArray) (b : Nat) (w : World) (hB0 : Bt w b 9 #[.string s, .string t]) (h0 : errR n way [s, t] ≠ 0) :
 Calls Tryz.prog 11 #[.int .i64 n, .int .i64 way, .slice (some ⟨b, 0, none⟩) 2 2] w fun en w' => en = .returned (.tuple #[.slice none 0 0, .int .i64 (errR n way [s, t])]) ∧ Below w.heap.size w w' :=
 y0r n way [s, t] b 2 w hB0 rfl (by simp) h0
theorem k1a {n way : Int} {s t : ByteArray} {R : Vr × Nat} {w : World} {fn : FuncId} {args : Array Value} (h : Calls Tryz.prog fn args w (f0d n way [s, t] R w)) (h0 : errR n way [s, t] = 0) :
 Calls Tryz.prog fn args w fun en w' => en = .returned (.tuple #[.string (strR n R.1), .int .i64 ((R.2 : Nat) : Int), .int .i64 0]) ∧ Below w.heap.size w w' := by
 unfold f0d at h
 simp only [h0, if_true] at h
 exact h
theorem g1f {n way : Int} {L : List ByteArray} {R : Vr × Nat} {w : World} {fn : FuncId} {args : Array Value} (h : Calls Tryz.prog fn args w (f0d n way L R w)) (h0 : errR n way L ≠ 0) :
 Calls Tryz.prog fn args w fun en w' => en = .returned (.tuple #[.string (b0m []), .int .i64 0, .int .i64 (errR n way L)]) ∧ Below w.heap.size w w' := by
 unfold f0d at h
 simp only [if_neg h0] at h
 exact h


def GNz (w : World) (S : Nat → Prop) (base : Nat) (d : Dv) (en : Ending) (w' : World) : Prop :=
 ∃ p c, en = .returned (.agg #[.bool d.neg, .slice p (dig B16 d.m).length c, .int .i64 d.e]) ∧ Rf w' base p c (dig B16 d.m) ∧ (∀ x, S x → 0 < (dig B16 d.m).length → blk p ≠ x) ∧ Below w.heap.size w w'
theorem k1b (a : Dv) (p : Option Addr) (c base : Nat) (w : World) (S : Nat → Prop) (hp : Rf w base p c (dig B16 a.m)) (hf : ∀ x, S x → 0 < (dig B16 a.m).length → blk p ≠ x) (hA : ∀ x, S x → x < w.heap.size) (hb : base ≤ w.heap.size) :
 Calls Tryz.prog 16 #[.agg #[.bool a.neg, .slice p (dig B16 a.m).length c, .int .i64 a.e]] w (GNz w S base (c0l a)) := by
 refine (s0u (fun b => base ≤ b ∧ ∀ x, S x → b ≠ x) a.neg p _ c a.e a.m w hp.rd rfl hp.cap (fun h => ⟨hp.at_ h, fun x hx => hf x hx h⟩)).mono fun en w' hh => ?_
 obtain ⟨p, c, h1, h2, h3, h4, h5⟩ := hh
 refine ⟨p, c, h1, ⟨h2, h3, fun h => ?_⟩, fun x hx h => ?_, h5⟩
 · rcases h4 h with h | h
   · exact h.1
   · omega
 · rcases h4 h with h | h
   · exact h.2 x hx
   · have := hA x hx
     omega

theorem k1c {r : Vr} (h : r.cls ≤ 3) : r.opp = ⟨r.cls, !r.neg, c0l r.x⟩ := by unfold Vr.opp; rw [if_pos h]
theorem g1g {r : Vr} (h : ¬ r.cls ≤ 3) : r.opp = r := by unfold Vr.opp; rw [if_neg h]
theorem r0l (n : Int) (s t : ByteArray) (way : Int) (w : World) (hT : TabW w) : Calls Tryz.prog 4 #[.int .i64 n, .string s, .string t, .int .i64 way] w fun en w' => en = .returned (.bool true) ∧ Below w.heap.size w w' := by
 have HB0 := fun W h => Lib.hid (o0s W h)
 by_cases h0 : errR n way [s, t] = 0
 · obtain ⟨hn, hL, hw⟩ := k0r h0
   have HR := fun W h => Lib.hid (k1a (w0x n way s t W h) h0)
   have HO := fun W b h => Lib.hid (y0s n way s t b W h h0)
   have A1 := (h0n (s := s) hn).ok
   have B1 := (g1b (h0n (s := t) hn)).ok
   have HF := fun W (v : Vr) (hv : (refD n t).opp = v) p1 c1 p2 c2 b1 b2 h1 h2 => Lib.hid (t0l n way ⟨refD n s, p1, c1⟩ ⟨v, p2, c2⟩ b1 b2 W hn hw h1 h2 A1 (hv ▸ B1))
   have RS : ResF (fmt n) ((fmt n).addM (refD n s) (refD n t).opp way).1 := c1v (b0z hn) (h0n hn) (g1b (h0n hn)) way
   generalize refD n s = r1 at *
   generalize refD n t = r2 at *
   obtain ⟨rS, flS, hS⟩ : ∃ rS flS, (fmt n).addM r1 r2.opp way = (rS, flS) := ⟨_, _, rfl⟩
   simp only [hS] at HR RS
   have HF : ∀ (W : World) (v : Vr), r2.opp = v → ∀ p1 c1 p2 c2 b1 b2, Rf W b1 p1 c1 (dig B16 r1.x.m) → Rf W b2 p2 c2 (dig B16 v.x.m) → Hid (Calls Tryz.prog 12 #[.int .i64 n, .agg #[.int .i64 (r1.cls : Int), .bool r1.neg, .bool r1.x.neg, .slice p1 (dig B16 r1.x.m).length c1, .int .i64 r1.x.e], .agg #[.int .i64 (v.cls : Int), .bool v.neg, .bool v.x.neg, .slice p2 (dig B16 v.x.m).length c2, .int .i64 v.x.e], .int .i64 way] W (GVf W W.heap.size (rS, flS))) := fun W v hv p1 c1 p2 c2 b1 b2 h1 h2 => by
    have := HF W v hv p1 c1 p2 c2 b1 b2 h1 h2
    rw [← hS, hv]
    exact this
   unfold GVf at HF
   simp only at HF
   have HP := fun W p c b h => Lib.hid (t0m n rS flS p c b W hn h RS)
   generalize strR n rS = str at *
   clear hS RS A1 B1 h0 hL
   have I := Inv.start w [tabF] ⟨hT, True.intro⟩
   refine a0c [.v (.int .i64 n), .v (.string s), .v (.string t), .v (.int .i64 way)] I Tryz.func4 ?_
   refine zg I (fun Al W I => (HR W I.fa.1).out) fun Al V Iv hzV hB Kz kz => ?_
   rintro _ W ⟨rfl, hb⟩
   refine ⟨_, rfl, kz _ _ hb fun I => ?_⟩
   refine zg I (fun Al W I => (HO W _ (I.box 0 9 _)).out) fun Al V Iv hzV hB Kz kz => ?_
   rintro _ W ⟨p1, c1, p2, c2, p, c, rfl, oS, o1, o2, hb⟩
   refine ⟨_, rfl, kz _ _ hb fun I => ?_⟩
   have I := I.owns oS
   have I := I.rf o1 (hB _) Iv
   have I := I.rf o2 (hB _) Iv
   by_cases h3 : r2.cls ≤ 3
   · refine zx I 38 (fun _ => .pointer (some (at_ p (1 * 5)))) (fun Al W I => (d0g (m := 1) (n := 2) (c := c) tvV I.fa.2.2.1.solid (by omega))) fun Al W I => ?_
     refine zx I 39 (fun _ => .agg #[.int .i64 (r2.cls : Int), .bool r2.neg, .bool r2.x.neg, .slice p2 (dig B16 r2.x.m).length c2, .int .i64 r2.x.e]) (fun Al W I => (d0s (m := 1 * 5) I.fa.2.2.1 agV (⟨r2, p2, c2⟩ : Wp).cells rfl rfl)) fun Al W I => ?_
     refine zb I 42 (decide ((r2.cls : Int) ≤ 3)) (true) (dTr (by omega)) fun Al W I => ?_
     refine zg I (fun Al W I => have hzW := I.bel.size; k1b r2.x p2 c2 _ W (Fa Al _) I.fa.1 (fun a ha h0 e => (I.far a ha).1 ⟨h0, e⟩) I.lt (by omega)) fun Al V Iv hzV hB Kz kz => ?_
     rintro _ W ⟨p49, c49, rfl, o49, n49, hb⟩
     refine ⟨_, rfl, kz _ _ hb fun I => ?_⟩
     have I := I.rfA o49 (hB _) n49
     refine zd [1] I fun Al W I => ?_
     refine zk [0, 1, 4, 5] I fun I => ?_
     refine zo 2 I (fun I => ?_)
     refine zx I 54 (fun _ => .pointer (some (at_ p (0 * 5)))) (fun Al W I => (d0g (m := 0) (n := 2) (c := c) tvV I.fa.2.2.2.1.solid (by omega))) fun Al W I => ?_
     refine zo 3 I (fun I => ?_)
     refine zx I 55 (fun _ => .agg #[.int .i64 (r1.cls : Int), .bool r1.neg, .bool r1.x.neg, .slice p1 (dig B16 r1.x.m).length c1, .int .i64 r1.x.e]) (fun Al W I => (d0s (m := 0 * 5) I.fa.2.2.2.1 agV (⟨r1, p1, c1⟩ : Wp).cells rfl rfl)) fun Al W I => ?_
     refine zo 6 I (fun I => ?_)
     refine zg I (fun Al W I => (HF W ⟨r2.cls, !r2.neg, c0l r2.x⟩ (k1c h3) p1 c1 p49 c49 _ _ I.fa.2.2.1 I.fa.1).out) fun Al V Iv hzV hB Kz kz => ?_
     rintro _ W ⟨p58, c58, rfl, o58, hb⟩
     refine ⟨_, rfl, kz _ _ hb fun I => ?_⟩
     have I := I.rf o58 (hB _) Iv
     refine zk [7, 8, 9] I fun I => ?_
     refine zo 10 I (fun I => ?_)
     refine zn I fun Al W I => ?_
     refine zk [11] I fun I => ?_
     refine zg I (fun Al W I => (HB0 W I.fa.2.2.2.2.2.1).out) fun Al V Iv hzV hB Kz kz => ?_
     rintro _ W ⟨rfl, hb⟩
     refine ⟨_, rfl, kz _ _ hb fun I => ?_⟩
     refine zg I (fun Al W I => (HP W p58 c58 _ I.fa.1).out) fun Al V Iv hzV hB Kz kz => ?_
     rintro _ W ⟨rfl, hb⟩
     refine ⟨_, rfl, kz _ _ hb fun I => ?_⟩
     exact zret I fun Al W I => ⟨rfl, I.below⟩
   refine zx I 38 (fun _ => .pointer (some (at_ p (1 * 5)))) (fun Al W I => (d0g (m := 1) (n := 2) (c := c) tvV I.fa.2.2.1.solid (by omega))) fun Al W I => ?_
   refine zx I 39 (fun _ => .agg #[.int .i64 (r2.cls : Int), .bool r2.neg, .bool r2.x.neg, .slice p2 (dig B16 r2.x.m).length c2, .int .i64 r2.x.e]) (fun Al W I => (d0s (m := 1 * 5) I.fa.2.2.1 agV (⟨r2, p2, c2⟩ : Wp).cells rfl rfl)) fun Al W I => ?_
   refine zb I 42 (decide ((r2.cls : Int) ≤ 3)) (false) (dFa (by omega)) fun Al W I => ?_
   refine zd [1] I fun Al W I => ?_
   refine zk [0, 1, 4, 5] I fun I => ?_
   refine zo 2 I (fun I => ?_)
   refine zx I 54 (fun _ => .pointer (some (at_ p (0 * 5)))) (fun Al W I => (d0g (m := 0) (n := 2) (c := c) tvV I.fa.2.2.1.solid (by omega))) fun Al W I => ?_
   refine zo 3 I (fun I => ?_)
   refine zx I 55 (fun _ => .agg #[.int .i64 (r1.cls : Int), .bool r1.neg, .bool r1.x.neg, .slice p1 (dig B16 r1.x.m).length c1, .int .i64 r1.x.e]) (fun Al W I => (d0s (m := 0 * 5) I.fa.2.2.1 agV (⟨r1, p1, c1⟩ : Wp).cells rfl rfl)) fun Al W I => ?_
   refine zo 6 I (fun I => ?_)
   refine zg I (fun Al W I => (HF W r2 (g1g h3) p1 c1 p2 c2 _ _ I.fa.2.1 I.fa.1).out) fun Al V Iv hzV hB Kz kz => ?_
   rintro _ W ⟨p58, c58, rfl, o58, hb⟩
   refine ⟨_, rfl, kz _ _ hb fun I => ?_⟩
   have I := I.rf o58 (hB _) Iv
   refine zk [7, 8, 9] I fun I => ?_
   refine zo 10 I (fun I => ?_)
   refine zn I fun Al W I => ?_
   refine zk [11] I fun I => ?_
   refine zg I (fun Al W I => (HB0 W I.fa.2.2.2.2.1).out) fun Al V Iv hzV hB Kz kz => ?_
   rintro _ W ⟨rfl, hb⟩
   refine ⟨_, rfl, kz _ _ hb fun I => ?_⟩
   refine zg I (fun Al W I => (HP W p58 c58 _ I.fa.1).out) fun Al V Iv hzV hB Kz kz => ?_
   rintro _ W ⟨rfl, hb⟩
   refine ⟨_, rfl, kz _ _ hb fun I => ?_⟩
   exact zret I fun Al W I => ⟨rfl, I.below⟩
 · have HR := fun W h => Lib.hid (g1f (w0x n way s t W h) h0)
   have HO := fun W b h => Lib.hid (o0t n way s t b W h h0)
   generalize errR n way [s, t] = er at *
   have HP := fun fl v hv W => Lib.hid (r0k n er fl v hv W h0)
   have I := Inv.start w [tabF] ⟨hT, True.intro⟩
   refine a0c [.v (.int .i64 n), .v (.string s), .v (.string t), .v (.int .i64 way)] I Tryz.func4 ?_
   refine zg I (fun Al W I => (HR W I.fa.1).out) fun Al V Iv hzV hB Kz kz => ?_
   rintro _ W ⟨rfl, hb⟩
   refine ⟨_, rfl, kz _ _ hb fun I => ?_⟩
   refine zg I (fun Al W I => (HO W _ (I.box 0 9 _)).out) fun Al V Iv hzV hB Kz kz => ?_
   rintro _ W ⟨rfl, hb⟩
   refine ⟨_, rfl, kz _ _ hb fun I => ?_⟩
   refine zb I 36 (er == 0) (false) (bFn h0) fun Al W I => ?_
   refine zg I (fun Al W I => (HB0 W I.fa.1).out) fun Al V Iv hzV hB Kz kz => ?_
   rintro _ W ⟨rfl, hb⟩
   refine ⟨_, rfl, kz _ _ hb fun I => ?_⟩
   refine zg I (fun Al W I => (HP 0 _ ⟨0, false, false, none, 0, 0, 0, rfl⟩ W).out) fun Al V Iv hzV hB Kz kz => ?_
   rintro _ W ⟨rfl, hb⟩
   refine ⟨_, rfl, kz _ _ hb fun I => ?_⟩
   exact zret I fun Al W I => ⟨rfl, I.below⟩

end Go.Proofs.YtlcdfnaaenibgaaGreatDoor
