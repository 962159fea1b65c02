/- arith: fit, Number, raw. -/
import Derived.Lib.Strings
import Derived.Lib.Slices
import Derived.Lib.Small
import Derived.Lib.Walk
import Derived.Lib.BitFns
import Derived.Deep.LoopGhost
import Derived.Deep.RegionHeld3
import Derived.Carry
import Derived.Test.YtmacohmclpnphaaDoorYe1
import Derived.Test.YtmacohmclpnphaaDoorYe2
import Derived.Test.YtmacohmclpnphaaDoorYe3
import Derived.Test.YtmacohmclpnphaaDoorYe4
import Derived.Test.YtmacohmclpnphaaDoorYe5
import Derived.Test.YtmacohmclpnphaaDoorYe6
set_option maxHeartbeats 8000000
set_option maxRecDepth 100000
namespace Go.Proofs.YtmacohmclpnphaaDoor
open Go.RowKit Go.Slip
theorem y0s (ng : Bool) (p q : Option Addr) (c d : Nat) (num den : Nat) (e : Int) (g : Gd) (way : Int) (w : World) (hp : Rd w .u32 p (dig B32 num)) (hq : Rd w .u32 q (dig B32 den))
 (hl : (dig B32 num).length ≤ 100000) (hl2 : (dig B32 den).length ≤ 100000) (hn : 0 < num) (hd : 0 < den) (he : -1000000 ≤ e ∧ e ≤ 1000000) (G : h0q g) (hw1 : 1 ≤ way) (hw2 : way ≤ 5) :
 Calls Tryd.prog 97 #[.agg #[.bool ng, .slice p (dig B32 num).length c, .slice q (dig B32 den).length d, .int .i64 e], .agg #[.int .i64 g.rad, .int .i64 g.digs, .int .i64 g.lo, .int .i64 g.hi, .bool g.grad], .int .i64 way] w (s0u w (a0p ng num den e g way)) := by
 have h := r0e ng p q c d num den e g way (theK num den e (wid g) g.digs.toNat) w hp hq hl hl2 hn hd he G hw1 hw2 (j0b hn hd e (b0f g).1 (by have := G.d1; omega))
 unfold a0p
 rw [if_neg (by omega)]
 exact h
theorem i1d (f : Fm) (n way : Int) (ng : Bool) (p q : Option Addr) (c d : Nat) (num den : Nat) (e : Int) (u : Nat) (w : World) (U : Bt w u 153 #[.int .i64 n, .int .i64 way, .int .i64 f.g.rad, .int .i64 f.g.digs, .int .i64 f.g.lo, .int .i64 f.g.hi, .bool f.g.grad, .int .u8 (famB f), .int .i64 0]) (hp : Rd w .u32 p (dig B32 num)) (hq : Rd w .u32 q (dig B32 den))
 (hl : (dig B32 num).length ≤ 100000) (hl2 : (dig B32 den).length ≤ 100000) (hn : 0 < num) (hd : 0 < den) (he : -1000000 ≤ e ∧ e ≤ 1000000) (G : b0b f) (hw : 1 ≤ way ∧ way ≤ 5) :
 Calls Tryd.prog 119 #[.pointer (some ⟨u, 0, none⟩), .agg #[.bool ng, .slice p (dig B32 num).length c, .slice q (dig B32 den).length d, .int .i64 e]] w
  (j0j f n way (((f.placedM (a0p ng num den e f.g way) way).2 : Nat) : Int) u w (f.placedV (a0p ng num den e f.g way) way)) := by
 have GG := b0y G.g
 have HF := fun W h1 h2 => hi0 (y0s ng p q c d num den e f.g way W h1 h2 hl hl2 hn hd he GG hw.1 hw.2)
 have HP := fun pp cc base u W U h1 h2 => hi0 (f1v f n way (a0p ng num den e f.g way) pp cc base u W U h1 h2 G hw)
 have hR := y0r (neg := ng) (num := num) (e := e) (way := way) hd GG
 generalize (f.placedM (a0p ng num den e f.g way) way).2 = fl at *
 generalize f.placedV (a0p ng num den e f.g way) way = v at *
 generalize a0p ng num den e f.g way = P at *
 have I := Inv.startW w u 153 (uS f n way 0) [rdF .u32 p (dig B32 num), rdF .u32 q (dig B32 den)] U ⟨hp, hq, True.intro⟩ ⟨fun hf => hp.far U (by kernel_rfl) hf.1 hf.2, fun hf => hq.far U (by kernel_rfl) hf.1 hf.2, True.intro⟩
 refine a0f [.p 0 0, .v (.agg #[.bool ng, .slice p (dig B32 num).length c, .slice q (dig B32 den).length d, .int .i64 e])] I Tryd.func119 ?_
 refine zcut I none (fun fr bx gs => ∃ (U1 : Nat → Value) (p16 : Option Addr) (c16 : Nat), fr = (.p 0 0 :: .v (.agg #[.bool ng, .slice p (dig B32 num).length c, .slice q (dig B32 den).length d, .int .i64 e]) :: .v undef :: .p 1 0 :: .p 2 0 :: sw U1 5 12 [] : List SV) ∧ bx = [⟨153, (uS f n way (fl : Int)), false⟩, ⟨146, [.v (.bool ng), .v (.slice p (dig B32 num).length c), .v (.slice q (dig B32 den).length d), .v (.int .i64 e)], false⟩, ⟨29, [.v (.int .i64 (v.cls : Int)), .v (.bool v.neg), .v (.slice p16 (dig B32 v.d).length c16), .v (.int .i64 v.pow)], false⟩] ∧ gs = [ownF w.heap.size .u32 76 p16 c16 (dig B32 v.d), rdF .u32 p (dig B32 num), rdF .u32 q (dig B32 den)]) ?_ ?_
 · intro J hJ Al W I
   refine zd [0, 2] I fun Al W I => ?_
   refine zk [0, 1, 2, 3, 4, 6, 7, 8] I fun I => ?_
   refine zo2 5 9 I (fun I => ?_) (fun I => ?_)
   · refine zn I fun Al W I => ?_
     refine zo 9 I fun I => ?_
     refine zn I fun Al W I => ?_
     refine zo 10 I fun I => ?_
     refine zqo I (fun Al W I => (HF W I.fa.1 I.fa.2.1).out) fun Al W p15 c15 I => ?_
     refine zo 11 I fun I => ?_
     refine zge I 0 153 (fun Al W I => have hzW := I.bel.size; (HP p15 c15 _ _ W (I.box 0 153 _) I.fa.1 (by omega)).out) fun Al V Iv _ _ kz => ?_
     rintro _ W ⟨p16, c16, rfl, o16, hO, hB⟩
     refine ⟨_, rfl, kz _ (uS f n way (fl : Int)) _ hO hB fun I => ?_⟩
     have I := I.own o16
     refine zo 12 I fun I => ?_
     refine zn I fun Al W I => ?_
     exact a0n I J fun Al W U I => hJ _ _ _ _ _ ⟨U, p16, c16, rfl, rfl, rfl⟩ (I.pick [0, 2, 3])
   refine zn I fun Al W I => ?_
   refine zo 5 I fun I => ?_
   refine zn I fun Al W I => ?_
   refine zo 10 I fun I => ?_
   refine zqo I (fun Al W I => (HF W I.fa.1 I.fa.2.1).out) fun Al W p15 c15 I => ?_
   refine zo 11 I fun I => ?_
   refine zge I 0 153 (fun Al W I => have hzW := I.bel.size; (HP p15 c15 _ _ W (I.box 0 153 _) I.fa.1 (by omega)).out) fun Al V Iv _ _ kz => ?_
   rintro _ W ⟨p16, c16, rfl, o16, hO, hB⟩
   refine ⟨_, rfl, kz _ (uS f n way (fl : Int)) _ hO hB fun I => ?_⟩
   have I := I.own o16
   refine zo 12 I fun I => ?_
   refine zn I fun Al W I => ?_
   exact a0n I J fun Al W U I => hJ _ _ _ _ _ ⟨U, p16, c16, rfl, rfl, rfl⟩ (I.pick [0, 2, 3])
 rintro _ _ _ ⟨U1, p16, c16, rfl, rfl, rfl⟩ Al W I
 exact zret I fun Al W I => ⟨p16, c16, rfl, I.fa.1, I.bel, I.boxE 153 _⟩
structure VrOk (r : Vr) : Prop where
 c : 1 ≤ r.cls ∧ r.cls ≤ 5
 x0 : r.cls ≠ 2 → r.x = vz
 x2 : r.cls = 2 → r.x.m ≠ 0 ∧ r.x.neg = r.neg
 bare : Bare r.x
 len : (dig B32 r.x.m).length ≤ 20
 lo : -18000 ≤ r.x.e
 hi : r.x.e ≤ 18000
def d0p (f : Fm) (n way : Int) (u : Nat) (w : World) (base : Nat) (r : Vr × Nat) (en : Ending) (w' : World) : Prop :=
 ∃ v, VRep f v r.1 ∧ h0s f n way ((r.2 : Nat) : Int) u w base v en w'
theorem a0e {f : Fm} {n way : Int} {u k fl base : Nat} {g : Bool} {x : Dv} {w w' : World} {en : Ending} (hk2 : k ≠ 2) (h : en = .returned (.agg #[.int .i64 (k : Int), .bool g, .slice none 0 0, .int .i64 0])) (hk : Kp [u] w w') (hb : Bt w' u 153 #[.int .i64 n, .int .i64 way, .int .i64 f.g.rad, .int .i64 f.g.digs, .int .i64 f.g.lo, .int .i64 f.g.hi, .bool f.g.grad, .int .u8 (famB f), .int .i64 (fl : Int)]) : d0p f n way u w base (⟨k, g, x⟩, fl) en w' :=
 ⟨⟨k, g, 0, 0⟩, f0k hk2, e0z h hk hb⟩
theorem d0p.mono {f : Fm} {n way : Int} {u base b' : Nat} {w w' : World} {r : Vr × Nat} {en : Ending} (h : d0p f n way u w base r en w') (hb : b' ≤ base) : d0p f n way u w b' r en w' := by
 obtain ⟨v, h1, p, k, h2, h3, h4, h5⟩ := h
 exact ⟨v, h1, p, k, h2, h3.mono hb, h4, h5⟩
theorem p0o (f : Fm) (n way fl : Int) (v : Vl) (r : Vr) (p : Option Addr) (c b0 u : Nat) (w : World) (U : Bt w u 153 #[.int .i64 n, .int .i64 way, .int .i64 f.g.rad, .int .i64 f.g.digs, .int .i64 f.g.lo, .int .i64 f.g.hi, .bool f.g.grad, .int .u8 (famB f), .int .i64 fl]) (hp : Own w b0 .u32 76 p c (dig B32 v.d)) (V : VRep f v r) (R : VrOk r) (hT : TabW w) :
 Calls Tryd.prog 106 #[.pointer (some ⟨u, 0, none⟩), .agg #[.int .i64 (v.cls : Int), .bool v.neg, .slice p (dig B32 v.d).length c, .int .i64 v.pow]] w (e0s w w.heap.size r.x) := by
 have hx : bare ⟨v.neg, v.d, wid f.g * v.pow⟩ = r.x := by
  by_cases h2 : r.cls = 2
  · exact V.num h2
  · rw [R.x0 h2, (V.oth h2).1]; rfl
 have hl := V.len
 have hlo := V.lo
 have hhi := V.hi
 have wp := b0f f.g
 have hmu := s0v (wd := wid f.g) (k := v.pow) (B := 20000) wp.2 ⟨hlo, hhi⟩
 rw [← hx, ← p0l]
 clear hx R V
 obtain ⟨cls, g, d0, pw⟩ := v
 simp only at *
 generalize hmw : (wid f.g : Int) * pw = mw at *
 have HMW := hi0 hmw
 have HW := fun W u hU => hi0 (y0i f n way fl u W hU)
 have HH := fun W (c : Nat) h1 h0 h2 => hi0 (p0i p _ c mw d0 W h1 rfl h0 (by omega) (by omega) h2)
 clear hmw
 generalize hd : bare ⟨false, d0, mw⟩ = d at *
 clear hd
 cases g with
 | false =>
  rw [if_neg (by simp)]
  have I := Inv.startR w [u] [⟨153, (uS f n way fl), true⟩] [ownF b0 .u32 76 p c (dig B32 d0), tabF] ⟨U, True.intro⟩ ⟨hp, hT, True.intro⟩
  refine a0f [.p 0 0, .v (.agg #[.int .i64 (cls : Int), .bool false, .slice p (dig B32 d0).length c, .int .i64 pw])] I Tryd.func106 ?_
  refine zcut I none (fun fr bx gs => ∃ (U1 : Nat → Value) (p13 : Option Addr) (c13 : Nat), fr = (.p 0 0 :: .v (.agg #[.int .i64 (cls : Int), .bool false, .slice p (dig B32 d0).length c, .int .i64 pw]) :: .v undef :: .p 1 0 :: .p 2 0 :: .p 3 0 :: sw U1 6 9 (.v undef :: sw U1 16 3 []) : List SV) ∧ bx = [⟨153, (uS f n way fl), true⟩, ⟨29, [.v (.int .i64 (cls : Int)), .v (.bool false), .v (.slice p (dig B32 d0).length c), .v (.int .i64 pw)], false⟩, ⟨87, [.v (.bool false), .v (.slice none 0 0), .v (.int .i64 0)], false⟩, ⟨87, [.v (.bool d.neg), .v (.slice p13 (dig B32 d.m).length c13), .v (.int .i64 d.e)], false⟩] ∧ gs = [ownF w.heap.size .u32 76 p13 c13 (dig B32 d.m), ownF b0 .u32 76 p c (dig B32 d0), tabF]) ?_ ?_
  · intro J hJ Al W I
    refine zd [] I fun Al W I => ?_
    refine zk [0, 1, 2, 4, 5] I fun I => ?_
    refine zo2 3 8 I (fun I => ?_) (fun I => ?_)
    · refine zq I (fun Al W I => (HW W _ (I.box 0 153 _)).out) fun Al W I => ?_
      refine zki 6 I .i64 (((wid f.g : Nat) : Int) * pw) (mw) ((by rw [HMW.out]; exact iwo)) fun I => ?_
      refine zo2 7 8 I (fun I => ?_) (fun I => ?_)
      · refine zqo I (fun Al W I => (HH W c I.fa.1.rd I.fa.1.le_cap I.fa.2.1).out) fun Al W p13 c13 I => ?_
        refine zo 8 I fun I => ?_
        refine zn I fun Al W I => ?_
        refine zo 9 I fun I => ?_
        refine zn I fun Al W I => ?_
        exact a0n I J fun Al W U I => hJ _ _ _ _ _ ⟨U, p13, c13, rfl, rfl, rfl⟩ (I.pick [0, 1, 2])
      refine zn I fun Al W I => ?_
      refine zo 7 I fun I => ?_
      refine zqo I (fun Al W I => (HH W c I.fa.1.rd I.fa.1.le_cap I.fa.2.1).out) fun Al W p13 c13 I => ?_
      refine zo 9 I fun I => ?_
      refine zn I fun Al W I => ?_
      exact a0n I J fun Al W U I => hJ _ _ _ _ _ ⟨U, p13, c13, rfl, rfl, rfl⟩ (I.pick [0, 1, 2])
    refine zn I fun Al W I => ?_
    refine zo 3 I fun I => ?_
    refine zq I (fun Al W I => (HW W _ (I.box 0 153 _)).out) fun Al W I => ?_
    refine zki 6 I .i64 (((wid f.g : Nat) : Int) * pw) (mw) ((by rw [HMW.out]; exact iwo)) fun I => ?_
    refine zo 7 I fun I => ?_
    refine zqo I (fun Al W I => (HH W c I.fa.1.rd I.fa.1.le_cap I.fa.2.1).out) fun Al W p13 c13 I => ?_
    refine zo 9 I fun I => ?_
    refine zn I fun Al W I => ?_
    exact a0n I J fun Al W U I => hJ _ _ _ _ _ ⟨U, p13, c13, rfl, rfl, rfl⟩ (I.pick [0, 1, 2])
  rintro _ _ _ ⟨U1, p13, c13, rfl, rfl, rfl⟩ Al W I
  exact zret I fun Al W I => ⟨p13, c13, rfl, I.fa.1.mono (by omega), I.below⟩
 | true =>
  rw [if_pos rfl]
  have I := Inv.startR w [u] [⟨153, (uS f n way fl), true⟩] [ownF b0 .u32 76 p c (dig B32 d0), tabF] ⟨U, True.intro⟩ ⟨hp, hT, True.intro⟩
  refine a0f [.p 0 0, .v (.agg #[.int .i64 (cls : Int), .bool true, .slice p (dig B32 d0).length c, .int .i64 pw])] I Tryd.func106 ?_
  refine zcut I none (fun fr bx gs => ∃ (U1 : Nat → Value) (p13 : Option Addr) (c13 : Nat), fr = (.p 0 0 :: .v (.agg #[.int .i64 (cls : Int), .bool true, .slice p (dig B32 d0).length c, .int .i64 pw]) :: .v undef :: .p 1 0 :: .p 2 0 :: .p 3 0 :: sw U1 6 9 (.v undef :: sw U1 16 3 []) : List SV) ∧ bx = [⟨153, (uS f n way fl), true⟩, ⟨29, [.v (.int .i64 (cls : Int)), .v (.bool true), .v (.slice p (dig B32 d0).length c), .v (.int .i64 pw)], false⟩, ⟨87, [.v (.bool false), .v (.slice none 0 0), .v (.int .i64 0)], false⟩, ⟨87, [.v (.bool d.neg), .v (.slice p13 (dig B32 d.m).length c13), .v (.int .i64 d.e)], false⟩] ∧ gs = [ownF w.heap.size .u32 76 p13 c13 (dig B32 d.m), ownF b0 .u32 76 p c (dig B32 d0), tabF]) ?_ ?_
  · intro J hJ Al W I
    refine zd [] I fun Al W I => ?_
    refine zk [0, 1, 2, 4, 5] I fun I => ?_
    refine zo2 3 8 I (fun I => ?_) (fun I => ?_)
    · refine zq I (fun Al W I => (HW W _ (I.box 0 153 _)).out) fun Al W I => ?_
      refine zki 6 I .i64 (((wid f.g : Nat) : Int) * pw) (mw) ((by rw [HMW.out]; exact iwo)) fun I => ?_
      refine zo2 7 8 I (fun I => ?_) (fun I => ?_)
      · refine zqo I (fun Al W I => (HH W c I.fa.1.rd I.fa.1.le_cap I.fa.2.1).out) fun Al W p13 c13 I => ?_
        refine zo 8 I fun I => ?_
        refine zn I fun Al W I => ?_
        refine zo 9 I fun I => ?_
        refine zn I fun Al W I => ?_
        exact a0n I J fun Al W U I => hJ _ _ _ _ _ ⟨U, p13, c13, rfl, rfl, rfl⟩ (I.pick [0, 1, 2])
      refine zn I fun Al W I => ?_
      refine zo 7 I fun I => ?_
      refine zqo I (fun Al W I => (HH W c I.fa.1.rd I.fa.1.le_cap I.fa.2.1).out) fun Al W p13 c13 I => ?_
      refine zo 9 I fun I => ?_
      refine zn I fun Al W I => ?_
      exact a0n I J fun Al W U I => hJ _ _ _ _ _ ⟨U, p13, c13, rfl, rfl, rfl⟩ (I.pick [0, 1, 2])
    refine zn I fun Al W I => ?_
    refine zo 3 I fun I => ?_
    refine zq I (fun Al W I => (HW W _ (I.box 0 153 _)).out) fun Al W I => ?_
    refine zki 6 I .i64 (((wid f.g : Nat) : Int) * pw) (mw) ((by rw [HMW.out]; exact iwo)) fun I => ?_
    refine zo 7 I fun I => ?_
    refine zqo I (fun Al W I => (HH W c I.fa.1.rd I.fa.1.le_cap I.fa.2.1).out) fun Al W p13 c13 I => ?_
    refine zo 9 I fun I => ?_
    refine zn I fun Al W I => ?_
    exact a0n I J fun Al W U I => hJ _ _ _ _ _ ⟨U, p13, c13, rfl, rfl, rfl⟩ (I.pick [0, 1, 2])
  rintro _ _ _ ⟨U1, p13, c13, rfl, rfl, rfl⟩ Al W I
  refine zq I (fun Al W I => x0r d.neg p13 _ c13 d.e d.m W rfl) fun Al W I => ?_
  exact zret I fun Al W I => ⟨p13, c13, rfl, I.fa.1.mono (by omega), I.below⟩
theorem i1e (f : Fm) (n way : Int) (u : Nat) (w : World) (U : Bt w u 153 #[.int .i64 n, .int .i64 way, .int .i64 f.g.rad, .int .i64 f.g.digs, .int .i64 f.g.lo, .int .i64 f.g.hi, .bool f.g.grad, .int .u8 (famB f), .int .i64 0]) (fl : Nat) (b : Int) (hc : bits .or .i64 0 b = (fl : Nat)) :
 Calls Tryd.prog 110 #[.pointer (some ⟨u, 0, none⟩), .int .i64 b] w (d0p f n way u w w.heap.size (f.nothM, fl)) := by
 have HR := fun W u hU => hi0 (c0d f n way 0 b (fl : Nat) u W hU hc)
 have HN := fun W u hU => hi0 (g0h f n way (fl : Nat) u W hU)
 have hk : f.nothM.cls ≠ 2 := by unfold Fm.nothM; simp only; split <;> (try split) <;> omega
 have e : f.nothM = ⟨f.nothM.cls, false, vz⟩ := rfl
 rw [e]
 generalize f.nothM.cls = k at *
 have I := Inv.startW w u 153 (uS f n way 0) [] U True.intro True.intro
 refine a0f [.p 0 0, .v (.int .i64 b)] I Tryd.func110 ?_
 refine zge I 0 153 (fun Al W I => (HR W _ (I.box 0 153 _)).out) fun Al V Iv _ _ kz => ?_
 rintro _ W ⟨rfl, hO, hB⟩
 refine ⟨_, rfl, kz _ (uS f n way (fl : Int)) _ hO hB fun I => ?_⟩
 refine zq I (fun Al W I => (HN W _ (I.box 0 153 _)).out) fun Al W I => ?_
 exact zret I fun Al W I => a0e hk rfl I.bel (I.boxE 153 _)
theorem s0z (f : Fm) (n way : Int) (x : Dv) (p : Option Addr) (c u : Nat) (w : World) (U : Bt w u 153 #[.int .i64 n, .int .i64 way, .int .i64 f.g.rad, .int .i64 f.g.digs, .int .i64 f.g.lo, .int .i64 f.g.hi, .bool f.g.grad, .int .u8 (famB f), .int .i64 0]) (hp : Rd w .u32 p (dig B32 x.m))
 (hl : (dig B32 x.m).length ≤ 100000) (he : -1000000 ≤ x.e ∧ x.e ≤ 1000000) (G : b0b f) (hw : 1 ≤ way ∧ way ≤ 5) :
 Calls Tryd.prog 115 #[.pointer (some ⟨u, 0, none⟩), .agg #[.bool x.neg, .slice p (dig B32 x.m).length c, .int .i64 x.e]] w (d0p f n way u w w.heap.size (f.numM x way)) := by
 have hs : a0z ⟨x.neg, x.m, x.e⟩ = a0z x := rfl
 have HS := fun W => hi0 (b0t x.neg p _ c x.e x.m W rfl)
 rw [hs] at HS
 have h0 := l0h x
 by_cases hx : x.m = 0
 · have hn : f.numM x way = (⟨1, false, vz⟩, 0) := by unfold Fm.numM Fm.zeroM; rw [if_pos hx]; simp
   rw [hn]
   have HZ := fun W u hU => hi0 (p0m f n way 0 false u W hU)
   rw [Bool.false_and] at HZ
   have hd := h0.2 hx
   generalize a0z x = sx at *
   have I := Inv.startW w u 153 (uS f n way 0) [rdF .u32 p (dig B32 x.m)] U ⟨hp, True.intro⟩ ⟨fun hf => hp.far U (by kernel_rfl) hf.1 hf.2, True.intro⟩
   refine a0f [.p 0 0, .v (.agg #[.bool x.neg, .slice p (dig B32 x.m).length c, .int .i64 x.e])] I Tryd.func115 ?_
   refine zq I (fun Al W I => (HS W).out) fun Al W I => ?_
   refine zb I 7 (sx == 0) (true) (beq_iff_eq.2 hd) fun Al W I => ?_
   refine zq I (fun Al W I => (HZ W _ (I.box 0 153 _)).out) fun Al W I => ?_
   exact zret I fun Al W I => a0e (k := 1) (by decide) rfl I.bel (I.boxE 153 _)
 · have hn : f.numM x way = f.placedM (a0p x.neg x.m 1 x.e f.g way) way := by unfold Fm.numM; rw [if_neg hx]
   rw [hn]
   have hd : a0z x ≠ 0 := fun h => hx (h0.1 h)
   have l1 : (dig B32 1).length ≤ 1 := by rw [a0l a0b]; unfold B32; omega
   have HF := fun p q c d u W U h1 h2 => hi0 (i1d f n way x.neg p q c d x.m 1 x.e u W U h1 h2 hl (by omega) (by omega) (by omega) he G hw)
   have HV := (g0q G (neg := x.neg) (num := x.m) (den := 1) (e := x.e) (way := way) (by omega)).2
   have hm : f.placedM (a0p x.neg x.m 1 x.e f.g way) way = ((f.placedM (a0p x.neg x.m 1 x.e f.g way) way).1, (f.placedM (a0p x.neg x.m 1 x.e f.g way) way).2) := rfl
   rw [hm]
   generalize (f.placedM (a0p x.neg x.m 1 x.e f.g way) way).1 = r at *
   generalize (f.placedM (a0p x.neg x.m 1 x.e f.g way) way).2 = fl at *
   generalize f.placedV (a0p x.neg x.m 1 x.e f.g way) way = v at *
   generalize a0z x = sx at *
   have I := Inv.startW w u 153 (uS f n way 0) [rdF .u32 p (dig B32 x.m)] U ⟨hp, True.intro⟩ ⟨fun hf => hp.far U (by kernel_rfl) hf.1 hf.2, True.intro⟩
   refine a0f [.p 0 0, .v (.agg #[.bool x.neg, .slice p (dig B32 x.m).length c, .int .i64 x.e])] I Tryd.func115 ?_
   refine zq I (fun Al W I => (HS W).out) fun Al W I => ?_
   refine zb I 7 (sx == 0) (false) (bFn hd) fun Al W I => ?_
   refine zd [0, 2] I fun Al W I => ?_
   refine zk [0, 1, 2, 3, 4, 5, 6, 8, 9, 10] I fun I => ?_
   refine zo 7 I fun I => ?_
   refine zqo I (fun Al W I => have hzW := I.bel.size; sof 1 1 rfl (by omega) W) fun Al W p17 c17 I => ?_
   refine zk [11] I fun I => ?_
   refine zo 12 I fun I => ?_
   refine zge I 0 153 (fun Al W I => (HF p p17 c c17 _ W (I.box 0 153 _) I.fa.2.1 I.fa.1.rd).out) fun Al V Iv _ _ kz => ?_
   rintro _ W ⟨p22, c22, rfl, o22, hO, hB⟩
   refine ⟨_, rfl, kz _ (uS f n way (fl : Int)) _ hO hB fun I => ?_⟩
   have I := I.own o22
   refine zo 13 I fun I => ?_
   refine zn I fun Al W I => ?_
   exact zret I fun Al W I => ⟨v, HV, p22, c22, rfl, I.fa.1.mono (by omega), I.bel, I.boxE 153 _⟩
structure Vp where
 v : Vl
 p : Option Addr
 c : Nat
def Vp.cells (x : Vp) : List Value := [.int .i64 (x.v.cls : Int), .bool x.v.neg, .slice x.p (dig B32 x.v.d).length x.c, .int .i64 x.v.pow]
theorem Vp.len (x : Vp) : x.cells.length = 4 := rfl
theorem f0v : w0y Tryd.prog 101 29 4 48 := a1g (z := .agg #[.int .i64 0, .bool false, .slice none 0 0, .int .i64 0]) (by kernel_rfl) (by kernel_rfl) (by kernel_rfl) (by kernel_rfl) (by kernel_rfl)
theorem e0k : d0x Tryd.prog 29 4 := c0i (by kernel_rfl) (by kernel_rfl)
theorem y0t (f : Fm) (n way fl : Int) (xs : List Vp) (b m u : Nat) (w : World) (U : Bt w u 153 #[.int .i64 n, .int .i64 way, .int .i64 f.g.rad, .int .i64 f.g.digs, .int .i64 f.g.lo, .int .i64 f.g.hi, .bool f.g.grad, .int .u8 (famB f), .int .i64 fl]) (hB : Bt w b 29 (xs.flatMap Vp.cells).toArray) (hm : m = xs.length) (hl : xs.length ≤ 1000) (hno : ∀ x ∈ xs, x.v.cls < 4) :
 Calls Tryd.prog 108 #[.pointer (some ⟨u, 0, none⟩), .slice (some ⟨b, 0, none⟩) m m] w fun en w' => en = .returned (.tuple #[.agg #[.int .i64 0, .bool false, .slice none 0 0, .int .i64 0], .bool false]) ∧ Below w.heap.size w w' := by
 subst hm
 have HX : ∀ i, i < xs.length → ∃ x : Vp, xs[i]? = some x ∧ x.v.cls < 4 := fun i h => ⟨xs[i], List.getElem?_eq_getElem h, hno _ (List.getElem_mem h)⟩
 have I := Inv.startR w [u] [⟨153, (uS f n way fl), true⟩] [btF b 29 (xs.flatMap Vp.cells).toArray] ⟨U, True.intro⟩ ⟨hB, True.intro⟩
 refine a0f [.p 0 0, .v (.slice (some ⟨b, 0, none⟩) xs.length xs.length)] I Tryd.func108 ?_
 refine w0p I (fun gk fr bx gs => ∃ (U900 : Nat → Value) (i : Nat), fr = (.p 0 0 :: .v (.slice (some ⟨b, 0, none⟩) xs.length xs.length) :: su 2 (.p 1 0 :: .v (U900 5) :: .v undef :: .v (U900 7) :: .v (.slice (some ⟨b, 0, none⟩) xs.length xs.length) :: .v (.int .i64 (xs.length : Int)) :: .v (.int .i64 (i : Int)) :: sw U900 11 16 []) : List SV) ∧ bx = [⟨153, (uS f n way fl), true⟩, ⟨29, [.v (.int .i64 0), .v (.bool false), .v (.slice none 0 0), .v (.int .i64 0)], false⟩] ∧ gs = [btF b 29 (xs.flatMap Vp.cells).toArray] ∧ (gk + i = xs.length)) xs.length (fun Al W U I => ⟨_, ⟨U, 0, rfl, rfl, rfl, (by omega)⟩, I.pick [0]⟩) ?_
 rintro J gk0 _ _ _ ⟨U900, i, rfl, rfl, rfl, hgk⟩ hJ Al W I
 rcases Bool.eq_false_or_eq_true (decide ((i : Int) < (xs.length : Int))) with f11 | f11
 · refine zb I 11 (decide ((i : Int) < (xs.length : Int))) (true) (f11) fun Al W I => ?_
   obtain ⟨x, hx, hx4⟩ := HX i (by have := oTr f11; omega)
   refine zx I 12 (fun _ => .pointer (some (at_ (some ⟨b, 0, none⟩) (i * 4)))) (fun Al W I => (e0g (m := i) (n := xs.length) (c := xs.length) f0v (fun _ => ⟨rfl, rfl⟩) (by have := oTr f11; omega))) fun Al W I => ?_
   refine zx I 13 (fun _ => .agg #[.int .i64 (x.v.cls : Int), .bool x.v.neg, .slice x.p (dig B32 x.v.d).length x.c, .int .i64 x.v.pow]) (fun Al W I => (c1y I.fa.1 e0k x.cells (q0w Vp.len hx) rfl)) fun Al W I => ?_
   refine zqd I (fun Al W I => d0j x.v.cls x.v.neg x.p (dig B32 x.v.d).length x.c x.v.pow W) (show (decide (x.v.cls = 4) || decide (x.v.cls = 5)) = false from (by rw [decide_eq_false (by omega), decide_eq_false (by omega)]; rfl)) fun Al W I => ?_
   refine zi I 25 .i64 ((i : Int) + 1) (((i + 1 : Nat) : Int)) ((by rw [show ((i : Int) + 1) = ((i + 1 : Nat) : Int) by omega]; exact IntWalk.i64_in _ (by have := oTr f11; omega))) fun Al W I => ?_
   exact s0l 2 I J fun Al W U I => hJ (gk0 - 1) _ _ _ _ _ ((by have := oTr f11; omega)) ⟨U, i + 1, rfl, rfl, rfl, (by have := oTr f11; omega)⟩ (I.pick [0])
 refine zb I 11 (decide ((i : Int) < (xs.length : Int))) (false) (f11) fun Al W I => ?_
 exact zrb I
theorem r0i (f : Fm) (n way : Int) (xs : List Vp) (b m u : Nat) (w : World) (U : Bt w u 153 #[.int .i64 n, .int .i64 way, .int .i64 f.g.rad, .int .i64 f.g.digs, .int .i64 f.g.lo, .int .i64 f.g.hi, .bool f.g.grad, .int .u8 (famB f), .int .i64 0]) (hB : Bt w b 29 (xs.flatMap Vp.cells).toArray) (hm : m = xs.length) (hl : xs.length ≤ 1000) (hc : ∀ x ∈ xs, x.v.cls ≤ 5) (G : b0b f) (hyes : ∃ x ∈ xs, 4 ≤ x.v.cls) :
 Calls Tryd.prog 108 #[.pointer (some ⟨u, 0, none⟩), .slice (some ⟨b, 0, none⟩) m m] w fun en w' => en = .returned (.tuple #[.agg #[.int .i64 (f.nothM.cls : Int), .bool false, .slice none 0 0, .int .i64 0], .bool true]) ∧ Kp [u] w w' ∧ Bt w' u 153 #[.int .i64 n, .int .i64 way, .int .i64 f.g.rad, .int .i64 f.g.digs, .int .i64 f.g.lo, .int .i64 f.g.hi, .bool f.g.grad, .int .u8 (famB f), .int .i64 ((f.offM.2 : Nat) : Int)] := by
 subst hm
 have HX : ∀ i, i < xs.length → ∃ x : Vp, xs[i]? = some x ∧ x.v.cls ≤ 5 := fun i h => ⟨xs[i], List.getElem?_eq_getElem h, hc _ (List.getElem_mem h)⟩
 obtain ⟨y, hy, hy4⟩ := hyes
 obtain ⟨j, hj, hjy⟩ := List.getElem_of_mem hy
 have hYJ : xs[j]? = some y := by rw [List.getElem?_eq_getElem hj, hjy]
 clear hjy hy hc
 have HN := fun fl W u hU => hi0 (g0h f n way fl u W hU)
 have HR := fun W u hU => hi0 (c0d f n way 0 16 16 u W hU (by decide +kernel))
 have e2 : f.fam = 3 → ((f.offM.2 : Nat) : Int) = 16 ∧ famB f = 67 := fun h => ⟨by unfold Fm.offM; rw [if_pos h]; rfl, by unfold famB; rw [if_neg (by omega), if_neg (by omega)]⟩
 have e3 : f.fam ≠ 3 → ((f.offM.2 : Nat) : Int) = 0 := fun h => by unfold Fm.offM; rw [if_neg h]; rfl
 have e4 : f.fam ≠ 3 → famB f ≠ 67 := fun h => by have := G.fam; unfold famB; split; decide; rw [if_pos (by omega)]; decide
 generalize ((f.offM.2 : Nat) : Int) = fl at *
 generalize f.nothM.cls = kN at *
 have I := Inv.startW w u 153 (uS f n way 0) [btF b 29 (xs.flatMap Vp.cells).toArray] U ⟨hB, True.intro⟩ ⟨fun hf => hB.far U (by kernel_rfl) hf, True.intro⟩
 refine a0f [.p 0 0, .v (.slice (some ⟨b, 0, none⟩) xs.length xs.length)] I Tryd.func108 ?_
 refine w0p I (fun gk fr bx gs => ∃ (U900 : Nat → Value) (i : Nat), fr = (.p 0 0 :: .v (.slice (some ⟨b, 0, none⟩) xs.length xs.length) :: su 2 (.p 1 0 :: .v (U900 5) :: .v undef :: .v (U900 7) :: .v (.slice (some ⟨b, 0, none⟩) xs.length xs.length) :: .v (.int .i64 (xs.length : Int)) :: .v (.int .i64 (i : Int)) :: sw U900 11 16 []) : List SV) ∧ bx = [⟨153, (uS f n way 0), false⟩, ⟨29, [.v (.int .i64 0), .v (.bool false), .v (.slice none 0 0), .v (.int .i64 0)], false⟩] ∧ gs = [btF b 29 (xs.flatMap Vp.cells).toArray] ∧ (gk + i = xs.length) ∧ (∀ (j : Nat) (x : Vp), j < i → xs[j]? = some x → x.v.cls < 4)) xs.length (fun Al W U I => ⟨_, ⟨U, 0, rfl, rfl, rfl, (by omega), (fun _ _ h => absurd h (by omega))⟩, I.pick [0]⟩) ?_
 rintro J gk0 _ _ _ ⟨U900, i, rfl, rfl, rfl, hgk, hlt⟩ hJ Al W I
 rcases Bool.eq_false_or_eq_true (decide ((i : Int) < (xs.length : Int))) with f11 | f11
 · refine zb I 11 (decide ((i : Int) < (xs.length : Int))) (true) (f11) fun Al W I => ?_
   obtain ⟨x, hx, hx5⟩ := HX i (by have := oTr f11; omega)
   refine zx I 12 (fun _ => .pointer (some (at_ (some ⟨b, 0, none⟩) (i * 4)))) (fun Al W I => (e0g (m := i) (n := xs.length) (c := xs.length) f0v (fun _ => ⟨rfl, rfl⟩) (by have := oTr f11; omega))) fun Al W I => ?_
   refine zx I 13 (fun _ => .agg #[.int .i64 (x.v.cls : Int), .bool x.v.neg, .slice x.p (dig B32 x.v.d).length x.c, .int .i64 x.v.pow]) (fun Al W I => (c1y I.fa.1 e0k x.cells (q0w Vp.len hx) rfl)) fun Al W I => ?_
   by_cases hof : 4 ≤ x.v.cls
   · refine zqd I (fun Al W I => d0j x.v.cls x.v.neg x.p (dig B32 x.v.d).length x.c x.v.pow W) (show (decide (x.v.cls = 4) || decide (x.v.cls = 5)) = true from (by rcases (show x.v.cls = 4 ∨ x.v.cls = 5 by omega) with h | h <;> rw [h] <;> rfl)) fun Al W I => ?_
     by_cases hf3 : f.fam = 3
     · refine zb I 20 ((famB f) == 67) (true) (beq_iff_eq.2 (e2 hf3).2) fun Al W I => ?_
       refine zge I 0 153 (fun Al W I => (HR W _ (I.box 0 153 _)).out) fun Al V Iv _ _ kz => ?_
       rintro _ W ⟨rfl, hO, hB⟩
       refine ⟨_, rfl, kz _ (uS f n way 16) _ hO hB fun I => ?_⟩
       refine zq I (fun Al W I => (HN 16 W _ (I.box 0 153 _)).out) fun Al W I => ?_
       refine zret I (v := fun Al => .tuple #[.agg #[.int .i64 (kN : Int), .bool false, .slice none 0 0, .int .i64 0], .bool true]) fun Al W I => ?_
       first | exact ⟨rfl, I.bel, by rw [(e2 hf3).1]; exact I.boxE 153 _⟩ | exact ⟨rfl, I.bel, by rw [e3 hf3]; exact I.boxE 153 _⟩
     refine zb I 20 ((famB f) == 67) (false) (bFn (e4 hf3)) fun Al W I => ?_
     refine zq I (fun Al W I => (HN 0 W _ (I.box 0 153 _)).out) fun Al W I => ?_
     refine zret I (v := fun Al => .tuple #[.agg #[.int .i64 (kN : Int), .bool false, .slice none 0 0, .int .i64 0], .bool true]) fun Al W I => ?_
     first | exact ⟨rfl, I.bel, by rw [(e2 hf3).1]; exact I.boxE 153 _⟩ | exact ⟨rfl, I.bel, by rw [e3 hf3]; exact I.boxE 153 _⟩
   refine zqd I (fun Al W I => d0j x.v.cls x.v.neg x.p (dig B32 x.v.d).length x.c x.v.pow W) (show (decide (x.v.cls = 4) || decide (x.v.cls = 5)) = false from (by rw [decide_eq_false (by omega), decide_eq_false (by omega)]; rfl)) fun Al W I => ?_
   refine zi I 25 .i64 ((i : Int) + 1) (((i + 1 : Nat) : Int)) ((by rw [show ((i : Int) + 1) = ((i + 1 : Nat) : Int) by omega]; exact IntWalk.i64_in _ (by have := oTr f11; omega))) fun Al W I => ?_
   exact s0l 2 I J fun Al W U I => hJ (gk0 - 1) _ _ _ _ _ ((by have := oTr f11; omega)) ⟨U, i + 1, rfl, rfl, rfl, (by have := oTr f11; omega), (fun j' x' h h' => by rcases (show j' < i ∨ j' = i by omega) with q | rfl; exact hlt j' x' q h'; rw [hx] at h'; cases h'; omega)⟩ (I.pick [0])
 refine zb I 11 (decide ((i : Int) < (xs.length : Int))) (false) (f11) fun Al W I => ?_
 exact zret I (v := fun Al => .tuple #[.agg #[.int .i64 0, .bool false, .slice none 0 0, .int .i64 0], .bool false]) fun Al W I => absurd (hlt j y (by have := oFa f11; omega) hYJ) (by rw [Nat.not_lt]; omega)
theorem y0u (x y : Dv) (p q : Option Addr) (c d base : Nat) (w : World) (hx : Bare x) (hy : Bare y) (sx : SmD x) (sy : SmD y) (hp : Own w base .u32 76 p c (dig B32 x.m)) (hq : Own w base .u32 76 q d (dig B32 y.m)) (hT : TabW w) (hb : base ≤ w.heap.size) :
 Calls Tryd.prog 101 #[.agg #[.bool x.neg, .slice p (dig B32 x.m).length c, .int .i64 x.e], .agg #[.bool y.neg, .slice q (dig B32 y.m).length d, .int .i64 y.e]] w (e0s w base (f0y x y)) := by
 have h1 := sx.len
 have h2 := sy.len
 have h3 := sx.lo
 have h4 := sx.hi
 have h5 := sy.lo
 have h6 := sy.hi
 have := v0v x.neg y.neg p q _ c _ d base x.e y.e x.m y.m w hp hq rfl rfl (by omega) (by omega) (by omega) (by omega) hT hb
 rw [show (⟨x.neg, x.m, x.e⟩ : Dv) = x from rfl, show (⟨y.neg, y.m, y.e⟩ : Dv) = y from rfl, m0w hx hy] at this
 exact this
theorem j1j (f : Fm) (n way : Int) (x y : Dv) (g h : Bool) (p q : Option Addr) (c d base u : Nat) (w : World) (U : Bt w u 153 #[.int .i64 n, .int .i64 way, .int .i64 f.g.rad, .int .i64 f.g.digs, .int .i64 f.g.lo, .int .i64 f.g.hi, .bool f.g.grad, .int .u8 (famB f), .int .i64 0]) (hp : Own w base .u32 76 p c (dig B32 x.m)) (hq : Own w base .u32 76 q d (dig B32 y.m)) (hb : base ≤ w.heap.size)
 (hx : Bare x) (hy : Bare y) (sx : SmD x) (sy : SmD y) (G : b0b f) (hw : 1 ≤ way ∧ way ≤ 5) (hT : TabW w) :
 Calls Tryd.prog 111 #[.pointer (some ⟨u, 0, none⟩), .agg #[.bool x.neg, .slice p (dig B32 x.m).length c, .int .i64 x.e], .agg #[.bool y.neg, .slice q (dig B32 y.m).length d, .int .i64 y.e], .bool g, .bool h] w (d0p f n way u w w.heap.size (f.sumM x y g h way)) := by
 have HP := fun W h1 h2 h3 h4 => hi0 (y0u x y p q c d base W hx hy sx sy h1 h2 h3 h4)
 have hbd := a1x sx.len sy.len sx.lo sx.hi sy.lo sy.hi
 rw [m0w hx hy] at hbd
 have hS1 : (f0y x y).m ≠ 0 → f.sumM x y g h way = f.numM (f0y x y) way := fun k => by unfold Fm.sumM; rw [if_pos k]
 have hS2 : (f0y x y).m = 0 → x.m = 0 ∧ g = h → f.sumM x y g h way = (f.zeroM g, 0) := fun k k' => by unfold Fm.sumM; rw [if_neg (fun h => h k), if_pos k']
 have hS3 : (f0y x y).m = 0 → ¬ (x.m = 0 ∧ g = h) → f.sumM x y g h way = (f.zeroM (decide (way = 5)), 0) := fun k k' => by unfold Fm.sumM; rw [if_neg (fun h => h k), if_neg k']
 generalize f0y x y = s at *
 generalize f.sumM x y g h way = R at *
 have HN := fun W u (p : Option Addr) (c : Nat) hU h1 => hi0 (s0z f n way s p c u W hU h1 (by omega) (by omega) G hw)
 have HS := fun (W : World) (p : Option Addr) (c : Nat) => hi0 (b0t s.neg p _ c s.e s.m W rfl)
 have HX := fun (W : World) => hi0 (b0t x.neg p _ c x.e x.m W rfl)
 have HZ := fun g W u hU => hi0 (p0m f n way 0 g u W hU)
 rw [show (⟨s.neg, s.m, s.e⟩ : Dv) = s from rfl] at HS
 rw [show (⟨x.neg, x.m, x.e⟩ : Dv) = x from rfl] at HX
 have hs0 := l0h s
 have hx0 := l0h x
 generalize a0z s = ss at *
 generalize a0z x = xs at *
 obtain ⟨rN, flN, hN⟩ : ∃ rN flN, f.numM s way = (rN, flN) := ⟨_, _, rfl⟩
 rw [hN] at HN hS1
 clear hN
 have I := Inv.startW w u 153 (uS f n way 0) [ownF base .u32 76 p c (dig B32 x.m), ownF base .u32 76 q d (dig B32 y.m), tabF] U ⟨hp, hq, hT, True.intro⟩ ⟨fun hf => hp.far U (by kernel_rfl) hf.1 hf.2, fun hf => hq.far U (by kernel_rfl) hf.1 hf.2, fun hf => hT.far U (by kernel_rfl) hf, True.intro⟩
 refine a0f [.p 0 0, .v (.agg #[.bool x.neg, .slice p (dig B32 x.m).length c, .int .i64 x.e]), .v (.agg #[.bool y.neg, .slice q (dig B32 y.m).length d, .int .i64 y.e]), .v (.bool g), .v (.bool h)] I Tryd.func111 ?_
 refine zg I (fun Al W I => have hzW := I.bel.size; (HP W I.fa.1 I.fa.2.1 I.fa.2.2.1 (by omega)).out) fun Al V Iv _ hB _ kz => ?_
 rintro _ W ⟨p14, c14, rfl, o14, hb⟩
 refine ⟨_, rfl, kz _ _ hb fun I => ?_⟩
 have I := I.ownB base o14
 by_cases hs : s.m = 0
 · refine zq I (fun Al W I => (HS W p14 c14).out) fun Al W I => ?_
   refine zb I 17 (ss != 0) (false) (bne_eq_false_iff_eq.2 (hs0.2 hs)) fun Al W I => ?_
   by_cases hx1 : x.m = 0
   · by_cases hgh : g = h
     · refine zq I (fun Al W I => (HX W).out) fun Al W I => ?_
       refine zb I 23 (xs == 0) (true) (beq_iff_eq.2 (hx0.2 hx1)) fun Al W I => ?_
       refine zb I 27 (g == h) (true) ((by rw [hgh]; exact beq_self_eq_true h)) fun Al W I => ?_
       refine zq I (fun Al W I => (HZ g W _ (I.box 0 153 _)).out) fun Al W I => ?_
       rw [hS2 hs ⟨hx1, hgh⟩]
       exact zret I fun Al W I => a0e (k := 1) (by decide) rfl I.bel (I.boxE 153 _)
     refine zq I (fun Al W I => (HX W).out) fun Al W I => ?_
     refine zb I 23 (xs == 0) (true) (beq_iff_eq.2 (hx0.2 hx1)) fun Al W I => ?_
     refine zb I 27 (g == h) (false) (bFn hgh) fun Al W I => ?_
     refine zb I 37 (way == 5) ((decide (way = 5))) (rfl) fun Al W I => ?_
     refine zq I (fun Al W I => (HZ (decide (way = 5)) W _ (I.box 0 153 _)).out) fun Al W I => ?_
     rw [hS3 hs (fun k => by first | exact hx1 k.1 | exact hgh k.2)]
     exact zret I fun Al W I => a0e (k := 1) (by decide) rfl I.bel (I.boxE 153 _)
   by_cases hgh : g = h
   · refine zq I (fun Al W I => (HX W).out) fun Al W I => ?_
     refine zb I 23 (xs == 0) (false) (bFn (fun k => hx1 (hx0.1 k))) fun Al W I => ?_
     refine zb I 37 (way == 5) ((decide (way = 5))) (rfl) fun Al W I => ?_
     refine zq I (fun Al W I => (HZ (decide (way = 5)) W _ (I.box 0 153 _)).out) fun Al W I => ?_
     rw [hS3 hs (fun k => by first | exact hx1 k.1 | exact hgh k.2)]
     exact zret I fun Al W I => a0e (k := 1) (by decide) rfl I.bel (I.boxE 153 _)
   refine zq I (fun Al W I => (HX W).out) fun Al W I => ?_
   refine zb I 23 (xs == 0) (false) (bFn (fun k => hx1 (hx0.1 k))) fun Al W I => ?_
   refine zb I 37 (way == 5) ((decide (way = 5))) (rfl) fun Al W I => ?_
   refine zq I (fun Al W I => (HZ (decide (way = 5)) W _ (I.box 0 153 _)).out) fun Al W I => ?_
   rw [hS3 hs (fun k => by first | exact hx1 k.1 | exact hgh k.2)]
   exact zret I fun Al W I => a0e (k := 1) (by decide) rfl I.bel (I.boxE 153 _)
 refine zq I (fun Al W I => (HS W p14 c14).out) fun Al W I => ?_
 refine zb I 17 (ss != 0) (true) (bne_iff_ne.2 (fun k => hs (hs0.1 k))) fun Al W I => ?_
 refine zge I 0 153 (fun Al W I => (HN W _ p14 c14 (I.box 0 153 _) I.fa.1.rd).out) fun Al V Iv _ _ kz => ?_
 rintro _ W ⟨v20, hR20, p20, c20, rfl, o20, hO, hB⟩
 refine ⟨_, rfl, kz _ (uS f n way (flN : Int)) _ hO hB fun I => ?_⟩
 have I := I.own o20
 rw [hS1 hs]
 exact zret I fun Al W I => ⟨v20, hR20, p20, c20, rfl, I.fa.1, I.bel, I.boxE 153 _⟩
structure AtV (f : Fm) (a : Vp) (r : Vr) : Prop where
 rep : VRep f a.v r
 ok : VrOk r
 inf : r.cls = 3 → f.fam = 1
theorem VrOk.sm {r : Vr} (R : VrOk r) : SmD r.x := ⟨by have := R.len; omega, by have := R.lo; omega, by have := R.hi; omega⟩
theorem b1w {r s : Vr} (R : VrOk r) (S : VrOk s) : SmD (g0z r.x s.x) := by
 have h1 := R.len
 have h2 := S.len
 have h3 := R.lo
 have h4 := R.hi
 have h5 := S.lo
 have h6 := S.hi
 have h7 := t0o r.x s.x
 have h8 : (dig B32 (r.x.m * s.x.m)).length ≤ 1200 := Nat.le_trans (e0q a0b _ _) (by omega)
 have h9 := r0w ⟨xor r.x.neg s.x.neg, r.x.m * s.x.m, r.x.e + s.x.e⟩ (n := 1200) h8 (lo := -60000) (hi := 60000) (by simp only; omega) (by simp only; omega) (by omega) (by omega)
 have e : g0z r.x s.x = bare ⟨xor r.x.neg s.x.neg, r.x.m * s.x.m, r.x.e + s.x.e⟩ := rfl
 rw [← e] at h9
 exact ⟨by omega, by omega, by omega⟩
theorem y0v (f : Fm) (n way : Int) (u : Nat) (w : World) (U : Bt w u 153 #[.int .i64 n, .int .i64 way, .int .i64 f.g.rad, .int .i64 f.g.digs, .int .i64 f.g.lo, .int .i64 f.g.hi, .bool f.g.grad, .int .u8 (famB f), .int .i64 0]) :
 Calls Tryd.prog 110 #[.pointer (some ⟨u, 0, none⟩), .int .i64 16] w fun en w' => en = .returned (.agg #[.int .i64 (f.nothM.cls : Int), .bool false, .slice none 0 0, .int .i64 0]) ∧ Kp [u] w w' ∧ Bt w' u 153 #[.int .i64 n, .int .i64 way, .int .i64 f.g.rad, .int .i64 f.g.digs, .int .i64 f.g.lo, .int .i64 f.g.hi, .bool f.g.grad, .int .u8 (famB f), .int .i64 16] := by
 have HR := fun W u hU => hi0 (c0d f n way 0 16 16 u W hU (by decide +kernel))
 have HN := fun W u hU => hi0 (g0h f n way 16 u W hU)
 generalize f.nothM.cls = k at *
 have I := Inv.startW w u 153 (uS f n way 0) [] U True.intro True.intro
 refine a0f [.p 0 0, .v (.int .i64 16)] I Tryd.func110 ?_
 refine zge I 0 153 (fun Al W I => (HR W _ (I.box 0 153 _)).out) fun Al V Iv _ _ kz => ?_
 rintro _ W ⟨rfl, hO, hB⟩
 refine ⟨_, rfl, kz _ (uS f n way 16) _ hO hB fun I => ?_⟩
 refine zq I (fun Al W I => (HN W _ (I.box 0 153 _)).out) fun Al W I => ?_
 exact zret I fun Al W I => ⟨rfl, I.bel, I.boxE 153 _⟩
theorem u0p (x y : Dv) (p q : Option Addr) (c d base : Nat) (w : World) (sx : SmD x) (sy : SmD y) (hp : Own w base .u32 76 p c (dig B32 x.m)) (hq : Own w base .u32 76 q d (dig B32 y.m)) (hT : TabW w) :
 Calls Tryd.prog 116 #[.agg #[.bool x.neg, .slice p (dig B32 x.m).length c, .int .i64 x.e], .agg #[.bool y.neg, .slice q (dig B32 y.m).length d, .int .i64 y.e]] w (e0s w w.heap.size (g0z x y)) := by
 have h1 := sx.len
 have h2 := sy.len
 have h3 := sx.lo
 have h4 := sx.hi
 have h5 := sy.lo
 have h6 := sy.hi
 exact t0q x.neg y.neg p q _ c _ d base x.e y.e x.m y.m w hp hq rfl rfl (by omega) (by omega) (by omega) (by omega) hT
def two (a b : Vp) : List Vp := [a, b]
theorem j1k (f : Fm) (n way : Int) (a b : Vp) (ra rb : Vr) (base u : Nat) (w : World) (U : Bt w u 153 #[.int .i64 n, .int .i64 way, .int .i64 f.g.rad, .int .i64 f.g.digs, .int .i64 f.g.lo, .int .i64 f.g.hi, .bool f.g.grad, .int .u8 (famB f), .int .i64 0]) (oa : Own w base .u32 76 a.p a.c (dig B32 a.v.d)) (ob : Own w base .u32 76 b.p b.c (dig B32 b.v.d)) (hb : base ≤ w.heap.size)
 (A1 : AtV f a ra) (B1 : AtV f b rb) (G : b0b f) (hw : 1 ≤ way ∧ way ≤ 5) (hT : TabW w) :
 Calls Tryd.prog 58 #[.pointer (some ⟨u, 0, none⟩), .agg #[.int .i64 (a.v.cls : Int), .bool a.v.neg, .slice a.p (dig B32 a.v.d).length a.c, .int .i64 a.v.pow], .agg #[.int .i64 (b.v.cls : Int), .bool b.v.neg, .slice b.p (dig B32 b.v.d).length b.c, .int .i64 b.v.pow]] w (d0p f n way u w base (f.addM ra rb way)) := by
 have hM : f.addM ra rb way = if 4 ≤ a.v.cls ∨ 4 ≤ b.v.cls then f.offM else if a.v.cls = 3 ∨ b.v.cls = 3 then (if a.v.cls = b.v.cls ∧ a.v.neg ≠ b.v.neg then f.lostM else if a.v.cls = 3 then (ra, 0) else (rb, 0)) else f.sumM ra.x rb.x a.v.neg b.v.neg way := by
  unfold Fm.addM; rw [A1.rep.cls, B1.rep.cls, A1.rep.neg, B1.rep.neg]
 have hca : a.v.cls ≤ 5 := by rw [A1.rep.cls]; exact A1.ok.c.2
 have hcb : b.v.cls ≤ 5 := by rw [B1.rep.cls]; exact B1.ok.c.2
 have HY := fun W b0 u h1 h2 h3 => hi0 (r0i f n way [a, b] b0 2 u W h1 h2 rfl (by simp) (by simp [hca, hcb]) G h3)
 have HN := fun W b0 u h1 h2 h3 => hi0 (y0t f n way 0 [a, b] b0 2 u W h1 h2 rfl (by simp) h3)
 have HL := fun W u h1 => hi0 (i1e f n way u W h1 16 16 (by decide +kernel))
 have HA := fun W u h1 h2 h3 => hi0 (p0o f n way 0 a.v ra a.p a.c base u W h1 h2 A1.rep A1.ok h3)
 have HB := fun W u h1 h2 h3 => hi0 (p0o f n way 0 b.v rb b.p b.c base u W h1 h2 B1.rep B1.ok h3)
 have HS := fun W p q c d base u h1 h2 h3 h4 h5 => hi0 (j1j f n way ra.x rb.x a.v.neg b.v.neg p q c d base u W h1 h2 h3 h4 A1.ok.bare B1.ok.bare A1.ok.sm B1.ok.sm G hw h5)
 have hoffm : f.offM = (⟨f.nothM.cls, false, vz⟩, f.offM.2) := rfl
 have hk2 := g0i G
 have hlostm : f.lostM = (f.nothM, 16) := rfl
 have VA := A1.rep
 have VB := B1.rep
 obtain ⟨rS, flS, hS⟩ : ∃ rS flS, f.sumM ra.x rb.x a.v.neg b.v.neg way = (rS, flS) := ⟨_, _, rfl⟩
 rw [hS] at HS hM
 generalize f.addM ra rb way = R at *
 generalize f.offM.2 = flo at *
 generalize f.nothM.cls = kN at *
 generalize f.nothM = rN at *
 have I := Inv.startW w u 153 (uS f n way 0) [ownF base .u32 76 a.p a.c (dig B32 a.v.d), ownF base .u32 76 b.p b.c (dig B32 b.v.d), tabF] U ⟨oa, ob, hT, True.intro⟩ ⟨fun hf => oa.far U (by kernel_rfl) hf.1 hf.2, fun hf => ob.far U (by kernel_rfl) hf.1 hf.2, fun hf => hT.far U (by kernel_rfl) hf, True.intro⟩
 refine a0f [.p 0 0, .v (.agg #[.int .i64 (a.v.cls : Int), .bool a.v.neg, .slice a.p (dig B32 a.v.d).length a.c, .int .i64 a.v.pow]), .v (.agg #[.int .i64 (b.v.cls : Int), .bool b.v.neg, .slice b.p (dig B32 b.v.d).length b.c, .int .i64 b.v.pow])] I Tryd.func58 ?_
 by_cases hof : 4 ≤ a.v.cls ∨ 4 ≤ b.v.cls
 · refine zge I 0 153 (fun Al W I => (HY W _ _ (I.box 0 153 _) (I.box 4 29 _) (by simpa using hof)).out) fun Al V Iv _ _ kz => ?_
   rintro _ W ⟨rfl, hO, hB⟩
   refine ⟨_, rfl, kz _ (uS f n way (flo : Int)) _ hO hB fun I => ?_⟩
   rw [hM]
   refine zret I (v := fun Al => .agg #[.int .i64 (kN : Int), .bool false, .slice none 0 0, .int .i64 0]) fun Al W I => ?_
   first | (rw [if_pos hof, hoffm]; exact a0e hk2 rfl I.bel (I.boxE 153 _)) | (rw [if_neg hof, if_pos (.inl h3a), if_neg (fun h => by first | exact h.2 hng | (have := h.1; omega)), if_pos h3a]; exact ⟨a.v, VA, a.p, a.c, rfl, I.fa.1, I.bel, I.boxE 153 _⟩) | (rw [if_neg hof, if_pos (.inr h3b), if_neg (fun h => h3a (by omega)), if_neg h3a]; exact ⟨b.v, VB, b.p, b.c, rfl, I.fa.2.1, I.bel, I.boxE 153 _⟩)
 refine zq I (fun Al W I => have hzW := I.bel.size; (HN W _ _ (I.box 0 153 _) (I.box 4 29 _) (by simp only [List.mem_cons, List.mem_nil_iff, or_false]; rintro x (rfl | rfl) <;> omega)).out) fun Al W I => ?_
 by_cases h3a : a.v.cls = 3
 · by_cases h3b : b.v.cls = 3
   · by_cases hng : a.v.neg = b.v.neg
     · refine zqd I (fun Al W I => a0a a.v.cls a.v.neg a.p (dig B32 a.v.d).length a.c a.v.pow W) (dTr h3a) fun Al W I => ?_
       refine zqd I (fun Al W I => a0a b.v.cls b.v.neg b.p (dig B32 b.v.d).length b.c b.v.pow W) (dTr h3b) fun Al W I => ?_
       refine zb I 31 (a.v.neg != b.v.neg) (false) (bne_eq_false_iff_eq.2 hng) fun Al W I => ?_
       refine zqd I (fun Al W I => a0a a.v.cls a.v.neg a.p (dig B32 a.v.d).length a.c a.v.pow W) (dTr h3a) fun Al W I => ?_
       rw [hM]
       refine zret I (v := fun Al => .agg #[.int .i64 (a.v.cls : Int), .bool a.v.neg, .slice a.p (dig B32 a.v.d).length a.c, .int .i64 a.v.pow]) fun Al W I => ?_
       first | (rw [if_pos hof, hoffm]; exact a0e hk2 rfl I.bel (I.boxE 153 _)) | (rw [if_neg hof, if_pos (.inl h3a), if_neg (fun h => by first | exact h.2 hng | (have := h.1; omega)), if_pos h3a]; exact ⟨a.v, VA, a.p, a.c, rfl, I.fa.1, I.bel, I.boxE 153 _⟩) | (rw [if_neg hof, if_pos (.inr h3b), if_neg (fun h => h3a (by omega)), if_neg h3a]; exact ⟨b.v, VB, b.p, b.c, rfl, I.fa.2.1, I.bel, I.boxE 153 _⟩)
     refine zqd I (fun Al W I => a0a a.v.cls a.v.neg a.p (dig B32 a.v.d).length a.c a.v.pow W) (dTr h3a) fun Al W I => ?_
     refine zqd I (fun Al W I => a0a b.v.cls b.v.neg b.p (dig B32 b.v.d).length b.c b.v.pow W) (dTr h3b) fun Al W I => ?_
     refine zb I 31 (a.v.neg != b.v.neg) (true) (bne_iff_ne.2 hng) fun Al W I => ?_
     refine zge I 0 153 (fun Al W I => (HL W _ (I.box 0 153 _)).out) fun Al V Iv _ _ kz => ?_
     rintro _ W ⟨v34, hR34, p34, c34, rfl, o34, hO, hB⟩
     refine ⟨_, rfl, kz _ (uS f n way 16) _ hO hB fun I => ?_⟩
     have I := I.ownB base o34
     rw [hM, if_neg hof, if_pos (.inl h3a), if_pos ⟨by omega, hng⟩, hlostm]
     exact zret I fun Al W I => ⟨v34, hR34, p34, c34, rfl, I.fa.1, I.bel, I.boxE 153 _⟩
   by_cases hng : a.v.neg = b.v.neg
   · refine zqd I (fun Al W I => a0a a.v.cls a.v.neg a.p (dig B32 a.v.d).length a.c a.v.pow W) (dTr h3a) fun Al W I => ?_
     refine zqd I (fun Al W I => a0a b.v.cls b.v.neg b.p (dig B32 b.v.d).length b.c b.v.pow W) (dFa h3b) fun Al W I => ?_
     refine zqd I (fun Al W I => a0a a.v.cls a.v.neg a.p (dig B32 a.v.d).length a.c a.v.pow W) (dTr h3a) fun Al W I => ?_
     rw [hM]
     refine zret I (v := fun Al => .agg #[.int .i64 (a.v.cls : Int), .bool a.v.neg, .slice a.p (dig B32 a.v.d).length a.c, .int .i64 a.v.pow]) fun Al W I => ?_
     first | (rw [if_pos hof, hoffm]; exact a0e hk2 rfl I.bel (I.boxE 153 _)) | (rw [if_neg hof, if_pos (.inl h3a), if_neg (fun h => by first | exact h.2 hng | (have := h.1; omega)), if_pos h3a]; exact ⟨a.v, VA, a.p, a.c, rfl, I.fa.1, I.bel, I.boxE 153 _⟩) | (rw [if_neg hof, if_pos (.inr h3b), if_neg (fun h => h3a (by omega)), if_neg h3a]; exact ⟨b.v, VB, b.p, b.c, rfl, I.fa.2.1, I.bel, I.boxE 153 _⟩)
   refine zqd I (fun Al W I => a0a a.v.cls a.v.neg a.p (dig B32 a.v.d).length a.c a.v.pow W) (dTr h3a) fun Al W I => ?_
   refine zqd I (fun Al W I => a0a b.v.cls b.v.neg b.p (dig B32 b.v.d).length b.c b.v.pow W) (dFa h3b) fun Al W I => ?_
   refine zqd I (fun Al W I => a0a a.v.cls a.v.neg a.p (dig B32 a.v.d).length a.c a.v.pow W) (dTr h3a) fun Al W I => ?_
   rw [hM]
   refine zret I (v := fun Al => .agg #[.int .i64 (a.v.cls : Int), .bool a.v.neg, .slice a.p (dig B32 a.v.d).length a.c, .int .i64 a.v.pow]) fun Al W I => ?_
   first | (rw [if_pos hof, hoffm]; exact a0e hk2 rfl I.bel (I.boxE 153 _)) | (rw [if_neg hof, if_pos (.inl h3a), if_neg (fun h => by first | exact h.2 hng | (have := h.1; omega)), if_pos h3a]; exact ⟨a.v, VA, a.p, a.c, rfl, I.fa.1, I.bel, I.boxE 153 _⟩) | (rw [if_neg hof, if_pos (.inr h3b), if_neg (fun h => h3a (by omega)), if_neg h3a]; exact ⟨b.v, VB, b.p, b.c, rfl, I.fa.2.1, I.bel, I.boxE 153 _⟩)
 by_cases h3b : b.v.cls = 3
 · by_cases hng : a.v.neg = b.v.neg
   · refine zqd I (fun Al W I => a0a a.v.cls a.v.neg a.p (dig B32 a.v.d).length a.c a.v.pow W) (dFa h3a) fun Al W I => ?_
     refine zqd I (fun Al W I => a0a a.v.cls a.v.neg a.p (dig B32 a.v.d).length a.c a.v.pow W) (dFa h3a) fun Al W I => ?_
     refine zqd I (fun Al W I => a0a b.v.cls b.v.neg b.p (dig B32 b.v.d).length b.c b.v.pow W) (dTr h3b) fun Al W I => ?_
     rw [hM]
     refine zret I (v := fun Al => .agg #[.int .i64 (b.v.cls : Int), .bool b.v.neg, .slice b.p (dig B32 b.v.d).length b.c, .int .i64 b.v.pow]) fun Al W I => ?_
     first | (rw [if_pos hof, hoffm]; exact a0e hk2 rfl I.bel (I.boxE 153 _)) | (rw [if_neg hof, if_pos (.inl h3a), if_neg (fun h => by first | exact h.2 hng | (have := h.1; omega)), if_pos h3a]; exact ⟨a.v, VA, a.p, a.c, rfl, I.fa.1, I.bel, I.boxE 153 _⟩) | (rw [if_neg hof, if_pos (.inr h3b), if_neg (fun h => h3a (by omega)), if_neg h3a]; exact ⟨b.v, VB, b.p, b.c, rfl, I.fa.2.1, I.bel, I.boxE 153 _⟩)
   refine zqd I (fun Al W I => a0a a.v.cls a.v.neg a.p (dig B32 a.v.d).length a.c a.v.pow W) (dFa h3a) fun Al W I => ?_
   refine zqd I (fun Al W I => a0a a.v.cls a.v.neg a.p (dig B32 a.v.d).length a.c a.v.pow W) (dFa h3a) fun Al W I => ?_
   refine zqd I (fun Al W I => a0a b.v.cls b.v.neg b.p (dig B32 b.v.d).length b.c b.v.pow W) (dTr h3b) fun Al W I => ?_
   rw [hM]
   refine zret I (v := fun Al => .agg #[.int .i64 (b.v.cls : Int), .bool b.v.neg, .slice b.p (dig B32 b.v.d).length b.c, .int .i64 b.v.pow]) fun Al W I => ?_
   first | (rw [if_pos hof, hoffm]; exact a0e hk2 rfl I.bel (I.boxE 153 _)) | (rw [if_neg hof, if_pos (.inl h3a), if_neg (fun h => by first | exact h.2 hng | (have := h.1; omega)), if_pos h3a]; exact ⟨a.v, VA, a.p, a.c, rfl, I.fa.1, I.bel, I.boxE 153 _⟩) | (rw [if_neg hof, if_pos (.inr h3b), if_neg (fun h => h3a (by omega)), if_neg h3a]; exact ⟨b.v, VB, b.p, b.c, rfl, I.fa.2.1, I.bel, I.boxE 153 _⟩)
 by_cases hng : a.v.neg = b.v.neg
 · refine zqd I (fun Al W I => a0a a.v.cls a.v.neg a.p (dig B32 a.v.d).length a.c a.v.pow W) (dFa h3a) fun Al W I => ?_
   refine zqd I (fun Al W I => a0a a.v.cls a.v.neg a.p (dig B32 a.v.d).length a.c a.v.pow W) (dFa h3a) fun Al W I => ?_
   refine zqd I (fun Al W I => a0a b.v.cls b.v.neg b.p (dig B32 b.v.d).length b.c b.v.pow W) (dFa h3b) fun Al W I => ?_
   refine zd [0, 3] I fun Al W I => ?_
   refine zk [0, 1, 2, 4, 5, 7, 8, 9, 10] I fun I => ?_
   refine zo 3 I fun I => ?_
   refine zg I (fun Al W I => (HA W _ (I.box 0 153 _) I.fa.1 I.fa.2.2.1).out) fun Al V Iv _ hB _ kz => ?_
   rintro _ W ⟨p46, c46, rfl, o46, hb⟩
   refine ⟨_, rfl, kz _ _ hb fun I => ?_⟩
   have I := I.ownB base o46
   refine zo 6 I fun I => ?_
   refine zg I (fun Al W I => (HB W _ (I.box 0 153 _) I.fa.2.2.1 I.fa.2.2.2.1).out) fun Al V Iv _ hB _ kz => ?_
   rintro _ W ⟨p49, c49, rfl, o49, hb⟩
   refine ⟨_, rfl, kz _ _ hb fun I => ?_⟩
   have I := I.ownB base o49
   refine zo 11 I fun I => ?_
   refine zge I 0 153 (fun Al W I => have hzW := I.bel.size; (HS W p46 p49 c46 c49 _ _ (I.box 0 153 _) I.fa.2.1 I.fa.1 (by omega) I.fa.2.2.2.2.1).out) fun Al V Iv _ _ kz => ?_
   rintro _ W ⟨v54, hR54, p54, c54, rfl, o54, hO, hB⟩
   refine ⟨_, rfl, kz _ (uS f n way (flS : Int)) _ hO hB fun I => ?_⟩
   have I := I.ownB base o54
   refine zo 12 I fun I => ?_
   refine zn I fun Al W I => ?_
   rw [hM, if_neg hof, if_neg (by rintro (h | h); exact h3a h; exact h3b h)]
   exact zret I fun Al W I => ⟨v54, hR54, p54, c54, rfl, I.fa.1, I.bel, I.boxE 153 _⟩
 refine zqd I (fun Al W I => a0a a.v.cls a.v.neg a.p (dig B32 a.v.d).length a.c a.v.pow W) (dFa h3a) fun Al W I => ?_
 refine zqd I (fun Al W I => a0a a.v.cls a.v.neg a.p (dig B32 a.v.d).length a.c a.v.pow W) (dFa h3a) fun Al W I => ?_
 refine zqd I (fun Al W I => a0a b.v.cls b.v.neg b.p (dig B32 b.v.d).length b.c b.v.pow W) (dFa h3b) fun Al W I => ?_
 refine zd [0, 3] I fun Al W I => ?_
 refine zk [0, 1, 2, 4, 5, 7, 8, 9, 10] I fun I => ?_
 refine zo 3 I fun I => ?_
 refine zg I (fun Al W I => (HA W _ (I.box 0 153 _) I.fa.1 I.fa.2.2.1).out) fun Al V Iv _ hB _ kz => ?_
 rintro _ W ⟨p46, c46, rfl, o46, hb⟩
 refine ⟨_, rfl, kz _ _ hb fun I => ?_⟩
 have I := I.ownB base o46
 refine zo 6 I fun I => ?_
 refine zg I (fun Al W I => (HB W _ (I.box 0 153 _) I.fa.2.2.1 I.fa.2.2.2.1).out) fun Al V Iv _ hB _ kz => ?_
 rintro _ W ⟨p49, c49, rfl, o49, hb⟩
 refine ⟨_, rfl, kz _ _ hb fun I => ?_⟩
 have I := I.ownB base o49
 refine zo 11 I fun I => ?_
 refine zge I 0 153 (fun Al W I => have hzW := I.bel.size; (HS W p46 p49 c46 c49 _ _ (I.box 0 153 _) I.fa.2.1 I.fa.1 (by omega) I.fa.2.2.2.2.1).out) fun Al V Iv _ _ kz => ?_
 rintro _ W ⟨v54, hR54, p54, c54, rfl, o54, hO, hB⟩
 refine ⟨_, rfl, kz _ (uS f n way (flS : Int)) _ hO hB fun I => ?_⟩
 have I := I.ownB base o54
 refine zo 12 I fun I => ?_
 refine zn I fun Al W I => ?_
 rw [hM, if_neg hof, if_neg (by rintro (h | h); exact h3a h; exact h3b h)]
 exact zret I fun Al W I => ⟨v54, hR54, p54, c54, rfl, I.fa.1, I.bel, I.boxE 153 _⟩
theorem f1w (f : Fm) (n way fl : Int) (a b : Vp) (u : Nat) (w : World) (U : Bt w u 153 #[.int .i64 n, .int .i64 way, .int .i64 f.g.rad, .int .i64 f.g.digs, .int .i64 f.g.lo, .int .i64 f.g.hi, .bool f.g.grad, .int .u8 (famB f), .int .i64 fl]) (h3a : a.v.cls ≠ 3) (h3b : b.v.cls ≠ 3) :
 Calls Tryd.prog 112 #[.pointer (some ⟨u, 0, none⟩), .agg #[.int .i64 (a.v.cls : Int), .bool a.v.neg, .slice a.p (dig B32 a.v.d).length a.c, .int .i64 a.v.pow], .agg #[.int .i64 (b.v.cls : Int), .bool b.v.neg, .slice b.p (dig B32 b.v.d).length b.c, .int .i64 b.v.pow]] w fun en w' => en = .returned (.tuple #[.agg #[.int .i64 0, .bool false, .slice none 0 0, .int .i64 0], .bool false]) ∧ Below w.heap.size w w' := by
 have I := Inv.startR w [u] [⟨153, (uS f n way fl), true⟩] [] ⟨U, True.intro⟩ True.intro
 refine a0f [.p 0 0, .v (.agg #[.int .i64 (a.v.cls : Int), .bool a.v.neg, .slice a.p (dig B32 a.v.d).length a.c, .int .i64 a.v.pow]), .v (.agg #[.int .i64 (b.v.cls : Int), .bool b.v.neg, .slice b.p (dig B32 b.v.d).length b.c, .int .i64 b.v.pow])] I Tryd.func112 ?_
 refine zqd I (fun Al W I => a0a a.v.cls a.v.neg a.p (dig B32 a.v.d).length a.c a.v.pow W) (dFa h3a) fun Al W I => ?_
 refine zqd I (fun Al W I => a0a b.v.cls b.v.neg b.p (dig B32 b.v.d).length b.c b.v.pow W) (dFa h3b) fun Al W I => ?_
 exact zrb I
theorem b1x (f : Fm) (n way fl : Int) (a b : Vp) (u : Nat) (w : World) (U : Bt w u 153 #[.int .i64 n, .int .i64 way, .int .i64 f.g.rad, .int .i64 f.g.digs, .int .i64 f.g.lo, .int .i64 f.g.hi, .bool f.g.grad, .int .u8 (famB f), .int .i64 fl]) (h3 : a.v.cls = 3 ∨ b.v.cls = 3) (h1 : ¬ (a.v.cls = 1 ∨ b.v.cls = 1)) :
 Calls Tryd.prog 112 #[.pointer (some ⟨u, 0, none⟩), .agg #[.int .i64 (a.v.cls : Int), .bool a.v.neg, .slice a.p (dig B32 a.v.d).length a.c, .int .i64 a.v.pow], .agg #[.int .i64 (b.v.cls : Int), .bool b.v.neg, .slice b.p (dig B32 b.v.d).length b.c, .int .i64 b.v.pow]] w fun en w' => en = .returned (.tuple #[.agg #[.int .i64 3, .bool (a.v.neg != b.v.neg), .slice none 0 0, .int .i64 0], .bool true]) ∧ Below w.heap.size w w' := by
 have I := Inv.startR w [u] [⟨153, (uS f n way fl), true⟩] [] ⟨U, True.intro⟩ True.intro
 refine a0f [.p 0 0, .v (.agg #[.int .i64 (a.v.cls : Int), .bool a.v.neg, .slice a.p (dig B32 a.v.d).length a.c, .int .i64 a.v.pow]), .v (.agg #[.int .i64 (b.v.cls : Int), .bool b.v.neg, .slice b.p (dig B32 b.v.d).length b.c, .int .i64 b.v.pow])] I Tryd.func112 ?_
 by_cases ha : a.v.cls = 3
 · refine zqd I (fun Al W I => a0a a.v.cls a.v.neg a.p (dig B32 a.v.d).length a.c a.v.pow W) (dTr ha) fun Al W I => ?_
   refine zqd I (fun Al W I => a0i a.v.cls a.v.neg a.p (dig B32 a.v.d).length a.c a.v.pow W) (dFa (by omega)) fun Al W I => ?_
   refine zqd I (fun Al W I => a0i b.v.cls b.v.neg b.p (dig B32 b.v.d).length b.c b.v.pow W) (dFa (by omega)) fun Al W I => ?_
   refine zb I 31 (a.v.neg != b.v.neg) ((a.v.neg != b.v.neg)) (rfl) fun Al W I => ?_
   refine zq I (fun Al W I => e0f (a.v.neg != b.v.neg) W) fun Al W I => ?_
   exact zrb I
 refine zqd I (fun Al W I => a0a a.v.cls a.v.neg a.p (dig B32 a.v.d).length a.c a.v.pow W) (dFa ha) fun Al W I => ?_
 refine zqd I (fun Al W I => a0a b.v.cls b.v.neg b.p (dig B32 b.v.d).length b.c b.v.pow W) (dTr (by omega)) fun Al W I => ?_
 refine zqd I (fun Al W I => a0i a.v.cls a.v.neg a.p (dig B32 a.v.d).length a.c a.v.pow W) (dFa (by omega)) fun Al W I => ?_
 refine zqd I (fun Al W I => a0i b.v.cls b.v.neg b.p (dig B32 b.v.d).length b.c b.v.pow W) (dFa (by omega)) fun Al W I => ?_
 refine zb I 31 (a.v.neg != b.v.neg) ((a.v.neg != b.v.neg)) (rfl) fun Al W I => ?_
 refine zq I (fun Al W I => e0f (a.v.neg != b.v.neg) W) fun Al W I => ?_
 exact zrb I
theorem y0w (f : Fm) (n way : Int) (a b : Vp) (u : Nat) (w : World) (U : Bt w u 153 #[.int .i64 n, .int .i64 way, .int .i64 f.g.rad, .int .i64 f.g.digs, .int .i64 f.g.lo, .int .i64 f.g.hi, .bool f.g.grad, .int .u8 (famB f), .int .i64 0]) (h3 : a.v.cls = 3 ∨ b.v.cls = 3) (h1 : a.v.cls = 1 ∨ b.v.cls = 1) :
 Calls Tryd.prog 112 #[.pointer (some ⟨u, 0, none⟩), .agg #[.int .i64 (a.v.cls : Int), .bool a.v.neg, .slice a.p (dig B32 a.v.d).length a.c, .int .i64 a.v.pow], .agg #[.int .i64 (b.v.cls : Int), .bool b.v.neg, .slice b.p (dig B32 b.v.d).length b.c, .int .i64 b.v.pow]] w fun en w' => en = .returned (.tuple #[.agg #[.int .i64 (f.nothM.cls : Int), .bool false, .slice none 0 0, .int .i64 0], .bool true]) ∧ Kp [u] w w' ∧ Bt w' u 153 #[.int .i64 n, .int .i64 way, .int .i64 f.g.rad, .int .i64 f.g.digs, .int .i64 f.g.lo, .int .i64 f.g.hi, .bool f.g.grad, .int .u8 (famB f), .int .i64 16] := by
 have HL := fun W u h1 => hi0 (y0v f n way u W h1)
 generalize f.nothM.cls = kN at *
 have I := Inv.startW w u 153 (uS f n way 0) [] U True.intro True.intro
 refine a0f [.p 0 0, .v (.agg #[.int .i64 (a.v.cls : Int), .bool a.v.neg, .slice a.p (dig B32 a.v.d).length a.c, .int .i64 a.v.pow]), .v (.agg #[.int .i64 (b.v.cls : Int), .bool b.v.neg, .slice b.p (dig B32 b.v.d).length b.c, .int .i64 b.v.pow])] I Tryd.func112 ?_
 by_cases ha : a.v.cls = 3
 · refine zqd I (fun Al W I => a0a a.v.cls a.v.neg a.p (dig B32 a.v.d).length a.c a.v.pow W) (dTr ha) fun Al W I => ?_
   refine zqd I (fun Al W I => a0i a.v.cls a.v.neg a.p (dig B32 a.v.d).length a.c a.v.pow W) (dFa (by omega)) fun Al W I => ?_
   refine zqd I (fun Al W I => a0i b.v.cls b.v.neg b.p (dig B32 b.v.d).length b.c b.v.pow W) (dTr (by omega)) fun Al W I => ?_
   refine zge I 0 153 (fun Al W I => (HL W _ (I.box 0 153 _)).out) fun Al V Iv _ _ kz => ?_
   rintro _ W ⟨rfl, hO, hB⟩
   refine ⟨_, rfl, kz _ (uS f n way 16) _ hO hB fun I => ?_⟩
   exact zret I fun Al W I => ⟨rfl, I.bel, I.boxE 153 _⟩
 refine zqd I (fun Al W I => a0a a.v.cls a.v.neg a.p (dig B32 a.v.d).length a.c a.v.pow W) (dFa ha) fun Al W I => ?_
 refine zqd I (fun Al W I => a0a b.v.cls b.v.neg b.p (dig B32 b.v.d).length b.c b.v.pow W) (dTr (by omega)) fun Al W I => ?_
 refine zqd I (fun Al W I => a0i a.v.cls a.v.neg a.p (dig B32 a.v.d).length a.c a.v.pow W) (dTr (by omega)) fun Al W I => ?_
 refine zge I 0 153 (fun Al W I => (HL W _ (I.box 0 153 _)).out) fun Al V Iv _ _ kz => ?_
 rintro _ W ⟨rfl, hO, hB⟩
 refine ⟨_, rfl, kz _ (uS f n way 16) _ hO hB fun I => ?_⟩
 exact zret I fun Al W I => ⟨rfl, I.bel, I.boxE 153 _⟩
def _root_.Go.Slip.Fm.mulM (f : Fm) (a b : Vr) (way : Int) : Vr × Nat :=
 if 4 ≤ a.cls ∨ 4 ≤ b.cls then f.offM
 else if a.cls = 3 ∨ b.cls = 3 then (if a.cls = 1 ∨ b.cls = 1 then f.lostM else (infM (a.neg != b.neg), 0))
 else if a.cls = 1 ∨ b.cls = 1 then (f.zeroM (a.neg != b.neg), 0)
 else f.numM (g0z a.x b.x) way
theorem j1l (f : Fm) (n way : Int) (a b : Vp) (ra rb : Vr) (base u : Nat) (w : World) (U : Bt w u 153 #[.int .i64 n, .int .i64 way, .int .i64 f.g.rad, .int .i64 f.g.digs, .int .i64 f.g.lo, .int .i64 f.g.hi, .bool f.g.grad, .int .u8 (famB f), .int .i64 0]) (oa : Own w base .u32 76 a.p a.c (dig B32 a.v.d)) (ob : Own w base .u32 76 b.p b.c (dig B32 b.v.d)) (hb : base ≤ w.heap.size)
 (A1 : AtV f a ra) (B1 : AtV f b rb) (G : b0b f) (hw : 1 ≤ way ∧ way ≤ 5) (hT : TabW w) :
 Calls Tryd.prog 60 #[.pointer (some ⟨u, 0, none⟩), .agg #[.int .i64 (a.v.cls : Int), .bool a.v.neg, .slice a.p (dig B32 a.v.d).length a.c, .int .i64 a.v.pow], .agg #[.int .i64 (b.v.cls : Int), .bool b.v.neg, .slice b.p (dig B32 b.v.d).length b.c, .int .i64 b.v.pow]] w (d0p f n way u w base (f.mulM ra rb way)) := by
 have hM : f.mulM ra rb way = if 4 ≤ a.v.cls ∨ 4 ≤ b.v.cls then f.offM else if a.v.cls = 3 ∨ b.v.cls = 3 then (if a.v.cls = 1 ∨ b.v.cls = 1 then f.lostM else (infM (a.v.neg != b.v.neg), 0)) else if a.v.cls = 1 ∨ b.v.cls = 1 then (f.zeroM (a.v.neg != b.v.neg), 0) else f.numM (g0z ra.x rb.x) way := by
  unfold Fm.mulM; rw [A1.rep.cls, B1.rep.cls, A1.rep.neg, B1.rep.neg]
 have hca : a.v.cls ≤ 5 := by rw [A1.rep.cls]; exact A1.ok.c.2
 have hcb : b.v.cls ≤ 5 := by rw [B1.rep.cls]; exact B1.ok.c.2
 have HY := fun W b0 u h1 h2 h3 => hi0 (r0i f n way [a, b] b0 2 u W h1 h2 rfl (by simp) (by simp [hca, hcb]) G h3)
 have HN := fun W b0 u h1 h2 h3 => hi0 (y0t f n way 0 [a, b] b0 2 u W h1 h2 rfl (by simp) h3)
 have HPN := fun W u h1 h2 h3 => hi0 (f1w f n way 0 a b u W h1 h2 h3)
 have HPI := fun W u h1 h2 h3 => hi0 (b1x f n way 0 a b u W h1 h2 h3)
 have HPL := fun W u h1 h2 h3 => hi0 (y0w f n way a b u W h1 h2 h3)
 have HZ := fun W u h1 => hi0 (p0m f n way 0 (a.v.neg != b.v.neg) u W h1)
 have HA := fun W u h1 h2 h3 => hi0 (p0o f n way 0 a.v ra a.p a.c base u W h1 h2 A1.rep A1.ok h3)
 have HB := fun W u h1 h2 h3 => hi0 (p0o f n way 0 b.v rb b.p b.c base u W h1 h2 B1.rep B1.ok h3)
 have sa := A1.ok.sm
 have sb := B1.ok.sm
 have st := b1w A1.ok B1.ok
 have HT := fun W p q c d base h1 h2 h3 => hi0 (u0p ra.x rb.x p q c d base W sa sb h1 h2 h3)
 generalize g0z ra.x rb.x = t at *
 have hl3 := st.len
 have hl4 := st.lo
 have hl5 := st.hi
 have HNU := fun W p c u h1 h2 => hi0 (s0z f n way t p c u W h1 h2 (by omega) (by omega) G hw)
 have hoffm : f.offM = (⟨f.nothM.cls, false, vz⟩, f.offM.2) := rfl
 have hk2 := g0i G
 have hlostm : f.lostM = (⟨f.nothM.cls, false, vz⟩, 16) := rfl
 obtain ⟨rS, flS, hS⟩ : ∃ rS flS, f.numM t way = (rS, flS) := ⟨_, _, rfl⟩
 rw [hS] at HNU hM
 generalize f.mulM ra rb way = R at *
 generalize f.offM.2 = flo at *
 generalize f.nothM.cls = kN at *
 clear hS st
 have I := Inv.startW w u 153 (uS f n way 0) [ownF base .u32 76 a.p a.c (dig B32 a.v.d), ownF base .u32 76 b.p b.c (dig B32 b.v.d), tabF] U ⟨oa, ob, hT, True.intro⟩ ⟨fun hf => oa.far U (by kernel_rfl) hf.1 hf.2, fun hf => ob.far U (by kernel_rfl) hf.1 hf.2, fun hf => hT.far U (by kernel_rfl) hf, True.intro⟩
 refine a0f [.p 0 0, .v (.agg #[.int .i64 (a.v.cls : Int), .bool a.v.neg, .slice a.p (dig B32 a.v.d).length a.c, .int .i64 a.v.pow]), .v (.agg #[.int .i64 (b.v.cls : Int), .bool b.v.neg, .slice b.p (dig B32 b.v.d).length b.c, .int .i64 b.v.pow])] I Tryd.func60 ?_
 by_cases hof : 4 ≤ a.v.cls ∨ 4 ≤ b.v.cls
 · refine zge I 0 153 (fun Al W I => (HY W _ _ (I.box 0 153 _) (I.box 4 29 _) (by simpa using hof)).out) fun Al V Iv _ _ kz => ?_
   rintro _ W ⟨rfl, hO, hB⟩
   refine ⟨_, rfl, kz _ (uS f n way (flo : Int)) _ hO hB fun I => ?_⟩
   rw [hM]
   refine zret I (v := fun Al => .agg #[.int .i64 (kN : Int), .bool false, .slice none 0 0, .int .i64 0]) fun Al W I => ?_
   first | (rw [if_pos hof, hoffm]; exact a0e hk2 rfl I.bel (I.boxE 153 _)) | (rw [if_neg hof, if_pos h3, if_pos h1, hlostm]; exact a0e hk2 rfl I.bel (I.boxE 153 _)) | (rw [if_neg hof, if_pos h3, if_neg h1]; exact a0e (k := 3) (by decide) rfl I.bel (I.boxE 153 _))
 refine zq I (fun Al W I => have hzW := I.bel.size; (HN W _ _ (I.box 0 153 _) (I.box 4 29 _) (by simp only [List.mem_cons, List.mem_nil_iff, or_false]; rintro x (rfl | rfl) <;> omega)).out) fun Al W I => ?_
 by_cases h3 : a.v.cls = 3 ∨ b.v.cls = 3
 · by_cases h1 : a.v.cls = 1 ∨ b.v.cls = 1
   · refine zge I 0 153 (fun Al W I => (HPL W _ (I.box 0 153 _) h3 h1).out) fun Al V Iv _ _ kz => ?_
     rintro _ W ⟨rfl, hO, hB⟩
     refine ⟨_, rfl, kz _ (uS f n way 16) _ hO hB fun I => ?_⟩
     rw [hM]
     refine zret I (v := fun Al => .agg #[.int .i64 (kN : Int), .bool false, .slice none 0 0, .int .i64 0]) fun Al W I => ?_
     first | (rw [if_pos hof, hoffm]; exact a0e hk2 rfl I.bel (I.boxE 153 _)) | (rw [if_neg hof, if_pos h3, if_pos h1, hlostm]; exact a0e hk2 rfl I.bel (I.boxE 153 _)) | (rw [if_neg hof, if_pos h3, if_neg h1]; exact a0e (k := 3) (by decide) rfl I.bel (I.boxE 153 _))
   refine zq I (fun Al W I => (HPI W _ (I.box 0 153 _) h3 h1).out) fun Al W I => ?_
   rw [hM]
   refine zret I (v := fun Al => .agg #[.int .i64 3, .bool (a.v.neg != b.v.neg), .slice none 0 0, .int .i64 0]) fun Al W I => ?_
   first | (rw [if_pos hof, hoffm]; exact a0e hk2 rfl I.bel (I.boxE 153 _)) | (rw [if_neg hof, if_pos h3, if_pos h1, hlostm]; exact a0e hk2 rfl I.bel (I.boxE 153 _)) | (rw [if_neg hof, if_pos h3, if_neg h1]; exact a0e (k := 3) (by decide) rfl I.bel (I.boxE 153 _))
 refine zq I (fun Al W I => have hzW := I.bel.size; (HPN W _ (I.box 0 153 _) (by omega) (by omega)).out) fun Al W I => ?_
 by_cases hza : a.v.cls = 1
 · by_cases hzb : b.v.cls = 1
   · refine zqd I (fun Al W I => a0i a.v.cls a.v.neg a.p (dig B32 a.v.d).length a.c a.v.pow W) (dTr hza) fun Al W I => ?_
     refine zb I 41 (a.v.neg != b.v.neg) ((a.v.neg != b.v.neg)) (rfl) fun Al W I => ?_
     refine zq I (fun Al W I => (HZ W _ (I.box 0 153 _)).out) fun Al W I => ?_
     rw [hM, if_neg hof, if_neg h3, if_pos (by omega)]
     exact zret I fun Al W I => a0e (k := 1) (by decide) rfl I.bel (I.boxE 153 _)
   refine zqd I (fun Al W I => a0i a.v.cls a.v.neg a.p (dig B32 a.v.d).length a.c a.v.pow W) (dTr hza) fun Al W I => ?_
   refine zb I 41 (a.v.neg != b.v.neg) ((a.v.neg != b.v.neg)) (rfl) fun Al W I => ?_
   refine zq I (fun Al W I => (HZ W _ (I.box 0 153 _)).out) fun Al W I => ?_
   rw [hM, if_neg hof, if_neg h3, if_pos (by omega)]
   exact zret I fun Al W I => a0e (k := 1) (by decide) rfl I.bel (I.boxE 153 _)
 by_cases hzb : b.v.cls = 1
 · refine zqd I (fun Al W I => a0i a.v.cls a.v.neg a.p (dig B32 a.v.d).length a.c a.v.pow W) (dFa hza) fun Al W I => ?_
   refine zqd I (fun Al W I => a0i b.v.cls b.v.neg b.p (dig B32 b.v.d).length b.c b.v.pow W) (dTr hzb) fun Al W I => ?_
   refine zb I 41 (a.v.neg != b.v.neg) ((a.v.neg != b.v.neg)) (rfl) fun Al W I => ?_
   refine zq I (fun Al W I => (HZ W _ (I.box 0 153 _)).out) fun Al W I => ?_
   rw [hM, if_neg hof, if_neg h3, if_pos (by omega)]
   exact zret I fun Al W I => a0e (k := 1) (by decide) rfl I.bel (I.boxE 153 _)
 refine zqd I (fun Al W I => a0i a.v.cls a.v.neg a.p (dig B32 a.v.d).length a.c a.v.pow W) (dFa hza) fun Al W I => ?_
 refine zqd I (fun Al W I => a0i b.v.cls b.v.neg b.p (dig B32 b.v.d).length b.c b.v.pow W) (dFa hzb) fun Al W I => ?_
 refine zd [0, 3] I fun Al W I => ?_
 refine zk [0, 1, 2, 4, 5] I fun I => ?_
 refine zo 3 I fun I => ?_
 refine zg I (fun Al W I => (HA W _ (I.box 0 153 _) I.fa.1 I.fa.2.2.1).out) fun Al V Iv _ hB _ kz => ?_
 rintro _ W ⟨p46, c46, rfl, o46, hb⟩
 refine ⟨_, rfl, kz _ _ hb fun I => ?_⟩
 have I := I.ownB base o46
 refine zo 6 I fun I => ?_
 refine zg I (fun Al W I => (HB W _ (I.box 0 153 _) I.fa.2.2.1 I.fa.2.2.2.1).out) fun Al V Iv _ hB _ kz => ?_
 rintro _ W ⟨p49, c49, rfl, o49, hb⟩
 refine ⟨_, rfl, kz _ _ hb fun I => ?_⟩
 have I := I.ownB base o49
 refine zo 7 I fun I => ?_
 refine zg I (fun Al W I => (HT W p46 p49 c46 c49 _ I.fa.2.1 I.fa.1 I.fa.2.2.2.2.1).out) fun Al V Iv _ hB _ kz => ?_
 rintro _ W ⟨p50, c50, rfl, o50, hb⟩
 refine ⟨_, rfl, kz _ _ hb fun I => ?_⟩
 have I := I.ownB base o50
 refine zo 8 I fun I => ?_
 refine zge I 0 153 (fun Al W I => (HNU W p50 c50 _ (I.box 0 153 _) I.fa.1.rd).out) fun Al V Iv _ _ kz => ?_
 rintro _ W ⟨v51, hR51, p51, c51, rfl, o51, hO, hB⟩
 refine ⟨_, rfl, kz _ (uS f n way (flS : Int)) _ hO hB fun I => ?_⟩
 have I := I.ownB base o51
 refine zo 9 I fun I => ?_
 refine zn I fun Al W I => ?_
 rw [hM, if_neg hof, if_neg h3, if_neg (by omega)]
 exact zret I fun Al W I => ⟨v51, hR51, p51, c51, rfl, I.fa.1, I.bel, I.boxE 153 _⟩
end Go.Proofs.YtmacohmclpnphaaDoor
namespace Go.Slip
open Go.RowKit Go.MapKept
def mapF (b : Nat) (es : Array MapEntry) (clock : Nat) : PF :=
 ⟨fun w => w.heap[b]? = some (.map es clock), fun a => b = a, fun _ _ h hb _ => (hb b (Array.getElem?_eq_some_iff.1 h).1 rfl).trans h, fun _ _ h hf => hf ▸ (Array.getElem?_eq_some_iff.1 h).1⟩
theorem a0d {w : World} {b base : Nat} {es : Array MapEntry} {clock : Nat} {k : IntKind} {e : TypeId} {q : Option Addr} {c : Nat} {xs : List Nat} (h : w.heap[b]? = some (.map es clock)) (o : Own w base k e q c xs) : ¬ (q.isSome = true ∧ blk q = b) := by
 rintro ⟨hq, he⟩
 rcases o.2 with ⟨h1, h2⟩ | ⟨g', cap', cur', hv', hb', hg', _⟩
 · simp only [Value.slice.injEq] at h1
   rw [h1.1] at hq; cases hq
 · simp only [Value.slice.injEq] at hv'
   rw [hv'.1] at he
   have hE : g' = b := he
   subst hE
   have := h.symm.trans hg'
   simp at this
section
variable {P : Program} {ops : Array Oper} {o : Oper} {a : Act} {Q : Exit → Act → World → Prop} {w w' : World} {K : Act → World → Prop}
theorem i1f (d : Option Tmp) (hd : o.dst = d) (v : Value) (hw : Region.wanted o (yielded ops a.tmps) = true) (hr : (execOp a.eval o).run P w = .ok (.value v) w') (h : K (a.put d v) w') : OpW P ops Q o K a w := by
 subst hd
 refine ⟨?_⟩
 rw [if_pos hw]
 unfold Oper.wp
 rw [hr]
 exact h
theorem y0x (d : Option Tmp) (hd : o.dst = d) (hw : Region.wanted o (yielded ops a.tmps) = true) (hr : (execOp a.eval o).run P w = .ok .skip w') (h : K (a.put d undef) w') : OpW P ops Q o K a w := by
 subst hd
 refine ⟨?_⟩
 rw [if_pos hw]
 unfold Oper.wp
 rw [hr]
 exact h
theorem o0a {ik : IntKind} {mt kt vt : TypeId} (hm : P.underlying mt = some (.map kt vt)) (hk : P.underlying kt = some (.int ik)) {b : Nat} {es : Array MapEntry} {clock : Nat} (hb : w.heap[b]? = some (.map es clock)) (k : Int) (v : Value)
 (hf : Instr.findNow (.int ik) (.int ik k) es.toList 0 = some none) :
 (Instr.mapUpdate mt (.map (some b)) (.int ik k) v).run P w = .ok () { w with heap := w.heap.setIfInBounds b (.map (es.push ⟨.int ik k, v, clock⟩) (clock + 1)) } := by
 simp [Instr.mapUpdate, run_underlying hm, MapKept.run_getObj_map hb, run_checkKey hk (l0d ik k), run_findKey hk hf, run_setObj_map _ hb, Result.andThen]
end
section
variable {P : Program} {Q : Exit → Act → World → Prop} {E : List Nat} {w0 : World} {A : List Nat} {fs : List PF} {W V : World} {c : Cfg}
def mkOf (c : Cfg) : Option TypeId :=
 match hdOp c with
 | some ⟨_, .makeMap t none, _, _, _, _⟩ => some t
 | _ => none
theorem zmkm (I : Inv E w0 A c.bx fs W) (t : TypeId) (h : ∀ A W b, w0.heap.size ≤ b → Inv E w0 A (putc (zr P none c) (.v (.map (some b)))).bx (mapF b #[] 0 :: fs) W → G P Q A (putc (zr P none c) (.v (.map (some b)))) W)
 (ho : mkOf (zr P none c) = some t := by kernel_rfl)
 (hr : ∀ A w, (zms P none 5000 c A w).map (·.1) = (zms P none 5000 c A w).map (·.2) := by intro _ _; kernel_rfl)
 (hm : ok1 (zr P none c).rg (zr P none c).bx = ok2 (zr P none c).rg := by kernel_rfl) : G P Q A c W :=
 b0g I hr fun A W I => by
  have h2 := h A
  clear hr h
  generalize zr P none c = c at *
  unfold mkOf hdOp at ho
  split at ho
  · rename_i hn'
    split at hn'
    · rename_i o' hn
      split at hn'
      · rename_i hw
        simp only [Option.some.injEq] at hn' ho
        subst hn' ho
        have hbl : Below W.heap.size W (W.alloc (.map #[] 0)) := (Below.refl _ _).alloc (Nat.le_refl _) _
        have hb : (W.alloc (.map #[] 0)).heap[W.heap.size]? = some (.map #[] 0) := by show (W.heap.push _)[_]? = _; simp
        have I2 := (I.past hbl).add (mapF W.heap.size #[] 0) hb (fun a ha hf => by have := I.lt a ha; have hf : W.heap.size = a := hf; omega)
        refine G_op (E := E) (w0 := w0) (fs := []) hn fun K hK => i1f _ rfl (.map (some W.heap.size)) (by rw [e0u]; exact hw) (w' := W.alloc (.map #[] 0)) ?_ ?_
        · unfold execOp
          simp only [Option.map_none, run_makeMap, Sem.run_bind, Result.andThen_ok, Sem.run_pure]
        · have h := h2 _ _ I.bel.size I2
          unfold putc at h
          rw [hn] at h
          have := hK A _ _ c.bx (List.prefix_refl _) (I2.pick []) hm h
          rw [show Value.map (some W.heap.size) = (SV.v (.map (some W.heap.size))).r A from rfl, c0t]
          exact this
      · cases hn'
    · cases hn'
  · cases ho
def i1g (c : Cfg) (A : List Nat) : Option (TypeId × Value × Value × Value) :=
 match hdOp c with
 | some ⟨_, .insert t m k x, _, _, _, _⟩ => some (t, evr A c.fr m, evr A c.fr k, evr A c.fr x)
 | _ => none
theorem zins {b : Nat} {es : Array MapEntry} {clock : Nat} (I : Inv E w0 A c.bx (mapF b es clock :: fs) W) {t : TypeId} {ik : IntKind} {kt vt : TypeId} (hmt : P.underlying t = some (.map kt vt)) (hk : P.underlying kt = some (.int ik)) (k : Int) (v : Value) (hge : w0.heap.size ≤ b)
 (hfar : ∀ A W, Inv E w0 A (zr P none c).bx (mapF b es clock :: fs) W → PF.far b fs)
 (h : ∀ A W, Inv E w0 A (putc (zr P none c) (.v undef)).bx (mapF b (es.push ⟨.int ik k, v, clock⟩) (clock + 1) :: fs) W → G P Q A (putc (zr P none c) (.v undef)) W)
 (hf : Instr.findNow (.int ik) (.int ik k) es.toList 0 = some none := by kernel_rfl)
 (ho : ∀ A, i1g (zr P none c) A = some (t, .map (some b), .int ik k, v) := by intro _; kernel_rfl)
 (hr : ∀ A w, (zms P none 5000 c A w).map (·.1) = (zms P none 5000 c A w).map (·.2) := by intro _ _; kernel_rfl)
 (hrw : t0z (zr P none c).bx = true := by kernel_rfl)
 (hm : ok1 (zr P none c).rg (zr P none c).bx = ok2 (zr P none c).rg := by kernel_rfl) : G P Q A c W :=
 b0g I hr fun A W I => by
  have ho2 := ho A
  have h2 := h A
  have hfar2 := hfar A W I
  clear hr h ho hfar
  generalize zr P none c = c at *
  unfold i1g hdOp at ho2
  split at ho2
  · rename_i hn'
    simp only [Option.some.injEq, Prod.mk.injEq] at ho2
    obtain ⟨rfl, o1, o2, o3⟩ := ho2
    split at hn'
    · rename_i o' hn
      split at hn'
      · rename_i hw
        simp only [Option.some.injEq] at hn'
        subst hn'
        have hb : W.heap[b]? = some (.map es clock) := I.fa.1
        have hbl := (Array.getElem?_eq_some_iff.1 hb).1
        have keep : ∀ j, j ≠ b → (W.heap.setIfInBounds b (.map (es.push ⟨.int ik k, v, clock⟩) (clock + 1)))[j]? = W.heap[j]? := fun j hj => Array.getElem?_setIfInBounds_ne (Ne.symm hj)
        have I2 : Inv E w0 A c.bx (mapF b (es.push ⟨.int ik k, v, clock⟩) (clock + 1) :: fs) { W with heap := W.heap.setIfInBounds b (.map (es.push ⟨.int ik k, v, clock⟩) (clock + 1)) } := by
         refine ⟨⟨I.bel.os, I.bel.tape, I.bel.output, by simp only [Array.size_setIfInBounds]; exact I.bel.size, fun j hj hjE => ?_⟩, I.ge, I.nd, I.len, I.pre, fun j hj => ?_, ⟨?_, ?_⟩, fun a ha => ⟨(I.far a ha).1, (I.far a ha).2⟩⟩
         · rw [keep j (by omega)]
           exact I.bel.block j hj hjE
         · have hF : Fa A c.bx (lk 0 A j) := ⟨j, hj, k0v hrw j hj, rfl⟩
           have h1 := I.bt j hj
           unfold Bt at h1 ⊢
           rw [keep _ (fun e => (I.far _ hF).1 e.symm)]
           exact h1
         · show (W.heap.setIfInBounds b _)[b]? = _
           simp [hbl]
         · refine PF.all_keep (by simp) I.fa.2 fun j hj ha => keep j fun e => ha _ hfar2 e.symm
        refine G_op (E := E) (w0 := w0) (fs := []) hn fun K hK => y0x _ rfl (by rw [e0u]; exact hw) (w' := { W with heap := W.heap.setIfInBounds b (.map (es.push ⟨.int ik k, v, clock⟩) (clock + 1)) }) ?_ ?_
        · rw [b0u]
          unfold execOp
          simp only [o1, o2, o3, Sem.run_bind, o0a hmt hk hb k v hf, Result.andThen_ok, Sem.run_pure]
        · have h := h2 _ I2
          unfold putc at h
          rw [hn] at h
          have := hK A _ _ c.bx (List.prefix_refl _) (I2.pick []) hm h
          rw [show undef = (SV.v undef).r A from rfl, c0t]
          exact this
      · cases hn'
    · cases hn'
  · cases ho2
theorem a0u {ik : IntKind} {t kt vt : TypeId} (hm : P.underlying t = some (.map kt vt)) (hk : P.underlying kt = some (.int ik)) {b : Nat} {es : Array MapEntry} {clock : Nat} (hb : W.heap[b]? = some (.map es clock)) (k : Int) {v : Value} (hf : ∃ i, Instr.findNow (.int ik) (.int ik k) es.toList 0 = some (some (i, v))) :
 (VO.lk t (.map (some b)) (.int ik k) false).sem.run P W = .ok v W := by
 obtain ⟨i, hf⟩ := hf
 exact f0g hm hk hb k hf
end
end Go.Slip
namespace Go.Proofs.YtmacohmclpnphaaDoor
open Go.RowKit Go.Slip
def pkF (f : Fm) : Int := if f.fam = 1 then 3 else if f.fam = 2 then 2 else (f.nothM.cls : Nat)
def pgF (f : Fm) (g : Bool) : Bool := if f.fam = 1 then g else if f.fam = 2 then g else false
def ppF (f : Fm) (p : Option Addr) : Option Addr := if f.fam = 1 then none else if f.fam = 2 then p else none
def plF (f : Fm) (l : Nat) : Nat := if f.fam = 1 then 0 else if f.fam = 2 then l else 0
def peF (f : Fm) : Int := if f.fam = 1 then 0 else if f.fam = 2 then f.g.hi else 0
theorem y0y (f : Fm) (g : Bool) (p : Option Addr) (l c : Nat) (es : Array MapEntry) (h1 : ∃ i, Instr.findNow (.int .u8) (.int .u8 65) es.toList 0 = some (some (i, .agg #[.int .i64 3, .bool g, .slice none 0 0, .int .i64 0])))
 (h2 : ∃ i, Instr.findNow (.int .u8) (.int .u8 66) es.toList 0 = some (some (i, .agg #[.int .i64 2, .bool g, .slice p l c, .int .i64 f.g.hi])))
 (h3 : ∃ i, Instr.findNow (.int .u8) (.int .u8 67) es.toList 0 = some (some (i, .agg #[.int .i64 (f.nothM.cls : Int), .bool false, .slice none 0 0, .int .i64 0]))) :
 ∃ i, Instr.findNow (.int .u8) (.int .u8 (famB f)) es.toList 0 = some (some (i, .agg #[.int .i64 (pkF f), .bool (pgF f g), .slice (ppF f p) (plF f l) (plF f c), .int .i64 (peF f)])) := by
 unfold famB pkF pgF ppF plF peF
 by_cases f1 : f.fam = 1
 · simp only [if_pos f1]; exact h1
 · by_cases f2 : f.fam = 2
   · simp only [if_neg f1, if_pos f2]; exact h2
   · simp only [if_neg f1, if_neg f2]; exact h3
theorem b1y {f : Fm} {n way : Int} {u : Nat} {w w' : World} {g : Bool} {p : Option Addr} {c : Nat} (G : b0b f) (ho : Own w' w.heap.size .u32 76 p c (dig B32 (2 ^ (wid f.g * f.g.digs.toNat) - 1))) (hk : Kp [u] w w') (hb : Bt w' u 153 #[.int .i64 n, .int .i64 way, .int .i64 f.g.rad, .int .i64 f.g.digs, .int .i64 f.g.lo, .int .i64 f.g.hi, .bool f.g.grad, .int .u8 (famB f), .int .i64 8]) :
 d0p f n way u w w.heap.size (f.poleM g) (.returned (.agg #[.int .i64 (pkF f), .bool (pgF f g), .slice (ppF f p) (plF f (dig B32 (2 ^ (wid f.g * f.g.digs.toNat) - 1)).length) (plF f c), .int .i64 (peF f)])) w' := by
 unfold pkF pgF ppF plF peF Fm.poleM
 by_cases f1 : f.fam = 1
 · simp only [if_pos f1]
   exact a0e (k := 3) (by decide) rfl hk hb
 · by_cases f2 : f.fam = 2
   · simp only [if_neg f1, if_pos f2]
     exact ⟨_, l0l G g, p, c, rfl, ho, hk, hb⟩
   · simp only [if_neg f1, if_neg f2]
     exact a0e (k := f.nothM.cls) (g0i G) rfl hk hb
theorem a0c : Tryd.prog.underlying 182 = some (.map 5 29) := by kernel_rfl
theorem i1h (f : Fm) (n way : Int) (g : Bool) (u : Nat) (w : World) (U : Bt w u 153 #[.int .i64 n, .int .i64 way, .int .i64 f.g.rad, .int .i64 f.g.digs, .int .i64 f.g.lo, .int .i64 f.g.hi, .bool f.g.grad, .int .u8 (famB f), .int .i64 0]) (G : b0b f) :
 Calls Tryd.prog 118 #[.pointer (some ⟨u, 0, none⟩), .bool g] w (d0p f n way u w w.heap.size (f.poleM g)) := by
 have GG := b0y G.g
 have d1 := GG.d1
 have d2 := GG.d2
 have HR := fun W u hU => hi0 (c0d f n way 0 8 8 u W hU (by decide +kernel))
 have HG := fun W u hU => hi0 (e0p f n way 8 g u W hU (by omega))
 have HN := fun W u hU => hi0 (g0h f n way 8 u W hU)
 have HI := fun W => hi0 (e0f g W)
 have HF := y0y f g
 have HE := fun (w' : World) p c => b1y (n := n) (way := way) (u := u) (w := w) (w' := w') (g := g) (p := p) (c := c) G
 generalize 2 ^ (wid f.g * f.g.digs.toNat) - 1 = m at *
 generalize f.nothM.cls = kN at *
 have I := Inv.startW w u 153 (uS f n way 0) [] U True.intro True.intro
 refine a0f [.p 0 0, .v (.bool g)] I Tryd.func118 ?_
 refine zge I 0 153 (fun Al W I => (HR W _ (I.box 0 153 _)).out) fun Al V Iv _ _ kz => ?_
 rintro _ W ⟨rfl, hO, hB⟩
 refine ⟨_, rfl, kz _ (uS f n way 8) _ hO hB fun I => ?_⟩
 refine zcut I none (fun fr bx gs => ∃ (U1 : Nat → Value) (p12 : Option Addr) (c12 : Nat), fr = (.p 0 0 :: .v (.bool g) :: su 2 (.p 1 0 :: sw U1 5 16 []) : List SV) ∧ bx = [⟨153, (uS f n way 8), false⟩, ⟨29, [.v (.int .i64 (pkF f)), .v (.bool (pgF f g)), .v (.slice (ppF f p12) (plF f (dig B32 m).length) (plF f c12)), .v (.int .i64 (peF f))], false⟩] ∧ gs = [ownF w.heap.size .u32 76 p12 c12 (dig B32 m)]) ?_ ?_
 · intro J hJ Al W I
   refine zd [1] I fun Al W I => ?_
   refine zk [1, 4, 5, 8, 12, 13, 14, 15] I fun I => ?_
   refine zo2 0 2 I (fun I => ?_) (fun I => ?_)
   · refine zmkm I 182 fun Al W m7_b m7_ge I => ?_
     refine zo 2 I fun I => ?_
     refine zq I (fun Al W I => (HI W).out) fun Al W I => ?_
     refine zo2 3 6 I (fun I => ?_) (fun I => ?_)
     · refine zins I a0c Tryd.underlying5 65 (.agg #[.int .i64 3, .bool g, .slice none 0 0, .int .i64 0]) m7_ge (fun Al W I => True.intro) fun Al W I => ?_
       refine zo 6 I fun I => ?_
       refine zqo I (fun Al W I => (HG W _ (I.box 0 153 _)).out) fun Al W p12 c12 I => ?_
       refine zo2 7 9 I (fun I => ?_) (fun I => ?_)
       · have I := I.pick [1, 0]
         refine zins I a0c Tryd.underlying5 66 (.agg #[.int .i64 2, .bool g, .slice p12 (dig B32 m).length c12, .int .i64 f.g.hi]) m7_ge (fun Al W I => ⟨a0d I.fa.1 I.fa.2.1, True.intro⟩) fun Al W I => ?_
         refine zo 9 I fun I => ?_
         refine zq I (fun Al W I => (HN W _ (I.box 0 153 _)).out) fun Al W I => ?_
         refine zo 10 I fun I => ?_
         refine zins I a0c Tryd.underlying5 67 (.agg #[.int .i64 (kN : Int), .bool false, .slice none 0 0, .int .i64 0]) m7_ge (fun Al W I => ⟨a0d I.fa.1 I.fa.2.1, True.intro⟩) fun Al W I => ?_
         refine zk [11] I fun I => ?_
         refine zo 16 I fun I => ?_
         refine zx I 20 (fun _ => .agg #[.int .i64 (pkF f), .bool (pgF f g), .slice (ppF f p12) (plF f (dig B32 m).length) (plF f c12), .int .i64 (peF f)]) (fun Al W I => (a0u a0c Tryd.underlying5 I.fa.1 _ (HF p12 _ c12 _ ⟨_, rfl⟩ ⟨_, rfl⟩ ⟨_, rfl⟩))) fun Al W I => ?_
         refine zo 17 I fun I => ?_
         refine zn I fun Al W I => ?_
         exact a0n I J fun Al W U I => hJ _ _ _ _ _ ⟨U, p12, c12, rfl, rfl, rfl⟩ (I.pick [1])
       refine zq I (fun Al W I => (HN W _ (I.box 0 153 _)).out) fun Al W I => ?_
       refine zo2 7 10 I (fun I => ?_) (fun I => ?_)
       · have I := I.pick [1, 0]
         refine zins I a0c Tryd.underlying5 66 (.agg #[.int .i64 2, .bool g, .slice p12 (dig B32 m).length c12, .int .i64 f.g.hi]) m7_ge (fun Al W I => ⟨a0d I.fa.1 I.fa.2.1, True.intro⟩) fun Al W I => ?_
         refine zo 10 I fun I => ?_
         refine zins I a0c Tryd.underlying5 67 (.agg #[.int .i64 (kN : Int), .bool false, .slice none 0 0, .int .i64 0]) m7_ge (fun Al W I => ⟨a0d I.fa.1 I.fa.2.1, True.intro⟩) fun Al W I => ?_
         refine zk [11] I fun I => ?_
         refine zo 16 I fun I => ?_
         refine zx I 20 (fun _ => .agg #[.int .i64 (pkF f), .bool (pgF f g), .slice (ppF f p12) (plF f (dig B32 m).length) (plF f c12), .int .i64 (peF f)]) (fun Al W I => (a0u a0c Tryd.underlying5 I.fa.1 _ (HF p12 _ c12 _ ⟨_, rfl⟩ ⟨_, rfl⟩ ⟨_, rfl⟩))) fun Al W I => ?_
         refine zo 17 I fun I => ?_
         refine zn I fun Al W I => ?_
         exact a0n I J fun Al W U I => hJ _ _ _ _ _ ⟨U, p12, c12, rfl, rfl, rfl⟩ (I.pick [1])
       have I := I.pick [1, 0]
       refine zins I a0c Tryd.underlying5 67 (.agg #[.int .i64 (kN : Int), .bool false, .slice none 0 0, .int .i64 0]) m7_ge (fun Al W I => ⟨a0d I.fa.1 I.fa.2.1, True.intro⟩) fun Al W I => ?_
       refine zo 7 I fun I => ?_
       refine zins I a0c Tryd.underlying5 66 (.agg #[.int .i64 2, .bool g, .slice p12 (dig B32 m).length c12, .int .i64 f.g.hi]) m7_ge (fun Al W I => ⟨a0d I.fa.1 I.fa.2.1, True.intro⟩) fun Al W I => ?_
       refine zk [11] I fun I => ?_
       refine zo 16 I fun I => ?_
       refine zx I 20 (fun _ => .agg #[.int .i64 (pkF f), .bool (pgF f g), .slice (ppF f p12) (plF f (dig B32 m).length) (plF f c12), .int .i64 (peF f)]) (fun Al W I => (a0u a0c Tryd.underlying5 I.fa.1 _ (HF p12 _ c12 _ ⟨_, rfl⟩ ⟨_, rfl⟩ ⟨_, rfl⟩))) fun Al W I => ?_
       refine zo 17 I fun I => ?_
       refine zn I fun Al W I => ?_
       exact a0n I J fun Al W U I => hJ _ _ _ _ _ ⟨U, p12, c12, rfl, rfl, rfl⟩ (I.pick [1])
     refine zqo I (fun Al W I => (HG W _ (I.box 0 153 _)).out) fun Al W p12 c12 I => ?_
     refine zo3 3 7 9 I (fun I => ?_) (fun I => ?_) (fun I => ?_)
     · have I := I.pick [1, 0]
       refine zins I a0c Tryd.underlying5 65 (.agg #[.int .i64 3, .bool g, .slice none 0 0, .int .i64 0]) m7_ge (fun Al W I => ⟨a0d I.fa.1 I.fa.2.1, True.intro⟩) fun Al W I => ?_
       refine zo2 7 9 I (fun I => ?_) (fun I => ?_)
       · refine zins I a0c Tryd.underlying5 66 (.agg #[.int .i64 2, .bool g, .slice p12 (dig B32 m).length c12, .int .i64 f.g.hi]) m7_ge (fun Al W I => ⟨a0d I.fa.1 I.fa.2.1, True.intro⟩) fun Al W I => ?_
         refine zo 9 I fun I => ?_
         refine zq I (fun Al W I => (HN W _ (I.box 0 153 _)).out) fun Al W I => ?_
         refine zo 10 I fun I => ?_
         refine zins I a0c Tryd.underlying5 67 (.agg #[.int .i64 (kN : Int), .bool false, .slice none 0 0, .int .i64 0]) m7_ge (fun Al W I => ⟨a0d I.fa.1 I.fa.2.1, True.intro⟩) fun Al W I => ?_
         refine zk [11] I fun I => ?_
         refine zo 16 I fun I => ?_
         refine zx I 20 (fun _ => .agg #[.int .i64 (pkF f), .bool (pgF f g), .slice (ppF f p12) (plF f (dig B32 m).length) (plF f c12), .int .i64 (peF f)]) (fun Al W I => (a0u a0c Tryd.underlying5 I.fa.1 _ (HF p12 _ c12 _ ⟨_, rfl⟩ ⟨_, rfl⟩ ⟨_, rfl⟩))) fun Al W I => ?_
         refine zo 17 I fun I => ?_
         refine zn I fun Al W I => ?_
         exact a0n I J fun Al W U I => hJ _ _ _ _ _ ⟨U, p12, c12, rfl, rfl, rfl⟩ (I.pick [1])
       refine zq I (fun Al W I => (HN W _ (I.box 0 153 _)).out) fun Al W I => ?_
       refine zo2 7 10 I (fun I => ?_) (fun I => ?_)
       · refine zins I a0c Tryd.underlying5 66 (.agg #[.int .i64 2, .bool g, .slice p12 (dig B32 m).length c12, .int .i64 f.g.hi]) m7_ge (fun Al W I => ⟨a0d I.fa.1 I.fa.2.1, True.intro⟩) fun Al W I => ?_
         refine zo 10 I fun I => ?_
         refine zins I a0c Tryd.underlying5 67 (.agg #[.int .i64 (kN : Int), .bool false, .slice none 0 0, .int .i64 0]) m7_ge (fun Al W I => ⟨a0d I.fa.1 I.fa.2.1, True.intro⟩) fun Al W I => ?_
         refine zk [11] I fun I => ?_
         refine zo 16 I fun I => ?_
         refine zx I 20 (fun _ => .agg #[.int .i64 (pkF f), .bool (pgF f g), .slice (ppF f p12) (plF f (dig B32 m).length) (plF f c12), .int .i64 (peF f)]) (fun Al W I => (a0u a0c Tryd.underlying5 I.fa.1 _ (HF p12 _ c12 _ ⟨_, rfl⟩ ⟨_, rfl⟩ ⟨_, rfl⟩))) fun Al W I => ?_
         refine zo 17 I fun I => ?_
         refine zn I fun Al W I => ?_
         exact a0n I J fun Al W U I => hJ _ _ _ _ _ ⟨U, p12, c12, rfl, rfl, rfl⟩ (I.pick [1])
       refine zins I a0c Tryd.underlying5 67 (.agg #[.int .i64 (kN : Int), .bool false, .slice none 0 0, .int .i64 0]) m7_ge (fun Al W I => ⟨a0d I.fa.1 I.fa.2.1, True.intro⟩) fun Al W I => ?_
       refine zo 7 I fun I => ?_
       refine zins I a0c Tryd.underlying5 66 (.agg #[.int .i64 2, .bool g, .slice p12 (dig B32 m).length c12, .int .i64 f.g.hi]) m7_ge (fun Al W I => ⟨a0d I.fa.1 I.fa.2.1, True.intro⟩) fun Al W I => ?_
       refine zk [11] I fun I => ?_
       refine zo 16 I fun I => ?_
       refine zx I 20 (fun _ => .agg #[.int .i64 (pkF f), .bool (pgF f g), .slice (ppF f p12) (plF f (dig B32 m).length) (plF f c12), .int .i64 (peF f)]) (fun Al W I => (a0u a0c Tryd.underlying5 I.fa.1 _ (HF p12 _ c12 _ ⟨_, rfl⟩ ⟨_, rfl⟩ ⟨_, rfl⟩))) fun Al W I => ?_
       refine zo 17 I fun I => ?_
       refine zn I fun Al W I => ?_
       exact a0n I J fun Al W U I => hJ _ _ _ _ _ ⟨U, p12, c12, rfl, rfl, rfl⟩ (I.pick [1])
     · have I := I.pick [1, 0]
       refine zins I a0c Tryd.underlying5 66 (.agg #[.int .i64 2, .bool g, .slice p12 (dig B32 m).length c12, .int .i64 f.g.hi]) m7_ge (fun Al W I => ⟨a0d I.fa.1 I.fa.2.1, True.intro⟩) fun Al W I => ?_
       refine zo2 3 9 I (fun I => ?_) (fun I => ?_)
       · refine zins I a0c Tryd.underlying5 65 (.agg #[.int .i64 3, .bool g, .slice none 0 0, .int .i64 0]) m7_ge (fun Al W I => ⟨a0d I.fa.1 I.fa.2.1, True.intro⟩) fun Al W I => ?_
         refine zo 9 I fun I => ?_
         refine zq I (fun Al W I => (HN W _ (I.box 0 153 _)).out) fun Al W I => ?_
         refine zo 10 I fun I => ?_
         refine zins I a0c Tryd.underlying5 67 (.agg #[.int .i64 (kN : Int), .bool false, .slice none 0 0, .int .i64 0]) m7_ge (fun Al W I => ⟨a0d I.fa.1 I.fa.2.1, True.intro⟩) fun Al W I => ?_
         refine zk [11] I fun I => ?_
         refine zo 16 I fun I => ?_
         refine zx I 20 (fun _ => .agg #[.int .i64 (pkF f), .bool (pgF f g), .slice (ppF f p12) (plF f (dig B32 m).length) (plF f c12), .int .i64 (peF f)]) (fun Al W I => (a0u a0c Tryd.underlying5 I.fa.1 _ (HF p12 _ c12 _ ⟨_, rfl⟩ ⟨_, rfl⟩ ⟨_, rfl⟩))) fun Al W I => ?_
         refine zo 17 I fun I => ?_
         refine zn I fun Al W I => ?_
         exact a0n I J fun Al W U I => hJ _ _ _ _ _ ⟨U, p12, c12, rfl, rfl, rfl⟩ (I.pick [1])
       refine zq I (fun Al W I => (HN W _ (I.box 0 153 _)).out) fun Al W I => ?_
       refine zo2 3 10 I (fun I => ?_) (fun I => ?_)
       · refine zins I a0c Tryd.underlying5 65 (.agg #[.int .i64 3, .bool g, .slice none 0 0, .int .i64 0]) m7_ge (fun Al W I => ⟨a0d I.fa.1 I.fa.2.1, True.intro⟩) fun Al W I => ?_
         refine zo 10 I fun I => ?_
         refine zins I a0c Tryd.underlying5 67 (.agg #[.int .i64 (kN : Int), .bool false, .slice none 0 0, .int .i64 0]) m7_ge (fun Al W I => ⟨a0d I.fa.1 I.fa.2.1, True.intro⟩) fun Al W I => ?_
         refine zk [11] I fun I => ?_
         refine zo 16 I fun I => ?_
         refine zx I 20 (fun _ => .agg #[.int .i64 (pkF f), .bool (pgF f g), .slice (ppF f p12) (plF f (dig B32 m).length) (plF f c12), .int .i64 (peF f)]) (fun Al W I => (a0u a0c Tryd.underlying5 I.fa.1 _ (HF p12 _ c12 _ ⟨_, rfl⟩ ⟨_, rfl⟩ ⟨_, rfl⟩))) fun Al W I => ?_
         refine zo 17 I fun I => ?_
         refine zn I fun Al W I => ?_
         exact a0n I J fun Al W U I => hJ _ _ _ _ _ ⟨U, p12, c12, rfl, rfl, rfl⟩ (I.pick [1])
       refine zins I a0c Tryd.underlying5 67 (.agg #[.int .i64 (kN : Int), .bool false, .slice none 0 0, .int .i64 0]) m7_ge (fun Al W I => ⟨a0d I.fa.1 I.fa.2.1, True.intro⟩) fun Al W I => ?_
       refine zo 3 I fun I => ?_
       refine zins I a0c Tryd.underlying5 65 (.agg #[.int .i64 3, .bool g, .slice none 0 0, .int .i64 0]) m7_ge (fun Al W I => ⟨a0d I.fa.1 I.fa.2.1, True.intro⟩) fun Al W I => ?_
       refine zk [11] I fun I => ?_
       refine zo 16 I fun I => ?_
       refine zx I 20 (fun _ => .agg #[.int .i64 (pkF f), .bool (pgF f g), .slice (ppF f p12) (plF f (dig B32 m).length) (plF f c12), .int .i64 (peF f)]) (fun Al W I => (a0u a0c Tryd.underlying5 I.fa.1 _ (HF p12 _ c12 _ ⟨_, rfl⟩ ⟨_, rfl⟩ ⟨_, rfl⟩))) fun Al W I => ?_
       refine zo 17 I fun I => ?_
       refine zn I fun Al W I => ?_
       exact a0n I J fun Al W U I => hJ _ _ _ _ _ ⟨U, p12, c12, rfl, rfl, rfl⟩ (I.pick [1])
     refine zq I (fun Al W I => (HN W _ (I.box 0 153 _)).out) fun Al W I => ?_
     refine zo3 3 7 10 I (fun I => ?_) (fun I => ?_) (fun I => ?_)
     · have I := I.pick [1, 0]
       refine zins I a0c Tryd.underlying5 65 (.agg #[.int .i64 3, .bool g, .slice none 0 0, .int .i64 0]) m7_ge (fun Al W I => ⟨a0d I.fa.1 I.fa.2.1, True.intro⟩) fun Al W I => ?_
       refine zo2 7 10 I (fun I => ?_) (fun I => ?_)
       · refine zins I a0c Tryd.underlying5 66 (.agg #[.int .i64 2, .bool g, .slice p12 (dig B32 m).length c12, .int .i64 f.g.hi]) m7_ge (fun Al W I => ⟨a0d I.fa.1 I.fa.2.1, True.intro⟩) fun Al W I => ?_
         refine zo 10 I fun I => ?_
         refine zins I a0c Tryd.underlying5 67 (.agg #[.int .i64 (kN : Int), .bool false, .slice none 0 0, .int .i64 0]) m7_ge (fun Al W I => ⟨a0d I.fa.1 I.fa.2.1, True.intro⟩) fun Al W I => ?_
         refine zk [11] I fun I => ?_
         refine zo 16 I fun I => ?_
         refine zx I 20 (fun _ => .agg #[.int .i64 (pkF f), .bool (pgF f g), .slice (ppF f p12) (plF f (dig B32 m).length) (plF f c12), .int .i64 (peF f)]) (fun Al W I => (a0u a0c Tryd.underlying5 I.fa.1 _ (HF p12 _ c12 _ ⟨_, rfl⟩ ⟨_, rfl⟩ ⟨_, rfl⟩))) fun Al W I => ?_
         refine zo 17 I fun I => ?_
         refine zn I fun Al W I => ?_
         exact a0n I J fun Al W U I => hJ _ _ _ _ _ ⟨U, p12, c12, rfl, rfl, rfl⟩ (I.pick [1])
       refine zins I a0c Tryd.underlying5 67 (.agg #[.int .i64 (kN : Int), .bool false, .slice none 0 0, .int .i64 0]) m7_ge (fun Al W I => ⟨a0d I.fa.1 I.fa.2.1, True.intro⟩) fun Al W I => ?_
       refine zo 7 I fun I => ?_
       refine zins I a0c Tryd.underlying5 66 (.agg #[.int .i64 2, .bool g, .slice p12 (dig B32 m).length c12, .int .i64 f.g.hi]) m7_ge (fun Al W I => ⟨a0d I.fa.1 I.fa.2.1, True.intro⟩) fun Al W I => ?_
       refine zk [11] I fun I => ?_
       refine zo 16 I fun I => ?_
       refine zx I 20 (fun _ => .agg #[.int .i64 (pkF f), .bool (pgF f g), .slice (ppF f p12) (plF f (dig B32 m).length) (plF f c12), .int .i64 (peF f)]) (fun Al W I => (a0u a0c Tryd.underlying5 I.fa.1 _ (HF p12 _ c12 _ ⟨_, rfl⟩ ⟨_, rfl⟩ ⟨_, rfl⟩))) fun Al W I => ?_
       refine zo 17 I fun I => ?_
       refine zn I fun Al W I => ?_
       exact a0n I J fun Al W U I => hJ _ _ _ _ _ ⟨U, p12, c12, rfl, rfl, rfl⟩ (I.pick [1])
     · have I := I.pick [1, 0]
       refine zins I a0c Tryd.underlying5 66 (.agg #[.int .i64 2, .bool g, .slice p12 (dig B32 m).length c12, .int .i64 f.g.hi]) m7_ge (fun Al W I => ⟨a0d I.fa.1 I.fa.2.1, True.intro⟩) fun Al W I => ?_
       refine zo2 3 10 I (fun I => ?_) (fun I => ?_)
       · refine zins I a0c Tryd.underlying5 65 (.agg #[.int .i64 3, .bool g, .slice none 0 0, .int .i64 0]) m7_ge (fun Al W I => ⟨a0d I.fa.1 I.fa.2.1, True.intro⟩) fun Al W I => ?_
         refine zo 10 I fun I => ?_
         refine zins I a0c Tryd.underlying5 67 (.agg #[.int .i64 (kN : Int), .bool false, .slice none 0 0, .int .i64 0]) m7_ge (fun Al W I => ⟨a0d I.fa.1 I.fa.2.1, True.intro⟩) fun Al W I => ?_
         refine zk [11] I fun I => ?_
         refine zo 16 I fun I => ?_
         refine zx I 20 (fun _ => .agg #[.int .i64 (pkF f), .bool (pgF f g), .slice (ppF f p12) (plF f (dig B32 m).length) (plF f c12), .int .i64 (peF f)]) (fun Al W I => (a0u a0c Tryd.underlying5 I.fa.1 _ (HF p12 _ c12 _ ⟨_, rfl⟩ ⟨_, rfl⟩ ⟨_, rfl⟩))) fun Al W I => ?_
         refine zo 17 I fun I => ?_
         refine zn I fun Al W I => ?_
         exact a0n I J fun Al W U I => hJ _ _ _ _ _ ⟨U, p12, c12, rfl, rfl, rfl⟩ (I.pick [1])
       refine zins I a0c Tryd.underlying5 67 (.agg #[.int .i64 (kN : Int), .bool false, .slice none 0 0, .int .i64 0]) m7_ge (fun Al W I => ⟨a0d I.fa.1 I.fa.2.1, True.intro⟩) fun Al W I => ?_
       refine zo 3 I fun I => ?_
       refine zins I a0c Tryd.underlying5 65 (.agg #[.int .i64 3, .bool g, .slice none 0 0, .int .i64 0]) m7_ge (fun Al W I => ⟨a0d I.fa.1 I.fa.2.1, True.intro⟩) fun Al W I => ?_
       refine zk [11] I fun I => ?_
       refine zo 16 I fun I => ?_
       refine zx I 20 (fun _ => .agg #[.int .i64 (pkF f), .bool (pgF f g), .slice (ppF f p12) (plF f (dig B32 m).length) (plF f c12), .int .i64 (peF f)]) (fun Al W I => (a0u a0c Tryd.underlying5 I.fa.1 _ (HF p12 _ c12 _ ⟨_, rfl⟩ ⟨_, rfl⟩ ⟨_, rfl⟩))) fun Al W I => ?_
       refine zo 17 I fun I => ?_
       refine zn I fun Al W I => ?_
       exact a0n I J fun Al W U I => hJ _ _ _ _ _ ⟨U, p12, c12, rfl, rfl, rfl⟩ (I.pick [1])
     have I := I.pick [1, 0]
     refine zins I a0c Tryd.underlying5 67 (.agg #[.int .i64 (kN : Int), .bool false, .slice none 0 0, .int .i64 0]) m7_ge (fun Al W I => ⟨a0d I.fa.1 I.fa.2.1, True.intro⟩) fun Al W I => ?_
     refine zo2 3 7 I (fun I => ?_) (fun I => ?_)
     · refine zins I a0c Tryd.underlying5 65 (.agg #[.int .i64 3, .bool g, .slice none 0 0, .int .i64 0]) m7_ge (fun Al W I => ⟨a0d I.fa.1 I.fa.2.1, True.intro⟩) fun Al W I => ?_
       refine zo 7 I fun I => ?_
       refine zins I a0c Tryd.underlying5 66 (.agg #[.int .i64 2, .bool g, .slice p12 (dig B32 m).length c12, .int .i64 f.g.hi]) m7_ge (fun Al W I => ⟨a0d I.fa.1 I.fa.2.1, True.intro⟩) fun Al W I => ?_
       refine zk [11] I fun I => ?_
       refine zo 16 I fun I => ?_
       refine zx I 20 (fun _ => .agg #[.int .i64 (pkF f), .bool (pgF f g), .slice (ppF f p12) (plF f (dig B32 m).length) (plF f c12), .int .i64 (peF f)]) (fun Al W I => (a0u a0c Tryd.underlying5 I.fa.1 _ (HF p12 _ c12 _ ⟨_, rfl⟩ ⟨_, rfl⟩ ⟨_, rfl⟩))) fun Al W I => ?_
       refine zo 17 I fun I => ?_
       refine zn I fun Al W I => ?_
       exact a0n I J fun Al W U I => hJ _ _ _ _ _ ⟨U, p12, c12, rfl, rfl, rfl⟩ (I.pick [1])
     refine zins I a0c Tryd.underlying5 66 (.agg #[.int .i64 2, .bool g, .slice p12 (dig B32 m).length c12, .int .i64 f.g.hi]) m7_ge (fun Al W I => ⟨a0d I.fa.1 I.fa.2.1, True.intro⟩) fun Al W I => ?_
     refine zo 3 I fun I => ?_
     refine zins I a0c Tryd.underlying5 65 (.agg #[.int .i64 3, .bool g, .slice none 0 0, .int .i64 0]) m7_ge (fun Al W I => ⟨a0d I.fa.1 I.fa.2.1, True.intro⟩) fun Al W I => ?_
     refine zk [11] I fun I => ?_
     refine zo 16 I fun I => ?_
     refine zx I 20 (fun _ => .agg #[.int .i64 (pkF f), .bool (pgF f g), .slice (ppF f p12) (plF f (dig B32 m).length) (plF f c12), .int .i64 (peF f)]) (fun Al W I => (a0u a0c Tryd.underlying5 I.fa.1 _ (HF p12 _ c12 _ ⟨_, rfl⟩ ⟨_, rfl⟩ ⟨_, rfl⟩))) fun Al W I => ?_
     refine zo 17 I fun I => ?_
     refine zn I fun Al W I => ?_
     exact a0n I J fun Al W U I => hJ _ _ _ _ _ ⟨U, p12, c12, rfl, rfl, rfl⟩ (I.pick [1])
   refine zq I (fun Al W I => (HI W).out) fun Al W I => ?_
   refine zo2 0 6 I (fun I => ?_) (fun I => ?_)
   · refine zmkm I 182 fun Al W m7_b m7_ge I => ?_
     refine zo2 3 6 I (fun I => ?_) (fun I => ?_)
     · refine zins I a0c Tryd.underlying5 65 (.agg #[.int .i64 3, .bool g, .slice none 0 0, .int .i64 0]) m7_ge (fun Al W I => True.intro) fun Al W I => ?_
       refine zo 6 I fun I => ?_
       refine zqo I (fun Al W I => (HG W _ (I.box 0 153 _)).out) fun Al W p12 c12 I => ?_
       refine zo2 7 9 I (fun I => ?_) (fun I => ?_)
       · have I := I.pick [1, 0]
         refine zins I a0c Tryd.underlying5 66 (.agg #[.int .i64 2, .bool g, .slice p12 (dig B32 m).length c12, .int .i64 f.g.hi]) m7_ge (fun Al W I => ⟨a0d I.fa.1 I.fa.2.1, True.intro⟩) fun Al W I => ?_
         refine zo 9 I fun I => ?_
         refine zq I (fun Al W I => (HN W _ (I.box 0 153 _)).out) fun Al W I => ?_
         refine zo 10 I fun I => ?_
         refine zins I a0c Tryd.underlying5 67 (.agg #[.int .i64 (kN : Int), .bool false, .slice none 0 0, .int .i64 0]) m7_ge (fun Al W I => ⟨a0d I.fa.1 I.fa.2.1, True.intro⟩) fun Al W I => ?_
         refine zk [11] I fun I => ?_
         refine zo 16 I fun I => ?_
         refine zx I 20 (fun _ => .agg #[.int .i64 (pkF f), .bool (pgF f g), .slice (ppF f p12) (plF f (dig B32 m).length) (plF f c12), .int .i64 (peF f)]) (fun Al W I => (a0u a0c Tryd.underlying5 I.fa.1 _ (HF p12 _ c12 _ ⟨_, rfl⟩ ⟨_, rfl⟩ ⟨_, rfl⟩))) fun Al W I => ?_
         refine zo 17 I fun I => ?_
         refine zn I fun Al W I => ?_
         exact a0n I J fun Al W U I => hJ _ _ _ _ _ ⟨U, p12, c12, rfl, rfl, rfl⟩ (I.pick [1])
       refine zq I (fun Al W I => (HN W _ (I.box 0 153 _)).out) fun Al W I => ?_
       refine zo2 7 10 I (fun I => ?_) (fun I => ?_)
       · have I := I.pick [1, 0]
         refine zins I a0c Tryd.underlying5 66 (.agg #[.int .i64 2, .bool g, .slice p12 (dig B32 m).length c12, .int .i64 f.g.hi]) m7_ge (fun Al W I => ⟨a0d I.fa.1 I.fa.2.1, True.intro⟩) fun Al W I => ?_
         refine zo 10 I fun I => ?_
         refine zins I a0c Tryd.underlying5 67 (.agg #[.int .i64 (kN : Int), .bool false, .slice none 0 0, .int .i64 0]) m7_ge (fun Al W I => ⟨a0d I.fa.1 I.fa.2.1, True.intro⟩) fun Al W I => ?_
         refine zk [11] I fun I => ?_
         refine zo 16 I fun I => ?_
         refine zx I 20 (fun _ => .agg #[.int .i64 (pkF f), .bool (pgF f g), .slice (ppF f p12) (plF f (dig B32 m).length) (plF f c12), .int .i64 (peF f)]) (fun Al W I => (a0u a0c Tryd.underlying5 I.fa.1 _ (HF p12 _ c12 _ ⟨_, rfl⟩ ⟨_, rfl⟩ ⟨_, rfl⟩))) fun Al W I => ?_
         refine zo 17 I fun I => ?_
         refine zn I fun Al W I => ?_
         exact a0n I J fun Al W U I => hJ _ _ _ _ _ ⟨U, p12, c12, rfl, rfl, rfl⟩ (I.pick [1])
       have I := I.pick [1, 0]
       refine zins I a0c Tryd.underlying5 67 (.agg #[.int .i64 (kN : Int), .bool false, .slice none 0 0, .int .i64 0]) m7_ge (fun Al W I => ⟨a0d I.fa.1 I.fa.2.1, True.intro⟩) fun Al W I => ?_
       refine zo 7 I fun I => ?_
       refine zins I a0c Tryd.underlying5 66 (.agg #[.int .i64 2, .bool g, .slice p12 (dig B32 m).length c12, .int .i64 f.g.hi]) m7_ge (fun Al W I => ⟨a0d I.fa.1 I.fa.2.1, True.intro⟩) fun Al W I => ?_
       refine zk [11] I fun I => ?_
       refine zo 16 I fun I => ?_
       refine zx I 20 (fun _ => .agg #[.int .i64 (pkF f), .bool (pgF f g), .slice (ppF f p12) (plF f (dig B32 m).length) (plF f c12), .int .i64 (peF f)]) (fun Al W I => (a0u a0c Tryd.underlying5 I.fa.1 _ (HF p12 _ c12 _ ⟨_, rfl⟩ ⟨_, rfl⟩ ⟨_, rfl⟩))) fun Al W I => ?_
       refine zo 17 I fun I => ?_
       refine zn I fun Al W I => ?_
       exact a0n I J fun Al W U I => hJ _ _ _ _ _ ⟨U, p12, c12, rfl, rfl, rfl⟩ (I.pick [1])
     refine zqo I (fun Al W I => (HG W _ (I.box 0 153 _)).out) fun Al W p12 c12 I => ?_
     refine zo3 3 7 9 I (fun I => ?_) (fun I => ?_) (fun I => ?_)
     · have I := I.pick [1, 0]
       refine zins I a0c Tryd.underlying5 65 (.agg #[.int .i64 3, .bool g, .slice none 0 0, .int .i64 0]) m7_ge (fun Al W I => ⟨a0d I.fa.1 I.fa.2.1, True.intro⟩) fun Al W I => ?_
       refine zo2 7 9 I (fun I => ?_) (fun I => ?_)
       · refine zins I a0c Tryd.underlying5 66 (.agg #[.int .i64 2, .bool g, .slice p12 (dig B32 m).length c12, .int .i64 f.g.hi]) m7_ge (fun Al W I => ⟨a0d I.fa.1 I.fa.2.1, True.intro⟩) fun Al W I => ?_
         refine zo 9 I fun I => ?_
         refine zq I (fun Al W I => (HN W _ (I.box 0 153 _)).out) fun Al W I => ?_
         refine zo 10 I fun I => ?_
         refine zins I a0c Tryd.underlying5 67 (.agg #[.int .i64 (kN : Int), .bool false, .slice none 0 0, .int .i64 0]) m7_ge (fun Al W I => ⟨a0d I.fa.1 I.fa.2.1, True.intro⟩) fun Al W I => ?_
         refine zk [11] I fun I => ?_
         refine zo 16 I fun I => ?_
         refine zx I 20 (fun _ => .agg #[.int .i64 (pkF f), .bool (pgF f g), .slice (ppF f p12) (plF f (dig B32 m).length) (plF f c12), .int .i64 (peF f)]) (fun Al W I => (a0u a0c Tryd.underlying5 I.fa.1 _ (HF p12 _ c12 _ ⟨_, rfl⟩ ⟨_, rfl⟩ ⟨_, rfl⟩))) fun Al W I => ?_
         refine zo 17 I fun I => ?_
         refine zn I fun Al W I => ?_
         exact a0n I J fun Al W U I => hJ _ _ _ _ _ ⟨U, p12, c12, rfl, rfl, rfl⟩ (I.pick [1])
       refine zq I (fun Al W I => (HN W _ (I.box 0 153 _)).out) fun Al W I => ?_
       refine zo2 7 10 I (fun I => ?_) (fun I => ?_)
       · refine zins I a0c Tryd.underlying5 66 (.agg #[.int .i64 2, .bool g, .slice p12 (dig B32 m).length c12, .int .i64 f.g.hi]) m7_ge (fun Al W I => ⟨a0d I.fa.1 I.fa.2.1, True.intro⟩) fun Al W I => ?_
         refine zo 10 I fun I => ?_
         refine zins I a0c Tryd.underlying5 67 (.agg #[.int .i64 (kN : Int), .bool false, .slice none 0 0, .int .i64 0]) m7_ge (fun Al W I => ⟨a0d I.fa.1 I.fa.2.1, True.intro⟩) fun Al W I => ?_
         refine zk [11] I fun I => ?_
         refine zo 16 I fun I => ?_
         refine zx I 20 (fun _ => .agg #[.int .i64 (pkF f), .bool (pgF f g), .slice (ppF f p12) (plF f (dig B32 m).length) (plF f c12), .int .i64 (peF f)]) (fun Al W I => (a0u a0c Tryd.underlying5 I.fa.1 _ (HF p12 _ c12 _ ⟨_, rfl⟩ ⟨_, rfl⟩ ⟨_, rfl⟩))) fun Al W I => ?_
         refine zo 17 I fun I => ?_
         refine zn I fun Al W I => ?_
         exact a0n I J fun Al W U I => hJ _ _ _ _ _ ⟨U, p12, c12, rfl, rfl, rfl⟩ (I.pick [1])
       refine zins I a0c Tryd.underlying5 67 (.agg #[.int .i64 (kN : Int), .bool false, .slice none 0 0, .int .i64 0]) m7_ge (fun Al W I => ⟨a0d I.fa.1 I.fa.2.1, True.intro⟩) fun Al W I => ?_
       refine zo 7 I fun I => ?_
       refine zins I a0c Tryd.underlying5 66 (.agg #[.int .i64 2, .bool g, .slice p12 (dig B32 m).length c12, .int .i64 f.g.hi]) m7_ge (fun Al W I => ⟨a0d I.fa.1 I.fa.2.1, True.intro⟩) fun Al W I => ?_
       refine zk [11] I fun I => ?_
       refine zo 16 I fun I => ?_
       refine zx I 20 (fun _ => .agg #[.int .i64 (pkF f), .bool (pgF f g), .slice (ppF f p12) (plF f (dig B32 m).length) (plF f c12), .int .i64 (peF f)]) (fun Al W I => (a0u a0c Tryd.underlying5 I.fa.1 _ (HF p12 _ c12 _ ⟨_, rfl⟩ ⟨_, rfl⟩ ⟨_, rfl⟩))) fun Al W I => ?_
       refine zo 17 I fun I => ?_
       refine zn I fun Al W I => ?_
       exact a0n I J fun Al W U I => hJ _ _ _ _ _ ⟨U, p12, c12, rfl, rfl, rfl⟩ (I.pick [1])
     · have I := I.pick [1, 0]
       refine zins I a0c Tryd.underlying5 66 (.agg #[.int .i64 2, .bool g, .slice p12 (dig B32 m).length c12, .int .i64 f.g.hi]) m7_ge (fun Al W I => ⟨a0d I.fa.1 I.fa.2.1, True.intro⟩) fun Al W I => ?_
       refine zo2 3 9 I (fun I => ?_) (fun I => ?_)
       · refine zins I a0c Tryd.underlying5 65 (.agg #[.int .i64 3, .bool g, .slice none 0 0, .int .i64 0]) m7_ge (fun Al W I => ⟨a0d I.fa.1 I.fa.2.1, True.intro⟩) fun Al W I => ?_
         refine zo 9 I fun I => ?_
         refine zq I (fun Al W I => (HN W _ (I.box 0 153 _)).out) fun Al W I => ?_
         refine zo 10 I fun I => ?_
         refine zins I a0c Tryd.underlying5 67 (.agg #[.int .i64 (kN : Int), .bool false, .slice none 0 0, .int .i64 0]) m7_ge (fun Al W I => ⟨a0d I.fa.1 I.fa.2.1, True.intro⟩) fun Al W I => ?_
         refine zk [11] I fun I => ?_
         refine zo 16 I fun I => ?_
         refine zx I 20 (fun _ => .agg #[.int .i64 (pkF f), .bool (pgF f g), .slice (ppF f p12) (plF f (dig B32 m).length) (plF f c12), .int .i64 (peF f)]) (fun Al W I => (a0u a0c Tryd.underlying5 I.fa.1 _ (HF p12 _ c12 _ ⟨_, rfl⟩ ⟨_, rfl⟩ ⟨_, rfl⟩))) fun Al W I => ?_
         refine zo 17 I fun I => ?_
         refine zn I fun Al W I => ?_
         exact a0n I J fun Al W U I => hJ _ _ _ _ _ ⟨U, p12, c12, rfl, rfl, rfl⟩ (I.pick [1])
       refine zq I (fun Al W I => (HN W _ (I.box 0 153 _)).out) fun Al W I => ?_
       refine zo2 3 10 I (fun I => ?_) (fun I => ?_)
       · refine zins I a0c Tryd.underlying5 65 (.agg #[.int .i64 3, .bool g, .slice none 0 0, .int .i64 0]) m7_ge (fun Al W I => ⟨a0d I.fa.1 I.fa.2.1, True.intro⟩) fun Al W I => ?_
         refine zo 10 I fun I => ?_
         refine zins I a0c Tryd.underlying5 67 (.agg #[.int .i64 (kN : Int), .bool false, .slice none 0 0, .int .i64 0]) m7_ge (fun Al W I => ⟨a0d I.fa.1 I.fa.2.1, True.intro⟩) fun Al W I => ?_
         refine zk [11] I fun I => ?_
         refine zo 16 I fun I => ?_
         refine zx I 20 (fun _ => .agg #[.int .i64 (pkF f), .bool (pgF f g), .slice (ppF f p12) (plF f (dig B32 m).length) (plF f c12), .int .i64 (peF f)]) (fun Al W I => (a0u a0c Tryd.underlying5 I.fa.1 _ (HF p12 _ c12 _ ⟨_, rfl⟩ ⟨_, rfl⟩ ⟨_, rfl⟩))) fun Al W I => ?_
         refine zo 17 I fun I => ?_
         refine zn I fun Al W I => ?_
         exact a0n I J fun Al W U I => hJ _ _ _ _ _ ⟨U, p12, c12, rfl, rfl, rfl⟩ (I.pick [1])
       refine zins I a0c Tryd.underlying5 67 (.agg #[.int .i64 (kN : Int), .bool false, .slice none 0 0, .int .i64 0]) m7_ge (fun Al W I => ⟨a0d I.fa.1 I.fa.2.1, True.intro⟩) fun Al W I => ?_
       refine zo 3 I fun I => ?_
       refine zins I a0c Tryd.underlying5 65 (.agg #[.int .i64 3, .bool g, .slice none 0 0, .int .i64 0]) m7_ge (fun Al W I => ⟨a0d I.fa.1 I.fa.2.1, True.intro⟩) fun Al W I => ?_
       refine zk [11] I fun I => ?_
       refine zo 16 I fun I => ?_
       refine zx I 20 (fun _ => .agg #[.int .i64 (pkF f), .bool (pgF f g), .slice (ppF f p12) (plF f (dig B32 m).length) (plF f c12), .int .i64 (peF f)]) (fun Al W I => (a0u a0c Tryd.underlying5 I.fa.1 _ (HF p12 _ c12 _ ⟨_, rfl⟩ ⟨_, rfl⟩ ⟨_, rfl⟩))) fun Al W I => ?_
       refine zo 17 I fun I => ?_
       refine zn I fun Al W I => ?_
       exact a0n I J fun Al W U I => hJ _ _ _ _ _ ⟨U, p12, c12, rfl, rfl, rfl⟩ (I.pick [1])
     refine zq I (fun Al W I => (HN W _ (I.box 0 153 _)).out) fun Al W I => ?_
     refine zo3 3 7 10 I (fun I => ?_) (fun I => ?_) (fun I => ?_)
     · have I := I.pick [1, 0]
       refine zins I a0c Tryd.underlying5 65 (.agg #[.int .i64 3, .bool g, .slice none 0 0, .int .i64 0]) m7_ge (fun Al W I => ⟨a0d I.fa.1 I.fa.2.1, True.intro⟩) fun Al W I => ?_
       refine zo2 7 10 I (fun I => ?_) (fun I => ?_)
       · refine zins I a0c Tryd.underlying5 66 (.agg #[.int .i64 2, .bool g, .slice p12 (dig B32 m).length c12, .int .i64 f.g.hi]) m7_ge (fun Al W I => ⟨a0d I.fa.1 I.fa.2.1, True.intro⟩) fun Al W I => ?_
         refine zo 10 I fun I => ?_
         refine zins I a0c Tryd.underlying5 67 (.agg #[.int .i64 (kN : Int), .bool false, .slice none 0 0, .int .i64 0]) m7_ge (fun Al W I => ⟨a0d I.fa.1 I.fa.2.1, True.intro⟩) fun Al W I => ?_
         refine zk [11] I fun I => ?_
         refine zo 16 I fun I => ?_
         refine zx I 20 (fun _ => .agg #[.int .i64 (pkF f), .bool (pgF f g), .slice (ppF f p12) (plF f (dig B32 m).length) (plF f c12), .int .i64 (peF f)]) (fun Al W I => (a0u a0c Tryd.underlying5 I.fa.1 _ (HF p12 _ c12 _ ⟨_, rfl⟩ ⟨_, rfl⟩ ⟨_, rfl⟩))) fun Al W I => ?_
         refine zo 17 I fun I => ?_
         refine zn I fun Al W I => ?_
         exact a0n I J fun Al W U I => hJ _ _ _ _ _ ⟨U, p12, c12, rfl, rfl, rfl⟩ (I.pick [1])
       refine zins I a0c Tryd.underlying5 67 (.agg #[.int .i64 (kN : Int), .bool false, .slice none 0 0, .int .i64 0]) m7_ge (fun Al W I => ⟨a0d I.fa.1 I.fa.2.1, True.intro⟩) fun Al W I => ?_
       refine zo 7 I fun I => ?_
       refine zins I a0c Tryd.underlying5 66 (.agg #[.int .i64 2, .bool g, .slice p12 (dig B32 m).length c12, .int .i64 f.g.hi]) m7_ge (fun Al W I => ⟨a0d I.fa.1 I.fa.2.1, True.intro⟩) fun Al W I => ?_
       refine zk [11] I fun I => ?_
       refine zo 16 I fun I => ?_
       refine zx I 20 (fun _ => .agg #[.int .i64 (pkF f), .bool (pgF f g), .slice (ppF f p12) (plF f (dig B32 m).length) (plF f c12), .int .i64 (peF f)]) (fun Al W I => (a0u a0c Tryd.underlying5 I.fa.1 _ (HF p12 _ c12 _ ⟨_, rfl⟩ ⟨_, rfl⟩ ⟨_, rfl⟩))) fun Al W I => ?_
       refine zo 17 I fun I => ?_
       refine zn I fun Al W I => ?_
       exact a0n I J fun Al W U I => hJ _ _ _ _ _ ⟨U, p12, c12, rfl, rfl, rfl⟩ (I.pick [1])
     · have I := I.pick [1, 0]
       refine zins I a0c Tryd.underlying5 66 (.agg #[.int .i64 2, .bool g, .slice p12 (dig B32 m).length c12, .int .i64 f.g.hi]) m7_ge (fun Al W I => ⟨a0d I.fa.1 I.fa.2.1, True.intro⟩) fun Al W I => ?_
       refine zo2 3 10 I (fun I => ?_) (fun I => ?_)
       · refine zins I a0c Tryd.underlying5 65 (.agg #[.int .i64 3, .bool g, .slice none 0 0, .int .i64 0]) m7_ge (fun Al W I => ⟨a0d I.fa.1 I.fa.2.1, True.intro⟩) fun Al W I => ?_
         refine zo 10 I fun I => ?_
         refine zins I a0c Tryd.underlying5 67 (.agg #[.int .i64 (kN : Int), .bool false, .slice none 0 0, .int .i64 0]) m7_ge (fun Al W I => ⟨a0d I.fa.1 I.fa.2.1, True.intro⟩) fun Al W I => ?_
         refine zk [11] I fun I => ?_
         refine zo 16 I fun I => ?_
         refine zx I 20 (fun _ => .agg #[.int .i64 (pkF f), .bool (pgF f g), .slice (ppF f p12) (plF f (dig B32 m).length) (plF f c12), .int .i64 (peF f)]) (fun Al W I => (a0u a0c Tryd.underlying5 I.fa.1 _ (HF p12 _ c12 _ ⟨_, rfl⟩ ⟨_, rfl⟩ ⟨_, rfl⟩))) fun Al W I => ?_
         refine zo 17 I fun I => ?_
         refine zn I fun Al W I => ?_
         exact a0n I J fun Al W U I => hJ _ _ _ _ _ ⟨U, p12, c12, rfl, rfl, rfl⟩ (I.pick [1])
       refine zins I a0c Tryd.underlying5 67 (.agg #[.int .i64 (kN : Int), .bool false, .slice none 0 0, .int .i64 0]) m7_ge (fun Al W I => ⟨a0d I.fa.1 I.fa.2.1, True.intro⟩) fun Al W I => ?_
       refine zo 3 I fun I => ?_
       refine zins I a0c Tryd.underlying5 65 (.agg #[.int .i64 3, .bool g, .slice none 0 0, .int .i64 0]) m7_ge (fun Al W I => ⟨a0d I.fa.1 I.fa.2.1, True.intro⟩) fun Al W I => ?_
       refine zk [11] I fun I => ?_
       refine zo 16 I fun I => ?_
       refine zx I 20 (fun _ => .agg #[.int .i64 (pkF f), .bool (pgF f g), .slice (ppF f p12) (plF f (dig B32 m).length) (plF f c12), .int .i64 (peF f)]) (fun Al W I => (a0u a0c Tryd.underlying5 I.fa.1 _ (HF p12 _ c12 _ ⟨_, rfl⟩ ⟨_, rfl⟩ ⟨_, rfl⟩))) fun Al W I => ?_
       refine zo 17 I fun I => ?_
       refine zn I fun Al W I => ?_
       exact a0n I J fun Al W U I => hJ _ _ _ _ _ ⟨U, p12, c12, rfl, rfl, rfl⟩ (I.pick [1])
     have I := I.pick [1, 0]
     refine zins I a0c Tryd.underlying5 67 (.agg #[.int .i64 (kN : Int), .bool false, .slice none 0 0, .int .i64 0]) m7_ge (fun Al W I => ⟨a0d I.fa.1 I.fa.2.1, True.intro⟩) fun Al W I => ?_
     refine zo2 3 7 I (fun I => ?_) (fun I => ?_)
     · refine zins I a0c Tryd.underlying5 65 (.agg #[.int .i64 3, .bool g, .slice none 0 0, .int .i64 0]) m7_ge (fun Al W I => ⟨a0d I.fa.1 I.fa.2.1, True.intro⟩) fun Al W I => ?_
       refine zo 7 I fun I => ?_
       refine zins I a0c Tryd.underlying5 66 (.agg #[.int .i64 2, .bool g, .slice p12 (dig B32 m).length c12, .int .i64 f.g.hi]) m7_ge (fun Al W I => ⟨a0d I.fa.1 I.fa.2.1, True.intro⟩) fun Al W I => ?_
       refine zk [11] I fun I => ?_
       refine zo 16 I fun I => ?_
       refine zx I 20 (fun _ => .agg #[.int .i64 (pkF f), .bool (pgF f g), .slice (ppF f p12) (plF f (dig B32 m).length) (plF f c12), .int .i64 (peF f)]) (fun Al W I => (a0u a0c Tryd.underlying5 I.fa.1 _ (HF p12 _ c12 _ ⟨_, rfl⟩ ⟨_, rfl⟩ ⟨_, rfl⟩))) fun Al W I => ?_
       refine zo 17 I fun I => ?_
       refine zn I fun Al W I => ?_
       exact a0n I J fun Al W U I => hJ _ _ _ _ _ ⟨U, p12, c12, rfl, rfl, rfl⟩ (I.pick [1])
     refine zins I a0c Tryd.underlying5 66 (.agg #[.int .i64 2, .bool g, .slice p12 (dig B32 m).length c12, .int .i64 f.g.hi]) m7_ge (fun Al W I => ⟨a0d I.fa.1 I.fa.2.1, True.intro⟩) fun Al W I => ?_
     refine zo 3 I fun I => ?_
     refine zins I a0c Tryd.underlying5 65 (.agg #[.int .i64 3, .bool g, .slice none 0 0, .int .i64 0]) m7_ge (fun Al W I => ⟨a0d I.fa.1 I.fa.2.1, True.intro⟩) fun Al W I => ?_
     refine zk [11] I fun I => ?_
     refine zo 16 I fun I => ?_
     refine zx I 20 (fun _ => .agg #[.int .i64 (pkF f), .bool (pgF f g), .slice (ppF f p12) (plF f (dig B32 m).length) (plF f c12), .int .i64 (peF f)]) (fun Al W I => (a0u a0c Tryd.underlying5 I.fa.1 _ (HF p12 _ c12 _ ⟨_, rfl⟩ ⟨_, rfl⟩ ⟨_, rfl⟩))) fun Al W I => ?_
     refine zo 17 I fun I => ?_
     refine zn I fun Al W I => ?_
     exact a0n I J fun Al W U I => hJ _ _ _ _ _ ⟨U, p12, c12, rfl, rfl, rfl⟩ (I.pick [1])
   refine zqo I (fun Al W I => (HG W _ (I.box 0 153 _)).out) fun Al W p12 c12 I => ?_
   refine zo2 0 9 I (fun I => ?_) (fun I => ?_)
   · refine zmkm I 182 fun Al W m7_b m7_ge I => ?_
     refine zo3 3 7 9 I (fun I => ?_) (fun I => ?_) (fun I => ?_)
     · refine zins I a0c Tryd.underlying5 65 (.agg #[.int .i64 3, .bool g, .slice none 0 0, .int .i64 0]) m7_ge (fun Al W I => ⟨a0d I.fa.1 I.fa.2.1, True.intro⟩) fun Al W I => ?_
       refine zo2 7 9 I (fun I => ?_) (fun I => ?_)
       · refine zins I a0c Tryd.underlying5 66 (.agg #[.int .i64 2, .bool g, .slice p12 (dig B32 m).length c12, .int .i64 f.g.hi]) m7_ge (fun Al W I => ⟨a0d I.fa.1 I.fa.2.1, True.intro⟩) fun Al W I => ?_
         refine zo 9 I fun I => ?_
         refine zq I (fun Al W I => (HN W _ (I.box 0 153 _)).out) fun Al W I => ?_
         refine zo 10 I fun I => ?_
         refine zins I a0c Tryd.underlying5 67 (.agg #[.int .i64 (kN : Int), .bool false, .slice none 0 0, .int .i64 0]) m7_ge (fun Al W I => ⟨a0d I.fa.1 I.fa.2.1, True.intro⟩) fun Al W I => ?_
         refine zk [11] I fun I => ?_
         refine zo 16 I fun I => ?_
         refine zx I 20 (fun _ => .agg #[.int .i64 (pkF f), .bool (pgF f g), .slice (ppF f p12) (plF f (dig B32 m).length) (plF f c12), .int .i64 (peF f)]) (fun Al W I => (a0u a0c Tryd.underlying5 I.fa.1 _ (HF p12 _ c12 _ ⟨_, rfl⟩ ⟨_, rfl⟩ ⟨_, rfl⟩))) fun Al W I => ?_
         refine zo 17 I fun I => ?_
         refine zn I fun Al W I => ?_
         exact a0n I J fun Al W U I => hJ _ _ _ _ _ ⟨U, p12, c12, rfl, rfl, rfl⟩ (I.pick [1])
       refine zq I (fun Al W I => (HN W _ (I.box 0 153 _)).out) fun Al W I => ?_
       refine zo2 7 10 I (fun I => ?_) (fun I => ?_)
       · refine zins I a0c Tryd.underlying5 66 (.agg #[.int .i64 2, .bool g, .slice p12 (dig B32 m).length c12, .int .i64 f.g.hi]) m7_ge (fun Al W I => ⟨a0d I.fa.1 I.fa.2.1, True.intro⟩) fun Al W I => ?_
         refine zo 10 I fun I => ?_
         refine zins I a0c Tryd.underlying5 67 (.agg #[.int .i64 (kN : Int), .bool false, .slice none 0 0, .int .i64 0]) m7_ge (fun Al W I => ⟨a0d I.fa.1 I.fa.2.1, True.intro⟩) fun Al W I => ?_
         refine zk [11] I fun I => ?_
         refine zo 16 I fun I => ?_
         refine zx I 20 (fun _ => .agg #[.int .i64 (pkF f), .bool (pgF f g), .slice (ppF f p12) (plF f (dig B32 m).length) (plF f c12), .int .i64 (peF f)]) (fun Al W I => (a0u a0c Tryd.underlying5 I.fa.1 _ (HF p12 _ c12 _ ⟨_, rfl⟩ ⟨_, rfl⟩ ⟨_, rfl⟩))) fun Al W I => ?_
         refine zo 17 I fun I => ?_
         refine zn I fun Al W I => ?_
         exact a0n I J fun Al W U I => hJ _ _ _ _ _ ⟨U, p12, c12, rfl, rfl, rfl⟩ (I.pick [1])
       refine zins I a0c Tryd.underlying5 67 (.agg #[.int .i64 (kN : Int), .bool false, .slice none 0 0, .int .i64 0]) m7_ge (fun Al W I => ⟨a0d I.fa.1 I.fa.2.1, True.intro⟩) fun Al W I => ?_
       refine zo 7 I fun I => ?_
       refine zins I a0c Tryd.underlying5 66 (.agg #[.int .i64 2, .bool g, .slice p12 (dig B32 m).length c12, .int .i64 f.g.hi]) m7_ge (fun Al W I => ⟨a0d I.fa.1 I.fa.2.1, True.intro⟩) fun Al W I => ?_
       refine zk [11] I fun I => ?_
       refine zo 16 I fun I => ?_
       refine zx I 20 (fun _ => .agg #[.int .i64 (pkF f), .bool (pgF f g), .slice (ppF f p12) (plF f (dig B32 m).length) (plF f c12), .int .i64 (peF f)]) (fun Al W I => (a0u a0c Tryd.underlying5 I.fa.1 _ (HF p12 _ c12 _ ⟨_, rfl⟩ ⟨_, rfl⟩ ⟨_, rfl⟩))) fun Al W I => ?_
       refine zo 17 I fun I => ?_
       refine zn I fun Al W I => ?_
       exact a0n I J fun Al W U I => hJ _ _ _ _ _ ⟨U, p12, c12, rfl, rfl, rfl⟩ (I.pick [1])
     · refine zins I a0c Tryd.underlying5 66 (.agg #[.int .i64 2, .bool g, .slice p12 (dig B32 m).length c12, .int .i64 f.g.hi]) m7_ge (fun Al W I => ⟨a0d I.fa.1 I.fa.2.1, True.intro⟩) fun Al W I => ?_
       refine zo2 3 9 I (fun I => ?_) (fun I => ?_)
       · refine zins I a0c Tryd.underlying5 65 (.agg #[.int .i64 3, .bool g, .slice none 0 0, .int .i64 0]) m7_ge (fun Al W I => ⟨a0d I.fa.1 I.fa.2.1, True.intro⟩) fun Al W I => ?_
         refine zo 9 I fun I => ?_
         refine zq I (fun Al W I => (HN W _ (I.box 0 153 _)).out) fun Al W I => ?_
         refine zo 10 I fun I => ?_
         refine zins I a0c Tryd.underlying5 67 (.agg #[.int .i64 (kN : Int), .bool false, .slice none 0 0, .int .i64 0]) m7_ge (fun Al W I => ⟨a0d I.fa.1 I.fa.2.1, True.intro⟩) fun Al W I => ?_
         refine zk [11] I fun I => ?_
         refine zo 16 I fun I => ?_
         refine zx I 20 (fun _ => .agg #[.int .i64 (pkF f), .bool (pgF f g), .slice (ppF f p12) (plF f (dig B32 m).length) (plF f c12), .int .i64 (peF f)]) (fun Al W I => (a0u a0c Tryd.underlying5 I.fa.1 _ (HF p12 _ c12 _ ⟨_, rfl⟩ ⟨_, rfl⟩ ⟨_, rfl⟩))) fun Al W I => ?_
         refine zo 17 I fun I => ?_
         refine zn I fun Al W I => ?_
         exact a0n I J fun Al W U I => hJ _ _ _ _ _ ⟨U, p12, c12, rfl, rfl, rfl⟩ (I.pick [1])
       refine zq I (fun Al W I => (HN W _ (I.box 0 153 _)).out) fun Al W I => ?_
       refine zo2 3 10 I (fun I => ?_) (fun I => ?_)
       · refine zins I a0c Tryd.underlying5 65 (.agg #[.int .i64 3, .bool g, .slice none 0 0, .int .i64 0]) m7_ge (fun Al W I => ⟨a0d I.fa.1 I.fa.2.1, True.intro⟩) fun Al W I => ?_
         refine zo 10 I fun I => ?_
         refine zins I a0c Tryd.underlying5 67 (.agg #[.int .i64 (kN : Int), .bool false, .slice none 0 0, .int .i64 0]) m7_ge (fun Al W I => ⟨a0d I.fa.1 I.fa.2.1, True.intro⟩) fun Al W I => ?_
         refine zk [11] I fun I => ?_
         refine zo 16 I fun I => ?_
         refine zx I 20 (fun _ => .agg #[.int .i64 (pkF f), .bool (pgF f g), .slice (ppF f p12) (plF f (dig B32 m).length) (plF f c12), .int .i64 (peF f)]) (fun Al W I => (a0u a0c Tryd.underlying5 I.fa.1 _ (HF p12 _ c12 _ ⟨_, rfl⟩ ⟨_, rfl⟩ ⟨_, rfl⟩))) fun Al W I => ?_
         refine zo 17 I fun I => ?_
         refine zn I fun Al W I => ?_
         exact a0n I J fun Al W U I => hJ _ _ _ _ _ ⟨U, p12, c12, rfl, rfl, rfl⟩ (I.pick [1])
       refine zins I a0c Tryd.underlying5 67 (.agg #[.int .i64 (kN : Int), .bool false, .slice none 0 0, .int .i64 0]) m7_ge (fun Al W I => ⟨a0d I.fa.1 I.fa.2.1, True.intro⟩) fun Al W I => ?_
       refine zo 3 I fun I => ?_
       refine zins I a0c Tryd.underlying5 65 (.agg #[.int .i64 3, .bool g, .slice none 0 0, .int .i64 0]) m7_ge (fun Al W I => ⟨a0d I.fa.1 I.fa.2.1, True.intro⟩) fun Al W I => ?_
       refine zk [11] I fun I => ?_
       refine zo 16 I fun I => ?_
       refine zx I 20 (fun _ => .agg #[.int .i64 (pkF f), .bool (pgF f g), .slice (ppF f p12) (plF f (dig B32 m).length) (plF f c12), .int .i64 (peF f)]) (fun Al W I => (a0u a0c Tryd.underlying5 I.fa.1 _ (HF p12 _ c12 _ ⟨_, rfl⟩ ⟨_, rfl⟩ ⟨_, rfl⟩))) fun Al W I => ?_
       refine zo 17 I fun I => ?_
       refine zn I fun Al W I => ?_
       exact a0n I J fun Al W U I => hJ _ _ _ _ _ ⟨U, p12, c12, rfl, rfl, rfl⟩ (I.pick [1])
     refine zq I (fun Al W I => (HN W _ (I.box 0 153 _)).out) fun Al W I => ?_
     refine zo3 3 7 10 I (fun I => ?_) (fun I => ?_) (fun I => ?_)
     · refine zins I a0c Tryd.underlying5 65 (.agg #[.int .i64 3, .bool g, .slice none 0 0, .int .i64 0]) m7_ge (fun Al W I => ⟨a0d I.fa.1 I.fa.2.1, True.intro⟩) fun Al W I => ?_
       refine zo2 7 10 I (fun I => ?_) (fun I => ?_)
       · refine zins I a0c Tryd.underlying5 66 (.agg #[.int .i64 2, .bool g, .slice p12 (dig B32 m).length c12, .int .i64 f.g.hi]) m7_ge (fun Al W I => ⟨a0d I.fa.1 I.fa.2.1, True.intro⟩) fun Al W I => ?_
         refine zo 10 I fun I => ?_
         refine zins I a0c Tryd.underlying5 67 (.agg #[.int .i64 (kN : Int), .bool false, .slice none 0 0, .int .i64 0]) m7_ge (fun Al W I => ⟨a0d I.fa.1 I.fa.2.1, True.intro⟩) fun Al W I => ?_
         refine zk [11] I fun I => ?_
         refine zo 16 I fun I => ?_
         refine zx I 20 (fun _ => .agg #[.int .i64 (pkF f), .bool (pgF f g), .slice (ppF f p12) (plF f (dig B32 m).length) (plF f c12), .int .i64 (peF f)]) (fun Al W I => (a0u a0c Tryd.underlying5 I.fa.1 _ (HF p12 _ c12 _ ⟨_, rfl⟩ ⟨_, rfl⟩ ⟨_, rfl⟩))) fun Al W I => ?_
         refine zo 17 I fun I => ?_
         refine zn I fun Al W I => ?_
         exact a0n I J fun Al W U I => hJ _ _ _ _ _ ⟨U, p12, c12, rfl, rfl, rfl⟩ (I.pick [1])
       refine zins I a0c Tryd.underlying5 67 (.agg #[.int .i64 (kN : Int), .bool false, .slice none 0 0, .int .i64 0]) m7_ge (fun Al W I => ⟨a0d I.fa.1 I.fa.2.1, True.intro⟩) fun Al W I => ?_
       refine zo 7 I fun I => ?_
       refine zins I a0c Tryd.underlying5 66 (.agg #[.int .i64 2, .bool g, .slice p12 (dig B32 m).length c12, .int .i64 f.g.hi]) m7_ge (fun Al W I => ⟨a0d I.fa.1 I.fa.2.1, True.intro⟩) fun Al W I => ?_
       refine zk [11] I fun I => ?_
       refine zo 16 I fun I => ?_
       refine zx I 20 (fun _ => .agg #[.int .i64 (pkF f), .bool (pgF f g), .slice (ppF f p12) (plF f (dig B32 m).length) (plF f c12), .int .i64 (peF f)]) (fun Al W I => (a0u a0c Tryd.underlying5 I.fa.1 _ (HF p12 _ c12 _ ⟨_, rfl⟩ ⟨_, rfl⟩ ⟨_, rfl⟩))) fun Al W I => ?_
       refine zo 17 I fun I => ?_
       refine zn I fun Al W I => ?_
       exact a0n I J fun Al W U I => hJ _ _ _ _ _ ⟨U, p12, c12, rfl, rfl, rfl⟩ (I.pick [1])
     · refine zins I a0c Tryd.underlying5 66 (.agg #[.int .i64 2, .bool g, .slice p12 (dig B32 m).length c12, .int .i64 f.g.hi]) m7_ge (fun Al W I => ⟨a0d I.fa.1 I.fa.2.1, True.intro⟩) fun Al W I => ?_
       refine zo2 3 10 I (fun I => ?_) (fun I => ?_)
       · refine zins I a0c Tryd.underlying5 65 (.agg #[.int .i64 3, .bool g, .slice none 0 0, .int .i64 0]) m7_ge (fun Al W I => ⟨a0d I.fa.1 I.fa.2.1, True.intro⟩) fun Al W I => ?_
         refine zo 10 I fun I => ?_
         refine zins I a0c Tryd.underlying5 67 (.agg #[.int .i64 (kN : Int), .bool false, .slice none 0 0, .int .i64 0]) m7_ge (fun Al W I => ⟨a0d I.fa.1 I.fa.2.1, True.intro⟩) fun Al W I => ?_
         refine zk [11] I fun I => ?_
         refine zo 16 I fun I => ?_
         refine zx I 20 (fun _ => .agg #[.int .i64 (pkF f), .bool (pgF f g), .slice (ppF f p12) (plF f (dig B32 m).length) (plF f c12), .int .i64 (peF f)]) (fun Al W I => (a0u a0c Tryd.underlying5 I.fa.1 _ (HF p12 _ c12 _ ⟨_, rfl⟩ ⟨_, rfl⟩ ⟨_, rfl⟩))) fun Al W I => ?_
         refine zo 17 I fun I => ?_
         refine zn I fun Al W I => ?_
         exact a0n I J fun Al W U I => hJ _ _ _ _ _ ⟨U, p12, c12, rfl, rfl, rfl⟩ (I.pick [1])
       refine zins I a0c Tryd.underlying5 67 (.agg #[.int .i64 (kN : Int), .bool false, .slice none 0 0, .int .i64 0]) m7_ge (fun Al W I => ⟨a0d I.fa.1 I.fa.2.1, True.intro⟩) fun Al W I => ?_
       refine zo 3 I fun I => ?_
       refine zins I a0c Tryd.underlying5 65 (.agg #[.int .i64 3, .bool g, .slice none 0 0, .int .i64 0]) m7_ge (fun Al W I => ⟨a0d I.fa.1 I.fa.2.1, True.intro⟩) fun Al W I => ?_
       refine zk [11] I fun I => ?_
       refine zo 16 I fun I => ?_
       refine zx I 20 (fun _ => .agg #[.int .i64 (pkF f), .bool (pgF f g), .slice (ppF f p12) (plF f (dig B32 m).length) (plF f c12), .int .i64 (peF f)]) (fun Al W I => (a0u a0c Tryd.underlying5 I.fa.1 _ (HF p12 _ c12 _ ⟨_, rfl⟩ ⟨_, rfl⟩ ⟨_, rfl⟩))) fun Al W I => ?_
       refine zo 17 I fun I => ?_
       refine zn I fun Al W I => ?_
       exact a0n I J fun Al W U I => hJ _ _ _ _ _ ⟨U, p12, c12, rfl, rfl, rfl⟩ (I.pick [1])
     refine zins I a0c Tryd.underlying5 67 (.agg #[.int .i64 (kN : Int), .bool false, .slice none 0 0, .int .i64 0]) m7_ge (fun Al W I => ⟨a0d I.fa.1 I.fa.2.1, True.intro⟩) fun Al W I => ?_
     refine zo2 3 7 I (fun I => ?_) (fun I => ?_)
     · refine zins I a0c Tryd.underlying5 65 (.agg #[.int .i64 3, .bool g, .slice none 0 0, .int .i64 0]) m7_ge (fun Al W I => ⟨a0d I.fa.1 I.fa.2.1, True.intro⟩) fun Al W I => ?_
       refine zo 7 I fun I => ?_
       refine zins I a0c Tryd.underlying5 66 (.agg #[.int .i64 2, .bool g, .slice p12 (dig B32 m).length c12, .int .i64 f.g.hi]) m7_ge (fun Al W I => ⟨a0d I.fa.1 I.fa.2.1, True.intro⟩) fun Al W I => ?_
       refine zk [11] I fun I => ?_
       refine zo 16 I fun I => ?_
       refine zx I 20 (fun _ => .agg #[.int .i64 (pkF f), .bool (pgF f g), .slice (ppF f p12) (plF f (dig B32 m).length) (plF f c12), .int .i64 (peF f)]) (fun Al W I => (a0u a0c Tryd.underlying5 I.fa.1 _ (HF p12 _ c12 _ ⟨_, rfl⟩ ⟨_, rfl⟩ ⟨_, rfl⟩))) fun Al W I => ?_
       refine zo 17 I fun I => ?_
       refine zn I fun Al W I => ?_
       exact a0n I J fun Al W U I => hJ _ _ _ _ _ ⟨U, p12, c12, rfl, rfl, rfl⟩ (I.pick [1])
     refine zins I a0c Tryd.underlying5 66 (.agg #[.int .i64 2, .bool g, .slice p12 (dig B32 m).length c12, .int .i64 f.g.hi]) m7_ge (fun Al W I => ⟨a0d I.fa.1 I.fa.2.1, True.intro⟩) fun Al W I => ?_
     refine zo 3 I fun I => ?_
     refine zins I a0c Tryd.underlying5 65 (.agg #[.int .i64 3, .bool g, .slice none 0 0, .int .i64 0]) m7_ge (fun Al W I => ⟨a0d I.fa.1 I.fa.2.1, True.intro⟩) fun Al W I => ?_
     refine zk [11] I fun I => ?_
     refine zo 16 I fun I => ?_
     refine zx I 20 (fun _ => .agg #[.int .i64 (pkF f), .bool (pgF f g), .slice (ppF f p12) (plF f (dig B32 m).length) (plF f c12), .int .i64 (peF f)]) (fun Al W I => (a0u a0c Tryd.underlying5 I.fa.1 _ (HF p12 _ c12 _ ⟨_, rfl⟩ ⟨_, rfl⟩ ⟨_, rfl⟩))) fun Al W I => ?_
     refine zo 17 I fun I => ?_
     refine zn I fun Al W I => ?_
     exact a0n I J fun Al W U I => hJ _ _ _ _ _ ⟨U, p12, c12, rfl, rfl, rfl⟩ (I.pick [1])
   refine zq I (fun Al W I => (HN W _ (I.box 0 153 _)).out) fun Al W I => ?_
   refine zo 0 I fun I => ?_
   refine zmkm I 182 fun Al W m7_b m7_ge I => ?_
   refine zo3 3 7 10 I (fun I => ?_) (fun I => ?_) (fun I => ?_)
   · refine zins I a0c Tryd.underlying5 65 (.agg #[.int .i64 3, .bool g, .slice none 0 0, .int .i64 0]) m7_ge (fun Al W I => ⟨a0d I.fa.1 I.fa.2.1, True.intro⟩) fun Al W I => ?_
     refine zo2 7 10 I (fun I => ?_) (fun I => ?_)
     · refine zins I a0c Tryd.underlying5 66 (.agg #[.int .i64 2, .bool g, .slice p12 (dig B32 m).length c12, .int .i64 f.g.hi]) m7_ge (fun Al W I => ⟨a0d I.fa.1 I.fa.2.1, True.intro⟩) fun Al W I => ?_
       refine zo 10 I fun I => ?_
       refine zins I a0c Tryd.underlying5 67 (.agg #[.int .i64 (kN : Int), .bool false, .slice none 0 0, .int .i64 0]) m7_ge (fun Al W I => ⟨a0d I.fa.1 I.fa.2.1, True.intro⟩) fun Al W I => ?_
       refine zk [11] I fun I => ?_
       refine zo 16 I fun I => ?_
       refine zx I 20 (fun _ => .agg #[.int .i64 (pkF f), .bool (pgF f g), .slice (ppF f p12) (plF f (dig B32 m).length) (plF f c12), .int .i64 (peF f)]) (fun Al W I => (a0u a0c Tryd.underlying5 I.fa.1 _ (HF p12 _ c12 _ ⟨_, rfl⟩ ⟨_, rfl⟩ ⟨_, rfl⟩))) fun Al W I => ?_
       refine zo 17 I fun I => ?_
       refine zn I fun Al W I => ?_
       exact a0n I J fun Al W U I => hJ _ _ _ _ _ ⟨U, p12, c12, rfl, rfl, rfl⟩ (I.pick [1])
     refine zins I a0c Tryd.underlying5 67 (.agg #[.int .i64 (kN : Int), .bool false, .slice none 0 0, .int .i64 0]) m7_ge (fun Al W I => ⟨a0d I.fa.1 I.fa.2.1, True.intro⟩) fun Al W I => ?_
     refine zo 7 I fun I => ?_
     refine zins I a0c Tryd.underlying5 66 (.agg #[.int .i64 2, .bool g, .slice p12 (dig B32 m).length c12, .int .i64 f.g.hi]) m7_ge (fun Al W I => ⟨a0d I.fa.1 I.fa.2.1, True.intro⟩) fun Al W I => ?_
     refine zk [11] I fun I => ?_
     refine zo 16 I fun I => ?_
     refine zx I 20 (fun _ => .agg #[.int .i64 (pkF f), .bool (pgF f g), .slice (ppF f p12) (plF f (dig B32 m).length) (plF f c12), .int .i64 (peF f)]) (fun Al W I => (a0u a0c Tryd.underlying5 I.fa.1 _ (HF p12 _ c12 _ ⟨_, rfl⟩ ⟨_, rfl⟩ ⟨_, rfl⟩))) fun Al W I => ?_
     refine zo 17 I fun I => ?_
     refine zn I fun Al W I => ?_
     exact a0n I J fun Al W U I => hJ _ _ _ _ _ ⟨U, p12, c12, rfl, rfl, rfl⟩ (I.pick [1])
   · refine zins I a0c Tryd.underlying5 66 (.agg #[.int .i64 2, .bool g, .slice p12 (dig B32 m).length c12, .int .i64 f.g.hi]) m7_ge (fun Al W I => ⟨a0d I.fa.1 I.fa.2.1, True.intro⟩) fun Al W I => ?_
     refine zo2 3 10 I (fun I => ?_) (fun I => ?_)
     · refine zins I a0c Tryd.underlying5 65 (.agg #[.int .i64 3, .bool g, .slice none 0 0, .int .i64 0]) m7_ge (fun Al W I => ⟨a0d I.fa.1 I.fa.2.1, True.intro⟩) fun Al W I => ?_
       refine zo 10 I fun I => ?_
       refine zins I a0c Tryd.underlying5 67 (.agg #[.int .i64 (kN : Int), .bool false, .slice none 0 0, .int .i64 0]) m7_ge (fun Al W I => ⟨a0d I.fa.1 I.fa.2.1, True.intro⟩) fun Al W I => ?_
       refine zk [11] I fun I => ?_
       refine zo 16 I fun I => ?_
       refine zx I 20 (fun _ => .agg #[.int .i64 (pkF f), .bool (pgF f g), .slice (ppF f p12) (plF f (dig B32 m).length) (plF f c12), .int .i64 (peF f)]) (fun Al W I => (a0u a0c Tryd.underlying5 I.fa.1 _ (HF p12 _ c12 _ ⟨_, rfl⟩ ⟨_, rfl⟩ ⟨_, rfl⟩))) fun Al W I => ?_
       refine zo 17 I fun I => ?_
       refine zn I fun Al W I => ?_
       exact a0n I J fun Al W U I => hJ _ _ _ _ _ ⟨U, p12, c12, rfl, rfl, rfl⟩ (I.pick [1])
     refine zins I a0c Tryd.underlying5 67 (.agg #[.int .i64 (kN : Int), .bool false, .slice none 0 0, .int .i64 0]) m7_ge (fun Al W I => ⟨a0d I.fa.1 I.fa.2.1, True.intro⟩) fun Al W I => ?_
     refine zo 3 I fun I => ?_
     refine zins I a0c Tryd.underlying5 65 (.agg #[.int .i64 3, .bool g, .slice none 0 0, .int .i64 0]) m7_ge (fun Al W I => ⟨a0d I.fa.1 I.fa.2.1, True.intro⟩) fun Al W I => ?_
     refine zk [11] I fun I => ?_
     refine zo 16 I fun I => ?_
     refine zx I 20 (fun _ => .agg #[.int .i64 (pkF f), .bool (pgF f g), .slice (ppF f p12) (plF f (dig B32 m).length) (plF f c12), .int .i64 (peF f)]) (fun Al W I => (a0u a0c Tryd.underlying5 I.fa.1 _ (HF p12 _ c12 _ ⟨_, rfl⟩ ⟨_, rfl⟩ ⟨_, rfl⟩))) fun Al W I => ?_
     refine zo 17 I fun I => ?_
     refine zn I fun Al W I => ?_
     exact a0n I J fun Al W U I => hJ _ _ _ _ _ ⟨U, p12, c12, rfl, rfl, rfl⟩ (I.pick [1])
   refine zins I a0c Tryd.underlying5 67 (.agg #[.int .i64 (kN : Int), .bool false, .slice none 0 0, .int .i64 0]) m7_ge (fun Al W I => ⟨a0d I.fa.1 I.fa.2.1, True.intro⟩) fun Al W I => ?_
   refine zo2 3 7 I (fun I => ?_) (fun I => ?_)
   · refine zins I a0c Tryd.underlying5 65 (.agg #[.int .i64 3, .bool g, .slice none 0 0, .int .i64 0]) m7_ge (fun Al W I => ⟨a0d I.fa.1 I.fa.2.1, True.intro⟩) fun Al W I => ?_
     refine zo 7 I fun I => ?_
     refine zins I a0c Tryd.underlying5 66 (.agg #[.int .i64 2, .bool g, .slice p12 (dig B32 m).length c12, .int .i64 f.g.hi]) m7_ge (fun Al W I => ⟨a0d I.fa.1 I.fa.2.1, True.intro⟩) fun Al W I => ?_
     refine zk [11] I fun I => ?_
     refine zo 16 I fun I => ?_
     refine zx I 20 (fun _ => .agg #[.int .i64 (pkF f), .bool (pgF f g), .slice (ppF f p12) (plF f (dig B32 m).length) (plF f c12), .int .i64 (peF f)]) (fun Al W I => (a0u a0c Tryd.underlying5 I.fa.1 _ (HF p12 _ c12 _ ⟨_, rfl⟩ ⟨_, rfl⟩ ⟨_, rfl⟩))) fun Al W I => ?_
     refine zo 17 I fun I => ?_
     refine zn I fun Al W I => ?_
     exact a0n I J fun Al W U I => hJ _ _ _ _ _ ⟨U, p12, c12, rfl, rfl, rfl⟩ (I.pick [1])
   refine zins I a0c Tryd.underlying5 66 (.agg #[.int .i64 2, .bool g, .slice p12 (dig B32 m).length c12, .int .i64 f.g.hi]) m7_ge (fun Al W I => ⟨a0d I.fa.1 I.fa.2.1, True.intro⟩) fun Al W I => ?_
   refine zo 3 I fun I => ?_
   refine zins I a0c Tryd.underlying5 65 (.agg #[.int .i64 3, .bool g, .slice none 0 0, .int .i64 0]) m7_ge (fun Al W I => ⟨a0d I.fa.1 I.fa.2.1, True.intro⟩) fun Al W I => ?_
   refine zk [11] I fun I => ?_
   refine zo 16 I fun I => ?_
   refine zx I 20 (fun _ => .agg #[.int .i64 (pkF f), .bool (pgF f g), .slice (ppF f p12) (plF f (dig B32 m).length) (plF f c12), .int .i64 (peF f)]) (fun Al W I => (a0u a0c Tryd.underlying5 I.fa.1 _ (HF p12 _ c12 _ ⟨_, rfl⟩ ⟨_, rfl⟩ ⟨_, rfl⟩))) fun Al W I => ?_
   refine zo 17 I fun I => ?_
   refine zn I fun Al W I => ?_
   exact a0n I J fun Al W U I => hJ _ _ _ _ _ ⟨U, p12, c12, rfl, rfl, rfl⟩ (I.pick [1])
 rintro _ _ _ ⟨U1, p12, c12, rfl, rfl, rfl⟩ Al W I
 exact zret I fun Al W I => HE _ p12 c12 I.fa.1 I.bel (I.boxE 153 _)
theorem j1m (f : Fm) (n way : Int) (a b : Vp) (ra rb : Vr) (base u : Nat) (w : World) (U : Bt w u 153 #[.int .i64 n, .int .i64 way, .int .i64 f.g.rad, .int .i64 f.g.digs, .int .i64 f.g.lo, .int .i64 f.g.hi, .bool f.g.grad, .int .u8 (famB f), .int .i64 0]) (oa : Own w base .u32 76 a.p a.c (dig B32 a.v.d)) (ob : Own w base .u32 76 b.p b.c (dig B32 b.v.d)) (hb : base ≤ w.heap.size)
 (A1 : AtV f a ra) (B1 : AtV f b rb) (G : b0b f) (hw : 1 ≤ way ∧ way ≤ 5) (hT : TabW w) :
 Calls Tryd.prog 67 #[.pointer (some ⟨u, 0, none⟩), .agg #[.int .i64 (a.v.cls : Int), .bool a.v.neg, .slice a.p (dig B32 a.v.d).length a.c, .int .i64 a.v.pow], .agg #[.int .i64 (b.v.cls : Int), .bool b.v.neg, .slice b.p (dig B32 b.v.d).length b.c, .int .i64 b.v.pow]] w (d0p f n way u w base (f.divM ra rb way)) := by
 have hM : f.divM ra rb way = if 4 ≤ a.v.cls ∨ 4 ≤ b.v.cls then f.offM else if (a.v.cls = 3 ∧ b.v.cls = 3) ∨ (a.v.cls = 1 ∧ b.v.cls = 1) then f.lostM else if a.v.cls = 3 then (infM (a.v.neg != b.v.neg), 0) else if b.v.cls = 3 ∨ a.v.cls = 1 then (f.zeroM (a.v.neg != b.v.neg), 0) else if b.v.cls = 1 then f.poleM (a.v.neg != b.v.neg) else f.placedM (a0p (a.v.neg != b.v.neg) ra.x.m rb.x.m (ra.x.e - rb.x.e) f.g way) way := by
  unfold Fm.divM; rw [A1.rep.cls, B1.rep.cls, A1.rep.neg, B1.rep.neg]
 have hca : a.v.cls ≤ 5 := by rw [A1.rep.cls]; exact A1.ok.c.2
 have hcb : b.v.cls ≤ 5 := by rw [B1.rep.cls]; exact B1.ok.c.2
 have hca1 : 1 ≤ a.v.cls := by rw [A1.rep.cls]; exact A1.ok.c.1
 have hcb1 : 1 ≤ b.v.cls := by rw [B1.rep.cls]; exact B1.ok.c.1
 have hpa : a.v.cls = 2 → 0 < ra.x.m := fun h => by have := (A1.ok.x2 (by rw [← A1.rep.cls]; exact h)).1; omega
 have hpb : b.v.cls = 2 → 0 < rb.x.m := fun h => by have := (B1.ok.x2 (by rw [← B1.rep.cls]; exact h)).1; omega
 have HY := fun W b0 u h1 h2 h3 => hi0 (r0i f n way [a, b] b0 2 u W h1 h2 rfl (by simp) (by simp [hca, hcb]) G h3)
 have HN := fun W b0 u h1 h2 h3 => hi0 (y0t f n way 0 [a, b] b0 2 u W h1 h2 rfl (by simp) h3)
 have HL := fun W u h1 => hi0 (y0v f n way u W h1)
 have HZ := fun W u h1 => hi0 (p0m f n way 0 (a.v.neg != b.v.neg) u W h1)
 have HPo := fun W u h1 => hi0 (i1h f n way (a.v.neg != b.v.neg) u W h1 G)
 have HA := fun W u h1 h2 h3 => hi0 (p0o f n way 0 a.v ra a.p a.c base u W h1 h2 A1.rep A1.ok h3)
 have HB := fun W u h1 h2 h3 => hi0 (p0o f n way 0 b.v rb b.p b.c base u W h1 h2 B1.rep B1.ok h3)
 have l1 := A1.ok.len
 have l2 := B1.ok.len
 have l3 := A1.ok.lo
 have l4 := A1.ok.hi
 have l5 := B1.ok.lo
 have l6 := B1.ok.hi
 have HF := fun W p q c d u h1 h2 h3 h4 h5 => hi0 (i1d f n way (a.v.neg != b.v.neg) p q c d ra.x.m rb.x.m (ra.x.e - rb.x.e) u W h1 h2 h3 (by omega) (by omega) h4 h5 (by omega) G hw)
 have HV := fun h => (g0q G (neg := a.v.neg != b.v.neg) (num := ra.x.m) (den := rb.x.m) (e := ra.x.e - rb.x.e) (way := way) h).2
 have hoffm : f.offM = (⟨f.nothM.cls, false, vz⟩, f.offM.2) := rfl
 have hk2 := g0i G
 have hlostm : f.lostM = (⟨f.nothM.cls, false, vz⟩, 16) := rfl
 obtain ⟨rS, flS, hS⟩ : ∃ rS flS, f.placedM (a0p (a.v.neg != b.v.neg) ra.x.m rb.x.m (ra.x.e - rb.x.e) f.g way) way = (rS, flS) := ⟨_, _, rfl⟩
 rw [hS] at HF HV hM
 simp only at HF HV
 generalize f.placedV (a0p (a.v.neg != b.v.neg) ra.x.m rb.x.m (ra.x.e - rb.x.e) f.g way) way = vS at *
 obtain ⟨rP, flP, hP⟩ : ∃ rP flP, f.poleM (a.v.neg != b.v.neg) = (rP, flP) := ⟨_, _, rfl⟩
 rw [hP] at HPo hM
 generalize f.divM ra rb way = R at *
 generalize f.offM.2 = flo at *
 generalize f.nothM.cls = kN at *
 generalize hng : (a.v.neg != b.v.neg) = ng at *
 have HNG := hi0 hng
 clear hng hS hP
 have I := Inv.startW w u 153 (uS f n way 0) [ownF base .u32 76 a.p a.c (dig B32 a.v.d), ownF base .u32 76 b.p b.c (dig B32 b.v.d), tabF] U ⟨oa, ob, hT, True.intro⟩ ⟨fun hf => oa.far U (by kernel_rfl) hf.1 hf.2, fun hf => ob.far U (by kernel_rfl) hf.1 hf.2, fun hf => hT.far U (by kernel_rfl) hf, True.intro⟩
 refine a0f [.p 0 0, .v (.agg #[.int .i64 (a.v.cls : Int), .bool a.v.neg, .slice a.p (dig B32 a.v.d).length a.c, .int .i64 a.v.pow]), .v (.agg #[.int .i64 (b.v.cls : Int), .bool b.v.neg, .slice b.p (dig B32 b.v.d).length b.c, .int .i64 b.v.pow])] I Tryd.func67 ?_
 by_cases hof : 4 ≤ a.v.cls ∨ 4 ≤ b.v.cls
 · refine zge I 0 153 (fun Al W I => (HY W _ _ (I.box 0 153 _) (I.box 4 29 _) (by simpa using hof)).out) fun Al V Iv _ _ kz => ?_
   rintro _ W ⟨rfl, hO, hB⟩
   refine ⟨_, rfl, kz _ (uS f n way (flo : Int)) _ hO hB fun I => ?_⟩
   rw [hM, if_pos hof, hoffm]
   exact zret I fun Al W I => a0e hk2 rfl I.bel (I.boxE 153 _)
 refine zq I (fun Al W I => have hzW := I.bel.size; (HN W _ _ (I.box 0 153 _) (I.box 4 29 _) (by simp only [List.mem_cons, List.mem_nil_iff, or_false]; rintro x (rfl | rfl) <;> omega)).out) fun Al W I => ?_
 refine zb I 26 (a.v.neg != b.v.neg) (ng) (HNG.out) fun Al W I => ?_
 by_cases ia : a.v.cls = 3
 · by_cases ib : b.v.cls = 3
   · by_cases za : a.v.cls = 1
     · by_cases zb : b.v.cls = 1
       · refine zqd I (fun Al W I => a0a a.v.cls a.v.neg a.p (dig B32 a.v.d).length a.c a.v.pow W) (dTr ia) fun Al W I => ?_
         refine zqd I (fun Al W I => a0a b.v.cls b.v.neg b.p (dig B32 b.v.d).length b.c b.v.pow W) (dTr ib) fun Al W I => ?_
         refine zge I 0 153 (fun Al W I => (HL W _ (I.box 0 153 _)).out) fun Al V Iv _ _ kz => ?_
         rintro _ W ⟨rfl, hO, hB⟩
         refine ⟨_, rfl, kz _ (uS f n way 16) _ hO hB fun I => ?_⟩
         rw [hM, if_neg hof, if_pos (by omega), hlostm]
         exact zret I fun Al W I => a0e hk2 rfl I.bel (I.boxE 153 _)
       refine zqd I (fun Al W I => a0a a.v.cls a.v.neg a.p (dig B32 a.v.d).length a.c a.v.pow W) (dTr ia) fun Al W I => ?_
       refine zqd I (fun Al W I => a0a b.v.cls b.v.neg b.p (dig B32 b.v.d).length b.c b.v.pow W) (dTr ib) fun Al W I => ?_
       refine zge I 0 153 (fun Al W I => (HL W _ (I.box 0 153 _)).out) fun Al V Iv _ _ kz => ?_
       rintro _ W ⟨rfl, hO, hB⟩
       refine ⟨_, rfl, kz _ (uS f n way 16) _ hO hB fun I => ?_⟩
       rw [hM, if_neg hof, if_pos (by omega), hlostm]
       exact zret I fun Al W I => a0e hk2 rfl I.bel (I.boxE 153 _)
     by_cases zb : b.v.cls = 1
     · refine zqd I (fun Al W I => a0a a.v.cls a.v.neg a.p (dig B32 a.v.d).length a.c a.v.pow W) (dTr ia) fun Al W I => ?_
       refine zqd I (fun Al W I => a0a b.v.cls b.v.neg b.p (dig B32 b.v.d).length b.c b.v.pow W) (dTr ib) fun Al W I => ?_
       refine zge I 0 153 (fun Al W I => (HL W _ (I.box 0 153 _)).out) fun Al V Iv _ _ kz => ?_
       rintro _ W ⟨rfl, hO, hB⟩
       refine ⟨_, rfl, kz _ (uS f n way 16) _ hO hB fun I => ?_⟩
       rw [hM, if_neg hof, if_pos (by omega), hlostm]
       exact zret I fun Al W I => a0e hk2 rfl I.bel (I.boxE 153 _)
     refine zqd I (fun Al W I => a0a a.v.cls a.v.neg a.p (dig B32 a.v.d).length a.c a.v.pow W) (dTr ia) fun Al W I => ?_
     refine zqd I (fun Al W I => a0a b.v.cls b.v.neg b.p (dig B32 b.v.d).length b.c b.v.pow W) (dTr ib) fun Al W I => ?_
     refine zge I 0 153 (fun Al W I => (HL W _ (I.box 0 153 _)).out) fun Al V Iv _ _ kz => ?_
     rintro _ W ⟨rfl, hO, hB⟩
     refine ⟨_, rfl, kz _ (uS f n way 16) _ hO hB fun I => ?_⟩
     rw [hM, if_neg hof, if_pos (by omega), hlostm]
     exact zret I fun Al W I => a0e hk2 rfl I.bel (I.boxE 153 _)
   by_cases za : a.v.cls = 1
   · by_cases zb : b.v.cls = 1
     · refine zqd I (fun Al W I => a0a a.v.cls a.v.neg a.p (dig B32 a.v.d).length a.c a.v.pow W) (dTr ia) fun Al W I => ?_
       refine zqd I (fun Al W I => a0a b.v.cls b.v.neg b.p (dig B32 b.v.d).length b.c b.v.pow W) (dFa ib) fun Al W I => ?_
       refine zqd I (fun Al W I => a0i a.v.cls a.v.neg a.p (dig B32 a.v.d).length a.c a.v.pow W) (dTr za) fun Al W I => ?_
       refine zqd I (fun Al W I => a0i b.v.cls b.v.neg b.p (dig B32 b.v.d).length b.c b.v.pow W) (dTr zb) fun Al W I => ?_
       refine zge I 0 153 (fun Al W I => (HL W _ (I.box 0 153 _)).out) fun Al V Iv _ _ kz => ?_
       rintro _ W ⟨rfl, hO, hB⟩
       refine ⟨_, rfl, kz _ (uS f n way 16) _ hO hB fun I => ?_⟩
       rw [hM, if_neg hof, if_pos (by omega), hlostm]
       exact zret I fun Al W I => a0e hk2 rfl I.bel (I.boxE 153 _)
     refine zqd I (fun Al W I => a0a a.v.cls a.v.neg a.p (dig B32 a.v.d).length a.c a.v.pow W) (dTr ia) fun Al W I => ?_
     refine zqd I (fun Al W I => a0a b.v.cls b.v.neg b.p (dig B32 b.v.d).length b.c b.v.pow W) (dFa ib) fun Al W I => ?_
     refine zqd I (fun Al W I => a0i a.v.cls a.v.neg a.p (dig B32 a.v.d).length a.c a.v.pow W) (dTr za) fun Al W I => ?_
     refine zqd I (fun Al W I => a0i b.v.cls b.v.neg b.p (dig B32 b.v.d).length b.c b.v.pow W) (dFa zb) fun Al W I => ?_
     refine zqd I (fun Al W I => a0a a.v.cls a.v.neg a.p (dig B32 a.v.d).length a.c a.v.pow W) (dTr ia) fun Al W I => ?_
     refine zq I (fun Al W I => e0f ng W) fun Al W I => ?_
     rw [hM, if_neg hof, if_neg (by omega), if_pos ia]
     exact zret I fun Al W I => a0e (k := 3) (by decide) rfl I.bel (I.boxE 153 _)
   by_cases zb : b.v.cls = 1
   · refine zqd I (fun Al W I => a0a a.v.cls a.v.neg a.p (dig B32 a.v.d).length a.c a.v.pow W) (dTr ia) fun Al W I => ?_
     refine zqd I (fun Al W I => a0a b.v.cls b.v.neg b.p (dig B32 b.v.d).length b.c b.v.pow W) (dFa ib) fun Al W I => ?_
     refine zqd I (fun Al W I => a0i a.v.cls a.v.neg a.p (dig B32 a.v.d).length a.c a.v.pow W) (dFa za) fun Al W I => ?_
     refine zqd I (fun Al W I => a0a a.v.cls a.v.neg a.p (dig B32 a.v.d).length a.c a.v.pow W) (dTr ia) fun Al W I => ?_
     refine zq I (fun Al W I => e0f ng W) fun Al W I => ?_
     rw [hM, if_neg hof, if_neg (by omega), if_pos ia]
     exact zret I fun Al W I => a0e (k := 3) (by decide) rfl I.bel (I.boxE 153 _)
   refine zqd I (fun Al W I => a0a a.v.cls a.v.neg a.p (dig B32 a.v.d).length a.c a.v.pow W) (dTr ia) fun Al W I => ?_
   refine zqd I (fun Al W I => a0a b.v.cls b.v.neg b.p (dig B32 b.v.d).length b.c b.v.pow W) (dFa ib) fun Al W I => ?_
   refine zqd I (fun Al W I => a0i a.v.cls a.v.neg a.p (dig B32 a.v.d).length a.c a.v.pow W) (dFa za) fun Al W I => ?_
   refine zqd I (fun Al W I => a0a a.v.cls a.v.neg a.p (dig B32 a.v.d).length a.c a.v.pow W) (dTr ia) fun Al W I => ?_
   refine zq I (fun Al W I => e0f ng W) fun Al W I => ?_
   rw [hM, if_neg hof, if_neg (by omega), if_pos ia]
   exact zret I fun Al W I => a0e (k := 3) (by decide) rfl I.bel (I.boxE 153 _)
 by_cases ib : b.v.cls = 3
 · by_cases za : a.v.cls = 1
   · by_cases zb : b.v.cls = 1
     · refine zqd I (fun Al W I => a0a a.v.cls a.v.neg a.p (dig B32 a.v.d).length a.c a.v.pow W) (dFa ia) fun Al W I => ?_
       refine zqd I (fun Al W I => a0i a.v.cls a.v.neg a.p (dig B32 a.v.d).length a.c a.v.pow W) (dTr za) fun Al W I => ?_
       refine zqd I (fun Al W I => a0i b.v.cls b.v.neg b.p (dig B32 b.v.d).length b.c b.v.pow W) (dTr zb) fun Al W I => ?_
       refine zge I 0 153 (fun Al W I => (HL W _ (I.box 0 153 _)).out) fun Al V Iv _ _ kz => ?_
       rintro _ W ⟨rfl, hO, hB⟩
       refine ⟨_, rfl, kz _ (uS f n way 16) _ hO hB fun I => ?_⟩
       rw [hM, if_neg hof, if_pos (by omega), hlostm]
       exact zret I fun Al W I => a0e hk2 rfl I.bel (I.boxE 153 _)
     refine zqd I (fun Al W I => a0a a.v.cls a.v.neg a.p (dig B32 a.v.d).length a.c a.v.pow W) (dFa ia) fun Al W I => ?_
     refine zqd I (fun Al W I => a0i a.v.cls a.v.neg a.p (dig B32 a.v.d).length a.c a.v.pow W) (dTr za) fun Al W I => ?_
     refine zqd I (fun Al W I => a0i b.v.cls b.v.neg b.p (dig B32 b.v.d).length b.c b.v.pow W) (dFa zb) fun Al W I => ?_
     refine zqd I (fun Al W I => a0a a.v.cls a.v.neg a.p (dig B32 a.v.d).length a.c a.v.pow W) (dFa ia) fun Al W I => ?_
     refine zqd I (fun Al W I => a0a b.v.cls b.v.neg b.p (dig B32 b.v.d).length b.c b.v.pow W) (dTr ib) fun Al W I => ?_
     refine zq I (fun Al W I => (HZ W _ (I.box 0 153 _)).out) fun Al W I => ?_
     rw [hM, if_neg hof, if_neg (by omega), if_neg (by omega), if_pos (by omega)]
     exact zret I fun Al W I => a0e (k := 1) (by decide) rfl I.bel (I.boxE 153 _)
   by_cases zb : b.v.cls = 1
   · refine zqd I (fun Al W I => a0a a.v.cls a.v.neg a.p (dig B32 a.v.d).length a.c a.v.pow W) (dFa ia) fun Al W I => ?_
     refine zqd I (fun Al W I => a0i a.v.cls a.v.neg a.p (dig B32 a.v.d).length a.c a.v.pow W) (dFa za) fun Al W I => ?_
     refine zqd I (fun Al W I => a0a a.v.cls a.v.neg a.p (dig B32 a.v.d).length a.c a.v.pow W) (dFa ia) fun Al W I => ?_
     refine zqd I (fun Al W I => a0a b.v.cls b.v.neg b.p (dig B32 b.v.d).length b.c b.v.pow W) (dTr ib) fun Al W I => ?_
     refine zq I (fun Al W I => (HZ W _ (I.box 0 153 _)).out) fun Al W I => ?_
     rw [hM, if_neg hof, if_neg (by omega), if_neg (by omega), if_pos (by omega)]
     exact zret I fun Al W I => a0e (k := 1) (by decide) rfl I.bel (I.boxE 153 _)
   refine zqd I (fun Al W I => a0a a.v.cls a.v.neg a.p (dig B32 a.v.d).length a.c a.v.pow W) (dFa ia) fun Al W I => ?_
   refine zqd I (fun Al W I => a0i a.v.cls a.v.neg a.p (dig B32 a.v.d).length a.c a.v.pow W) (dFa za) fun Al W I => ?_
   refine zqd I (fun Al W I => a0a a.v.cls a.v.neg a.p (dig B32 a.v.d).length a.c a.v.pow W) (dFa ia) fun Al W I => ?_
   refine zqd I (fun Al W I => a0a b.v.cls b.v.neg b.p (dig B32 b.v.d).length b.c b.v.pow W) (dTr ib) fun Al W I => ?_
   refine zq I (fun Al W I => (HZ W _ (I.box 0 153 _)).out) fun Al W I => ?_
   rw [hM, if_neg hof, if_neg (by omega), if_neg (by omega), if_pos (by omega)]
   exact zret I fun Al W I => a0e (k := 1) (by decide) rfl I.bel (I.boxE 153 _)
 by_cases za : a.v.cls = 1
 · by_cases zb : b.v.cls = 1
   · refine zqd I (fun Al W I => a0a a.v.cls a.v.neg a.p (dig B32 a.v.d).length a.c a.v.pow W) (dFa ia) fun Al W I => ?_
     refine zqd I (fun Al W I => a0i a.v.cls a.v.neg a.p (dig B32 a.v.d).length a.c a.v.pow W) (dTr za) fun Al W I => ?_
     refine zqd I (fun Al W I => a0i b.v.cls b.v.neg b.p (dig B32 b.v.d).length b.c b.v.pow W) (dTr zb) fun Al W I => ?_
     refine zge I 0 153 (fun Al W I => (HL W _ (I.box 0 153 _)).out) fun Al V Iv _ _ kz => ?_
     rintro _ W ⟨rfl, hO, hB⟩
     refine ⟨_, rfl, kz _ (uS f n way 16) _ hO hB fun I => ?_⟩
     rw [hM, if_neg hof, if_pos (by omega), hlostm]
     exact zret I fun Al W I => a0e hk2 rfl I.bel (I.boxE 153 _)
   refine zqd I (fun Al W I => a0a a.v.cls a.v.neg a.p (dig B32 a.v.d).length a.c a.v.pow W) (dFa ia) fun Al W I => ?_
   refine zqd I (fun Al W I => a0i a.v.cls a.v.neg a.p (dig B32 a.v.d).length a.c a.v.pow W) (dTr za) fun Al W I => ?_
   refine zqd I (fun Al W I => a0i b.v.cls b.v.neg b.p (dig B32 b.v.d).length b.c b.v.pow W) (dFa zb) fun Al W I => ?_
   refine zqd I (fun Al W I => a0a a.v.cls a.v.neg a.p (dig B32 a.v.d).length a.c a.v.pow W) (dFa ia) fun Al W I => ?_
   refine zqd I (fun Al W I => a0a b.v.cls b.v.neg b.p (dig B32 b.v.d).length b.c b.v.pow W) (dFa ib) fun Al W I => ?_
   refine zqd I (fun Al W I => a0i a.v.cls a.v.neg a.p (dig B32 a.v.d).length a.c a.v.pow W) (dTr za) fun Al W I => ?_
   refine zq I (fun Al W I => (HZ W _ (I.box 0 153 _)).out) fun Al W I => ?_
   rw [hM, if_neg hof, if_neg (by omega), if_neg (by omega), if_pos (by omega)]
   exact zret I fun Al W I => a0e (k := 1) (by decide) rfl I.bel (I.boxE 153 _)
 by_cases zb : b.v.cls = 1
 · refine zqd I (fun Al W I => a0a a.v.cls a.v.neg a.p (dig B32 a.v.d).length a.c a.v.pow W) (dFa ia) fun Al W I => ?_
   refine zqd I (fun Al W I => a0i a.v.cls a.v.neg a.p (dig B32 a.v.d).length a.c a.v.pow W) (dFa za) fun Al W I => ?_
   refine zqd I (fun Al W I => a0a a.v.cls a.v.neg a.p (dig B32 a.v.d).length a.c a.v.pow W) (dFa ia) fun Al W I => ?_
   refine zqd I (fun Al W I => a0a b.v.cls b.v.neg b.p (dig B32 b.v.d).length b.c b.v.pow W) (dFa ib) fun Al W I => ?_
   refine zqd I (fun Al W I => a0i a.v.cls a.v.neg a.p (dig B32 a.v.d).length a.c a.v.pow W) (dFa za) fun Al W I => ?_
   refine zqd I (fun Al W I => a0i b.v.cls b.v.neg b.p (dig B32 b.v.d).length b.c b.v.pow W) (dTr zb) fun Al W I => ?_
   refine zge I 0 153 (fun Al W I => (HPo W _ (I.box 0 153 _)).out) fun Al V Iv _ _ kz => ?_
   rintro _ W ⟨v60, hR60, p60, c60, rfl, o60, hO, hB⟩
   refine ⟨_, rfl, kz _ (uS f n way (flP : Int)) _ hO hB fun I => ?_⟩
   have I := I.ownB base o60
   rw [hM, if_neg hof, if_neg (by omega), if_neg (by omega), if_neg (by omega), if_pos zb]
   exact zret I fun Al W I => ⟨v60, hR60, p60, c60, rfl, I.fa.1, I.bel, I.boxE 153 _⟩
 refine zqd I (fun Al W I => a0a a.v.cls a.v.neg a.p (dig B32 a.v.d).length a.c a.v.pow W) (dFa ia) fun Al W I => ?_
 refine zqd I (fun Al W I => a0i a.v.cls a.v.neg a.p (dig B32 a.v.d).length a.c a.v.pow W) (dFa za) fun Al W I => ?_
 refine zqd I (fun Al W I => a0a a.v.cls a.v.neg a.p (dig B32 a.v.d).length a.c a.v.pow W) (dFa ia) fun Al W I => ?_
 refine zqd I (fun Al W I => a0a b.v.cls b.v.neg b.p (dig B32 b.v.d).length b.c b.v.pow W) (dFa ib) fun Al W I => ?_
 refine zqd I (fun Al W I => a0i a.v.cls a.v.neg a.p (dig B32 a.v.d).length a.c a.v.pow W) (dFa za) fun Al W I => ?_
 refine zqd I (fun Al W I => a0i b.v.cls b.v.neg b.p (dig B32 b.v.d).length b.c b.v.pow W) (dFa zb) fun Al W I => ?_
 refine zd [] I fun Al W I => ?_
 refine zk [0, 1, 3, 4] I fun I => ?_
 refine zo3 2 6 7 I (fun I => ?_) (fun I => ?_) (fun I => ?_)
 · refine zg I (fun Al W I => (HA W _ (I.box 0 153 _) I.fa.1 I.fa.2.2.1).out) fun Al V Iv _ hB _ kz => ?_
   rintro _ W ⟨p63, c63, rfl, o63, hb⟩
   refine ⟨_, rfl, kz _ _ hb fun I => ?_⟩
   have I := I.ownB base o63
   refine zo3 5 6 7 I (fun I => ?_) (fun I => ?_) (fun I => ?_)
   · refine zg I (fun Al W I => (HB W _ (I.box 0 153 _) I.fa.2.2.1 I.fa.2.2.2.1).out) fun Al V Iv _ hB _ kz => ?_
     rintro _ W ⟨p66, c66, rfl, o66, hb⟩
     refine ⟨_, rfl, kz _ _ hb fun I => ?_⟩
     have I := I.ownB base o66
     refine zo2 6 7 I (fun I => ?_) (fun I => ?_)
     · refine zn I fun Al W I => ?_
       refine zo 7 I fun I => ?_
       refine zn I fun Al W I => ?_
       refine zo 8 I fun I => ?_
       refine zn I fun Al W I => ?_
       refine zo 9 I fun I => ?_
       refine zn I fun Al W I => ?_
       refine zi I 81 .i64 (ra.x.e - rb.x.e) ((ra.x.e - rb.x.e)) ((by exact iwo)) fun Al W I => ?_
       refine zge I 0 153 (fun Al W I => have hzW := I.bel.size; (HF W p63 p66 c63 c66 _ (I.box 0 153 _) I.fa.2.1.rd I.fa.1.rd (hpa (by omega)) (hpb (by omega))).out) fun Al V Iv _ _ kz => ?_
       rintro _ W ⟨p83, c83, rfl, o83, hO, hB⟩
       refine ⟨_, rfl, kz _ (uS f n way (flS : Int)) _ hO hB fun I => ?_⟩
       have I := I.ownB base o83
       rw [hM, if_neg hof, if_neg (by omega), if_neg (by omega), if_neg (by omega), if_neg (by omega)]
       exact zret I fun Al W I => ⟨vS, HV (hpb (by omega)), p83, c83, rfl, I.fa.1, I.bel, I.boxE 153 _⟩
     refine zn I fun Al W I => ?_
     refine zo 6 I fun I => ?_
     refine zn I fun Al W I => ?_
     refine zo 8 I fun I => ?_
     refine zn I fun Al W I => ?_
     refine zo 9 I fun I => ?_
     refine zn I fun Al W I => ?_
     refine zi I 81 .i64 (ra.x.e - rb.x.e) ((ra.x.e - rb.x.e)) ((by exact iwo)) fun Al W I => ?_
     refine zge I 0 153 (fun Al W I => have hzW := I.bel.size; (HF W p63 p66 c63 c66 _ (I.box 0 153 _) I.fa.2.1.rd I.fa.1.rd (hpa (by omega)) (hpb (by omega))).out) fun Al V Iv _ _ kz => ?_
     rintro _ W ⟨p83, c83, rfl, o83, hO, hB⟩
     refine ⟨_, rfl, kz _ (uS f n way (flS : Int)) _ hO hB fun I => ?_⟩
     have I := I.ownB base o83
     rw [hM, if_neg hof, if_neg (by omega), if_neg (by omega), if_neg (by omega), if_neg (by omega)]
     exact zret I fun Al W I => ⟨vS, HV (hpb (by omega)), p83, c83, rfl, I.fa.1, I.bel, I.boxE 153 _⟩
   · refine zn I fun Al W I => ?_
     refine zo2 5 7 I (fun I => ?_) (fun I => ?_)
     · refine zg I (fun Al W I => (HB W _ (I.box 0 153 _) I.fa.2.2.1 I.fa.2.2.2.1).out) fun Al V Iv _ hB _ kz => ?_
       rintro _ W ⟨p66, c66, rfl, o66, hb⟩
       refine ⟨_, rfl, kz _ _ hb fun I => ?_⟩
       have I := I.ownB base o66
       refine zo 7 I fun I => ?_
       refine zn I fun Al W I => ?_
       refine zo 8 I fun I => ?_
       refine zn I fun Al W I => ?_
       refine zo 9 I fun I => ?_
       refine zn I fun Al W I => ?_
       refine zi I 81 .i64 (ra.x.e - rb.x.e) ((ra.x.e - rb.x.e)) ((by exact iwo)) fun Al W I => ?_
       refine zge I 0 153 (fun Al W I => have hzW := I.bel.size; (HF W p63 p66 c63 c66 _ (I.box 0 153 _) I.fa.2.1.rd I.fa.1.rd (hpa (by omega)) (hpb (by omega))).out) fun Al V Iv _ _ kz => ?_
       rintro _ W ⟨p83, c83, rfl, o83, hO, hB⟩
       refine ⟨_, rfl, kz _ (uS f n way (flS : Int)) _ hO hB fun I => ?_⟩
       have I := I.ownB base o83
       rw [hM, if_neg hof, if_neg (by omega), if_neg (by omega), if_neg (by omega), if_neg (by omega)]
       exact zret I fun Al W I => ⟨vS, HV (hpb (by omega)), p83, c83, rfl, I.fa.1, I.bel, I.boxE 153 _⟩
     refine zn I fun Al W I => ?_
     refine zo 5 I fun I => ?_
     refine zg I (fun Al W I => (HB W _ (I.box 0 153 _) I.fa.2.2.1 I.fa.2.2.2.1).out) fun Al V Iv _ hB _ kz => ?_
     rintro _ W ⟨p66, c66, rfl, o66, hb⟩
     refine ⟨_, rfl, kz _ _ hb fun I => ?_⟩
     have I := I.ownB base o66
     refine zo 8 I fun I => ?_
     refine zn I fun Al W I => ?_
     refine zo 9 I fun I => ?_
     refine zn I fun Al W I => ?_
     refine zi I 81 .i64 (ra.x.e - rb.x.e) ((ra.x.e - rb.x.e)) ((by exact iwo)) fun Al W I => ?_
     refine zge I 0 153 (fun Al W I => have hzW := I.bel.size; (HF W p63 p66 c63 c66 _ (I.box 0 153 _) I.fa.2.1.rd I.fa.1.rd (hpa (by omega)) (hpb (by omega))).out) fun Al V Iv _ _ kz => ?_
     rintro _ W ⟨p83, c83, rfl, o83, hO, hB⟩
     refine ⟨_, rfl, kz _ (uS f n way (flS : Int)) _ hO hB fun I => ?_⟩
     have I := I.ownB base o83
     rw [hM, if_neg hof, if_neg (by omega), if_neg (by omega), if_neg (by omega), if_neg (by omega)]
     exact zret I fun Al W I => ⟨vS, HV (hpb (by omega)), p83, c83, rfl, I.fa.1, I.bel, I.boxE 153 _⟩
   refine zn I fun Al W I => ?_
   refine zo2 5 6 I (fun I => ?_) (fun I => ?_)
   · refine zg I (fun Al W I => (HB W _ (I.box 0 153 _) I.fa.2.2.1 I.fa.2.2.2.1).out) fun Al V Iv _ hB _ kz => ?_
     rintro _ W ⟨p66, c66, rfl, o66, hb⟩
     refine ⟨_, rfl, kz _ _ hb fun I => ?_⟩
     have I := I.ownB base o66
     refine zo 6 I fun I => ?_
     refine zn I fun Al W I => ?_
     refine zo 8 I fun I => ?_
     refine zn I fun Al W I => ?_
     refine zo 9 I fun I => ?_
     refine zn I fun Al W I => ?_
     refine zi I 81 .i64 (ra.x.e - rb.x.e) ((ra.x.e - rb.x.e)) ((by exact iwo)) fun Al W I => ?_
     refine zge I 0 153 (fun Al W I => have hzW := I.bel.size; (HF W p63 p66 c63 c66 _ (I.box 0 153 _) I.fa.2.1.rd I.fa.1.rd (hpa (by omega)) (hpb (by omega))).out) fun Al V Iv _ _ kz => ?_
     rintro _ W ⟨p83, c83, rfl, o83, hO, hB⟩
     refine ⟨_, rfl, kz _ (uS f n way (flS : Int)) _ hO hB fun I => ?_⟩
     have I := I.ownB base o83
     rw [hM, if_neg hof, if_neg (by omega), if_neg (by omega), if_neg (by omega), if_neg (by omega)]
     exact zret I fun Al W I => ⟨vS, HV (hpb (by omega)), p83, c83, rfl, I.fa.1, I.bel, I.boxE 153 _⟩
   refine zn I fun Al W I => ?_
   refine zo 5 I fun I => ?_
   refine zg I (fun Al W I => (HB W _ (I.box 0 153 _) I.fa.2.2.1 I.fa.2.2.2.1).out) fun Al V Iv _ hB _ kz => ?_
   rintro _ W ⟨p66, c66, rfl, o66, hb⟩
   refine ⟨_, rfl, kz _ _ hb fun I => ?_⟩
   have I := I.ownB base o66
   refine zo 8 I fun I => ?_
   refine zn I fun Al W I => ?_
   refine zo 9 I fun I => ?_
   refine zn I fun Al W I => ?_
   refine zi I 81 .i64 (ra.x.e - rb.x.e) ((ra.x.e - rb.x.e)) ((by exact iwo)) fun Al W I => ?_
   refine zge I 0 153 (fun Al W I => have hzW := I.bel.size; (HF W p63 p66 c63 c66 _ (I.box 0 153 _) I.fa.2.1.rd I.fa.1.rd (hpa (by omega)) (hpb (by omega))).out) fun Al V Iv _ _ kz => ?_
   rintro _ W ⟨p83, c83, rfl, o83, hO, hB⟩
   refine ⟨_, rfl, kz _ (uS f n way (flS : Int)) _ hO hB fun I => ?_⟩
   have I := I.ownB base o83
   rw [hM, if_neg hof, if_neg (by omega), if_neg (by omega), if_neg (by omega), if_neg (by omega)]
   exact zret I fun Al W I => ⟨vS, HV (hpb (by omega)), p83, c83, rfl, I.fa.1, I.bel, I.boxE 153 _⟩
 · refine zn I fun Al W I => ?_
   refine zo2 2 7 I (fun I => ?_) (fun I => ?_)
   · refine zg I (fun Al W I => (HA W _ (I.box 0 153 _) I.fa.1 I.fa.2.2.1).out) fun Al V Iv _ hB _ kz => ?_
     rintro _ W ⟨p63, c63, rfl, o63, hb⟩
     refine ⟨_, rfl, kz _ _ hb fun I => ?_⟩
     have I := I.ownB base o63
     refine zo2 5 7 I (fun I => ?_) (fun I => ?_)
     · refine zg I (fun Al W I => (HB W _ (I.box 0 153 _) I.fa.2.2.1 I.fa.2.2.2.1).out) fun Al V Iv _ hB _ kz => ?_
       rintro _ W ⟨p66, c66, rfl, o66, hb⟩
       refine ⟨_, rfl, kz _ _ hb fun I => ?_⟩
       have I := I.ownB base o66
       refine zo 7 I fun I => ?_
       refine zn I fun Al W I => ?_
       refine zo 8 I fun I => ?_
       refine zn I fun Al W I => ?_
       refine zo 9 I fun I => ?_
       refine zn I fun Al W I => ?_
       refine zi I 81 .i64 (ra.x.e - rb.x.e) ((ra.x.e - rb.x.e)) ((by exact iwo)) fun Al W I => ?_
       refine zge I 0 153 (fun Al W I => have hzW := I.bel.size; (HF W p63 p66 c63 c66 _ (I.box 0 153 _) I.fa.2.1.rd I.fa.1.rd (hpa (by omega)) (hpb (by omega))).out) fun Al V Iv _ _ kz => ?_
       rintro _ W ⟨p83, c83, rfl, o83, hO, hB⟩
       refine ⟨_, rfl, kz _ (uS f n way (flS : Int)) _ hO hB fun I => ?_⟩
       have I := I.ownB base o83
       rw [hM, if_neg hof, if_neg (by omega), if_neg (by omega), if_neg (by omega), if_neg (by omega)]
       exact zret I fun Al W I => ⟨vS, HV (hpb (by omega)), p83, c83, rfl, I.fa.1, I.bel, I.boxE 153 _⟩
     refine zn I fun Al W I => ?_
     refine zo 5 I fun I => ?_
     refine zg I (fun Al W I => (HB W _ (I.box 0 153 _) I.fa.2.2.1 I.fa.2.2.2.1).out) fun Al V Iv _ hB _ kz => ?_
     rintro _ W ⟨p66, c66, rfl, o66, hb⟩
     refine ⟨_, rfl, kz _ _ hb fun I => ?_⟩
     have I := I.ownB base o66
     refine zo 8 I fun I => ?_
     refine zn I fun Al W I => ?_
     refine zo 9 I fun I => ?_
     refine zn I fun Al W I => ?_
     refine zi I 81 .i64 (ra.x.e - rb.x.e) ((ra.x.e - rb.x.e)) ((by exact iwo)) fun Al W I => ?_
     refine zge I 0 153 (fun Al W I => have hzW := I.bel.size; (HF W p63 p66 c63 c66 _ (I.box 0 153 _) I.fa.2.1.rd I.fa.1.rd (hpa (by omega)) (hpb (by omega))).out) fun Al V Iv _ _ kz => ?_
     rintro _ W ⟨p83, c83, rfl, o83, hO, hB⟩
     refine ⟨_, rfl, kz _ (uS f n way (flS : Int)) _ hO hB fun I => ?_⟩
     have I := I.ownB base o83
     rw [hM, if_neg hof, if_neg (by omega), if_neg (by omega), if_neg (by omega), if_neg (by omega)]
     exact zret I fun Al W I => ⟨vS, HV (hpb (by omega)), p83, c83, rfl, I.fa.1, I.bel, I.boxE 153 _⟩
   refine zn I fun Al W I => ?_
   refine zo 2 I fun I => ?_
   refine zg I (fun Al W I => (HA W _ (I.box 0 153 _) I.fa.1 I.fa.2.2.1).out) fun Al V Iv _ hB _ kz => ?_
   rintro _ W ⟨p63, c63, rfl, o63, hb⟩
   refine ⟨_, rfl, kz _ _ hb fun I => ?_⟩
   have I := I.ownB base o63
   refine zo 5 I fun I => ?_
   refine zg I (fun Al W I => (HB W _ (I.box 0 153 _) I.fa.2.2.1 I.fa.2.2.2.1).out) fun Al V Iv _ hB _ kz => ?_
   rintro _ W ⟨p66, c66, rfl, o66, hb⟩
   refine ⟨_, rfl, kz _ _ hb fun I => ?_⟩
   have I := I.ownB base o66
   refine zo 8 I fun I => ?_
   refine zn I fun Al W I => ?_
   refine zo 9 I fun I => ?_
   refine zn I fun Al W I => ?_
   refine zi I 81 .i64 (ra.x.e - rb.x.e) ((ra.x.e - rb.x.e)) ((by exact iwo)) fun Al W I => ?_
   refine zge I 0 153 (fun Al W I => have hzW := I.bel.size; (HF W p63 p66 c63 c66 _ (I.box 0 153 _) I.fa.2.1.rd I.fa.1.rd (hpa (by omega)) (hpb (by omega))).out) fun Al V Iv _ _ kz => ?_
   rintro _ W ⟨p83, c83, rfl, o83, hO, hB⟩
   refine ⟨_, rfl, kz _ (uS f n way (flS : Int)) _ hO hB fun I => ?_⟩
   have I := I.ownB base o83
   rw [hM, if_neg hof, if_neg (by omega), if_neg (by omega), if_neg (by omega), if_neg (by omega)]
   exact zret I fun Al W I => ⟨vS, HV (hpb (by omega)), p83, c83, rfl, I.fa.1, I.bel, I.boxE 153 _⟩
 refine zn I fun Al W I => ?_
 refine zo2 2 6 I (fun I => ?_) (fun I => ?_)
 · refine zg I (fun Al W I => (HA W _ (I.box 0 153 _) I.fa.1 I.fa.2.2.1).out) fun Al V Iv _ hB _ kz => ?_
   rintro _ W ⟨p63, c63, rfl, o63, hb⟩
   refine ⟨_, rfl, kz _ _ hb fun I => ?_⟩
   have I := I.ownB base o63
   refine zo2 5 6 I (fun I => ?_) (fun I => ?_)
   · refine zg I (fun Al W I => (HB W _ (I.box 0 153 _) I.fa.2.2.1 I.fa.2.2.2.1).out) fun Al V Iv _ hB _ kz => ?_
     rintro _ W ⟨p66, c66, rfl, o66, hb⟩
     refine ⟨_, rfl, kz _ _ hb fun I => ?_⟩
     have I := I.ownB base o66
     refine zo 6 I fun I => ?_
     refine zn I fun Al W I => ?_
     refine zo 8 I fun I => ?_
     refine zn I fun Al W I => ?_
     refine zo 9 I fun I => ?_
     refine zn I fun Al W I => ?_
     refine zi I 81 .i64 (ra.x.e - rb.x.e) ((ra.x.e - rb.x.e)) ((by exact iwo)) fun Al W I => ?_
     refine zge I 0 153 (fun Al W I => have hzW := I.bel.size; (HF W p63 p66 c63 c66 _ (I.box 0 153 _) I.fa.2.1.rd I.fa.1.rd (hpa (by omega)) (hpb (by omega))).out) fun Al V Iv _ _ kz => ?_
     rintro _ W ⟨p83, c83, rfl, o83, hO, hB⟩
     refine ⟨_, rfl, kz _ (uS f n way (flS : Int)) _ hO hB fun I => ?_⟩
     have I := I.ownB base o83
     rw [hM, if_neg hof, if_neg (by omega), if_neg (by omega), if_neg (by omega), if_neg (by omega)]
     exact zret I fun Al W I => ⟨vS, HV (hpb (by omega)), p83, c83, rfl, I.fa.1, I.bel, I.boxE 153 _⟩
   refine zn I fun Al W I => ?_
   refine zo 5 I fun I => ?_
   refine zg I (fun Al W I => (HB W _ (I.box 0 153 _) I.fa.2.2.1 I.fa.2.2.2.1).out) fun Al V Iv _ hB _ kz => ?_
   rintro _ W ⟨p66, c66, rfl, o66, hb⟩
   refine ⟨_, rfl, kz _ _ hb fun I => ?_⟩
   have I := I.ownB base o66
   refine zo 8 I fun I => ?_
   refine zn I fun Al W I => ?_
   refine zo 9 I fun I => ?_
   refine zn I fun Al W I => ?_
   refine zi I 81 .i64 (ra.x.e - rb.x.e) ((ra.x.e - rb.x.e)) ((by exact iwo)) fun Al W I => ?_
   refine zge I 0 153 (fun Al W I => have hzW := I.bel.size; (HF W p63 p66 c63 c66 _ (I.box 0 153 _) I.fa.2.1.rd I.fa.1.rd (hpa (by omega)) (hpb (by omega))).out) fun Al V Iv _ _ kz => ?_
   rintro _ W ⟨p83, c83, rfl, o83, hO, hB⟩
   refine ⟨_, rfl, kz _ (uS f n way (flS : Int)) _ hO hB fun I => ?_⟩
   have I := I.ownB base o83
   rw [hM, if_neg hof, if_neg (by omega), if_neg (by omega), if_neg (by omega), if_neg (by omega)]
   exact zret I fun Al W I => ⟨vS, HV (hpb (by omega)), p83, c83, rfl, I.fa.1, I.bel, I.boxE 153 _⟩
 refine zn I fun Al W I => ?_
 refine zo 2 I fun I => ?_
 refine zg I (fun Al W I => (HA W _ (I.box 0 153 _) I.fa.1 I.fa.2.2.1).out) fun Al V Iv _ hB _ kz => ?_
 rintro _ W ⟨p63, c63, rfl, o63, hb⟩
 refine ⟨_, rfl, kz _ _ hb fun I => ?_⟩
 have I := I.ownB base o63
 refine zo 5 I fun I => ?_
 refine zg I (fun Al W I => (HB W _ (I.box 0 153 _) I.fa.2.2.1 I.fa.2.2.2.1).out) fun Al V Iv _ hB _ kz => ?_
 rintro _ W ⟨p66, c66, rfl, o66, hb⟩
 refine ⟨_, rfl, kz _ _ hb fun I => ?_⟩
 have I := I.ownB base o66
 refine zo 8 I fun I => ?_
 refine zn I fun Al W I => ?_
 refine zo 9 I fun I => ?_
 refine zn I fun Al W I => ?_
 refine zi I 81 .i64 (ra.x.e - rb.x.e) ((ra.x.e - rb.x.e)) ((by exact iwo)) fun Al W I => ?_
 refine zge I 0 153 (fun Al W I => have hzW := I.bel.size; (HF W p63 p66 c63 c66 _ (I.box 0 153 _) I.fa.2.1.rd I.fa.1.rd (hpa (by omega)) (hpb (by omega))).out) fun Al V Iv _ _ kz => ?_
 rintro _ W ⟨p83, c83, rfl, o83, hO, hB⟩
 refine ⟨_, rfl, kz _ (uS f n way (flS : Int)) _ hO hB fun I => ?_⟩
 have I := I.ownB base o83
 rw [hM, if_neg hof, if_neg (by omega), if_neg (by omega), if_neg (by omega), if_neg (by omega)]
 exact zret I fun Al W I => ⟨vS, HV (hpb (by omega)), p83, c83, rfl, I.fa.1, I.bel, I.boxE 153 _⟩
def _root_.Go.Slip.Vr.side (r : Vr) : Int := if r.cls ≠ 3 then 0 else if r.neg then -2 else 2
def cmpM (a b : Vr) : Int := if a.side ≠ 0 ∨ b.side ≠ 0 then clip (a.side - b.side) else rCmp a.x b.x
theorem t0a (f : Fm) (a : Vp) (r : Vr) (w : World) (A1 : AtV f a r) : Calls Tryd.prog 105 #[.agg #[.int .i64 (a.v.cls : Int), .bool a.v.neg, .slice a.p (dig B32 a.v.d).length a.c, .int .i64 a.v.pow]] w fun en w' => en = .returned (.int .i64 r.side) ∧ Below w.heap.size w w' := by
 unfold Vr.side
 rw [← A1.rep.cls, ← A1.rep.neg]
 clear A1
 obtain ⟨⟨k, g, d, e⟩, p, c⟩ := a
 simp only
 have HI := fun W => hi0 (a0a k g p (dig B32 d).length c e W)
 by_cases h : k = 3
 · rw [if_neg (fun h' => h' h)]
   cases g
   · have I := Inv.start w [] True.intro
     refine a0f [.v (.agg #[.int .i64 (k : Int), .bool false, .slice p (dig B32 d).length c, .int .i64 e])] I Tryd.func105 ?_
     refine zqd I (fun Al W I => (HI W).out) (dTr h) fun Al W I => ?_
     exact zrb I
   · have I := Inv.start w [] True.intro
     refine a0f [.v (.agg #[.int .i64 (k : Int), .bool true, .slice p (dig B32 d).length c, .int .i64 e])] I Tryd.func105 ?_
     refine zqd I (fun Al W I => (HI W).out) (dTr h) fun Al W I => ?_
     exact zrb I
 · rw [if_pos h]
   have I := Inv.start w [] True.intro
   refine a0f [.v (.agg #[.int .i64 (k : Int), .bool g, .slice p (dig B32 d).length c, .int .i64 e])] I Tryd.func105 ?_
   refine zqd I (fun Al W I => (HI W).out) (dFa h) fun Al W I => ?_
   exact zrb I
theorem b1z (x y : Dv) (p q : Option Addr) (c d : Nat) (w : World) (hx : Bare x) (hy : Bare y) (sx : SmD x) (sy : SmD y) (hp : Rd w .u32 p (dig B32 x.m)) (hq : Rd w .u32 q (dig B32 y.m)) :
 Calls Tryd.prog 107 #[.agg #[.bool x.neg, .slice p (dig B32 x.m).length c, .int .i64 x.e], .agg #[.bool y.neg, .slice q (dig B32 y.m).length d, .int .i64 y.e]] w fun en w' => en = .returned (.int .i64 (rCmp x y)) ∧ Below w.heap.size w w' := by
 have h1 := sx.len
 have h2 := sy.len
 have h3 := sx.lo
 have h4 := sx.hi
 have h5 := sy.lo
 have h6 := sy.hi
 have := a1s x.neg y.neg p q _ c _ d x.e y.e x.m y.m w hp hq rfl rfl (by omega) (by omega) (by omega) (by omega)
 rw [show (⟨x.neg, x.m, x.e⟩ : Dv) = x from rfl, show (⟨y.neg, y.m, y.e⟩ : Dv) = y from rfl, d1s hx hy] at this
 exact this
theorem r0j (n : Int) : (if (if (n : Int) < 1 then n else 1) > (-1 : Int) then (if (n : Int) < 1 then n else 1) else -1) = clip n := by
 unfold clip
 split <;> split <;> omega
theorem y0z (f : Fm) (n way fl : Int) (a b : Vp) (ra rb : Vr) (base u : Nat) (w : World) (U : Bt w u 153 #[.int .i64 n, .int .i64 way, .int .i64 f.g.rad, .int .i64 f.g.digs, .int .i64 f.g.lo, .int .i64 f.g.hi, .bool f.g.grad, .int .u8 (famB f), .int .i64 fl]) (oa : Own w base .u32 76 a.p a.c (dig B32 a.v.d)) (ob : Own w base .u32 76 b.p b.c (dig B32 b.v.d))
 (A1 : AtV f a ra) (B1 : AtV f b rb) (hT : TabW w) :
 Calls Tryd.prog 55 #[.pointer (some ⟨u, 0, none⟩), .agg #[.int .i64 (a.v.cls : Int), .bool a.v.neg, .slice a.p (dig B32 a.v.d).length a.c, .int .i64 a.v.pow], .agg #[.int .i64 (b.v.cls : Int), .bool b.v.neg, .slice b.p (dig B32 b.v.d).length b.c, .int .i64 b.v.pow]] w fun en w' => en = .returned (.int .i64 (cmpM ra rb)) ∧ Below w.heap.size w w' := by
 have HSA := fun W => hi0 (t0a f a ra W A1)
 have HSB := fun W => hi0 (t0a f b rb W B1)
 have HA := fun W u h1 h2 h3 => hi0 (p0o f n way fl a.v ra a.p a.c base u W h1 h2 A1.rep A1.ok h3)
 have HB := fun W u h1 h2 h3 => hi0 (p0o f n way fl b.v rb b.p b.c base u W h1 h2 B1.rep B1.ok h3)
 have HC := fun W p q c d h1 h2 => hi0 (b1z ra.x rb.x p q c d W A1.ok.bare B1.ok.bare A1.ok.sm B1.ok.sm h1 h2)
 have hM1 : ra.side ≠ 0 ∨ rb.side ≠ 0 → cmpM ra rb = clip (ra.side - rb.side) := fun h => by unfold cmpM; rw [if_pos h]
 have hM2 : ¬ (ra.side ≠ 0 ∨ rb.side ≠ 0) → cmpM ra rb = rCmp ra.x rb.x := fun h => by unfold cmpM; rw [if_neg h]
 have hb1 : -2 ≤ ra.side ∧ ra.side ≤ 2 := by unfold Vr.side; split; omega; split <;> omega
 have hb2 : -2 ≤ rb.side ∧ rb.side ≤ 2 := by unfold Vr.side; split; omega; split <;> omega
 generalize ra.side = sa at *
 generalize rb.side = sb at *
 generalize cmpM ra rb = R at *
 generalize rCmp ra.x rb.x = RC at *
 have I := Inv.startR w [u] [⟨153, (uS f n way fl), true⟩] [ownF base .u32 76 a.p a.c (dig B32 a.v.d), ownF base .u32 76 b.p b.c (dig B32 b.v.d), tabF] ⟨U, True.intro⟩ ⟨oa, ob, hT, True.intro⟩
 refine a0f [.p 0 0, .v (.agg #[.int .i64 (a.v.cls : Int), .bool a.v.neg, .slice a.p (dig B32 a.v.d).length a.c, .int .i64 a.v.pow]), .v (.agg #[.int .i64 (b.v.cls : Int), .bool b.v.neg, .slice b.p (dig B32 b.v.d).length b.c, .int .i64 b.v.pow])] I Tryd.func55 ?_
 refine zd [] I fun Al W I => ?_
 refine zk [0, 2] I fun I => ?_
 refine zo 1 I fun I => ?_
 refine zq I (fun Al W I => (HSA W).out) fun Al W I => ?_
 refine zo 3 I fun I => ?_
 refine zq I (fun Al W I => (HSB W).out) fun Al W I => ?_
 refine zk [4, 5] I fun I => ?_
 by_cases ha : sa = 0
 · by_cases hb0 : sb = 0
   · refine zb I 14 (sa != 0) (false) (bne_eq_false_iff_eq.2 ha) fun Al W I => ?_
     refine zb I 17 (sb != 0) (false) (bne_eq_false_iff_eq.2 hb0) fun Al W I => ?_
     refine zd [] I fun Al W I => ?_
     refine zk [0, 1, 3, 4] I fun I => ?_
     refine zo 2 I fun I => ?_
     refine zqo I (fun Al W I => (HA W _ (I.box 0 153 _) I.fa.1 I.fa.2.2.1).out) fun Al W p26 c26 I => ?_
     refine zo 5 I fun I => ?_
     refine zqo I (fun Al W I => (HB W _ (I.box 0 153 _) I.fa.2.2.1 I.fa.2.2.2.1).out) fun Al W p29 c29 I => ?_
     refine zo 6 I fun I => ?_
     refine zq I (fun Al W I => (HC W p26 p29 c26 c29 I.fa.2.1.rd I.fa.1.rd).out) fun Al W I => ?_
     refine zk [7] I fun I => ?_
     refine zret I (v := fun Al => .int .i64 RC) fun Al W I => ?_
     first | exact ⟨by rw [hM1 (by omega)], I.below⟩ | exact ⟨by rw [hM2 (by omega)], I.below⟩
   refine zb I 14 (sa != 0) (false) (bne_eq_false_iff_eq.2 ha) fun Al W I => ?_
   refine zb I 17 (sb != 0) (true) (bne_iff_ne.2 hb0) fun Al W I => ?_
   refine zi I 21 .i64 (sa - sb) ((sa - sb)) ((by exact iwo)) fun Al W I => ?_
   refine zm I 22 .i64 (if ((sa - sb) : Int) < 1 then (sa - sb) else 1) ((if (sa - sb : Int) < 1 then sa - sb else 1)) (rfl) fun Al W I => ?_
   refine zm I 23 .i64 (if ((if (sa - sb : Int) < 1 then sa - sb else 1) : Int) > (-1) then (if (sa - sb : Int) < 1 then sa - sb else 1) else (-1)) ((clip (sa - sb))) ((by exact r0j _)) fun Al W I => ?_
   refine zret I (v := fun Al => .int .i64 (clip (sa - sb))) fun Al W I => ?_
   first | exact ⟨by rw [hM1 (by omega)], I.below⟩ | exact ⟨by rw [hM2 (by omega)], I.below⟩
 by_cases hb0 : sb = 0
 · refine zb I 14 (sa != 0) (true) (bne_iff_ne.2 ha) fun Al W I => ?_
   refine zi I 21 .i64 (sa - sb) ((sa - sb)) ((by exact iwo)) fun Al W I => ?_
   refine zm I 22 .i64 (if ((sa - sb) : Int) < 1 then (sa - sb) else 1) ((if (sa - sb : Int) < 1 then sa - sb else 1)) (rfl) fun Al W I => ?_
   refine zm I 23 .i64 (if ((if (sa - sb : Int) < 1 then sa - sb else 1) : Int) > (-1) then (if (sa - sb : Int) < 1 then sa - sb else 1) else (-1)) ((clip (sa - sb))) ((by exact r0j _)) fun Al W I => ?_
   refine zret I (v := fun Al => .int .i64 (clip (sa - sb))) fun Al W I => ?_
   first | exact ⟨by rw [hM1 (by omega)], I.below⟩ | exact ⟨by rw [hM2 (by omega)], I.below⟩
 refine zb I 14 (sa != 0) (true) (bne_iff_ne.2 ha) fun Al W I => ?_
 refine zi I 21 .i64 (sa - sb) ((sa - sb)) ((by exact iwo)) fun Al W I => ?_
 refine zm I 22 .i64 (if ((sa - sb) : Int) < 1 then (sa - sb) else 1) ((if (sa - sb : Int) < 1 then sa - sb else 1)) (rfl) fun Al W I => ?_
 refine zm I 23 .i64 (if ((if (sa - sb : Int) < 1 then sa - sb else 1) : Int) > (-1) then (if (sa - sb : Int) < 1 then sa - sb else 1) else (-1)) ((clip (sa - sb))) ((by exact r0j _)) fun Al W I => ?_
 refine zret I (v := fun Al => .int .i64 (clip (sa - sb))) fun Al W I => ?_
 first | exact ⟨by rw [hM1 (by omega)], I.below⟩ | exact ⟨by rw [hM2 (by omega)], I.below⟩
theorem p0p (n : Int) (w : World) : Calls Tryd.prog 74 #[.int .i64 n] w fun en w' => en = .returned (.tuple #[.agg #[.int .i64 (fmt n).g.rad, .int .i64 (fmt n).g.digs, .int .i64 (fmt n).g.lo, .int .i64 (fmt n).g.hi, .bool (fmt n).g.grad], .int .i64 (l0g n)]) ∧ Below w.heap.size w w' := by
 by_cases hn : IsFm n
 · have h0 : l0g n = 0 := by unfold l0g; rw [if_pos hn]
   rw [h0]
   have HF := fun W => hi0 (i0i n hn W)
   generalize fmt n = f at *
   have I := Inv.start w [] True.intro
   refine a0f [.v (.int .i64 n)] I Tryd.func74 ?_
   refine zq I (fun Al W I => (HF W).out) fun Al W I => ?_
   exact zrb I
 · have h0 : l0g n = 6 := by unfold l0g; rw [if_neg hn]
   rw [h0, f1k hn]
   have HF := fun W => hi0 (l0a n hn W)
   have I := Inv.start w [] True.intro
   refine a0f [.v (.int .i64 n)] I Tryd.func74 ?_
   refine zq I (fun Al W I => (HF W).out) fun Al W I => ?_
   exact zrb I
theorem o0b (n way : Int) (w : World) (h : ¬ (IsFm n ∧ 1 ≤ way ∧ way ≤ 5)) : Calls Tryd.prog 52 #[.int .i64 n, .int .i64 way] w fun en w' => en = .returned (.tuple #[.pointer none, .int .i64 6]) ∧ Below w.heap.size w w' := by
 have HG := fun W => hi0 (p0p n W)
 by_cases hn : IsFm n
 · have he : l0g n = 0 := by unfold l0g; rw [if_pos hn]
   have h' : way < 1 ∨ 5 < way := by by_cases k : 1 ≤ way ∧ way ≤ 5; exact absurd ⟨hn, k⟩ h; omega
   rw [he] at HG
   generalize fmt n = f at *
   have I := Inv.start w [] True.intro
   refine a0f [.v (.int .i64 n), .v (.int .i64 way)] I Tryd.func52 ?_
   refine zq I (fun Al W I => (HG W).out) fun Al W I => ?_
   by_cases h1 : way < 1
   · refine zb I 18 (decide (way < 1)) (true) (dTr h1) fun Al W I => ?_
     exact zrb I
   refine zb I 18 (decide (way < 1)) (false) (dFa h1) fun Al W I => ?_
   refine zb I 21 (decide (way > 5)) (true) (dTr (by omega)) fun Al W I => ?_
   exact zrb I
 · have he : l0g n = 6 := by unfold l0g; rw [if_neg hn]
   rw [he] at HG
   generalize fmt n = f at *
   have I := Inv.start w [] True.intro
   refine a0f [.v (.int .i64 n), .v (.int .i64 way)] I Tryd.func52 ?_
   refine zq I (fun Al W I => (HG W).out) fun Al W I => ?_
   exact zrb I
def l0m (f : Fm) (n way : Int) (w : World) (en : Ending) (w' : World) : Prop :=
 ∃ u, en = .returned (.tuple #[.pointer (some ⟨u, 0, none⟩), .int .i64 0]) ∧ w.heap.size ≤ u ∧ Bt w' u 153 #[.int .i64 n, .int .i64 way, .int .i64 f.g.rad, .int .i64 f.g.digs, .int .i64 f.g.lo, .int .i64 f.g.hi, .bool f.g.grad, .int .u8 (famB f), .int .i64 0] ∧ Below w.heap.size w w'
theorem l0n (n way : Int) (w : World) (hn : IsFm n) (hw : 1 ≤ way ∧ way ≤ 5) : Calls Tryd.prog 52 #[.int .i64 n, .int .i64 way] w (l0m (fmt n) n way w) := by
 have HG := fun W => hi0 (p0p n W)
 have he : l0g n = 0 := by unfold l0g; rw [if_pos hn]
 rw [he] at HG
 have G := d0h hn
 generalize fmt n = f at *
 have hrad := G.rad
 have hgr := G.grad
 by_cases f2 : f.fam = 2
 · have hBf : famB f = 66 := by unfold famB; rw [if_neg (by omega), if_pos f2]
   rw [if_pos f2] at hrad
   have I := Inv.start w [] True.intro
   refine a0f [.v (.int .i64 n), .v (.int .i64 way)] I Tryd.func52 ?_
   refine zq I (fun Al W I => (HG W).out) fun Al W I => ?_
   refine zb I 18 (decide (way < 1)) (false) (dFa (by omega)) fun Al W I => ?_
   refine zb I 21 (decide (way > 5)) (false) (dFa (by omega)) fun Al W I => ?_
   refine zb I 31 (f.g.rad == 16) (true) (beq_iff_eq.2 hrad) fun Al W I => ?_
   exact zret I (v := fun Al => .tuple #[.pointer (some ⟨(lk 0 Al 1), 0, none⟩), .int .i64 0]) fun Al W I => ⟨_, rfl, (I.geB 1), by rw [hBf]; exact (I.box 1 153 _), I.below⟩
 · rw [if_neg f2] at hrad
   by_cases f1 : f.fam = 1
   · have hBf : famB f = 65 := by unfold famB; rw [if_pos f1]
     rw [decide_eq_true f1] at hgr
     unfold l0m
     rw [hBf, hgr]
     simp only [hgr] at HG
     have I := Inv.start w [] True.intro
     refine a0f [.v (.int .i64 n), .v (.int .i64 way)] I Tryd.func52 ?_
     refine zq I (fun Al W I => (HG W).out) fun Al W I => ?_
     refine zb I 18 (decide (way < 1)) (false) (dFa (by omega)) fun Al W I => ?_
     refine zb I 21 (decide (way > 5)) (false) (dFa (by omega)) fun Al W I => ?_
     refine zb I 31 (f.g.rad == 16) (false) (bFn (by omega)) fun Al W I => ?_
     exact zret I fun Al W I => ⟨_, rfl, (I.geB 1), (I.box 1 153 _), I.below⟩
   · have hBf : famB f = 67 := by unfold famB; rw [if_neg f1, if_neg f2]
     rw [decide_eq_false f1] at hgr
     unfold l0m
     rw [hBf, hgr]
     simp only [hgr] at HG
     have I := Inv.start w [] True.intro
     refine a0f [.v (.int .i64 n), .v (.int .i64 way)] I Tryd.func52 ?_
     refine zq I (fun Al W I => (HG W).out) fun Al W I => ?_
     refine zb I 18 (decide (way < 1)) (false) (dFa (by omega)) fun Al W I => ?_
     refine zb I 21 (decide (way > 5)) (false) (dFa (by omega)) fun Al W I => ?_
     refine zb I 31 (f.g.rad == 16) (false) (bFn (by omega)) fun Al W I => ?_
     exact zret I fun Al W I => ⟨_, rfl, (I.geB 1), (I.box 1 153 _), I.below⟩
theorem i1i (n way fl : Int) (a : Vp) (r : Vr) (base u : Nat) (w : World) (U : Bt w u 153 #[.int .i64 n, .int .i64 way, .int .i64 (fmt n).g.rad, .int .i64 (fmt n).g.digs, .int .i64 (fmt n).g.lo, .int .i64 (fmt n).g.hi, .bool (fmt n).g.grad, .int .u8 (famB (fmt n)), .int .i64 fl]) (oa : Own w base .u32 76 a.p a.c (dig B32 a.v.d)) (hn : IsFm n) (V : VRep (fmt n) a.v r) (R : ResF (fmt n) r) (hT : TabW w) :
 Calls Tryd.prog 90 #[.pointer (some ⟨u, 0, none⟩), .agg #[.int .i64 (a.v.cls : Int), .bool a.v.neg, .slice a.p (dig B32 a.v.d).length a.c, .int .i64 a.v.pow]] w fun en w' => en = .returned (.tuple #[.string (b0i ((fmt n).strP ((fmt n).encP r.cls r.neg r.x))), .int .i64 fl, .int .i64 0]) ∧ Below w.heap.size w w' := by
 have HE := fun W (h1 : Own W base .u32 76 a.p a.c (dig B32 a.v.d)) h2 => hi0 (u0n n (a.v.cls : Int) (dinV a.v a.p a.c) W (f1u h1 V.len) h2)
 obtain ⟨e1, e2⟩ := i1b R V a.p a.c
 unfold r0g p0n at HE
 rw [if_pos hn, e1, e2] at HE
 simp only [if_true] at HE
 have HE2 : ∀ W, Own W base .u32 76 a.p a.c (dig B32 a.v.d) → TabW W → Hid (Calls Tryd.prog 26 #[.int .i64 n, .agg #[.int .i64 (a.v.cls : Int), .bool a.v.neg, .slice a.p (dig B32 a.v.d).length a.c, .int .i64 a.v.pow]] W fun en w' => en = .returned (.tuple #[.string (b0i ((fmt n).strP ((fmt n).encP r.cls r.neg r.x))), .int .i64 0]) ∧ Below W.heap.size W w') := HE
 clear HE e1 e2 V R
 generalize b0i ((fmt n).strP ((fmt n).encP r.cls r.neg r.x)) = s at *
 generalize fmt n = f at *
 have I := Inv.startR w [u] [⟨153, (uS f n way fl), true⟩] [ownF base .u32 76 a.p a.c (dig B32 a.v.d), tabF] ⟨U, True.intro⟩ ⟨oa, hT, True.intro⟩
 refine a0f [.p 0 0, .v (.agg #[.int .i64 (a.v.cls : Int), .bool a.v.neg, .slice a.p (dig B32 a.v.d).length a.c, .int .i64 a.v.pow])] I Tryd.func90 ?_
 refine zd [] I fun Al W I => ?_
 refine zk [0, 1, 2, 3, 4] I fun I => ?_
 refine zo 5 I fun I => ?_
 refine zq I (fun Al W I => (HE2 W I.fa.1 I.fa.2.1).out) fun Al W I => ?_
 refine zk [6, 7, 8, 9, 10] I fun I => ?_
 refine zd [] I fun Al W I => ?_
 refine zk [0, 1, 2, 3, 4, 5, 6, 7] I fun I => ?_
 exact zrb I
end Go.Proofs.YtmacohmclpnphaaDoor
namespace Go.Slip
open Go.RowKit
theorem z0a {P : Program} {w : World} {b : Nat} {t : TypeId} {vs : Array Value} (h : Bt w b t vs) {ty : TypeId} (hT : e0e P ty) {m : Nat} (v : Value) (hv : vs[m]? = some v) : (VO.ld ty (.pointer (some (at_ (some ⟨b, 0, none⟩) m)))).sem.run P w = .ok v w := by
 have := q0l h hT m v hv
 show (Instr.loadAt _ _).run P w = _
 unfold at_
 simpa using this
end Go.Slip
namespace Go.Proofs.YtmacohmclpnphaaDoor
open Go.RowKit Go.Slip
def u0q (b : Nat) (xs : List Vp) : PF :=
 ⟨fun w => ∀ x, x ∈ xs → Own w b .u32 76 x.p x.c (dig B32 x.v.d), fun a => ∃ x, x ∈ xs ∧ x.p.isSome = true ∧ blk x.p = a, fun _ _ h hb _ x hx => (h x hx).same fun hp => hb _ ((h x hx).blk_lt hp).2 ⟨x, hx, hp, rfl⟩, fun _ _ h ⟨x, hx, hp, hf⟩ => hf ▸ ((h x hx).blk_lt hp).2⟩
theorem z0b {w : World} {b : Nat} {xs : List Vp} {v : Vl} {p : Option Addr} {c : Nat} (h : ∀ x, x ∈ xs → Own w b .u32 76 x.p x.c (dig B32 x.v.d)) (o : Own w b .u32 76 p c (dig B32 v.d)) : ∀ x, x ∈ xs ++ [⟨v, p, c⟩] → Own w b .u32 76 x.p x.c (dig B32 x.v.d) := fun x hx => by
 rw [List.mem_append, List.mem_singleton] at hx
 rcases hx with hx | rfl
 · exact h x hx
 · exact o
theorem c1a {b a : Nat} {xs : List Vp} {v : Vl} {p : Option Addr} {c : Nat} (h : (u0q b (xs ++ [⟨v, p, c⟩])).foot a) (h1 : ∀ x, (x ∈ xs ∧ x.p.isSome = true ∧ blk x.p = a) → False) (h2 : p.isSome = true → blk p = a → False) : False := by
 obtain ⟨x, hx, h3, h4⟩ := h
 rw [List.mem_append, List.mem_singleton] at hx
 rcases hx with hx | rfl
 · exact h1 x ⟨hx, h3, h4⟩
 · exact h2 h3 h4
theorem i1j : j0o Tryd.prog 154 9 (.string ByteArray.empty) 16 := tyV (by kernel_rfl) (by kernel_rfl) (by omega) rfl rfl
theorem i1k : e0e Tryd.prog 9 := c0z (by kernel_rfl) (by kernel_rfl)
def errL (n : Int) : List ByteArray → Int
 | [] => 0
 | s :: r => if b0j n s = 0 then errL n r else b0j n s
theorem z0c (n : Int) : ∀ (L : List ByteArray), errL n L ≠ 0 → ∃ (j : Nat) (s : ByteArray), L[j]? = some s ∧ errL n L = b0j n s ∧ b0j n s ≠ 0 ∧ ∀ i t, i < j → L[i]? = some t → b0j n t = 0
 | [], h => absurd rfl h
 | s :: r, h => by
  unfold errL at h ⊢
  by_cases hs : b0j n s = 0
  · rw [if_pos hs] at h ⊢
    obtain ⟨j, t, h1, h2, h3, h4⟩ := z0c n r h
    refine ⟨j + 1, t, by simpa using h1, h2, h3, fun i u hi hu => ?_⟩
    cases i with
    | zero => simp only [List.getElem?_cons_zero, Option.some.injEq] at hu; rw [← hu]; exact hs
    | succ i => exact h4 i u (by omega) (by simpa using hu)
  · rw [if_neg hs]
    exact ⟨0, s, rfl, rfl, hs, fun i t hi => by omega⟩
theorem i0m (n : Int) : ∀ {L : List ByteArray}, errL n L = 0 → ∀ s, s ∈ L → b0j n s = 0
 | [], _, s, h => by simp at h
 | t :: r, h, s, hs => by
  unfold errL at h
  by_cases ht : b0j n t = 0
  · rw [if_pos ht] at h
    rcases List.mem_cons.1 hs with rfl | hs
    · exact ht
    · exact i0m n h s hs
  · rw [if_neg ht] at h
    exact absurd h ht
def f1x (n : Int) (w : World) (L : List ByteArray) (en : Ending) (w' : World) : Prop :=
 ∃ (xs : List Vp) (vs : List Value) (p : Option Addr) (c : Nat), en = .returned (.tuple #[.slice p L.length c, .int .i64 0]) ∧ xs.map (·.v) = L.map (decP n) ∧ vs = xs.flatMap Vp.cells ∧ OwnS w' w.heap.size 29 4 p c L.length vs ∧ (∀ x, x ∈ xs → Own w' w.heap.size .u32 76 x.p x.c (dig B32 x.v.d)) ∧ Below w.heap.size w w'
theorem o0c (n way fl : Int) (L : List ByteArray) (b m u : Nat) (w : World) (U : Bt w u 153 #[.int .i64 n, .int .i64 way, .int .i64 (fmt n).g.rad, .int .i64 (fmt n).g.digs, .int .i64 (fmt n).g.lo, .int .i64 (fmt n).g.hi, .bool (fmt n).g.grad, .int .u8 (famB (fmt n)), .int .i64 fl]) (hB0 : Bt w b 9 (L.map Value.string).toArray) (hm : m = L.length) (hl : L.length ≤ 1000) (h0 : errL n L = 0) (hT : TabW w) :
 Calls Tryd.prog 53 #[.pointer (some ⟨u, 0, none⟩), .slice (some ⟨b, 0, none⟩) m m] w (f1x n w L) := by
 subst hm
 have HX : ∀ i, i < L.length → ∃ s : ByteArray, L[i]? = some s ∧ b0j n s = 0 ∧ (L.map Value.string).toArray[i]? = some (.string s) ∧ L.take (i + 1) = L.take i ++ [s] := fun i h => ⟨L[i], List.getElem?_eq_getElem h, i0m n h0 _ (List.getElem_mem h), by simp [h], by rw [List.take_add_one, List.getElem?_eq_getElem h]; rfl⟩
 have HD := fun s W h => hi0 (m0l n s W h)
 generalize fmt n = f at *
 have I := Inv.startW w u 153 (uS f n way fl) [btF b 9 (L.map Value.string).toArray, tabF] U ⟨hB0, hT, True.intro⟩ ⟨fun hf => hB0.far U (by kernel_rfl) hf, fun hf => hT.far U (by kernel_rfl) hf, True.intro⟩
 refine a0f [.p 0 0, .v (.slice (some ⟨b, 0, none⟩) L.length L.length)] I Tryd.func53 ?_
 have I := I.add (h0o w.heap.size 29 4 none 0 0 []) (OwnS.nil _ _ _ _) (fun _ _ h => by cases h.1)
 have I := I.add (u0q w.heap.size []) (fun _ h => by cases h) (fun _ _ ⟨_, h, _⟩ => by cases h)
 refine w0p I (fun gk fr bx gs => ∃ (U900 : Nat → Value) (i : Nat) (p6 : Option Addr) (c6 : Nat) (xs : List Vp) (vs : List Value), fr = (.p 0 0 :: .v (.slice (some ⟨b, 0, none⟩) L.length L.length) :: su 2 (sw U900 4 2 (.v (.slice p6 i c6) :: .v undef :: sw U900 8 3 (.v (.slice (some ⟨b, 0, none⟩) L.length L.length) :: .v (.int .i64 (L.length : Int)) :: .v (.int .i64 (i : Int)) :: sw U900 14 21 []))) : List SV) ∧ bx = [⟨153, (uS f n way fl), false⟩] ∧ gs = [u0q w.heap.size xs, h0o w.heap.size 29 4 p6 c6 i vs, btF b 9 (L.map Value.string).toArray, tabF] ∧ (gk + i = L.length) ∧ (vs = xs.flatMap Vp.cells) ∧ (xs.map (·.v) = (L.take i).map (decP n))) L.length (fun Al W U I => ⟨_, ⟨U, 0, none, 0, [], [], rfl, rfl, rfl, (by omega), rfl, rfl⟩, I.pick [0, 1, 2, 3]⟩) ?_
 rintro J gk0 _ _ _ ⟨U900, i, p6, c6, xs, vs, rfl, rfl, rfl, hgk, hvs, hxs⟩ hJ Al W I
 rcases Bool.eq_false_or_eq_true (decide ((i : Int) < (L.length : Int))) with f14 | f14
 · refine zb I 14 (decide ((i : Int) < (L.length : Int))) (true) (f14) fun Al W I => ?_
   obtain ⟨s, hs, hse, hsv, hst⟩ := HX i (by have := oTr f14; omega)
   refine zx I 15 (fun _ => .pointer (some (at_ (some ⟨b, 0, none⟩) i))) (fun Al W I => (w0x (m := i) (n := L.length) (c := L.length) i1j (fun _ => ⟨rfl, rfl⟩) (by have := oTr f14; omega))) fun Al W I => ?_
   refine zx I 16 (fun _ => .string s) (fun Al W I => (z0a I.fa.2.2.1 i1k _ hsv)) fun Al W I => ?_
   refine zqo I (fun Al W I => (HD s W I.fa.2.2.2.1).out) fun Al W p23 c23 I => ?_
   refine zb I 27 ((b0j n s) != 0) (false) (bne_eq_false_iff_eq.2 hse) fun Al W I => ?_
   have I := I.pick [2, 0, 1, 3, 4]
   refine zap I f0v 2 1 (fun Al => [.int .i64 (((decP n s).cls : Nat) : Int), .bool ((decP n s).neg), .slice p23 (dig B32 (decP n s).d).length c23, .int .i64 ((decP n s).pow)]) (fun Al W I => I.box 2 29 _) (by omega) (fun Al W I hp => ⟨I.fa.1.apart I.fa.2.1 (by kernel_rfl) hp, fun ⟨x, hx, h⟩ => I.fa.1.apart (I.fa.2.2.1 x hx) (by kernel_rfl) hp h, fun e => I.fa.1.far I.fa.2.2.2.1 (by kernel_rfl) hp (Eq.symm e), fun e => by have h1 := (I.fa.1.blk_lt hp).1; have h2 := hT.2; have e : 0 = _ := e; omega, True.intro⟩) fun Al W p32 c32 hq_32 I => ?_
   have I := I.add (u0q w.heap.size (xs ++ [(⟨decP n s, p23, c23⟩ : Vp)])) (z0b I.fa.2.2.1 I.fa.2.1) (fun a ha h => c1a h ((fun a ha h0 e => (I.far a ha).2.2.1 ⟨h0, e⟩) a ha) ((fun a ha h0 e => (I.far a ha).2.1 ⟨h0, e⟩) a ha))
   refine zi I 33 .i64 ((i : Int) + 1) (((i + 1 : Nat) : Int)) ((by rw [show ((i : Int) + 1) = ((i + 1 : Nat) : Int) by omega]; exact IntWalk.i64_in _ (by have := oTr f14; omega))) fun Al W I => ?_
   exact s0l 1 I J fun Al W U I => hJ (gk0 - 1) _ _ _ _ _ ((by have := oTr f14; omega)) ⟨U, i + 1, p32, c32, xs ++ [(⟨decP n s, p23, c23⟩ : Vp)], _, rfl, rfl, rfl, (by have := oTr f14; omega), (by rw [hvs, List.flatMap_append]; rfl), (by rw [hst, List.map_append, List.map_append, hxs]; rfl)⟩ (I.pick [0, 1, 4, 5])
 refine zb I 14 (decide ((i : Int) < (L.length : Int))) (false) (f14) fun Al W I => ?_
 have hi : i = L.length := by have := oFa f14; omega
 exact zret I (v := fun Al => .tuple #[.slice p6 i c6, .int .i64 0]) fun Al W I => ⟨xs, vs, p6, c6, by rw [hi], by rw [hxs, hi, List.take_length], hvs, hi ▸ I.fa.2.1, I.fa.1, I.bel.toBelow U (I.boxE 153 _)⟩
theorem _root_.Go.Slip.Inv.ownl {E : List Nat} {w0 : World} {A : List Nat} {bx : List Box} {fs : List PF} {W : World} (I : Inv E w0 A bx fs W) {b : Nat} {xs : List Vp} (o : ∀ x, x ∈ xs → Own W b .u32 76 x.p x.c (dig B32 x.v.d)) (hb : w0.heap.size ≤ b := by first | exact Nat.le_refl _ | assumption | omega) (hne : p0a 76 bx = true := by kernel_rfl) :
 Inv E w0 A bx (u0q w0.heap.size xs :: fs) W :=
 I.add (u0q w0.heap.size xs) (fun x hx => (o x hx).mono hb) fun a ha ⟨x, hx, hf1, hf2⟩ => by
  obtain ⟨j, hj, _, rfl⟩ := ha
  exact (o x hx).far (I.bt j hj) (g0a hne j hj) hf1 hf2
theorem j0k (n way fl : Int) (L : List ByteArray) (b m u : Nat) (w : World) (U : Bt w u 153 #[.int .i64 n, .int .i64 way, .int .i64 (fmt n).g.rad, .int .i64 (fmt n).g.digs, .int .i64 (fmt n).g.lo, .int .i64 (fmt n).g.hi, .bool (fmt n).g.grad, .int .u8 (famB (fmt n)), .int .i64 fl]) (hB0 : Bt w b 9 (L.map Value.string).toArray) (hm : m = L.length) (hl : L.length ≤ 1000) (h0 : errL n L ≠ 0) (hT : TabW w) :
 Calls Tryd.prog 53 #[.pointer (some ⟨u, 0, none⟩), .slice (some ⟨b, 0, none⟩) m m] w fun en w' => en = .returned (.tuple #[.slice none 0 0, .int .i64 (errL n L)]) ∧ Below w.heap.size w w' := by
 subst hm
 obtain ⟨j, sj, hj, he, hne, hlt⟩ := z0c n L h0
 have hjl : j < L.length := (List.getElem?_eq_some_iff.1 hj).1
 rw [he]
 have HX : ∀ i, i < L.length → ∃ s : ByteArray, (L.map Value.string).toArray[i]? = some (.string s) ∧ (i < j → b0j n s = 0) ∧ (i = j → b0j n s = b0j n sj) := fun i h => ⟨L[i], by simp [h], fun k => hlt i _ k (List.getElem?_eq_getElem h), fun k => by subst k; rw [List.getElem?_eq_getElem h] at hj; cases hj; rfl⟩
 have HD := fun s W h => hi0 (m0l n s W h)
 clear he h0 hlt hj
 generalize b0j n sj = er at *
 generalize fmt n = f at *
 have I := Inv.startW w u 153 (uS f n way fl) [btF b 9 (L.map Value.string).toArray, tabF] U ⟨hB0, hT, True.intro⟩ ⟨fun hf => hB0.far U (by kernel_rfl) hf, fun hf => hT.far U (by kernel_rfl) hf, True.intro⟩
 refine a0f [.p 0 0, .v (.slice (some ⟨b, 0, none⟩) L.length L.length)] I Tryd.func53 ?_
 have I := I.add (h0o w.heap.size 29 4 none 0 0 []) (OwnS.nil _ _ _ _) (fun _ _ h => by cases h.1)
 refine w0p I (fun gk fr bx gs => ∃ (U900 : Nat → Value) (i : Nat) (p6 : Option Addr) (c6 : Nat) (vs : List Value), fr = (.p 0 0 :: .v (.slice (some ⟨b, 0, none⟩) L.length L.length) :: su 2 (sw U900 4 2 (.v (.slice p6 i c6) :: .v undef :: sw U900 8 3 (.v (.slice (some ⟨b, 0, none⟩) L.length L.length) :: .v (.int .i64 (L.length : Int)) :: .v (.int .i64 (i : Int)) :: sw U900 14 21 []))) : List SV) ∧ bx = [⟨153, (uS f n way fl), false⟩] ∧ gs = [h0o w.heap.size 29 4 p6 c6 i vs, btF b 9 (L.map Value.string).toArray, tabF] ∧ (gk + i = L.length) ∧ (i ≤ j)) L.length (fun Al W U I => ⟨_, ⟨U, 0, none, 0, [], rfl, rfl, rfl, (by omega), (by omega)⟩, I.pick [0, 1, 2]⟩) ?_
 rintro J gk0 _ _ _ ⟨U900, i, p6, c6, vs, rfl, rfl, rfl, hgk, hij⟩ hJ Al W I
 rcases Bool.eq_false_or_eq_true (decide ((i : Int) < (L.length : Int))) with f14 | f14
 · refine zb I 14 (decide ((i : Int) < (L.length : Int))) (true) (f14) fun Al W I => ?_
   obtain ⟨s, hsv, hs0, hse⟩ := HX i (by have := oTr f14; omega)
   refine zx I 15 (fun _ => .pointer (some (at_ (some ⟨b, 0, none⟩) i))) (fun Al W I => (w0x (m := i) (n := L.length) (c := L.length) i1j (fun _ => ⟨rfl, rfl⟩) (by have := oTr f14; omega))) fun Al W I => ?_
   refine zx I 16 (fun _ => .string s) (fun Al W I => (z0a I.fa.2.1 i1k _ hsv)) fun Al W I => ?_
   refine zqo I (fun Al W I => (HD s W I.fa.2.2.1).out) fun Al W p23 c23 I => ?_
   by_cases hij2 : i = j
   · refine zb I 27 ((b0j n s) != 0) (true) (bne_iff_ne.2 (by rw [hse hij2]; exact hne)) fun Al W I => ?_
     exact zret I (v := fun Al => .tuple #[.slice none 0 0, .int .i64 (b0j n s)]) fun Al W I => ⟨by rw [hse hij2], I.bel.toBelow U (I.boxE 153 _)⟩
   refine zb I 27 ((b0j n s) != 0) (false) (bne_eq_false_iff_eq.2 (hs0 (by omega))) fun Al W I => ?_
   have I := I.pick [1, 0, 2, 3]
   refine zap I f0v 2 1 (fun Al => [.int .i64 (((decP n s).cls : Nat) : Int), .bool ((decP n s).neg), .slice p23 (dig B32 (decP n s).d).length c23, .int .i64 ((decP n s).pow)]) (fun Al W I => I.box 2 29 _) (by omega) (fun Al W I hp => ⟨I.fa.1.apart I.fa.2.1 (by kernel_rfl) hp, fun e => I.fa.1.far I.fa.2.2.1 (by kernel_rfl) hp (Eq.symm e), fun e => by have h1 := (I.fa.1.blk_lt hp).1; have h2 := hT.2; have e : 0 = _ := e; omega, True.intro⟩) fun Al W p32 c32 hq_32 I => ?_
   refine zi I 33 .i64 ((i : Int) + 1) (((i + 1 : Nat) : Int)) ((by rw [show ((i : Int) + 1) = ((i + 1 : Nat) : Int) by omega]; exact IntWalk.i64_in _ (by have := oTr f14; omega))) fun Al W I => ?_
   exact s0l 1 I J fun Al W U I => hJ (gk0 - 1) _ _ _ _ _ ((by have := oTr f14; omega)) ⟨U, i + 1, p32, c32, _, rfl, rfl, rfl, (by have := oTr f14; omega), (by omega)⟩ (I.pick [0, 2, 3])
 refine zb I 14 (decide ((i : Int) < (L.length : Int))) (false) (f14) fun Al W I => ?_
 exact zret I (v := fun Al => .tuple #[.slice p6 i c6, .int .i64 0]) fun Al W I => absurd (oFa f14) (by rw [Classical.not_not]; omega)
def errR (n way : Int) (L : List ByteArray) : Int := if IsFm n then (if errL n L = 0 then (if 1 ≤ way ∧ way ≤ 5 then 0 else 6) else errL n L) else 6
def c1b (n way : Int) (L : List ByteArray) (fn : FuncId) (R : Vr × Nat) : Prop :=
 ∀ (xs : List Vp) (vs : List Value) (p : Option Addr) (c base u : Nat) (W : World), xs.map (·.v) = L.map (decP n) → vs = xs.flatMap Vp.cells → OwnS W base 29 4 p c L.length vs → (∀ x, x ∈ xs → Own W base .u32 76 x.p x.c (dig B32 x.v.d)) →
  Bt W u 153 #[.int .i64 n, .int .i64 way, .int .i64 (fmt n).g.rad, .int .i64 (fmt n).g.digs, .int .i64 (fmt n).g.lo, .int .i64 (fmt n).g.hi, .bool (fmt n).g.grad, .int .u8 (famB (fmt n)), .int .i64 0] → TabW W → base ≤ W.heap.size →
  Calls Tryd.prog fn #[.pointer (some ⟨u, 0, none⟩), .slice p L.length c] W (d0p (fmt n) n way u W base R)
def strR (n : Int) (r : Vr) : ByteArray := b0i ((fmt n).strP ((fmt n).encP r.cls r.neg r.x))
theorem z0d (n way : Int) (L : List ByteArray) (fn : FuncId) (R : Vr × Nat) (b m : Nat) (w : World) (hB0 : Bt w b 9 (L.map Value.string).toArray) (hm : m = L.length) (hl : L.length ≤ 1000) (hT : TabW w)
 (hfn : ∀ args w, (callFunc fn args).run Tryd.prog w = .ok (.enter fn args) w) (h0 : errR n way L = 0) (HD : c1b n way L fn R) (HR : ResF (fmt n) R.1) :
 Calls Tryd.prog 56 #[.int .i64 n, .int .i64 way, .func (.func fn) #[] #[], .slice (some ⟨b, 0, none⟩) m m] w fun en w' => en = .returned (.tuple #[.string (strR n R.1), .int .i64 ((R.2 : Nat) : Int), .int .i64 0]) ∧ Below w.heap.size w w' := by
 subst hm
 have hn : IsFm n := by unfold errR at h0; split at h0; assumption; omega
 unfold errR at h0
 rw [if_pos hn] at h0
 have hL : errL n L = 0 := by split at h0; assumption; contradiction
 rw [if_pos hL] at h0
 have hw : 1 ≤ way ∧ way ≤ 5 := by split at h0; assumption; omega
 clear h0
 obtain ⟨r, fl⟩ := R
 simp only at HR ⊢
 have HO1 := fun W => hi0 (l0n n 1 W hn (by omega))
 have HO2 := fun W => hi0 (l0n n way W hn hw)
 have HDe := fun W u h1 h2 h3 => hi0 (o0c n 1 0 L b L.length u W h1 h2 rfl hl hL h3)
 have HDo := fun xs vs p c base u W h1 h2 h3 h4 h5 h6 h7 => hi0 (HD xs vs p c base u W h1 h2 h3 h4 h5 h6 h7)
 have HT := fun W (v : Vl) p c base u h1 h2 h3 h4 => hi0 (i1i n way (fl : Int) ⟨v, p, c⟩ r base u W h1 h2 hn h3 HR h4)
 have hs : strR n r = b0i ((fmt n).strP ((fmt n).encP r.cls r.neg r.x)) := rfl
 rw [← hs] at HT
 clear hs
 generalize strR n r = s at *
 generalize fmt n = f at *
 have I := Inv.start w [btF b 9 (L.map Value.string).toArray, tabF] ⟨hB0, hT, True.intro⟩
 refine a0f [.v (.int .i64 n), .v (.int .i64 way), .v (.func (.func fn) #[] #[]), .v (.slice (some ⟨b, 0, none⟩) L.length L.length)] I Tryd.func56 ?_
 refine zg I (fun Al W I => (HO1 W).out) fun Al V Iv _ hB _ kz => ?_
 rintro _ W ⟨u16, rfl, hge, hB, hb⟩
 refine ⟨_, rfl, kz _ _ hb fun I => ?_⟩
 refine u0a Iv hb 0 u16 153 [(.int .i64 n), (.int .i64 1), (.int .i64 f.g.rad), (.int .i64 f.g.digs), (.int .i64 f.g.lo), (.int .i64 f.g.hi), (.bool f.g.grad), (.int .u8 (famB f)), (.int .i64 0)] hge hB fun Al hAl_16 I => ?_
 refine u0b I 17 0 u16 hAl_16 fun Al W I => ?_
 refine zg I (fun Al W I => (HDe W _ (I.box 0 153 _) I.fa.1 I.fa.2.1).out) fun Al V Iv _ hB _ kz => ?_
 rintro _ W ⟨xs, vs, p25, c25, rfl, hxs, hvs, oS, oL, hb⟩
 refine ⟨_, rfl, kz _ _ hb fun I => ?_⟩
 have I := I.owns oS
 have I := I.ownl oL
 refine zg I (fun Al W I => (HO2 W).out) fun Al V Iv _ hB _ kz => ?_
 rintro _ W ⟨u34, rfl, hge, hB, hb⟩
 refine ⟨_, rfl, kz _ _ hb fun I => ?_⟩
 refine u0a Iv hb 1 u34 153 [(.int .i64 n), (.int .i64 way), (.int .i64 f.g.rad), (.int .i64 f.g.digs), (.int .i64 f.g.lo), (.int .i64 f.g.hi), (.bool f.g.grad), (.int .u8 (famB f)), (.int .i64 0)] hge hB fun Al hAl_34 I => ?_
 refine u0b I 35 1 u34 hAl_34 fun Al W I => ?_
 refine zgfe (hf := hfn) I 1 153 (fun Al W I => (HDo xs vs p25 c25 _ _ W hxs hvs I.fa.2.1 I.fa.1 (I.box 1 153 _) I.fa.2.2.2.1 I.bel.size).out) fun Al V Iv _ _ kz => ?_
 rintro _ W ⟨v44, hR44, p44, c44, rfl, o44, hO, hB⟩
 refine ⟨_, rfl, kz _ (uS f n way (fl : Int)) _ hO hB fun I => ?_⟩
 have I := I.own o44
 refine zq I (fun Al W I => (HT W v44 p44 c44 _ _ (I.box 1 153 _) I.fa.1 hR44 I.fa.2.2.2.2.1).out) fun Al W I => ?_
 exact zrb I
theorem r0k (n way : Int) (L : List ByteArray) (fn : FuncId) (b m : Nat) (w : World) (hB0 : Bt w b 9 (L.map Value.string).toArray) (hm : m = L.length) (hl : L.length ≤ 1000) (hT : TabW w) (h0 : errR n way L ≠ 0) :
 Calls Tryd.prog 56 #[.int .i64 n, .int .i64 way, .func (.func fn) #[] #[], .slice (some ⟨b, 0, none⟩) m m] w fun en w' => en = .returned (.tuple #[.string (b0i []), .int .i64 0, .int .i64 (errR n way L)]) ∧ Below w.heap.size w w' := by
 subst hm
 unfold errR at h0 ⊢
 by_cases hn : IsFm n
 · rw [if_pos hn] at h0 ⊢
   have HO1 := fun W => hi0 (l0n n 1 W hn (by omega))
   by_cases hL : errL n L = 0
   · rw [if_pos hL] at h0 ⊢
     have hw : ¬ (1 ≤ way ∧ way ≤ 5) := fun h => h0 (if_pos h)
     rw [if_neg hw]
     have HO2 := fun W => hi0 (o0b n way W (fun h => hw h.2))
     have HDe := fun W u h1 h2 h3 => hi0 (o0c n 1 0 L b L.length u W h1 h2 rfl hl hL h3)
     generalize fmt n = f at *
     have I := Inv.start w [btF b 9 (L.map Value.string).toArray, tabF] ⟨hB0, hT, True.intro⟩
     refine a0f [.v (.int .i64 n), .v (.int .i64 way), .v (.func (.func fn) #[] #[]), .v (.slice (some ⟨b, 0, none⟩) L.length L.length)] I Tryd.func56 ?_
     refine zg I (fun Al W I => (HO1 W).out) fun Al V Iv _ hB _ kz => ?_
     rintro _ W ⟨u16, rfl, hge, hB, hb⟩
     refine ⟨_, rfl, kz _ _ hb fun I => ?_⟩
     refine u0a Iv hb 0 u16 153 [(.int .i64 n), (.int .i64 1), (.int .i64 f.g.rad), (.int .i64 f.g.digs), (.int .i64 f.g.lo), (.int .i64 f.g.hi), (.bool f.g.grad), (.int .u8 (famB f)), (.int .i64 0)] hge hB fun Al hAl_16 I => ?_
     refine u0b I 17 0 u16 hAl_16 fun Al W I => ?_
     refine zg I (fun Al W I => (HDe W _ (I.box 0 153 _) I.fa.1 I.fa.2.1).out) fun Al V Iv _ hB _ kz => ?_
     rintro _ W ⟨xs, vs, p25, c25, rfl, hxs, hvs, oS, oL, hb⟩
     refine ⟨_, rfl, kz _ _ hb fun I => ?_⟩
     have I := I.owns oS
     have I := I.ownl oL
     refine zq I (fun Al W I => (HO2 W).out) fun Al W I => ?_
     exact zrb I
   · rw [if_neg hL] at h0 ⊢
     have HDe := fun W u h1 h2 h3 => hi0 (j0k n 1 0 L b L.length u W h1 h2 rfl hl hL h3)
     generalize errL n L = er at *
     generalize fmt n = f at *
     have I := Inv.start w [btF b 9 (L.map Value.string).toArray, tabF] ⟨hB0, hT, True.intro⟩
     refine a0f [.v (.int .i64 n), .v (.int .i64 way), .v (.func (.func fn) #[] #[]), .v (.slice (some ⟨b, 0, none⟩) L.length L.length)] I Tryd.func56 ?_
     refine zg I (fun Al W I => (HO1 W).out) fun Al V Iv _ hB _ kz => ?_
     rintro _ W ⟨u16, rfl, hge, hB, hb⟩
     refine ⟨_, rfl, kz _ _ hb fun I => ?_⟩
     refine u0a Iv hb 0 u16 153 [(.int .i64 n), (.int .i64 1), (.int .i64 f.g.rad), (.int .i64 f.g.digs), (.int .i64 f.g.lo), (.int .i64 f.g.hi), (.bool f.g.grad), (.int .u8 (famB f)), (.int .i64 0)] hge hB fun Al hAl_16 I => ?_
     refine u0b I 17 0 u16 hAl_16 fun Al W I => ?_
     refine zq I (fun Al W I => (HDe W _ (I.box 0 153 _) I.fa.1 I.fa.2.1).out) fun Al W I => ?_
     refine zb I 29 (er != 0) (true) (bne_iff_ne.2 hL) fun Al W I => ?_
     exact zrb I
 · rw [if_neg hn]
   have HO1 := fun W => hi0 (o0b n 1 W (fun h => hn h.1))
   have I := Inv.start w [] True.intro
   refine a0f [.v (.int .i64 n), .v (.int .i64 way), .v (.func (.func fn) #[] #[]), .v (.slice (some ⟨b, 0, none⟩) L.length L.length)] I Tryd.func56 ?_
   refine zq I (fun Al W I => (HO1 W).out) fun Al W I => ?_
   exact zrb I
structure VrF (f : Fm) (r : Vr) : Prop where
 ok : VrOk r
 inf : r.cls = 3 → f.fam = 1
def refD (n : Int) (s : ByteArray) : Vr := (fmt n).refN (a0v (fmt n) s)
theorem i1l {f : Fm} (G : b0b f) (neg : Bool) {e frac : Nat} (h : e < 2 ^ f.E) : (f.dec neg e frac).p = 0 ∨ (f.g.lo ≤ (f.dec neg e frac).p ∧ (f.dec neg e frac).p ≤ f.g.hi + 1) := by
 have h3 := G.hi1
 have h4 := G.hi2
 have h5 := G.hi3
 have h6 := G.fam
 have gg := (b0y G.g).le
 have e1 := G.e1
 have hE1 : (2 : Nat) ^ 7 ≤ 2 ^ f.E := Nat.pow_le_pow_right (by omega) e1
 unfold Fm.dec
 generalize 2 ^ f.E = T at *
 repeat' split
 all_goals first | exact .inl rfl | (right; simp only; omega)
theorem f1y {f : Fm} (neg : Bool) {e frac : Nat} (h : (f.dec neg e frac).c = 3) : f.fam = 1 := by
 have h : (f.dec neg e frac).cls = 3 := by
  unfold Dc.c at h
  split at h <;> omega
 unfold Fm.dec at h
 split at h
 · simp at h
 · split at h
   · rename_i k
     exact k.1
   · split at h
     · split at h <;> simp at h
     · split at h
       · simp at h
       · split at h
         · simp at h
         · split at h <;> simp at h
theorem d0q {n : Int} {s : ByteArray} (hn : IsFm n) : VrF (fmt n) (refD n s) := by
 have G := d0h hn
 have GG := b0y G.g
 obtain ⟨w1, w2, w3⟩ := m0g G.g
 have he : (fmt n).exp (a0v (fmt n) s) < 2 ^ (fmt n).E := Nat.mod_lt _ (Nat.pow_pos (by omega))
 have hx : (fmt n).frac (a0v (fmt n) s) < 2 ^ (fmt n).F := Nat.mod_lt _ (Nat.pow_pos (by omega))
 have hm := f1a (f := fmt n) ((fmt n).neg (a0v (fmt n) s)) (e := (fmt n).exp (a0v (fmt n) s)) hx
 have hp := i1l G ((fmt n).neg (a0v (fmt n) s)) (frac := (fmt n).frac (a0v (fmt n) s)) he
 have hi := fun h => f1y (f := fmt n) ((fmt n).neg (a0v (fmt n) s)) (e := (fmt n).exp (a0v (fmt n) s)) (frac := (fmt n).frac (a0v (fmt n) s)) h
 have hcls := x0k (fmt n) ((fmt n).neg (a0v (fmt n) s)) ((fmt n).exp (a0v (fmt n) s)) ((fmt n).frac (a0v (fmt n) s))
 have z2 := G.f2
 unfold refD Fm.refN Fm.decN
 generalize (fmt n).dec ((fmt n).neg (a0v (fmt n) s)) ((fmt n).exp (a0v (fmt n) s)) ((fmt n).frac (a0v (fmt n) s)) = D at *
 generalize (fmt n).neg (a0v (fmt n) s) = g at *
 generalize fmt n = f at *
 have hc : 1 ≤ D.c ∧ D.c ≤ 5 := by unfold Dc.c; split <;> omega
 have hml : (dig B32 D.m).length ≤ 3 := a0s hm (by omega)
 have wp := b0f f.g
 have hwp : -17010 ≤ (wid f.g : Int) * D.p ∧ (wid f.g : Int) * D.p ≤ 17010 := by
  rcases hp with h | ⟨h1, h2⟩
  · rw [h, Int.mul_zero]; omega
  · have a1 : (wid f.g : Int) * f.g.lo ≤ wid f.g * D.p := Int.mul_le_mul_of_nonneg_left h1 (by omega)
    have a2 : (wid f.g : Int) * D.p ≤ wid f.g * (f.g.hi + 1) := Int.mul_le_mul_of_nonneg_left h2 (by omega)
    rw [Int.mul_add, Int.mul_one] at a2
    omega
 refine ⟨⟨hc, fun h => ?_, fun h => ?_, ?_, ?_, ?_, ?_⟩, hi⟩
 · have h : ¬ D.c = 2 := h
   unfold Fm.vr
   simp only [if_neg h]
   rfl
 · have h : D.c = 2 := h
   have hm0 := d1g h
   unfold Fm.vr
   simp only [h, if_true]
   obtain ⟨b1, b2⟩ := j0e (g := g) (e := (wid f.g : Int) * D.p) hm0
   exact ⟨b2, by rw [b1]; rfl⟩
 · unfold Fm.vr
   simp only
   split
   · exact h0x _
   · exact .inr rfl
 · unfold Fm.vr
   simp only
   split
   · exact Nat.le_trans (j0s a0b _) (by show (dig B32 D.m).length ≤ _; omega)
   · show (dig B32 0).length ≤ _; rw [a0h]; decide
 · unfold Fm.vr
   simp only
   split
   · have := r0w (⟨g, D.m, wid f.g * D.p⟩ : Dv) (n := 3) hml (lo := -17100) (hi := 17100) (by simp only; omega) (by simp only; omega) (by omega) (by omega)
     omega
   · show (-18000 : Int) ≤ 0; decide
 · unfold Fm.vr
   simp only
   split
   · have := r0w (⟨g, D.m, wid f.g * D.p⟩ : Dv) (n := 3) hml (lo := -17100) (hi := 17100) (by simp only; omega) (by simp only; omega) (by omega) (by omega)
     omega
   · show (0 : Int) ≤ 18000; decide
theorem c1c {n : Int} {s : ByteArray} (h0 : b0j n s = 0) : VRep (fmt n) (decP n s) (refD n s) := by
 obtain ⟨hn, hs⟩ := d0o.1 h0
 have G := d0h hn
 have hd : decP n s = (fmt n).valN (a0v (fmt n) s) := by unfold decP; rw [if_pos h0]
 have he : (fmt n).exp (a0v (fmt n) s) < 2 ^ (fmt n).E := Nat.mod_lt _ (Nat.pow_pos (by omega))
 have hx : (fmt n).frac (a0v (fmt n) s) < 2 ^ (fmt n).F := Nat.mod_lt _ (Nat.pow_pos (by omega))
 have hb := j1f G ((fmt n).neg (a0v (fmt n) s)) he hx ((fmt n).neg (a0v (fmt n) s))
 have hk := b1l (fmt n) ((fmt n).neg (a0v (fmt n) s)) ((fmt n).decN (a0v (fmt n) s))
 have ho := b1n (fmt n) ((fmt n).neg (a0v (fmt n) s)) ((fmt n).decN (a0v (fmt n) s))
 rw [hd]
 exact ⟨rfl, rfl, fun _ => hk, fun h => ho h, hb.1, hb.2.1, hb.2.2⟩
theorem j0l {n : Int} {s : ByteArray} (h0 : b0j n s = 0) {x : Vp} (hx : x.v = decP n s) : AtV (fmt n) x (refD n s) := by
 have F := d0q (s := s) (d0o.1 h0).1
 exact ⟨by rw [hx]; exact c1c h0, F.ok, F.inf⟩
/-! ### Results -/
theorem d1j {f : Fm} (G : b0b f) (x : Dv) (way : Int) : ResF f (f.numM x way).1 := by
 unfold Fm.numM
 split
 · exact j0f G _
 · exact (g0q G (by omega)).1
theorem i1m {f : Fm} (G : b0b f) (x y : Dv) (g h : Bool) (way : Int) : ResF f (f.sumM x y g h way).1 := by
 unfold Fm.sumM
 split
 · exact d1j G _ _
 · split <;> exact j0f G _
theorem z0e {f : Fm} {r : Vr} (h : r.cls = 3) (R : VrF f r) : ResF f r :=
 ⟨by omega, fun k => by omega, fun k => by omega, fun _ => R.inf h, fun k => by omega, fun k => by omega, fun _ => R.ok.x0 (by omega)⟩
theorem d1k {f : Fm} (G : b0b f) {a b : Vr} (A : VrF f a) (B : VrF f b) (way : Int) : ResF f (f.addM a b way).1 := by
 unfold Fm.addM
 split
 · exact d0g G
 · split
   · rename_i h
     split
     · exact d0g G
     · split
       · rename_i h3; exact z0e h3 A
       · rename_i h3; exact z0e (show b.cls = 3 by omega) B
   · exact i1m G _ _ _ _ _
theorem d1l {f : Fm} (G : b0b f) {a b : Vr} (A : a.cls = 3 → f.fam = 1) (B : b.cls = 3 → f.fam = 1) (way : Int) : ResF f (f.mulM a b way).1 := by
 unfold Fm.mulM
 split
 · exact d0g G
 · split
   · rename_i h
     split
     · exact d0g G
     · exact s0y (h.elim A B) _
   · split
     · exact j0f G _
     · exact d1j G _ _
theorem f1z {f : Fm} (G : b0b f) (g : Bool) : ResF f (f.poleM g).1 := by
 unfold Fm.poleM
 simp only
 split
 · rename_i h; exact s0y h _
 · split
   · exact n0z G _
   · exact d0g G
theorem d1m {f : Fm} (G : b0b f) {a b : Vr} (A : a.cls = 3 → f.fam = 1) (B : VrOk b) (way : Int) : ResF f (f.divM a b way).1 := by
 unfold Fm.divM
 have hc := B.c
 split
 · exact d0g G
 · split
   · exact d0g G
   · split
     · rename_i h; exact s0y (A h) _
     · split
       · exact j0f G _
       · split
         · exact f1z G _
         · have := (B.x2 (by omega)).1
           exact (g0q G (by omega)).1
def _root_.Go.Slip.Vr.opp (r : Vr) : Vr := if r.cls ≤ 3 then ⟨r.cls, !r.neg, c0b r.x⟩ else r
theorem g1a {f : Fm} (G : b0b f) {r : Vr} (R : ResF f r) : CanF f r.cls r.neg r.x :=
 ⟨R.c, R.c1, fun h => ⟨y0g G (R.c2 h).1 (R.c2 h).2.2.1, (R.c2 h).2.1, (R.c2 h).2.2.1, (R.c2 h).2.2.2⟩, R.c3, R.c4, R.c5⟩
theorem t0b {n : Int} (hn : IsFm n) {r : Vr} (R : ResF (fmt n) r) : b0j n (strR n r) = 0 ∧ refD n (strR n r) = r := by
 have G := d0h hn
 have C := g1a G R
 have hlt := f1l G (cls := r.cls) (g := r.neg) (d := r.x) (fun h => (C.c2 h).1)
 have hs : (strR n r).size = (fmt n).size := by unfold strR; rw [l0v]; exact f1b _ _ _ _
 refine ⟨d0o.2 ⟨hn, hs⟩, ?_⟩
 have hv := f1n G C
 obtain ⟨q1, q2, q3⟩ := x0m (f := fmt n) (neg := ((fmt n).encP r.cls r.neg r.x).neg) hlt.1 hlt.2
 unfold refD Fm.refN Fm.decN strR Fm.strP
 rw [r0h G hlt.1 hlt.2, q1, q2, q3, hv]
 by_cases h2 : r.cls = 2
 · rw [if_pos h2]
 · rw [if_neg h2, show (⟨false, 0, 0⟩ : Dv) = r.x from (R.x0 h2).symm]
def outS (n way : Int) (L : List ByteArray) (R : Vr × Nat) : ByteArray := if errR n way L = 0 then strR n R.1 else b0i []
def outF (n way : Int) (L : List ByteArray) (R : Vr × Nat) : Nat := if errR n way L = 0 then R.2 else 0
theorem i1n {a : Dv} {e : Int} (h : zOf a e = 0) : a.m = 0 := by
 unfold zOf sg at h
 have hp : 0 < 2 ^ (a.e - e).toNat := Nat.pow_pos (by omega)
 rcases Nat.eq_zero_or_pos a.m with k | k
 · exact k
 · have hq := Nat.mul_pos k hp
   have hz : (a.m : Int) * 2 ^ (a.e - e).toNat ≠ 0 := by
    have : (((a.m * 2 ^ (a.e - e).toNat : Nat)) : Int) ≠ 0 := by omega
    simpa using this
   split at h <;> first | exact absurd h hz | (exfalso; apply hz; simpa using h)
end Go.Proofs.YtmacohmclpnphaaDoor
namespace Go.Slip
end Go.Slip
namespace Go.Proofs.YtmacohmclpnphaaDoor
open Go.RowKit Go.Slip
/-! ### The number 1 -/
theorem u0r (x : Dv) : (f0y x (c0b x)).m = 0 := by
 have := v0x x (c0b x) (e := min x.e 0) (by omega) (show min x.e 0 ≤ x.e by omega)
 rw [m0a, Int.add_right_neg] at this
 exact i1n this
theorem sub_self {f : Fm} {r : Vr} (hc : r.cls ≤ 2) (way : Int) : ∃ g, f.addM r r.opp way = (f.zeroM g, 0) := by
 have ho : r.opp = ⟨r.cls, !r.neg, c0b r.x⟩ := by unfold Vr.opp; rw [if_pos (by omega)]
 rw [ho]
 unfold Fm.addM
 rw [if_neg (by simp only; omega), if_neg (by simp only; omega)]
 unfold Fm.sumM
 rw [if_neg (by rw [u0r]; simp)]
 split
 · exact ⟨_, rfl⟩
 · exact ⟨_, rfl⟩
end Go.Proofs.YtmacohmclpnphaaDoor
namespace Go.Slip
open Go.RowKit
def p0q : List (Nat × SV) → Cfg → Cfg
 | [], c => c
 | (i, y) :: l, c => p0q l (i0z i y c)
section
variable {P : Program} {Q : Exit → Act → World → Prop} {E : List Nat} {w0 : World} {A : List Nat} {fs : List PF} {W : World} {c c' : Cfg}
theorem j0p (_ : Inv E w0 A c.bx fs W) (l : List (Nat × SV)) (h1 : ∀ A W, Inv E w0 A (nrm (p0q l c)).bx fs W → G P Q A (nrm (p0q l c)) W)
 (h2 : (∀ A W, Inv E w0 A (nrm (p0q l c)).bx fs W → G P Q A (nrm (p0q l c)) W) → G P Q A c W) : G P Q A c W := h2 h1
theorem zuse (K : ∀ A W, Inv E w0 A c'.bx fs W → G P Q A c' W) (I : Inv E w0 A c.bx fs W) (he : c = c' := by kernel_rfl) : G P Q A c W := by
 subst he
 exact K _ _ I
end
end Go.Slip
namespace Go.Slip
open Go.RowKit
def d1n (i : Nat) (c : Cfg) (A : List Nat) : Option VO :=
 match c.rg with
 | .dr ops _ _ (_ + 1) listed => match ops[i]? with
  | some o => match Region.noSelect ops && Region.free .any ops listed i && (Region.ready .any ops listed).contains i && wnt ops c.fr o with
   | true => match o.op with
    | .indexAddr t x j => some (.ix t (evr A c.fr x) (evr A c.fr j))
    | _ => none
   | false => none
  | none => none
 | _ => none
section
variable {P : Program} {Q : Exit → Act → World → Prop} {E : List Nat} {w0 : World} {A : List Nat} {fs : List PF} {W : World} {c : Cfg}
theorem zkx (i : Nat) (I : Inv E w0 A c.bx fs W) {vo : VO} (v : Value) (hx : ∀ W, vo.sem.run P W = .ok v W) (h : Inv E w0 A (i0z i (.v v) c).bx fs W → G P Q A (i0z i (.v v) c) W)
 (hv : d1n i c A = some vo := by kernel_rfl) (hm : dk1 c.rg c.bx = dk2 c.rg := by kernel_rfl) (hQ : f0r Q := by exact e0a) : G P Q A c W := by
 refine ⟨?_⟩
 have h := (h (by rw [s0f]; exact I)).out
 obtain ⟨cf, cb, rg, ks⟩ := c
 cases rg with
 | off => cases hv
 | pl => cases hv
 | one => cases hv
 | ret => cases hv
 | dr ops A0 m fuel listed =>
  cases fuel with
  | zero => cases hv
  | succ fuel =>
   unfold d1n at hv
   unfold i0z at h
   simp only at hv h
   intro pre
   split at hv
   · rename_i o hi
     rw [hi] at h
     split at hv
     · rename_i h1
       simp only [Bool.and_eq_true] at h1
       obtain ⟨⟨⟨h1, h2⟩, h3⟩, hw⟩ := h1
       split at hv
       · rename_i t x j hop
         simp only [Option.some.injEq] at hv
         subst hv
         have hS : SB A0 m W := w0l I pre hm
         have h : WpH P ops (post P Q ks) (SB A0 m) fuel (listed.setIfInBounds i true) (act A (putO cf o.dst (.v v))) W := h pre
         rw [← c0t] at h
         refine h0l i o.dst v _ hi rfl rfl h1 h2 h3 (fun c a w => e0n (P := P) hQ ks c a o.dst v w) (.inl ⟨by rw [e0u]; exact hw, fun w' _ => ?_⟩) hS h
         rw [b0u]
         unfold execOp
         have := hx w'
         unfold VO.sem at this
         simp only [hop, Sem.run_bind, this, Result.andThen_ok, Sem.run_pure]
       · cases hv
     · cases hv
   · cases hv
end
end Go.Slip
namespace Go.Proofs.YtmacohmclpnphaaDoor
open Go.RowKit Go.Slip
theorem o0d {n : Int} {s t : ByteArray} (h : errL n [s, t] = 0) : b0j n s = 0 ∧ b0j n t = 0 ∧ IsFm n := by
 have h1 := i0m n h s (by simp)
 exact ⟨h1, i0m n h t (by simp), (d0o.1 h1).1⟩
theorem j0x {n : Int} {xs : List Vp} {s t : ByteArray} (h : xs.map (·.v) = [s, t].map (decP n)) : ∃ x y, xs = [x, y] ∧ x.v = decP n s ∧ y.v = decP n t := by
 cases xs with
 | nil => simp at h
 | cons x l =>
  cases l with
  | nil => simp at h
  | cons y l =>
   cases l with
   | nil => simp only [List.map_cons, List.map_nil, List.cons.injEq, and_true] at h; exact ⟨x, y, rfl, h.1, h.2⟩
   | cons _ _ => simp at h
theorem c1d (n way : Int) (s t : ByteArray) (h0 : errL n [s, t] = 0) (hw : 1 ≤ way ∧ way ≤ 5) : c1b n way [s, t] 57 ((fmt n).addM (refD n s) (refD n t) way) := by
 intro xs vs p c base u w hxs hvs oS oL U hT hb
 obtain ⟨hs, ht, hn⟩ := o0d h0
 obtain ⟨x, y, rfl, hx, hy⟩ := j0x hxs
 have ox := oL x (by simp)
 have oy := oL y (by simp)
 have HA := fun W u h1 h2 h3 h4 h5 => hi0 (j1k (fmt n) n way x y (refD n s) (refD n t) base u W h1 h2 h3 h4 (j0l hs hx) (j0l ht hy) (d0h hn) hw h5)
 generalize (fmt n).addM (refD n s) (refD n t) way = R at *
 generalize fmt n = f at *
 subst hvs
 clear oL hx hy hxs h0 hs ht hn
 obtain ⟨r, fl⟩ := R
 have I := Inv.startW w u 153 (uS f n way 0) [h0o base 29 4 p c [s, t].length ([x, y].flatMap Vp.cells), ownF base .u32 76 x.p x.c (dig B32 x.v.d), ownF base .u32 76 y.p y.c (dig B32 y.v.d), tabF] U ⟨oS, ox, oy, hT, True.intro⟩ ⟨fun hf => oS.far U (by kernel_rfl) hf.1 hf.2, fun hf => ox.far U (by kernel_rfl) hf.1 hf.2, fun hf => oy.far U (by kernel_rfl) hf.1 hf.2, fun hf => hT.far U (by kernel_rfl) hf, True.intro⟩
 refine a0f [.p 0 0, .v (.slice p [s, t].length c)] I Tryd.func57 ?_
 refine zd [0, 1] I fun Al W I => ?_
 refine zk [0, 1] I fun I => ?_
 refine zkx 2 I (.pointer (some (at_ p (0 * 4)))) (fun _ => (e0g (m := 0) (n := [s, t].length) (c := c) f0v I.fa.1.solid (by simp))) fun I => ?_
 refine zk [4] I fun I => ?_
 refine zkx 5 I (.pointer (some (at_ p (1 * 4)))) (fun _ => (e0g (m := 1) (n := [s, t].length) (c := c) f0v I.fa.1.solid (by simp))) fun I => ?_
 refine j0p I [(3, .v (.agg #[.int .i64 (x.v.cls : Int), .bool x.v.neg, .slice x.p (dig B32 x.v.d).length x.c, .int .i64 x.v.pow])), (6, .v (.agg #[.int .i64 (y.v.cls : Int), .bool y.v.neg, .slice y.p (dig B32 y.v.d).length y.c, .int .i64 y.v.pow]))] (fun Al W I => ?_) (fun KL7 => ?_)
 · refine zo 7 I fun I => ?_
   refine zge I 0 153 (fun Al W I => have hzW := I.bel.size; (HA W _ (I.box 0 153 _) I.fa.2.1 I.fa.2.2.1 (by omega) I.fa.2.2.2.1).out) fun Al V Iv _ _ kz => ?_
   rintro _ W ⟨v12, hR12, p12, c12, rfl, o12, hO, hB⟩
   refine ⟨_, rfl, kz _ (uS f n way (fl : Int)) _ hO hB fun I => ?_⟩
   have I := I.ownB base o12
   refine zo 8 I fun I => ?_
   refine zn I fun Al W I => ?_
   exact zret I fun Al W I => ⟨v12, hR12, p12, c12, rfl, I.fa.1, I.bel, I.boxE 153 _⟩
 refine j0p I [(3, .v (.agg #[.int .i64 (x.v.cls : Int), .bool x.v.neg, .slice x.p (dig B32 x.v.d).length x.c, .int .i64 x.v.pow]))] (fun Al W I => ?_) (fun KL5 => ?_)
 · refine zo 6 I fun I => ?_
   refine zx I 11 (fun _ => .agg #[.int .i64 (y.v.cls : Int), .bool y.v.neg, .slice y.p (dig B32 y.v.d).length y.c, .int .i64 y.v.pow]) (fun Al W I => (c0r (m := 1 * 4) I.fa.1 e0k y.cells rfl rfl)) fun Al W I => ?_
   exact zuse KL7 I
 refine j0p I [(6, .v (.agg #[.int .i64 (y.v.cls : Int), .bool y.v.neg, .slice y.p (dig B32 y.v.d).length y.c, .int .i64 y.v.pow]))] (fun Al W I => ?_) (fun KL6 => ?_)
 · refine zo 3 I fun I => ?_
   refine zx I 8 (fun _ => .agg #[.int .i64 (x.v.cls : Int), .bool x.v.neg, .slice x.p (dig B32 x.v.d).length x.c, .int .i64 x.v.pow]) (fun Al W I => (c0r (m := 0 * 4) I.fa.1 e0k x.cells rfl rfl)) fun Al W I => ?_
   exact zuse KL7 I
 refine zo2 3 6 I (fun I => ?_) (fun I => ?_)
 · refine zx I 8 (fun _ => .agg #[.int .i64 (x.v.cls : Int), .bool x.v.neg, .slice x.p (dig B32 x.v.d).length x.c, .int .i64 x.v.pow]) (fun Al W I => (c0r (m := 0 * 4) I.fa.1 e0k x.cells rfl rfl)) fun Al W I => ?_
   exact zuse KL5 I
 refine zx I 11 (fun _ => .agg #[.int .i64 (y.v.cls : Int), .bool y.v.neg, .slice y.p (dig B32 y.v.d).length y.c, .int .i64 y.v.pow]) (fun Al W I => (c0r (m := 1 * 4) I.fa.1 e0k y.cells rfl rfl)) fun Al W I => ?_
 exact zuse KL6 I
def f0a (n way : Int) (L : List ByteArray) (R : Vr × Nat) (w : World) (en : Ending) (w' : World) : Prop :=
 (if errR n way L = 0 then en = .returned (.tuple #[.string (strR n R.1), .int .i64 ((R.2 : Nat) : Int), .int .i64 (errR n way L)]) else en = .returned (.tuple #[.string (b0i []), .int .i64 0, .int .i64 (errR n way L)])) ∧ Below w.heap.size w w'
theorem f0l {n way : Int} {L : List ByteArray} (h0 : errR n way L = 0) : IsFm n ∧ errL n L = 0 ∧ 1 ≤ way ∧ way ≤ 5 := by
 have hn : IsFm n := by unfold errR at h0; split at h0; assumption; omega
 unfold errR at h0
 rw [if_pos hn] at h0
 have hL : errL n L = 0 := by split at h0; assumption; contradiction
 rw [if_pos hL] at h0
 exact ⟨hn, hL, by split at h0; assumption; omega⟩
theorem t0c (n way : Int) (s t : ByteArray) (w : World) (hT : TabW w) : Calls Tryd.prog 18 #[.int .i64 n, .string s, .string t, .int .i64 way] w (f0a n way [s, t] ((fmt n).addM (refD n s) (refD n t) way) w) := by
 unfold f0a
 by_cases h0 : errR n way [s, t] = 0
 · obtain ⟨hn, hL, hw⟩ := f0l h0
   have HR := fun b m W h1 h2 h3 => hi0 (z0d n way [s, t] 57 _ b m W h1 h2 (by simp) h3 (fun _ _ => by kernel_rfl) h0 (c1d n way s t hL hw) (d1k (d0h hn) (d0q hn) (d0q hn) way))
   simp only [h0, if_true]
   generalize strR n ((fmt n).addM (refD n s) (refD n t) way).1 = str at *
   generalize ((fmt n).addM (refD n s) (refD n t) way).2 = fl at *
   have I := Inv.start w [tabF] ⟨hT, True.intro⟩
   refine a0f [.v (.int .i64 n), .v (.string s), .v (.string t), .v (.int .i64 way)] I Tryd.func18 ?_
   refine zq I (fun Al W I => (HR _ 2 W (I.box 0 9 _) rfl I.fa.1).out) fun Al W I => ?_
   exact zrb I
 · have HR := fun b m W h1 h2 h3 => hi0 (r0k n way [s, t] 57 b m W h1 h2 (by simp) h3 h0)
   simp only [if_neg h0]
   generalize errR n way [s, t] = er at *
   have I := Inv.start w [tabF] ⟨hT, True.intro⟩
   refine a0f [.v (.int .i64 n), .v (.string s), .v (.string t), .v (.int .i64 way)] I Tryd.func18 ?_
   refine zq I (fun Al W I => (HR _ 2 W (I.box 0 9 _) rfl I.fa.1).out) fun Al W I => ?_
   exact zrb I
theorem c1e (n way : Int) (s t : ByteArray) (h0 : errL n [s, t] = 0) (hw : 1 ≤ way ∧ way ≤ 5) : c1b n way [s, t] 59 ((fmt n).mulM (refD n s) (refD n t) way) := by
 intro xs vs p c base u w hxs hvs oS oL U hT hb
 obtain ⟨hs, ht, hn⟩ := o0d h0
 obtain ⟨x, y, rfl, hx, hy⟩ := j0x hxs
 have ox := oL x (by simp)
 have oy := oL y (by simp)
 have HA := fun W u h1 h2 h3 h4 h5 => hi0 (j1l (fmt n) n way x y (refD n s) (refD n t) base u W h1 h2 h3 h4 (j0l hs hx) (j0l ht hy) (d0h hn) hw h5)
 generalize (fmt n).mulM (refD n s) (refD n t) way = R at *
 generalize fmt n = f at *
 subst hvs
 clear oL hx hy hxs h0 hs ht hn
 obtain ⟨r, fl⟩ := R
 have I := Inv.startW w u 153 (uS f n way 0) [h0o base 29 4 p c [s, t].length ([x, y].flatMap Vp.cells), ownF base .u32 76 x.p x.c (dig B32 x.v.d), ownF base .u32 76 y.p y.c (dig B32 y.v.d), tabF] U ⟨oS, ox, oy, hT, True.intro⟩ ⟨fun hf => oS.far U (by kernel_rfl) hf.1 hf.2, fun hf => ox.far U (by kernel_rfl) hf.1 hf.2, fun hf => oy.far U (by kernel_rfl) hf.1 hf.2, fun hf => hT.far U (by kernel_rfl) hf, True.intro⟩
 refine a0f [.p 0 0, .v (.slice p [s, t].length c)] I Tryd.func59 ?_
 refine zd [0, 1] I fun Al W I => ?_
 refine zk [0, 1] I fun I => ?_
 refine zkx 2 I (.pointer (some (at_ p (0 * 4)))) (fun _ => (e0g (m := 0) (n := [s, t].length) (c := c) f0v I.fa.1.solid (by simp))) fun I => ?_
 refine zk [4] I fun I => ?_
 refine zkx 5 I (.pointer (some (at_ p (1 * 4)))) (fun _ => (e0g (m := 1) (n := [s, t].length) (c := c) f0v I.fa.1.solid (by simp))) fun I => ?_
 refine j0p I [(3, .v (.agg #[.int .i64 (x.v.cls : Int), .bool x.v.neg, .slice x.p (dig B32 x.v.d).length x.c, .int .i64 x.v.pow])), (6, .v (.agg #[.int .i64 (y.v.cls : Int), .bool y.v.neg, .slice y.p (dig B32 y.v.d).length y.c, .int .i64 y.v.pow]))] (fun Al W I => ?_) (fun KL7 => ?_)
 · refine zo 7 I fun I => ?_
   refine zge I 0 153 (fun Al W I => have hzW := I.bel.size; (HA W _ (I.box 0 153 _) I.fa.2.1 I.fa.2.2.1 (by omega) I.fa.2.2.2.1).out) fun Al V Iv _ _ kz => ?_
   rintro _ W ⟨v12, hR12, p12, c12, rfl, o12, hO, hB⟩
   refine ⟨_, rfl, kz _ (uS f n way (fl : Int)) _ hO hB fun I => ?_⟩
   have I := I.ownB base o12
   refine zo 8 I fun I => ?_
   refine zn I fun Al W I => ?_
   exact zret I fun Al W I => ⟨v12, hR12, p12, c12, rfl, I.fa.1, I.bel, I.boxE 153 _⟩
 refine j0p I [(3, .v (.agg #[.int .i64 (x.v.cls : Int), .bool x.v.neg, .slice x.p (dig B32 x.v.d).length x.c, .int .i64 x.v.pow]))] (fun Al W I => ?_) (fun KL5 => ?_)
 · refine zo 6 I fun I => ?_
   refine zx I 11 (fun _ => .agg #[.int .i64 (y.v.cls : Int), .bool y.v.neg, .slice y.p (dig B32 y.v.d).length y.c, .int .i64 y.v.pow]) (fun Al W I => (c0r (m := 1 * 4) I.fa.1 e0k y.cells rfl rfl)) fun Al W I => ?_
   exact zuse KL7 I
 refine j0p I [(6, .v (.agg #[.int .i64 (y.v.cls : Int), .bool y.v.neg, .slice y.p (dig B32 y.v.d).length y.c, .int .i64 y.v.pow]))] (fun Al W I => ?_) (fun KL6 => ?_)
 · refine zo 3 I fun I => ?_
   refine zx I 8 (fun _ => .agg #[.int .i64 (x.v.cls : Int), .bool x.v.neg, .slice x.p (dig B32 x.v.d).length x.c, .int .i64 x.v.pow]) (fun Al W I => (c0r (m := 0 * 4) I.fa.1 e0k x.cells rfl rfl)) fun Al W I => ?_
   exact zuse KL7 I
 refine zo2 3 6 I (fun I => ?_) (fun I => ?_)
 · refine zx I 8 (fun _ => .agg #[.int .i64 (x.v.cls : Int), .bool x.v.neg, .slice x.p (dig B32 x.v.d).length x.c, .int .i64 x.v.pow]) (fun Al W I => (c0r (m := 0 * 4) I.fa.1 e0k x.cells rfl rfl)) fun Al W I => ?_
   exact zuse KL5 I
 refine zx I 11 (fun _ => .agg #[.int .i64 (y.v.cls : Int), .bool y.v.neg, .slice y.p (dig B32 y.v.d).length y.c, .int .i64 y.v.pow]) (fun Al W I => (c0r (m := 1 * 4) I.fa.1 e0k y.cells rfl rfl)) fun Al W I => ?_
 exact zuse KL6 I
theorem c1f (n way : Int) (s t : ByteArray) (w : World) (hT : TabW w) : Calls Tryd.prog 19 #[.int .i64 n, .string s, .string t, .int .i64 way] w (f0a n way [s, t] ((fmt n).mulM (refD n s) (refD n t) way) w) := by
 unfold f0a
 by_cases h0 : errR n way [s, t] = 0
 · obtain ⟨hn, hL, hw⟩ := f0l h0
   have HR := fun b m W h1 h2 h3 => hi0 (z0d n way [s, t] 59 _ b m W h1 h2 (by simp) h3 (fun _ _ => by kernel_rfl) h0 (c1e n way s t hL hw) (d1l (d0h hn) (d0q hn).inf (d0q hn).inf way))
   simp only [h0, if_true]
   generalize strR n ((fmt n).mulM (refD n s) (refD n t) way).1 = str at *
   generalize ((fmt n).mulM (refD n s) (refD n t) way).2 = fl at *
   have I := Inv.start w [tabF] ⟨hT, True.intro⟩
   refine a0f [.v (.int .i64 n), .v (.string s), .v (.string t), .v (.int .i64 way)] I Tryd.func19 ?_
   refine zq I (fun Al W I => (HR _ 2 W (I.box 0 9 _) rfl I.fa.1).out) fun Al W I => ?_
   exact zrb I
 · have HR := fun b m W h1 h2 h3 => hi0 (r0k n way [s, t] 59 b m W h1 h2 (by simp) h3 h0)
   simp only [if_neg h0]
   generalize errR n way [s, t] = er at *
   have I := Inv.start w [tabF] ⟨hT, True.intro⟩
   refine a0f [.v (.int .i64 n), .v (.string s), .v (.string t), .v (.int .i64 way)] I Tryd.func19 ?_
   refine zq I (fun Al W I => (HR _ 2 W (I.box 0 9 _) rfl I.fa.1).out) fun Al W I => ?_
   exact zrb I
theorem c1g (n way : Int) (s t : ByteArray) (h0 : errL n [s, t] = 0) (hw : 1 ≤ way ∧ way ≤ 5) : c1b n way [s, t] 66 ((fmt n).divM (refD n s) (refD n t) way) := by
 intro xs vs p c base u w hxs hvs oS oL U hT hb
 obtain ⟨hs, ht, hn⟩ := o0d h0
 obtain ⟨x, y, rfl, hx, hy⟩ := j0x hxs
 have ox := oL x (by simp)
 have oy := oL y (by simp)
 have HA := fun W u h1 h2 h3 h4 h5 => hi0 (j1m (fmt n) n way x y (refD n s) (refD n t) base u W h1 h2 h3 h4 (j0l hs hx) (j0l ht hy) (d0h hn) hw h5)
 generalize (fmt n).divM (refD n s) (refD n t) way = R at *
 generalize fmt n = f at *
 subst hvs
 clear oL hx hy hxs h0 hs ht hn
 obtain ⟨r, fl⟩ := R
 have I := Inv.startW w u 153 (uS f n way 0) [h0o base 29 4 p c [s, t].length ([x, y].flatMap Vp.cells), ownF base .u32 76 x.p x.c (dig B32 x.v.d), ownF base .u32 76 y.p y.c (dig B32 y.v.d), tabF] U ⟨oS, ox, oy, hT, True.intro⟩ ⟨fun hf => oS.far U (by kernel_rfl) hf.1 hf.2, fun hf => ox.far U (by kernel_rfl) hf.1 hf.2, fun hf => oy.far U (by kernel_rfl) hf.1 hf.2, fun hf => hT.far U (by kernel_rfl) hf, True.intro⟩
 refine a0f [.p 0 0, .v (.slice p [s, t].length c)] I Tryd.func66 ?_
 refine zd [0, 1] I fun Al W I => ?_
 refine zk [0, 1] I fun I => ?_
 refine zkx 2 I (.pointer (some (at_ p (0 * 4)))) (fun _ => (e0g (m := 0) (n := [s, t].length) (c := c) f0v I.fa.1.solid (by simp))) fun I => ?_
 refine zk [4] I fun I => ?_
 refine zkx 5 I (.pointer (some (at_ p (1 * 4)))) (fun _ => (e0g (m := 1) (n := [s, t].length) (c := c) f0v I.fa.1.solid (by simp))) fun I => ?_
 refine j0p I [(3, .v (.agg #[.int .i64 (x.v.cls : Int), .bool x.v.neg, .slice x.p (dig B32 x.v.d).length x.c, .int .i64 x.v.pow])), (6, .v (.agg #[.int .i64 (y.v.cls : Int), .bool y.v.neg, .slice y.p (dig B32 y.v.d).length y.c, .int .i64 y.v.pow]))] (fun Al W I => ?_) (fun KL7 => ?_)
 · refine zo 7 I fun I => ?_
   refine zge I 0 153 (fun Al W I => have hzW := I.bel.size; (HA W _ (I.box 0 153 _) I.fa.2.1 I.fa.2.2.1 (by omega) I.fa.2.2.2.1).out) fun Al V Iv _ _ kz => ?_
   rintro _ W ⟨v12, hR12, p12, c12, rfl, o12, hO, hB⟩
   refine ⟨_, rfl, kz _ (uS f n way (fl : Int)) _ hO hB fun I => ?_⟩
   have I := I.ownB base o12
   refine zo 8 I fun I => ?_
   refine zn I fun Al W I => ?_
   exact zret I fun Al W I => ⟨v12, hR12, p12, c12, rfl, I.fa.1, I.bel, I.boxE 153 _⟩
 refine j0p I [(3, .v (.agg #[.int .i64 (x.v.cls : Int), .bool x.v.neg, .slice x.p (dig B32 x.v.d).length x.c, .int .i64 x.v.pow]))] (fun Al W I => ?_) (fun KL5 => ?_)
 · refine zo 6 I fun I => ?_
   refine zx I 11 (fun _ => .agg #[.int .i64 (y.v.cls : Int), .bool y.v.neg, .slice y.p (dig B32 y.v.d).length y.c, .int .i64 y.v.pow]) (fun Al W I => (c0r (m := 1 * 4) I.fa.1 e0k y.cells rfl rfl)) fun Al W I => ?_
   exact zuse KL7 I
 refine j0p I [(6, .v (.agg #[.int .i64 (y.v.cls : Int), .bool y.v.neg, .slice y.p (dig B32 y.v.d).length y.c, .int .i64 y.v.pow]))] (fun Al W I => ?_) (fun KL6 => ?_)
 · refine zo 3 I fun I => ?_
   refine zx I 8 (fun _ => .agg #[.int .i64 (x.v.cls : Int), .bool x.v.neg, .slice x.p (dig B32 x.v.d).length x.c, .int .i64 x.v.pow]) (fun Al W I => (c0r (m := 0 * 4) I.fa.1 e0k x.cells rfl rfl)) fun Al W I => ?_
   exact zuse KL7 I
 refine zo2 3 6 I (fun I => ?_) (fun I => ?_)
 · refine zx I 8 (fun _ => .agg #[.int .i64 (x.v.cls : Int), .bool x.v.neg, .slice x.p (dig B32 x.v.d).length x.c, .int .i64 x.v.pow]) (fun Al W I => (c0r (m := 0 * 4) I.fa.1 e0k x.cells rfl rfl)) fun Al W I => ?_
   exact zuse KL5 I
 refine zx I 11 (fun _ => .agg #[.int .i64 (y.v.cls : Int), .bool y.v.neg, .slice y.p (dig B32 y.v.d).length y.c, .int .i64 y.v.pow]) (fun Al W I => (c0r (m := 1 * 4) I.fa.1 e0k y.cells rfl rfl)) fun Al W I => ?_
 exact zuse KL6 I
theorem c1h (n way : Int) (s t : ByteArray) (w : World) (hT : TabW w) : Calls Tryd.prog 23 #[.int .i64 n, .string s, .string t, .int .i64 way] w (f0a n way [s, t] ((fmt n).divM (refD n s) (refD n t) way) w) := by
 unfold f0a
 by_cases h0 : errR n way [s, t] = 0
 · obtain ⟨hn, hL, hw⟩ := f0l h0
   have HR := fun b m W h1 h2 h3 => hi0 (z0d n way [s, t] 66 _ b m W h1 h2 (by simp) h3 (fun _ _ => by kernel_rfl) h0 (c1g n way s t hL hw) (d1m (d0h hn) (d0q hn).inf (d0q hn).ok way))
   simp only [h0, if_true]
   generalize strR n ((fmt n).divM (refD n s) (refD n t) way).1 = str at *
   generalize ((fmt n).divM (refD n s) (refD n t) way).2 = fl at *
   have I := Inv.start w [tabF] ⟨hT, True.intro⟩
   refine a0f [.v (.int .i64 n), .v (.string s), .v (.string t), .v (.int .i64 way)] I Tryd.func23 ?_
   refine zq I (fun Al W I => (HR _ 2 W (I.box 0 9 _) rfl I.fa.1).out) fun Al W I => ?_
   exact zrb I
 · have HR := fun b m W h1 h2 h3 => hi0 (r0k n way [s, t] 66 b m W h1 h2 (by simp) h3 h0)
   simp only [if_neg h0]
   generalize errR n way [s, t] = er at *
   have I := Inv.start w [tabF] ⟨hT, True.intro⟩
   refine a0f [.v (.int .i64 n), .v (.string s), .v (.string t), .v (.int .i64 way)] I Tryd.func23 ?_
   refine zq I (fun Al W I => (HR _ 2 W (I.box 0 9 _) rfl I.fa.1).out) fun Al W I => ?_
   exact zrb I
def g1b (w : World) (x y : Vl) (en : Ending) (w' : World) : Prop :=
 ∃ p1 c1 p2 c2 p c, en = .returned (.tuple #[.slice p 2 c, .int .i64 0]) ∧ OwnS w' w.heap.size 29 4 p c 2 ((⟨x, p1, c1⟩ : Vp).cells ++ (⟨y, p2, c2⟩ : Vp).cells) ∧ Own w' w.heap.size .u32 76 p1 c1 (dig B32 x.d) ∧ Own w' w.heap.size .u32 76 p2 c2 (dig B32 y.d) ∧ Below w.heap.size w w'
theorem u0s (n way fl : Int) (s t : ByteArray) (b u : Nat) (w : World) (U : Bt w u 153 #[.int .i64 n, .int .i64 way, .int .i64 (fmt n).g.rad, .int .i64 (fmt n).g.digs, .int .i64 (fmt n).g.lo, .int .i64 (fmt n).g.hi, .bool (fmt n).g.grad, .int .u8 (famB (fmt n)), .int .i64 fl]) (hB0 : Bt w b 9 #[.string s, .string t]) (h0 : errL n [s, t] = 0) (hT : TabW w) :
 Calls Tryd.prog 53 #[.pointer (some ⟨u, 0, none⟩), .slice (some ⟨b, 0, none⟩) 2 2] w (g1b w (decP n s) (decP n t)) := by
 refine (o0c n way fl [s, t] b 2 u w U hB0 rfl (by simp) h0 hT).mono fun en w' hh => ?_
 obtain ⟨xs, vs, p, c, h1, h2, h3, h4, h5, h6⟩ := hh
 obtain ⟨x, y, rfl, hx, hy⟩ := j0x h2
 subst h3
 have g1 := h5 x (by simp)
 have g2 := h5 y (by simp)
 rw [hx] at g1
 rw [hy] at g2
 refine ⟨x.p, x.c, y.p, y.c, p, c, h1, ?_, g1, g2, h6⟩
 rw [← hx, ← hy]
 exact h4
def cmpR (a b : Vr) : Int × Bool := if 4 ≤ a.cls ∨ 4 ≤ b.cls then (0, false) else (cmpM a b, true)
def o0e (n : Int) (s t : ByteArray) (w : World) (en : Ending) (w' : World) : Prop :=
 (if errR n 1 [s, t] = 0 then en = .returned (.tuple #[.int .i64 (cmpR (refD n s) (refD n t)).1, .bool (cmpR (refD n s) (refD n t)).2, .int .i64 0]) else en = .returned (.tuple #[.int .i64 0, .bool false, .int .i64 (errR n 1 [s, t])])) ∧ Below w.heap.size w w'
theorem p0r (n : Int) (s t : ByteArray) (w : World) (hT : TabW w) : Calls Tryd.prog 15 #[.int .i64 n, .string s, .string t] w (o0e n s t w) := by
 unfold o0e
 by_cases h0 : errR n 1 [s, t] = 0
 · obtain ⟨hn, hL, hw⟩ := f0l h0
   obtain ⟨hs, ht, _⟩ := o0d hL
   simp only [h0, if_true]
   have HO := fun W => hi0 (l0n n 1 W hn (by omega))
   have HD := fun W b u h1 h2 h3 => hi0 (u0s n 1 0 s t b u W h1 h2 hL h3)
   have A1 : ∀ p1 c1, AtV (fmt n) ⟨decP n s, p1, c1⟩ (refD n s) := fun p1 c1 => j0l hs rfl
   have B1 : ∀ p1 c1, AtV (fmt n) ⟨decP n t, p1, c1⟩ (refD n t) := fun p1 c1 => j0l ht rfl
   have HC := fun W p1 c1 p2 c2 b u h1 h2 h3 h4 => hi0 (y0z (fmt n) n 1 0 ⟨decP n s, p1, c1⟩ ⟨decP n t, p2, c2⟩ (refD n s) (refD n t) b u W h1 h2 h3 (A1 p1 c1) (B1 p2 c2) h4)
   have k1 := (A1 none 0).rep.cls
   have k2 := (B1 none 0).rep.cls
   have o1 := (A1 none 0).ok.c
   have o2 := (B1 none 0).ok.c
   have hR : cmpR (refD n s) (refD n t) = if 4 ≤ (refD n s).cls ∨ 4 ≤ (refD n t).cls then (0, false) else (cmpM (refD n s) (refD n t), true) := rfl
   simp only at k1 k2 HC
   generalize cmpR (refD n s) (refD n t) = R at *
   generalize cmpM (refD n s) (refD n t) = RC at *
   generalize (refD n s).cls = q1 at *
   generalize (refD n t).cls = q2 at *
   generalize decP n s = v1 at *
   generalize decP n t = v2 at *
   generalize fmt n = f at *
   clear A1 B1 hs ht hL hw
   subst k1 k2
   have I := Inv.start w [tabF] ⟨hT, True.intro⟩
   refine a0f [.v (.int .i64 n), .v (.string s), .v (.string t)] I Tryd.func15 ?_
   refine zg I (fun Al W I => (HO W).out) fun Al V Iv _ hB _ kz => ?_
   rintro _ W ⟨u14, rfl, hge, hB, hb⟩
   refine ⟨_, rfl, kz _ _ hb fun I => ?_⟩
   refine u0a Iv hb 0 u14 153 [(.int .i64 n), (.int .i64 1), (.int .i64 f.g.rad), (.int .i64 f.g.digs), (.int .i64 f.g.lo), (.int .i64 f.g.hi), (.bool f.g.grad), (.int .u8 (famB f)), (.int .i64 0)] hge hB fun Al hAl_14 I => ?_
   refine u0b I 15 0 u14 hAl_14 fun Al W I => ?_
   refine zg I (fun Al W I => (HD W _ _ (I.box 0 153 _) (I.box 1 9 _) I.fa.1).out) fun Al V Iv _ hB _ kz => ?_
   rintro _ W ⟨p1, c1, p2, c2, p, c, rfl, oS, oa, ob, hb⟩
   refine ⟨_, rfl, kz _ _ hb fun I => ?_⟩
   have I := I.owns oS
   have I := I.own oa
   have I := I.own ob
   by_cases h1 : 4 ≤ v1.cls
   · by_cases h2 : 4 ≤ v2.cls
     · refine zx I 32 (fun _ => .pointer (some (at_ p (0 * 4)))) (fun Al W I => (e0g (m := 0) (n := 2) (c := c) f0v I.fa.2.2.1.solid (by omega))) fun Al W I => ?_
       refine zx I 33 (fun _ => .agg #[.int .i64 (v1.cls : Int), .bool v1.neg, .slice p1 (dig B32 v1.d).length c1, .int .i64 v1.pow]) (fun Al W I => (c0r (m := 0 * 4) I.fa.2.2.1 e0k (⟨v1, p1, c1⟩ : Vp).cells rfl rfl)) fun Al W I => ?_
       refine zqd I (fun Al W I => d0j v1.cls v1.neg p1 (dig B32 v1.d).length c1 v1.pow W) (show (decide (v1.cls = 4) || decide (v1.cls = 5)) = true from (by simp; omega)) fun Al W I => ?_
       refine zret I (v := fun Al => .tuple #[.int .i64 0, .bool false, .int .i64 0]) fun Al W I => ?_
       first | exact ⟨by rw [hR, if_pos (by omega)], I.below⟩ | exact ⟨by rw [hR, if_neg (by omega)], I.below⟩
     refine zx I 32 (fun _ => .pointer (some (at_ p (0 * 4)))) (fun Al W I => (e0g (m := 0) (n := 2) (c := c) f0v I.fa.2.2.1.solid (by omega))) fun Al W I => ?_
     refine zx I 33 (fun _ => .agg #[.int .i64 (v1.cls : Int), .bool v1.neg, .slice p1 (dig B32 v1.d).length c1, .int .i64 v1.pow]) (fun Al W I => (c0r (m := 0 * 4) I.fa.2.2.1 e0k (⟨v1, p1, c1⟩ : Vp).cells rfl rfl)) fun Al W I => ?_
     refine zqd I (fun Al W I => d0j v1.cls v1.neg p1 (dig B32 v1.d).length c1 v1.pow W) (show (decide (v1.cls = 4) || decide (v1.cls = 5)) = true from (by simp; omega)) fun Al W I => ?_
     refine zret I (v := fun Al => .tuple #[.int .i64 0, .bool false, .int .i64 0]) fun Al W I => ?_
     first | exact ⟨by rw [hR, if_pos (by omega)], I.below⟩ | exact ⟨by rw [hR, if_neg (by omega)], I.below⟩
   by_cases h2 : 4 ≤ v2.cls
   · refine zx I 32 (fun _ => .pointer (some (at_ p (0 * 4)))) (fun Al W I => (e0g (m := 0) (n := 2) (c := c) f0v I.fa.2.2.1.solid (by omega))) fun Al W I => ?_
     refine zx I 33 (fun _ => .agg #[.int .i64 (v1.cls : Int), .bool v1.neg, .slice p1 (dig B32 v1.d).length c1, .int .i64 v1.pow]) (fun Al W I => (c0r (m := 0 * 4) I.fa.2.2.1 e0k (⟨v1, p1, c1⟩ : Vp).cells rfl rfl)) fun Al W I => ?_
     refine zqd I (fun Al W I => d0j v1.cls v1.neg p1 (dig B32 v1.d).length c1 v1.pow W) (show (decide (v1.cls = 4) || decide (v1.cls = 5)) = false from (by simp; omega)) fun Al W I => ?_
     refine zx I 37 (fun _ => .pointer (some (at_ p (1 * 4)))) (fun Al W I => (e0g (m := 1) (n := 2) (c := c) f0v I.fa.2.2.1.solid (by omega))) fun Al W I => ?_
     refine zx I 38 (fun _ => .agg #[.int .i64 (v2.cls : Int), .bool v2.neg, .slice p2 (dig B32 v2.d).length c2, .int .i64 v2.pow]) (fun Al W I => (c0r (m := 1 * 4) I.fa.2.2.1 e0k (⟨v2, p2, c2⟩ : Vp).cells rfl rfl)) fun Al W I => ?_
     refine zqd I (fun Al W I => d0j v2.cls v2.neg p2 (dig B32 v2.d).length c2 v2.pow W) (show (decide (v2.cls = 4) || decide (v2.cls = 5)) = true from (by simp; omega)) fun Al W I => ?_
     refine zret I (v := fun Al => .tuple #[.int .i64 0, .bool false, .int .i64 0]) fun Al W I => ?_
     first | exact ⟨by rw [hR, if_pos (by omega)], I.below⟩ | exact ⟨by rw [hR, if_neg (by omega)], I.below⟩
   refine zx I 32 (fun _ => .pointer (some (at_ p (0 * 4)))) (fun Al W I => (e0g (m := 0) (n := 2) (c := c) f0v I.fa.2.2.1.solid (by omega))) fun Al W I => ?_
   refine zx I 33 (fun _ => .agg #[.int .i64 (v1.cls : Int), .bool v1.neg, .slice p1 (dig B32 v1.d).length c1, .int .i64 v1.pow]) (fun Al W I => (c0r (m := 0 * 4) I.fa.2.2.1 e0k (⟨v1, p1, c1⟩ : Vp).cells rfl rfl)) fun Al W I => ?_
   refine zqd I (fun Al W I => d0j v1.cls v1.neg p1 (dig B32 v1.d).length c1 v1.pow W) (show (decide (v1.cls = 4) || decide (v1.cls = 5)) = false from (by simp; omega)) fun Al W I => ?_
   refine zx I 37 (fun _ => .pointer (some (at_ p (1 * 4)))) (fun Al W I => (e0g (m := 1) (n := 2) (c := c) f0v I.fa.2.2.1.solid (by omega))) fun Al W I => ?_
   refine zx I 38 (fun _ => .agg #[.int .i64 (v2.cls : Int), .bool v2.neg, .slice p2 (dig B32 v2.d).length c2, .int .i64 v2.pow]) (fun Al W I => (c0r (m := 1 * 4) I.fa.2.2.1 e0k (⟨v2, p2, c2⟩ : Vp).cells rfl rfl)) fun Al W I => ?_
   refine zqd I (fun Al W I => d0j v2.cls v2.neg p2 (dig B32 v2.d).length c2 v2.pow W) (show (decide (v2.cls = 4) || decide (v2.cls = 5)) = false from (by simp; omega)) fun Al W I => ?_
   refine zd [] I fun Al W I => ?_
   refine zk [0, 1] I fun I => ?_
   refine zkx 2 I (.pointer (some (at_ p (0 * 4)))) (fun _ => (e0g (m := 0) (n := 2) (c := c) f0v I.fa.2.2.1.solid (by omega))) fun I => ?_
   refine zk [4] I fun I => ?_
   refine zkx 5 I (.pointer (some (at_ p (1 * 4)))) (fun _ => (e0g (m := 1) (n := 2) (c := c) f0v I.fa.2.2.1.solid (by omega))) fun I => ?_
   refine j0p I [(3, .v (.agg #[.int .i64 (v1.cls : Int), .bool v1.neg, .slice p1 (dig B32 v1.d).length c1, .int .i64 v1.pow])), (6, .v (.agg #[.int .i64 (v2.cls : Int), .bool v2.neg, .slice p2 (dig B32 v2.d).length c2, .int .i64 v2.pow]))] (fun Al W I => ?_) (fun KL7 => ?_)
   · refine zo 7 I fun I => ?_
     refine zq I (fun Al W I => (HC W p1 c1 p2 c2 _ _ (I.box 0 153 _) I.fa.2.1 I.fa.1 I.fa.2.2.2.1).out) fun Al W I => ?_
     refine zk [8, 9, 10] I fun I => ?_
     refine zret I (v := fun Al => .tuple #[.int .i64 RC, .bool true, .int .i64 0]) fun Al W I => ?_
     first | exact ⟨by rw [hR, if_pos (by omega)], I.below⟩ | exact ⟨by rw [hR, if_neg (by omega)], I.below⟩
   refine j0p I [(3, .v (.agg #[.int .i64 (v1.cls : Int), .bool v1.neg, .slice p1 (dig B32 v1.d).length c1, .int .i64 v1.pow]))] (fun Al W I => ?_) (fun KL5 => ?_)
   · refine zo 6 I fun I => ?_
     refine zx I 47 (fun _ => .agg #[.int .i64 (v2.cls : Int), .bool v2.neg, .slice p2 (dig B32 v2.d).length c2, .int .i64 v2.pow]) (fun Al W I => (c0r (m := 1 * 4) I.fa.2.2.1 e0k (⟨v2, p2, c2⟩ : Vp).cells rfl rfl)) fun Al W I => ?_
     exact zuse KL7 I
   refine j0p I [(6, .v (.agg #[.int .i64 (v2.cls : Int), .bool v2.neg, .slice p2 (dig B32 v2.d).length c2, .int .i64 v2.pow]))] (fun Al W I => ?_) (fun KL6 => ?_)
   · refine zo 3 I fun I => ?_
     refine zx I 44 (fun _ => .agg #[.int .i64 (v1.cls : Int), .bool v1.neg, .slice p1 (dig B32 v1.d).length c1, .int .i64 v1.pow]) (fun Al W I => (c0r (m := 0 * 4) I.fa.2.2.1 e0k (⟨v1, p1, c1⟩ : Vp).cells rfl rfl)) fun Al W I => ?_
     exact zuse KL7 I
   refine zo2 3 6 I (fun I => ?_) (fun I => ?_)
   · refine zx I 44 (fun _ => .agg #[.int .i64 (v1.cls : Int), .bool v1.neg, .slice p1 (dig B32 v1.d).length c1, .int .i64 v1.pow]) (fun Al W I => (c0r (m := 0 * 4) I.fa.2.2.1 e0k (⟨v1, p1, c1⟩ : Vp).cells rfl rfl)) fun Al W I => ?_
     exact zuse KL5 I
   refine zx I 47 (fun _ => .agg #[.int .i64 (v2.cls : Int), .bool v2.neg, .slice p2 (dig B32 v2.d).length c2, .int .i64 v2.pow]) (fun Al W I => (c0r (m := 1 * 4) I.fa.2.2.1 e0k (⟨v2, p2, c2⟩ : Vp).cells rfl rfl)) fun Al W I => ?_
   exact zuse KL6 I
 · simp only [if_neg h0]
   by_cases hn : IsFm n
   · have hE : errR n 1 [s, t] = errL n [s, t] := by
      unfold errR
      rw [if_pos hn]
      by_cases hL : errL n [s, t] = 0
      · rw [hL]; decide
      · rw [if_neg hL]
     rw [hE] at h0 ⊢
     have HO := fun W => hi0 (l0n n 1 W hn (by omega))
     have HD := fun W b u h1 h2 h3 => hi0 (j0k n 1 0 [s, t] b 2 u W h1 h2 rfl (by simp) h0 h3)
     generalize errL n [s, t] = er at *
     generalize fmt n = f at *
     have I := Inv.start w [tabF] ⟨hT, True.intro⟩
     refine a0f [.v (.int .i64 n), .v (.string s), .v (.string t)] I Tryd.func15 ?_
     refine zg I (fun Al W I => (HO W).out) fun Al V Iv _ hB _ kz => ?_
     rintro _ W ⟨u14, rfl, hge, hB, hb⟩
     refine ⟨_, rfl, kz _ _ hb fun I => ?_⟩
     refine u0a Iv hb 0 u14 153 [(.int .i64 n), (.int .i64 1), (.int .i64 f.g.rad), (.int .i64 f.g.digs), (.int .i64 f.g.lo), (.int .i64 f.g.hi), (.bool f.g.grad), (.int .u8 (famB f)), (.int .i64 0)] hge hB fun Al hAl_14 I => ?_
     refine u0b I 15 0 u14 hAl_14 fun Al W I => ?_
     refine zq I (fun Al W I => (HD W _ _ (I.box 0 153 _) (I.box 1 9 _) I.fa.1).out) fun Al W I => ?_
     refine zb I 29 (er != 0) (true) (bne_iff_ne.2 h0) fun Al W I => ?_
     exact zrb I
   · have hE : errR n 1 [s, t] = 6 := by unfold errR; rw [if_neg hn]
     rw [hE]
     have HO := fun W => hi0 (o0b n 1 W (fun h => hn h.1))
     have I := Inv.start w [] True.intro
     refine a0f [.v (.int .i64 n), .v (.string s), .v (.string t)] I Tryd.func15 ?_
     refine zq I (fun Al W I => (HO W).out) fun Al W I => ?_
     exact zrb I
end Go.Proofs.YtmacohmclpnphaaDoor
