/- The reference's Value, and what DecodeOf's closure tells. -/
import Derived.Test.YtpgomglbaacmdaaGreatDoorTSa1
import Derived.Test.YtpgomglbaacmdaaGreatDoorTSa2
import Derived.Test.YtpgomglbaacmdaaGreatDoorTSa3
import Derived.Test.YtpgomglbaacmdaaGreatDoorTSa4
import Derived.Test.YtpgomglbaacmdaaGreatDoorTSa5
import Derived.Test.YtpgomglbaacmdaaGreatDoorTSa6
import Derived.Test.YtpgomglbaacmdaaGreatDoorTSa7
set_option maxHeartbeats 8000000
set_option maxRecDepth 100000
namespace Go.Slip
theorem m0i (bs : List Bool) {i : Nat} (h : i < bs.length) : vb (bs.take i) * 2 + (bs.getD i false).toNat = vb (bs.take (i + 1)) := by
 rw [v0n bs i h, Nat.mul_comm, List.getD_eq_getElem?_getD, List.getElem?_eq_getElem h]
 rfl
theorem b1m (bs : List Bool) {i : Nat} (h : i < bs.length) : (bs.map Value.bool)[i]? = some (.bool (bs.getD i false)) := by
 rw [List.getElem?_map, List.getD_eq_getElem?_getD, List.getElem?_eq_getElem h]
 rfl
end Go.Slip
namespace Go.Proofs.YtpgomglbaacmdaaGreatDoor
open Go.RowKit Go.Slip
theorem j0i : dig B16 2 = [2] := by rw [c0d a0e (by omega), show 2 / B16 = 0 by unfold B16; omega, a0c, show 2 % B16 = 2 by unfold B16; omega]
theorem e0g {x n k : Nat} (h : x < 2 ^ n) (hk : n ≤ 16 * k) : (dig B16 x).length ≤ k := by
 rw [a0h a0e]
 unfold B16
 rw [show (65536 : Nat) = 2 ^ 16 from rfl, ← Nat.pow_mul]
 exact Nat.lt_of_lt_of_le h (Nat.pow_le_pow_right (by omega) hk)
theorem x0c (bs : List Bool) (p : OA) (n c : Nat) (w : World) (hp : RdV w p (bs.map Value.bool)) (hn : n = bs.length) (hl : bs.length ≤ 200) :
 Calls Tryz.prog 21 #[.slice p n c] w (GRf w (dig B16 (vb bs))) := by
 subst hn
 have hd : ∀ i, (dig B16 (vb (bs.take i))).length ≤ 100 := fun i => e0g (n := 200) (Nat.lt_of_lt_of_le (m0z _) (Nat.pow_le_pow_right (by omega) (by rw [List.length_take]; omega))) (by omega)
 have hd2 : ∀ i, (dig B16 (vb (bs.take i) * 2)).length ≤ 101 := fun i => e0g (n := 201) (by have h := m0z (bs.take i); have h2 : 2 ^ (bs.take i).length ≤ 2 ^ 200 := Nat.pow_le_pow_right (by omega) (by rw [List.length_take]; omega); rw [show 201 = 200 + 1 from rfl, Nat.pow_succ]; generalize 2 ^ 200 = T at *; omega) (by omega)
 have hsucc := fun i h => m0i bs (i := i) h
 have hall : bs.take bs.length = bs := List.take_length
 have hget := fun i h => b1m bs (i := i) h
 have hln : (bs.map Value.bool).length = bs.length := List.length_map ..
 have I := Inv.start w [rdvF p (bs.map Value.bool)] ⟨hp, True.intro⟩
 refine a0g [.v (.slice p bs.length c)] I Tryz.func21 ?_
 have I := I.rfA (l0j _ w.heap.size none) (fun _ h => h) (fun _ _ h => by cases h) (Nat.le_refl _)
 refine g0e I (fun gk fr bx gs => ∃ (U900 : Nat → Value) (i : Nat) (p3 : OA) (c3 : Nat) (n3 : Nat) (ds : List Nat), fr = (.v (.slice p bs.length c) :: .v undef :: .v (.slice none 0 0) :: .v (.slice p3 n3 c3) :: .v (.int .i64 (i : Int)) :: sw U900 5 17 [] : List SV) ∧ bx = [] ∧ gs = [rfF w.heap.size p3 c3 ds, rdvF p (bs.map Value.bool)] ∧ (ds = dig B16 (vb (bs.take i))) ∧ (n3 = (dig B16 (vb (bs.take i))).length) ∧ (gk + i = bs.length)) bs.length (fun Al W U I => ⟨_, ⟨U, 0, none, 0, 0, [], rfl, rfl, rfl, (by rw [List.take_zero, f1p, a0c]), (by rw [List.take_zero, f1p, a0c]; rfl), (by omega)⟩, I.pick [0, 1]⟩) ?_
 rintro J0 gk0 _ _ _ ⟨U900, i, p3, c3, n3, ds, rfl, rfl, rfl, hds, hn3, hgk⟩ hJ0 Al W I
 rcases bTF (decide ((i : Int) < (bs.length : Int))) with f8 | f8
 · refine zb I 8 (decide ((i : Int) < (bs.length : Int))) (true) (f8) fun Al W I => zlv I 12 2 3 (dig B16 2) j0i fun Al W p12 I => zqr I (fun Al W I => have hzW := I.bel.size; r0v p3 p12 n3 _ c3 1 (vb (bs.take i)) 2 (vb (bs.take i) * 2) W (by rw [← hds]; exact I.fa.2.1.rd) I.fa.1.rd hn3 rfl (by have := hd i; omega) (by rw [j0i]; decide) rfl) fun Al W p13 c13 I => ?_
   have I := I.rfA (l0j _ w.heap.size none) (fun _ h => h) (fun _ _ h => by cases h) (Nat.le_refl _)
   refine zx I 16 (fun _ => .pointer (some (at_ p i))) (fun Al W I => f0n (c := c) k0u (by have h := I.fa.2.2.2.2.1.solid; rw [hln] at h; exact h) (by have := oTr f8; omega)) fun Al W I => ?_
   rcases bTF (bs.getD i false) with f17 | f17
   · refine zx I 17 (fun _ => .bool true) (fun Al W I => (n0j I.fa.2.2.2.2.1 p0g (hget i (by have := oTr f8; omega))).trans (congrArg (fun z => Result.ok (Value.bool z) W) (show (bs.getD i false) = true from f17))) fun Al W I => zlv I 19 1 3 (dig B16 1) d0u fun Al W p19 I => zqr I (fun Al W I => have hzW := I.bel.size; h1r p13 p19 _ _ c13 1 (vb (bs.take i) * 2) 1 (vb (bs.take (i + 1))) W I.fa.2.2.1.rd I.fa.1.rd rfl rfl (by have := hd2 i; omega) (by rw [d0u]; decide) (by rw [← hsucc i (by have := oTr f8; omega), f17, Bool.toNat_true])) fun Al W p20 c20 I => ?_
     have I := I.rfA (l0j _ w.heap.size none) (fun _ h => h) (fun _ _ h => by cases h) (Nat.le_refl _)
     refine zi I 10 .i64 ((i : Int) + 1) (((i + 1 : Nat) : Int)) ((by rw [show ((i : Int) + 1) = ((i + 1 : Nat) : Int) by omega]; exact IntWalk.i64_in _ (by have := oTr f8; omega))) fun Al W I => a0i I J0 fun Al W U I => hJ0 (gk0 - 1) _ _ _ _ _ ((by have := oTr f8; omega)) ⟨U, i + 1, p20, c20, (dig B16 (vb (bs.take (i + 1)))).length, dig B16 (vb (bs.take (i + 1))), rfl, rfl, rfl, rfl, rfl, (by have := oTr f8; omega)⟩ (I.pick [1, 7])
   refine zx I 17 (fun _ => .bool false) (fun Al W I => (n0j I.fa.2.2.2.2.1 p0g (hget i (by have := oTr f8; omega))).trans (congrArg (fun z => Result.ok (Value.bool z) W) (show (bs.getD i false) = false from f17))) fun Al W I => zi I 10 .i64 ((i : Int) + 1) (((i + 1 : Nat) : Int)) ((by rw [show ((i : Int) + 1) = ((i + 1 : Nat) : Int) by omega]; exact IntWalk.i64_in _ (by have := oTr f8; omega))) fun Al W I => a0i I J0 fun Al W U I => hJ0 (gk0 - 1) _ _ _ _ _ ((by have := oTr f8; omega)) ⟨U, i + 1, p13, c13, (dig B16 (vb (bs.take i) * 2)).length, dig B16 (vb (bs.take i) * 2), rfl, rfl, rfl, (by rw [← hsucc i (by have := oTr f8; omega), f17, Bool.toNat_false, Nat.add_zero]), (by rw [← hsucc i (by have := oTr f8; omega), f17, Bool.toNat_false, Nat.add_zero]), (by have := oTr f8; omega)⟩ (I.pick [1, 4])
 refine zb I 8 (decide ((i : Int) < (bs.length : Int))) (false) (f8) fun Al W I => ?_
 have hi : i = bs.length := by have := oFa f8; omega
 rw [hi, hall] at hds hn3
 exact zret I (v := fun Al => .slice p3 n3 c3) fun Al W I => ⟨p3, c3, by rw [hn3], by rw [← hds]; exact I.fa.1, I.below⟩
def i1f (w : World) (v : Vr) (en : Ending) (w' : World) : Prop :=
 ∃ p c, en = .returned (.agg #[.int .i64 (v.cls : Int), .bool v.neg, .bool v.x.neg, .slice p (dig B16 v.x.m).length c, .int .i64 v.x.e]) ∧ Rf w' w.heap.size p c (dig B16 v.x.m) ∧ Below w.heap.size w w'
theorem x0d {w w' : World} {k : Nat} {n : Bool} {en : Ending} (h : en = .returned (.agg #[.int .i64 (k : Int), .bool n, .bool false, .slice none 0 0, .int .i64 0])) (hb : Below w.heap.size w w') : i1f w ⟨k, n, ⟨false, 0, 0⟩⟩ en w' := by
 refine ⟨none, 0, ?_, ?_, hb⟩
 · rw [h, a0c]; rfl
 · rw [a0c]; exact l0j _ _ _
theorem d0q (f : Fm) (g : Bool) (bg bf x : Nat) (p : OA) (c b0 : Nat) (pw : Int) (w : World) (hp : Rf w b0 p c (dig B16 x)) (hl : (dig B16 x).length ≤ 1000) (hpw : -100000 ≤ pw ∧ pw ≤ 100000)
 (Bg : Bt w bg 4 #[.bool g]) (Bf : Bt w bf 62 #[.int .i64 (f.size : Int), .int .i64 (f.E : Int), .int .i64 (f.F : Int), .int .i64 f.g.rad, .int .i64 f.g.digs, .int .i64 f.g.lo, .int .i64 f.g.hi, .bool f.g.grad, .int .i64 (f.fam : Int)]) :
 Calls Tryz.prog 23 #[.slice p (dig B16 x).length c, .int .i64 pw, .pointer (some ⟨bg, 0, none⟩), .pointer (some ⟨bf, 0, none⟩)] w (i1f w (f.vr g ⟨2, x, pw⟩)) := by
 have hx0 := a0f a0e x
 have wp := b0f f.g
 have lg := Bg.lt
 have lf := Bf.lt
 have hmu := j0d (wd := wid f.g) (k := pw) (B := 100000) wp.2 hpw
 by_cases h0 : x = 0
 · have hv : f.vr g ⟨2, x, pw⟩ = ⟨1, g, ⟨false, 0, 0⟩⟩ := by unfold Fm.vr Dc.c; simp [h0]
   have hb0 : bare ⟨g, x, wid f.g * pw⟩ = ⟨false, 0, 0⟩ := by rw [h0]; rfl
   rw [hv]
   generalize hmw : (wid f.g : Int) * pw = mw at *
   have HMW := hi0 hmw
   clear hmw
   have I := Inv.startR w [bg, bf] [⟨4, [.v (.bool g)], true⟩, ⟨62, [.v (.int .i64 (f.size : Int)), .v (.int .i64 (f.E : Int)), .v (.int .i64 (f.F : Int)), .v (.int .i64 f.g.rad), .v (.int .i64 f.g.digs), .v (.int .i64 f.g.lo), .v (.int .i64 f.g.hi), .v (.bool f.g.grad), .v (.int .i64 (f.fam : Int))], true⟩] [rfF b0 p c (dig B16 x)] ⟨Bg, Bf, True.intro⟩ ⟨hp, True.intro⟩
   refine a0g [.v (.slice p (dig B16 x).length c), .v (.int .i64 pw), .p 0 0, .p 1 0] I Tryz.func23 ?_
   refine zcut I none (fun fr bx gs => ∃ (U1 : Nat → Value) (p16 : OA) (c16 : Nat), fr = (.v (vS (dig B16 x) p c) :: .v (vI pw) :: .p 0 0 :: .p 1 0 :: su 2 (.p 2 0 :: .p 3 0 :: sw U1 8 12 (vu :: sw U1 21 5 [])) : List SV) ∧ bx = [⟨4, [.v (.bool g)], true⟩, ⟨62, [.v (vI (f.size : Int)), .v (vI (f.E : Int)), .v (vI (f.F : Int)), .v (vI f.g.rad), .v (vI f.g.digs), .v (vI f.g.lo), .v (vI f.g.hi), .v (.bool f.g.grad), .v (vI (f.fam : Int))], true⟩, ⟨30, [.v (vI 0), .v (.bool false), .v (.bool false), .v (.slice none 0 0), .v (vI 0)], false⟩, ⟨28, [.v (.bool false), .v (vS (dig B16 0) p16 c16), .v (vI 0)], false⟩] ∧ gs = [rfF w.heap.size p16 c16 (dig B16 0), rfF b0 p c (dig B16 x)]) ?_ ?_
   · intro J hJ Al W I
     refine zd [] I fun Al W I => zk [0, 1, 2, 3, 5] I fun I => zo2 4 9 I (fun I => ?_) (fun I => ?_)
     · refine zq I (fun Al W I => c0t f.g W) fun Al W I => zki 6 I .i64 (((wid f.g : Nat) : Int) * pw) (mw) ((by rw [HMW.out]; exact iwo)) fun I => zk [7] I fun I => zo2 8 9 I (fun I => ?_) (fun I => ?_)
       · refine zqr I (fun Al W I => have hzW := I.bel.size; m0f g p _ c mw x ⟨false, 0, 0⟩ W I.fa.1.rd rfl (by omega) (by omega) hb0) fun Al W p16 c16 I => zo 9 I fun I => zn I fun Al W I => zo 10 I fun I => zn I fun Al W I => a0i I J fun Al W U I => hJ _ _ _ _ _ ⟨U, p16, c16, rfl, rfl, rfl⟩ (I.pick [0, 1])
       refine zn I fun Al W I => zo 8 I fun I => zqr I (fun Al W I => have hzW := I.bel.size; m0f g p _ c mw x ⟨false, 0, 0⟩ W I.fa.1.rd rfl (by omega) (by omega) hb0) fun Al W p16 c16 I => zo 10 I fun I => zn I fun Al W I => a0i I J fun Al W U I => hJ _ _ _ _ _ ⟨U, p16, c16, rfl, rfl, rfl⟩ (I.pick [0, 1])
     refine zn I fun Al W I => zo 4 I fun I => zq I (fun Al W I => c0t f.g W) fun Al W I => zki 6 I .i64 (((wid f.g : Nat) : Int) * pw) (mw) ((by rw [HMW.out]; exact iwo)) fun I => zk [7] I fun I => zo 8 I fun I => zqr I (fun Al W I => have hzW := I.bel.size; m0f g p _ c mw x ⟨false, 0, 0⟩ W I.fa.1.rd rfl (by omega) (by omega) hb0) fun Al W p16 c16 I => zo 10 I fun I => zn I fun Al W I => a0i I J fun Al W U I => hJ _ _ _ _ _ ⟨U, p16, c16, rfl, rfl, rfl⟩ (I.pick [0, 1])
   rintro _ _ _ ⟨U1, p16, c16, rfl, rfl, rfl⟩ Al W I
   refine zb I 20 ((((dig B16 0).length : Nat) : Int) == 0) (true) (beq_iff_eq.2 (by rw [a0c]; rfl)) fun Al W I => zret I fun Al W I => x0d rfl I.below
 · have hv : f.vr g ⟨2, x, pw⟩ = ⟨2, g, bare ⟨g, x, wid f.g * pw⟩⟩ := by unfold Fm.vr Dc.c; simp [h0]
   have hne : (bare ⟨g, x, wid f.g * pw⟩ : Dv).m ≠ 0 := by
    unfold bare
    rw [if_neg h0]
    have := (b0t x (by omega)).2
    intro h
    simp only at h
    rw [h] at this
    simp at this
   rw [hv]
   generalize hmw : (wid f.g : Int) * pw = mw at *
   have HMW := hi0 hmw
   clear hmw
   generalize hd : bare ⟨g, x, mw⟩ = d at *
   have HD := hi0 hd
   clear hd
   have hd0 := a0f a0e d.m
   have I := Inv.startR w [bg, bf] [⟨4, [.v (.bool g)], true⟩, ⟨62, [.v (.int .i64 (f.size : Int)), .v (.int .i64 (f.E : Int)), .v (.int .i64 (f.F : Int)), .v (.int .i64 f.g.rad), .v (.int .i64 f.g.digs), .v (.int .i64 f.g.lo), .v (.int .i64 f.g.hi), .v (.bool f.g.grad), .v (.int .i64 (f.fam : Int))], true⟩] [rfF b0 p c (dig B16 x)] ⟨Bg, Bf, True.intro⟩ ⟨hp, True.intro⟩
   refine a0g [.v (.slice p (dig B16 x).length c), .v (.int .i64 pw), .p 0 0, .p 1 0] I Tryz.func23 ?_
   refine zcut I none (fun fr bx gs => ∃ (U1 : Nat → Value) (p16 : OA) (c16 : Nat), fr = (.v (vS (dig B16 x) p c) :: .v (vI pw) :: .p 0 0 :: .p 1 0 :: su 2 (.p 2 0 :: .p 3 0 :: sw U1 8 12 (vu :: sw U1 21 5 [])) : List SV) ∧ bx = [⟨4, [.v (.bool g)], true⟩, ⟨62, [.v (vI (f.size : Int)), .v (vI (f.E : Int)), .v (vI (f.F : Int)), .v (vI f.g.rad), .v (vI f.g.digs), .v (vI f.g.lo), .v (vI f.g.hi), .v (.bool f.g.grad), .v (vI (f.fam : Int))], true⟩, ⟨30, [.v (vI 0), .v (.bool false), .v (.bool false), .v (.slice none 0 0), .v (vI 0)], false⟩, ⟨28, [.v (.bool d.neg), .v (vS (dig B16 d.m) p16 c16), .v (vI d.e)], false⟩] ∧ gs = [rfF w.heap.size p16 c16 (dig B16 d.m), rfF b0 p c (dig B16 x)]) ?_ ?_
   · intro J hJ Al W I
     refine zd [] I fun Al W I => zk [0, 1, 2, 3, 5] I fun I => zo2 4 9 I (fun I => ?_) (fun I => ?_)
     · refine zq I (fun Al W I => c0t f.g W) fun Al W I => zki 6 I .i64 (((wid f.g : Nat) : Int) * pw) (mw) ((by rw [HMW.out]; exact iwo)) fun I => zk [7] I fun I => zo2 8 9 I (fun I => ?_) (fun I => ?_)
       · refine zqr I (fun Al W I => have hzW := I.bel.size; m0f g p _ c mw x d W I.fa.1.rd rfl (by omega) (by omega) HD.out) fun Al W p16 c16 I => zo 9 I fun I => zn I fun Al W I => zo 10 I fun I => zn I fun Al W I => a0i I J fun Al W U I => hJ _ _ _ _ _ ⟨U, p16, c16, rfl, rfl, rfl⟩ (I.pick [0, 1])
       refine zn I fun Al W I => zo 8 I fun I => zqr I (fun Al W I => have hzW := I.bel.size; m0f g p _ c mw x d W I.fa.1.rd rfl (by omega) (by omega) HD.out) fun Al W p16 c16 I => zo 10 I fun I => zn I fun Al W I => a0i I J fun Al W U I => hJ _ _ _ _ _ ⟨U, p16, c16, rfl, rfl, rfl⟩ (I.pick [0, 1])
     refine zn I fun Al W I => zo 4 I fun I => zq I (fun Al W I => c0t f.g W) fun Al W I => zki 6 I .i64 (((wid f.g : Nat) : Int) * pw) (mw) ((by rw [HMW.out]; exact iwo)) fun I => zk [7] I fun I => zo 8 I fun I => zqr I (fun Al W I => have hzW := I.bel.size; m0f g p _ c mw x d W I.fa.1.rd rfl (by omega) (by omega) HD.out) fun Al W p16 c16 I => zo 10 I fun I => zn I fun Al W I => a0i I J fun Al W U I => hJ _ _ _ _ _ ⟨U, p16, c16, rfl, rfl, rfl⟩ (I.pick [0, 1])
   rintro _ _ _ ⟨U1, p16, c16, rfl, rfl, rfl⟩ Al W I
   refine zb I 20 ((((dig B16 d.m).length : Nat) : Int) == 0) (false) (bFn (by omega)) fun Al W I => zret I fun Al W I => ⟨p16, c16, rfl, I.fa.1.mono (by omega), I.below⟩
end Go.Proofs.YtpgomglbaacmdaaGreatDoor
namespace Go.Slip
theorem q0p (r : List Bool) {i : Nat} (h : i < r.length) : (r.take (i + 1)).all id = ((r.take i).all id && r.getD i false) := by
 rw [t0j r i h, List.getD_eq_getElem?_getD, List.getElem?_eq_getElem h]
 rfl
theorem s0c {X F d : Nat} (h : X < 2 ^ F) (hF : F ≤ 64) (hd : d ≤ 120) : X + 2 ^ d < 2 ^ 122 := by
 have h1 : 2 ^ F ≤ 2 ^ 64 := Nat.pow_le_pow_right (by omega) hF
 have h2 : 2 ^ d ≤ 2 ^ 120 := Nat.pow_le_pow_right (by omega) hd
 omega
theorem m1b {a b : Nat} (h : cmpN a b < 0) : a < b := by
 unfold cmpN at h
 split at h
 · assumption
 · split at h <;> omega
theorem z0k {a b : Nat} (h : ¬ cmpN a b < 0) : ¬ a < b := fun k => by
 apply h
 rw [g0u k]
 decide
theorem m1c {w : World} {p : OA} {x : Bool} {r : List Bool} (h : RdV w p ((x :: r).map Value.bool)) (E : Nat) : RdV w (p.map (·.add (1 + E))) ((r.drop E).map Value.bool) := by
 have := h.drop (1 + E)
 rw [show ((x :: r).map Value.bool).drop (1 + E) = (r.drop E).map Value.bool by rw [Nat.add_comm, List.map_cons, List.drop_succ_cons, List.map_drop]] at this
 exact this
end Go.Slip
namespace Go.Proofs.YtpgomglbaacmdaaGreatDoor
open Go.RowKit Go.Slip
def u0n (w : World) (v : Vr) (g : Bool) (en : Ending) (w' : World) : Prop :=
 ∃ p c, en = .returned (.tuple #[.agg #[.int .i64 (v.cls : Int), .bool v.neg, .bool v.x.neg, .slice p (dig B16 v.x.m).length c, .int .i64 v.x.e], .bool g]) ∧ Rf w' w.heap.size p c (dig B16 v.x.m) ∧ Below w.heap.size w w'
theorem c0w {w w' : World} {v : Vr} {k : Nat} {n g : Bool} {en : Ending} (hv : v = ⟨k, n, ⟨false, 0, 0⟩⟩) (h : en = .returned (.tuple #[.agg #[.int .i64 (k : Int), .bool n, .bool false, .slice none 0 0, .int .i64 0], .bool g])) (hb : Below w.heap.size w w') : u0n w v g en w' := by
 subst hv
 refine ⟨none, 0, ?_, ?_, hb⟩
 · rw [h, a0c]; rfl
 · rw [a0c]; exact l0j _ _ _
theorem e0s {w w' : World} {v u : Vr} {g : Bool} {p : OA} {c base : Nat} {en : Ending} (hv : v = u) (h : en = .returned (.tuple #[.agg #[.int .i64 (u.cls : Int), .bool u.neg, .bool u.x.neg, .slice p (dig B16 u.x.m).length c, .int .i64 u.x.e], .bool g])) (ho : Rf w' base p c (dig B16 u.x.m)) (hB : w.heap.size ≤ base) (hb : Below w.heap.size w w') : u0n w v g en w' := by
 subst hv
 exact ⟨p, c, h, ho.mono hB, hb⟩
theorem p0y (f : Fm) (g : Bool) {k : Nat} (hk : k ≠ 2) : f.vr g ⟨k, 0, 0⟩ = ⟨k, if k ≤ 3 then g else false, ⟨false, 0, 0⟩⟩ := by
 unfold Fm.vr Dc.c
 simp [hk]
theorem p0z (n : Int) (s : ByteArray) (w : World) (hn : IsFm n) (hs : s.size = (fmt n).size) :
 Calls Tryz.prog 6 #[.int .i64 n, .string s] w (u0n w ((fmt n).refN (a0w (fmt n) s)) ((fmt n).neg (a0w (fmt n) s))) := by
 have G := b0j hn
 have hext := n1s hn
 have HF := fun W => hi0 (g0p n hn W)
 have HB := fun W => hi0 (u0m n s W hn hs)
 generalize fmt n = f at *
 have z1 := G.sz
 have z2 := G.e2
 have z3 := G.f2
 have z4 := G.bits
 have z5 := G.lo
 have z6 := G.f1
 have hl0 : (a0b s).length = f.size := by rw [a0q, hs]
 have hlL : (ordL f.ord (a0b s)).length = f.size := by rw [c0b, hl0]
 have hN : a0w f s = vb (g0x (ordL f.ord (a0b s))) := (y0j _ (j0q (fun _ => by omega) (j0n s))).symm
 have hlB : (g0x (ordL f.ord (a0b s))).length = 1 + f.E + f.F := by rw [i0x, hlL]; omega
 rw [hN]
 clear hN
 generalize g0x (ordL f.ord (a0b s)) = bs at *
 obtain ⟨x, r, rfl⟩ : ∃ x r, bs = x :: r := by
  cases bs with
  | nil => simp at hlB; omega
  | cons x r => exact ⟨x, r, rfl⟩
 have hr : r.length = f.E + f.F := by rw [List.length_cons] at hlB; omega
 unfold Fm.refN Fm.decN
 rw [a1r hr, a1s hr, v0m hr]
 have hEl : (r.take f.E).length = f.E := by rw [List.length_take]; omega
 have hXl : (r.drop f.E).length = f.F := by rw [List.length_drop]; omega
 have hones := f1s (r.take f.E)
 rw [hEl] at hones
 have hElt := m0z (r.take f.E)
 rw [hEl] at hElt
 have hXlt := m0z (r.drop f.E)
 rw [hXl] at hXlt
 have HV := fun W p m c h hm => hi0 (x0c (r.drop f.E) p m c W h hm (by omega))
 have hvt := fun i h => m0i r (i := i) h
 have hat := fun i h => q0p r (i := i) h
 have hev : ∀ i, i ≤ f.E → vb (r.take i) < 32768 := fun i hi => Nat.lt_of_lt_of_le (m0z _) (by rw [List.length_take, show (32768 : Nat) = 2 ^ 15 from rfl]; exact Nat.pow_le_pow_right (by omega) (by omega))
 have hget := fun i h => b1m r (i := i) h
 generalize hEE : vb (r.take f.E) = EE at *
 generalize hXX : vb (r.drop f.E) = X at *
 have hXd := e0g hXlt (k := 4) (by omega)
 have hX0 := a0f a0e X
 have h15 : EE < 32768 := Nat.lt_of_lt_of_le hElt (by rw [show (32768 : Nat) = 2 ^ 15 from rfl]; exact Nat.pow_le_pow_right (by omega) (by omega))
 have hg := b0o G.g
 have hd1 := hg.d1
 have hd2 := hg.d2
 obtain ⟨dN, hdN⟩ : ∃ dN : Nat, f.g.digs - 1 = (dN : Int) := ⟨(f.g.digs - 1).toNat, by omega⟩
 have hdl : (dig B16 (2 ^ dN)).length ≤ 8 := e0g (n := 121) (Nat.pow_lt_pow_right (by omega) (by omega)) (by omega)
 have hd1F := G.d1
 have hextF := G.ext
 have hfam := G.fam
 have hln : (List.map Value.bool (x :: r)).length = (x :: r).length := List.length_map ..
 have hlr : (x :: r).length = 1 + f.E + f.F := hlB
 clear hXX hl0 hlL hXl hs
 have I := Inv.start w [] True.intro
 refine a0g [.v (.int .i64 n), .v (.string s)] I Tryz.func6 ?_
 refine zq I (fun Al W I => (HF W).out) fun Al W I => zg I (fun Al W I => (HB W).out) fun Al V Iv _ hB _ kz => ?_
 rintro _ W ⟨p8, c8, rfl, o8, hb⟩
 refine ⟨_, rfl, kz _ _ hb fun I => ?_⟩
 have I := I.ownv o8
 refine zx I 26 (fun _ => .pointer (some (at_ p8 0))) (fun Al W I => f0n (p := p8) (n := (x :: r).length) (c := c8) (m := 0) k0u (by have h := I.fa.1.rd.solid; rw [hln] at h; exact h) (by omega)) fun Al W I => zx I 27 (fun _ => .bool x) (fun Al W I => n0j I.fa.1.rd p0g (m := 0) rfl) fun Al W I => g0e I (fun gk fr bx gs => ∃ (U900 : Nat → Value) (i : Nat) (e : Nat) (o : Bool), fr = (.v (vI n) :: .v (.string s) :: su 2 (.p 0 0 :: .v (.bool false) :: .p 1 0 :: .v (U900 7) :: .v (vS (x :: r) p8 c8) :: .p 2 0 :: .v (vI (e : Int)) :: .v (.bool o) :: .v (vI ((i + 1 : Nat) : Int)) :: su 4 (sw U900 17 48 (su 2 (sw U900 67 8 (.v undef :: sw U900 76 2 (su 2 (sw U900 80 15 (su 2 (sw U900 97 3 (.v undef :: sw U900 101 12 (.v undef :: sw U900 114 11 (.v undef :: sw U900 126 2 (.v undef :: sw U900 129 6 (.v undef :: sw U900 136 12 [])))))))))))))) : List SV) ∧ bx = [⟨30, [.v (vI 0), .v (.bool false), .v (.bool false), .v (.slice none 0 0), .v (vI 0)], false⟩, ⟨62, [.v (vI (f.size : Int)), .v (vI (f.E : Int)), .v (vI (f.F : Int)), .v (vI f.g.rad), .v (vI f.g.digs), .v (vI f.g.lo), .v (vI f.g.hi), .v (.bool f.g.grad), .v (vI (f.fam : Int))], false⟩, ⟨4, [.v (.bool x)], false⟩] ∧ gs = [i0j w.heap.size 4 p8 c8 ((x :: r).map Value.bool)] ∧ (e = vb (r.take i)) ∧ (o = (r.take i).all id) ∧ (gk + i = f.E)) f.E (fun Al W U I => ⟨_, ⟨U, 0, 0, true, rfl, rfl, rfl, rfl, rfl, (by omega)⟩, I.pick [0]⟩) ?_
 rintro J0 gk0 _ _ _ ⟨U900, i, e, o, rfl, rfl, rfl, he, ho, hgk⟩ hJ0 Al W I
 have hel : e < 32768 := by rw [he]; exact hev i (by omega)
 rcases bTF (decide (((i + 1 : Nat) : Int) ≤ (f.E : Int))) with f31 | f31
 · refine zb I 31 (decide (((i + 1 : Nat) : Int) ≤ (f.E : Int))) (true) (f31) fun Al W I => zi I 35 .i64 ((2 : Int) * (e : Int)) (((2 * e : Nat) : Int)) ((by rw [show ((2 : Int) * (e : Int)) = ((2 * e : Nat) : Int) by omega]; exact iwo)) fun Al W I => zx I 38 (fun _ => .pointer (some (at_ p8 (i + 1)))) (fun Al W I => f0n (p := p8) (n := (x :: r).length) (c := c8) (m := i + 1) k0u (by have h := I.fa.1.rd.solid; rw [hln] at h; exact h) (by have := oTr f31; omega)) fun Al W I => ?_
   rcases bTF (r.getD i false) with f39 | f39
   · refine zx I 39 (fun _ => .bool true) (fun Al W I => (n0j I.fa.1.rd p0g (m := i + 1) (by rw [List.map_cons, List.getElem?_cons_succ]; exact hget i (by have := oTr f31; omega))).trans (congrArg (fun z => Result.ok (Value.bool z) W) (show (r.getD i false) = true from f39))) fun Al W I => zi I 41 .i64 (((2 * e : Nat) : Int) + 1) (((2 * e + 1 : Nat) : Int)) ((by rw [show (((2 * e : Nat) : Int) + 1) = ((2 * e + 1 : Nat) : Int) by omega]; exact iwo)) fun Al W I => ?_
     rcases bTF (o) with f43 | f43
     · refine zb I 43 (o) (true) (f43) fun Al W I => zx I 46 (fun _ => .pointer (some (at_ p8 (i + 1)))) (fun Al W I => f0n (p := p8) (n := (x :: r).length) (c := c8) (m := i + 1) k0u (by have h := I.fa.1.rd.solid; rw [hln] at h; exact h) (by have := oTr f31; omega)) fun Al W I => zx I 47 (fun _ => .bool true) (fun Al W I => (n0j I.fa.1.rd p0g (m := i + 1) (by rw [List.map_cons, List.getElem?_cons_succ]; exact hget i (by have := oTr f31; omega))).trans (congrArg (fun z => Result.ok (Value.bool z) W) (show (r.getD i false) = true from f39))) fun Al W I => zi I 33 .i64 (((i + 1 : Nat) : Int) + 1) (((i + 1 + 1 : Nat) : Int)) ((by rw [show (((i + 1 : Nat) : Int) + 1) = ((i + 1 + 1 : Nat) : Int) by omega]; exact IntWalk.i64_in _ (by have := oTr f31; omega))) fun Al W I => a0i I J0 fun Al W U I => hJ0 (gk0 - 1) _ _ _ _ _ ((by have := oTr f31; omega)) ⟨U, i + 1, 2 * e + 1, true, rfl, rfl, rfl, (by rw [← hvt i (by have := oTr f31; omega), f39, he, Bool.toNat_true, Nat.mul_comm]), (by rw [hat i (by have := oTr f31; omega), f39, ← ho, f43]; rfl), (by have := oTr f31; omega)⟩ (I.pick [0])
     refine zb I 43 (o) (false) (f43) fun Al W I => zi I 33 .i64 (((i + 1 : Nat) : Int) + 1) (((i + 1 + 1 : Nat) : Int)) ((by rw [show (((i + 1 : Nat) : Int) + 1) = ((i + 1 + 1 : Nat) : Int) by omega]; exact IntWalk.i64_in _ (by have := oTr f31; omega))) fun Al W I => a0i I J0 fun Al W U I => hJ0 (gk0 - 1) _ _ _ _ _ ((by have := oTr f31; omega)) ⟨U, i + 1, 2 * e + 1, false, rfl, rfl, rfl, (by rw [← hvt i (by have := oTr f31; omega), f39, he, Bool.toNat_true, Nat.mul_comm]), (by rw [hat i (by have := oTr f31; omega), f39, ← ho, f43]; rfl), (by have := oTr f31; omega)⟩ (I.pick [0])
   refine zx I 39 (fun _ => .bool false) (fun Al W I => (n0j I.fa.1.rd p0g (m := i + 1) (by rw [List.map_cons, List.getElem?_cons_succ]; exact hget i (by have := oTr f31; omega))).trans (congrArg (fun z => Result.ok (Value.bool z) W) (show (r.getD i false) = false from f39))) fun Al W I => ?_
   rcases bTF (o) with f43 | f43
   · refine zb I 43 (o) (true) (f43) fun Al W I => zx I 46 (fun _ => .pointer (some (at_ p8 (i + 1)))) (fun Al W I => f0n (p := p8) (n := (x :: r).length) (c := c8) (m := i + 1) k0u (by have h := I.fa.1.rd.solid; rw [hln] at h; exact h) (by have := oTr f31; omega)) fun Al W I => zx I 47 (fun _ => .bool false) (fun Al W I => (n0j I.fa.1.rd p0g (m := i + 1) (by rw [List.map_cons, List.getElem?_cons_succ]; exact hget i (by have := oTr f31; omega))).trans (congrArg (fun z => Result.ok (Value.bool z) W) (show (r.getD i false) = false from f39))) fun Al W I => zi I 33 .i64 (((i + 1 : Nat) : Int) + 1) (((i + 1 + 1 : Nat) : Int)) ((by rw [show (((i + 1 : Nat) : Int) + 1) = ((i + 1 + 1 : Nat) : Int) by omega]; exact IntWalk.i64_in _ (by have := oTr f31; omega))) fun Al W I => a0i I J0 fun Al W U I => hJ0 (gk0 - 1) _ _ _ _ _ ((by have := oTr f31; omega)) ⟨U, i + 1, 2 * e, false, rfl, rfl, rfl, (by rw [← hvt i (by have := oTr f31; omega), f39, he, Bool.toNat_false, Nat.mul_comm, Nat.add_zero]), (by rw [hat i (by have := oTr f31; omega), f39, ← ho, f43]; rfl), (by have := oTr f31; omega)⟩ (I.pick [0])
   refine zb I 43 (o) (false) (f43) fun Al W I => zi I 33 .i64 (((i + 1 : Nat) : Int) + 1) (((i + 1 + 1 : Nat) : Int)) ((by rw [show (((i + 1 : Nat) : Int) + 1) = ((i + 1 + 1 : Nat) : Int) by omega]; exact IntWalk.i64_in _ (by have := oTr f31; omega))) fun Al W I => a0i I J0 fun Al W U I => hJ0 (gk0 - 1) _ _ _ _ _ ((by have := oTr f31; omega)) ⟨U, i + 1, 2 * e, false, rfl, rfl, rfl, (by rw [← hvt i (by have := oTr f31; omega), f39, he, Bool.toNat_false, Nat.mul_comm, Nat.add_zero]), (by rw [hat i (by have := oTr f31; omega), f39, ← ho, f43]; rfl), (by have := oTr f31; omega)⟩ (I.pick [0])
 refine zb I 31 (decide (((i + 1 : Nat) : Int) ≤ (f.E : Int))) (false) (f31) fun Al W I => ?_
 have hiE : i = f.E := by have := oFa f31; omega
 have heE : e = EE := by rw [he, hiE, hEE]
 have hoE : o = true ↔ EE = 2 ^ f.E - 1 := by rw [ho, hiE]; exact hones
 clear he ho hgk hel hev hget hvt hat hones hEE
 subst heE
 refine zi I 52 .i64 ((1 : Int) + (f.E : Int)) (((1 + f.E : Nat) : Int)) ((by rw [show ((1 : Int) + (f.E : Int)) = ((1 + f.E : Nat) : Int) by omega]; exact iwo)) fun Al W I => zx I 53 (fun _ => .slice (p8.map (·.add (1 + f.E))) ((x :: r).length - (1 + f.E)) (c8 - (1 + f.E))) (fun Al W I => s1a k0u (m := 1 + f.E) (by omega) (by have := I.fa.1.le_cap; rw [hln] at this; omega) (by have := I.fa.1.le_cap; rw [hln] at this; omega)) fun Al W I => zqr I (fun Al W I => have hzW := I.bel.size; (HV W (p8.map (·.add (1 + f.E))) ((x :: r).length - (1 + f.E)) (c8 - (1 + f.E)) (m1c I.fa.1.rd f.E) (by rw [List.length_drop, hlr]; omega)).out) fun Al W p54 c54 I => zi I 58 .i64 (f.g.digs - 1) ((dN : Int)) ((by rw [hdN]; exact iwo)) fun Al W I => zqr I (fun Al W I => have hzW := I.bel.size; d1b (dN : Int) dN rfl (by omega) W) fun Al W p59 c59 I => ?_
 rcases bTF ((f.fam : Int) == 2) with f67 | f67
 · refine zb I 67 ((f.fam : Int) == 2) (true) (f67) fun Al W I => zd [0] I fun Al W I => zk [0, 1, 2, 3] I fun I => zki 4 I .i64 (f.g.lo + (e : Int)) (f.g.lo + (e : Int)) (iwo) fun I => zk [6] I fun I => zo 5 I fun I => zg I (fun Al W I => have hzW := I.bel.size; d0q f x (lk 0 Al 2) (lk 0 Al 1) (X) p54 c54 _ (f.g.lo + (e : Int)) W I.fa.2.1 (by omega) (by omega) (I.box 2 4 _) (I.box 1 62 _)) fun Al V Iv _ hB _ kz => ?_
   rintro _ W ⟨pN, cN, rfl, oN, hb⟩
   have hD : f.dec x e X = ⟨2, X, f.g.lo + (e : Int)⟩ := by unfold Fm.dec; rw [if_pos (by have := beq_iff_eq.1 f67; omega)]
   refine ⟨_, rfl, kz _ _ hb fun I => ?_⟩
   have I := I.rf oN (hB _) Iv
   refine zo 7 I fun I => zn I fun Al W I => zk [8] I fun I => zret I (v := fun Al => .tuple #[.agg #[vI (((f.vr x ⟨2, X, f.g.lo + (e : Int)⟩).cls : Nat) : Int), .bool ((f.vr x ⟨2, X, f.g.lo + (e : Int)⟩).neg), .bool ((f.vr x ⟨2, X, f.g.lo + (e : Int)⟩).x.neg), .slice pN (dig B16 (f.vr x ⟨2, X, f.g.lo + (e : Int)⟩).x.m).length cN, vI ((f.vr x ⟨2, X, f.g.lo + (e : Int)⟩).x.e)], .bool x]) fun Al W I => e0s (by rw [hD]) rfl I.fa.1 (by omega) I.below
 refine zb I 67 ((f.fam : Int) == 2) (false) (f67) fun Al W I => ?_
 rcases bTF ((f.fam : Int) == 3) with f76 | f76
 · refine zb I 76 ((f.fam : Int) == 3) (true) (f76) fun Al W I => ?_
   rcases bTF ((e : Int) == 0) with f78 | f78
   · refine zb I 78 ((e : Int) == 0) (true) (f78) fun Al W I => ?_
     rcases bTF (x) with f79 | f79
     · refine zb I 79 (x) (true) (f79) fun Al W I => zd [0] I fun Al W I => ?_
       have hD : f.dec x e X = ⟨5, 0, 0⟩ := by unfold Fm.dec; rw [if_neg (by have := beq_iff_eq.1 f76; omega), if_neg (by have := beq_iff_eq.1 f76; omega), if_pos ⟨by have := beq_iff_eq.1 f76; omega, by have := beq_iff_eq.1 f78; omega⟩, if_pos f79]
       refine zk [0, 1] I fun I => zo 2 I fun I => zn I fun Al W I => zk [3] I fun I => zret I (v := fun Al => .tuple #[.agg #[vI 5, .bool false, .bool false, .slice none 0 0, vI 0], .bool x]) fun Al W I => c0w (by rw [hD, p0y f x (by omega), if_neg (by omega)]) rfl I.below
     refine zb I 79 (x) (false) (f79) fun Al W I => zd [0] I fun Al W I => ?_
     have hD : f.dec x e X = ⟨1, 0, 0⟩ := by unfold Fm.dec; rw [if_neg (by have := beq_iff_eq.1 f76; omega), if_neg (by have := beq_iff_eq.1 f76; omega), if_pos ⟨by have := beq_iff_eq.1 f76; omega, by have := beq_iff_eq.1 f78; omega⟩, if_neg (by rw [f79]; simp)]
     refine zk [0, 1] I fun I => zo 2 I fun I => zn I fun Al W I => zk [3] I fun I => zret I (v := fun Al => .tuple #[.agg #[vI 1, .bool false, .bool false, .slice none 0 0, vI 0], .bool x]) fun Al W I => c0w (by rw [hD, p0y f x (by omega), if_pos (by omega), f79]) rfl I.below
   refine zb I 78 ((e : Int) == 0) (false) (f78) fun Al W I => zd [0] I fun Al W I => zk [0, 1, 2, 4, 5] I fun I => zki 6 I .i64 (f.g.lo + (e : Int)) (f.g.lo + (e : Int)) (iwo) fun I => zki 7 I .i64 ((f.g.lo + (e : Int)) - 1) ((f.g.lo + (e : Int)) - 1) (iwo) fun I => zk [9] I fun I => zo 3 I fun I => ?_
   have q76 : f.fam = 3 := by have := beq_iff_eq.1 f76; omega
   have q78 : e ≠ 0 := by have := bnF f78; omega
   have qx : f.ext = false := by cases hh : f.ext with | false => rfl | true => exact absurd (hextF hh).1 (by omega)
   have qF : dN = f.F := by have := hd1F (by omega) qx; omega
   refine zqr I (fun Al W I => have hzW := I.bel.size; h1r p54 p59 _ _ c54 c59 X (2 ^ dN) (X + 2 ^ dN) W I.fa.2.1.rd I.fa.1.rd rfl rfl (by omega) (by omega) rfl) fun Al W p87 c87 I => zo 8 I fun I => zg I (fun Al W I => have hzW := I.bel.size; d0q f x (lk 0 Al 2) (lk 0 Al 1) (X + 2 ^ dN) p87 c87 _ (f.g.lo + (e : Int) - 1) W I.fa.1 (by have := e0g (x := X + 2 ^ dN) (n := 122) (k := 8) (s0c hXlt (by omega) (by omega)) (by omega); omega) (by omega) (I.box 2 4 _) (I.box 1 62 _)) fun Al V Iv _ hB _ kz => ?_
   rintro _ W ⟨pN, cN, rfl, oN, hb⟩
   have hD : f.dec x e X = ⟨2, X + 2 ^ dN, f.g.lo + e - 1⟩ := by unfold Fm.dec; rw [if_neg (by omega), if_neg (by omega), if_neg (by omega), if_neg q78, if_pos qx, qF]
   refine ⟨_, rfl, kz _ _ hb fun I => ?_⟩
   have I := I.rf oN (hB _) Iv
   refine zo 10 I fun I => zn I fun Al W I => zk [11] I fun I => zret I (v := fun Al => .tuple #[.agg #[vI (((f.vr x ⟨2, X + 2 ^ dN, f.g.lo + (e : Int) - 1⟩).cls : Nat) : Int), .bool ((f.vr x ⟨2, X + 2 ^ dN, f.g.lo + (e : Int) - 1⟩).neg), .bool ((f.vr x ⟨2, X + 2 ^ dN, f.g.lo + (e : Int) - 1⟩).x.neg), .slice pN (dig B16 (f.vr x ⟨2, X + 2 ^ dN, f.g.lo + (e : Int) - 1⟩).x.m).length cN, vI ((f.vr x ⟨2, X + 2 ^ dN, f.g.lo + (e : Int) - 1⟩).x.e)], .bool x]) fun Al W I => e0s (by rw [hD]) rfl I.fa.1 (by omega) I.below
 refine zb I 76 ((f.fam : Int) == 3) (false) (f76) fun Al W I => ?_
 have q1 : f.fam = 1 := by have := bnF f67; have := bnF f76; omega
 rcases bTF (n == 3) with f95 | f95
 · refine zb I 95 (n == 3) (true) (f95) fun Al W I => ?_
   have qx : f.ext = true := by rw [hext]; exact dTr (beq_iff_eq.1 f95)
   have qN : dN = 63 := by have := (hextF qx).2.2; omega
   rcases bTF (o) with f96 | f96
   · refine zb I 96 (o) (true) (f96) fun Al W I => zq I (fun Al W I => have hzW := I.bel.size; d0o p54 p59 _ _ c54 c59 X (2 ^ dN) W I.fa.2.1.rd I.fa.1.rd rfl rfl (by omega) (by omega)) fun Al W I => ?_
     rcases bTF ((cmpN X (2 ^ dN)) == 0) with f100 | f100
     · refine zb I 100 ((cmpN X (2 ^ dN)) == 0) (true) (f100) fun Al W I => zd [0] I fun Al W I => ?_
       have hD : f.dec x e X = ⟨3, 0, 0⟩ := by unfold Fm.dec; rw [if_neg (by omega), if_pos ⟨q1, hoE.1 f96⟩, if_pos (.inr ⟨qx, by have := p0m (beq_iff_eq.1 f100); rw [qN] at this; exact this⟩)]
       refine zk [0, 1, 2] I fun I => zo 3 I fun I => zn I fun Al W I => zk [4] I fun I => zret I (v := fun Al => .tuple #[.agg #[vI 3, .bool x, .bool false, .slice none 0 0, vI 0], .bool x]) fun Al W I => c0w (by rw [hD, p0y f x (by omega), if_pos (by omega)]) rfl I.below
     refine zb I 100 ((cmpN X (2 ^ dN)) == 0) (false) (f100) fun Al W I => zd [0] I fun Al W I => ?_
     have hD : f.dec x e X = ⟨4, 0, 0⟩ := by unfold Fm.dec; rw [if_neg (by omega), if_pos ⟨q1, hoE.1 f96⟩, if_neg (fun h => by rcases h with h | h <;> first | (have k := h.1; rw [qx] at k; cases k; done) | (have k := bnF f100; apply k; rw [qN, h.2]; exact o0e _))]
     refine zk [0, 1] I fun I => zo 2 I fun I => zn I fun Al W I => zk [3] I fun I => zret I (v := fun Al => .tuple #[.agg #[vI 4, .bool false, .bool false, .slice none 0 0, vI 0], .bool x]) fun Al W I => c0w (by rw [hD, p0y f x (by omega), if_neg (by omega)]) rfl I.below
   refine zb I 96 (o) (false) (f96) fun Al W I => ?_
   have qo : ¬ (f.fam = 1 ∧ e = 2 ^ f.E - 1) := fun h => by have k := hoE.2 h.2; first | (rw [f96] at k; cases k; done)
   rcases bTF (decide ((e : Int) > 0)) with f107 | f107
   · refine zb I 107 (decide ((e : Int) > 0)) (true) (f107) fun Al W I => zq I (fun Al W I => have hzW := I.bel.size; d0o p54 p59 _ _ c54 c59 X (2 ^ dN) W I.fa.2.1.rd I.fa.1.rd rfl rfl (by omega) (by omega)) fun Al W I => ?_
     rcases bTF (decide ((cmpN X (2 ^ dN)) < 0)) with f112 | f112
     · refine zb I 112 (decide ((cmpN X (2 ^ dN)) < 0)) (true) (f112) fun Al W I => zd [0] I fun Al W I => ?_
       have hD : f.dec x e X = ⟨4, 0, 0⟩ := by unfold Fm.dec; rw [if_neg (by omega), if_neg qo, if_neg (by omega), if_neg (by have := oTr f107; omega), if_neg (by rw [qx]; simp), if_pos (by have k := m1b (oTr f112); rw [qN] at k; exact k)]
       refine zk [0, 1] I fun I => zo 2 I fun I => zn I fun Al W I => zk [3] I fun I => zret I (v := fun Al => .tuple #[.agg #[vI 4, .bool false, .bool false, .slice none 0 0, vI 0], .bool x]) fun Al W I => c0w (by rw [hD, p0y f x (by omega), if_neg (by omega)]) rfl I.below
     refine zb I 112 (decide ((cmpN X (2 ^ dN)) < 0)) (false) (f112) fun Al W I => zd [0] I fun Al W I => zk [0, 1, 2, 3] I fun I => zki 4 I .i64 ((e : Int) - 1) ((e : Int) - 1) (iwo) fun I => zkm 5 I .i64 (if (((e : Int) - 1) : Int) > 0 then ((e : Int) - 1) else 0) (((e - 1 : Nat) : Int)) ((by split <;> omega)) fun I => zki 6 I .i64 (f.g.lo + ((e - 1 : Nat) : Int)) (f.g.lo + ((e - 1 : Nat) : Int)) (iwo) fun I => zk [8] I fun I => zo 7 I fun I => zg I (fun Al W I => have hzW := I.bel.size; d0q f x (lk 0 Al 2) (lk 0 Al 1) X p54 c54 _ (f.g.lo + ((e - 1 : Nat) : Int)) W I.fa.2.1 (by omega) (by omega) (I.box 2 4 _) (I.box 1 62 _)) fun Al V Iv _ hB _ kz => ?_
     rintro _ W ⟨pN, cN, rfl, oN, hb⟩
     have hD : f.dec x e X = ⟨2, X, f.g.lo + ((e - 1 : Nat) : Int)⟩ := by unfold Fm.dec; rw [if_neg (by omega), if_neg qo, if_neg (by omega), if_neg (by have := oTr f107; omega), if_neg (by rw [qx]; simp), if_neg (by have k := z0k (oFa f112); rw [qN] at k; exact k)]; simp only [Dc.mk.injEq, true_and]; have := oTr f107; omega
     refine ⟨_, rfl, kz _ _ hb fun I => ?_⟩
     have I := I.rf oN (hB _) Iv
     refine zo 9 I fun I => zn I fun Al W I => zk [10] I fun I => zret I (v := fun Al => .tuple #[.agg #[vI (((f.vr x ⟨2, X, f.g.lo + ((e - 1 : Nat) : Int)⟩).cls : Nat) : Int), .bool ((f.vr x ⟨2, X, f.g.lo + ((e - 1 : Nat) : Int)⟩).neg), .bool ((f.vr x ⟨2, X, f.g.lo + ((e - 1 : Nat) : Int)⟩).x.neg), .slice pN (dig B16 (f.vr x ⟨2, X, f.g.lo + ((e - 1 : Nat) : Int)⟩).x.m).length cN, vI ((f.vr x ⟨2, X, f.g.lo + ((e - 1 : Nat) : Int)⟩).x.e)], .bool x]) fun Al W I => e0s (by rw [hD]) rfl I.fa.1 (by omega) I.below
   refine zb I 107 (decide ((e : Int) > 0)) (false) (f107) fun Al W I => zd [0] I fun Al W I => zk [0, 1, 2, 3] I fun I => zki 4 I .i64 ((e : Int) - 1) ((e : Int) - 1) (iwo) fun I => zkm 5 I .i64 (if (((e : Int) - 1) : Int) > 0 then ((e : Int) - 1) else 0) (((e - 1 : Nat) : Int)) ((by split <;> omega)) fun I => zki 6 I .i64 (f.g.lo + ((e - 1 : Nat) : Int)) (f.g.lo + ((e - 1 : Nat) : Int)) (iwo) fun I => zk [8] I fun I => zo 7 I fun I => zg I (fun Al W I => have hzW := I.bel.size; d0q f x (lk 0 Al 2) (lk 0 Al 1) X p54 c54 _ (f.g.lo + ((e - 1 : Nat) : Int)) W I.fa.2.1 (by omega) (by omega) (I.box 2 4 _) (I.box 1 62 _)) fun Al V Iv _ hB _ kz => ?_
   rintro _ W ⟨pN, cN, rfl, oN, hb⟩
   have hD : f.dec x e X = ⟨2, X, f.g.lo + ((e - 1 : Nat) : Int)⟩ := by unfold Fm.dec; rw [if_neg (by omega), if_neg qo, if_neg (by omega), if_pos (by have := oFa f107; omega)]; simp only [Dc.mk.injEq, true_and]; have := oFa f107; omega
   refine ⟨_, rfl, kz _ _ hb fun I => ?_⟩
   have I := I.rf oN (hB _) Iv
   refine zo 9 I fun I => zn I fun Al W I => zk [10] I fun I => zret I (v := fun Al => .tuple #[.agg #[vI (((f.vr x ⟨2, X, f.g.lo + ((e - 1 : Nat) : Int)⟩).cls : Nat) : Int), .bool ((f.vr x ⟨2, X, f.g.lo + ((e - 1 : Nat) : Int)⟩).neg), .bool ((f.vr x ⟨2, X, f.g.lo + ((e - 1 : Nat) : Int)⟩).x.neg), .slice pN (dig B16 (f.vr x ⟨2, X, f.g.lo + ((e - 1 : Nat) : Int)⟩).x.m).length cN, vI ((f.vr x ⟨2, X, f.g.lo + ((e - 1 : Nat) : Int)⟩).x.e)], .bool x]) fun Al W I => e0s (by rw [hD]) rfl I.fa.1 (by omega) I.below
 refine zb I 95 (n == 3) (false) (f95) fun Al W I => ?_
 have qx : f.ext = false := by rw [hext]; exact dFa (bnF f95)
 have qF : dN = f.F := by have := hd1F (by omega) qx; omega
 rcases bTF (o) with f125 | f125
 · refine zb I 125 (o) (true) (f125) fun Al W I => ?_
   rcases bTF ((((dig B16 X).length : Nat) : Int) == 0) with f128 | f128
   · refine zb I 128 ((((dig B16 X).length : Nat) : Int) == 0) (true) (f128) fun Al W I => zd [0] I fun Al W I => ?_
     have hD : f.dec x e X = ⟨3, 0, 0⟩ := by unfold Fm.dec; rw [if_neg (by omega), if_pos ⟨q1, hoE.1 f125⟩, if_pos (.inl ⟨qx, hX0.1 (by have := beq_iff_eq.1 f128; omega)⟩)]
     refine zk [0, 1, 2] I fun I => zo 3 I fun I => zn I fun Al W I => zk [4] I fun I => zret I (v := fun Al => .tuple #[.agg #[vI 3, .bool x, .bool false, .slice none 0 0, vI 0], .bool x]) fun Al W I => c0w (by rw [hD, p0y f x (by omega), if_pos (by omega)]) rfl I.below
   refine zb I 128 ((((dig B16 X).length : Nat) : Int) == 0) (false) (f128) fun Al W I => zd [0] I fun Al W I => ?_
   have hD : f.dec x e X = ⟨4, 0, 0⟩ := by unfold Fm.dec; rw [if_neg (by omega), if_pos ⟨q1, hoE.1 f125⟩, if_neg (fun h => by rcases h with h | h <;> first | (have k := h.1; rw [qx] at k; cases k; done) | (have k := bnF f128; have k2 := hX0.2 h.2; omega))]
   refine zk [0, 1] I fun I => zo 2 I fun I => zn I fun Al W I => zk [3] I fun I => zret I (v := fun Al => .tuple #[.agg #[vI 4, .bool false, .bool false, .slice none 0 0, vI 0], .bool x]) fun Al W I => c0w (by rw [hD, p0y f x (by omega), if_neg (by omega)]) rfl I.below
 refine zb I 125 (o) (false) (f125) fun Al W I => ?_
 have qo : ¬ (f.fam = 1 ∧ e = 2 ^ f.E - 1) := fun h => by have k := hoE.2 h.2; rw [f125] at k; cases k
 rcases bTF (decide ((e : Int) > 0)) with f135 | f135
 · refine zb I 135 (decide ((e : Int) > 0)) (true) (f135) fun Al W I => zqr I (fun Al W I => have hzW := I.bel.size; h1r p54 p59 _ _ c54 c59 X (2 ^ dN) (X + 2 ^ dN) W I.fa.2.1.rd I.fa.1.rd rfl rfl (by omega) (by omega) rfl) fun Al W p138 c138 I => zd [0] I fun Al W I => zk [0, 1, 2, 3] I fun I => zki 4 I .i64 ((e : Int) - 1) ((e : Int) - 1) (iwo) fun I => zkm 5 I .i64 (if (((e : Int) - 1) : Int) > 0 then ((e : Int) - 1) else 0) (((e - 1 : Nat) : Int)) ((by split <;> omega)) fun I => zki 6 I .i64 (f.g.lo + ((e - 1 : Nat) : Int)) (f.g.lo + ((e - 1 : Nat) : Int)) (iwo) fun I => zk [8] I fun I => zo 7 I fun I => zg I (fun Al W I => have hzW := I.bel.size; d0q f x (lk 0 Al 2) (lk 0 Al 1) (X + 2 ^ dN) p138 c138 _ (f.g.lo + ((e - 1 : Nat) : Int)) W I.fa.1 (by have := e0g (x := X + 2 ^ dN) (n := 122) (k := 8) (s0c hXlt (by omega) (by omega)) (by omega); omega) (by omega) (I.box 2 4 _) (I.box 1 62 _)) fun Al V Iv _ hB _ kz => ?_
   rintro _ W ⟨pN, cN, rfl, oN, hb⟩
   have hD : f.dec x e X = ⟨2, X + 2 ^ dN, f.g.lo + ((e - 1 : Nat) : Int)⟩ := by unfold Fm.dec; rw [if_neg (by omega), if_neg qo, if_neg (by omega), if_neg (by have := oTr f135; omega), if_pos qx, qF]; simp only [Dc.mk.injEq, true_and]; have := oTr f135; omega
   refine ⟨_, rfl, kz _ _ hb fun I => ?_⟩
   have I := I.rf oN (hB _) Iv
   refine zo 9 I fun I => zn I fun Al W I => zk [10] I fun I => zret I (v := fun Al => .tuple #[.agg #[vI (((f.vr x ⟨2, X + 2 ^ dN, f.g.lo + ((e - 1 : Nat) : Int)⟩).cls : Nat) : Int), .bool ((f.vr x ⟨2, X + 2 ^ dN, f.g.lo + ((e - 1 : Nat) : Int)⟩).neg), .bool ((f.vr x ⟨2, X + 2 ^ dN, f.g.lo + ((e - 1 : Nat) : Int)⟩).x.neg), .slice pN (dig B16 (f.vr x ⟨2, X + 2 ^ dN, f.g.lo + ((e - 1 : Nat) : Int)⟩).x.m).length cN, vI ((f.vr x ⟨2, X + 2 ^ dN, f.g.lo + ((e - 1 : Nat) : Int)⟩).x.e)], .bool x]) fun Al W I => e0s (by rw [hD]) rfl I.fa.1 (by omega) I.below
 refine zb I 135 (decide ((e : Int) > 0)) (false) (f135) fun Al W I => zd [0] I fun Al W I => zk [0, 1, 2, 3] I fun I => zki 4 I .i64 ((e : Int) - 1) ((e : Int) - 1) (iwo) fun I => zkm 5 I .i64 (if (((e : Int) - 1) : Int) > 0 then ((e : Int) - 1) else 0) (((e - 1 : Nat) : Int)) ((by split <;> omega)) fun I => zki 6 I .i64 (f.g.lo + ((e - 1 : Nat) : Int)) (f.g.lo + ((e - 1 : Nat) : Int)) (iwo) fun I => zk [8] I fun I => zo 7 I fun I => zg I (fun Al W I => have hzW := I.bel.size; d0q f x (lk 0 Al 2) (lk 0 Al 1) X p54 c54 _ (f.g.lo + ((e - 1 : Nat) : Int)) W I.fa.2.1 (by omega) (by omega) (I.box 2 4 _) (I.box 1 62 _)) fun Al V Iv _ hB _ kz => ?_
 rintro _ W ⟨pN, cN, rfl, oN, hb⟩
 have hD : f.dec x e X = ⟨2, X, f.g.lo + ((e - 1 : Nat) : Int)⟩ := by unfold Fm.dec; rw [if_neg (by omega), if_neg qo, if_neg (by omega), if_pos (by have := oFa f135; omega)]; simp only [Dc.mk.injEq, true_and]; have := oFa f135; omega
 refine ⟨_, rfl, kz _ _ hb fun I => ?_⟩
 have I := I.rf oN (hB _) Iv
 refine zo 9 I fun I => zn I fun Al W I => zk [10] I fun I => zret I (v := fun Al => .tuple #[.agg #[vI (((f.vr x ⟨2, X, f.g.lo + ((e - 1 : Nat) : Int)⟩).cls : Nat) : Int), .bool ((f.vr x ⟨2, X, f.g.lo + ((e - 1 : Nat) : Int)⟩).neg), .bool ((f.vr x ⟨2, X, f.g.lo + ((e - 1 : Nat) : Int)⟩).x.neg), .slice pN (dig B16 (f.vr x ⟨2, X, f.g.lo + ((e - 1 : Nat) : Int)⟩).x.m).length cN, vI ((f.vr x ⟨2, X, f.g.lo + ((e - 1 : Nat) : Int)⟩).x.e)], .bool x]) fun Al W I => e0s (by rw [hD]) rfl I.fa.1 (by omega) I.below
end Go.Proofs.YtpgomglbaacmdaaGreatDoor
namespace Go.Slip
end Go.Slip
namespace Go.Proofs.YtpgomglbaacmdaaGreatDoor
open Go.RowKit Go.Slip
def z0l (n cls : Int) (a : Din) : Int := if IsFm n then c0k (fmt n) cls a else 6
theorem d1j (n : Int) (cls : Int) (a : Din) (w : World) (ha : InD w a) (hT : TabW w) :
 Calls Tryz.prog 113 #[.int .i64 n, .agg #[.int .i64 cls, .bool a.g, .slice a.p a.xs.length a.c, .int .i64 a.e]] w (w0n w (z0l n cls a) (r0u (fmt n) cls a)) := by
 unfold z0l
 by_cases hn : IsFm n
 · rw [if_pos hn]; exact h1o n cls a w hn ha hT
 · rw [if_neg hn]
   have HF := fun W => hi0 (i0y n hn W)
   generalize r0u (fmt n) cls a = s
   have I := Inv.start w [] True.intro
   refine a0g [.v (.int .i64 n), .v (.agg #[.int .i64 cls, .bool a.g, .slice a.p a.xs.length a.c, .int .i64 a.e])] I Tryz.func113 ?_
   refine zq I (fun Al W I => (HF W).out) fun Al W I => zret I fun Al W I => c0r (r := 6) rfl (by decide) rfl I.below
def a5 : Din := ⟨false, none, 0, [], 0⟩
end Go.Proofs.YtpgomglbaacmdaaGreatDoor
namespace Go.Slip
end Go.Slip
namespace Go.Proofs.YtpgomglbaacmdaaGreatDoor
open Go.RowKit Go.Slip
theorem u0o {x k n : Nat} (h : x < 2 ^ k) (hk : k ≤ 16 * n) : (dig B16 x).length ≤ n := by
 rw [a0h a0e]
 unfold B16
 rw [show (65536 : Nat) = 2 ^ 16 from rfl, ← Nat.pow_mul]
 exact Nat.lt_of_lt_of_le h (Nat.pow_le_pow_right (by omega) hk)
end Go.Proofs.YtpgomglbaacmdaaGreatDoor
namespace Go.Slip
end Go.Slip
namespace Go.Proofs.YtpgomglbaacmdaaGreatDoor
open Go.RowKit Go.Slip
theorem d1k (f : Fm) {k : Nat} (h : k ≠ 2) (g : Bool) (d d' : Dv) : f.encP k g d = f.encP k g d' := by
 unfold Fm.encP
 rw [if_neg h, if_neg h]
theorem z0m {f : Fm} (G : d0h f) {neg : Bool} {e x : Nat} (he : e < 2 ^ f.E) (hx : x < 2 ^ f.F) : a0w f (a0d (f.str neg e x)) = f.pat neg e x := by
 have ho : f.ord = 1 → f.size % 2 = 0 := fun _ => by have := G.sz; omega
 unfold a0w
 rw [a0v (by unfold Fm.str; exact j0q (by rw [e0f]; exact ho) (v0o _ _)), s1f G he hx]
theorem u0p {r : Nat} (h : (dig B32 r).length ≤ 1200) : b0g (dig B32 r) = 0 := by rw [Go.Slip.q0w, if_neg (by omega)]
structure Is (a : Din) (v : Vl) : Prop where
 g : a.g = v.neg
 xs : a.xs = dig B32 v.d
 e : a.e = v.pow
theorem Is.num {a : Din} {v : Vl} (h : Is a v) (f : Fm) : numD f a = bare ⟨v.neg, v.d, wid f.g * v.pow⟩ := by
 unfold numD
 rw [h.g, h.xs, h.e, b0a a0a]
def dinV (v : Vl) (p : OA) (c : Nat) : Din := ⟨v.neg, p, c, dig B32 v.d, v.pow⟩
theorem q1o {v : Vl} {p : OA} {c base : Nat} {w : World} (h : Own w base .u32 101 p c (dig B32 v.d)) (hl : (dig B32 v.d).length ≤ 1000) : InD w (dinV v p c) :=
 ⟨h.rd, h.le_cap, by show (dig B32 v.d).length ≤ _; omega, b0d a0a _⟩
structure ResF (f : Fm) (r : Vr) : Prop where
 c : 1 ≤ r.cls ∧ r.cls ≤ 5
 c1 : r.cls = 1 → r.neg = true → f.fam ≠ 3
 c2 : r.cls = 2 → a0p r.x f.g = true ∧ Bare r.x ∧ r.x.m ≠ 0 ∧ r.x.neg = r.neg
 c3 : r.cls = 3 → f.fam = 1
 c4 : r.cls = 4 → f.fam = 1 ∧ r.neg = false
 c5 : r.cls = 5 → f.fam = 3 ∧ r.neg = false
 x0 : r.cls ≠ 2 → r.x = vz
structure VRep (f : Fm) (v : Vl) (r : Vr) : Prop where
 cls : v.cls = r.cls
 neg : v.neg = r.neg
 num : r.cls = 2 → bare ⟨v.neg, v.d, wid f.g * v.pow⟩ = r.x
 oth : r.cls ≠ 2 → v.d = 0 ∧ v.pow = 0
 len : (dig B32 v.d).length ≤ 1000
 lo : -20000 ≤ v.pow
 hi : v.pow ≤ 20000
theorem t1m {f : Fm} {v : Vl} {r : Vr} (R : ResF f r) (V : VRep f v r) (p : OA) (c : Nat) :
 c0k f (v.cls : Int) (dinV v p c) = 0 ∧ r0u f (v.cls : Int) (dinV v p c) = a0d (f.strP (f.encP r.cls r.neg r.x)) := by
 have hinf : f.inf = false ↔ f.fam ≠ 1 := by unfold Fm.inf; simp
 have hres : f.res = false ↔ f.fam ≠ 3 := by unfold Fm.res; simp
 have hres1 : f.res = true ↔ f.fam = 3 := by unfold Fm.res; simp
 have hc := R.c
 have hcl := V.cls
 have hlo := V.lo
 have hhi := V.hi
 have hE : b0g (dinV v p c).xs = 0 := u0p (by have := V.len; omega)
 have hN : r.cls = 2 → numD f (dinV v p c) = r.x := fun h => by
  rw [← V.num h]
  unfold numD dinV
  simp only [b0a a0a]
 refine ⟨?_, ?_⟩
 · unfold c0k
   rw [if_neg (by omega), if_neg (by omega), if_neg]
   · by_cases h2 : r.cls = 2
     · obtain ⟨i1, i2, i3, i4⟩ := R.c2 h2
       rw [if_pos (by omega), if_neg (by show ¬ (v.pow < _ ∨ _ < v.pow); omega), hN h2, i1, if_neg]
       rintro (h | h)
       · have h0 : v.d = 0 := (a0f a0a _).1 h
         have := V.num h2
         rw [h0] at this
         exact i3 (by rw [← this]; rfl)
       · cases h
     · obtain ⟨o1, o2⟩ := V.oth h2
       rw [if_neg (by omega), if_neg]
       rintro (h | h | ⟨h, k⟩)
       · have : (dig B32 v.d).length = 0 := by rw [o1, a0c]; rfl
         have h : 0 < (dig B32 v.d).length := h
         omega
       · exact h o2
       · have hg : r.neg = true := by rw [← V.neg]; exact h
         have k4 := R.c4
         have k5 := R.c5
         rw [hg] at k4 k5
         rcases k with k | k
         · rcases (show r.cls = 4 ∨ r.cls = 5 by omega) with q | q
           · exact absurd (k4 q).2 (by decide)
           · exact absurd (k5 q).2 (by decide)
         · rcases (show r.cls = 1 ∨ r.cls = 3 ∨ r.cls = 4 ∨ r.cls = 5 by omega) with q | q | q | q
           · exact R.c1 q hg (hres1.1 k)
           · have := R.c3 q; have := hres1.1 k; omega
           · exact absurd (k4 q).2 (by decide)
           · exact absurd (k5 q).2 (by decide)
   · rintro (⟨h | h, k⟩ | ⟨h, k⟩)
     · exact hinf.1 k (R.c3 (by omega))
     · exact hinf.1 k (R.c4 (by omega)).1
     · exact hres.1 k (R.c5 (by omega)).1
 · unfold r0u
   rw [show ((v.cls : Int)).toNat = r.cls by omega, show (dinV v p c).g = r.neg from V.neg]
   by_cases h2 : r.cls = 2
   · rw [hN h2]
   · rw [d1k f h2 r.neg _ r.x]
theorem t1n {neg : Bool} {num den : Nat} {e : Int} {g : Gd} {way : Int} (hd : 0 < den) (G : e0j g) (ho : (a0m neg num den e g way).over = false)
 (hu : (a0m neg num den e g way).under = true → g.grad = false → g.lo ≤ (a0m neg num den e g way).pow ∧ (a0m neg num den e g way).d ≠ 0) :
 a0p (rv neg num den e g way) g = true := by
 by_cases hok : okP (a0m neg num den e g way) g = true
 · exact s1c hd G hok
 · unfold okP at hok
   rw [ho] at hok
   simp only [Bool.not_false, Bool.true_and, Bool.or_eq_true, Bool.not_eq_true', not_or, Bool.not_eq_false, Bool.not_eq_true] at hok
   obtain ⟨h1, h2⟩ := hok
   obtain ⟨h3, h4⟩ := hu h1 h2
   by_cases h0 : num = 0
   · subst h0; rw [y0i]; rfl
   · unfold rv
     unfold a0m at *
     rw [if_neg h0] at *
     generalize theK num den e (wid g) g.digs.toNat = K at *
     have hk : K < g.lo := oTr h1
     have hp : powK g K = K := by unfold powK; rw [if_neg (fun h => by rw [h2] at h; cases h.2)]
     have e1 : (fitK neg num den e g way K).pow = if digP neg num den e (wid g) g.digs.toNat way (powK g K) = 0 then 0 else powP neg num den e (wid g) g.digs.toNat way (powK g K) := rfl
     have e2 : (fitK neg num den e g way K).d = digP neg num den e (wid g) g.digs.toNat way (powK g K) := rfl
     have e3 : (fitK neg num den e g way K).neg = neg := rfl
     rw [e2] at h4
     rw [e1, if_neg h4] at h3
     rw [e1, e2, e3, if_neg h4]
     rw [hp] at h3 h4 ⊢
     have hl : i0k neg num den e (wid g) g.digs.toNat way K := by
      by_cases h : i0k neg num den e (wid g) g.digs.toNat way K
      · exact h
      · unfold powP at h3; rw [if_neg h] at h3; omega
     unfold digP powP at *
     rw [if_pos hl] at h3
     rw [if_pos hl, if_pos hl]
     have hd1 := G.d1
     have hgl := G.le
     have hww : wid g * (g.digs.toNat - 1) < wid g * g.digs.toNat := Nat.mul_lt_mul_of_pos_left (by omega) (b0f g).1
     have habs : (sg neg (2 ^ (wid g * (g.digs.toNat - 1)))).natAbs = 2 ^ (wid g * (g.digs.toNat - 1)) := by unfold sg; cases neg <;> simp [Int.natAbs_pow]
     rw [← i0t]
     refine k0q G (show g.digs = (g.digs.toNat : Int) by omega) ?_ ?_ h3 (by omega)
     · rw [habs]; exact Nat.pow_lt_pow_right (by omega) hww
     · rw [habs]; exact .inr (.inl (Nat.le_refl _))
theorem u0q {g : Bool} {m : Nat} {e : Int} (h : m ≠ 0) : (bare ⟨g, m, e⟩).neg = g ∧ (bare ⟨g, m, e⟩).m ≠ 0 := by
 unfold bare
 rw [if_neg h]
 refine ⟨rfl, fun h2 => ?_⟩
 have := (b0t m (by omega)).2
 simp only at h2
 rw [h2] at this
 simp at this
/-! ### What comes -/
theorem z0n {f : Fm} (G : d0h f) (g : Bool) : ResF f (f.zeroM g) := by
 have := G.fam
 refine ⟨by show 1 ≤ 1 ∧ 1 ≤ 5; omega, fun _ h h3 => ?_, fun h => (by cases h), fun h => (by cases h), fun h => (by cases h), fun h => (by cases h), fun _ => rfl⟩
 have h : (g && decide (f.fam = 1)) = true := h
 simp [h3] at h
theorem d1l {f : Fm} (G : d0h f) : ResF f f.nothM := by
 have hf := G.fam
 unfold Fm.nothM
 rcases hf with h | h | h <;> rw [h] <;> refine ⟨?_, ?_, ?_, ?_, ?_, ?_, fun _ => rfl⟩ <;> simp [h]
theorem t1o {f : Fm} (h : f.fam = 1) (g : Bool) : ResF f (infM g) :=
 ⟨by show 1 ≤ 3 ∧ 3 ≤ 5; omega, fun h => (by cases h), fun h => (by cases h), fun _ => h, fun h => (by cases h), fun h => (by cases h), fun _ => rfl⟩
theorem m1d {f : Fm} (G : d0h f) (g : Bool) : 2 ^ (wid f.g * f.g.digs.toNat) - 1 ≠ 0 ∧ a0p (f.greatM g).x f.g = true := by
 have GG := b0o G.g
 have hd1 := GG.d1
 have hgl := GG.le
 have wp := b0f f.g
 have hww : wid f.g * (f.g.digs.toNat - 1) < wid f.g * f.g.digs.toNat := Nat.mul_lt_mul_of_pos_left (by omega) wp.1
 have h1 : 2 ^ (wid f.g * (f.g.digs.toNat - 1)) < 2 ^ (wid f.g * f.g.digs.toNat) := Nat.pow_lt_pow_right (by omega) hww
 have h2 : 0 < 2 ^ (wid f.g * (f.g.digs.toNat - 1)) := Nat.pow_pos (by omega)
 refine ⟨by omega, ?_⟩
 show a0p (bare ⟨g, 2 ^ (wid f.g * f.g.digs.toNat) - 1, wid f.g * f.g.hi⟩) f.g = true
 have habs : (sg g (2 ^ (wid f.g * f.g.digs.toNat) - 1)).natAbs = 2 ^ (wid f.g * f.g.digs.toNat) - 1 := by unfold sg; cases g <;> simp only [if_true, Bool.false_eq_true, if_false, Int.natAbs_neg, Int.natAbs_natCast]
 rw [← i0t]
 refine k0q GG (show f.g.digs = (f.g.digs.toNat : Int) by omega) ?_ ?_ hgl (Int.le_refl _)
 · rw [habs]; omega
 · rw [habs]; exact .inr (.inl (by omega))
theorem b1n {f : Fm} (G : d0h f) (g : Bool) : ResF f (f.greatM g) := by
 obtain ⟨h1, h2⟩ := m1d G g
 exact ⟨by show 1 ≤ 2 ∧ 2 ≤ 5; omega, fun h => (by cases h), fun _ => ⟨h2, l0g _, (u0q h1).2, (u0q h1).1⟩, fun h => (by cases h), fun h => (by cases h), fun h => (by cases h), fun h => absurd rfl h⟩
theorem x0e {f : Fm} (G : d0h f) (g : Bool) : VRep f ⟨2, g, 2 ^ (wid f.g * f.g.digs.toNat) - 1, f.g.hi⟩ (f.greatM g) := by
 have GG := b0o G.g
 have h1 := GG.h1
 have h2 := GG.h2
 have hd2 := GG.d2
 have wp := b0f f.g
 have hm : wid f.g * f.g.digs.toNat ≤ 4 * 120 := Nat.mul_le_mul wp.2 (by omega)
 refine ⟨rfl, rfl, fun _ => rfl, fun h => absurd rfl h, ?_, by show _ ≤ f.g.hi; omega, by show f.g.hi ≤ _; omega⟩
 exact Nat.le_trans (a0j a0a (Nat.sub_le _ _)) (Nat.le_trans (i0a hm) (by omega))
theorem h0q {f : Fm} {k : Nat} {g : Bool} {x : Dv} (h : k ≠ 2) : VRep f ⟨k, g, 0, 0⟩ ⟨k, g, x⟩ :=
 ⟨rfl, rfl, fun e => absurd e h, fun _ => ⟨rfl, rfl⟩, by show (dig B32 0).length ≤ _; rw [a0c]; decide, by show (-20000 : Int) ≤ 0; decide, by show (0 : Int) ≤ 20000; decide⟩
def _root_.Go.Slip.Fm.placedV (f : Fm) (p : Pl) (way : Int) : Vl :=
 if p.over then (if f.fam = 2 then ⟨2, p.neg, 2 ^ (wid f.g * f.g.digs.toNat) - 1, f.g.hi⟩ else if f.fam = 3 then ⟨f.nothM.cls, false, 0, 0⟩ else if way ≤ 2 ∨ (way = 4 ∧ p.neg = false) ∨ (way = 5 ∧ p.neg = true) then ⟨3, p.neg, 0, 0⟩ else ⟨2, p.neg, 2 ^ (wid f.g * f.g.digs.toNat) - 1, f.g.hi⟩)
 else if p.under = true ∧ f.fam ≠ 1 ∧ p.pow < f.g.lo then ⟨1, false, 0, 0⟩
 else if p.d = 0 then ⟨1, p.neg && decide (f.fam = 1), 0, 0⟩
 else ⟨2, p.neg, p.d, p.pow⟩
theorem i1g {f : Fm} (_G : d0h f) : f.nothM.cls ≠ 2 := by unfold Fm.nothM; simp only; split <;> (try split) <;> omega
theorem j0z {f : Fm} (G : d0h f) {neg : Bool} {num den : Nat} {e way : Int} (hd : 0 < den) :
 ResF f (f.placedM (a0m neg num den e f.g way) way).1 ∧ VRep f (f.placedV (a0m neg num den e f.g way) way) (f.placedM (a0m neg num den e f.g way) way).1 := by
 have GG := b0o G.g
 have hin := fun h1 h2 => t1n (neg := neg) (num := num) (e := e) (way := way) hd GG h1 h2
 have hlen := z0d (neg := neg) (num := num) (e := e) (way := way) hd GG
 have hpw := fun h => t1c (neg := neg) (num := num) (e := e) (way := way) hd GG h
 have hpw2 : (a0m neg num den e f.g way).over = false → (a0m neg num den e f.g way).pow ≤ 17000 := by
  intro h
  have hh := GG.h2
  unfold a0m at *
  by_cases h0 : num = 0
  · rw [if_pos h0]; simp
  · rw [if_neg h0] at *
    generalize theK num den e (wid f.g) f.g.digs.toNat = K at *
    have h1 : powP neg num den e (wid f.g) f.g.digs.toNat way (powK f.g K) ≤ f.g.hi := by
     have h : decide (f.g.hi < powP neg num den e (wid f.g) f.g.digs.toNat way (powK f.g K)) = false := h
     have := oFa h
     omega
    show (if digP neg num den e (wid f.g) f.g.digs.toNat way (powK f.g K) = 0 then 0 else powP neg num den e (wid f.g) f.g.digs.toNat way (powK f.g K)) ≤ 17000
    split <;> omega
 unfold rv at hin
 have hgr := G.grad
 have l1 := GG.l1
 generalize a0m neg num den e f.g way = p at *
 unfold Fm.placedM Fm.placedV
 cases ho : p.over with
 | true =>
  simp only [if_true]
  by_cases h2 : f.fam = 2
  · rw [if_pos h2, if_pos h2]; exact ⟨b1n G _, x0e G _⟩
  · rw [if_neg h2, if_neg h2]
    by_cases h3 : f.fam = 3
    · rw [if_pos h3, if_pos h3]; exact ⟨d1l G, h0q (i1g G)⟩
    · have hf : f.fam = 1 := by have := G.fam; omega
      rw [if_neg h3, if_neg h3]
      split
      · exact ⟨t1o hf _, h0q (by decide)⟩
      · exact ⟨b1n G _, x0e G _⟩
 | false =>
  simp only [Bool.false_eq_true, if_false]
  by_cases hz : p.under = true ∧ f.fam ≠ 1 ∧ p.pow < f.g.lo
  · rw [if_pos hz, if_pos hz]
    exact ⟨z0n G _, h0q (by decide)⟩
  · rw [if_neg hz, if_neg hz]
    by_cases hd0 : p.d = 0
    · rw [if_pos hd0, if_pos hd0]
      exact ⟨z0n G _, h0q (by decide)⟩
    · rw [if_neg hd0, if_neg hd0]
      have hu : p.under = true → f.g.grad = false → f.g.lo ≤ p.pow ∧ p.d ≠ 0 := fun h1 h2 => by
       rw [hgr] at h2
       have := oFa h2
       refine ⟨?_, hd0⟩
       rcases Int.lt_or_le p.pow f.g.lo with h | h
       · exact absurd ⟨h1, this, h⟩ hz
       · exact h
      obtain ⟨b1, b2⟩ := u0q (g := p.neg) (e := wid f.g * p.pow) hd0
      have hlo : -17000 ≤ p.pow := by
       by_cases hok : okP p f.g = true
       · exact (hpw hok).1
       · unfold okP at hok
         rw [ho] at hok
         simp only [Bool.not_false, Bool.true_and, Bool.or_eq_true, Bool.not_eq_true', not_or, Bool.not_eq_false, Bool.not_eq_true] at hok
         have := (hu hok.1 hok.2).1
         omega
      have hhi := hpw2 ho
      refine ⟨⟨by show 1 ≤ 2 ∧ 2 ≤ 5; omega, fun h => (by cases h), fun _ => ⟨hin ho hu, l0g _, b2, b1⟩, fun h => (by cases h), fun h => (by cases h), fun h => (by cases h), fun h => absurd rfl h⟩, ?_⟩
      exact ⟨rfl, rfl, fun _ => rfl, fun h => absurd rfl h, by show (dig B32 p.d).length ≤ _; omega, by show _ ≤ p.pow; omega, by show p.pow ≤ _; omega⟩
theorem m1e (f : Fm) (n way a c : Int) (g : Bool) (u : Nat) (w : World) (U : Bt w u 181 #[.int .i64 n, .int .i64 way, .int .i64 f.g.rad, .int .i64 f.g.digs, .int .i64 f.g.lo, .int .i64 f.g.hi, .bool f.g.grad, .int .u8 (famB f), .int .i64 a]) (hd : 0 ≤ f.g.digs ∧ f.g.digs ≤ 1000) (hc : bits .or .i64 a 5 = c) (h1 : f.fam = 1) (hw : 1 ≤ way ∧ way ≤ 5) :
 Calls Tryz.prog 145 #[.pointer (some ⟨u, 0, none⟩), .bool g] w (n0o f n way c u w (if way ≤ 2 ∨ (way = 4 ∧ g = false) ∨ (way = 5 ∧ g = true) then ⟨3, g, 0, 0⟩ else ⟨2, g, 2 ^ (wid f.g * f.g.digs.toNat) - 1, f.g.hi⟩)) := by
 have hF : famB f = 65 := by unfold famB; rw [if_pos h1]
 rcases (show way = 1 ∨ way = 2 ∨ way = 3 ∨ way = 4 ∨ way = 5 by omega) with rfl | rfl | rfl | rfl | rfl <;> cases g
 · rw [if_pos (by decide)]
   have HR := fun W u hU => hi0 (d0r f n 1 a 5 c u W hU hc)
   have I := Inv.startW w u 181 (uS f n 1 a) [] U True.intro True.intro
   refine a0g [.p 0 0, .v (.bool false)] I Tryz.func145 ?_
   refine zge I 0 181 (fun Al W I => (HR W _ (I.box 0 181 _)).out) fun Al V Iv _ _ kz => ?_
   rintro _ W ⟨rfl, hO, hB⟩
   refine ⟨_, rfl, kz _ (uS f n 1 c) _ hO hB fun I => ?_⟩
   refine zb I 13 ((famB f) == 66) (false) (bFn (by rw [hF]; decide)) fun Al W I => zb I 18 ((famB f) == 67) (false) (bFn (by rw [hF]; decide)) fun Al W I => zq I (fun Al W I => n0d false W) fun Al W I => zret I fun Al W I => e0a (k := 3) rfl I.bel (I.boxE 181 _)
 · rw [if_pos (by decide)]
   have HR := fun W u hU => hi0 (d0r f n 1 a 5 c u W hU hc)
   have I := Inv.startW w u 181 (uS f n 1 a) [] U True.intro True.intro
   refine a0g [.p 0 0, .v (.bool true)] I Tryz.func145 ?_
   refine zge I 0 181 (fun Al W I => (HR W _ (I.box 0 181 _)).out) fun Al V Iv _ _ kz => ?_
   rintro _ W ⟨rfl, hO, hB⟩
   refine ⟨_, rfl, kz _ (uS f n 1 c) _ hO hB fun I => ?_⟩
   refine zb I 13 ((famB f) == 66) (false) (bFn (by rw [hF]; decide)) fun Al W I => zb I 18 ((famB f) == 67) (false) (bFn (by rw [hF]; decide)) fun Al W I => zq I (fun Al W I => n0d true W) fun Al W I => zret I fun Al W I => e0a (k := 3) rfl I.bel (I.boxE 181 _)
 · rw [if_pos (by decide)]
   have HR := fun W u hU => hi0 (d0r f n 2 a 5 c u W hU hc)
   have I := Inv.startW w u 181 (uS f n 2 a) [] U True.intro True.intro
   refine a0g [.p 0 0, .v (.bool false)] I Tryz.func145 ?_
   refine zge I 0 181 (fun Al W I => (HR W _ (I.box 0 181 _)).out) fun Al V Iv _ _ kz => ?_
   rintro _ W ⟨rfl, hO, hB⟩
   refine ⟨_, rfl, kz _ (uS f n 2 c) _ hO hB fun I => ?_⟩
   refine zb I 13 ((famB f) == 66) (false) (bFn (by rw [hF]; decide)) fun Al W I => zb I 18 ((famB f) == 67) (false) (bFn (by rw [hF]; decide)) fun Al W I => zq I (fun Al W I => n0d false W) fun Al W I => zret I fun Al W I => e0a (k := 3) rfl I.bel (I.boxE 181 _)
 · rw [if_pos (by decide)]
   have HR := fun W u hU => hi0 (d0r f n 2 a 5 c u W hU hc)
   have I := Inv.startW w u 181 (uS f n 2 a) [] U True.intro True.intro
   refine a0g [.p 0 0, .v (.bool true)] I Tryz.func145 ?_
   refine zge I 0 181 (fun Al W I => (HR W _ (I.box 0 181 _)).out) fun Al V Iv _ _ kz => ?_
   rintro _ W ⟨rfl, hO, hB⟩
   refine ⟨_, rfl, kz _ (uS f n 2 c) _ hO hB fun I => ?_⟩
   refine zb I 13 ((famB f) == 66) (false) (bFn (by rw [hF]; decide)) fun Al W I => zb I 18 ((famB f) == 67) (false) (bFn (by rw [hF]; decide)) fun Al W I => zq I (fun Al W I => n0d true W) fun Al W I => zret I fun Al W I => e0a (k := 3) rfl I.bel (I.boxE 181 _)
 · rw [if_neg (by decide)]
   have HR := fun W u hU => hi0 (d0r f n 3 a 5 c u W hU hc)
   have HG := fun W u hU => hi0 (h0n f n 3 c false u W hU hd)
   generalize 2 ^ (wid f.g * f.g.digs.toNat) - 1 = m at *
   have I := Inv.startW w u 181 (uS f n 3 a) [] U True.intro True.intro
   refine a0g [.p 0 0, .v (.bool false)] I Tryz.func145 ?_
   refine zge I 0 181 (fun Al W I => (HR W _ (I.box 0 181 _)).out) fun Al V Iv _ _ kz => ?_
   rintro _ W ⟨rfl, hO, hB⟩
   refine ⟨_, rfl, kz _ (uS f n 3 c) _ hO hB fun I => ?_⟩
   refine zb I 13 ((famB f) == 66) (false) (bFn (by rw [hF]; decide)) fun Al W I => zb I 18 ((famB f) == 67) (false) (bFn (by rw [hF]; decide)) fun Al W I => zqo I (fun Al W I => (HG W _ (I.box 0 181 _)).out) fun Al W p59 c59 I => zret I fun Al W I => ⟨p59, c59, rfl, I.fa.1.mono (by omega), I.bel, I.boxE 181 _⟩
 · rw [if_neg (by decide)]
   have HR := fun W u hU => hi0 (d0r f n 3 a 5 c u W hU hc)
   have HG := fun W u hU => hi0 (h0n f n 3 c true u W hU hd)
   generalize 2 ^ (wid f.g * f.g.digs.toNat) - 1 = m at *
   have I := Inv.startW w u 181 (uS f n 3 a) [] U True.intro True.intro
   refine a0g [.p 0 0, .v (.bool true)] I Tryz.func145 ?_
   refine zge I 0 181 (fun Al W I => (HR W _ (I.box 0 181 _)).out) fun Al V Iv _ _ kz => ?_
   rintro _ W ⟨rfl, hO, hB⟩
   refine ⟨_, rfl, kz _ (uS f n 3 c) _ hO hB fun I => ?_⟩
   refine zb I 13 ((famB f) == 66) (false) (bFn (by rw [hF]; decide)) fun Al W I => zb I 18 ((famB f) == 67) (false) (bFn (by rw [hF]; decide)) fun Al W I => zqo I (fun Al W I => (HG W _ (I.box 0 181 _)).out) fun Al W p59 c59 I => zret I fun Al W I => ⟨p59, c59, rfl, I.fa.1.mono (by omega), I.bel, I.boxE 181 _⟩
 · rw [if_pos (by decide)]
   have HR := fun W u hU => hi0 (d0r f n 4 a 5 c u W hU hc)
   have I := Inv.startW w u 181 (uS f n 4 a) [] U True.intro True.intro
   refine a0g [.p 0 0, .v (.bool false)] I Tryz.func145 ?_
   refine zge I 0 181 (fun Al W I => (HR W _ (I.box 0 181 _)).out) fun Al V Iv _ _ kz => ?_
   rintro _ W ⟨rfl, hO, hB⟩
   refine ⟨_, rfl, kz _ (uS f n 4 c) _ hO hB fun I => ?_⟩
   refine zb I 13 ((famB f) == 66) (false) (bFn (by rw [hF]; decide)) fun Al W I => zb I 18 ((famB f) == 67) (false) (bFn (by rw [hF]; decide)) fun Al W I => zq I (fun Al W I => n0d false W) fun Al W I => zret I fun Al W I => e0a (k := 3) rfl I.bel (I.boxE 181 _)
 · rw [if_neg (by decide)]
   have HR := fun W u hU => hi0 (d0r f n 4 a 5 c u W hU hc)
   have HG := fun W u hU => hi0 (h0n f n 4 c true u W hU hd)
   generalize 2 ^ (wid f.g * f.g.digs.toNat) - 1 = m at *
   have I := Inv.startW w u 181 (uS f n 4 a) [] U True.intro True.intro
   refine a0g [.p 0 0, .v (.bool true)] I Tryz.func145 ?_
   refine zge I 0 181 (fun Al W I => (HR W _ (I.box 0 181 _)).out) fun Al V Iv _ _ kz => ?_
   rintro _ W ⟨rfl, hO, hB⟩
   refine ⟨_, rfl, kz _ (uS f n 4 c) _ hO hB fun I => ?_⟩
   refine zb I 13 ((famB f) == 66) (false) (bFn (by rw [hF]; decide)) fun Al W I => zb I 18 ((famB f) == 67) (false) (bFn (by rw [hF]; decide)) fun Al W I => zqo I (fun Al W I => (HG W _ (I.box 0 181 _)).out) fun Al W p59 c59 I => zret I fun Al W I => ⟨p59, c59, rfl, I.fa.1.mono (by omega), I.bel, I.boxE 181 _⟩
 · rw [if_neg (by decide)]
   have HR := fun W u hU => hi0 (d0r f n 5 a 5 c u W hU hc)
   have HG := fun W u hU => hi0 (h0n f n 5 c false u W hU hd)
   generalize 2 ^ (wid f.g * f.g.digs.toNat) - 1 = m at *
   have I := Inv.startW w u 181 (uS f n 5 a) [] U True.intro True.intro
   refine a0g [.p 0 0, .v (.bool false)] I Tryz.func145 ?_
   refine zge I 0 181 (fun Al W I => (HR W _ (I.box 0 181 _)).out) fun Al V Iv _ _ kz => ?_
   rintro _ W ⟨rfl, hO, hB⟩
   refine ⟨_, rfl, kz _ (uS f n 5 c) _ hO hB fun I => ?_⟩
   refine zb I 13 ((famB f) == 66) (false) (bFn (by rw [hF]; decide)) fun Al W I => zb I 18 ((famB f) == 67) (false) (bFn (by rw [hF]; decide)) fun Al W I => zqo I (fun Al W I => (HG W _ (I.box 0 181 _)).out) fun Al W p59 c59 I => zret I fun Al W I => ⟨p59, c59, rfl, I.fa.1.mono (by omega), I.bel, I.boxE 181 _⟩
 · rw [if_pos (by decide)]
   have HR := fun W u hU => hi0 (d0r f n 5 a 5 c u W hU hc)
   have I := Inv.startW w u 181 (uS f n 5 a) [] U True.intro True.intro
   refine a0g [.p 0 0, .v (.bool true)] I Tryz.func145 ?_
   refine zge I 0 181 (fun Al W I => (HR W _ (I.box 0 181 _)).out) fun Al V Iv _ _ kz => ?_
   rintro _ W ⟨rfl, hO, hB⟩
   refine ⟨_, rfl, kz _ (uS f n 5 c) _ hO hB fun I => ?_⟩
   refine zb I 13 ((famB f) == 66) (false) (bFn (by rw [hF]; decide)) fun Al W I => zb I 18 ((famB f) == 67) (false) (bFn (by rw [hF]; decide)) fun Al W I => zq I (fun Al W I => n0d true W) fun Al W I => zret I fun Al W I => e0a (k := 3) rfl I.bel (I.boxE 181 _)
theorem n1v (f : Fm) (n way a c : Int) (p : Pl) (u : Nat) (w : World) (U : Bt w u 181 #[.int .i64 n, .int .i64 way, .int .i64 f.g.rad, .int .i64 f.g.digs, .int .i64 f.g.lo, .int .i64 f.g.hi, .bool f.g.grad, .int .u8 (famB f), .int .i64 a]) (G : d0h f) (hc : bits .or .i64 a 5 = c) (hw : 1 ≤ way ∧ way ≤ 5) (ho : p.over = true) :
 Calls Tryz.prog 145 #[.pointer (some ⟨u, 0, none⟩), .bool p.neg] w (n0o f n way c u w (f.placedV p way)) := by
 have GG := b0o G.g
 have h1 := GG.d1
 have h2 := GG.d2
 have hf := G.fam
 unfold Fm.placedV
 rw [if_pos ho]
 by_cases f2 : f.fam = 2
 · rw [if_pos f2]; exact l1k f n way a c p.neg u w U (by omega) hc f2
 · rw [if_neg f2]
   by_cases f3 : f.fam = 3
   · rw [if_pos f3]; exact l1l f n way a c p.neg u w U hc (by omega) f2
   · rw [if_neg f3]; exact m1e f n way a c p.neg u w U (by omega) hc (by omega) hw
def k0z (f : Fm) (n way c : Int) (u : Nat) (w : World) (base : Nat) (v : Vl) (en : Ending) (w' : World) : Prop :=
 ∃ p k, en = .returned (.agg #[.int .i64 (v.cls : Int), .bool v.neg, .slice p (dig B32 v.d).length k, .int .i64 v.pow]) ∧ Own w' base .u32 101 p k (dig B32 v.d) ∧ Kp [u] w w' ∧ Bt w' u 181 #[.int .i64 n, .int .i64 way, .int .i64 f.g.rad, .int .i64 f.g.digs, .int .i64 f.g.lo, .int .i64 f.g.hi, .bool f.g.grad, .int .u8 (famB f), .int .i64 c]
theorem n0o.ub {f : Fm} {n way c : Int} {u base : Nat} {w w' : World} {v : Vl} {en : Ending} (h : n0o f n way c u w v en w') (hb : base ≤ w.heap.size) : k0z f n way c u w base v en w' := by
 obtain ⟨p, k, h1, h2, h3, h4⟩ := h
 exact ⟨p, k, h1, h2.mono hb, h3, h4⟩
theorem n0r {f : Fm} {n way c : Int} {u k base : Nat} {g : Bool} {w w' : World} {en : Ending} (h : en = .returned (.agg #[.int .i64 (k : Int), .bool g, .slice none 0 0, .int .i64 0])) (hk : Kp [u] w w') (hb : Bt w' u 181 #[.int .i64 n, .int .i64 way, .int .i64 f.g.rad, .int .i64 f.g.digs, .int .i64 f.g.lo, .int .i64 f.g.hi, .bool f.g.grad, .int .u8 (famB f), .int .i64 c]) : k0z f n way c u w base ⟨k, g, 0, 0⟩ en w' := by
 refine ⟨none, 0, ?_, ?_, hk, hb⟩
 · rw [h, a0c]; rfl
 · show Own _ _ _ _ _ _ (dig B32 0); rw [a0c]; exact Own.nil _ _ _ _
theorem pl_n (f : Fm) (n way : Int) (ng : Bool) (d : Nat) (pw : Int) (pp : OA) (cc base u : Nat) (w : World) (U : Bt w u 181 #[.int .i64 n, .int .i64 way, .int .i64 f.g.rad, .int .i64 f.g.digs, .int .i64 f.g.lo, .int .i64 f.g.hi, .bool f.g.grad, .int .u8 (famB f), .int .i64 0]) (hp : Own w base .u32 101 pp cc (dig B32 d)) (ex un : Bool) :
 Calls Tryz.prog 114 #[.pointer (some ⟨u, 0, none⟩), .agg #[.bool ng, .slice pp (dig B32 d).length cc, .int .i64 pw, .bool ex, .bool false, .bool un]] w (k0z f n way (((f.placedM ⟨ng, d, pw, ex, false, un⟩ way).2 : Nat) : Int) u w base (f.placedV ⟨ng, d, pw, ex, false, un⟩ way)) := by
 have hV : f.placedV ⟨ng, d, pw, ex, false, un⟩ way = if un = true ∧ f.fam ≠ 1 ∧ pw < f.g.lo then ⟨1, false, 0, 0⟩ else if d = 0 then ⟨1, ng && decide (f.fam = 1), 0, 0⟩ else ⟨2, ng, d, pw⟩ := by unfold Fm.placedV; simp only [Bool.false_eq_true, if_false]
 have hM : (f.placedM ⟨ng, d, pw, ex, false, un⟩ way).2 = if un = true ∧ f.fam ≠ 1 ∧ pw < f.g.lo then 3 else f.flP ⟨ng, d, pw, ex, false, un⟩ := by
  unfold Fm.placedM; simp only [Bool.false_eq_true, if_false]
  split
  · rfl
  · split <;> rfl
 have hFL : f.flP ⟨ng, d, pw, ex, false, un⟩ = if un then (if f.fam = 1 then (if ex then 0 else 3) else 3) else if ex then 0 else 1 := rfl
 have hF1 : f.fam = 1 → (famB f != 65) = false := fun h => by unfold famB; rw [if_pos h]; rfl
 have hF2 : f.fam ≠ 1 → (famB f != 65) = true := fun h => by unfold famB; rw [if_neg h]; split <;> rfl
 have hB1 : (famB f != 65) = true → f.fam ≠ 1 := fun h k => by rw [hF1 k] at h; cases h
 have hB2 : (famB f != 65) = false → f.fam = 1 := fun h => Classical.byContradiction fun k => by rw [hF2 k] at h; cases h
 have hz := a0f a0a d
 have HR9 := fun W u hU => hi0 (d0r f n way 0 1 1 u W hU (by decide +kernel))
 have HR3 := fun k (hk : k = 0 ∨ k = 1) W u hU => hi0 (d0r f n way k 3 3 u W hU (by rcases hk with rfl | rfl <;> decide +kernel))
 have HR2 := fun k (hk : k = 1) W u hU => hi0 (d0r f n way k 2 3 u W hU (by subst hk; decide +kernel))
 have HZ := fun k W u hU => hi0 (n1r f n way k ng u W hU)
 rw [hFL] at hM
 generalize (f.placedM ⟨ng, d, pw, ex, false, un⟩ way).2 = FL at *
 generalize f.placedV ⟨ng, d, pw, ex, false, un⟩ way = v at *
 clear hFL
 generalize (ng && decide (f.fam = 1)) = q at *
 let aA : Box := ⟨51, [.v (.bool ng), .v (.slice pp (dig B32 d).length cc), .v (.int .i64 pw), .v (.bool ex), .v (.bool false), .v (.bool un)], false⟩
 let aB : Box := ⟨39, [.v (.int .i64 0), .v (.bool false), .v (.slice none 0 0), .v (.int .i64 0)], false⟩
 let aC : SV := .v (.agg #[.bool ng, .slice pp (dig B32 d).length cc, .int .i64 pw, .bool ex, .bool false, .bool un])
 have I := Inv.startW w u 181 (uS f n way 0) [ownF base .u32 101 pp cc (dig B32 d)] U ⟨hp, True.intro⟩ ⟨fun hf => hp.far U (by kernel_rfl) hf.1 hf.2, True.intro⟩
 refine a0g [.p 0 0, .v (.agg #[.bool ng, .slice pp (dig B32 d).length cc, .int .i64 pw, .bool ex, .bool false, .bool un])] I Tryz.func114 ?_
 obtain ⟨ne, hne⟩ : ∃ ne, (!ex) = ne := ⟨_, rfl⟩
 refine zb I 7 (!ex) (ne) (hne) fun Al W I => zcut I (some 2000007) (fun fr bx gs => ∃ (U1 : Nat → Value) (k1 : Int), fr = (.p 0 0 :: aC :: vu :: .p 1 0 :: .p 2 0 :: sw U1 5 2 (.v (.bool ne) :: sw U1 8 2 (vu :: sw U1 11 6 (vu :: sw U1 18 18 (vu :: .v (U1 37) :: vu :: sw U1 39 12 (vu :: sw U1 52 11 []))))) : List SV) ∧ bx = [⟨181, (uS f n way k1), false⟩, aA, aB] ∧ gs = [ownF base .u32 101 pp cc (dig B32 d)] ∧ (k1 = if ex then 0 else 1)) ?_ ?_
 · intro J hJ Al W I
   rcases bTF ne with rfl | rfl
   · refine zge I 0 181 (fun Al W I => (HR9 W _ (I.box 0 181 _)).out) fun Al V Iv _ _ kz => ?_
     rintro _ W ⟨rfl, hO, hB⟩
     refine ⟨_, rfl, kz _ (uS f n way 1) _ hO hB fun I => ?_⟩
     exact a0i I J fun Al W U I => hJ _ _ _ _ _ ⟨U, 1, rfl, rfl, rfl, (by revert hne; cases ex <;> simp)⟩ (I.pick [0])
   exact a0i I J fun Al W U I => hJ _ _ _ _ _ ⟨U, 0, rfl, rfl, rfl, (by revert hne; cases ex <;> simp)⟩ (I.pick [0])
 rintro _ _ _ ⟨U1, k1, rfl, rfl, rfl, hk1⟩ Al W I
 refine zcut I (some 1000000) (fun fr bx gs => ∃ (U2 : Nat → Value) (k2 : Int), fr = (.p 0 0 :: aC :: vu :: .p 1 0 :: .p 2 0 :: sw U2 5 2 (.v (.bool ne) :: sw U2 8 43 (vu :: sw U2 52 11 [])) : List SV) ∧ bx = [⟨181, (uS f n way k2), false⟩, aA, aB] ∧ gs = [ownF base .u32 101 pp cc (dig B32 d)] ∧ ((FL : Int) = k2) ∧ (¬ (un = true ∧ f.fam ≠ 1 ∧ pw < f.g.lo))) ?_ ?_
 · intro J hJ Al W I
   rcases bTF (un) with f19 | f19
   · refine zb I 19 (un) (true) (f19) fun Al W I => ?_
     rcases bTF ((famB f) != 65) with f25 | f25
     · refine zb I 25 ((famB f) != 65) (true) (f25) fun Al W I => zge I 0 181 (fun Al W I => (HR3 k1 (by rw [hk1]; split <;> simp) W _ (I.box 0 181 _)).out) fun Al V Iv _ _ kz => ?_
       rintro _ W ⟨rfl, hO, hB⟩
       refine ⟨_, rfl, kz _ (uS f n way 3) _ hO hB fun I => ?_⟩
       by_cases f36 : pw < f.g.lo
       · refine zd [] I fun Al W I => zk [0, 1, 2, 3, 4, 5, 6] I fun I => zkb 7 I (decide (pw < f.g.lo)) (true) (dTr f36) fun I => zret I (v := fun Al => .agg #[vI 1, .bool false, .slice none 0 0, vI 0]) fun Al W I => ?_
         (rw [hV, hM, if_pos ⟨f19, hB1 f25, f36⟩, if_pos ⟨f19, hB1 f25, f36⟩]; exact n0r (k := 1) rfl I.bel (I.boxE 181 _))
       refine zd [] I fun Al W I => zk [0, 1, 2, 3, 4, 5, 6] I fun I => zkb 7 I (decide (pw < f.g.lo)) (false) (dFa f36) fun I => a0i I J fun Al W U I => hJ _ _ _ _ _ ⟨U, 3, rfl, rfl, rfl, (by have h1 := hB1 f25; rw [hM, if_neg (fun h => f36 h.2.2), if_pos f19, if_neg h1]; rfl), (fun h => f36 h.2.2)⟩ (I.pick [0])
     refine zb I 25 ((famB f) != 65) (false) (f25) fun Al W I => zb I 40 (un) (true) (f19) fun Al W I => ?_
     rcases bTF (!ex) with f44 | f44
     · refine zb I 44 (!ex) (true) (f44) fun Al W I => zge I 0 181 (fun Al W I => (HR2 k1 (by rw [hk1]; revert f44; cases ex <;> simp) W _ (I.box 0 181 _)).out) fun Al V Iv _ _ kz => ?_
       rintro _ W ⟨rfl, hO, hB⟩
       refine ⟨_, rfl, kz _ (uS f n way 3) _ hO hB fun I => ?_⟩
       exact a0i I J fun Al W U I => hJ _ _ _ _ _ ⟨U, 3, rfl, rfl, rfl, (by have h1 := hB2 f25; rw [hM, if_neg (fun h => h.2.1 h1), if_pos f19, if_pos h1]; revert f44; cases ex <;> simp), (fun h => by have h1 := hB2 f25; exact h.2.1 h1)⟩ (I.pick [0])
     refine zb I 44 (!ex) (false) (f44) fun Al W I => a0i I J fun Al W U I => hJ _ _ _ _ _ ⟨U, k1, rfl, rfl, rfl, (by have h1 := hB2 f25; rw [hM, if_neg (fun h => h.2.1 h1), if_pos f19, if_pos h1, hk1]; revert f44; cases ex <;> simp), (fun h => by have h1 := hB2 f25; exact h.2.1 h1)⟩ (I.pick [0])
   refine zb I 19 (un) (false) (f19) fun Al W I => zb I 40 (un) (false) (f19) fun Al W I => a0i I J fun Al W U I => hJ _ _ _ _ _ ⟨U, k1, rfl, rfl, rfl, (by rw [hM, if_neg (fun h => by rw [f19] at h; cases h.1), if_neg (by rw [f19]; simp), hk1]; split <;> rfl), (fun h => by rw [f19] at h; cases h.1)⟩ (I.pick [0])
 rintro _ _ _ ⟨U2, k2, rfl, rfl, rfl, hk2, hlo⟩ Al W I
 rcases bTF ((((dig B32 d).length : Nat) : Int) == 0) with f51 | f51
 · refine zb I 51 ((((dig B32 d).length : Nat) : Int) == 0) (true) (f51) fun Al W I => zq I (fun Al W I => (HZ k2 W _ (I.box 0 181 _)).out) fun Al W I => ?_
   rw [hV, hk2, if_neg hlo, if_pos (hz.1 (by have := beq_iff_eq.1 f51; omega))]
   exact zret I fun Al W I => n0r (k := 1) rfl I.bel (I.boxE 181 _)
 refine zb I 51 ((((dig B32 d).length : Nat) : Int) == 0) (false) (f51) fun Al W I => zret I (v := fun Al => .agg #[vI 2, .bool ng, .slice pp (dig B32 d).length cc, vI pw]) fun Al W I => ?_
 (rw [hV, hk2, if_neg hlo, if_neg (fun h => by have := hz.2 h; have := bnF f51; omega)]; exact ⟨pp, cc, rfl, I.fa.1, I.bel, I.boxE 181 _⟩)
theorem u1q (f : Fm) (n way : Int) (p : Pl) (pp : OA) (cc base u : Nat) (w : World) (U : Bt w u 181 #[.int .i64 n, .int .i64 way, .int .i64 f.g.rad, .int .i64 f.g.digs, .int .i64 f.g.lo, .int .i64 f.g.hi, .bool f.g.grad, .int .u8 (famB f), .int .i64 0]) (hb : base ≤ w.heap.size) (G : d0h f) (hw : 1 ≤ way ∧ way ≤ 5) (ho : p.over = true) :
 Calls Tryz.prog 114 #[.pointer (some ⟨u, 0, none⟩), .agg #[.bool p.neg, .slice pp (dig B32 p.d).length cc, .int .i64 p.pow, .bool true, .bool true, .bool p.under]] w (k0z f n way 5 u w base (f.placedV p way)) := by
 have HO := fun W u hU => hi0 (n1v f n way 0 5 p u W hU G (by decide +kernel) hw ho)
 generalize f.placedV p way = v at *
 have I := Inv.startW w u 181 (uS f n way 0) [] U True.intro True.intro
 refine a0g [.p 0 0, .v (.agg #[.bool p.neg, .slice pp (dig B32 p.d).length cc, .int .i64 p.pow, .bool true, .bool true, .bool p.under])] I Tryz.func114 ?_
 refine zge I 0 181 (fun Al W I => (HO W _ (I.box 0 181 _)).out) fun Al V Iv _ _ kz => ?_
 rintro _ W ⟨p16, c16, rfl, o16, hO, hB⟩
 refine ⟨_, rfl, kz _ (uS f n way 5) _ hO hB fun I => ?_⟩
 have I := I.ownB base o16
 exact zret I fun Al W I => ⟨p16, c16, rfl, I.fa.1, I.bel, I.boxE 181 _⟩
theorem u1r (f : Fm) (n way : Int) (p : Pl) (pp : OA) (cc base u : Nat) (w : World) (U : Bt w u 181 #[.int .i64 n, .int .i64 way, .int .i64 f.g.rad, .int .i64 f.g.digs, .int .i64 f.g.lo, .int .i64 f.g.hi, .bool f.g.grad, .int .u8 (famB f), .int .i64 0]) (hb : base ≤ w.heap.size) (G : d0h f) (hw : 1 ≤ way ∧ way ≤ 5) (ho : p.over = true) :
 Calls Tryz.prog 114 #[.pointer (some ⟨u, 0, none⟩), .agg #[.bool p.neg, .slice pp (dig B32 p.d).length cc, .int .i64 p.pow, .bool false, .bool true, .bool p.under]] w (k0z f n way 5 u w base (f.placedV p way)) := by
 have HO := fun W u hU => hi0 (n1v f n way 1 5 p u W hU G (by decide +kernel) hw ho)
 have HR := fun W u hU => hi0 (d0r f n way 0 1 1 u W hU (by decide +kernel))
 generalize f.placedV p way = v at *
 have I := Inv.startW w u 181 (uS f n way 0) [] U True.intro True.intro
 refine a0g [.p 0 0, .v (.agg #[.bool p.neg, .slice pp (dig B32 p.d).length cc, .int .i64 p.pow, .bool false, .bool true, .bool p.under])] I Tryz.func114 ?_
 refine zge I 0 181 (fun Al W I => (HR W _ (I.box 0 181 _)).out) fun Al V Iv _ _ kz => ?_
 rintro _ W ⟨rfl, hO, hB⟩
 refine ⟨_, rfl, kz _ (uS f n way 1) _ hO hB fun I => ?_⟩
 refine zge I 0 181 (fun Al W I => (HO W _ (I.box 0 181 _)).out) fun Al V Iv _ _ kz => ?_
 rintro _ W ⟨p16, c16, rfl, o16, hO, hB⟩
 refine ⟨_, rfl, kz _ (uS f n way 5) _ hO hB fun I => ?_⟩
 have I := I.ownB base o16
 exact zret I fun Al W I => ⟨p16, c16, rfl, I.fa.1, I.bel, I.boxE 181 _⟩
theorem q1p (f : Fm) (n way : Int) (p : Pl) (pp : OA) (cc base u : Nat) (w : World) (U : Bt w u 181 #[.int .i64 n, .int .i64 way, .int .i64 f.g.rad, .int .i64 f.g.digs, .int .i64 f.g.lo, .int .i64 f.g.hi, .bool f.g.grad, .int .u8 (famB f), .int .i64 0]) (hp : Own w base .u32 101 pp cc (dig B32 p.d)) (hb : base ≤ w.heap.size) (G : d0h f) (hw : 1 ≤ way ∧ way ≤ 5) :
 Calls Tryz.prog 114 #[.pointer (some ⟨u, 0, none⟩), .agg #[.bool p.neg, .slice pp (dig B32 p.d).length cc, .int .i64 p.pow, .bool p.exact, .bool p.over, .bool p.under]] w (k0z f n way (((f.placedM p way).2 : Nat) : Int) u w base (f.placedV p way)) := by
 obtain ⟨ng, d, pw, ex, ov, un⟩ := p
 cases ov with
 | true =>
  have e : (f.placedM ⟨ng, d, pw, ex, true, un⟩ way).2 = 5 := by unfold Fm.placedM; rw [if_pos rfl]
  rw [e]
  cases ex
  · exact u1r f n way ⟨ng, d, pw, false, true, un⟩ pp cc base u w U hb G hw rfl
  · exact u1q f n way ⟨ng, d, pw, true, true, un⟩ pp cc base u w U hb G hw rfl
 | false =>
  exact pl_n f n way ng d pw pp cc base u w U hp ex un
theorem x0f (ng : Bool) (p q : OA) (c d : Nat) (num den : Nat) (e : Int) (g : Gd) (way : Int) (w : World) (hp : Rd w .u32 p (dig B32 num)) (hq : Rd w .u32 q (dig B32 den))
 (hl : (dig B32 num).length ≤ 100000) (hl2 : (dig B32 den).length ≤ 100000) (hn : 0 < num) (hd : 0 < den) (he : -1000000 ≤ e ∧ e ≤ 1000000) (G : e0j g) (hw1 : 1 ≤ way) (hw2 : way ≤ 5) :
 Calls Tryz.prog 13 #[.agg #[.bool ng, .slice p (dig B32 num).length c, .slice q (dig B32 den).length d, .int .i64 e], .agg #[.int .i64 g.rad, .int .i64 g.digs, .int .i64 g.lo, .int .i64 g.hi, .bool g.grad], .int .i64 way] w (a1y w (a0m ng num den e g way)) := by
 have h := t0y ng p q c d num den e g way (theK num den e (wid g) g.digs.toNat) w hp hq hl hl2 hn hd he G hw1 hw2 (i0s hn hd e (b0f g).1 (by have := G.d1; omega))
 unfold a0m
 rw [if_neg (by omega)]
 exact h
theorem u1s (f : Fm) (n way : Int) (ng : Bool) (p q : OA) (c d : Nat) (num den : Nat) (e : Int) (u : Nat) (w : World) (U : Bt w u 181 #[.int .i64 n, .int .i64 way, .int .i64 f.g.rad, .int .i64 f.g.digs, .int .i64 f.g.lo, .int .i64 f.g.hi, .bool f.g.grad, .int .u8 (famB f), .int .i64 0]) (hp : Rd w .u32 p (dig B32 num)) (hq : Rd w .u32 q (dig B32 den))
 (hl : (dig B32 num).length ≤ 100000) (hl2 : (dig B32 den).length ≤ 100000) (hn : 0 < num) (hd : 0 < den) (he : -1000000 ≤ e ∧ e ≤ 1000000) (G : d0h f) (hw : 1 ≤ way ∧ way ≤ 5) :
 Calls Tryz.prog 61 #[.pointer (some ⟨u, 0, none⟩), .agg #[.bool ng, .slice p (dig B32 num).length c, .slice q (dig B32 den).length d, .int .i64 e]] w
  (n0o f n way (((f.placedM (a0m ng num den e f.g way) way).2 : Nat) : Int) u w (f.placedV (a0m ng num den e f.g way) way)) := by
 have GG := b0o G.g
 have HF := fun W h1 h2 => hi0 (x0f ng p q c d num den e f.g way W h1 h2 hl hl2 hn hd he GG hw.1 hw.2)
 have HP := fun pp cc base u W U h1 h2 => hi0 (q1p f n way (a0m ng num den e f.g way) pp cc base u W U h1 h2 G hw)
 have hR := z0d (neg := ng) (num := num) (e := e) (way := way) hd GG
 generalize (f.placedM (a0m ng num den e f.g way) way).2 = fl at *
 generalize f.placedV (a0m ng num den e f.g way) way = v at *
 generalize a0m ng num den e f.g way = P at *
 have I := Inv.startW w u 181 (uS f n way 0) [rdF .u32 p (dig B32 num), rdF .u32 q (dig B32 den)] U ⟨hp, hq, True.intro⟩ ⟨fun hf => hp.far U (by kernel_rfl) hf.1 hf.2, fun hf => hq.far U (by kernel_rfl) hf.1 hf.2, True.intro⟩
 refine a0g [.p 0 0, .v (.agg #[.bool ng, .slice p (dig B32 num).length c, .slice q (dig B32 den).length d, .int .i64 e])] I Tryz.func61 ?_
 refine zcut I none (fun fr bx gs => ∃ (U1 : Nat → Value) (p16 : OA) (c16 : Nat), fr = (.p 0 0 :: .v (.agg #[.bool ng, vS (dig B32 num) p c, vS (dig B32 den) q d, vI e]) :: vu :: .p 1 0 :: .p 2 0 :: sw U1 5 12 [] : List SV) ∧ bx = [⟨181, (uS f n way (fl : Int)), false⟩, ⟨48, [.v (.bool ng), .v (vS (dig B32 num) p c), .v (vS (dig B32 den) q d), .v (vI e)], false⟩, ⟨39, [.v (vI (v.cls : Int)), .v (.bool v.neg), .v (vS (dig B32 v.d) p16 c16), .v (vI v.pow)], false⟩] ∧ gs = [ownF w.heap.size .u32 101 p16 c16 (dig B32 v.d), rdF .u32 p (dig B32 num), rdF .u32 q (dig B32 den)]) ?_ ?_
 · intro J hJ Al W I
   refine zd [0, 2] I fun Al W I => zk [0, 1, 2, 3, 4, 6, 7, 8] I fun I => zo2 5 9 I (fun I => ?_) (fun I => ?_)
   · refine zn I fun Al W I => zo 9 I fun I => zn I fun Al W I => zo 10 I fun I => zqo I (fun Al W I => (HF W I.fa.1 I.fa.2.1).out) fun Al W p15 c15 I => zo 11 I fun I => zge I 0 181 (fun Al W I => have hzW := I.bel.size; (HP p15 c15 _ _ W (I.box 0 181 _) I.fa.1 (by omega)).out) fun Al V Iv _ _ kz => ?_
     rintro _ W ⟨p16, c16, rfl, o16, hO, hB⟩
     refine ⟨_, rfl, kz _ (uS f n way (fl : Int)) _ hO hB fun I => ?_⟩
     have I := I.own o16
     refine zo 12 I fun I => zn I fun Al W I => a0i I J fun Al W U I => hJ _ _ _ _ _ ⟨U, p16, c16, rfl, rfl, rfl⟩ (I.pick [0, 2, 3])
   refine zn I fun Al W I => zo 5 I fun I => zn I fun Al W I => zo 10 I fun I => zqo I (fun Al W I => (HF W I.fa.1 I.fa.2.1).out) fun Al W p15 c15 I => zo 11 I fun I => zge I 0 181 (fun Al W I => have hzW := I.bel.size; (HP p15 c15 _ _ W (I.box 0 181 _) I.fa.1 (by omega)).out) fun Al V Iv _ _ kz => ?_
   rintro _ W ⟨p16, c16, rfl, o16, hO, hB⟩
   refine ⟨_, rfl, kz _ (uS f n way (fl : Int)) _ hO hB fun I => ?_⟩
   have I := I.own o16
   refine zo 12 I fun I => zn I fun Al W I => a0i I J fun Al W U I => hJ _ _ _ _ _ ⟨U, p16, c16, rfl, rfl, rfl⟩ (I.pick [0, 2, 3])
 rintro _ _ _ ⟨U1, p16, c16, rfl, rfl, rfl⟩ Al W I
 exact zret I fun Al W I => ⟨p16, c16, rfl, I.fa.1, I.bel, I.boxE 181 _⟩
structure VrOk (r : Vr) : Prop where
 c : 1 ≤ r.cls ∧ r.cls ≤ 5
 x0 : r.cls ≠ 2 → r.x = vz
 x2 : r.cls = 2 → r.x.m ≠ 0 ∧ r.x.neg = r.neg
 bare : Bare r.x
 len : (dig B32 r.x.m).length ≤ 20
 lo : -18000 ≤ r.x.e
 hi : r.x.e ≤ 18000
def z0o (f : Fm) (n way : Int) (u : Nat) (w : World) (base : Nat) (r : Vr × Nat) (en : Ending) (w' : World) : Prop :=
 ∃ v, VRep f v r.1 ∧ k0z f n way ((r.2 : Nat) : Int) u w base v en w'
theorem z0o.mono {f : Fm} {n way : Int} {u base b' : Nat} {w w' : World} {r : Vr × Nat} {en : Ending} (h : z0o f n way u w base r en w') (hb : b' ≤ base) : z0o f n way u w b' r en w' := by
 obtain ⟨v, h1, p, k, h2, h3, h4, h5⟩ := h
 exact ⟨v, h1, p, k, h2, h3.mono hb, h4, h5⟩
structure Vp where
 v : Vl
 p : OA
 c : Nat
def Vp.cells (x : Vp) : List Value := [.int .i64 (x.v.cls : Int), .bool x.v.neg, .slice x.p (dig B32 x.v.d).length x.c, .int .i64 x.v.pow]
theorem Vp.len (x : Vp) : x.cells.length = 4 := rfl
def two (a b : Vp) : List Vp := [a, b]
theorem q0a (n : Int) (w : World) : Calls Tryz.prog 11 #[.int .i64 n] w fun en w' => en = .returned (.tuple #[.agg #[.int .i64 (fmt n).g.rad, .int .i64 (fmt n).g.digs, .int .i64 (fmt n).g.lo, .int .i64 (fmt n).g.hi, .bool (fmt n).g.grad], .int .i64 (d0p n)]) ∧ Below w.heap.size w w' := by
 by_cases hn : IsFm n
 · have h0 : d0p n = 0 := by unfold d0p; rw [if_pos hn]
   rw [h0]
   have HF := fun W => hi0 (h0k n hn W)
   generalize fmt n = f at *
   have I := Inv.start w [] True.intro
   refine a0g [.v (.int .i64 n)] I Tryz.func11 ?_
   refine zq I (fun Al W I => (HF W).out) fun Al W I => zrb I
 · have h0 : d0p n = 6 := by unfold d0p; rw [if_neg hn]
   rw [h0, u0e hn]
   have HF := fun W => hi0 (i0y n hn W)
   have I := Inv.start w [] True.intro
   refine a0g [.v (.int .i64 n)] I Tryz.func11 ?_
   refine zq I (fun Al W I => (HF W).out) fun Al W I => zrb I
def q0b (f : Fm) (n way : Int) (w : World) (en : Ending) (w' : World) : Prop :=
 ∃ u, en = .returned (.tuple #[.pointer (some ⟨u, 0, none⟩), .int .i64 0]) ∧ w.heap.size ≤ u ∧ Bt w' u 181 #[.int .i64 n, .int .i64 way, .int .i64 f.g.rad, .int .i64 f.g.digs, .int .i64 f.g.lo, .int .i64 f.g.hi, .bool f.g.grad, .int .u8 (famB f), .int .i64 0] ∧ Below w.heap.size w w'
theorem q1q (n way : Int) (w : World) (hn : IsFm n) (hw : 1 ≤ way ∧ way ≤ 5) : Calls Tryz.prog 58 #[.int .i64 n, .int .i64 way] w (q0b (fmt n) n way w) := by
 have HG := fun W => hi0 (q0a n W)
 have he : d0p n = 0 := by unfold d0p; rw [if_pos hn]
 rw [he] at HG
 have G := b0j hn
 generalize fmt n = f at *
 have hrad := G.rad
 have hgr := G.grad
 by_cases f2 : f.fam = 2
 · have hBf : famB f = 66 := by unfold famB; rw [if_neg (by omega), if_pos f2]
   rw [if_pos f2] at hrad
   have I := Inv.start w [] True.intro
   refine a0g [.v (.int .i64 n), .v (.int .i64 way)] I Tryz.func58 ?_
   refine zq I (fun Al W I => (HG W).out) fun Al W I => zb I 18 (decide (way < 1)) (false) (dFa (by omega)) fun Al W I => zb I 21 (decide (way > 5)) (false) (dFa (by omega)) fun Al W I => zb I 31 (f.g.rad == 16) (true) (beq_iff_eq.2 hrad) fun Al W I => zret I (v := fun Al => .tuple #[.pointer (some ⟨(lk 0 Al 1), 0, none⟩), vI 0]) fun Al W I => ⟨_, rfl, (I.geB 1), by rw [hBf]; exact (I.box 1 181 _), I.below⟩
 · rw [if_neg f2] at hrad
   by_cases f1 : f.fam = 1
   · have hBf : famB f = 65 := by unfold famB; rw [if_pos f1]
     rw [decide_eq_true f1] at hgr
     unfold q0b
     rw [hBf, hgr]
     simp only [hgr] at HG
     have I := Inv.start w [] True.intro
     refine a0g [.v (.int .i64 n), .v (.int .i64 way)] I Tryz.func58 ?_
     refine zq I (fun Al W I => (HG W).out) fun Al W I => zb I 18 (decide (way < 1)) (false) (dFa (by omega)) fun Al W I => zb I 21 (decide (way > 5)) (false) (dFa (by omega)) fun Al W I => zb I 31 (f.g.rad == 16) (false) (bFn (by omega)) fun Al W I => zret I fun Al W I => ⟨_, rfl, (I.geB 1), (I.box 1 181 _), I.below⟩
   · have hBf : famB f = 67 := by unfold famB; rw [if_neg f1, if_neg f2]
     rw [decide_eq_false f1] at hgr
     unfold q0b
     rw [hBf, hgr]
     simp only [hgr] at HG
     have I := Inv.start w [] True.intro
     refine a0g [.v (.int .i64 n), .v (.int .i64 way)] I Tryz.func58 ?_
     refine zq I (fun Al W I => (HG W).out) fun Al W I => zb I 18 (decide (way < 1)) (false) (dFa (by omega)) fun Al W I => zb I 21 (decide (way > 5)) (false) (dFa (by omega)) fun Al W I => zb I 31 (f.g.rad == 16) (false) (bFn (by omega)) fun Al W I => zret I fun Al W I => ⟨_, rfl, (I.geB 1), (I.box 1 181 _), I.below⟩
theorem n1w (n way fl : Int) (a : Vp) (r : Vr) (base u : Nat) (w : World) (U : Bt w u 181 #[.int .i64 n, .int .i64 way, .int .i64 (fmt n).g.rad, .int .i64 (fmt n).g.digs, .int .i64 (fmt n).g.lo, .int .i64 (fmt n).g.hi, .bool (fmt n).g.grad, .int .u8 (famB (fmt n)), .int .i64 fl]) (oa : Own w base .u32 101 a.p a.c (dig B32 a.v.d)) (hn : IsFm n) (V : VRep (fmt n) a.v r) (R : ResF (fmt n) r) (hT : TabW w) :
 Calls Tryz.prog 59 #[.pointer (some ⟨u, 0, none⟩), .agg #[.int .i64 (a.v.cls : Int), .bool a.v.neg, .slice a.p (dig B32 a.v.d).length a.c, .int .i64 a.v.pow]] w fun en w' => en = .returned (.tuple #[.string (a0d ((fmt n).strP ((fmt n).encP r.cls r.neg r.x))), .int .i64 fl, .int .i64 0]) ∧ Below w.heap.size w w' := by
 have HE := fun W (h1 : Own W base .u32 101 a.p a.c (dig B32 a.v.d)) h2 => hi0 (d1j n (a.v.cls : Int) (dinV a.v a.p a.c) W (q1o h1 V.len) h2)
 obtain ⟨e1, e2⟩ := t1m R V a.p a.c
 unfold z0l w0n at HE
 rw [if_pos hn, e1, e2] at HE
 simp only [if_true] at HE
 have HE2 : ∀ W, Own W base .u32 101 a.p a.c (dig B32 a.v.d) → TabW W → Hid (Calls Tryz.prog 113 #[.int .i64 n, .agg #[.int .i64 (a.v.cls : Int), .bool a.v.neg, .slice a.p (dig B32 a.v.d).length a.c, .int .i64 a.v.pow]] W fun en w' => en = .returned (.tuple #[.string (a0d ((fmt n).strP ((fmt n).encP r.cls r.neg r.x))), .int .i64 0]) ∧ Below W.heap.size W w') := HE
 clear HE e1 e2 V R
 generalize a0d ((fmt n).strP ((fmt n).encP r.cls r.neg r.x)) = s at *
 generalize fmt n = f at *
 have I := Inv.startR w [u] [⟨181, (uS f n way fl), true⟩] [ownF base .u32 101 a.p a.c (dig B32 a.v.d), tabF] ⟨U, True.intro⟩ ⟨oa, hT, True.intro⟩
 refine a0g [.p 0 0, .v (.agg #[.int .i64 (a.v.cls : Int), .bool a.v.neg, .slice a.p (dig B32 a.v.d).length a.c, .int .i64 a.v.pow])] I Tryz.func59 ?_
 refine zd [] I fun Al W I => zk [0, 1, 2, 3, 4] I fun I => zo 5 I fun I => zq I (fun Al W I => (HE2 W I.fa.1 I.fa.2.1).out) fun Al W I => zk [6, 7, 8, 9, 10] I fun I => zd [] I fun Al W I => zk [0, 1, 2, 3, 4, 5, 6, 7] I fun I => zrb I
def strR (n : Int) (r : Vr) : ByteArray := a0d ((fmt n).strP ((fmt n).encP r.cls r.neg r.x))
structure VrF (f : Fm) (r : Vr) : Prop where
 ok : VrOk r
 inf : r.cls = 3 → f.fam = 1
def refD (n : Int) (s : ByteArray) : Vr := (fmt n).refN (a0w (fmt n) s)
theorem t1p {f : Fm} (G : d0h f) (neg : Bool) {e frac : Nat} (h : e < 2 ^ f.E) : (f.dec neg e frac).p = 0 ∨ (f.g.lo ≤ (f.dec neg e frac).p ∧ (f.dec neg e frac).p ≤ f.g.hi + 1) := by
 have h3 := G.hi1
 have h4 := G.hi2
 have h5 := G.hi3
 have h6 := G.fam
 have gg := (b0o G.g).le
 have e1 := G.e1
 have hE1 : (2 : Nat) ^ 7 ≤ 2 ^ f.E := Nat.pow_le_pow_right (by omega) e1
 unfold Fm.dec
 generalize 2 ^ f.E = T at *
 repeat' split
 all_goals first | exact .inl rfl | (right; simp only; omega)
theorem q1r {f : Fm} (neg : Bool) {e frac : Nat} (h : (f.dec neg e frac).c = 3) : f.fam = 1 := by
 have h : (f.dec neg e frac).cls = 3 := by
  unfold Dc.c at h
  split at h <;> omega
 unfold Fm.dec at h
 split at h
 · simp at h
 · split at h
   · rename_i k
     exact k.1
   · split at h
     · split at h <;> simp at h
     · split at h
       · simp at h
       · split at h
         · simp at h
         · split at h <;> simp at h
theorem q0c {n : Int} {s : ByteArray} (hn : IsFm n) : VrF (fmt n) (refD n s) := by
 have G := b0j hn
 have GG := b0o G.g
 obtain ⟨w1, w2, w3⟩ := j0p G.g
 have he : (fmt n).exp (a0w (fmt n) s) < 2 ^ (fmt n).E := Nat.mod_lt _ (Nat.pow_pos (by omega))
 have hx : (fmt n).frac (a0w (fmt n) s) < 2 ^ (fmt n).F := Nat.mod_lt _ (Nat.pow_pos (by omega))
 have hm := j1y (f := fmt n) ((fmt n).neg (a0w (fmt n) s)) (e := (fmt n).exp (a0w (fmt n) s)) hx
 have hp := t1p G ((fmt n).neg (a0w (fmt n) s)) (frac := (fmt n).frac (a0w (fmt n) s)) he
 have hi := fun h => q1r (f := fmt n) ((fmt n).neg (a0w (fmt n) s)) (e := (fmt n).exp (a0w (fmt n) s)) (frac := (fmt n).frac (a0w (fmt n) s)) h
 have hcls := f1w (fmt n) ((fmt n).neg (a0w (fmt n) s)) ((fmt n).exp (a0w (fmt n) s)) ((fmt n).frac (a0w (fmt n) s))
 have z2 := G.f2
 unfold refD Fm.refN Fm.decN
 generalize (fmt n).dec ((fmt n).neg (a0w (fmt n) s)) ((fmt n).exp (a0w (fmt n) s)) ((fmt n).frac (a0w (fmt n) s)) = D at *
 generalize (fmt n).neg (a0w (fmt n) s) = g at *
 generalize fmt n = f at *
 have hc : 1 ≤ D.c ∧ D.c ≤ 5 := by unfold Dc.c; split <;> omega
 have hml : (dig B32 D.m).length ≤ 3 := b0b hm (by omega)
 have wp := b0f f.g
 have hwp : -17010 ≤ (wid f.g : Int) * D.p ∧ (wid f.g : Int) * D.p ≤ 17010 := by
  rcases hp with h | ⟨h1, h2⟩
  · rw [h, Int.mul_zero]; omega
  · have a1 : (wid f.g : Int) * f.g.lo ≤ wid f.g * D.p := Int.mul_le_mul_of_nonneg_left h1 (by omega)
    have a2 : (wid f.g : Int) * D.p ≤ wid f.g * (f.g.hi + 1) := Int.mul_le_mul_of_nonneg_left h2 (by omega)
    rw [Int.mul_add, Int.mul_one] at a2
    omega
 refine ⟨⟨hc, fun h => ?_, fun h => ?_, ?_, ?_, ?_, ?_⟩, hi⟩
 · have h : ¬ D.c = 2 := h
   unfold Fm.vr
   simp only [if_neg h]
   rfl
 · have h : D.c = 2 := h
   have hm0 := n1h h
   unfold Fm.vr
   simp only [h, if_true]
   obtain ⟨b1, b2⟩ := u0q (g := g) (e := (wid f.g : Int) * D.p) hm0
   exact ⟨b2, by rw [b1]; rfl⟩
 · unfold Fm.vr
   simp only
   split
   · exact l0g _
   · exact .inr rfl
 · unfold Fm.vr
   simp only
   split
   · exact Nat.le_trans (a1j a0a _) (by show (dig B32 D.m).length ≤ _; omega)
   · show (dig B32 0).length ≤ _; rw [a0c]; decide
 · unfold Fm.vr
   simp only
   split
   · have := n1e (⟨g, D.m, wid f.g * D.p⟩ : Dv) (n := 3) hml (lo := -17100) (hi := 17100) (by simp only; omega) (by simp only; omega) (by omega) (by omega)
     omega
   · show (-18000 : Int) ≤ 0; decide
 · unfold Fm.vr
   simp only
   split
   · have := n1e (⟨g, D.m, wid f.g * D.p⟩ : Dv) (n := 3) hml (lo := -17100) (hi := 17100) (by simp only; omega) (by simp only; omega) (by omega) (by omega)
     omega
   · show (0 : Int) ≤ 18000; decide
theorem m0j {n : Int} {s : ByteArray} (h0 : b0m n s = 0) : VRep (fmt n) (decP n s) (refD n s) := by
 obtain ⟨hn, hs⟩ := b0l.1 h0
 have G := b0j hn
 have hd : decP n s = (fmt n).valN (a0w (fmt n) s) := by unfold decP; rw [if_pos h0]
 have he : (fmt n).exp (a0w (fmt n) s) < 2 ^ (fmt n).E := Nat.mod_lt _ (Nat.pow_pos (by omega))
 have hx : (fmt n).frac (a0w (fmt n) s) < 2 ^ (fmt n).F := Nat.mod_lt _ (Nat.pow_pos (by omega))
 have hb := u1g G ((fmt n).neg (a0w (fmt n) s)) he hx ((fmt n).neg (a0w (fmt n) s))
 have hk := a1u (fmt n) ((fmt n).neg (a0w (fmt n) s)) ((fmt n).decN (a0w (fmt n) s))
 have ho := k1e (fmt n) ((fmt n).neg (a0w (fmt n) s)) ((fmt n).decN (a0w (fmt n) s))
 rw [hd]
 exact ⟨rfl, rfl, fun _ => hk, fun h => ho h, hb.1, hb.2.1, hb.2.2⟩
/-! ### Results -/
theorem k0a {P : Program} {W : World} {l : List Nat} {b : Bool} (h : Byt l) (hb : l = [] ↔ b = false) {t : TypeId} {x y : Operand} : (do eqGuard .neq t x y (.string (a0d l)) (.string ⟨#[]⟩); binOp .neq t (.string (a0d l)) (.string ⟨#[]⟩) : Sem Value).run P W = .ok (.bool b) W :=
 l1s ((u0h h).trans hb)
structure NumV (f : Fm) (v : Vl) (r : Vr) : Prop where
 d0 : 0 < v.d
 x0 : r.x.m ≠ 0
 ng : r.x.neg = v.neg
 dec : ∀ k, decM (numP v.d (wid f.g * v.pow)) (denP 1 (wid f.g * v.pow)) k = numX r.x k
 len : (dig B32 v.d).length ≤ 3
 e : -30000 ≤ wid f.g * v.pow ∧ wid f.g * v.pow ≤ 30000
theorem i1h {n : Int} {s : ByteArray} (h0 : b0m n s = 0) (hc : (refD n s).cls = 2) : NumV (fmt n) (decP n s) (refD n s) := by
 obtain ⟨hn, hs⟩ := b0l.1 h0
 have G := b0j hn
 have V := m0j h0
 have F := (q0c (s := s) hn).ok
 have hd : decP n s = (fmt n).valN (a0w (fmt n) s) := by unfold decP; rw [if_pos h0]
 have he : (fmt n).exp (a0w (fmt n) s) < 2 ^ (fmt n).E := Nat.mod_lt _ (Nat.pow_pos (by omega))
 have hx : (fmt n).frac (a0w (fmt n) s) < 2 ^ (fmt n).F := Nat.mod_lt _ (Nat.pow_pos (by omega))
 have hm := j1y (f := fmt n) ((fmt n).neg (a0w (fmt n) s)) (e := (fmt n).exp (a0w (fmt n) s)) hx
 have hD := fun k => p1s (f := fmt n) (g := (fmt n).neg (a0w (fmt n) s)) (d := (fmt n).decN (a0w (fmt n) s)) hc k
 have hlen : (dig B32 (decP n s).d).length ≤ 3 := by
  rw [hd]
  unfold Fm.valN Fm.vl
  simp only
  split
  · exact Nat.le_trans (a0j a0a (Nat.div_le_self _ _)) (b0b hm (by have := G.f2; omega))
  · rw [a0c]; exact Nat.zero_le _
 have hd0 : 0 < (decP n s).d := by rw [hd]; exact (hD 1).2.1
 refine ⟨hd0, (hD 1).2.2, ?_, fun k => by rw [hd]; exact (hD k).1, hlen, ?_⟩
 · rw [(F.x2 hc).2, V.neg]
 · have hnum := V.num hc
   have hlo := F.lo
   have hhi := F.hi
   have hb : bare ⟨(decP n s).neg, (decP n s).d, wid (fmt n).g * (decP n s).pow⟩ = ⟨(decP n s).neg, (decP n s).d / 2 ^ tz (decP n s).d, wid (fmt n).g * (decP n s).pow + tz (decP n s).d⟩ := n0y (by omega)
   rw [← hnum, hb] at hlo hhi
   simp only at hlo hhi
   have ht : tz (decP n s).d ≤ 100 := by
    have h1 := (b0t (decP n s).d hd0).1
    have h2 : 2 ^ tz (decP n s).d ≤ (decP n s).d := by
     have h3 : 0 < (decP n s).d / 2 ^ tz (decP n s).d := Nat.pos_of_ne_zero fun h => by rw [h, Nat.mul_zero] at h1; omega
     calc 2 ^ tz (decP n s).d = 2 ^ tz (decP n s).d * 1 := (Nat.mul_one _).symm
      _ ≤ 2 ^ tz (decP n s).d * ((decP n s).d / 2 ^ tz (decP n s).d) := Nat.mul_le_mul_left _ h3
      _ = _ := h1
    have h4 := (a0u (decP n s).d (blen (decP n s).d)).1 (Nat.le_refl _)
    have h5 := c0o (decP n s).d
    have h6 : tz (decP n s).d < blen (decP n s).d := (Nat.pow_lt_pow_iff_right (by omega : 1 < 2)).1 (Nat.lt_of_le_of_lt h2 h4)
    omega
   omega
def e0o (r : Vr) (k : Nat) : List Nat := if r.cls = 2 then numT r.neg (numX r.x k).1 (numX r.x k).2 else e0l r.cls r.neg
theorem u0r {s : List Nat} (h : ∀ y ∈ s, 48 ≤ y ∧ y ≤ 57) : Byt s := fun y hy => by have := h y hy; omega
def fitE (n : Int) (a : Rin) (way : Int) : Int := if IsFm n then c0g a (fmt n).g way else 6
def fitR (n : Int) (a : Rin) (way : Int) : Vr × Nat := if a.xs.length = 0 then (⟨1, false, vz⟩, 0) else (fmt n).placedM (a0m a.g (val B32 a.xs) (val B32 a.ys) a.e (fmt n).g way) way
structure u1t (n : Int) (a : Rin) (num den : Nat) (way : Int) : Prop where
 fm : IsFm n
 wy : 1 ≤ way ∧ way ≤ 5
 r0 : c0g a (fmt n).g way = 0
 t0 : f0d a = 0
 xs : a.xs = dig B32 num
 ys : a.ys = dig B32 den
 d0 : 0 < den
 lx : (dig B32 num).length ≤ 1200
 ly : (dig B32 den).length ≤ 1200
 e : -20000 ≤ a.e ∧ a.e ≤ 20000
theorem t1q {n : Int} {a : Rin} {way : Int} (h1 : ∀ x ∈ a.xs, x < B32) (h2 : ∀ x ∈ a.ys, x < B32) (h : fitE n a way = 0) : u1t n a (val B32 a.xs) (val B32 a.ys) way := by
 unfold fitE at h
 split at h
 · rename_i hn
   have hr0 : f0d a = 0 := by
    unfold c0g at h
    by_cases h : f0d a = 0
    · exact h
    · rename_i h9; rw [if_pos h] at h9; exact absurd h9 h
   have hg0 : errG (fmt n).g = 0 := (b0j hn).g
   have hw : 1 ≤ way ∧ way ≤ 5 := by
    unfold c0g at h
    rw [hr0, hg0, if_neg (by simp), if_neg (by simp)] at h
    by_cases k : way < 1 ∨ 5 < way
    · rw [if_pos k] at h; omega
    · omega
   have hx0 : b0g a.xs = 0 ∧ b0g a.ys = 0 ∧ 0 < a.ys.length ∧ -20000 ≤ a.e ∧ a.e ≤ 20000 := by
    unfold f0d at hr0
    by_cases h1 : b0g a.xs = 0
    · rw [if_neg (by simpa using h1)] at hr0
      by_cases h2 : b0g a.ys = 0
      · rw [if_neg (by simpa using h2)] at hr0
        by_cases h3 : a.ys.length = 0 ∨ a.e < -20000 ∨ 20000 < a.e
        · rw [if_pos h3] at hr0; simp at hr0
        · exact ⟨h1, h2, by omega, by omega, by omega⟩
      · rw [if_pos h2] at hr0; exact absurd hr0 h2
    · rw [if_pos h1] at hr0; exact absurd hr0 h1
   obtain ⟨hx1, hx2, hx3, hx4⟩ := hx0
   obtain ⟨ex, lx⟩ := e0y h1 hx1
   obtain ⟨ey, ly⟩ := e0y h2 hx2
   refine ⟨hn, hw, h, hr0, ex, ey, ?_, by rw [← ex]; exact lx, by rw [← ey]; exact ly, hx4⟩
   rcases Nat.eq_zero_or_pos (val B32 a.ys) with h | h
   · rw [h, a0c] at ey; rw [ey] at hx3; simp at hx3
   · exact h
 · omega
theorem m1f (n : Int) (hn : IsFm n) : ResF (fmt n) ⟨1, false, vz⟩ := by
 have := z0n (b0j hn) false
 unfold Fm.zeroM at this
 exact this
theorem i1i (n way : Int) (u : Nat) (w : World) (U : Bt w u 181 #[.int .i64 n, .int .i64 way, .int .i64 (fmt n).g.rad, .int .i64 (fmt n).g.digs, .int .i64 (fmt n).g.lo, .int .i64 (fmt n).g.hi, .bool (fmt n).g.grad, .int .u8 (famB (fmt n)), .int .i64 0]) (hn : IsFm n) (hT : TabW w) :
 Calls Tryz.prog 59 #[.pointer (some ⟨u, 0, none⟩), .agg #[.int .i64 1, .bool false, .slice none 0 0, .int .i64 0]] w fun en w' => en = .returned (.tuple #[.string (strR n ⟨1, false, vz⟩), .int .i64 0, .int .i64 0]) ∧ Below w.heap.size w w' := by
 have := n1w n way 0 ⟨⟨1, false, 0, 0⟩, none, 0⟩ ⟨1, false, vz⟩ 0 u w U (by simp only [a0c]; exact Own.nil _ _ _ _) hn (h0q (by omega)) (m1f n hn) hT
 simp only [a0c, List.length_nil] at this
 exact this
theorem q1s (n : Int) (a : Rin) (way : Int) (w : World) (ha : InR w a) (hT : TabW w) (h0 : fitE n a way = 0) :
 Calls Tryz.prog 17 #[.int .i64 n, .agg #[.bool a.g, .slice a.p a.xs.length a.c, .slice a.q a.ys.length a.d, .int .i64 a.e], .int .i64 way] w fun en w' => en = .returned (.tuple #[.string (strR n (fitR n a way).1), .int .i64 (((fitR n a way).2 : Nat) : Int), .int .i64 0]) ∧ Below w.heap.size w w' := by
 have F := t1q ha.b1 ha.b2 h0
 have hn := F.fm
 have he : d0p n = 0 := by unfold d0p; rw [if_pos hn]
 have HG := fun W => hi0 (q0a n W)
 rw [he] at HG
 have HR := fun W h1 h2 => hi0 (w0h a (fmt n).g way W ⟨h1, ha.l1, ha.b1, h2, ha.l2, ha.b2⟩)
 rw [F.r0] at HR
 have HO := fun W => hi0 (q1q n way W hn F.wy)
 have HZ := fun W u h => hi0 (n1r (fmt n) n way 0 false u W h)
 rw [Bool.false_and] at HZ
 have HT0 := fun W u h1 h2 => hi0 (i1i n way u W h1 hn h2)
 by_cases hz : a.xs.length = 0
 · have hR : fitR n a way = (⟨1, false, vz⟩, 0) := by unfold fitR; rw [if_pos hz]
   rw [hR]
   simp only
   have r1 := ha.r1
   have r2 := ha.r2
   generalize strR n ⟨1, false, vz⟩ = s at *
   generalize k0w a (fmt n).g way = P at *
   generalize fmt n = f at *
   clear F ha hR
   have I := Inv.start w [rdF .u32 a.p a.xs, rdF .u32 a.q a.ys, tabF] ⟨r1, r2, hT, True.intro⟩
   refine a0g [.v (.int .i64 n), .v (.agg #[.bool a.g, .slice a.p a.xs.length a.c, .slice a.q a.ys.length a.d, .int .i64 a.e]), .v (.int .i64 way)] I Tryz.func17 ?_
   refine zq I (fun Al W I => (HG W).out) fun Al W I => zg I (fun Al W I => (HR W I.fa.1 I.fa.2.1).out) fun Al V Iv _ hB _ kz => ?_
   rintro _ W ⟨p27, c27, rfl, -, hb⟩
   refine ⟨_, rfl, kz _ _ hb fun I => ?_⟩
   refine zg I (fun Al W I => (HO W).out) fun Al V Iv _ hB _ kz => ?_
   rintro _ W ⟨u36, rfl, hge, hB, hb⟩
   refine ⟨_, rfl, kz _ _ hb fun I => ?_⟩
   refine s1i Iv hb 3 u36 181 [(.int .i64 n), (.int .i64 way), (.int .i64 f.g.rad), (.int .i64 f.g.digs), (.int .i64 f.g.lo), (.int .i64 f.g.hi), (.bool f.g.grad), (.int .u8 (famB f)), (.int .i64 0)] hge hB fun Al hAl_36 I => ?_
   refine s1j I 37 3 u36 hAl_36 fun Al W I => zb I 42 ((a.xs.length : Int) == 0) (true) (beq_iff_eq.2 (by omega)) fun Al W I => zq I (fun Al W I => (HZ W _ (I.box 3 181 _)).out) fun Al W I => zq I (fun Al W I => (HT0 W _ (I.box 3 181 _) I.fa.2.2.1).out) fun Al W I => zrb I
 · have hxs : a.xs = dig B32 (val B32 a.xs) := F.xs
   have hn0 : 0 < val B32 a.xs := by
    rcases Nat.eq_zero_or_pos (val B32 a.xs) with h | h
    · rw [h, a0c] at hxs; rw [hxs] at hz; simp at hz
    · exact h
   have HF := fun W u h1 h2 h3 => hi0 (u1s (fmt n) n way a.g a.p a.q a.c a.d (val B32 a.xs) (val B32 a.ys) a.e u W h1 h2 h3 (by have := F.lx; omega) (by have := F.ly; omega) hn0 F.d0 (by have := F.e; omega) (b0j hn) F.wy)
   have hR : fitR n a way = (fmt n).placedM (a0m a.g (val B32 a.xs) (val B32 a.ys) a.e (fmt n).g way) way := by unfold fitR; rw [if_neg hz]
   have PA := j0z (b0j hn) (neg := a.g) (num := val B32 a.xs) (den := val B32 a.ys) (e := a.e) (way := way) F.d0
   rw [← F.xs, ← F.ys, ← hR] at HF
   rw [← hR] at PA
   have HT := fun W v p c base fl u h1 h2 h3 h4 => hi0 (n1w n way fl ⟨v, p, c⟩ (fitR n a way).1 base u W h1 h2 hn h3 PA.1 h4)
   have hV := PA.2
   have hs : strR n (fitR n a way).1 = a0d ((fmt n).strP ((fmt n).encP (fitR n a way).1.cls (fitR n a way).1.neg (fitR n a way).1.x)) := rfl
   rw [← hs] at HT
   have r1 := ha.r1
   have r2 := ha.r2
   clear hs PA hR F ha
   generalize strR n (fitR n a way).1 = s at *
   generalize (fitR n a way).2 = fl at *
   generalize (fitR n a way).1 = r at *
   generalize (fmt n).placedV (a0m a.g (val B32 a.xs) (val B32 a.ys) a.e (fmt n).g way) way = v at *
   generalize k0w a (fmt n).g way = P at *
   generalize fmt n = f at *
   have I := Inv.start w [rdF .u32 a.p a.xs, rdF .u32 a.q a.ys, tabF] ⟨r1, r2, hT, True.intro⟩
   refine a0g [.v (.int .i64 n), .v (.agg #[.bool a.g, .slice a.p a.xs.length a.c, .slice a.q a.ys.length a.d, .int .i64 a.e]), .v (.int .i64 way)] I Tryz.func17 ?_
   refine zq I (fun Al W I => (HG W).out) fun Al W I => zg I (fun Al W I => (HR W I.fa.1 I.fa.2.1).out) fun Al V Iv _ hB _ kz => ?_
   rintro _ W ⟨p27, c27, rfl, -, hb⟩
   refine ⟨_, rfl, kz _ _ hb fun I => ?_⟩
   refine zg I (fun Al W I => (HO W).out) fun Al V Iv _ hB _ kz => ?_
   rintro _ W ⟨u36, rfl, hge, hB, hb⟩
   refine ⟨_, rfl, kz _ _ hb fun I => ?_⟩
   refine s1i Iv hb 3 u36 181 [(.int .i64 n), (.int .i64 way), (.int .i64 f.g.rad), (.int .i64 f.g.digs), (.int .i64 f.g.lo), (.int .i64 f.g.hi), (.bool f.g.grad), (.int .u8 (famB f)), (.int .i64 0)] hge hB fun Al hAl_36 I => ?_
   refine s1j I 37 3 u36 hAl_36 fun Al W I => zb I 42 ((a.xs.length : Int) == 0) (false) (bFn (by omega)) fun Al W I => zge I 3 181 (fun Al W I => (HF W _ (I.box 3 181 _) I.fa.1 I.fa.2.1).out) fun Al V Iv _ _ kz => ?_
   rintro _ W ⟨p53, c53, rfl, o53, hO, hB⟩
   refine ⟨_, rfl, kz _ (uS f n way (fl : Int)) _ hO hB fun I => ?_⟩
   have I := I.own o53
   refine zq I (fun Al W I => (HT W v p53 c53 _ (fl : Int) _ (I.box 3 181 _) I.fa.1 hV I.fa.2.2.2.1).out) fun Al W I => zrb I
theorem m1g (n : Int) (a : Rin) (way : Int) (w : World) (ha : InR w a) (hT : TabW w) (h0 : fitE n a way ≠ 0) :
 Calls Tryz.prog 17 #[.int .i64 n, .agg #[.bool a.g, .slice a.p a.xs.length a.c, .slice a.q a.ys.length a.d, .int .i64 a.e], .int .i64 way] w fun en w' => en = .returned (.tuple #[.string (a0d []), .int .i64 0, .int .i64 (fitE n a way)]) ∧ Below w.heap.size w w' := by
 have HG := fun W => hi0 (q0a n W)
 have r1 := ha.r1
 have r2 := ha.r2
 by_cases hn : IsFm n
 · have he : d0p n = 0 := by unfold d0p; rw [if_pos hn]
   rw [he] at HG
   have hE : fitE n a way = c0g a (fmt n).g way := by unfold fitE; rw [if_pos hn]
   rw [hE] at h0 ⊢
   have HR := fun W h1 h2 => hi0 (w0h a (fmt n).g way W ⟨h1, ha.l1, ha.b1, h2, ha.l2, ha.b2⟩)
   generalize c0g a (fmt n).g way = er at *
   generalize k0w a (fmt n).g way = P at *
   generalize fmt n = f at *
   have I := Inv.start w [rdF .u32 a.p a.xs, rdF .u32 a.q a.ys, tabF] ⟨r1, r2, hT, True.intro⟩
   refine a0g [.v (.int .i64 n), .v (.agg #[.bool a.g, .slice a.p a.xs.length a.c, .slice a.q a.ys.length a.d, .int .i64 a.e]), .v (.int .i64 way)] I Tryz.func17 ?_
   refine zq I (fun Al W I => (HG W).out) fun Al W I => zg I (fun Al W I => (HR W I.fa.1 I.fa.2.1).out) fun Al V Iv _ hB _ kz => ?_
   rintro _ W ⟨p27, c27, rfl, -, hb⟩
   refine ⟨_, rfl, kz _ _ hb fun I => ?_⟩
   refine zb I 31 (er != 0) (true) (bne_iff_ne.2 h0) fun Al W I => zrb I
 · have he : d0p n = 6 := by unfold d0p; rw [if_neg hn]
   rw [he] at HG
   have hE : fitE n a way = 6 := by unfold fitE; rw [if_neg hn]
   rw [hE]
   generalize fmt n = f at *
   have I := Inv.start w [] True.intro
   refine a0g [.v (.int .i64 n), .v (.agg #[.bool a.g, .slice a.p a.xs.length a.c, .slice a.q a.ys.length a.d, .int .i64 a.e]), .v (.int .i64 way)] I Tryz.func17 ?_
   refine zq I (fun Al W I => (HG W).out) fun Al W I => zrb I
theorem q1t {f : Fm} (G : d0h f) {r : Vr} (R : ResF f r) : CanF f r.cls r.neg r.x :=
 ⟨R.c, R.c1, fun h => ⟨f1y G (R.c2 h).1 (R.c2 h).2.2.1, (R.c2 h).2.1, (R.c2 h).2.2.1, (R.c2 h).2.2.2⟩, R.c3, R.c4, R.c5⟩
theorem b1o {n : Int} (hn : IsFm n) {r : Vr} (R : ResF (fmt n) r) : b0m n (strR n r) = 0 ∧ refD n (strR n r) = r := by
 have G := b0j hn
 have C := q1t G R
 have hlt := p1h G (cls := r.cls) (g := r.neg) (d := r.x) (fun h => (C.c2 h).1)
 have hs : (strR n r).size = (fmt n).size := by unfold strR; rw [a0k]; exact p1g _ _ _ _
 refine ⟨b0l.2 ⟨hn, hs⟩, ?_⟩
 have hv := p1j G C
 obtain ⟨q1, q2, q3⟩ := f1x (f := fmt n) (neg := ((fmt n).encP r.cls r.neg r.x).neg) hlt.1 hlt.2
 unfold refD Fm.refN Fm.decN strR Fm.strP
 rw [z0m G hlt.1 hlt.2, q1, q2, q3, hv]
 by_cases h2 : r.cls = 2
 · rw [if_pos h2]
 · rw [if_neg h2, show (⟨false, 0, 0⟩ : Dv) = r.x from (R.x0 h2).symm]
theorem i1j {l : List Nat} (h : errT l.length (numl l) = 0) : z0c (ratL l) := by
 unfold errT at h
 by_cases h1 : 400 < l.length
 · rw [if_pos h1] at h; cases h
 · rw [if_neg h1] at h
   cases hn : numl l with
   | none => rw [hn] at h; cases h
   | some q =>
    rw [hn] at h
    by_cases h2 : q.pow < -6000 ∨ 6000 < q.pow
    · have h : (if q.pow < -6000 ∨ 6000 < q.pow then (3 : Int) else 0) = 0 := h
      rw [if_pos h2] at h; cases h
    · rw [(b1j h1 hn h2).2]
      have hd := p0x hn
      exact h1h hd.1 (by omega) (by omega)
def fitQ (n : Int) (R : Bool × Nat × Nat × Int) (way : Int) : Vr × Nat := if R.2.1 = 0 then (⟨1, false, vz⟩, 0) else (fmt n).placedM (a0m R.1 R.2.1 R.2.2.1 R.2.2.2 (fmt n).g way) way
def errQ (n way : Int) : Int := if IsFm n then (if 1 ≤ way ∧ way ≤ 5 then 0 else 6) else 6
def outQ (n way : Int) (R : Bool × Nat × Nat × Int) : ByteArray := if errQ n way = 0 then strR n (fitQ n R way).1 else a0d []
def flQ (n way : Int) (R : Bool × Nat × Nat × Int) : Nat := if errQ n way = 0 then (fitQ n R way).2 else 0
theorem b1p (n way : Int) (R : Bool × Nat × Nat × Int) (p q : OA) (c d b1 b2 : Nat) (w : World) (hp : Own w b1 .u32 101 p c (dig B32 R.2.1)) (hq : Own w b2 .u32 101 q d (dig B32 R.2.2.1)) (hR : z0c R) (hT : TabW w) :
 Calls Tryz.prog 17 #[.int .i64 n, .agg #[.bool R.1, .slice p (dig B32 R.2.1).length c, .slice q (dig B32 R.2.2.1).length d, .int .i64 R.2.2.2], .int .i64 way] w fun en w' => en = .returned (.tuple #[.string (outQ n way R), .int .i64 ((flQ n way R : Nat) : Int), .int .i64 (errQ n way)]) ∧ Below w.heap.size w w' := by
 obtain ⟨hd0, hln, hld, he⟩ := hR
 have ha : InR w ⟨R.1, p, c, dig B32 R.2.1, q, d, dig B32 R.2.2.1, R.2.2.2⟩ := ⟨hp.rd, by show (dig B32 R.2.1).length ≤ _; omega, b0d a0a _, hq.rd, by show (dig B32 R.2.2.1).length ≤ _; omega, b0d a0a _⟩
 have hzl := a0f a0a R.2.1
 have hyl := a0f a0a R.2.2.1
 have eF : fitR n ⟨R.1, p, c, dig B32 R.2.1, q, d, dig B32 R.2.2.1, R.2.2.2⟩ way = fitQ n R way := by
  unfold fitR fitQ
  simp only [b0a a0a]
  by_cases h : R.2.1 = 0
  · rw [if_pos h, if_pos (hzl.2 h)]
  · rw [if_neg h, if_neg (fun k => h (hzl.1 k))]
 have eE : fitE n ⟨R.1, p, c, dig B32 R.2.1, q, d, dig B32 R.2.2.1, R.2.2.2⟩ way = errQ n way := by
  unfold fitE errQ
  by_cases hn : IsFm n
  · rw [if_pos hn, if_pos hn]
    have h1 : f0d ⟨R.1, p, c, dig B32 R.2.1, q, d, dig B32 R.2.2.1, R.2.2.2⟩ = 0 := by
     unfold f0d
     simp only [Go.Slip.q0w, if_neg (show ¬ 1200 < (dig B32 R.2.1).length by omega), if_neg (show ¬ 1200 < (dig B32 R.2.2.1).length by omega)]
     rw [if_neg (by simp), if_neg (by simp), if_neg (by omega)]
    unfold c0g
    rw [h1, (b0j hn).g, if_neg (by simp), if_neg (by simp)]
    by_cases hw : 1 ≤ way ∧ way ≤ 5
    · rw [if_neg (by omega), if_pos hw]
    · rw [if_pos (by omega), if_neg hw]
  · rw [if_neg hn, if_neg hn]
 by_cases h0 : errQ n way = 0
 · have := q1s n _ way w ha hT (by rw [eE]; exact h0)
   rw [eF] at this
   unfold outQ flQ
   rw [if_pos h0, if_pos h0, h0]
   exact this
 · have := m1g n _ way w ha hT (by rw [eE]; exact h0)
   rw [eE] at this
   unfold outQ flQ
   rw [if_neg h0, if_neg h0]
   exact this
def d0e (n way : Int) (l : List Nat) : Int := if IsFm n then (if errT l.length (numl l) = 0 then errQ n way else errT l.length (numl l)) else 6
def outP (n way : Int) (l : List Nat) : ByteArray := if d0e n way l = 0 then strR n (fitQ n (ratL l) way).1 else a0d []
def flP' (n way : Int) (l : List Nat) : Nat := if d0e n way l = 0 then (fitQ n (ratL l) way).2 else 0
theorem d1m (n : Int) (t : ByteArray) (way : Int) (w : World) (hT : TabW w) : Calls Tryz.prog 34 #[.int .i64 n, .string t, .int .i64 way] w fun en w' => en = .returned (.tuple #[.string (outP n way (a0b t)), .int .i64 ((flP' n way (a0b t) : Nat) : Int), .int .i64 (d0e n way (a0b t))]) ∧ Below w.heap.size w w' := by
 have HS := fun W => hi0 (l1f n W)
 have HR := fun W h => hi0 (x0a t W h)
 have hok := @i1j (a0b t)
 have HF := fun p q c d b1 b2 W h1 h2 h3 h4 => hi0 (b1p n way (ratL (a0b t)) p q c d b1 b2 W h1 h2 h3 h4)
 have e1 : d0p n ≠ 0 → d0e n way (a0b t) = d0p n ∧ outP n way (a0b t) = a0d [] ∧ flP' n way (a0b t) = 0 := fun h => by
  have hn : ¬ IsFm n := fun k => h (by unfold d0p; rw [if_pos k])
  have h1 : d0e n way (a0b t) = 6 := by unfold d0e; rw [if_neg hn]
  have h2 : d0p n = 6 := by unfold d0p; rw [if_neg hn]
  unfold outP flP'
  rw [h1, h2]
  exact ⟨rfl, rfl, rfl⟩
 have e2 : d0p n = 0 → errT (a0b t).length (numl (a0b t)) ≠ 0 → d0e n way (a0b t) = errT (a0b t).length (numl (a0b t)) ∧ outP n way (a0b t) = a0d [] ∧ flP' n way (a0b t) = 0 := fun h h' => by
  have hn : IsFm n := by unfold d0p at h; split at h; assumption; omega
  have h1 : d0e n way (a0b t) = errT (a0b t).length (numl (a0b t)) := by unfold d0e; rw [if_pos hn, if_neg h']
  unfold outP flP'
  rw [h1, if_neg h', if_neg h']
  exact ⟨rfl, rfl, rfl⟩
 have e3 : d0p n = 0 → errT (a0b t).length (numl (a0b t)) = 0 → d0e n way (a0b t) = errQ n way ∧ outP n way (a0b t) = outQ n way (ratL (a0b t)) ∧ flP' n way (a0b t) = flQ n way (ratL (a0b t)) := fun h h' => by
  have hn : IsFm n := by unfold d0p at h; split at h; assumption; omega
  have h1 : d0e n way (a0b t) = errQ n way := by unfold d0e; rw [if_pos hn, if_pos h']
  unfold outP flP' outQ flQ
  rw [h1]
  exact ⟨rfl, rfl, rfl⟩
 generalize d0e n way (a0b t) = ep at *
 generalize outP n way (a0b t) = op at *
 generalize flP' n way (a0b t) = fp at *
 generalize errT (a0b t).length (numl (a0b t)) = er at *
 generalize outQ n way (ratL (a0b t)) = oq at *
 generalize flQ n way (ratL (a0b t)) = fq at *
 generalize errQ n way = eq at *
 generalize ratL (a0b t) = R at *
 generalize (fmt n).size = sz at *
 generalize d0p n = ef at *
 have I := Inv.start w [tabF] ⟨hT, True.intro⟩
 refine a0g [.v (.int .i64 n), .v (.string t), .v (.int .i64 way)] I Tryz.func34 ?_
 refine zq I (fun Al W I => (HS W).out) fun Al W I => ?_
 rcases bTF (ef != 0) with f19 | f19
 · refine zb I 19 (ef != 0) (true) (f19) fun Al W I => zret I (v := fun Al => .tuple #[Go.Value.string (ByteArray.mk #[]), vI 0, vI ef]) fun Al W I => ?_
   (obtain ⟨h1, h2, h3⟩ := e1 (by simpa using f19); rw [h1, h2, h3]; exact ⟨rfl, I.below⟩)
 refine zb I 19 (ef != 0) (false) (f19) fun Al W I => zg I (fun Al W I => (HR W I.fa.1).out) fun Al V Iv _ hB _ kz => ?_
 rintro _ W ⟨p23, c23, q23, d23, rfl, o23, r23, hb⟩
 refine ⟨_, rfl, kz _ _ hb fun I => ?_⟩
 have I := I.own o23
 have I := I.own r23
 rcases bTF (er != 0) with f27 | f27
 · refine zb I 27 (er != 0) (true) (f27) fun Al W I => zret I (v := fun Al => .tuple #[Go.Value.string (ByteArray.mk #[]), vI 0, vI er]) fun Al W I => ?_
   first | (obtain ⟨h1, h2, h3⟩ := e1 (by simpa using f19); rw [h1, h2, h3]; exact ⟨rfl, I.below⟩) | (obtain ⟨h1, h2, h3⟩ := e2 (by simpa using f19) (by simpa using f27); rw [h1, h2, h3]; exact ⟨rfl, I.below⟩) | (obtain ⟨h1, h2, h3⟩ := e3 (by simpa using f19) (by simpa using f27); rw [h1, h2, h3]; exact ⟨rfl, I.below⟩)
 refine zb I 27 (er != 0) (false) (f27) fun Al W I => zq I (fun Al W I => (HF p23 q23 c23 d23 _ _ W I.fa.2.1 I.fa.1 (hok (by simpa using f27)) I.fa.2.2.1).out) fun Al W I => zret I (v := fun Al => .tuple #[.string oq, vI (fq : Int), vI eq]) fun Al W I => ?_
 first | (obtain ⟨h1, h2, h3⟩ := e1 (by simpa using f19); rw [h1, h2, h3]; exact ⟨rfl, I.below⟩) | (obtain ⟨h1, h2, h3⟩ := e2 (by simpa using f19) (by simpa using f27); rw [h1, h2, h3]; exact ⟨rfl, I.below⟩) | (obtain ⟨h1, h2, h3⟩ := e3 (by simpa using f19) (by simpa using f27); rw [h1, h2, h3]; exact ⟨rfl, I.below⟩)
theorem m1h {g : Bool} {s : List Nat} {p : Int} (h : Byt s) : Byt (numT g s p) := by
 unfold numT
 refine Byt.append ?_ (Byt.append (h.take 1) (Byt.append ?_ fun y hy => ?_))
 · intro y hy; cases g <;> simp at hy; omega
 · intro y hy
   split at hy
   · rcases List.mem_cons.1 hy with h1 | h1
     · omega
     · exact h.drop 1 y h1
   · cases hy
 · rcases List.mem_cons.1 hy with h1 | h1
   · omega
   · exact i1b p y h1
theorem m1i {g : Bool} {s : List Nat} {p : Int} (hp : -100000 < p ∧ p < 100000) (h0 : 1 ≤ s.length) : (numT g s p).length ≤ s.length + 10 := by
 have hil : (e0m p).length ≤ 6 := by
  have h : (a0t p.natAbs).length ≤ 5 := (b0e _ 5 (by omega)).2 (by omega)
  unfold e0m
  split
  · rw [List.length_cons, show (-p).toNat = p.natAbs by omega]; omega
  · rw [show p.toNat = p.natAbs by omega]; omega
 unfold numT
 have h1 : (if g = true then [45] else [] : List Nat).length ≤ 1 := by cases g <;> simp
 have h2 : (if 1 < s.length then 46 :: s.drop 1 else [] : List Nat).length ≤ s.length := by split <;> simp; omega
 rw [List.length_append, List.length_append, List.length_append, List.length_cons, List.length_take]
 omega
theorem q0d {n : Int} {r : Vr} {k : Nat} (hn : IsFm n) (h0 : r.x.m ≠ 0) (F : VrOk r) (hin : a0p r.x (fmt n).g = true) (hk : 1 ≤ k ∧ k ≤ 60) :
 errT (a0b (a0d (numT r.x.neg (numX r.x k).1 (numX r.x k).2))).length (numl (a0b (a0d (numT r.x.neg (numX r.x k).1 (numX r.x k).2)))) = 0 ∧ ratL (a0b (a0d (numT r.x.neg (numX r.x k).1 (numX r.x k).2))) = ratX r.x k := by
 have A := j0u (k := k) h0 F.len hk.1
 have B := p1t (k := k) (b0j hn).g h0 F.len hin hk.1
 rw [a0v (m1h (u0r A.2.1))]
 have hl := m1i (g := r.x.neg) (s := (numX r.x k).1) (p := (numX r.x k).2) (by omega) (by omega)
 have hN := g1b (neg := r.x.neg) A.1 hk.1 A.2.1 (show -100000 < (numX r.x k).2 ∧ (numX r.x k).2 < 100000 by omega)
 unfold ratX
 generalize numX r.x k = q at *
 generalize numT r.x.neg q.1 q.2 = L at *
 exact b1j (by omega) hN (by simp only; omega)
theorem z0p {n : Int} {r : Vr} {k : Nat} (hn : IsFm n) (h0 : r.x.m ≠ 0) (F : VrOk r) (hin : a0p r.x (fmt n).g = true) (hk : 1 ≤ k ∧ k ≤ 60) : z0c (ratX r.x k) ∧ 0 < (ratX r.x k).2.1 ∧ (ratX r.x k).1 = r.x.neg := by
 have h := q0d hn h0 F hin hk
 have A := j0u (k := k) h0 F.len hk.1
 have hq : z0c (ratX r.x k) := h.2 ▸ i1j h.1
 clear h
 unfold ratX at *
 obtain ⟨g, num, den, e, hr⟩ : ∃ g num den e, f0o ⟨r.x.neg, (numX r.x k).1, (numX r.x k).2 - ((k - 1 : Nat) : Int)⟩ = (g, num, den, e) := ⟨_, _, _, _, rfl⟩
 obtain ⟨a1, a2, _, _⟩ := v0s (by simp only; omega) hr
 rw [hr] at hq ⊢
 exact ⟨hq, a2, a1⟩
theorem x0g {n : Int} {r : Vr} {k : Nat} (hn : IsFm n) (h0 : r.x.m ≠ 0) (F : VrOk r) (hin : a0p r.x (fmt n).g = true) (hk : 1 ≤ k ∧ k ≤ 60) : ResF (fmt n) (b0v (fmt n) r.x k) ∧ (fitQ n (ratX r.x k) 1).1 = b0v (fmt n) r.x k := by
 have R := z0p hn h0 F hin hk
 have hf : (fitQ n (ratX r.x k) 1).1 = b0v (fmt n) r.x k := by
  unfold fitQ
  rw [if_neg (by have := R.2.1; omega)]
  rfl
 exact ⟨(j0z (b0j hn) R.1.d0).1, hf⟩
theorem b1q {n : Int} {s : ByteArray} (h0 : b0m n s = 0) : decP n s = (fmt n).toV (refD n s) := by
 obtain ⟨hn, hs⟩ := b0l.1 h0
 have he : (fmt n).exp (a0w (fmt n) s) < 2 ^ (fmt n).E := Nat.mod_lt _ (Nat.pow_pos (by omega))
 have hp := p1f (b0j hn) ((fmt n).neg (a0w (fmt n) s)) (frac := (fmt n).frac (a0w (fmt n) s)) he
 unfold decP
 rw [if_pos h0]
 exact (j1z _ _ ((fmt n).decN (a0w (fmt n) s)) (by unfold Fm.decN; omega) (by unfold Fm.decN; omega)).symm
theorem m1j {n : Int} {s t : ByteArray} (h1 : b0m n s = 0) (h2 : b0m n t = 0) (hc : (refD n s).cls = 2) (hc2 : (refD n t).cls = 2 → (refD n t).x.neg = (refD n t).neg) :
 decide ((decP n s).cls = (decP n t).cls ∧ (decP n s).neg = (decP n t).neg ∧ (decP n s).pow = (decP n t).pow ∧ (decP n s).d = (decP n t).d) =
  decide ((refD n t).cls = 2 ∧ (refD n t).x.neg = (refD n s).x.neg ∧ (refD n t).x.m = (refD n s).x.m ∧ (refD n t).x.e = (refD n s).x.e) := by
 have V := m0j h1
 have U := m0j h2
 have F := (q0c (s := s) (b0l.1 h1).1).ok
 rw [decide_eq_decide]
 constructor
 · rintro ⟨q1, q2, q3, q4⟩
   have k2 : (refD n t).cls = 2 := by rw [← U.cls, ← q1, V.cls]; exact hc
   have := U.num k2
   rw [← q2, ← q3, ← q4, V.num hc] at this
   exact ⟨k2, by rw [this], by rw [this], by rw [this]⟩
 · rintro ⟨q1, q2, q3, q4⟩
   have hx : (refD n t).x = (refD n s).x := by
    cases hq : (refD n t).x; cases hq' : (refD n s).x
    rw [hq, hq'] at q2 q3 q4
    simp only at q2 q3 q4
    rw [q2, q3, q4]
   have hr : refD n t = refD n s := by
    have hng : (refD n t).neg = (refD n s).neg := by rw [← hc2 q1, ← (F.x2 hc).2, hx]
    cases hq : refD n t; cases hq' : refD n s
    rw [hq, hq'] at hx hng
    rw [hq] at q1
    rw [hq'] at hc
    simp only at hx hng q1 hc
    rw [hx, hng, q1, hc]
   rw [b1q h1, b1q h2, hr]
   exact ⟨rfl, rfl, rfl, rfl⟩
theorem bad1 {x o u g : Bool} (h : (!x) = true) : true = !(x && (!o && (!u || g))) := by revert h; cases x <;> simp
theorem bad2 {x o u g : Bool} (h : o = true) : true = !(x && (!o && (!u || g))) := by subst h; cases x <;> simp
theorem bad3 {x o u g : Bool} (h : (!x) = false) (h2 : o = false) (h3 : u = false) : false = !(x && (!o && (!u || g))) := by subst h2 h3; revert h; cases x <;> simp
theorem bad4 {x o u g : Bool} (h : (!x) = false) (h2 : o = false) (h3 : u = true) : (!g) = !(x && (!o && (!u || g))) := by subst h2 h3; revert h; cases x <;> simp
structure x0h (n : Int) (v : Vl) (r : Vr) (k : Nat) : Prop where
 er : errT (a0b (a0d (numT v.neg (numX r.x k).1 (numX r.x k).2))).length (numl (a0b (a0d (numT v.neg (numX r.x k).1 (numX r.x k).2)))) = 0
 rt : ratL (a0b (a0d (numT v.neg (numX r.x k).1 (numX r.x k).2))) = ratX r.x k
 ok : z0c (ratX r.x k)
 out : outQ n 1 (ratX r.x k) = strR n (b0v (fmt n) r.x k)
 eq : errQ n 1 = 0
 pat : b0m n (strR n (b0v (fmt n) r.x k)) = 0
 ref : refD n (strR n (b0v (fmt n) r.x k)) = b0v (fmt n) r.x k
 same : decide (v.cls = (decP n (strR n (b0v (fmt n) r.x k))).cls ∧ v.neg = (decP n (strR n (b0v (fmt n) r.x k))).neg ∧ v.pow = (decP n (strR n (b0v (fmt n) r.x k))).pow ∧ v.d = (decP n (strR n (b0v (fmt n) r.x k))).d) = okX (fmt n) r.x k
 len : (dig B32 (decP n (strR n (b0v (fmt n) r.x k))).d).length ≤ 1000
theorem t1r {n : Int} {s : ByteArray} {k : Nat} (h0 : b0m n s = 0) (hc : (refD n s).cls = 2) (hin : a0p (refD n s).x (fmt n).g = true) (hk : 1 ≤ k ∧ k ≤ 60) : x0h n (decP n s) (refD n s) k := by
 have hn := (b0l.1 h0).1
 have F := (q0c (s := s) hn).ok
 have N := i1h h0 hc
 have A := q0d hn N.x0 F hin hk
 have B := z0p hn N.x0 F hin hk
 have C := x0g hn N.x0 F hin hk
 have D := b1o hn C.1
 have eQ : errQ n 1 = 0 := by unfold errQ; rw [if_pos hn, if_pos (by omega)]
 rw [N.ng] at A
 have hs := m1j h0 D.1 hc (fun h => by rw [D.2] at h ⊢; exact (C.1.c2 h).2.2.2)
 rw [D.2] at hs
 exact ⟨A.1, A.2, B.1, by unfold outQ; rw [if_pos eQ, C.2], eQ, D.1, D.2, hs, (m0j D.1).len⟩
def k0k (f : Fm) (r : Vr) : List Nat := if r.cls = 2 then numT r.neg (numX r.x (f0f f r.x)).1 (numX r.x (f0f f r.x)).2 else e0l r.cls r.neg
def b0h (n : Int) (s : ByteArray) : Int := if b0m n s = 0 then (if (refD n s).cls = 2 ∧ a0p (refD n s).x (fmt n).g = false then 4 else 0) else b0m n s
def b0x (n : Int) (s : ByteArray) : ByteArray := if b0h n s = 0 then a0d (k0k (fmt n) (refD n s)) else a0d []
theorem n0s (n : Int) (s : ByteArray) (w : World) (hT : TabW w) (hP : PowW w) : Calls Tryz.prog 4 #[.int .i64 n, .string s] w fun en w' => en = .returned (.tuple #[.string (b0x n s), .int .i64 (b0h n s)]) ∧ Below w.heap.size w w' := by
 have HD := fun W h => hi0 (r0s n s W h)
 have e1 : b0m n s ≠ 0 → b0h n s = b0m n s ∧ b0x n s = a0d [] := fun h => by
  have h1 : b0h n s = b0m n s := by unfold b0h; rw [if_neg h]
  unfold b0x
  rw [h1, if_neg h]
  exact ⟨rfl, rfl⟩
 have e2 : b0m n s = 0 → (refD n s).cls = 2 → a0p (refD n s).x (fmt n).g = false → b0h n s = 4 ∧ b0x n s = a0d [] := fun h h' h'' => by
  have h1 : b0h n s = 4 := by unfold b0h; rw [if_pos h, if_pos ⟨h', h''⟩]
  unfold b0x
  rw [h1]
  exact ⟨rfl, rfl⟩
 have e3 : b0m n s = 0 → ((refD n s).cls = 2 → a0p (refD n s).x (fmt n).g = true) → b0h n s = 0 ∧ b0x n s = a0d (k0k (fmt n) (refD n s)) := fun h h' => by
  have h1 : b0h n s = 0 := by unfold b0h; rw [if_pos h, if_neg (fun k => by have := h' k.1; rw [k.2] at this; cases this)]
  unfold b0x
  rw [h1]
  exact ⟨rfl, rfl⟩
 have hV := fun h => m0j (n := n) (s := s) h
 have hF : b0m n s = 0 → VrOk (refD n s) := fun h => (q0c (n := n) (s := s) (b0l.1 h).1).ok
 have hN := fun h h2 => i1h (n := n) (s := s) h h2
 have hG : b0m n s = 0 → e0j (fmt n).g := fun h => b0o (b0j (b0l.1 h).1).g
 have hB := fun (h : b0m n s = 0) h2 h3 k hk => t1r (k := k) h h2 h3 hk
 have hS : b0m n s = 0 → (refD n s).cls = 2 → a0p (refD n s).x (fmt n).g = true → _ := fun h h2 h3 => p0p (f := fmt n) (x := (refD n s).x) (b0j (b0l.1 h).1).g (h1j (b0l.1 h).1) (hF h).bare h3 (hN h h2).x0
 unfold k0k at e3
 generalize refD n s = r at *
 generalize decP n s = v at *
 generalize b0h n s = eo at *
 generalize b0x n s = oo at *
 generalize b0m n s = er at *
 have HGr := fun W => hi0 (b1b n W)
 have HW := fun p c b W (h : Own W b .u32 101 p c (dig B32 v.d)) (h2 : 1 ≤ v.cls ∧ v.cls ≤ 5) h3 => hi0 (m1a v p c b W h h2 h3)
 have HV := fun p c b W (h : Own W b .u32 101 p c (dig B32 v.d)) h2 => hi0 (d1h n v p c b W h h2)
 have HFt := fun (N : NumV (fmt n) v r) (G : e0j (fmt n).g) p q c d W h1 h2 => hi0 (x0f v.neg p q c d v.d 1 (wid (fmt n).g * v.pow) (fmt n).g 1 W h1 h2 (by have := N.len; omega) (Nat.le_trans ((a0h a0a 1 1).2 (by decide)) (by omega)) N.d0 (by omega) (by have := N.e; omega) G (by omega) (by omega))
 have hX := fun (N : NumV (fmt n) v r) (G : e0j (fmt n).g) => c1y (s := v.neg) (e := wid (fmt n).g * v.pow) (way := 1) N.d0 G
 have hbx : er = 0 → r.cls = 2 → bare ⟨v.neg, v.d, wid (fmt n).g * v.pow⟩ = r.x := fun h h2 => (hV h).num h2
 have HDc := fun (N : NumV (fmt n) v r) (k : Nat) (hk : 1 ≤ k ∧ k ≤ 60) p q a b b1 b2 W (h1 : Own W b1 .u32 101 p a (dig B32 v.d)) (h2 : Own W b2 .u32 101 q b (dig B32 1)) => hi0 (by
   have h := x0b v.neg v.d (wid (fmt n).g * v.pow) k p q a b b1 b2 W h1 h2 N.d0 (by have := N.len; omega) N.e (by omega)
   rw [N.dec] at h
   exact h : Calls Tryz.prog 14 #[.agg #[.bool v.neg, .slice p (dig B32 v.d).length a, .slice q (dig B32 1).length b, .int .i64 (wid (fmt n).g * v.pow)], .int .i64 (k : Int)] W fun en w' => en = .returned (.tuple #[.string (a0d (numX r.x k).1), .int .i64 (numX r.x k).2]) ∧ Below W.heap.size W w')
 have HNu := fun (F : VrOk r) (N : NumV (fmt n) v r) (k : Nat) (hk : 1 ≤ k ∧ k ≤ 60) W (h : PowW W) => hi0 (by
   have A := j0u (k := k) N.x0 F.len (by omega)
   have B := b1c (k := k) N.x0 F.len ⟨F.lo, F.hi⟩ (by omega)
   exact u0k v.neg (numX r.x k).1 (numX r.x k).2 W (u0r A.2.1) (fun h => by have := A.1; rw [h, List.length_nil] at this; omega) (by omega) (by omega) h)
 have HRa := fun (k : Nat) (B : x0h n v r k) W h => hi0 (by
   have h := x0a (a0d (numT v.neg (numX r.x k).1 (numX r.x k).2)) W h
   rw [B.er, B.rt] at h
   exact h : Calls Tryz.prog 16 #[.string (a0d (numT v.neg (numX r.x k).1 (numX r.x k).2))] W (o0a W 0 (ratX r.x k)))
 have HFq := fun (k : Nat) (B : x0h n v r k) p q c d b1 b2 W h1 h2 h3 => hi0 (by
   have h := b1p n 1 (ratX r.x k) p q c d b1 b2 W h1 h2 B.ok h3
   rw [B.out, B.eq] at h
   exact h)
 have HD2 := fun (k : Nat) (B : x0h n v r k) W h => hi0 (by
   have h := r0s n (strR n (b0v (fmt n) r.x k)) W h
   rw [B.pat] at h
   exact h)
 have HSa := fun (N : NumV (fmt n) v r) (k : Nat) (B : x0h n v r k) p q c d b1 b2 W h1 h2 => hi0 (by
   have h := l1z v (decP n (strR n (b0v (fmt n) r.x k))) p q c d b1 b2 W h1 h2 (by have := N.len; omega) (by have := B.len; omega)
   rw [B.same] at h
   exact h)
 generalize a0m v.neg v.d 1 (wid (fmt n).g * v.pow) (fmt n).g 1 = P at *
 generalize wid (fmt n).g * v.pow = E at *
 obtain ⟨wb, hwb⟩ : ∃ wb : Bool, (e0l v.cls v.neg = [] ↔ wb = false) := ⟨decide (v.cls ≠ 2), by rw [b0z]; simp⟩
 let aA : Box := ⟨44, [.v (.int .i64 ((fmt n).g.rad)), .v (.int .i64 ((fmt n).g.digs)), .v (.int .i64 ((fmt n).g.lo)), .v (.int .i64 ((fmt n).g.hi)), .v (.bool ((fmt n).g.grad))], false⟩
 have I := Inv.start w [tabF, powF] ⟨hT, hP, True.intro⟩
 refine a0g [.v (.int .i64 n), .v (.string s)] I Tryz.func4 ?_
 refine zqo I (fun Al W I => (HD W I.fa.1).out) fun Al W p16 c16 I => ?_
 rcases bTF (er != 0) with f31 | f31
 · refine zb I 31 (er != 0) (true) (f31) fun Al W I => zret I (v := fun Al => .tuple #[Go.Value.string (ByteArray.mk #[]), vI er]) fun Al W I => ?_
   first | (obtain ⟨h1, h2⟩ := e1 (bne_iff_ne.1 f31); rw [h1, h2]; exact ⟨rfl, I.below⟩) | (obtain ⟨h1, h2⟩ := e2 h0 hc (by simpa using hbd.symm); rw [h1, h2]; exact ⟨rfl, I.below⟩)
 refine zb I 31 (er != 0) (false) (f31) fun Al W I => ?_
 have h0 : er = 0 := bne_eq_false_iff_eq.1 f31
 have VR := hV h0
 have F := hF h0
 have G := hG h0
 refine zq I (fun Al W I => (HW p16 c16 _ W I.fa.1 (by rw [VR.cls]; exact F.c) I.fa.2.1).out) fun Al W I => ?_
 rcases bTF (wb) with f36 | f36
 · refine zbin I 36 (.bool true) (fun _ _ _ _ W => ((k0a (h0p _ _) hwb)).trans (congrArg (fun z => Result.ok (Value.bool z) W) (show (wb) = true from f36))) fun Al W I => zret I (v := fun Al => .tuple #[.string (a0d (e0l v.cls v.neg)), vI 0]) fun Al W I => ?_
   first | (have hc : r.cls ≠ 2 := fun h => (by have := hwb.1 (b0z.2 (VR.cls.trans h)); rw [this] at f36; cases f36); obtain ⟨q1, q2⟩ := e3 h0 (fun h => absurd h hc); rw [q1, q2, if_neg hc, ← VR.cls, ← VR.neg]; exact ⟨rfl, I.below⟩) | (obtain ⟨h1, h2⟩ := e2 h0 hc (by simpa using hbd.symm); rw [h1, h2]; exact ⟨rfl, I.below⟩)
 refine zbin I 36 (.bool false) (fun _ _ _ _ W => ((k0a (h0p _ _) hwb)).trans (congrArg (fun z => Result.ok (Value.bool z) W) (show (wb) = false from f36))) fun Al W I => ?_
 have hc : r.cls = 2 := by rw [← VR.cls]; exact b0z.1 (hwb.2 f36)
 have N := hN h0 hc
 have hX := hX N G
 rw [hbx h0 hc] at hX
 refine zq I (fun Al W I => (HGr W).out) fun Al W I => zqo I (fun Al W I => have hzW := I.bel.size; (HV p16 c16 _ W I.fa.1 (by have := VR.lo; have := VR.hi; omega)).out) fun Al W q36 d36 I => zqo I (fun Al W I => (HFt N G p16 q36 c16 d36 W I.fa.2.1.rd I.fa.1.rd).out) fun Al W p48 c48 I => zcut I (some 3000010) (fun fr bx gs => ∃ (U1 : Nat → Value) (bd : Bool), fr = (.v (vI n) :: .v (.string s) :: su 2 (.v (Go.Value.string (ByteArray.mk #[])) :: .v (vI 0) :: .p 0 0 :: .v (vI er) :: .v (.string (a0d (e0l v.cls v.neg))) :: .p 1 0 :: .v (U1 10) :: .p 2 0 :: .p 3 0 :: su 5 (.v (U1 18) :: vu :: .v (U1 20) :: su 2 (sw U1 23 8 (.v (.bool false) :: sw U1 32 4 (.v (.bool false) :: sw U1 37 27 (.v (.bool bd) :: sw U1 65 26 (vu :: sw U1 92 8 (vu :: .v (U1 101) :: [])))))))) : List SV) ∧ bx = [⟨39, [.v (vI (v.cls : Int)), .v (.bool v.neg), .v (vS (dig B32 v.d) p16 c16), .v (vI v.pow)], false⟩, aA, ⟨48, [.v (.bool v.neg), .v (vS (dig B32 v.d) p16 c16), .v (vS (dig B32 1) q36 d36), .v (vI E)], false⟩, ⟨51, [.v (.bool P.neg), .v (vS (dig B32 P.d) p48 c48), .v (vI P.pow), .v (.bool P.exact), .v (.bool P.over), .v (.bool P.under)], false⟩] ∧ gs = [ownF w.heap.size .u32 101 p48 c48 (dig B32 P.d), ownF w.heap.size .u32 101 q36 d36 (dig B32 1), ownF w.heap.size .u32 101 p16 c16 (dig B32 v.d), tabF, powF] ∧ (bd = !a0p r.x (fmt n).g)) ?_ ?_
 · intro J hJ Al W I
   rcases bTF (!P.exact) with f51 | f51
   · refine zb I 51 (!P.exact) (true) (f51) fun Al W I => a0i I J fun Al W U I => hJ _ _ _ _ _ ⟨U, true, rfl, rfl, rfl, (by rw [← hX]; unfold okP; exact bad1 f51)⟩ (I.pick [0, 1, 2, 3, 4])
   refine zb I 51 (!P.exact) (false) (f51) fun Al W I => ?_
   rcases bTF (P.over) with f54 | f54
   · refine zb I 54 (P.over) (true) (f54) fun Al W I => a0i I J fun Al W U I => hJ _ _ _ _ _ ⟨U, true, rfl, rfl, rfl, (by rw [← hX]; unfold okP; first | exact bad1 f51 | exact bad2 f54)⟩ (I.pick [0, 1, 2, 3, 4])
   refine zb I 54 (P.over) (false) (f54) fun Al W I => ?_
   rcases bTF (P.under) with f58 | f58
   · refine zb I 58 (P.under) (true) (f58) fun Al W I => a0i I J fun Al W U I => hJ _ _ _ _ _ ⟨U, !((fmt n).g.grad), rfl, rfl, rfl, (by rw [← hX]; unfold okP; first | exact bad1 f51 | exact bad2 f54 | exact bad3 f51 f54 f58 | exact bad4 f51 f54 f58)⟩ (I.pick [0, 1, 2, 3, 4])
   refine zb I 58 (P.under) (false) (f58) fun Al W I => a0i I J fun Al W U I => hJ _ _ _ _ _ ⟨U, false, rfl, rfl, rfl, (by rw [← hX]; unfold okP; first | exact bad1 f51 | exact bad2 f54 | exact bad3 f51 f54 f58 | exact bad4 f51 f54 f58)⟩ (I.pick [0, 1, 2, 3, 4])
 rintro _ _ _ ⟨U1, bd, rfl, rfl, rfl, hbd⟩ Al W I
 refine zcut I (some 2000064) (fun fr bx gs => ∃ (U2 : Nat → Value) , fr = (.v (vI n) :: .v (.string s) :: su 2 (sw U2 4 2 (.p 0 0 :: .v (vI er) :: .v (.string (a0d (e0l v.cls v.neg))) :: .p 1 0 :: .v (U2 10) :: .p 2 0 :: .p 3 0 :: su 5 (.v (U2 18) :: vu :: .v (U2 20) :: su 2 (sw U2 23 8 (.v (.bool false) :: sw U2 32 4 (.v (.bool false) :: sw U2 37 27 (.v (.bool bd) :: sw U2 65 26 (vu :: sw U2 92 8 (vu :: .v (U2 101) :: []))))))))) : List SV) ∧ bx = [⟨39, [.v (vI (v.cls : Int)), .v (.bool v.neg), .v (vS (dig B32 v.d) p16 c16), .v (vI v.pow)], false⟩, aA, ⟨48, [.v (.bool v.neg), .v (vS (dig B32 v.d) p16 c16), .v (vS (dig B32 1) q36 d36), .v (vI E)], false⟩, ⟨51, [.v (.bool P.neg), .v (vS (dig B32 P.d) p48 c48), .v (vI P.pow), .v (.bool P.exact), .v (.bool P.over), .v (.bool P.under)], false⟩] ∧ gs = [ownF w.heap.size .u32 101 p48 c48 (dig B32 P.d), ownF w.heap.size .u32 101 q36 d36 (dig B32 1), ownF w.heap.size .u32 101 p16 c16 (dig B32 v.d), tabF, powF] ∧ (a0p r.x (fmt n).g = true)) ?_ ?_
 · intro J hJ Al W I
   rcases bTF bd with rfl | rfl
   · refine zret I (v := fun Al => .tuple #[Go.Value.string (ByteArray.mk #[]), vI 4]) fun Al W I => ?_
     first | (have hc : r.cls ≠ 2 := fun h => (by have := hwb.1 (b0z.2 (VR.cls.trans h)); rw [this] at f36; cases f36); obtain ⟨q1, q2⟩ := e3 h0 (fun h => absurd h hc); rw [q1, q2, if_neg hc, ← VR.cls, ← VR.neg]; exact ⟨rfl, I.below⟩) | (obtain ⟨h1, h2⟩ := e2 h0 hc (by simpa using hbd.symm); rw [h1, h2]; exact ⟨rfl, I.below⟩)
   exact a0i I J fun Al W U I => hJ _ _ _ _ _ ⟨U, rfl, rfl, rfl, (by simpa using hbd.symm)⟩ (I.pick [0, 1, 2, 3, 4])
 rintro _ _ _ ⟨U2, rfl, rfl, rfl, hin⟩ Al W I
 obtain ⟨s1, s2, s3, s4⟩ := hS h0 hc hin
 have hB := hB h0 hc hin
 refine g0e I (fun gk fr bx gs => ∃ (U900 : Nat → Value) (k : Nat), fr = (.v (.int .i64 n) :: .v (.string s) :: su 2 (sw U900 4 2 (.p 0 0 :: .v (.int .i64 er) :: .v (.string (a0d (e0l v.cls v.neg))) :: .p 1 0 :: .v (U900 10) :: .p 2 0 :: .p 3 0 :: .v (.int .i64 (k : Int)) :: sw U900 14 17 (.v (.bool false) :: sw U900 32 4 (.v (.bool false) :: sw U900 37 27 (.v (.bool bd) :: sw U900 65 37 []))))) : List SV) ∧ bx = [⟨39, [.v (.int .i64 (v.cls : Int)), .v (.bool v.neg), .v (.slice p16 (dig B32 v.d).length c16), .v (.int .i64 v.pow)], false⟩, aA, ⟨48, [.v (.bool v.neg), .v (.slice p16 (dig B32 v.d).length c16), .v (.slice q36 (dig B32 1).length d36), .v (.int .i64 E)], false⟩, ⟨51, [.v (.bool P.neg), .v (.slice p48 (dig B32 P.d).length c48), .v (.int .i64 P.pow), .v (.bool P.exact), .v (.bool P.over), .v (.bool P.under)], false⟩] ∧ gs = [ownF w.heap.size .u32 101 p48 c48 (dig B32 P.d), ownF w.heap.size .u32 101 q36 d36 (dig B32 1), ownF w.heap.size .u32 101 p16 c16 (dig B32 v.d), tabF, powF] ∧ (1 ≤ k ∧ k ≤ f0f (fmt n) r.x) ∧ (gk + k = 31)) 30 (fun Al W U I => ⟨_, ⟨U, 1, rfl, rfl, rfl, (by omega), rfl⟩, I.pick [0, 1, 2, 3, 4]⟩) ?_
 rintro J0 gk0 _ _ _ ⟨U900, k, rfl, rfl, rfl, hk1, hgk⟩ hJ0 Al W I
 have B := hB k (by omega)
 refine zq I (fun Al W I => have hzW := I.bel.size; (HDc N k (by omega) p16 q36 c16 d36 _ _ W I.fa.2.2.1 I.fa.2.1).out) fun Al W I => zq I (fun Al W I => have hzW := I.bel.size; (HNu F N k (by omega) W I.fa.2.2.2.2.1).out) fun Al W I => zg I (fun Al W I => (HRa k B W I.fa.2.2.2.1).out) fun Al V Iv _ hB _ kz => ?_
 rintro _ W ⟨p80, c80, q80, d80, rfl, o80, r80, hb⟩
 refine ⟨_, rfl, kz _ _ hb fun I => ?_⟩
 have I := I.own o80
 have I := I.own r80
 refine zq I (fun Al W I => (HFq k B p80 q80 c80 d80 _ _ W I.fa.2.1 I.fa.1 I.fa.2.2.2.2.2.1).out) fun Al W I => zqo I (fun Al W I => (HD2 k B W I.fa.2.2.2.2.2.1).out) fun Al W p95 c95 I => ?_
 by_cases f100 : okX (fmt n) r.x k = true
 · refine zqd I (fun Al W I => (HSa N k B p16 p95 c16 c95 _ _ W I.fa.2.2.2.2.2.1 I.fa.1).out) (show (okX (fmt n) r.x k) = true from f100) fun Al W I => zret I (v := fun Al => .tuple #[.string (a0d (numT v.neg (numX r.x k).1 (numX r.x k).2)), vI 0]) fun Al W I => ?_
   first | (have hc : r.cls ≠ 2 := fun h => (by have := hwb.1 (b0z.2 (VR.cls.trans h)); rw [this] at f36; cases f36); obtain ⟨q1, q2⟩ := e3 h0 (fun h => absurd h hc); rw [q1, q2, if_neg hc, ← VR.cls, ← VR.neg]; exact ⟨rfl, I.below⟩) | (obtain ⟨h1, h2⟩ := e2 h0 hc (by simpa using hbd.symm); rw [h1, h2]; exact ⟨rfl, I.below⟩) | (have hkk : k = f0f (fmt n) r.x := (by rcases Nat.lt_or_ge k (f0f (fmt n) r.x) with h | h; (have := s4 k hk1.1 h; rw [this] at f100; cases f100); omega); obtain ⟨q1, q2⟩ := e3 h0 (fun _ => hin); rw [q1, q2, if_pos hc, ← VR.neg, hkk]; exact ⟨rfl, I.below⟩)
 refine zqd I (fun Al W I => (HSa N k B p16 p95 c16 c95 _ _ W I.fa.2.2.2.2.2.1 I.fa.1).out) (show (okX (fmt n) r.x k) = false from (by simpa using f100)) fun Al W I => zi I 66 .i64 ((k : Int) + 1) (((k + 1 : Nat) : Int)) ((by rw [show ((k : Int) + 1) = ((k + 1 : Nat) : Int) by omega]; exact iwo)) fun Al W I => g1c 4 I J0 fun Al W U I => hJ0 (gk0 - 1) _ _ _ _ _ ((by omega)) ⟨U, k + 1, rfl, rfl, rfl, (by have : k ≠ f0f (fmt n) r.x := fun h => (f100 (by rw [h]; exact s3)).elim; omega), (by omega)⟩ (I.pick [3, 4, 5, 6, 7])
theorem q0e : d0e 2 1 [48, 46, 49] = 0 ∧ flP' 2 1 [48, 46, 49] = 1 ∧ 0 < (ratL [48, 46, 49]).2.1 ∧ 0 < (ratL [48, 46, 49]).2.2.1 := by decide +kernel
theorem i1k : (fitQ 2 (ratL [48, 46, 49]) 1).1.cls = 2 ∧ (fitQ 2 (ratL [48, 46, 49]) 1).1.neg = false ∧ (fitQ 2 (ratL [48, 46, 49]) 1).1.x.neg = false ∧ (fitQ 2 (ratL [48, 46, 49]) 1).1.x.m = 3602879701896397 ∧ (fitQ 2 (ratL [48, 46, 49]) 1).1.x.e = -55 := by decide +kernel
theorem z0q : a0p ⟨false, 3602879701896397, -55⟩ (fmt 2).g = true ∧ k0k (fmt 2) ⟨2, false, ⟨false, 3602879701896397, -55⟩⟩ = [49, 101, 45, 49] := by decide +kernel
theorem i1l : b0h 2 (outP 2 1 [48, 46, 49]) = 0 ∧ b0x 2 (outP 2 1 [48, 46, 49]) = a0d [49, 101, 45, 49] := by
 obtain ⟨a1, a2, a3, a4⟩ := q0e
 obtain ⟨b1, b2, b3, b4, b5⟩ := i1k
 obtain ⟨c1, c2⟩ := z0q
 have hn : IsFm 2 := by decide
 have R := (j0z (b0j hn) (neg := (ratL [48, 46, 49]).1) (num := (ratL [48, 46, 49]).2.1) (e := (ratL [48, 46, 49]).2.2.2) (way := 1) a4).1
 have hf : (fitQ 2 (ratL [48, 46, 49]) 1).1 = ((fmt 2).placedM (a0m (ratL [48, 46, 49]).1 (ratL [48, 46, 49]).2.1 (ratL [48, 46, 49]).2.2.1 (ratL [48, 46, 49]).2.2.2 (fmt 2).g 1) 1).1 := by
  unfold fitQ
  rw [if_neg (by omega)]
 rw [← hf] at R
 have hx : (fitQ 2 (ratL [48, 46, 49]) 1).1 = ⟨2, false, ⟨false, 3602879701896397, -55⟩⟩ := by
  generalize (fitQ 2 (ratL [48, 46, 49]) 1).1 = r at *
  obtain ⟨k, g, h, m, e⟩ := r
  simp only at b1 b2 b3 b4 b5
  rw [b1, b2, b3, b4, b5]
 rw [hx] at R
 have hP : outP 2 1 [48, 46, 49] = strR 2 ⟨2, false, ⟨false, 3602879701896397, -55⟩⟩ := by unfold outP; rw [if_pos a1, hx]
 obtain ⟨d1, d2⟩ := b1o hn R
 have he : b0h 2 (strR 2 ⟨2, false, ⟨false, 3602879701896397, -55⟩⟩) = 0 := by
  unfold b0h
  rw [if_pos d1, d2, if_neg (fun h => by have := h.2; rw [show (⟨2, false, ⟨false, 3602879701896397, -55⟩⟩ : Vr).x = ⟨false, 3602879701896397, -55⟩ from rfl, c1] at this; cases this)]
 rw [hP]
 refine ⟨he, ?_⟩
 unfold b0x
 rw [if_pos he, d2, c2]
theorem u0s (w : World) (hT : TabW w) (hP : PowW w) : Calls Tryz.prog 8 #[] w fun en w' => en = .returned (.bool true) ∧ Below w.heap.size w w' := by
 have HA := fun W h => hi0 (d1m 2 ⟨#[48, 46, 49]⟩ 1 W h)
 have HS := fun s W h h2 => hi0 (n0s 2 s W h h2)
 obtain ⟨a1, a2, _, _⟩ := q0e
 obtain ⟨b1, b2⟩ := i1l
 rw [show a0b ⟨#[48, 46, 49]⟩ = [48, 46, 49] from rfl, a1, a2, show ((1 : Nat) : Int) = 1 from rfl] at HA
 generalize outP 2 1 [48, 46, 49] = S at *
 have HS := HS S
 rw [b1, b2] at HS
 have I := Inv.start w [tabF, powF] ⟨hT, hP, True.intro⟩
 refine a0g [] I Tryz.func8 ?_
 refine zq I (fun Al W I => (HA W I.fa.1).out) fun Al W I => zq I (fun Al W I => (HS W I.fa.1 I.fa.2.1).out) fun Al W I => zbin I 28 _ (fun _ _ _ _ _ => (j0x (s := a0d [49, 101, 45, 49]) (r := ⟨#[49, 101, 45, 49]⟩) (iff_of_true rfl rfl))) fun Al W I => zrb I
end Go.Proofs.YtpgomglbaacmdaaGreatDoor
namespace Go.Slip
open Go.RowKit
theorem i1m (c : Nat) (l : List Nat) (k : Nat) : mayT c (l.drop k) = if k < l.length ∧ dg l k = c then (true, l.drop (k + 1)) else (false, l.drop k) := by
 by_cases h : k < l.length
 · rw [List.drop_eq_getElem_cons h, a0s h]
   show (if l[k] = c then _ else _) = _
   by_cases h2 : l[k] = c
   · rw [if_pos h2, if_pos ⟨h, h2⟩]
   · rw [if_neg h2, if_neg (fun h => h2 h.2)]
 · rw [List.drop_of_length_le (by omega), if_neg (fun k => h k.1)]
   rfl
def dOk (l : List Nat) (k : Nat) : Prop := k < l.length ∧ isDg (dg l k) = true
theorem i0i {l : List Nat} {k j : Nat} (hk : k + j ≤ l.length) (h : ∀ i, i < j → isDg (dg l (k + i)) = true) (hs : ¬ dOk l (k + j)) : (l.drop k).takeWhile isDg = (l.drop k).take j ∧ (l.drop k).dropWhile isDg = l.drop (k + j) := by
 have e : ∀ i, dg (l.drop k) i = dg l (k + i) := fun i => by unfold dg; rw [List.getElem?_drop]
 have h1 := n1u (l := l.drop k) (j := j) (by rw [List.length_drop]; omega) (fun i hi => by rw [e]; exact h i hi) (fun h2 => by
   rw [List.length_drop] at h2
   rw [e]
   cases h3 : isDg (dg l (k + j)) with
   | false => rfl
   | true => exact absurd ⟨by omega, h3⟩ hs)
 rw [List.drop_drop] at h1
 exact h1
theorem h0c {l : List Nat} {k j : Nat} (h : k + j < l.length) : (l.drop k).take (j + 1) = (l.drop k).take j ++ [dg l (k + j)] := by
 have h1 : j < (l.drop k).length := by rw [List.length_drop]; omega
 rw [List.take_succ_eq_append_getElem h1, List.getElem_drop, a0s h]
theorem q1u {l : List Nat} (hb : Byt l) {k : Nat} (h : k < l.length) : (a0d l).extract k (k + 1) = a0d [dg l k] := by
 rw [h0b hb, List.take_succ_eq_append_getElem h, List.drop_append_of_le_length (by rw [List.length_take]; omega), List.drop_of_length_le (by rw [List.length_take]; omega), a0s h]
 rfl
theorem o0c {P : Nat → Prop} {j : Nat} (h : ∀ i, i < j → P i) (k : P j) : ∀ i, i < j + 1 → P i := fun i hi => (Nat.lt_or_eq_of_le (Nat.le_of_lt_succ hi)).elim (fun h1 => h i h1) (fun h1 => h1 ▸ k)
theorem mq {C : Prop} [Decidable C] {g : Bool} {r A B : List Nat} (m : (g, r) = if C then (true, A) else (false, B)) : (C → g = true ∧ r = A) ∧ (¬ C → g = false ∧ r = B) ∧ (g = true → C ∧ r = A) ∧ (g = false → r = B) := by
 by_cases h : C
 · rw [if_pos h] at m
   injection m with m1 m2
   subst m1 m2
   exact ⟨fun _ => ⟨rfl, rfl⟩, fun k => absurd h k, fun _ => ⟨h, rfl⟩, fun k => by cases k⟩
 · rw [if_neg h] at m
   injection m with m1 m2
   subst m1 m2
   exact ⟨fun k => absurd k h, fun _ => ⟨rfl, rfl⟩, fun k => (by cases k), fun _ => rfl⟩
theorem mqd (c : Nat) (l : List Nat) (k : Nat) : (k < l.length ∧ dg l k = c → (mayT c (l.drop k)).1 = true ∧ (mayT c (l.drop k)).2 = l.drop (k + 1)) ∧ (¬ (k < l.length ∧ dg l k = c) → (mayT c (l.drop k)).1 = false ∧ (mayT c (l.drop k)).2 = l.drop k) ∧ ((mayT c (l.drop k)).1 = true → (k < l.length ∧ dg l k = c) ∧ (mayT c (l.drop k)).2 = l.drop (k + 1)) ∧ ((mayT c (l.drop k)).1 = false → (mayT c (l.drop k)).2 = l.drop k) :=
 mq (g := (mayT c (l.drop k)).1) (r := (mayT c (l.drop k)).2) (i1m c l k)
theorem q1v {n m c : Nat} (h : n < 10 ^ m) (hm : m < 6) (hc : 48 ≤ c ∧ c ≤ 57) : 10 * n + (c - 48) < 1000000 ∧ 10 * n + (c - 48) < 10 ^ (m + 1) := by
 have h1 : 10 ^ (m + 1) ≤ 10 ^ 6 := Nat.pow_le_pow_right (by omega) hm
 rw [Nat.pow_succ] at h1 ⊢
 omega
theorem i1n {n m : Nat} (h : n < 10 ^ m) (hm : m ≤ 5) : n < 100000 := Nat.lt_of_lt_of_le h (Nat.pow_le_pow_right (n := 10) (by omega) hm)
def numF (g : Bool) (D : List Nat) (r : List Nat) : Option Numl := match q0j r with | none => none | some (f, r) => numE g (D ++ f) (-(f.length : Int)) r
theorem q1w {g : Bool} {D l : List Nat} {a : Nat} (h : (mayT 46 (l.drop a)).1 = false) : numF g D (l.drop a) = numE g D 0 (l.drop a) := by
 unfold numF
 rw [j0h, h, if_neg Bool.false_ne_true, (mqd 46 l a).2.2.2 h]
 show numE g (D ++ []) _ _ = _
 rw [List.append_nil]
 rfl
theorem i1o {g : Bool} {D l : List Nat} {a : Nat} (h : (mayT 46 (l.drop a)).1 = true) (hd : ¬ dOk l (a + 1)) : numF g D (l.drop a) = none := by
 unfold numF
 have ha := (mqd 46 l a).2.2.1 h
 have ht := i0i (l := l) (k := a + 1) (j := 0) (by have := ha.1.1; omega) (fun i hi => absurd hi (Nat.not_lt_zero i)) hd
 rw [j0h, h, if_pos rfl, ha.2, ht.1, List.take_zero, if_pos rfl]
theorem i1p {g : Bool} {D l : List Nat} {a j : Nat} (h : (mayT 46 (l.drop a)).1 = true) (hd : dOk l (a + 1)) (hj : a + 1 + j ≤ l.length) (hall : ∀ i, i < j → isDg (dg l (a + 1 + i)) = true) (hs : ¬ dOk l (a + 1 + j)) :
 numF g D (l.drop a) = numE g (D ++ (l.drop (a + 1)).take j) (-(j : Int)) (l.drop (a + 1 + j)) := by
 unfold numF
 have ha := (mqd 46 l a).2.2.1 h
 have ht := i0i hj hall hs
 have hl : ((l.drop (a + 1)).take j).length = j := by rw [List.length_take, List.length_drop]; omega
 have hj0 : j ≠ 0 := fun k => by subst k; exact hs hd
 rw [j0h, h, if_pos rfl, ha.2, ht.1, ht.2, if_neg (fun k => by rw [k] at hl; exact hj0 hl.symm)]
 simp only
 rw [hl]
theorem q1x {l : List Nat} {a : Nat} (h : (mayT 101 (l.drop a)).1 = false) : powT (l.drop a) = some (0, l.drop a) := by
 rw [u0j, h, if_neg Bool.false_ne_true, (mqd 101 l a).2.2.2 h]
theorem u0t {l : List Nat} {a b j : Nat} {mi : Bool} (h : (mayT 101 (l.drop a)).1 = true) (hm : (mayT 45 (l.drop (a + 1))).1 = mi) (hr : (mayT 45 (l.drop (a + 1))).2 = l.drop b) (hj : b + j ≤ l.length) (hall : ∀ i, i < j → isDg (dg l (b + i)) = true) (hs : ¬ dOk l (b + j)) :
 powT (l.drop a) = if j = 0 ∨ 5 < j then none else some (if mi then -(a0l ((l.drop b).take j) : Int) else a0l ((l.drop b).take j), l.drop (b + j)) := by
 have ha := (mqd 101 l a).2.2.1 h
 have ht := i0i hj hall hs
 have hl : ((l.drop b).take j).length = j := by rw [List.length_take, List.length_drop]; omega
 rw [u0j, h, if_pos rfl, ha.2, hr, hm, ht.1, ht.2, hl]
 have e : ((l.drop b).take j = [] ∨ 5 < j) ↔ (j = 0 ∨ 5 < j) := by
  rw [← List.length_eq_zero_iff, hl]
 simp only [e]
theorem d1n (l : List Nat) {k : Nat} (h : k ≤ l.length) : (l.drop k).isEmpty = true ↔ k = l.length := by
 rw [List.isEmpty_iff, List.drop_eq_nil_iff]; omega
end Go.Slip
namespace Go.Proofs.YtpgomglbaacmdaaGreatDoor
open Go.RowKit Go.Slip
theorem i1q (l : List Nat) (hb : Byt l) (k : Nat) (h : dOk l k) (w : World) : Calls Tryz.prog 121 #[.string (a0d l), .int .i64 (k : Int)] w fun en w' => en = .returned (.bool true) ∧ Below w.heap.size w w' := by
 have hg : a0b (a0d l) = l := a0v hb
 have hz := a0k l
 obtain ⟨h1, h2⟩ := h
 have h3 := d0d.1 h2
 generalize a0d l = s at *
 have I := Inv.start w [] True.intro
 refine a0g [.v (.string s), .v (.int .i64 (k : Int))] I Tryz.func121 ?_
 refine zb I 8 (decide ((k : Int) < (s.size : Int))) (true) (dTr (by omega)) fun Al W I => zx I 12 (fun _ => .int .u8 ((dg l k : Nat) : Int)) (fun Al W I => (by rw [← hg]; exact m0h uSt rfl (by omega))) fun Al W I => zb I 13 (decide (((dg l k : Nat) : Int) ≥ 48)) (true) (dTr (by omega)) fun Al W I => zx I 18 (fun _ => .int .u8 ((dg l k : Nat) : Int)) (fun Al W I => (by rw [← hg]; exact m0h uSt rfl (by omega))) fun Al W I => zb I 19 (decide (((dg l k : Nat) : Int) ≤ 57)) (true) (dTr (by omega)) fun Al W I => zrb I
theorem m1k (l : List Nat) (hb : Byt l) (k : Nat) (h : ¬ dOk l k) (w : World) : Calls Tryz.prog 121 #[.string (a0d l), .int .i64 (k : Int)] w fun en w' => en = .returned (.bool false) ∧ Below w.heap.size w w' := by
 have hg : a0b (a0d l) = l := a0v hb
 have hz := a0k l
 generalize a0d l = s at *
 have I := Inv.start w [] True.intro
 refine a0g [.v (.string s), .v (.int .i64 (k : Int))] I Tryz.func121 ?_
 rcases bTF (decide ((k : Int) < (s.size : Int))) with f8 | f8
 · refine zb I 8 (decide ((k : Int) < (s.size : Int))) (true) (f8) fun Al W I => zx I 12 (fun _ => .int .u8 ((dg l k : Nat) : Int)) (fun Al W I => (by rw [← hg]; exact m0h uSt rfl (by have := oTr f8; omega))) fun Al W I => ?_
   rcases bTF (decide (((dg l k : Nat) : Int) ≥ 48)) with f13 | f13
   · refine zb I 13 (decide (((dg l k : Nat) : Int) ≥ 48)) (true) (f13) fun Al W I => zx I 18 (fun _ => .int .u8 ((dg l k : Nat) : Int)) (fun Al W I => (by rw [← hg]; exact m0h uSt rfl (by have := oTr f8; omega))) fun Al W I => ?_
     rcases bTF (decide (((dg l k : Nat) : Int) ≤ 57)) with f19 | f19
     · refine zb I 19 (decide (((dg l k : Nat) : Int) ≤ 57)) (true) (f19) fun Al W I => zret I (v := fun Al => .bool true) fun Al W I => ?_
       first | exact ⟨rfl, I.below⟩ | exact absurd ⟨by have := oTr f8; omega, d0d.2 (by have := oTr f13; have := oTr f19; omega)⟩ h
     refine zb I 19 (decide (((dg l k : Nat) : Int) ≤ 57)) (false) (f19) fun Al W I => zret I fun Al W I => ⟨rfl, I.below⟩
   refine zb I 13 (decide (((dg l k : Nat) : Int) ≥ 48)) (false) (f13) fun Al W I => zret I fun Al W I => ⟨rfl, I.below⟩
 refine zb I 8 (decide ((k : Int) < (s.size : Int))) (false) (f8) fun Al W I => zret I fun Al W I => ⟨rfl, I.below⟩
theorem q0q (t : ByteArray) (w : World) (ht : t.size ≤ 1000) :
 Calls Tryz.prog 69 #[.string t] w fun en w' => ∃ g ds pw ok, en = .returned (.tuple #[.bool g, .string (a0d ds), .int .i64 pw, .bool ok]) ∧ (numl (a0b t) = (if ok = true then some ⟨g, ds, pw⟩ else none) ∧ Byt ds) ∧ Below w.heap.size w w' := by
 have hby := Byt.of t
 have hl0 : (a0b t).length ≤ 1000 := by rw [a0q]; exact ht
 have hN := z0h (a0b t)
 have hst := f0r t
 generalize a0b t = l at *
 rw [← hst]
 clear hst
 have HY := fun k h W => hi0 (i1q l hby k h W)
 have HN := fun k h W => hi0 (m1k l hby k h W)
 have hsz := a0k l
 have hg : a0b (a0d l) = l := a0v hby
 have hix : ∀ (W : World) (k : Nat), k < l.length → (VO.sx 9 (.string (a0d l)) (.int .i64 (k : Int))).sem.run Tryz.prog W = .ok (.int .u8 ((dg l k : Nat) : Int)) W := fun W k h => by rw [show dg l k = dg (a0b (a0d l)) k by rw [hg]]; exact m0h uSt rfl (by omega)
 have hsl : ∀ (W : World) (k : Nat), k < l.length → (VO.sl 9 (.string (a0d l)) (some (.int .i64 (k : Int))) (some (.int .i64 ((k : Nat) + 1 : Int))) none).sem.run Tryz.prog W = .ok (.string (a0d [dg l k])) W := fun W k h => by rw [← q1u hby h]; exact g0q uSt (.inr rfl) (.inr rfl) (by omega) (by omega)
 have hbd : ∀ k, dg l k < 256 := fun k => a0n (B := 256) (by omega) _ hby k
 generalize a0d l = s at *
 have q1 := mqd 45 l 0
 rw [List.drop_zero] at q1
 obtain ⟨g0, r0, e0⟩ : ∃ g r, mayT 45 l = (g, r) := ⟨_, _, rfl⟩
 rw [e0] at q1
 have hN1 : numl l = numF (mayT 45 l).1 ((mayT 45 l).2.takeWhile isDg) ((mayT 45 l).2.dropWhile isDg) := hN
 rw [e0] at hN1
 simp only at hN1 q1
 clear hN
 have I := Inv.start w [] True.intro
 refine a0g [.v (.string s)] I Tryz.func69 ?_
 refine zcut I (some 3000002) (fun fr bx gs => ∃ (U1 : Nat → Value) (g : Bool), fr = (.v (.string s) :: vu :: .v (.bool false) :: .v (Go.Value.string (ByteArray.mk #[])) :: .v (vI 0) :: .v (.bool false) :: .v (vI 0) :: .v (.bool g) :: su 5 (sw U1 13 8 (vu :: sw U1 22 4 (vu :: sw U1 27 18 (vu :: sw U1 46 5 (vu :: sw U1 52 2 (vu :: sw U1 55 12 (vu :: sw U1 68 9 (vu :: sw U1 78 12 (vu :: sw U1 91 4 (vu :: sw U1 96 3 (vu :: sw U1 100 15 (su 2 (sw U1 117 12 []))))))))))))) : List SV) ∧ bx = [] ∧ gs = [] ∧ (g0 = g)) ?_ ?_
 · intro J hJ Al W I
   rcases bTF (decide ((s.size : Int) > 0)) with f15 | f15
   · refine zb I 15 (decide ((s.size : Int) > 0)) (true) (f15) fun Al W I => zx I 18 (fun _ => .int .u8 ((dg l 0 : Nat) : Int)) (fun Al W I => (hix W 0 (by have := oTr f15; omega))) fun Al W I => ?_
     rcases bTF (((dg l 0 : Nat) : Int) == 45) with f19 | f19
     · refine zb I 19 (((dg l 0 : Nat) : Int) == 45) (true) (f19) fun Al W I => a0i I J fun Al W U I => hJ _ _ _ _ _ ⟨U, true, rfl, rfl, rfl, (by exact (q1.1 ⟨by have := oTr f15; omega, by have := beq_iff_eq.1 f19; omega⟩).1)⟩ (I.pick [])
     refine zb I 19 (((dg l 0 : Nat) : Int) == 45) (false) (f19) fun Al W I => a0i I J fun Al W U I => hJ _ _ _ _ _ ⟨U, false, rfl, rfl, rfl, (by exact (q1.2.1 (fun k => by have := bnF f19; omega)).1)⟩ (I.pick [])
   refine zb I 15 (decide ((s.size : Int) > 0)) (false) (f15) fun Al W I => a0i I J fun Al W U I => hJ _ _ _ _ _ ⟨U, false, rfl, rfl, rfl, (by exact (q1.2.1 (fun k => by have := oFa f15; omega)).1)⟩ (I.pick [])
 rintro _ _ _ ⟨U1, g, rfl, rfl, rfl, hgg⟩ Al W I
 refine zcut I (some 2000021) (fun fr bx gs => ∃ (U2 : Nat → Value) (a1 : Nat), fr = (.v (.string s) :: vu :: .v (.bool false) :: .v (Go.Value.string (ByteArray.mk #[])) :: .v (vI 0) :: .v (.bool false) :: .v (vI (a1 : Int)) :: .v (.bool g) :: su 5 (sw U2 13 8 (.v (.bool g) :: sw U2 22 4 (vu :: sw U2 27 18 (vu :: sw U2 46 5 (vu :: sw U2 52 2 (vu :: sw U2 55 12 (vu :: sw U2 68 9 (vu :: sw U2 78 12 (vu :: sw U2 91 4 (vu :: sw U2 96 3 (vu :: sw U2 100 15 (su 2 (sw U2 117 12 []))))))))))))) : List SV) ∧ bx = [] ∧ gs = [] ∧ (r0 = l.drop a1) ∧ (a1 ≤ 1) ∧ (a1 ≤ l.length)) ?_ ?_
 · intro J hJ Al W I
   rcases bTF g with rfl | rfl
   · exact a0i I J fun Al W U I => hJ _ _ _ _ _ ⟨U, 1, rfl, rfl, rfl, (q1.2.2.1 hgg).2, (Nat.le_refl _), (q1.2.2.1 hgg).1.1⟩ (I.pick [])
   exact a0i I J fun Al W U I => hJ _ _ _ _ _ ⟨U, 0, rfl, rfl, rfl, (q1.2.2.2 hgg), (Nat.zero_le _), (Nat.zero_le _)⟩ (I.pick [])
 rintro _ _ _ ⟨U2, a1, rfl, rfl, rfl, hr0, ha1, ha1l⟩ Al W I
 refine g0e I (fun gk fr bx gs => ∃ (U900 : Nat → Value) (j : Nat) (D : LN), fr = (.v (.string s) :: .v undef :: .v (.bool false) :: .v (Go.Value.string (ByteArray.mk #[])) :: .v (.int .i64 0) :: .v (.bool false) :: .v (.int .i64 ((a1 + j : Nat) : Int)) :: .v (.bool g) :: .v (.string (a0d D)) :: .v (.int .i64 0) :: su 3 (sw U900 13 8 (.v (.bool g) :: sw U900 22 23 (.v undef :: sw U900 46 5 (.v undef :: sw U900 52 2 (.v undef :: sw U900 55 12 (.v undef :: sw U900 68 9 (.v undef :: sw U900 78 12 (.v undef :: sw U900 91 4 (.v undef :: sw U900 96 3 (.v undef :: sw U900 100 15 (su 2 (sw U900 117 12 [])))))))))))) : List SV) ∧ bx = [] ∧ gs = [] ∧ (D = (l.drop a1).take j) ∧ (∀ i, i < j → isDg (dg l (a1 + i)) = true) ∧ (a1 + j ≤ l.length) ∧ (gk + (a1 + j) = l.length + a1)) l.length (fun Al W U I => ⟨_, ⟨U, 0, [], rfl, rfl, rfl, rfl, (fun i hi => absurd hi (Nat.not_lt_zero i)), ha1l, (by omega)⟩, I.pick []⟩) ?_
 rintro J0 gk0 _ _ _ ⟨U900, j, D, rfl, rfl, rfl, hD, hall, hj, hgk⟩ hJ0 Al W I
 by_cases h6 : dOk l (a1 + j)
 · refine zq I (fun Al W I => (HY (a1 + j) h6 W).out) fun Al W I => zi I 33 .i64 (((a1 + j : Nat) : Int) + 1) ((((a1 + j : Nat) : Int) + 1)) ((by exact IntWalk.i64_in _ (by have := h6.1; omega))) fun Al W I => zx I 34 (fun _ => .string (a0d [dg l (a1 + j)])) (fun Al W I => (hsl W (a1 + j) h6.1)) fun Al W I => zbin I 35 _ (fun _ _ _ _ _ => (c0l D [dg l (a1 + j)] (by rw [hD, List.length_take, List.length_drop]; simp only [List.length_cons, List.length_nil]; omega))) fun Al W I => zi I 28 .i64 (((a1 + j : Nat) : Int) + 1) (((a1 + (j + 1) : Nat) : Int)) ((by exact IntWalk.i64_in _ (by have := h6.1; omega))) fun Al W I => a0i I J0 fun Al W U I => hJ0 (gk0 - 1) _ _ _ _ _ ((by have := h6.1; omega)) ⟨U, j + 1, (D ++ [dg l (a1 + j)]), rfl, rfl, rfl, (by rw [hD, h0c h6.1]), (o0c hall h6.2), (by have := h6.1; omega), (by have := h6.1; omega)⟩ (I.pick [])
 refine zq I (fun Al W I => (HN (a1 + j) h6 W).out) fun Al W I => zcut I (some 3000009) (fun fr bx gs => ∃ (U3 : Nat → Value) (p : Bool), fr = (.v (.string s) :: vu :: .v (.bool false) :: .v (Go.Value.string (ByteArray.mk #[])) :: .v (vI 0) :: .v (.bool false) :: .v (vI ((a1 + j : Nat) : Int)) :: .v (.bool g) :: .v (.string (a0d D)) :: .v (vI 0) :: su 3 (sw U3 13 8 (.v (.bool g) :: sw U3 22 4 (.v (.bool false) :: sw U3 27 18 (.v (.bool p) :: sw U3 46 5 (vu :: sw U3 52 2 (vu :: sw U3 55 12 (vu :: sw U3 68 9 (vu :: sw U3 78 12 (vu :: sw U3 91 4 (vu :: sw U3 96 3 (vu :: sw U3 100 15 (su 2 (sw U3 117 12 []))))))))))))) : List SV) ∧ bx = [] ∧ gs = [] ∧ ((mayT 46 (l.drop (a1 + j))).1 = p)) ?_ ?_
 · intro J hJ Al W I
   rcases bTF (decide (((a1 + j : Nat) : Int) < (s.size : Int))) with f39 | f39
   · refine zb I 39 (decide (((a1 + j : Nat) : Int) < (s.size : Int))) (true) (f39) fun Al W I => zx I 43 (fun _ => .int .u8 ((dg l (a1 + j) : Nat) : Int)) (fun Al W I => (hix W (a1 + j) (by have := oTr f39; omega))) fun Al W I => ?_
     rcases bTF (((dg l (a1 + j) : Nat) : Int) == 46) with f44 | f44
     · refine zb I 44 (((dg l (a1 + j) : Nat) : Int) == 46) (true) (f44) fun Al W I => a0i I J fun Al W U I => hJ _ _ _ _ _ ⟨U, true, rfl, rfl, rfl, (by exact ((mqd 46 l (a1 + j)).1 ⟨by have := oTr f39; omega, by have := beq_iff_eq.1 f44; omega⟩).1)⟩ (I.pick [])
     refine zb I 44 (((dg l (a1 + j) : Nat) : Int) == 46) (false) (f44) fun Al W I => a0i I J fun Al W U I => hJ _ _ _ _ _ ⟨U, false, rfl, rfl, rfl, (by exact ((mqd 46 l (a1 + j)).2.1 (fun k => by have := bnF f44; omega)).1)⟩ (I.pick [])
   refine zb I 39 (decide (((a1 + j : Nat) : Int) < (s.size : Int))) (false) (f39) fun Al W I => a0i I J fun Al W U I => hJ _ _ _ _ _ ⟨U, false, rfl, rfl, rfl, (by exact ((mqd 46 l (a1 + j)).2.1 (fun k => by have := oFa f39; omega)).1)⟩ (I.pick [])
 rintro _ _ _ ⟨U3, p, rfl, rfl, rfl, hp⟩ Al W I
 refine zcut I (some 2000045) (fun fr bx gs => ∃ (U4 : Nat → Value) (E : LN) (pw : Int) (a2 : Nat), fr = (.v (.string s) :: vu :: sw U4 2 4 (.v (vI (a2 : Int)) :: .v (.bool g) :: .v (.string (a0d E)) :: .v (vI pw) :: su 3 (sw U4 13 8 (.v (.bool g) :: sw U4 22 4 (.v (.bool false) :: sw U4 27 18 (.v (.bool p) :: sw U4 46 21 (vu :: sw U4 68 9 (vu :: sw U4 78 12 (vu :: sw U4 91 4 (vu :: sw U4 96 3 (vu :: sw U4 100 15 (su 2 (sw U4 117 12 [])))))))))))) : List SV) ∧ bx = [] ∧ gs = [] ∧ (numl l = numE g0 E pw (l.drop a2)) ∧ (a2 ≤ l.length) ∧ (Byt E) ∧ (-1000 ≤ pw ∧ pw ≤ 0)) ?_ ?_
 · intro J hJ Al W I
   rcases bTF p with rfl | rfl
   · refine zi I 47 .i64 (((a1 + j : Nat) : Int) + 1) (((a1 + j + 1 : Nat) : Int)) ((by exact iwo)) fun Al W I => ?_
     by_cases h11 : dOk l (a1 + j + 1)
     · refine zq I (fun Al W I => (HY (a1 + j + 1) h11 W).out) fun Al W I => g0e I (fun gk fr bx gs => ∃ (U901 : Nat → Value) (k : Nat) (F : LN), fr = (.v (.string s) :: .v undef :: .v (.bool false) :: .v (Go.Value.string (ByteArray.mk #[])) :: .v (vI 0) :: .v (.bool false) :: .v (vI ((a1 + j + 1 + k : Nat) : Int)) :: .v (.bool g) :: .v (.string (a0d F)) :: .v (vI (-(k : Int))) :: su 3 (sw U901 13 8 (.v (.bool g) :: sw U901 22 4 (.v (.bool false) :: sw U901 27 18 (.v (.bool true) :: sw U901 46 5 (.v (.bool false) :: sw U901 52 15 (.v undef :: sw U901 68 9 (.v undef :: sw U901 78 12 (.v undef :: sw U901 91 4 (.v undef :: sw U901 96 3 (.v undef :: sw U901 100 15 (su 2 (sw U901 117 12 [])))))))))))) : List SV) ∧ bx = [] ∧ gs = [] ∧ (F = D ++ (l.drop (a1 + j + 1)).take k) ∧ (∀ i, i < k → isDg (dg l (a1 + j + 1 + i)) = true) ∧ (a1 + j + 1 + k ≤ l.length) ∧ (gk + (a1 + j + 1 + k) = l.length + (a1 + j + 1))) l.length (fun Al W U I => ⟨_, ⟨U, 0, D, rfl, rfl, rfl, (by rw [List.take_zero, List.append_nil]), (fun i hi => absurd hi (Nat.not_lt_zero i)), (Nat.le_of_lt h11.1), (by omega)⟩, I.pick []⟩) ?_
       rintro J1 gk1 _ _ _ ⟨U901, k, F, rfl, rfl, rfl, hF, hall2, hk, hgk1⟩ hJ1 Al W I
       by_cases h13 : dOk l (a1 + j + 1 + k)
       · refine zq I (fun Al W I => (HY (a1 + j + 1 + k) h13 W).out) fun Al W I => zi I 61 .i64 (((a1 + j + 1 + k : Nat) : Int) + 1) ((((a1 + j + 1 + k : Nat) : Int) + 1)) ((by exact IntWalk.i64_in _ (by have := h13.1; omega))) fun Al W I => zx I 62 (fun _ => .string (a0d [dg l (a1 + j + 1 + k)])) (fun Al W I => (hsl W (a1 + j + 1 + k) h13.1)) fun Al W I => zbin I 63 _ (fun _ _ _ _ _ => (c0l F [dg l (a1 + j + 1 + k)] (by rw [hF, hD, List.length_append, List.length_take, List.length_drop, List.length_take, List.length_drop]; simp only [List.length_cons, List.length_nil]; omega))) fun Al W I => zi I 65 .i64 ((-(k : Int)) - 1) ((-((k + 1 : Nat) : Int))) ((by rw [show -(k : Int) - 1 = -((k + 1 : Nat) : Int) by omega]; exact iwo)) fun Al W I => zi I 56 .i64 (((a1 + j + 1 + k : Nat) : Int) + 1) (((a1 + j + 1 + (k + 1) : Nat) : Int)) ((by exact IntWalk.i64_in _ (by have := h13.1; omega))) fun Al W I => a0i I J1 fun Al W U I => hJ1 (gk1 - 1) _ _ _ _ _ ((by have := h13.1; omega)) ⟨U, k + 1, (F ++ [dg l (a1 + j + 1 + k)]), rfl, rfl, rfl, (by rw [hF, h0c h13.1, List.append_assoc]), (o0c hall2 h13.2), (by have := h13.1; omega), (by have := h13.1; omega)⟩ (I.pick [])
       refine zq I (fun Al W I => (HN (a1 + j + 1 + k) h13 W).out) fun Al W I => a0i I J fun Al W U I => hJ _ _ _ _ _ ⟨U, F, (-(k : Int)), (a1 + j + 1 + k), rfl, rfl, rfl, (by rw [hN1, hr0, (i0i hj hall h6).1, (i0i hj hall h6).2, i1p hp h11 hk hall2 h13, hF, hD]), hk, (by rw [hF, hD]; exact ((hby.drop _).take _).append ((hby.drop _).take _)), (by omega)⟩ (I.pick [])
     refine zq I (fun Al W I => (HN (a1 + j + 1) h11 W).out) fun Al W I => zret I (v := fun Al => .tuple #[.bool false, Go.Value.string (ByteArray.mk #[]), vI 0, .bool false]) fun Al W I => ⟨false, [], 0, false, rfl, ⟨by rw [hN1, hr0, (i0i hj hall h6).1, (i0i hj hall h6).2, i1o hp h11]; rfl, fun _ h => (nomatch h)⟩, I.below⟩
   exact a0i I J fun Al W U I => hJ _ _ _ _ _ ⟨U, D, 0, (a1 + j), rfl, rfl, rfl, (by rw [hN1, hr0, (i0i hj hall h6).1, (i0i hj hall h6).2, q1w hp, hD]), hj, (by rw [hD]; exact (hby.drop _).take _), (by omega)⟩ (I.pick [])
 rintro _ _ _ ⟨U4, E, pw, a2, rfl, rfl, rfl, hN2, ha2, hbE, hpw⟩ Al W I
 rcases bTF (E.isEmpty) with f67 | f67
 · refine zbin I 67 (.bool true) (fun _ _ _ _ W => ((f0s hbE)).trans (congrArg (fun z => Result.ok (Value.bool z) W) (show (E.isEmpty) = true from f67))) fun Al W I => zret I (v := fun Al => .tuple #[.bool false, Go.Value.string (ByteArray.mk #[]), vI 0, .bool false]) fun Al W I => ?_
   first | exact ⟨g, E, q, (l.drop a5).isEmpty, rfl, ⟨g0r (hgg ▸ hN2) f67 hQ (by omega), hbE⟩, I.below⟩ | exact ⟨false, [], 0, false, rfl, ⟨by rw [hN2]; unfold numE; rw [if_pos (List.isEmpty_iff.1 f67)]; rfl, fun _ h => (nomatch h)⟩, I.below⟩
 refine zbin I 67 (.bool false) (fun _ _ _ _ W => ((f0s hbE)).trans (congrArg (fun z => Result.ok (Value.bool z) W) (show (E.isEmpty) = false from f67))) fun Al W I => zcut I (some 3000019) (fun fr bx gs => ∃ (U5 : Nat → Value) (pe : Bool), fr = (.v (.string s) :: vu :: sw U4 2 4 (.v (vI (a2 : Int)) :: .v (.bool g) :: .v (.string (a0d E)) :: .v (vI pw) :: su 3 (sw U5 13 8 (.v (.bool g) :: sw U5 22 4 (.v (.bool false) :: sw U5 27 18 (.v (.bool p) :: sw U5 46 5 (.v (U4 51) :: sw U5 52 2 (.v (U4 54) :: sw U5 55 12 (.v (.bool false) :: sw U5 68 9 (.v (.bool pe) :: sw U5 78 12 (vu :: sw U5 91 4 (vu :: sw U5 96 3 (vu :: sw U5 100 15 (su 2 (sw U5 117 12 [])))))))))))))) : List SV) ∧ bx = [] ∧ gs = [] ∧ ((mayT 101 (l.drop a2)).1 = pe)) ?_ ?_
 · intro J hJ Al W I
   rcases bTF (decide ((a2 : Int) < (s.size : Int))) with f71 | f71
   · refine zb I 71 (decide ((a2 : Int) < (s.size : Int))) (true) (f71) fun Al W I => zx I 75 (fun _ => .int .u8 ((dg l a2 : Nat) : Int)) (fun Al W I => (hix W a2 (by have := oTr f71; omega))) fun Al W I => ?_
     rcases bTF (((dg l a2 : Nat) : Int) == 101) with f76 | f76
     · refine zb I 76 (((dg l a2 : Nat) : Int) == 101) (true) (f76) fun Al W I => a0i I J fun Al W U I => hJ _ _ _ _ _ ⟨U, true, rfl, rfl, rfl, (by exact ((mqd 101 l a2).1 ⟨by have := oTr f71; omega, by have := beq_iff_eq.1 f76; omega⟩).1)⟩ (I.pick [])
     refine zb I 76 (((dg l a2 : Nat) : Int) == 101) (false) (f76) fun Al W I => a0i I J fun Al W U I => hJ _ _ _ _ _ ⟨U, false, rfl, rfl, rfl, (by exact ((mqd 101 l a2).2.1 (fun k => by have := bnF f76; omega)).1)⟩ (I.pick [])
   refine zb I 71 (decide ((a2 : Int) < (s.size : Int))) (false) (f71) fun Al W I => a0i I J fun Al W U I => hJ _ _ _ _ _ ⟨U, false, rfl, rfl, rfl, (by exact ((mqd 101 l a2).2.1 (fun k => by have := oFa f71; omega)).1)⟩ (I.pick [])
 rintro _ _ _ ⟨U5, pe, rfl, rfl, rfl, hpe⟩ Al W I
 refine zcut I (some 2000077) (fun fr bx gs => ∃ (U6 : Nat → Value) (q : Int) (a5 : Nat), fr = (.v (.string s) :: vu :: sw U6 2 4 (.v (vI (a5 : Int)) :: .v (.bool g) :: .v (.string (a0d E)) :: .v (vI q) :: sw U6 10 11 (.v (.bool g) :: sw U6 22 4 (.v (.bool false) :: sw U6 27 18 (.v (.bool p) :: sw U6 46 5 (.v (U4 51) :: sw U6 52 2 (.v (U4 54) :: sw U6 55 12 (.v (.bool false) :: sw U6 68 9 (.v (.bool pe) :: sw U6 78 51 [])))))))) : List SV) ∧ bx = [] ∧ gs = [] ∧ (powT (l.drop a2) = some (q - pw, l.drop a5)) ∧ (a5 ≤ l.length)) ?_ ?_
 · intro J hJ Al W I
   rcases bTF pe with rfl | rfl
   · refine zi I 79 .i64 ((a2 : Int) + 1) (((a2 + 1 : Nat) : Int)) ((by exact iwo)) fun Al W I => zcut I (some 3000021) (fun fr bx gs => ∃ (U7 : Nat → Value) (mi : Bool), fr = (.v (.string s) :: vu :: sw U4 2 4 (.v (vI ((a2 + 1 : Nat) : Int)) :: .v (.bool g) :: .v (.string (a0d E)) :: .v (vI pw) :: .v (.bool mi) :: su 2 (sw U7 13 8 (.v (.bool g) :: sw U7 22 4 (.v (.bool false) :: sw U7 27 18 (.v (.bool p) :: sw U7 46 5 (.v (U4 51) :: sw U7 52 2 (.v (U4 54) :: sw U7 55 12 (.v (.bool false) :: sw U7 68 9 (.v (.bool true) :: sw U7 78 12 (vu :: sw U7 91 4 (vu :: sw U7 96 3 (vu :: sw U7 100 15 (su 2 (sw U7 117 12 [])))))))))))))) : List SV) ∧ bx = [] ∧ gs = [] ∧ ((mayT 45 (l.drop (a2 + 1))).1 = mi)) ?_ ?_
     · intro J hJ Al W I
       rcases bTF (decide (((a2 + 1 : Nat) : Int) < (s.size : Int))) with f83 | f83
       · refine zb I 83 (decide (((a2 + 1 : Nat) : Int) < (s.size : Int))) (true) (f83) fun Al W I => zx I 87 (fun _ => .int .u8 ((dg l (a2 + 1) : Nat) : Int)) (fun Al W I => (hix W (a2 + 1) (by have := oTr f83; omega))) fun Al W I => ?_
         rcases bTF (((dg l (a2 + 1) : Nat) : Int) == 45) with f88 | f88
         · refine zb I 88 (((dg l (a2 + 1) : Nat) : Int) == 45) (true) (f88) fun Al W I => a0i I J fun Al W U I => hJ _ _ _ _ _ ⟨U, true, rfl, rfl, rfl, (by exact ((mqd 45 l (a2 + 1)).1 ⟨by have := oTr f83; omega, by have := beq_iff_eq.1 f88; omega⟩).1)⟩ (I.pick [])
         refine zb I 88 (((dg l (a2 + 1) : Nat) : Int) == 45) (false) (f88) fun Al W I => a0i I J fun Al W U I => hJ _ _ _ _ _ ⟨U, false, rfl, rfl, rfl, (by exact ((mqd 45 l (a2 + 1)).2.1 (fun k => by have := bnF f88; omega)).1)⟩ (I.pick [])
       refine zb I 83 (decide (((a2 + 1 : Nat) : Int) < (s.size : Int))) (false) (f83) fun Al W I => a0i I J fun Al W U I => hJ _ _ _ _ _ ⟨U, false, rfl, rfl, rfl, (by exact ((mqd 45 l (a2 + 1)).2.1 (fun k => by have := oFa f83; omega)).1)⟩ (I.pick [])
     rintro _ _ _ ⟨U7, mi, rfl, rfl, rfl, hmi⟩ Al W I
     refine zcut I (some 2000090) (fun fr bx gs => ∃ (U8 : Nat → Value) (a3 : Nat), fr = (.v (.string s) :: vu :: sw U4 2 4 (.v (vI (a3 : Int)) :: .v (.bool g) :: .v (.string (a0d E)) :: .v (vI pw) :: .v (.bool mi) :: su 2 (sw U8 13 8 (.v (.bool g) :: sw U8 22 4 (.v (.bool false) :: sw U8 27 18 (.v (.bool p) :: sw U8 46 5 (.v (U4 51) :: sw U8 52 2 (.v (U4 54) :: sw U8 55 12 (.v (.bool false) :: sw U8 68 9 (.v (.bool true) :: sw U8 78 12 (.v (.bool mi) :: sw U8 91 4 (vu :: sw U8 96 3 (vu :: sw U8 100 15 (su 2 (sw U8 117 12 [])))))))))))))) : List SV) ∧ bx = [] ∧ gs = [] ∧ ((mayT 45 (l.drop (a2 + 1))).2 = l.drop a3) ∧ (a3 ≤ l.length)) ?_ ?_
     · intro J hJ Al W I
       rcases bTF mi with rfl | rfl
       · refine zi I 92 .i64 (((a2 + 1 : Nat) : Int) + 1) (((a2 + 1 + 1 : Nat) : Int)) ((by exact iwo)) fun Al W I => a0i I J fun Al W U I => hJ _ _ _ _ _ ⟨U, (a2 + 1 + 1), rfl, rfl, rfl, ((mqd 45 l (a2 + 1)).2.2.1 hmi).2, ((mqd 45 l (a2 + 1)).2.2.1 hmi).1.1⟩ (I.pick [])
       exact a0i I J fun Al W U I => hJ _ _ _ _ _ ⟨U, (a2 + 1), rfl, rfl, rfl, ((mqd 45 l (a2 + 1)).2.2.2 hmi), ((mqd 101 l a2).2.2.1 hpe).1.1⟩ (I.pick [])
     rintro _ _ _ ⟨U8, a3, rfl, rfl, rfl, hr3, ha3⟩ Al W I
     refine g0e I (fun gk fr bx gs => ∃ (U902 : Nat → Value) (m : Nat) (n : Nat), fr = (.v (.string s) :: .v undef :: sw U4 2 4 (.v (.int .i64 ((a3 + m : Nat) : Int)) :: .v (.bool g) :: .v (.string (a0d E)) :: .v (.int .i64 pw) :: .v (.bool mi) :: .v (.int .i64 (n : Int)) :: .v (.int .i64 (m : Int)) :: sw U902 13 8 (.v (.bool g) :: sw U902 22 4 (.v (.bool false) :: sw U902 27 18 (.v (.bool p) :: sw U902 46 5 (.v (U4 51) :: sw U902 52 2 (.v (U4 54) :: sw U902 55 12 (.v (.bool false) :: sw U902 68 9 (.v (.bool true) :: sw U902 78 12 (.v (.bool mi) :: sw U902 91 24 (su 2 (sw U902 117 12 []))))))))))) : List SV) ∧ bx = [] ∧ gs = [] ∧ (n < 10000000 ∧ (m ≤ 6 → n = a0l ((l.drop a3).take m) ∧ n < 10 ^ m)) ∧ (∀ i, i < m → isDg (dg l (a3 + i)) = true) ∧ (a3 + m ≤ l.length) ∧ (gk + (a3 + m) = l.length + a3)) l.length (fun Al W U I => ⟨_, ⟨U, 0, 0, rfl, rfl, rfl, ⟨by omega, fun _ => ⟨rfl, by omega⟩⟩, (fun i hi => absurd hi (Nat.not_lt_zero i)), ha3, (by omega)⟩, I.pick []⟩) ?_
     rintro J2 gk2 _ _ _ ⟨U902, m, n, rfl, rfl, rfl, hn, hall3, hm, hgk2⟩ hJ2 Al W I
     by_cases h25 : dOk l (a3 + m)
     · refine zq I (fun Al W I => (HY (a3 + m) h25 W).out) fun Al W I => ?_
       rcases bTF (decide ((m : Int) < 6)) with f99 | f99
       · refine zb I 99 (decide ((m : Int) < 6)) (true) (f99) fun Al W I => ?_
         have hst := q1v (hn.2 (by have := oTr f99; omega)).2 (by have := oTr f99; omega) (d0d.1 h25.2)
         refine zi I 101 .i64 ((10 : Int) * (n : Int)) (((10 * n : Nat) : Int)) ((by exact iwo)) fun Al W I => zx I 104 (fun _ => .int .u8 ((dg l (a3 + m) : Nat) : Int)) (fun Al W I => (hix W (a3 + m) h25.1)) fun Al W I => zi I 105 .i64 ((dg l (a3 + m) : Nat) : Int) ((dg l (a3 + m) : Nat) : Int) (iwo) fun Al W I => zi I 106 .i64 (((10 * n : Nat) : Int) + ((dg l (a3 + m) : Nat) : Int)) (((10 * n + dg l (a3 + m) : Nat) : Int)) ((by exact IntWalk.i64_in _ (by have := hbd (a3 + m); omega))) fun Al W I => zi I 107 .i64 (((10 * n + dg l (a3 + m) : Nat) : Int) - 48) (((10 * n + (dg l (a3 + m) - 48) : Nat) : Int)) ((by rw [show ((10 * n + dg l (a3 + m) : Nat) : Int) - 48 = ((10 * n + (dg l (a3 + m) - 48) : Nat) : Int) by have := (d0d.1 h25.2).1; omega]; exact iwo)) fun Al W I => zi I 109 .i64 ((m : Int) + 1) (((m + 1 : Nat) : Int)) ((by exact IntWalk.i64_in _ (by have := h25.1; omega))) fun Al W I => zi I 97 .i64 (((a3 + m : Nat) : Int) + 1) (((a3 + (m + 1) : Nat) : Int)) ((by exact IntWalk.i64_in _ (by have := h25.1; omega))) fun Al W I => a0i I J2 fun Al W U I => hJ2 (gk2 - 1) _ _ _ _ _ ((by have := h25.1; omega)) ⟨U, m + 1, (10 * n + (dg l (a3 + m) - 48)), rfl, rfl, rfl, ⟨by omega, fun h => ⟨by rw [h0c h25.1, m0x, ← (hn.2 (by omega)).1], hst.2⟩⟩, (o0c hall3 h25.2), (by have := h25.1; omega), (by have := h25.1; omega)⟩ (I.pick [])
       refine zb I 99 (decide ((m : Int) < 6)) (false) (f99) fun Al W I => zi I 109 .i64 ((m : Int) + 1) (((m + 1 : Nat) : Int)) ((by exact IntWalk.i64_in _ (by have := h25.1; omega))) fun Al W I => zi I 97 .i64 (((a3 + m : Nat) : Int) + 1) (((a3 + (m + 1) : Nat) : Int)) ((by exact IntWalk.i64_in _ (by have := h25.1; omega))) fun Al W I => a0i I J2 fun Al W U I => hJ2 (gk2 - 1) _ _ _ _ _ ((by have := h25.1; omega)) ⟨U, m + 1, n, rfl, rfl, rfl, ⟨hn.1, fun h => by have := oFa f99; omega⟩, (o0c hall3 h25.2), (by have := h25.1; omega), (by have := h25.1; omega)⟩ (I.pick [])
     refine zq I (fun Al W I => (HN (a3 + m) h25 W).out) fun Al W I => ?_
     rcases bTF (decide ((m : Int) < 1)) with f111 | f111
     · refine zb I 111 (decide ((m : Int) < 1)) (true) (f111) fun Al W I => zret I (v := fun Al => .tuple #[.bool false, Go.Value.string (ByteArray.mk #[]), vI 0, .bool false]) fun Al W I => ?_
       first | exact ⟨g, E, q, (l.drop a5).isEmpty, rfl, ⟨g0r (hgg ▸ hN2) f67 hQ (by omega), hbE⟩, I.below⟩ | exact ⟨false, [], 0, false, rfl, ⟨by rw [hN2]; unfold numE; rw [if_pos (List.isEmpty_iff.1 f67)]; rfl, fun _ h => (nomatch h)⟩, I.below⟩ | exact ⟨false, [], 0, false, rfl, ⟨by rw [hN2]; unfold numE; rw [if_neg (fun h => by rw [h] at f67; cases f67), u0t hpe hmi hr3 hm hall3 h25, if_pos (by exact .inl (by have := oTr f111; omega))]; rfl, fun _ h => (nomatch h)⟩, I.below⟩
     refine zb I 111 (decide ((m : Int) < 1)) (false) (f111) fun Al W I => ?_
     rcases bTF (decide ((m : Int) > 5)) with f114 | f114
     · refine zb I 114 (decide ((m : Int) > 5)) (true) (f114) fun Al W I => zret I (v := fun Al => .tuple #[.bool false, Go.Value.string (ByteArray.mk #[]), vI 0, .bool false]) fun Al W I => ?_
       first | exact ⟨g, E, q, (l.drop a5).isEmpty, rfl, ⟨g0r (hgg ▸ hN2) f67 hQ (by omega), hbE⟩, I.below⟩ | exact ⟨false, [], 0, false, rfl, ⟨by rw [hN2]; unfold numE; rw [if_pos (List.isEmpty_iff.1 f67)]; rfl, fun _ h => (nomatch h)⟩, I.below⟩ | exact ⟨false, [], 0, false, rfl, ⟨by rw [hN2]; unfold numE; rw [if_neg (fun h => by rw [h] at f67; cases f67), u0t hpe hmi hr3 hm hall3 h25, if_pos (by exact .inr (by have := oTr f114; omega))]; rfl, fun _ h => (nomatch h)⟩, I.below⟩
     refine zb I 114 (decide ((m : Int) > 5)) (false) (f114) fun Al W I => zcut I (some 2000116) (fun fr bx gs => ∃ (U9 : Nat → Value) (nn : Int), fr = (.v (.string s) :: vu :: sw U4 2 4 (.v (vI ((a3 + m : Nat) : Int)) :: .v (.bool g) :: .v (.string (a0d E)) :: .v (vI pw) :: .v (.bool mi) :: .v (vI nn) :: .v (vI (m : Int)) :: sw U9 13 8 (.v (.bool g) :: sw U9 22 4 (.v (.bool false) :: sw U9 27 18 (.v (.bool p) :: sw U9 46 5 (.v (U4 51) :: sw U9 52 2 (.v (U4 54) :: sw U9 55 12 (.v (.bool false) :: sw U9 68 9 (.v (.bool true) :: sw U9 78 12 (.v (.bool mi) :: sw U9 91 4 (.v (.bool false) :: sw U9 96 3 (.v (U902 99) :: sw U9 100 15 (.v (.bool false) :: .v (.bool mi) :: sw U9 117 12 [])))))))))))) : List SV) ∧ bx = [] ∧ gs = [] ∧ (nn = if mi then -((a0l ((l.drop a3).take m) : Nat) : Int) else ((a0l ((l.drop a3).take m) : Nat) : Int)) ∧ (-100000 ≤ nn ∧ nn ≤ 100000)) ?_ ?_
     · intro J hJ Al W I
       rcases bTF mi with rfl | rfl
       · refine zi I 118 .i64 (0 - (n : Int)) ((-(n : Int))) ((by rw [Int.zero_sub]; exact iwo)) fun Al W I => a0i I J fun Al W U I => hJ _ _ _ _ _ ⟨U, (-(n : Int)), rfl, rfl, rfl, (by rw [if_pos rfl, (hn.2 (by have := oFa f114; omega)).1]), (by have := i1n (hn.2 (by have := oFa f114; omega)).2 (by have := oFa f114; omega); omega)⟩ (I.pick [])
       exact a0i I J fun Al W U I => hJ _ _ _ _ _ ⟨U, (n : Int), rfl, rfl, rfl, (by rw [if_neg Bool.false_ne_true, (hn.2 (by have := oFa f114; omega)).1]), (by have := i1n (hn.2 (by have := oFa f114; omega)).2 (by have := oFa f114; omega); omega)⟩ (I.pick [])
     rintro _ _ _ ⟨U9, nn, rfl, rfl, rfl, hnn, hnb⟩ Al W I
     refine zi I 121 .i64 (pw + nn) ((pw + nn)) ((by exact iwo)) fun Al W I => a0i I J fun Al W U I => hJ _ _ _ _ _ ⟨U, (pw + nn), (a3 + m), rfl, rfl, rfl, (by rw [u0t hpe hmi hr3 hm hall3 h25, if_neg (by have := oFa f111; have := oFa f114; omega), ← hnn]; congr 2; omega), hm⟩ (I.pick [])
   exact a0i I J fun Al W U I => hJ _ _ _ _ _ ⟨U, pw, a2, rfl, rfl, rfl, (by rw [q1x hpe]; congr 2; omega), ha2⟩ (I.pick [])
 rintro _ _ _ ⟨U6, q, a5, rfl, rfl, rfl, hQ, ha5⟩ Al W I
 refine zb I 128 ((a5 : Int) == (s.size : Int)) ((l.drop a5).isEmpty) ((by rw [Bool.eq_iff_iff, beq_iff_eq, d1n l ha5]; omega)) fun Al W I => zret I (v := fun Al => .tuple #[.bool g, .string (a0d E), vI q, .bool ((l.drop a5).isEmpty)]) fun Al W I => ?_
 first | exact ⟨g, E, q, (l.drop a5).isEmpty, rfl, ⟨g0r (hgg ▸ hN2) f67 hQ (by omega), hbE⟩, I.below⟩ | exact ⟨false, [], 0, false, rfl, ⟨by rw [hN2]; unfold numE; rw [if_pos (List.isEmpty_iff.1 f67)]; rfl, fun _ h => (nomatch h)⟩, I.below⟩
theorem q0r (n : Int) (w : World) (hn : IsFm n) : Calls Tryz.prog 125 #[.int .i64 n] w fun en w' => en = .returned (.agg #[.int .i64 (((fmt n).nothM.cls : Nat) : Int), .bool false, .bool false, .slice none 0 0, .int .i64 0]) ∧ Below w.heap.size w w' := by
 have HF := fun W => hi0 (b0w n W)
 rw [decide_eq_true hn] at HF
 have G := b0j hn
 generalize fmt n = f at *
 have hf := G.fam
 unfold Fm.nothM
 simp only
 rcases hf with h | h | h
 · rw [h] at HF ⊢
   clear h
   have I := Inv.start w [] True.intro
   refine a0g [.v (.int .i64 n)] I Tryz.func125 ?_
   refine zq I (fun Al W I => (HF W).out) fun Al W I => zrb I
 · rw [h] at HF ⊢
   clear h
   have I := Inv.start w [] True.intro
   refine a0g [.v (.int .i64 n)] I Tryz.func125 ?_
   refine zq I (fun Al W I => (HF W).out) fun Al W I => zrb I
 · rw [h] at HF ⊢
   clear h
   have I := Inv.start w [] True.intro
   refine a0g [.v (.int .i64 n)] I Tryz.func125 ?_
   refine zq I (fun Al W I => (HF W).out) fun Al W I => zrb I
theorem x0i (n : Int) (g : Bool) (w : World) (hn : IsFm n) : Calls Tryz.prog 126 #[.int .i64 n, .bool g] w fun en w' => en = .returned (.agg #[.int .i64 1, .bool (g && decide ((fmt n).fam = 1)), .bool false, .slice none 0 0, .int .i64 0]) ∧ Below w.heap.size w w' := by
 have HF := fun W => hi0 (b0w n W)
 rw [decide_eq_true hn] at HF
 have G := b0j hn
 generalize fmt n = f at *
 have hb1 : ((f.fam : Int) == 1) = decide (f.fam = 1) := by rw [Bool.eq_iff_iff]; simp; omega
 generalize decide (f.fam = 1) = q at *
 cases g
 · have I := Inv.start w [] True.intro
   refine a0g [.v (.int .i64 n), .v (.bool false)] I Tryz.func126 ?_
   refine zq I (fun Al W I => (HF W).out) fun Al W I => zrb I
 · have I := Inv.start w [] True.intro
   refine a0g [.v (.int .i64 n), .v (.bool true)] I Tryz.func126 ?_
   refine zq I (fun Al W I => (HF W).out) fun Al W I => zb I 16 ((f.fam : Int) == 1) (q) (hb1) fun Al W I => zrb I
def GVr (w : World) (r : Vr) (en : Ending) (w' : World) : Prop :=
 ∃ p c, en = .returned (.agg #[.int .i64 (r.cls : Int), .bool r.neg, .bool r.x.neg, .slice p (dig B16 r.x.m).length c, .int .i64 r.x.e]) ∧ Rf w' w.heap.size p c (dig B16 r.x.m) ∧ Below w.heap.size w w'
def GVf (w : World) (base : Nat) (r : Vr × Nat) (en : Ending) (w' : World) : Prop :=
 ∃ p c, en = .returned (.tuple #[.agg #[.int .i64 ((r.1.cls : Nat) : Int), .bool r.1.neg, .bool r.1.x.neg, .slice p (dig B16 r.1.x.m).length c, .int .i64 r.1.x.e], .int .i64 ((r.2 : Nat) : Int)]) ∧ Rf w' base p c (dig B16 r.1.x.m) ∧ Below w.heap.size w w'
theorem c0m {w w' : World} {base k fl : Nat} {g : Bool} {en : Ending} (h : en = .returned (.tuple #[.agg #[.int .i64 (k : Int), .bool g, .bool false, .slice none 0 0, .int .i64 0], .int .i64 (fl : Int)])) (hb : Below w.heap.size w w') : GVf w base (⟨k, g, vz⟩, fl) en w' := by
 refine ⟨none, 0, ?_, ?_, hb⟩
 · rw [h]; show _ = Ending.returned (.tuple #[.agg #[_, _, _, .slice none (dig B16 0).length 0, _], _]); rw [a0c]; rfl
 · show Rf _ _ _ _ (dig B16 0); rw [a0c]; exact l0j _ _ _
theorem j0j (n : Int) (g : Bool) (w : World) (hn : IsFm n) : Calls Tryz.prog 124 #[.int .i64 n, .bool g] w (GVr w ((fmt n).greatM g)) := by
 have HF := fun W => hi0 (b0w n W)
 rw [decide_eq_true hn] at HF
 have G := b0j hn
 have HW := fun W => hi0 (c0t (fmt n).g W)
 generalize fmt n = f at *
 have GG := b0o G.g
 have d1 := GG.d1
 have d2 := GG.d2
 have h1 := GG.h1
 have h2 := GG.h2
 have wp := b0f f.g
 have hmw : ((wid f.g * f.g.digs.toNat : Nat) : Int) = (wid f.g : Nat) * f.g.digs := by rw [Int.natCast_mul, Int.toNat_of_nonneg (by omega)]
 have hmb : wid f.g * f.g.digs.toNat ≤ 4 * 120 := Nat.mul_le_mul wp.2 (by omega)
 have hmu := j0d (wd := wid f.g) (k := f.g.hi) (B := 17000) wp.2 (by omega)
 have hx1 : (dig B16 (2 ^ (wid f.g * f.g.digs.toNat))).length ≤ 40 := u0o (k := wid f.g * f.g.digs.toNat + 1) (Nat.pow_lt_pow_right (by omega) (Nat.lt_succ_self _)) (by omega)
 have hx2 : (dig B16 (2 ^ (wid f.g * f.g.digs.toNat) - 1)).length ≤ 40 := Nat.le_trans (a0j a0e (Nat.sub_le _ _)) hx1
 have hp1 := Nat.one_le_two_pow (n := wid f.g * f.g.digs.toNat)
 obtain ⟨d, hd⟩ : ∃ d, bare ⟨g, 2 ^ (wid f.g * f.g.digs.toNat) - 1, wid f.g * f.g.hi⟩ = d := ⟨_, rfl⟩
 have hM : f.greatM g = ⟨2, g, d⟩ := by unfold Fm.greatM; rw [hd]
 rw [hM]
 generalize wid f.g * f.g.digs.toNat = N at *
 generalize hX : 2 ^ N = X at *
 have HX := hi0 hX
 generalize hhi : (wid f.g : Int) * f.g.hi = hi at *
 have HHI := hi0 hhi
 have HM := hi0 hmw
 have HB := fun W p c h => hi0 (m0f g p _ c hi (X - 1) d W h rfl (by omega) (by omega) hd)
 clear hmw hX hhi hd hM
 have I := Inv.start w [] True.intro
 refine a0g [.v (.int .i64 n), .v (.bool g)] I Tryz.func124 ?_
 refine zq I (fun Al W I => (HF W).out) fun Al W I => zq I (fun Al W I => (HW W).out) fun Al W I => zcut I none (fun fr bx gs => ∃ (U1 : Nat → Value) (p32 : OA) (c32 : Nat), fr = (.v (vI n) :: .v (.bool g) :: su 2 (.p 0 0 :: .p 1 0 :: .v (U1 6) :: .v (vI ((wid f.g : Nat) : Int)) :: sw U1 8 26 []) : List SV) ∧ bx = [⟨30, [.v (vI 2), .v (.bool g), .v (.bool d.neg), .v (vS (dig B16 d.m) p32 c32), .v (vI d.e)], false⟩, ⟨62, [.v (vI (f.size : Int)), .v (vI (f.E : Int)), .v (vI (f.F : Int)), .v (vI f.g.rad), .v (vI f.g.digs), .v (vI f.g.lo), .v (vI f.g.hi), .v (.bool f.g.grad), .v (vI (f.fam : Int))], false⟩, ⟨3, [.v (vI 1)], false⟩] ∧ gs = [rfF w.heap.size p32 c32 (dig B16 d.m)]) ?_ ?_
 · intro J hJ Al W I
   refine zd [0] I fun Al W I => zk [0, 1, 2, 3, 4, 5] I fun I => zki 6 I .i64 (((wid f.g : Nat) : Int) * f.g.digs) ((N : Int)) ((by rw [HM.out]; exact IntWalk.i64_in _ (by rw [← HM.out]; omega))) fun I => zk [10, 11, 12, 13] I fun I => zki 14 I .i64 (((wid f.g : Nat) : Int) * f.g.hi) (hi) ((by rw [HHI.out]; exact iwo)) fun I => zo2 7 8 I (fun I => ?_) (fun I => ?_)
   · refine zqr I (fun Al W I => have hzW := I.bel.size; (by have := d1b (N : Int) N rfl (by omega) W; rw [HX.out] at this; exact this)) fun Al W p23 c23 I => zo 8 I fun I => zn I fun Al W I => zo 9 I fun I => zqr I (fun Al W I => have hzW := I.bel.size; t1g p23 (some ⟨(lk 0 Al 2), 0, none⟩) _ 1 c23 1 X 1 (X - 1) W I.fa.1.rd (n1p (I.box 2 3 _)).rd rfl w0m (by omega) (by omega) rfl) fun Al W p25 c25 I => zk [15] I fun I => zo 16 I fun I => zqr I (fun Al W I => (HB W p25 c25 I.fa.1.rd).out) fun Al W p32 c32 I => zk [17] I fun I => zo 18 I fun I => zn I fun Al W I => a0i I J fun Al W U I => hJ _ _ _ _ _ ⟨U, p32, c32, rfl, rfl, rfl⟩ (I.pick [0])
   refine zn I fun Al W I => zo 7 I fun I => zqr I (fun Al W I => have hzW := I.bel.size; (by have := d1b (N : Int) N rfl (by omega) W; rw [HX.out] at this; exact this)) fun Al W p23 c23 I => zo 9 I fun I => zqr I (fun Al W I => have hzW := I.bel.size; t1g p23 (some ⟨(lk 0 Al 2), 0, none⟩) _ 1 c23 1 X 1 (X - 1) W I.fa.1.rd (n1p (I.box 2 3 _)).rd rfl w0m (by omega) (by omega) rfl) fun Al W p25 c25 I => zk [15] I fun I => zo 16 I fun I => zqr I (fun Al W I => (HB W p25 c25 I.fa.1.rd).out) fun Al W p32 c32 I => zk [17] I fun I => zo 18 I fun I => zn I fun Al W I => a0i I J fun Al W U I => hJ _ _ _ _ _ ⟨U, p32, c32, rfl, rfl, rfl⟩ (I.pick [0])
 rintro _ _ _ ⟨U1, p32, c32, rfl, rfl, rfl⟩ Al W I
 exact zret I fun Al W I => ⟨p32, c32, rfl, I.fa.1, I.below⟩
theorem u1u (n way : Int) (ng : Bool) (d : Nat) (pw : Int) (pp : OA) (cc : Nat) (w : World) (hn : IsFm n) (ex un : Bool) (hf : (fmt n).fam = 2) :
 Calls Tryz.prog 72 #[.int .i64 n, .agg #[.bool ng, .slice pp (dig B16 d).length cc, .int .i64 pw, .bool ex, .bool true, .bool un], .int .i64 way] w (GVf w w.heap.size ((fmt n).greatM ng, 5)) := by
 have HF := fun W => hi0 (b0w n W)
 rw [decide_eq_true hn, hf] at HF
 have HG := fun W => hi0 (j0j n ng W hn)
 generalize (fmt n).greatM ng = r at *
 generalize fmt n = f at *
 clear hf hn
 cases ex
 · have I := Inv.start w [] True.intro
   refine a0g [.v (.int .i64 n), .v (.agg #[.bool ng, .slice pp (dig B16 d).length cc, .int .i64 pw, .bool false, .bool true, .bool un]), .v (.int .i64 way)] I Tryz.func72 ?_
   refine zq I (fun Al W I => (HF W).out) fun Al W I => zqr I (fun Al W I => (HG W).out) fun Al W p28 c28 I => zret I fun Al W I => ⟨p28, c28, rfl, I.fa.1, I.below⟩
 · have I := Inv.start w [] True.intro
   refine a0g [.v (.int .i64 n), .v (.agg #[.bool ng, .slice pp (dig B16 d).length cc, .int .i64 pw, .bool true, .bool true, .bool un]), .v (.int .i64 way)] I Tryz.func72 ?_
   refine zq I (fun Al W I => (HF W).out) fun Al W I => zqr I (fun Al W I => (HG W).out) fun Al W p28 c28 I => zret I fun Al W I => ⟨p28, c28, rfl, I.fa.1, I.below⟩
theorem u1v (n way : Int) (ng : Bool) (d : Nat) (pw : Int) (pp : OA) (cc : Nat) (w : World) (hn : IsFm n) (ex un : Bool) (hf : (fmt n).fam = 3) :
 Calls Tryz.prog 72 #[.int .i64 n, .agg #[.bool ng, .slice pp (dig B16 d).length cc, .int .i64 pw, .bool ex, .bool true, .bool un], .int .i64 way] w (GVf w w.heap.size ((fmt n).nothM, 5)) := by
 have HF := fun W => hi0 (b0w n W)
 rw [decide_eq_true hn, hf] at HF
 have HG := fun W => hi0 (q0r n W hn)
 have hr : (fmt n).nothM = ⟨(fmt n).nothM.cls, false, vz⟩ := rfl
 rw [hr]
 generalize (fmt n).nothM.cls = k at *
 generalize fmt n = f at *
 clear hf hn
 cases ex
 · have I := Inv.start w [] True.intro
   refine a0g [.v (.int .i64 n), .v (.agg #[.bool ng, .slice pp (dig B16 d).length cc, .int .i64 pw, .bool false, .bool true, .bool un]), .v (.int .i64 way)] I Tryz.func72 ?_
   refine zq I (fun Al W I => (HF W).out) fun Al W I => zq I (fun Al W I => (HG W).out) fun Al W I => zret I fun Al W I => c0m (k := k) (fl := 5) rfl I.below
 · have I := Inv.start w [] True.intro
   refine a0g [.v (.int .i64 n), .v (.agg #[.bool ng, .slice pp (dig B16 d).length cc, .int .i64 pw, .bool true, .bool true, .bool un]), .v (.int .i64 way)] I Tryz.func72 ?_
   refine zq I (fun Al W I => (HF W).out) fun Al W I => zq I (fun Al W I => (HG W).out) fun Al W I => zret I fun Al W I => c0m (k := k) (fl := 5) rfl I.below
theorem u1w (n way : Int) (ng : Bool) (d : Nat) (pw : Int) (pp : OA) (cc : Nat) (w : World) (hn : IsFm n) (ex un : Bool) (hf : (fmt n).fam = 1) (hw : 1 ≤ way ∧ way ≤ 5) :
 Calls Tryz.prog 72 #[.int .i64 n, .agg #[.bool ng, .slice pp (dig B16 d).length cc, .int .i64 pw, .bool ex, .bool true, .bool un], .int .i64 way] w (GVf w w.heap.size (if way ≤ 2 ∨ (way = 4 ∧ ng = false) ∨ (way = 5 ∧ ng = true) then infM ng else (fmt n).greatM ng, 5)) := by
 have HF := fun W => hi0 (b0w n W)
 rw [decide_eq_true hn, hf] at HF
 have HG := fun W => hi0 (j0j n ng W hn)
 generalize fmt n = f at *
 clear hf hn
 rcases (show way = 1 ∨ way = 2 ∨ way = 3 ∨ way = 4 ∨ way = 5 by omega) with rfl | rfl | rfl | rfl | rfl <;> cases ng <;> cases ex
 · rw [if_pos (by decide)]
   have I := Inv.start w [] True.intro
   refine a0g [.v (.int .i64 n), .v (.agg #[.bool false, .slice pp (dig B16 d).length cc, .int .i64 pw, .bool false, .bool true, .bool un]), .v (.int .i64 1)] I Tryz.func72 ?_
   refine zq I (fun Al W I => (HF W).out) fun Al W I => zret I fun Al W I => c0m (k := 3) (fl := 5) rfl I.below
 · rw [if_pos (by decide)]
   have I := Inv.start w [] True.intro
   refine a0g [.v (.int .i64 n), .v (.agg #[.bool false, .slice pp (dig B16 d).length cc, .int .i64 pw, .bool true, .bool true, .bool un]), .v (.int .i64 1)] I Tryz.func72 ?_
   refine zq I (fun Al W I => (HF W).out) fun Al W I => zret I fun Al W I => c0m (k := 3) (fl := 5) rfl I.below
 · rw [if_pos (by decide)]
   have I := Inv.start w [] True.intro
   refine a0g [.v (.int .i64 n), .v (.agg #[.bool true, .slice pp (dig B16 d).length cc, .int .i64 pw, .bool false, .bool true, .bool un]), .v (.int .i64 1)] I Tryz.func72 ?_
   refine zq I (fun Al W I => (HF W).out) fun Al W I => zret I fun Al W I => c0m (k := 3) (fl := 5) rfl I.below
 · rw [if_pos (by decide)]
   have I := Inv.start w [] True.intro
   refine a0g [.v (.int .i64 n), .v (.agg #[.bool true, .slice pp (dig B16 d).length cc, .int .i64 pw, .bool true, .bool true, .bool un]), .v (.int .i64 1)] I Tryz.func72 ?_
   refine zq I (fun Al W I => (HF W).out) fun Al W I => zret I fun Al W I => c0m (k := 3) (fl := 5) rfl I.below
 · rw [if_pos (by decide)]
   have I := Inv.start w [] True.intro
   refine a0g [.v (.int .i64 n), .v (.agg #[.bool false, .slice pp (dig B16 d).length cc, .int .i64 pw, .bool false, .bool true, .bool un]), .v (.int .i64 2)] I Tryz.func72 ?_
   refine zq I (fun Al W I => (HF W).out) fun Al W I => zret I fun Al W I => c0m (k := 3) (fl := 5) rfl I.below
 · rw [if_pos (by decide)]
   have I := Inv.start w [] True.intro
   refine a0g [.v (.int .i64 n), .v (.agg #[.bool false, .slice pp (dig B16 d).length cc, .int .i64 pw, .bool true, .bool true, .bool un]), .v (.int .i64 2)] I Tryz.func72 ?_
   refine zq I (fun Al W I => (HF W).out) fun Al W I => zret I fun Al W I => c0m (k := 3) (fl := 5) rfl I.below
 · rw [if_pos (by decide)]
   have I := Inv.start w [] True.intro
   refine a0g [.v (.int .i64 n), .v (.agg #[.bool true, .slice pp (dig B16 d).length cc, .int .i64 pw, .bool false, .bool true, .bool un]), .v (.int .i64 2)] I Tryz.func72 ?_
   refine zq I (fun Al W I => (HF W).out) fun Al W I => zret I fun Al W I => c0m (k := 3) (fl := 5) rfl I.below
 · rw [if_pos (by decide)]
   have I := Inv.start w [] True.intro
   refine a0g [.v (.int .i64 n), .v (.agg #[.bool true, .slice pp (dig B16 d).length cc, .int .i64 pw, .bool true, .bool true, .bool un]), .v (.int .i64 2)] I Tryz.func72 ?_
   refine zq I (fun Al W I => (HF W).out) fun Al W I => zret I fun Al W I => c0m (k := 3) (fl := 5) rfl I.below
 · rw [if_neg (by decide)]
   generalize f.greatM false = r at *
   have I := Inv.start w [] True.intro
   refine a0g [.v (.int .i64 n), .v (.agg #[.bool false, .slice pp (dig B16 d).length cc, .int .i64 pw, .bool false, .bool true, .bool un]), .v (.int .i64 3)] I Tryz.func72 ?_
   refine zq I (fun Al W I => (HF W).out) fun Al W I => zqr I (fun Al W I => (HG W).out) fun Al W p61 c61 I => zret I fun Al W I => ⟨p61, c61, rfl, I.fa.1, I.below⟩
 · rw [if_neg (by decide)]
   generalize f.greatM false = r at *
   have I := Inv.start w [] True.intro
   refine a0g [.v (.int .i64 n), .v (.agg #[.bool false, .slice pp (dig B16 d).length cc, .int .i64 pw, .bool true, .bool true, .bool un]), .v (.int .i64 3)] I Tryz.func72 ?_
   refine zq I (fun Al W I => (HF W).out) fun Al W I => zqr I (fun Al W I => (HG W).out) fun Al W p61 c61 I => zret I fun Al W I => ⟨p61, c61, rfl, I.fa.1, I.below⟩
 · rw [if_neg (by decide)]
   generalize f.greatM true = r at *
   have I := Inv.start w [] True.intro
   refine a0g [.v (.int .i64 n), .v (.agg #[.bool true, .slice pp (dig B16 d).length cc, .int .i64 pw, .bool false, .bool true, .bool un]), .v (.int .i64 3)] I Tryz.func72 ?_
   refine zq I (fun Al W I => (HF W).out) fun Al W I => zqr I (fun Al W I => (HG W).out) fun Al W p61 c61 I => zret I fun Al W I => ⟨p61, c61, rfl, I.fa.1, I.below⟩
 · rw [if_neg (by decide)]
   generalize f.greatM true = r at *
   have I := Inv.start w [] True.intro
   refine a0g [.v (.int .i64 n), .v (.agg #[.bool true, .slice pp (dig B16 d).length cc, .int .i64 pw, .bool true, .bool true, .bool un]), .v (.int .i64 3)] I Tryz.func72 ?_
   refine zq I (fun Al W I => (HF W).out) fun Al W I => zqr I (fun Al W I => (HG W).out) fun Al W p61 c61 I => zret I fun Al W I => ⟨p61, c61, rfl, I.fa.1, I.below⟩
 · rw [if_pos (by decide)]
   have I := Inv.start w [] True.intro
   refine a0g [.v (.int .i64 n), .v (.agg #[.bool false, .slice pp (dig B16 d).length cc, .int .i64 pw, .bool false, .bool true, .bool un]), .v (.int .i64 4)] I Tryz.func72 ?_
   refine zq I (fun Al W I => (HF W).out) fun Al W I => zret I fun Al W I => c0m (k := 3) (fl := 5) rfl I.below
 · rw [if_pos (by decide)]
   have I := Inv.start w [] True.intro
   refine a0g [.v (.int .i64 n), .v (.agg #[.bool false, .slice pp (dig B16 d).length cc, .int .i64 pw, .bool true, .bool true, .bool un]), .v (.int .i64 4)] I Tryz.func72 ?_
   refine zq I (fun Al W I => (HF W).out) fun Al W I => zret I fun Al W I => c0m (k := 3) (fl := 5) rfl I.below
 · rw [if_neg (by decide)]
   generalize f.greatM true = r at *
   have I := Inv.start w [] True.intro
   refine a0g [.v (.int .i64 n), .v (.agg #[.bool true, .slice pp (dig B16 d).length cc, .int .i64 pw, .bool false, .bool true, .bool un]), .v (.int .i64 4)] I Tryz.func72 ?_
   refine zq I (fun Al W I => (HF W).out) fun Al W I => zqr I (fun Al W I => (HG W).out) fun Al W p61 c61 I => zret I fun Al W I => ⟨p61, c61, rfl, I.fa.1, I.below⟩
 · rw [if_neg (by decide)]
   generalize f.greatM true = r at *
   have I := Inv.start w [] True.intro
   refine a0g [.v (.int .i64 n), .v (.agg #[.bool true, .slice pp (dig B16 d).length cc, .int .i64 pw, .bool true, .bool true, .bool un]), .v (.int .i64 4)] I Tryz.func72 ?_
   refine zq I (fun Al W I => (HF W).out) fun Al W I => zqr I (fun Al W I => (HG W).out) fun Al W p61 c61 I => zret I fun Al W I => ⟨p61, c61, rfl, I.fa.1, I.below⟩
 · rw [if_neg (by decide)]
   generalize f.greatM false = r at *
   have I := Inv.start w [] True.intro
   refine a0g [.v (.int .i64 n), .v (.agg #[.bool false, .slice pp (dig B16 d).length cc, .int .i64 pw, .bool false, .bool true, .bool un]), .v (.int .i64 5)] I Tryz.func72 ?_
   refine zq I (fun Al W I => (HF W).out) fun Al W I => zqr I (fun Al W I => (HG W).out) fun Al W p61 c61 I => zret I fun Al W I => ⟨p61, c61, rfl, I.fa.1, I.below⟩
 · rw [if_neg (by decide)]
   generalize f.greatM false = r at *
   have I := Inv.start w [] True.intro
   refine a0g [.v (.int .i64 n), .v (.agg #[.bool false, .slice pp (dig B16 d).length cc, .int .i64 pw, .bool true, .bool true, .bool un]), .v (.int .i64 5)] I Tryz.func72 ?_
   refine zq I (fun Al W I => (HF W).out) fun Al W I => zqr I (fun Al W I => (HG W).out) fun Al W p61 c61 I => zret I fun Al W I => ⟨p61, c61, rfl, I.fa.1, I.below⟩
 · rw [if_pos (by decide)]
   have I := Inv.start w [] True.intro
   refine a0g [.v (.int .i64 n), .v (.agg #[.bool true, .slice pp (dig B16 d).length cc, .int .i64 pw, .bool false, .bool true, .bool un]), .v (.int .i64 5)] I Tryz.func72 ?_
   refine zq I (fun Al W I => (HF W).out) fun Al W I => zret I fun Al W I => c0m (k := 3) (fl := 5) rfl I.below
 · rw [if_pos (by decide)]
   have I := Inv.start w [] True.intro
   refine a0g [.v (.int .i64 n), .v (.agg #[.bool true, .slice pp (dig B16 d).length cc, .int .i64 pw, .bool true, .bool true, .bool un]), .v (.int .i64 5)] I Tryz.func72 ?_
   refine zq I (fun Al W I => (HF W).out) fun Al W I => zret I fun Al W I => c0m (k := 3) (fl := 5) rfl I.below
theorem pr_n (n way : Int) (ng : Bool) (d : Nat) (pw : Int) (pp : OA) (cc : Nat) (w : World) (hn : IsFm n) (hp : Rd w .i64 pp (dig B16 d)) (hl : (dig B16 d).length ≤ 1000) (ex un : Bool) (hpw : ¬ (un = true ∧ (fmt n).fam ≠ 1 ∧ pw < (fmt n).g.lo) → -20000 ≤ pw ∧ pw ≤ 20000) :
 Calls Tryz.prog 72 #[.int .i64 n, .agg #[.bool ng, .slice pp (dig B16 d).length cc, .int .i64 pw, .bool ex, .bool false, .bool un], .int .i64 way] w (GVf w w.heap.size ((fmt n).placedM ⟨ng, d, pw, ex, false, un⟩ way)) := by
 have HF := fun W => hi0 (b0w n W)
 rw [decide_eq_true hn] at HF
 have HZ := fun g W => hi0 (x0i n g W hn)
 have hz : ∀ g, (fmt n).zeroM g = ⟨1, g && decide ((fmt n).fam = 1), vz⟩ := fun _ => rfl
 have HW := fun W => hi0 (c0t (fmt n).g W)
 have hM : (fmt n).placedM ⟨ng, d, pw, ex, false, un⟩ way = if un = true ∧ (fmt n).fam ≠ 1 ∧ pw < (fmt n).g.lo then ((fmt n).zeroM false, 3) else if d = 0 then ((fmt n).zeroM ng, (fmt n).flP ⟨ng, d, pw, ex, false, un⟩) else (⟨2, ng, bare ⟨ng, d, wid (fmt n).g * pw⟩⟩, (fmt n).flP ⟨ng, d, pw, ex, false, un⟩) := by unfold Fm.placedM; simp only [Bool.false_eq_true, if_false]
 have hFL : (fmt n).flP ⟨ng, d, pw, ex, false, un⟩ = if un then (if (fmt n).fam = 1 then (if ex then 0 else 3) else 3) else if ex then 0 else 1 := rfl
 have G := b0j hn
 simp only [hz, Bool.false_and] at hM
 generalize (fmt n).placedM ⟨ng, d, pw, ex, false, un⟩ way = R at *
 generalize (fmt n).flP ⟨ng, d, pw, ex, false, un⟩ = FL at *
 generalize fmt n = f at *
 have hfam := G.fam
 have wp := b0f f.g
 have hmu := fun h => j0d (wd := wid f.g) (k := pw) (B := 20000) wp.2 (hpw h)
 have h0 := a0f a0e d
 generalize hm : (wid f.g : Int) * pw = mw at *
 have HM := hi0 hm
 obtain ⟨x, hx⟩ : ∃ x, bare ⟨ng, d, mw⟩ = x := ⟨_, rfl⟩
 rw [hx] at hM
 have HB := fun hk W p c h => hi0 (m0f ng p _ c mw d x W h rfl (by have := hmu hk; omega) (by have := hmu hk; omega) hx)
 clear hm hx hz
 generalize hq : (fun g : Bool => g && decide (f.fam = 1)) = q
 have hq2 : ∀ g : Bool, (g && decide (f.fam = 1)) = q g := fun g => by rw [← hq]
 have hq3 : q false = false := by rw [← hq]; rfl
 simp only [hq2] at hM HZ
 clear hq hq2
 let aA : Box := ⟨62, [.v (.int .i64 (f.size : Int)), .v (.int .i64 (f.E : Int)), .v (.int .i64 (f.F : Int)), .v (.int .i64 f.g.rad), .v (.int .i64 f.g.digs), .v (.int .i64 f.g.lo), .v (.int .i64 f.g.hi), .v (.bool f.g.grad), .v (.int .i64 (f.fam : Int))], false⟩
 let aB : Box := ⟨134, [.v (.bool ng), .v (.slice pp (dig B16 d).length cc), .v (.int .i64 pw), .v (.bool ex), .v (.bool false), .v (.bool un)], false⟩
 let aC : Box := ⟨30, [.v (.int .i64 0), .v (.bool false), .v (.bool false), .v (.slice none 0 0), .v (.int .i64 0)], false⟩
 let aD : SV := .v (.agg #[.bool ng, .slice pp (dig B16 d).length cc, .int .i64 pw, .bool ex, .bool false, .bool un])
 have I := Inv.start w [rdF .i64 pp (dig B16 d)] ⟨hp, True.intro⟩
 refine a0g [.v (.int .i64 n), .v (.agg #[.bool ng, .slice pp (dig B16 d).length cc, .int .i64 pw, .bool ex, .bool false, .bool un]), .v (.int .i64 way)] I Tryz.func72 ?_
 refine zq I (fun Al W I => (HF W).out) fun Al W I => ?_
 obtain ⟨ne, hne⟩ : ∃ ne, (!ex) = ne := ⟨_, rfl⟩
 refine zb I 18 (!ex) (ne) (hne) fun Al W I => zcut I (some 2000018) (fun fr bx gs => ∃ (U1 : Nat → Value) (k1 : Nat), fr = (.v (vI n) :: aD :: .v (vI way) :: vu :: .p 0 0 :: vu :: .p 1 0 :: .v (vI 0) :: .p 2 0 :: .v (U1 9) :: .v (vI (k1 : Int)) :: sw U1 11 7 (.v (.bool ne) :: .v (U1 19) :: vu :: .v (U1 21) :: su 2 (sw U1 24 6 (vu :: sw U1 31 22 (vu :: sw U1 54 10 (vu :: sw U1 65 7 (vu :: sw U1 73 2 (vu :: sw U1 76 5 (vu :: sw U1 82 6 (vu :: sw U1 89 21 []))))))))) : List SV) ∧ bx = [aB, aC, aA] ∧ gs = [rdF .i64 pp (dig B16 d)] ∧ (k1 = if ex then 0 else 1)) ?_ ?_
 · intro J hJ Al W I
   rcases bTF ne with rfl | rfl
   · exact a0i I J fun Al W U I => hJ _ _ _ _ _ ⟨U, 1, rfl, rfl, rfl, (by revert hne; cases ex <;> simp)⟩ (I.pick [0])
   exact a0i I J fun Al W U I => hJ _ _ _ _ _ ⟨U, 0, rfl, rfl, rfl, (by revert hne; cases ex <;> simp)⟩ (I.pick [0])
 rintro _ _ _ ⟨U1, k1, rfl, rfl, rfl, hk1⟩ Al W I
 obtain ⟨ub, hub⟩ : ∃ ub, un = ub := ⟨_, rfl⟩
 refine zb I 64 (un) (ub) (hub) fun Al W I => zcut I (some 2000064) (fun fr bx gs => ∃ (U2 : Nat → Value) (k2 : Nat), fr = (.v (vI n) :: aD :: .v (vI way) :: vu :: .p 0 0 :: vu :: .p 1 0 :: .v (U2 7) :: .p 2 0 :: .v (U2 9) :: .v (vI (k2 : Int)) :: sw U2 11 7 (.v (.bool ne) :: .v (U2 19) :: .v (.bool false) :: .v (U2 21) :: su 2 (sw U2 24 6 (vu :: sw U2 31 22 (vu :: sw U2 54 10 (.v (.bool ub) :: sw U2 65 23 (vu :: sw U2 89 21 [])))))) : List SV) ∧ bx = [aB, aC, aA] ∧ gs = [rdF .i64 pp (dig B16 d)] ∧ (FL = k2) ∧ (¬ (un = true ∧ f.fam ≠ 1 ∧ pw < f.g.lo))) ?_ ?_
 · intro J hJ Al W I
   rcases bTF ub with rfl | rfl
   · by_cases h1 : f.fam = 1
     · refine zb I 67 ((f.fam : Int) == 1) (true) (beq_iff_eq.2 (by omega)) fun Al W I => ?_
       rcases bTF (!ex) with f71 | f71
       · refine zb I 71 (!ex) (true) (f71) fun Al W I => zb I 75 (decide ((f.fam : Int) > 1)) (false) (dFa (by omega)) fun Al W I => a0i I J fun Al W U I => hJ _ _ _ _ _ ⟨U, 3, rfl, rfl, rfl, (by rw [hFL, if_pos hub, if_pos h1]; revert f71; cases ex <;> simp), (fun h => h.2.1 h1)⟩ (I.pick [0])
       refine zb I 71 (!ex) (false) (f71) fun Al W I => zb I 75 (decide ((f.fam : Int) > 1)) (false) (dFa (by omega)) fun Al W I => a0i I J fun Al W U I => hJ _ _ _ _ _ ⟨U, k1, rfl, rfl, rfl, (by rw [hFL, if_pos hub, if_pos h1, hk1]; revert f71; cases ex <;> simp), (fun h => h.2.1 h1)⟩ (I.pick [0])
     refine zb I 67 ((f.fam : Int) == 1) (false) (bFn (by omega)) fun Al W I => zb I 75 (decide ((f.fam : Int) > 1)) (true) (dTr (by omega)) fun Al W I => ?_
     rcases bTF (decide (pw < f.g.lo)) with f81 | f81
     · refine zb I 81 (decide (pw < f.g.lo)) (true) (f81) fun Al W I => zq I (fun Al W I => (HZ false W).out) fun Al W I => ?_
       rw [hM, if_pos ⟨hub, h1, oTr f81⟩]
       exact zret I fun Al W I => c0m (k := 1) (fl := 3) rfl I.below
     refine zb I 81 (decide (pw < f.g.lo)) (false) (f81) fun Al W I => a0i I J fun Al W U I => hJ _ _ _ _ _ ⟨U, 3, rfl, rfl, rfl, (by rw [hFL, if_pos hub, if_neg h1]), (fun h => absurd h.2.2 (oFa f81))⟩ (I.pick [0])
   exact a0i I J fun Al W U I => hJ _ _ _ _ _ ⟨U, k1, rfl, rfl, rfl, (by rw [hFL, if_neg (by rw [hub]; simp), hk1]), (fun h => by rw [hub] at h; cases h.1)⟩ (I.pick [0])
 rintro _ _ _ ⟨U2, k2, rfl, rfl, rfl, hk2, hlo⟩ Al W I
 rcases bTF ((((dig B16 d).length : Nat) : Int) == 0) with f88 | f88
 · refine zb I 88 ((((dig B16 d).length : Nat) : Int) == 0) (true) (f88) fun Al W I => zq I (fun Al W I => (HZ ng W).out) fun Al W I => ?_
   rw [hM, if_neg hlo, if_pos (h0.1 (by have := beq_iff_eq.1 f88; omega)), hk2]
   exact zret I fun Al W I => c0m (k := 1) (fl := k2) rfl I.below
 refine zb I 88 ((((dig B16 d).length : Nat) : Int) == 0) (false) (f88) fun Al W I => zd [1] I fun Al W I => zk [0, 1, 2, 3, 4, 5, 6, 7, 9, 10, 15] I fun I => zo 8 I fun I => zq I (fun Al W I => (HW W).out) fun Al W I => zki 11 I .i64 (((wid f.g : Nat) : Int) * pw) (mw) ((by rw [HM.out]; exact IntWalk.i64_in _ (by have := hmu hlo; omega))) fun I => zk [12] I fun I => zo 13 I fun I => zqr I (fun Al W I => (HB hlo W pp cc I.fa.1).out) fun Al W p107 c107 I => zk [14] I fun I => zo 16 I fun I => zn I fun Al W I => zk [17] I fun I => ?_
 rw [hM, if_neg hlo, if_neg (fun h => by have := h0.2 h; have := bnF f88; omega), hk2]
 exact zret I fun Al W I => ⟨p107, c107, rfl, I.fa.1, I.below⟩
theorem u0u (n way : Int) (p : Pl) (pp : OA) (cc : Nat) (w : World) (hn : IsFm n) (hw : 1 ≤ way ∧ way ≤ 5) (hp : Rd w .i64 pp (dig B16 p.d)) (hl : (dig B16 p.d).length ≤ 1000) (hpw : p.over = false → ¬ (p.under = true ∧ (fmt n).fam ≠ 1 ∧ p.pow < (fmt n).g.lo) → -20000 ≤ p.pow ∧ p.pow ≤ 20000) :
 Calls Tryz.prog 72 #[.int .i64 n, .agg #[.bool p.neg, .slice pp (dig B16 p.d).length cc, .int .i64 p.pow, .bool p.exact, .bool p.over, .bool p.under], .int .i64 way] w (GVf w w.heap.size ((fmt n).placedM p way)) := by
 obtain ⟨ng, d, pw, ex, ov, un⟩ := p
 simp only at hp hl hpw ⊢
 have hfam := (b0j hn).fam
 cases ov with
 | true =>
  unfold Fm.placedM
  rw [if_pos rfl]
  by_cases f2 : (fmt n).fam = 2
  · rw [if_pos f2]; exact u1u n way ng d pw pp cc w hn ex un f2
  · rw [if_neg f2]
    by_cases f3 : (fmt n).fam = 3
    · rw [if_pos f3]; exact u1v n way ng d pw pp cc w hn ex un f3
    · rw [if_neg f3]; exact u1w n way ng d pw pp cc w hn ex un (by omega) hw
 | false =>
  exact pr_n n way ng d pw pp cc w hn hp hl ex un (fun h => hpw rfl h)
end Go.Proofs.YtpgomglbaacmdaaGreatDoor
namespace Go.Slip
open Go.RowKit
theorem Inv.rdN {E : List Nat} {w0 : World} {A : List Nat} {bx bx' : List Box} {fs fs' : List PF} {W V : World} (I : Inv E w0 A bx fs W) {k : IntKind} {p : OA} {xs : List Nat} (o : Rd W k p xs) (hat : 0 < xs.length → V.heap.size ≤ blk p) (hB : ∀ a, Fa A bx a → Fa A bx' a) (J : Inv E w0 A bx' fs' V) : Inv E w0 A bx (rdF k p xs :: fs) W :=
 I.add (rdF k p xs) o fun a ha hf => by
  have h1 := J.lt a (hB a ha)
  have h2 := hat hf.1
  have h3 := hf.2
  omega
end Go.Slip
namespace Go.Proofs.YtpgomglbaacmdaaGreatDoor
open Go.RowKit Go.Slip
structure Wp where
 r : Vr
 p : OA
 c : Nat
def Wp.cells (x : Wp) : List Value := [.int .i64 (x.r.cls : Int), .bool x.r.neg, .bool x.r.x.neg, .slice x.p (dig B16 x.r.x.m).length x.c, .int .i64 x.r.x.e]
theorem Wp.len (x : Wp) : x.cells.length = 5 := rfl
theorem t1s : k0o Tryz.prog 3 := j0l (by kernel_rfl) (by kernel_rfl)
theorem m1l {neg : Bool} {num den : Nat} {e way : Int} {f : Fm} (G : d0h f) (hd : 0 < den) (ho : (a0m neg num den e f.g way).over = false) (hz : ¬ ((a0m neg num den e f.g way).under = true ∧ f.fam ≠ 1 ∧ (a0m neg num den e f.g way).pow < f.g.lo)) :
 -20000 ≤ (a0m neg num den e f.g way).pow ∧ (a0m neg num den e f.g way).pow ≤ 20000 := by
 by_cases h0 : (a0m neg num den e f.g way).d = 0
 · have : (a0m neg num den e f.g way).pow = 0 := by
    unfold a0m at *
    by_cases hn : num = 0
    · rw [if_pos hn]
    · rw [if_neg hn] at *
      generalize theK num den e (wid f.g) f.g.digs.toNat = K at *
      have h0 : digP neg num den e (wid f.g) f.g.digs.toNat way (powK f.g K) = 0 := h0
      show (if digP neg num den e (wid f.g) f.g.digs.toNat way (powK f.g K) = 0 then 0 else powP neg num den e (wid f.g) f.g.digs.toNat way (powK f.g K)) = 0
      rw [if_pos h0]
   omega
 · have V := (j0z G (neg := neg) (num := num) (den := den) (e := e) (way := way) hd).2
   have hl := V.lo
   have hh := V.hi
   have e : f.placedV (a0m neg num den e f.g way) way = ⟨2, (a0m neg num den e f.g way).neg, (a0m neg num den e f.g way).d, (a0m neg num den e f.g way).pow⟩ := by
    unfold Fm.placedV
    rw [if_neg (by rw [ho]; simp), if_neg hz, if_neg h0]
   rw [e] at hl hh
   exact ⟨hl, hh⟩
theorem u0v (n way : Int) (ng : Bool) (p q : OA) (c d b1 b2 : Nat) (num den : Nat) (e : Int) (w : World) (hn : IsFm n) (hw : 1 ≤ way ∧ way ≤ 5) (hp : Rf w b1 p c (dig B16 num)) (hq : Rf w b2 q d (dig B16 den))
 (hl : (dig B16 num).length ≤ 20000) (hl2 : (dig B16 den).length ≤ 20000) (hd : 0 < den) (he : -200000 ≤ e ∧ e ≤ 200000) :
 Calls Tryz.prog 32 #[.int .i64 n, .agg #[.bool ng, .slice p (dig B16 num).length c, .slice q (dig B16 den).length d, .int .i64 e], .int .i64 way] w (GVf w w.heap.size ((fmt n).placedM (a0m ng num den e (fmt n).g way) way)) := by
 have HF := fun W => hi0 (b0w n W)
 rw [decide_eq_true hn] at HF
 have G := b0j hn
 have GG := b0o G.g
 have HR := fun W h1 h2 => hi0 (q0o ng p q c d num den e (fmt n).g way W h1 h2 hl hl2 hd he GG hw.1 hw.2)
 have hlen := z0d (neg := ng) (num := num) (e := e) (way := way) hd GG
 have HP := fun W pp cc h1 => hi0 (u0u n way (a0m ng num den e (fmt n).g way) pp cc W hn hw h1 (by have := h0i (a0m ng num den e (fmt n).g way).d; omega) (m1l G hd))
 generalize a0m ng num den e (fmt n).g way = P at *
 obtain ⟨r, fl, hr⟩ : ∃ r fl, (fmt n).placedM P way = (r, fl) := ⟨_, _, rfl⟩
 rw [hr] at HP ⊢
 unfold GVf at HP
 simp only at HP
 clear hr
 generalize fmt n = f at *
 have I := Inv.start w [rfF b1 p c (dig B16 num), rfF b2 q d (dig B16 den)] ⟨hp, hq, True.intro⟩
 refine a0g [.v (.int .i64 n), .v (.agg #[.bool ng, .slice p (dig B16 num).length c, .slice q (dig B16 den).length d, .int .i64 e]), .v (.int .i64 way)] I Tryz.func32 ?_
 refine zq I (fun Al W I => (HF W).out) fun Al W I => zg I (fun Al W I => (HR W I.fa.1.rd I.fa.2.1.rd).out) fun Al V Iv _ hB _ kz => ?_
 rintro _ W ⟨p20, c20, rfl, o20, a20, hb⟩
 refine ⟨_, rfl, kz _ _ hb fun I => ?_⟩
 have I := I.rdN o20 a20 (hB _) Iv
 refine zqr I (fun Al W I => (HP W p20 c20 I.fa.1).out) fun Al W p22 c22 I => zret I fun Al W I => ⟨p22, c22, rfl, I.fa.1, I.below⟩
end Go.Proofs.YtpgomglbaacmdaaGreatDoor
namespace Go.Slip
open Go.RowKit
theorem z0r {n p : Nat} (h0 : 0 < p) (h : n % 5 = 0) : c0j n 1 p = c0j (n / 5) 1 (p - 1) := by
 cases p with
 | zero => omega
 | succ p => rw [c0j, if_pos ⟨h, rfl⟩]; rfl
theorem d1o {n d p : Nat} (h0 : 0 < p) (h : ¬ (n % 5 = 0 ∧ d = 1)) : c0j n d p = c0j n (d * 5) (p - 1) := by
 cases p with
 | zero => omega
 | succ p => rw [c0j, if_neg h]; rfl
theorem h0r : dig B16 5 = [5] := by rw [c0d (by decide) (by omega), Nat.mod_eq_of_lt (by decide), Nat.div_eq_of_lt (by decide), a0c]
theorem u0w {a b k : Nat} (h : a ≤ b) (hb : (dig B16 b).length ≤ k) : (dig B16 a).length ≤ k := Nat.le_trans (a0j a0e h) hb
theorem g0s (d : Nat) : (dig B16 d).length = 1 ∧ dg (dig B16 d) 0 = 1 ↔ d = 1 := by
 constructor
 · rintro ⟨h1, h2⟩
   have h3 := b0a a0e d
   cases hd : dig B16 d with
   | nil => rw [hd] at h1; cases h1
   | cons a r =>
    rw [hd] at h1 h2 h3
    obtain rfl : r = [] := by simpa using h1
    simp [dg] at h2
    subst h2
    simpa [val] using h3.symm
 · rintro rfl
   rw [show dig B16 1 = [1] by rw [c0d (by decide) (by omega), Nat.mod_eq_of_lt (by decide), Nat.div_eq_of_lt (by decide), a0c]]
   exact ⟨rfl, rfl⟩
theorem q1y {g : Bool} {ds : List Nat} {pw x y : Int} {m n d : Nat} (h0 : a0l ds ≠ 0) (hx : x ≤ 0) (h1 : 0 ≤ x ∨ x = pw) (h2 : x ≤ pw) (hm : m * 5 ^ x.toNat = a0l ds / 2 ^ tz (a0l ds) * 5 ^ pw.toNat) (hy : y = 0) (hl : c0j n d (-y).toNat = c0j m 1 (-x).toNat) :
 f0o ⟨g, ds, pw⟩ = (g, n, d, tz (a0l ds) + pw) := by
 subst hy
 have e0 : c0j n d (-(0 : Int)).toNat = (n, d) := rfl
 rw [e0] at hl
 rw [show x.toNat = 0 by omega, Nat.pow_zero, Nat.mul_one] at hm
 by_cases hp : 0 ≤ pw
 · obtain rfl : x = 0 := by omega
   have e1 : c0j m 1 (-(0 : Int)).toNat = (m, 1) := rfl
   rw [e1] at hl
   injection hl with e2 e3
   subst e2 e3
   rw [b1k h0 hp, ← hm]
 · obtain rfl : x = pw := by omega
   rw [show x.toNat = 0 by omega, Nat.pow_zero, Nat.mul_one] at hm
   rw [o0x, hm] at hl
   injection hl with e2 e3
   rw [b1l h0 hp rfl, e2, e3]
theorem i1r (g : Bool) (S : Nat) : ((bare ⟨g, S, 0⟩).m = 0 ↔ S = 0) ∧ (S ≠ 0 → (bare ⟨g, S, 0⟩).m = S / 2 ^ tz S ∧ (bare ⟨g, S, 0⟩).e = ((tz S : Nat) : Int)) := by
 by_cases h : S = 0
 · subst h
   exact ⟨iff_of_true rfl rfl, fun k => absurd rfl k⟩
 · have e : bare ⟨g, S, 0⟩ = ⟨g, S / 2 ^ tz S, 0 + tz S⟩ := by unfold bare; rw [if_neg h]
   have h2 := (b0t S (by omega)).2
   rw [e]
   exact ⟨⟨fun k => absurd k (by show S / 2 ^ tz S ≠ 0; omega), fun k => absurd k h⟩, fun _ => ⟨rfl, Int.zero_add _⟩⟩
end Go.Slip
namespace Go.Proofs.YtpgomglbaacmdaaGreatDoor
open Go.RowKit Go.Slip
theorem tvNn : l0n Tryz.prog 26 3 (.int .i64 0) 8 := tyV (by kernel_rfl) (by kernel_rfl) (by omega) rfl rfl
def m0k (w : World) (er : Int) (R : Bool × Nat × Nat × Int) (en : Ending) (w' : World) : Prop :=
 ∃ p c q d, en = .returned (.tuple #[.agg #[.bool R.1, .slice p (dig B16 R.2.1).length c, .slice q (dig B16 R.2.2.1).length d, .int .i64 R.2.2.2], .int .i64 er]) ∧ Rf w' w.heap.size p c (dig B16 R.2.1) ∧ Rf w' w.heap.size q d (dig B16 R.2.2.1) ∧ Below w.heap.size w w'
theorem c0h {w w' : World} {er k : Int} {R : Bool × Nat × Nat × Int} {en : Ending} (h : er = k ∧ R = (false, 0, 0, 0)) (he : en = .returned (.tuple #[.agg #[.bool false, .slice none 0 0, .slice none 0 0, .int .i64 0], .int .i64 k])) (hb : Below w.heap.size w w') : m0k w er R en w' := by
 obtain ⟨rfl, rfl⟩ := h
 have e : dig B16 0 = [] := a0c _
 refine ⟨none, 0, none, 0, ?_, ?_, ?_, hb⟩
 · rw [he]; simp only [e]; rfl
 · show Rf _ _ _ _ (dig B16 0); rw [e]; exact l0j _ _ _
 · show Rf _ _ _ _ (dig B16 0); rw [e]; exact l0j _ _ _
theorem u0x {w w' : World} {p : OA} {en : Ending} (he : en = .returned (.tuple #[.agg #[.bool false, .slice none 0 0, .slice p (dig B16 1).length 1, .int .i64 0], .int .i64 0])) (h : Rf w' w.heap.size p 1 (dig B16 1)) (hb : Below w.heap.size w w') : m0k w 0 (false, 0, 1, 0) en w' := by
 have e : dig B16 0 = [] := a0c _
 refine ⟨none, 0, p, 1, ?_, ?_, h, hb⟩
 · rw [he]; simp only [e]; rfl
 · show Rf _ _ _ _ (dig B16 0); rw [e]; exact l0j _ _ _
def GRq2 (w : World) (x y : Nat) (en : Ending) (w' : World) : Prop := ∃ p c q d, en = .returned (.tuple #[.slice p (dig B16 x).length c, .slice q (dig B16 y).length d]) ∧ Rf w' w.heap.size p c (dig B16 x) ∧ Below w.heap.size w w'
theorem t1t (p q : OA) (c d a : Nat) (W : World) (hp : Rd W .i64 p (dig B16 a)) (hq : Rd W .i64 q (dig B16 5)) (h1 : (dig B16 a).length ≤ 100000000) : Calls Tryz.prog 71 #[.slice p (dig B16 a).length c, .slice q (dig B16 5).length d] W (GRq2 W (a / 5) (a % 5)) :=
 (i0h p q _ _ c d a 5 W hp hq rfl rfl h1 (by rw [h0r]; decide) (by omega)).mono fun e w' ⟨p, c, q, d, h1, h2, h3, h4, _, _, _, h8⟩ => ⟨p, c, q, d, h1, a1b h2 h3 h4, h8⟩
theorem x0j (t : ByteArray) (w : World) : Calls Tryz.prog 31 #[.string t] w (m0k w (errT (a0b t).length (numl (a0b t))) (ratL (a0b t))) := by
 have hz : t.size = (a0b t).length := (a0q t).symm
 have HN := fun W h => hi0 (q0q t W h)
 have h1 := @b1h (a0b t)
 have h2 := @b1i (a0b t)
 have h3 := @w0w (a0b t)
 have h4 := @b1j (a0b t)
 have h5 := @p0x (a0b t)
 generalize errT (a0b t).length (numl (a0b t)) = er at *
 generalize ratL (a0b t) = R at *
 generalize numl (a0b t) = N at *
 generalize (a0b t).length = L at *
 have HU := fun s h1 h2 W => hi0 ((n0v s W h1 h2).mono fun _ _ => e0n.grf)
 have HB := fun g p c m d W hp hl h => hi0 (m0f g p _ c 0 m d W hp rfl hl (by omega) h)
 have HT := fun p q c d a b W hp hq h1 h2 => hi0 (r0v p q _ _ c d a b _ W hp hq rfl rfl h1 h2 rfl)
 have HI := fun p q c d a W hp hq h1 => hi0 (t1t p q c d a W hp hq h1)
 let aA : Box := ⟨78, [.v (.bool false), .v (.slice none 0 0), .v (.slice none 0 0), .v (.int .i64 0)], false⟩
 have I := Inv.start w [] True.intro
 refine a0g [.v (.string t)] I Tryz.func31 ?_
 rcases bTF (decide ((t.size : Int) > 400)) with f16 | f16
 · refine zb I 14 (decide ((t.size : Int) > 400)) (true) (f16) fun Al W I => zret I fun Al W I => c0h (h1 (by have := oTr f16; omega)) rfl I.below
 refine zb I 14 (decide ((t.size : Int) > 400)) (false) (f16) fun Al W I => zg I (fun Al W I => have hzW := I.bel.size; (HN W (by have := oFa f16; omega)).out) fun Al V Iv _ hB _ kz => ?_
 rintro _ W ⟨g, ds, pw, ok, rfl, hN, hb⟩
 refine ⟨_, rfl, kz _ _ hb fun I => ?_⟩
 rcases bTF (!ok) with f26 | f26
 · refine zb I 24 (!ok) (true) (f26) fun Al W I => zret I (v := fun Al => .tuple #[.agg #[.bool false, .slice none 0 0, .slice none 0 0, vI 0], vI 1]) fun Al W I => c0h (h2 (by have := oFa f16; omega) (by rw [hN.1, if_neg (by simpa using f26)])) rfl I.below
 refine zb I 24 (!ok) (false) (f26) fun Al W I => ?_
 rcases bTF (decide (pw < (-6000))) with f29 | f29
 · have hN2 : N = some ⟨g, ds, pw⟩ := by rw [hN.1, if_pos (by simpa using f26)]
   refine zb I 27 (decide (pw < (-6000))) (true) (f29) fun Al W I => zret I (v := fun Al => .tuple #[.agg #[.bool false, .slice none 0 0, .slice none 0 0, vI 0], vI 3]) fun Al W I => ?_
   first | exact c0h (h2 (by have := oFa f16; omega) (by rw [hN.1, if_neg (by simpa using f26)])) rfl I.below | exact c0h (h3 (by have := oFa f16; omega) hN2 (by exact .inl (oTr f29))) rfl I.below
 have hN2 : N = some ⟨g, ds, pw⟩ := by rw [hN.1, if_pos (by simpa using f26)]
 refine zb I 27 (decide (pw < (-6000))) (false) (f29) fun Al W I => ?_
 rcases bTF (decide (pw > 6000)) with f32 | f32
 · refine zb I 30 (decide (pw > 6000)) (true) (f32) fun Al W I => zret I (v := fun Al => .tuple #[.agg #[.bool false, .slice none 0 0, .slice none 0 0, vI 0], vI 3]) fun Al W I => ?_
   first | exact c0h (h2 (by have := oFa f16; omega) (by rw [hN.1, if_neg (by simpa using f26)])) rfl I.below | exact c0h (h3 (by have := oFa f16; omega) hN2 (by exact .inr (oTr f32))) rfl I.below
 refine zb I 30 (decide (pw > 6000)) (false) (f32) fun Al W I => ?_
 have hdg := (h5 hN2).1
 have hdl := (h5 hN2).2
 have hrk := h4 (by have := oFa f16; omega) hN2 (fun (h : pw < -6000 ∨ 6000 < pw) => by have := oFa f29; have := oFa f32; omega)
 have hpw : -6000 ≤ pw ∧ pw ≤ 6000 := by have := oFa f29; have := oFa f32; omega
 have uz := HU (a0d ds) (by rw [a0k]; simp only at hdl; omega) (w0x hdg)
 have hSl : (dig B16 (a0l ds)).length ≤ 800 := Nat.le_trans (i1a (B := B16) (by decide) hdg) (by simp only at hdl; omega)
 rw [a0v (fun x hx => by have := d0d.1 (hdg x hx); omega)] at uz
 have r0 := s0a (q := ⟨g, ds, pw⟩)
 have hre := fun x y m n d => @q1y g ds pw x y m n d
 simp only at r0
 generalize a0l ds = S at *
 have hol : (dig B16 (S / 2 ^ tz S)).length ≤ 800 := Nat.le_trans (a0j a0e (Nat.div_le_self _ _)) hSl
 have hzb := a1z S (n := 801) (by have := k0f S; omega)
 obtain ⟨D, hD⟩ : ∃ D, bare ⟨g, S, 0⟩ = D := ⟨_, rfl⟩
 have hbd := fun p c W hp hl => HB g p c S D W hp hl hD
 have hbz := i1r g S
 rw [hD] at hbz
 refine zg I (fun Al W I => (uz W).out) fun Al V Iv _ hB _ kz => ?_
 rintro _ W ⟨p35, c35, rfl, o35, hb⟩
 refine ⟨_, rfl, kz _ _ hb fun I => ?_⟩
 have I := I.rf o35 (hB _) Iv
 refine zg I (fun Al W I => have hzW := I.bel.size; (hbd p35 c35 W I.fa.1.rd (by omega)).out) fun Al V Iv _ hB _ kz => ?_
 rintro _ W ⟨p37, c37, rfl, o37, hb⟩
 refine ⟨_, rfl, kz _ _ hb fun I => ?_⟩
 have I := I.rf o37 (hB _) Iv
 rcases bTF ((((dig B16 D.m).length : Nat) : Int) == 0) with f41 | f41
 · refine zb I 41 ((((dig B16 D.m).length : Nat) : Int) == 0) (true) (f41) fun Al W I => zlv I 42 1 3 (dig B16 1) d0u fun Al W p42 I => zret I (v := fun Al => .tuple #[.agg #[.bool false, .slice none 0 0, .slice p42 (dig B16 1).length 1, vI 0], vI 0]) fun Al W I => ?_
   first | exact c0h (h2 (by have := oFa f16; omega) (by rw [hN.1, if_neg (by simpa using f26)])) rfl I.below | (rw [hrk.1, hrk.2, r0 (hbz.1.1 (by have := beq_iff_eq.1 f41; have := a0f a0e D.m; omega))]; exact u0x rfl I.fa.1 I.below)
 refine zb I 41 ((((dig B16 D.m).length : Nat) : Int) == 0) (false) (f41) fun Al W I => ?_
 have hS0 : S ≠ 0 := fun h => by have := a0f a0e D.m; have := bnF f41; have := hbz.1.2 h; omega
 obtain ⟨hDm, hDe⟩ := hbz.2 hS0
 rw [← hDm] at hol hre
 rw [← hDe] at hre
 obtain ⟨K6, hK6⟩ : ∃ K : Nat, K = 6000 := ⟨_, rfl⟩
 have h5l : (dig B16 (5 ^ K6)).length ≤ 6001 := g0m (K := 6001) a0e (by decide) (by omega) (by omega)
 have h5p : ∀ k : Nat, 0 < 5 ^ k := fun k => Nat.pow_pos (by omega)
 have hml : ∀ (m : Nat) (x : Int), m * 5 ^ x.toNat = D.m * 5 ^ pw.toNat → (dig B16 m).length ≤ 7000 := fun m x h => u0w (b := D.m * 5 ^ K6) (Nat.le_trans (Nat.le_mul_of_pos_right m (h5p x.toNat)) (by rw [h]; exact Nat.mul_le_mul_left _ (Nat.pow_le_pow_right (by omega) (by omega)))) (Nat.le_trans (a0x a0e _ _) (by omega))
 have hdl5 : ∀ (d : Nat) (y : Int), d * 5 ^ (-y).toNat ≤ 5 ^ K6 → (dig B16 d).length ≤ 6001 := fun d y h => u0w (Nat.le_trans (Nat.le_mul_of_pos_right d (h5p (-y).toNat)) h) h5l
 have h5five : (dig B16 5).length ≤ 10 := by rw [h0r]; decide
 refine zlv I 47 1 3 (dig B16 1) d0u fun Al W p47 I => ?_
 generalize hM6 : 5 ^ K6 = M6 at *
 refine zi I 51 .i64 (D.e + pw) ((D.e + pw)) ((by exact iwo)) fun Al W I => g0e I (fun gk fr bx gs => ∃ (U900 : Nat → Value) (x : Int) (m : Nat) (pm : OA) (cm : Nat), fr = (.v (.string t) :: .v undef :: .p 0 0 :: .v (vI 0) :: .v (.bool g) :: .v (.string (a0d ds)) :: .v (vI x) :: .v (.bool ok) :: .p 1 0 :: .p 2 0 :: su 2 (sw U900 12 2 (.v (.bool false) :: sw U900 15 9 (.v (.bool false) :: sw U900 25 6 (.v (.bool false) :: sw U900 32 9 (.v (.bool false) :: sw U900 42 21 (.v undef :: sw U900 64 24 (.v undef :: sw U900 89 8 []))))))) : List SV) ∧ bx = [aA, ⟨28, [.v (.bool D.neg), .v (vS (dig B16 D.m) p37 c37), .v (vI D.e)], false⟩, ⟨78, [.v (.bool g), .v (vS (dig B16 m) pm cm), .v (vS (dig B16 1) p47 1), .v (vI (D.e + pw))], false⟩] ∧ gs = [rfF w.heap.size pm cm (dig B16 m), rfF w.heap.size p47 1 (dig B16 1)] ∧ (x ≤ pw) ∧ (0 ≤ x ∨ x = pw) ∧ (m * 5 ^ x.toNat = D.m * 5 ^ pw.toNat) ∧ (gk = x.toNat)) pw.toNat (fun Al W U I => ⟨_, ⟨U, pw, D.m, p37, c37, rfl, rfl, rfl, (Int.le_refl _), .inr rfl, rfl, rfl⟩, I.pick [1, 0]⟩) ?_
 rintro J0 gk0 _ _ _ ⟨U900, x, m, pm, cm, rfl, rfl, rfl, hx1, hx2, hx3, hgk⟩ hJ0 Al W I
 rcases bTF (decide (x > 0)) with f54 | f54
 · refine zb I 54 (decide (x > 0)) (true) (f54) fun Al W I => zlv I 59 5 3 (dig B16 5) h0r fun Al W p59 I => zqr I (fun Al W I => have hzW := I.bel.size; (HT pm p59 cm 1 m 5 W I.fa.2.1.rd I.fa.1.rd (by have := hml m x hx3; omega) (by omega)).out) fun Al W p60 c60 I => zi I 56 .i64 (x - 1) ((x - 1)) ((by have := oTr f54; exact iwo)) fun Al W I => a0i I J0 fun Al W U I => hJ0 (gk0 - 1) _ _ _ _ _ ((by have := oTr f54; omega)) ⟨U, (x - 1), (m * 5), p60, c60, rfl, rfl, rfl, (by omega), (by have := oTr f54; omega), (by have := oTr f54; rw [← hx3, Nat.mul_assoc, show 5 * 5 ^ (x - 1).toNat = 5 ^ x.toNat by rw [show x.toNat = (x - 1).toNat + 1 by omega, Nat.pow_succ, Nat.mul_comm]]), (by have := oTr f54; omega)⟩ (I.pick [0, 3])
 refine zb I 54 (decide (x > 0)) (false) (f54) fun Al W I => g0e I (fun gk fr bx gs => ∃ (U901 : Nat → Value) (y : Int) (n : Nat) (d : Nat) (pn : OA) (cn : Nat) (pd : OA) (cd : Nat), fr = (.v (.string t) :: .v undef :: .p 0 0 :: .v (vI 0) :: .v (.bool g) :: .v (.string (a0d ds)) :: .v (vI y) :: .v (.bool ok) :: .p 1 0 :: .p 2 0 :: sw U901 10 4 (.v (.bool false) :: sw U901 15 9 (.v (.bool false) :: sw U901 25 6 (.v (.bool false) :: sw U901 32 9 (.v (.bool false) :: sw U901 42 12 (.v (.bool false) :: sw U901 55 42 []))))) : List SV) ∧ bx = [aA, ⟨28, [.v (.bool D.neg), .v (vS (dig B16 D.m) p37 c37), .v (vI D.e)], false⟩, ⟨78, [.v (.bool g), .v (vS (dig B16 n) pn cn), .v (vS (dig B16 d) pd cd), .v (vI (D.e + pw))], false⟩] ∧ gs = [rfF w.heap.size pd cd (dig B16 d), rfF w.heap.size pn cn (dig B16 n), rfF w.heap.size p47 1 (dig B16 1)] ∧ (y ≤ 0) ∧ (c0j n d (-y).toNat = c0j m 1 (-x).toNat) ∧ (n ≤ m) ∧ (d * 5 ^ (-y).toNat ≤ M6) ∧ (x ≤ y) ∧ (gk = (-y).toNat)) ((-x).toNat) (fun Al W U I => ⟨_, ⟨U, x, m, 1, pm, cm, p47, 1, rfl, rfl, rfl, (by have := oFa f54; omega), rfl, (Nat.le_refl _), (by rw [Nat.one_mul, ← hM6]; exact Nat.pow_le_pow_right (by omega) (by omega)), (Int.le_refl _), rfl⟩, I.pick [1, 0, 1]⟩) ?_
 rintro J1 gk1 _ _ _ ⟨U901, y, n, d, pn, cn, pd, cd, rfl, rfl, rfl, hy1, hy2, hy3, hy4, hy5, hgk2⟩ hJ1 Al W I
 rcases bTF (decide (y < 0)) with f63 | f63
 · refine zb I 63 (decide (y < 0)) (true) (f63) fun Al W I => zlv I 69 5 3 (dig B16 5) h0r fun Al W p69 I => zg I (fun Al W I => have hzW := I.bel.size; (HI pn p69 cn 1 n W I.fa.2.2.1.rd I.fa.1.rd (by have := u0w hy3 (hml m x hx3); omega)).out) fun Al V Iv _ hB _ kz => ?_
   rintro _ W ⟨p70, c70, q70, d70, rfl, o70, hb⟩
   refine ⟨_, rfl, kz _ _ hb fun I => ?_⟩
   have I := I.rf o70 (hB _) Iv
   refine zcut I (some 3000018) (fun fr bx gs => ∃ (U1 : Nat → Value) (bb : Bool), fr = (.v (.string t) :: vu :: .p 0 0 :: .v (vI 0) :: .v (.bool g) :: .v (.string (a0d ds)) :: .v (vI y) :: .v (.bool ok) :: .p 1 0 :: .p 2 0 :: .v (vS (dig B16 (n / 5)) p70 c70) :: .v (vS (dig B16 (n % 5)) q70 d70) :: sw U1 12 2 (.v (.bool false) :: sw U1 15 9 (.v (.bool false) :: sw U1 25 6 (.v (.bool false) :: sw U1 32 9 (.v (.bool false) :: sw U1 42 12 (.v (.bool false) :: sw U1 55 8 (.v (.bool true) :: sw U1 64 24 (.v (.bool bb) :: sw U1 89 8 []))))))) : List SV) ∧ bx = [aA, ⟨28, [.v (.bool D.neg), .v (vS (dig B16 D.m) p37 c37), .v (vI D.e)], false⟩, ⟨78, [.v (.bool g), .v (vS (dig B16 n) pn cn), .v (vS (dig B16 d) pd cd), .v (vI (D.e + pw))], false⟩] ∧ gs = [rfF w.heap.size p70 c70 (dig B16 (n / 5)), rfF w.heap.size p69 1 (dig B16 5), rfF w.heap.size pd cd (dig B16 d), rfF w.heap.size pn cn (dig B16 n), rfF w.heap.size p47 1 (dig B16 1)] ∧ (bb = decide (n % 5 = 0 ∧ d = 1))) ?_ ?_
   · intro J hJ Al W I
     rcases bTF ((((dig B16 (n % 5)).length : Nat) : Int) == 0) with f75 | f75
     · refine zb I 75 ((((dig B16 (n % 5)).length : Nat) : Int) == 0) (true) (f75) fun Al W I => ?_
       rcases bTF ((((dig B16 d).length : Nat) : Int) == 1) with f80 | f80
       · refine zb I 80 ((((dig B16 d).length : Nat) : Int) == 1) (true) (f80) fun Al W I => zx I 85 (fun _ => .pointer (some (at_ pd 0))) (fun Al W I => (f0n (m := 0) (n := (dig B16 d).length) (c := cd) tvNn I.fa.2.2.1.rd.solid (by have := beq_iff_eq.1 f80; omega))) fun Al W I => zx I 86 (fun _ => vI ((dg (dig B16 d) 0 : Nat) : Int)) (fun Al W I => (p0j I.fa.2.2.1.rd t1s (by have := beq_iff_eq.1 f80; omega))) fun Al W I => ?_
         rcases bTF (((dg (dig B16 d) 0 : Nat) : Int) == 1) with f87 | f87
         · refine zb I 87 (((dg (dig B16 d) 0 : Nat) : Int) == 1) (true) (f87) fun Al W I => a0i I J fun Al W U I => hJ _ _ _ _ _ ⟨U, true, rfl, rfl, rfl, (by have h5 := a0f a0e (n % 5); have h6 := g0s d; exact (decide_eq_true ⟨by have := beq_iff_eq.1 f75; omega, by have := beq_iff_eq.1 f80; have := beq_iff_eq.1 f87; omega⟩).symm)⟩ (I.pick [0, 1, 2, 3, 4])
         refine zb I 87 (((dg (dig B16 d) 0 : Nat) : Int) == 1) (false) (f87) fun Al W I => a0i I J fun Al W U I => hJ _ _ _ _ _ ⟨U, false, rfl, rfl, rfl, (by have h5 := a0f a0e (n % 5); have h6 := g0s d; exact (dFa (fun k => by have h7 := h6.2 k.2; have := bnF f87; omega)).symm)⟩ (I.pick [0, 1, 2, 3, 4])
       refine zb I 80 ((((dig B16 d).length : Nat) : Int) == 1) (false) (f80) fun Al W I => a0i I J fun Al W U I => hJ _ _ _ _ _ ⟨U, false, rfl, rfl, rfl, (by have h5 := a0f a0e (n % 5); have h6 := g0s d; exact (dFa (fun k => by have h7 := h6.2 k.2; have := bnF f80; omega)).symm)⟩ (I.pick [0, 1, 2, 3, 4])
     refine zb I 75 ((((dig B16 (n % 5)).length : Nat) : Int) == 0) (false) (f75) fun Al W I => a0i I J fun Al W U I => hJ _ _ _ _ _ ⟨U, false, rfl, rfl, rfl, (by have h5 := a0f a0e (n % 5); have h6 := g0s d; exact (dFa (fun k => by have := bnF f75; omega)).symm)⟩ (I.pick [0, 1, 2, 3, 4])
   rintro _ _ _ ⟨U1, bb, rfl, rfl, rfl, hbb⟩ Al W I
   refine zcut I (some 2000088) (fun fr bx gs => ∃ (U2 : Nat → Value) (n2 : Nat) (d2 : Nat) (pn2 : OA) (cn2 : Nat) (pd2 : OA) (cd2 : Nat), fr = (.v (.string t) :: vu :: .p 0 0 :: .v (vI 0) :: .v (.bool g) :: .v (.string (a0d ds)) :: .v (vI y) :: .v (.bool ok) :: .p 1 0 :: .p 2 0 :: .v (vS (dig B16 (n / 5)) p70 c70) :: .v (vS (dig B16 (n % 5)) q70 d70) :: sw U2 12 2 (.v (.bool false) :: sw U2 15 9 (.v (.bool false) :: sw U2 25 6 (.v (.bool false) :: sw U2 32 9 (.v (.bool false) :: sw U2 42 12 (.v (.bool false) :: sw U2 55 8 (.v (.bool true) :: sw U2 64 24 (.v (.bool bb) :: sw U2 89 8 []))))))) : List SV) ∧ bx = [aA, ⟨28, [.v (.bool D.neg), .v (vS (dig B16 D.m) p37 c37), .v (vI D.e)], false⟩, ⟨78, [.v (.bool g), .v (vS (dig B16 n2) pn2 cn2), .v (vS (dig B16 d2) pd2 cd2), .v (vI (D.e + pw))], false⟩] ∧ gs = [rfF w.heap.size pd2 cd2 (dig B16 d2), rfF w.heap.size pn2 cn2 (dig B16 n2), rfF w.heap.size p47 1 (dig B16 1)] ∧ (c0j n2 d2 (-(y + 1)).toNat = c0j n d (-y).toNat) ∧ (n2 ≤ n) ∧ (d2 * 5 ^ (-(y + 1)).toNat ≤ M6)) ?_ ?_
   · intro J hJ Al W I
     rcases bTF bb with rfl | rfl
     · exact a0i I J fun Al W U I => hJ _ _ _ _ _ ⟨U, (n / 5), d, p70, c70, pd, cd, rfl, rfl, rfl, (by have h := oTr hbb.symm; have h1 := oTr f63; rw [show (-(y + 1)).toNat = (-y).toNat - 1 by omega, h.2]; exact (z0r (by omega) h.1).symm), (Nat.div_le_self _ _), (Nat.le_trans (Nat.mul_le_mul_left d (Nat.pow_le_pow_right (by omega) (by omega))) hy4)⟩ (I.pick [2, 0, 4])
     refine zlv I 93 5 3 (dig B16 5) h0r fun Al W p93 I => zqr I (fun Al W I => have hzW := I.bel.size; (HT pd p93 cd 1 d 5 W I.fa.2.2.2.1.rd I.fa.1.rd (by have := hdl5 d y hy4; omega) (by omega)).out) fun Al W p94 c94 I => a0i I J fun Al W U I => hJ _ _ _ _ _ ⟨U, n, (d * 5), pn, cn, p94, c94, rfl, rfl, rfl, (by have h := oFa hbb.symm; have h1 := oTr f63; rw [show (-(y + 1)).toNat = (-y).toNat - 1 by omega]; exact (d1o (by omega) h).symm), (Nat.le_refl _), (by have h1 := oTr f63; rw [Nat.mul_assoc, show 5 * 5 ^ (-(y + 1)).toNat = 5 ^ (-y).toNat by rw [show (-y).toNat = (-(y + 1)).toNat + 1 by omega, Nat.pow_succ, Nat.mul_comm]]; exact hy4)⟩ (I.pick [0, 5, 6])
   rintro _ _ _ ⟨U2, n2, d2, pn2, cn2, pd2, cd2, rfl, rfl, rfl, hz1, hz2, hz3⟩ Al W I
   refine zi I 65 .i64 (y + 1) ((y + 1)) ((by have := oTr f63; exact iwo)) fun Al W I => a0i I J1 fun Al W U I => hJ1 ((-(y + 1)).toNat) _ _ _ _ _ ((by have := oTr f63; omega)) ⟨U, (y + 1), n2, d2, pn2, cn2, pd2, cd2, rfl, rfl, rfl, (by have := oTr f63; omega), (by rw [hz1, hy2]), (by omega), hz3, (by omega), rfl⟩ (I.pick [0, 1, 2])
 refine zb I 63 (decide (y < 0)) (false) (f63) fun Al W I => zret I (v := fun Al => .tuple #[.agg #[.bool g, .slice pn (dig B16 n).length cn, .slice pd (dig B16 d).length cd, vI (D.e + pw)], vI 0]) fun Al W I => ?_
 first | exact c0h (h2 (by have := oFa f16; omega) (by rw [hN.1, if_neg (by simpa using f26)])) rfl I.below | (rw [hrk.1, hrk.2, hre x y m n d hS0 (by have := oFa f54; omega) hx2 hx1 hx3 (by have := oFa f63; omega) hy2]; exact ⟨pn, cn, pd, cd, rfl, I.fa.2.1, I.fa.1, I.below⟩)
end Go.Proofs.YtpgomglbaacmdaaGreatDoor
namespace Go.Slip
theorem i1s : dig B16 10 = [10] := by rw [c0d a0e (by omega), show 10 / B16 = 0 by unfold B16; omega, a0c, show 10 % B16 = 10 by unfold B16; omega]
theorem j0i : dig B16 2 = [2] := by rw [c0d a0e (by omega), show 2 / B16 = 0 by unfold B16; omega, a0c, show 2 % B16 = 2 by unfold B16; omega]
theorem z0s {j : Nat} (h : j ≤ 100000) : (dig B16 (10 ^ j)).length ≤ 100001 := g0m (K := 100001) a0e (by decide) (by omega) (by omega)
end Go.Slip
namespace Go.Proofs.YtpgomglbaacmdaaGreatDoor
open Go.RowKit Go.Slip
theorem k0l (N : Int) (n : Nat) (h : N = n) (hn : n ≤ 40000) (w : World) : Calls Tryz.prog 118 #[.int .i64 N] w (GRf w (dig B16 (10 ^ n))) := by
 subst h
 have HT := fun p q c d a b x W hp hq h1 h2 h3 => hi0 (r0v p q _ _ c d a b x W hp hq rfl rfl h1 h2 h3)
 have hl := @z0s
 have e1 : dig B16 (10 ^ 1) = [10] := by rw [Nat.pow_one]; exact i1s
 have e0 : dig B16 (10 ^ 0) = [1] := by rw [Nat.pow_zero]; exact d0u
 have I := Inv.start w [] True.intro
 refine a0g [.v (.int .i64 (n : Int))] I Tryz.func118 ?_
 refine zlv I 5 1 3 (dig B16 (10 ^ 0)) e0 fun Al W p5 I => zlv I 6 10 3 (dig B16 (10 ^ 1)) e1 fun Al W p6 I => g0e I (fun gk fr bx gs => ∃ (U900 : Nat → Value) (m : Nat) (s : Nat) (t : Nat) (pa : OA) (ca : Nat) (pb : OA) (cb : Nat), fr = (.v (vI (m : Int)) :: .v undef :: .v (.slice none 0 0) :: .v (vS (dig B16 (10 ^ s)) pa ca) :: .v (vS (dig B16 (10 ^ t)) pb cb) :: sw U900 5 16 [] : List SV) ∧ bx = [] ∧ gs = [rfF w.heap.size pb cb (dig B16 (10 ^ t)), rfF w.heap.size pa ca (dig B16 (10 ^ s))] ∧ (gk = m) ∧ (s + t * m = n) ∧ (t ≤ 2 * n + 1) ∧ (m ≤ n)) n (fun Al W U I => ⟨_, ⟨U, n, 0, 1, p5, 1, p6, 1, rfl, rfl, rfl, rfl, (by omega), (by omega), Nat.le_refl _⟩, I.pick [0, 1]⟩) ?_
 rintro J0 gk0 _ _ _ ⟨U900, m, s, t, pa, ca, pb, cb, rfl, rfl, rfl, hgk, hs, ht, hmn⟩ hJ0 Al W I
 rcases bTF (decide ((m : Int) > 0)) with f8 | f8
 · refine zb I 8 (decide ((m : Int) > 0)) (true) (f8) fun Al W I => ?_
   have hm0 : 0 < m := by have := oTr f8; omega
   have htn : t ≤ n := Nat.le_trans (Nat.le_mul_of_pos_right t hm0) (by omega)
   have hsn : s ≤ n := by omega
   obtain ⟨q, hq⟩ : ∃ q, (((m % 2 : Nat) : Int) == 1) = q := ⟨_, rfl⟩
   refine zbin I 12 _ (fun _ _ _ _ _ => o0u .i64 (m : Int) (2) (((m % 2 : Nat) : Int)) (by omega) ((by rw [Int.tmod_eq_emod_of_nonneg (by omega)]; omega))) fun Al W I => zb I 13 (((m % 2 : Nat) : Int) == 1) (q) (hq) fun Al W I => zcut I (some 2000013) (fun fr bx gs => ∃ (U1 : Nat → Value) (s2 : Nat) (pa2 : OA) (ca2 : Nat), fr = (.v (vI (m : Int)) :: vu :: .v (.slice none 0 0) :: .v (vS (dig B16 (10 ^ s2)) pa2 ca2) :: .v (vS (dig B16 (10 ^ t)) pb cb) :: sw U1 5 3 (.v (.bool true) :: sw U1 9 4 (.v (.bool q) :: sw U1 14 7 [])) : List SV) ∧ bx = [] ∧ gs = [rfF w.heap.size pa2 ca2 (dig B16 (10 ^ s2)), rfF w.heap.size pb cb (dig B16 (10 ^ t))] ∧ (s2 = s + t * (m % 2))) ?_ ?_
   · intro J hJ Al W I
     rcases bTF q with rfl | rfl
     · refine zqr I (fun Al W I => have hzW := I.bel.size; (HT pa pb ca cb (10 ^ s) (10 ^ t) (10 ^ (s + t)) W I.fa.2.1.rd I.fa.1.rd (by have := hl (show s ≤ 100000 by omega); omega) (by have := hl (show t ≤ 100000 by omega); omega) (Nat.pow_add _ _ _).symm).out) fun Al W p16 c16 I => a0i I J fun Al W U I => hJ _ _ _ _ _ ⟨U, (s + t), p16, c16, rfl, rfl, rfl, (by have := beq_iff_eq.1 hq; rw [show m % 2 = 1 by omega, Nat.mul_one])⟩ (I.pick [0, 1])
     exact a0i I J fun Al W U I => hJ _ _ _ _ _ ⟨U, s, pa, ca, rfl, rfl, rfl, (by have := bnF hq; rw [show m % 2 = 0 by omega, Nat.mul_zero, Nat.add_zero])⟩ (I.pick [1, 0])
   rintro _ _ _ ⟨U1, s2, pa2, ca2, rfl, rfl, rfl, hs2⟩ Al W I
   refine zqr I (fun Al W I => have hzW := I.bel.size; (HT pb pb cb cb (10 ^ t) (10 ^ t) (10 ^ (t + t)) W I.fa.2.1.rd I.fa.2.1.rd (by have := hl (show t ≤ 100000 by omega); omega) (by have := hl (show t ≤ 100000 by omega); omega) (Nat.pow_add _ _ _).symm).out) fun Al W p19 c19 I => zbin I 10 _ (fun _ _ _ _ _ => h0z .i64 (m : Int) (2) (((m / 2 : Nat) : Int)) (by omega) ((by rw [Int.tdiv_eq_ediv_of_nonneg (by omega)]; exact iwo))) fun Al W I => a0i I J0 fun Al W U I => hJ0 (m / 2) _ _ _ _ _ ((by omega)) ⟨U, (m / 2), s2, (t + t), pa2, ca2, p19, c19, rfl, rfl, rfl, rfl, (by have := Nat.div_add_mod m 2; rw [hs2, ← hs]; generalize m / 2 = x at *; generalize m % 2 = y at *; subst this; rw [Nat.mul_add, Nat.add_mul, ← Nat.mul_assoc, Nat.mul_comm t 2, Nat.two_mul, Nat.add_mul]; omega), (by omega), (by omega)⟩ (I.pick [0, 1])
 refine zb I 8 (decide ((m : Int) > 0)) (false) (f8) fun Al W I => ?_
 have hm : m = 0 := by have := oFa f8; omega
 exact zret I (v := fun Al => .slice pa (dig B16 (10 ^ s)).length ca) fun Al W I => ⟨pa, ca, by rw [show n = s by rw [← hs, hm, Nat.mul_zero, Nat.add_zero]], by rw [show n = s by rw [← hs, hm, Nat.mul_zero, Nat.add_zero]]; exact I.fa.2.1, I.below⟩
end Go.Proofs.YtpgomglbaacmdaaGreatDoor
namespace Go.Slip
theorem q1z {N D : Nat} {p : Int} (h : 0 ≤ p) : ge10 N D p ↔ D * 10 ^ p.toNat ≤ N := by unfold ge10; rw [show (-p).toNat = 0 by omega, Nat.pow_zero, Nat.mul_one]
theorem r1a {N D : Nat} {p : Int} (h : p < 0) : ge10 N D p ↔ D ≤ N * 10 ^ (-p).toNat := by unfold ge10; rw [show p.toNat = 0 by omega, Nat.pow_zero, Nat.mul_one]
theorem x0k {a b : Nat} {N D : Nat} {P p : Int} (hP : IsP N D P) (h : ge10 N D p ↔ a ≤ b) : decide (cmpN a b > 0) = decide (P < p) := by
 rw [decide_eq_decide]
 have h1 := hP.iff p
 rcases Nat.lt_or_ge b a with h2 | h2
 · rw [m0r h2]
   have : ¬ p ≤ P := fun h3 => by have := h.1 (h1.2 h3); omega
   omega
 · have h3 : p ≤ P := h1.1 (h.2 h2)
   rcases Nat.lt_or_eq_of_le h2 with h4 | h4
   · rw [g0u h4]; omega
   · subst h4; rw [o0e]; omega
end Go.Slip
namespace Go.Proofs.YtpgomglbaacmdaaGreatDoor
open Go.RowKit Go.Slip
theorem z0t (N D : Nat) (P p : Int) (pn pd : OA) (cn cd bn bd b1 b2 : Nat) (w : World) (BD : Bt w bd 26 #[.slice pd (dig B16 D).length cd]) (BN : Bt w bn 26 #[.slice pn (dig B16 N).length cn])
 (hd : Rf w b1 pd cd (dig B16 D)) (hn : Rf w b2 pn cn (dig B16 N)) (hP : IsP N D P) (hp : -20000 ≤ p ∧ p ≤ 20000) (h1 : (dig B16 D).length ≤ 100000) (h2 : (dig B16 N).length ≤ 100000) :
 Calls Tryz.prog 117 #[.int .i64 p, .pointer (some ⟨bd, 0, none⟩), .pointer (some ⟨bn, 0, none⟩)] w fun en w' => en = .returned (.bool (decide (P < p))) ∧ Below w.heap.size w w' := by
 have HP := fun M m W h hm => hi0 (k0l M m h hm W)
 have HT := fun p q c d a b W hp hq h1 h2 => hi0 (r0v p q _ _ c d a b _ W hp hq rfl rfl h1 h2 rfl)
 have HC := fun p q c d a b W hp hq h1 h2 => hi0 (d0o p q _ _ c d a b W hp hq rfl rfl h1 h2)
 have hl := @z0s
 have hu := fun h => x0k hP (q1z (N := N) (D := D) (p := p) h)
 have hv := fun h => x0k hP (r1a (N := N) (D := D) (p := p) h)
 have m1 := fun j => a0x a0e D (10 ^ j)
 have m2 := fun j => a0x a0e N (10 ^ j)
 have I := Inv.startR w [bd, bn] [⟨26, [.v (.slice pd (dig B16 D).length cd)], true⟩, ⟨26, [.v (.slice pn (dig B16 N).length cn)], true⟩] [rfF b1 pd cd (dig B16 D), rfF b2 pn cn (dig B16 N)] ⟨BD, BN, True.intro⟩ ⟨hd, hn, True.intro⟩
 refine a0g [.v (.int .i64 p), .p 0 0, .p 1 0] I Tryz.func117 ?_
 rcases bTF (decide (p ≥ 0)) with f6 | f6
 · refine zb I 6 (decide (p ≥ 0)) (true) (f6) fun Al W I => zd [] I fun Al W I => zk [0, 1, 4] I fun I => zo 2 I fun I => zqr I (fun Al W I => have hzW := I.bel.size; (HP p p.toNat W (by have := oTr f6; omega) (by omega)).out) fun Al W p9 c9 I => zo 3 I fun I => zqr I (fun Al W I => have hzW := I.bel.size; (HT pd p9 cd c9 D (10 ^ p.toNat) W I.fa.2.1.rd I.fa.1.rd (by omega) (by have := hl (show p.toNat ≤ 100000 by omega); omega)).out) fun Al W p10 c10 I => zo 5 I fun I => zq I (fun Al W I => have hzW := I.bel.size; (HC p10 pn c10 cn (D * 10 ^ p.toNat) N W I.fa.1.rd I.fa.2.2.2.1.rd (by have := hl (show p.toNat ≤ 100000 by omega); have := m1 p.toNat; omega) (by omega)).out) fun Al W I => zk [6, 7] I fun I => zret I (v := fun Al => .bool (decide ((cmpN (D * 10 ^ p.toNat) N) > 0))) fun Al W I => ⟨by rw [← hu (oTr f6)], I.below⟩
 refine zb I 6 (decide (p ≥ 0)) (false) (f6) fun Al W I => zd [] I fun Al W I => zk [0, 1, 2] I fun I => zki 3 I .i64 (0 - p) ((-p)) ((by rw [Int.zero_sub]; exact iwo)) fun I => zo 4 I fun I => zqr I (fun Al W I => have hzW := I.bel.size; (HP (-p) (-p).toNat W (by have := oFa f6; omega) (by omega)).out) fun Al W p18 c18 I => zo 5 I fun I => zqr I (fun Al W I => have hzW := I.bel.size; (HT pn p18 cn c18 N (10 ^ (-p).toNat) W I.fa.2.2.1.rd I.fa.1.rd (by omega) (by have := hl (show (-p).toNat ≤ 100000 by omega); omega)).out) fun Al W p19 c19 I => zo 6 I fun I => zq I (fun Al W I => have hzW := I.bel.size; (HC pd p19 cd c19 D (N * 10 ^ (-p).toNat) W I.fa.2.2.1.rd I.fa.1.rd (by omega) (by have := hl (show (-p).toNat ≤ 100000 by omega); have := m2 (-p).toNat; omega)).out) fun Al W I => zk [7, 8] I fun I => zret I (v := fun Al => .bool (decide ((cmpN D (N * 10 ^ (-p).toNat)) > 0))) fun Al W I => ⟨by rw [← hv (by have := oFa f6; omega)], I.below⟩
end Go.Proofs.YtpgomglbaacmdaaGreatDoor
