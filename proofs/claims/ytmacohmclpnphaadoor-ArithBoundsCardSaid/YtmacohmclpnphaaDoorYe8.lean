/- arith: what is rounded down, to the nearest, up: how they lie. No program is in sight here. -/
import Derived.Lib.Strings
import Derived.Lib.Slices
import Derived.Lib.Small
import Derived.Lib.Walk
import Derived.Lib.BitFns
import Derived.Deep.LoopGhost
import Derived.Deep.RegionHeld3
import Derived.Test.YtmacohmclpnphaaDoorYe1
import Derived.Test.YtmacohmclpnphaaDoorYe2
import Derived.Test.YtmacohmclpnphaaDoorYe3
import Derived.Test.YtmacohmclpnphaaDoorYe4
import Derived.Test.YtmacohmclpnphaaDoorYe5
import Derived.Test.YtmacohmclpnphaaDoorYe6
import Derived.Test.YtmacohmclpnphaaDoorYe7
set_option maxHeartbeats 8000000
set_option maxRecDepth 100000
namespace Go.Proofs.YtmacohmclpnphaaDoor
open Go.RowKit Go.Slip
def LeV (a b : Vr) : Prop := a.cls ≤ 3 → b.cls ≤ 3 → cmpM a b ≤ 0
def LeS (neg : Bool) (a b : Vr) : Prop := if neg = true then LeV b a else LeV a b
theorem j0y {r : Vr} (h : r.cls ≠ 3) : r.side = 0 := by unfold Vr.side; rw [if_pos h]
theorem t0d (g : Bool) : (infM g).side = if g then -2 else 2 := by unfold Vr.side infM; simp
theorem r0l {a b : Vr} (ha : a.cls ≠ 3) (hb : b.cls ≠ 3) (h : leD a.x b.x) : LeV a b := fun _ _ => by
 unfold cmpM
 rw [j0y ha, j0y hb, if_neg (by simp)]
 exact h
theorem o0f (a : Vr) : LeV a a := fun _ _ => by
 unfold cmpM
 split
 · rw [Int.sub_self]; decide
 · exact s0q _
theorem j0g (neg : Bool) {a b : Vr} {m n : Nat} {x y : Int} (ha : a.cls ≠ 3) (hb : b.cls ≠ 3) (ea : a.x = bare ⟨neg, m, x⟩) (eb : b.x = bare ⟨neg, n, y⟩) (h : le2 m x n y) : LeS neg a b := by
 unfold LeS
 cases neg
 · rw [if_neg (by decide)]
   exact r0l ha hb (by rw [ea, eb, y0o]; simpa using h)
 · rw [if_pos rfl]
   exact r0l hb ha (by rw [ea, eb, y0o]; simpa using h)
theorem z0f (neg : Bool) {a : Vr} (ha : a.cls ≠ 3) : LeS neg a (infM neg) := by
 unfold LeS
 cases neg
 · rw [if_neg (by decide)]
   intro _ _
   unfold cmpM
   rw [j0y ha, t0d, if_pos (.inr (by decide))]
   decide
 · rw [if_pos rfl]
   intro _ _
   unfold cmpM
   rw [j0y ha, t0d, if_pos (.inl (by decide))]
   decide
theorem g0r (neg : Bool) (a : Vr) : LeS neg a a := by unfold LeS; split <;> exact o0f a
theorem g1c (neg : Bool) {a b : Vr} (h : 4 ≤ a.cls ∨ 4 ≤ b.cls) : LeS neg a b := by
 unfold LeS
 split <;> exact fun h1 h2 => by omega
def toI (way : Int) (neg : Bool) : Prop := way ≤ 2 ∨ (way = 4 ∧ neg = false) ∨ (way = 5 ∧ neg = true)
instance (way : Int) (neg : Bool) : Decidable (toI way neg) := by unfold toI; exact inferInstance
theorem g0s {f : Fm} (G : b0b f) {neg : Bool} {num den : Nat} {e way way' : Int} (hn : 0 < num) (hd : 0 < den)
 (hu : ∀ w k, upP neg num den e w way k = true → upP neg num den e w way' k = true) (hi : toI way neg → toI way' neg) :
 LeS neg (f.placedM (a0p neg num den e f.g way) way).1 (f.placedM (a0p neg num den e f.g way') way').1 := by
 have GG := b0y G.g
 have hD : 1 ≤ f.g.digs.toNat := by have := GG.d1; omega
 have v1 := d1h (neg := neg) (e := e) (way := way) hn hd GG
 have v2 := d1h (neg := neg) (e := e) (way := way') hn hd GG
 have hK := j0b hn hd e (w := wid f.g) (D := f.g.digs.toNat) (b0f f.g).1 hD
 have l1 := s0n (neg := neg) (e := e) (way := way) hd GG hK
 have r1 : a0p neg num den e f.g way = fitK neg num den e f.g way (theK num den e (wid f.g) f.g.digs.toNat) := by unfold a0p; rw [if_neg (by omega)]
 have r2 : a0p neg num den e f.g way' = fitK neg num den e f.g way' (theK num den e (wid f.g) f.g.digs.toNat) := by unfold a0p; rw [if_neg (by omega)]
 unfold rv at v1 v2
 rw [r1] at v1 ⊢
 rw [r2] at v2 ⊢
 have hgr := G.grad
 have hfull := hK.yes
 generalize theK num den e (wid f.g) f.g.digs.toNat = K at *
 have n1 : (fitK neg num den e f.g way K).neg = neg := rfl
 have n2 : (fitK neg num den e f.g way' K).neg = neg := rfl
 have u1 : (fitK neg num den e f.g way K).under = decide (K < f.g.lo) := rfl
 have u2 : (fitK neg num den e f.g way' K).under = decide (K < f.g.lo) := rfl
 have o1 : (fitK neg num den e f.g way K).over = decide (f.g.hi < powP neg num den e (wid f.g) f.g.digs.toNat way (powK f.g K)) := rfl
 have o2 : (fitK neg num den e f.g way' K).over = decide (f.g.hi < powP neg num den e (wid f.g) f.g.digs.toNat way' (powK f.g K)) := rfl
 have p1 : (fitK neg num den e f.g way K).pow = if (fitK neg num den e f.g way K).d = 0 then 0 else powP neg num den e (wid f.g) f.g.digs.toNat way (powK f.g K) := rfl
 have p2 : (fitK neg num den e f.g way' K).pow = if (fitK neg num den e f.g way' K).d = 0 then 0 else powP neg num den e (wid f.g) f.g.digs.toNat way' (powK f.g K) := rfl
 have hk := hu (wid f.g) (powK f.g K)
 have hdu : dUp neg num den e (wid f.g) way (powK f.g K) ≤ dUp neg num den e (wid f.g) way' (powK f.g K) := by
  unfold dUp
  cases a : upP neg num den e (wid f.g) way (powK f.g K)
  · simp
  · rw [hk a]; exact Nat.le_refl _
 have hpp : powP neg num den e (wid f.g) f.g.digs.toNat way (powK f.g K) ≤ powP neg num den e (wid f.g) f.g.digs.toNat way' (powK f.g K) := by
  unfold powP
  by_cases a : g0e neg num den e (wid f.g) f.g.digs.toNat way (powK f.g K)
  · have b : g0e neg num den e (wid f.g) f.g.digs.toNat way' (powK f.g K) := by
     have a1 := a.1
     have a2 := a.2
     refine ⟨hk a1, ?_⟩
     unfold dUp at a2 ⊢
     rw [a1] at a2
     rwa [hk a1]
    rw [if_pos a, if_pos b]; exact Int.le_refl _
  · rw [if_neg a]; split <;> omega
 have hd1 : f.g.grad = false → (fitK neg num den e f.g way K).d ≠ 0 := fun hg h0 => by
  have hpk : powK f.g K = K := by unfold powK; rw [if_neg (fun h => by rw [hg] at h; cases h.2)]
  have : digP neg num den e (wid f.g) f.g.digs.toNat way (powK f.g K) = 0 := h0
  rw [hpk] at this
  unfold digP at this
  unfold e0w at hfull
  have hp := Nat.pow_pos (n := wid f.g * (f.g.digs.toNat - 1)) (show 0 < 2 by omega)
  split at this
  · omega
  · unfold dUp at this; omega
 generalize dUp neg num den e (wid f.g) way (powK f.g K) = q1 at *
 generalize dUp neg num den e (wid f.g) way' (powK f.g K) = q2 at *
 generalize powP neg num den e (wid f.g) f.g.digs.toNat way (powK f.g K) = pw1 at *
 generalize powP neg num den e (wid f.g) f.g.digs.toNat way' (powK f.g K) = pw2 at *
 generalize fitK neg num den e f.g way K = P at *
 generalize fitK neg num den e f.g way' K = R at *
 have zz : ∀ y, (vz : Dv) = bare ⟨neg, 0, y⟩ := fun y => (e0y _ _).symm
 have l0 : ∀ b x y, le2 0 x b y := fun b x y => by unfold le2; simp
 unfold Fm.placedM
 rw [o1, o2, u1, u2, n1, n2]
 simp only [decide_eq_true_eq]
 by_cases c1 : f.g.hi < pw1
 · have c2 : f.g.hi < pw2 := by omega
   rw [if_pos c1, if_pos c2]
   by_cases f2 : f.fam = 2
   · rw [if_pos f2, if_pos f2]; exact g0r _ _
   · rw [if_neg f2, if_neg f2]
     by_cases f3 : f.fam = 3
     · rw [if_pos f3, if_pos f3]; exact g0r _ _
     · rw [if_neg f3, if_neg f3]
       by_cases i1 : way ≤ 2 ∨ (way = 4 ∧ neg = false) ∨ (way = 5 ∧ neg = true)
       · rw [if_pos i1, if_pos (show way' ≤ 2 ∨ (way' = 4 ∧ neg = false) ∨ (way' = 5 ∧ neg = true) from hi i1)]; exact g0r _ _
       · rw [if_neg i1]
         split
         · exact z0f _ (by show 2 ≠ 3; decide)
         · exact g0r _ _
 · rw [if_neg c1]
   by_cases c2 : f.g.hi < pw2
   · rw [if_pos c2]
     by_cases f3 : f.fam = 3
     · rw [if_neg (show ¬ f.fam = 2 by omega), if_pos f3]
       refine g1c _ (.inr ?_)
       unfold Fm.nothM
       rw [f3]
       decide
     · -- something finite, and the greatest or what is infinite
       obtain ⟨A, eA, hA3, mA, xA, hxA, hle⟩ : ∃ A : Vr, A = (if K < f.g.lo ∧ f.fam ≠ 1 ∧ P.pow < f.g.lo then (f.zeroM false, 3) else if P.d = 0 then (f.zeroM neg, f.flP P) else (⟨2, neg, bare ⟨neg, P.d, wid f.g * P.pow⟩⟩, f.flP P) : Vr × Nat).1 ∧ A.cls ≠ 3 ∧ ∃ m x, A.x = bare ⟨neg, m, x⟩ ∧ le2 m x (2 ^ (wid f.g * f.g.digs.toNat) - 1) (wid f.g * f.g.hi) := by
        refine ⟨_, rfl, ?_⟩
        split
        · exact ⟨by show 1 ≠ 3; decide, 0, 0, zz 0, l0 _ _ _⟩
        · split
          · exact ⟨by show 1 ≠ 3; decide, 0, 0, zz 0, l0 _ _ _⟩
          · rename_i h0
            refine ⟨by show 2 ≠ 3; decide, P.d, wid f.g * P.pow, rfl, ?_⟩
            rw [if_neg h0] at p1
            have hw : (wid f.g : Int) * P.pow ≤ wid f.g * f.g.hi := Int.mul_le_mul_of_nonneg_left (by omega) (by omega)
            rw [g0f (wid f.g * P.pow) (Int.le_refl _) hw, Int.sub_self]
            simp only [Int.toNat_zero, Nat.pow_zero, Nat.mul_one]
            have := Nat.pow_pos (n := (wid f.g * f.g.hi - wid f.g * P.pow : Int).toNat) (show 0 < 2 by omega)
            exact Nat.le_trans (show P.d ≤ 2 ^ (wid f.g * f.g.digs.toNat) - 1 by omega) (Nat.le_mul_of_pos_right _ this)
       have hg : LeS neg A (f.greatM neg) := j0g neg hA3 (by show 2 ≠ 3; decide) hxA rfl hle
       rw [← eA]
       by_cases f2 : f.fam = 2
       · rw [if_pos f2]; exact hg
       · rw [if_neg f2, if_neg f3]
         split
         · exact z0f _ hA3
         · exact hg
   · rw [if_neg c2]
     by_cases b1 : K < f.g.lo ∧ f.fam ≠ 1 ∧ P.pow < f.g.lo
     · rw [if_pos b1]
       split
       · exact g0r _ _
       · split
         · exact j0g neg (m := 0) (x := 0) (by show 1 ≠ 3; decide) (by show 1 ≠ 3; decide) (zz 0) (zz 0) (l0 _ _ _)
         · exact j0g neg (m := 0) (x := 0) (by show 1 ≠ 3; decide) (by show 2 ≠ 3; decide) (zz 0) rfl (l0 _ _ _)
     · rw [if_neg b1]
       by_cases b2 : K < f.g.lo ∧ f.fam ≠ 1 ∧ R.pow < f.g.lo
       · exfalso
         have hg : f.g.grad = false := by rw [hgr]; exact dFa b2.2.1
         have h0 := hd1 hg
         rw [if_neg h0] at p1
         by_cases r0 : R.d = 0
         · rw [n2, r0, e0y] at v2
           have hz : (bare ⟨neg, q2, (wid f.g : Int) * powK f.g K⟩ : Dv).m = 0 := by rw [← v2]
           have hq1 : 0 < q1 := by
            rcases Nat.eq_zero_or_pos q1 with h | h
            · rw [h, e0y, n1] at v1
              have := (j0e (g := neg) (e := wid f.g * P.pow) h0).2
              rw [v1] at this
              exact absurd rfl this
            · exact h
           exact (j0e (g := neg) (e := wid f.g * powK f.g K) (m := q2) (by omega)).2 hz
         · rw [if_neg r0] at p2
           exact b1 ⟨b2.1, b2.2.1, by omega⟩
       · rw [if_neg b2]
         rw [n1] at v1
         rw [n2] at v2
         have hmain : le2 q1 (wid f.g * powK f.g K) q2 (wid f.g * powK f.g K) := a1j.2 hdu
         by_cases h1 : P.d = 0
         · rw [if_pos h1]
           split
           · exact g0r _ _
           · exact j0g neg (m := 0) (x := 0) (by show 1 ≠ 3; decide) (by show 2 ≠ 3; decide) (zz 0) rfl (l0 _ _ _)
         · rw [if_neg h1, v1]
           by_cases h2 : R.d = 0
           · rw [if_pos h2]
             rw [h2, e0y] at v2
             exact j0g neg (by show 2 ≠ 3; decide) (by show 1 ≠ 3; decide) rfl v2 hmain
           · rw [if_neg h2, v2]
             exact j0g neg (by show 2 ≠ 3; decide) (by show 2 ≠ 3; decide) rfl rfl hmain
theorem r0m {n way : Int} {L : List ByteArray} {R : Vr × Nat} {w : World} {fn : FuncId} {args : Array Value} (h : Calls Tryd.prog fn args w (f0a n way L R w)) :
 Calls Tryd.prog fn args w fun en w' => en = .returned (.tuple #[.string (outS n way L R), .int .i64 ((outF n way L R : Nat) : Int), .int .i64 (errR n way L)]) ∧ Below w.heap.size w w' := by
 refine h.mono fun en w' hh => ⟨?_, hh.2⟩
 unfold outS outF
 have := hh.1
 by_cases h0 : errR n way L = 0
 · rw [if_pos h0] at this ⊢; rw [if_pos h0]; exact this
 · rw [if_neg h0] at this ⊢; rw [if_neg h0]; exact this
end Go.Proofs.YtmacohmclpnphaaDoor
namespace Go.Slip
open Go.RowKit
end Go.Slip
namespace Go.Proofs.YtmacohmclpnphaaDoor
open Go.RowKit Go.Slip
structure Wp where
 r : Vr
 p : Option Addr
 c : Nat
def Wp.cells (x : Wp) : List Value := [.int .i64 (x.r.cls : Int), .bool x.r.neg, .bool x.r.x.neg, .slice x.p (dig B16 x.r.x.m).length x.c, .int .i64 x.r.x.e]
theorem Wp.len (x : Wp) : x.cells.length = 5 := rfl
structure TnD (a : Dv) : Prop where
 len : (dig B32 a.m).length ≤ 40
 lo : -38000 ≤ a.e
 hi : a.e ≤ 38000
theorem VrOk.tn {r : Vr} (R : VrOk r) : TnD r.x := ⟨by have := R.len; omega, by have := R.lo; omega, by have := R.hi; omega⟩
theorem TnD.sm {a : Dv} (h : TnD a) : SmD a := ⟨by have := h.len; omega, by have := h.lo; omega, by have := h.hi; omega⟩
theorem r0n {m k : Nat} (h1 : 2 ^ k ≤ m) (h2 : m < 2 ^ (k + 1)) : blen m = k + 1 := by
 have a := (b0e m (k + 1)).2 h2
 have b : ¬ blen m ≤ k := fun h => by have := (b0e m k).1 h; omega
 omega
def oneS : ByteArray := b0i [63, 128, 0, 0]
def twoS : ByteArray := b0i [64, 0, 0, 0]
theorem g1d : a0v (fmt 1) oneS = 1065353216 := by
 unfold a0v oneS
 rw [i0l (by decide)]
 decide +kernel
theorem g1e : b0j 1 oneS = 0 := d0o.2 ⟨by decide, by unfold oneS; rw [l0v]; rfl⟩
theorem g1f : refD 1 oneS = ⟨2, false, ⟨false, 1, 0⟩⟩ := by
 unfold refD
 rw [g1d]
 have hd : (fmt 1).decN 1065353216 = ⟨2, 8388608, -23⟩ := by kernel_rfl
 have hg : (fmt 1).neg 1065353216 = false := by decide +kernel
 unfold Fm.refN Fm.vr
 rw [hd, hg]
 have ht : tz 8388608 = 23 := k0f 1 23 rfl
 have hw : wid (fmt 1).g = 1 := by decide
 unfold Dc.c bare
 simp [ht, hw]
theorem g1g : f0y ⟨false, 1, 0⟩ ⟨false, 1, 0⟩ = ⟨false, 1, 1⟩ := by
 rw [i0u _ _ (e := 0) (by decide) (by decide)]
 have hz : zOf ⟨false, 1, 0⟩ 0 + zOf ⟨false, 1, 0⟩ 0 = 2 := by decide
 rw [hz]
 have ht : tz 2 = 1 := k0f 1 1 rfl
 unfold norm ofZ bare
 simp [ht]
theorem g1h : (fmt 1).addM ⟨2, false, ⟨false, 1, 0⟩⟩ ⟨2, false, ⟨false, 1, 0⟩⟩ 1 = (⟨2, false, ⟨false, 1, 1⟩⟩, 0) := by
 have hK : theK 1 1 1 1 24 = -22 := by
  have h := q0y (m := 1) (by decide) 1 (w := 1) (D := 24) (by decide) (by decide)
  rw [show blen 1 = 1 from r0n (k := 0) (by decide) (by decide)] at h
  exact e1w (by decide) (by decide) (by decide) (by decide) h
 have hR : a0p false 1 1 1 (fmt 1).g 1 = ⟨false, 8388608, -22, true, false, false⟩ := by
  unfold a0p
  rw [if_neg (by decide), show wid (fmt 1).g = 1 from rfl, show (fmt 1).g.digs.toNat = 24 from rfl, hK]
  kernel_rfl
 have ht : tz 8388608 = 23 := k0f 1 23 rfl
 unfold Fm.addM
 rw [if_neg (by decide), if_neg (by decide)]
 unfold Fm.sumM
 rw [g1g, if_pos (by decide)]
 unfold Fm.numM
 rw [if_neg (by decide), hR]
 unfold Fm.placedM Fm.flP bare
 have hw : wid (fmt 1).g = 1 := by decide
 simp [ht, hw]
theorem g1i : strR 1 ⟨2, false, ⟨false, 1, 1⟩⟩ = twoS := by
 have hb : blen 1 = 1 := r0n (k := 0) (by decide) (by decide)
 have h24 : blen 8388608 = 24 := r0n (k := 23) (by decide) (by decide)
 have hs : b0v ⟨false, 1, 1⟩ (fmt 1).g = -22 := by
  unfold b0v upK topD
  simp only [hb]
  decide
 have hf : (fmt 1).fr ⟨false, 1, 1⟩ = 8388608 := by
  unfold Fm.fr
  rw [hs]
  decide
 have hn : (fmt 1).numP ⟨false, 1, 1⟩ = ⟨false, 128, 0⟩ := by
  unfold Fm.numP
  rw [hf, hs, h24]
  kernel_rfl
 have he : (fmt 1).encP 2 false ⟨false, 1, 1⟩ = ⟨false, 128, 0⟩ := hn
 have h2 : (fmt 1).strP ⟨false, 128, 0⟩ = [64, 0, 0, 0] := by decide +kernel
 unfold strR twoS
 simp only
 rw [he, h2]
theorem c1i : errR 1 1 [oneS, oneS] = 0 := by
 unfold errR errL errL errL
 rw [g1e]
 decide
theorem l0s (w : World) (hT : TabW w) : Calls Tryd.prog 17 #[] w fun en w' => en = .returned (.bool true) ∧ Below w.heap.size w w' := by
 have HA : ∀ W, TabW W → Hid (Calls Tryd.prog 18 #[.int .i64 1, .string oneS, .string oneS, .int .i64 1] W fun en w' => en = .returned (.tuple #[.string twoS, .int .i64 0, .int .i64 0]) ∧ Below W.heap.size W w') := by
  intro W h
  have := t0c 1 1 oneS oneS W h
  unfold f0a at this
  rw [c1i, g1f, g1h] at this
  simp only [g1i, if_true] at this
  exact hi0 this
 refine calls_of_wp Tryd.func17 rfl ?_
 refine b0d (a' := ⟨(us 26 []).toArray, []⟩) (by kernel_rfl) ?_
 refine yq ?_
 refine ye ?_
 refine ywv 0 rfl 5 (.slice (some ⟨w.heap.size, 0, none⟩) 4 4) #[.int .u8 63, .int .u8 128, .int .u8 0, .int .u8 0] 5 (fun V1 hbV1 hzV1 b5 => ?_)
 refine yv 0 rfl 6 (.string oneS) ?_ (j0v (p := some ⟨w.heap.size, 0, none⟩) (n := 4) (c := 4) (xs := [63, 128, 0, 0]) p0j x0v uStr (y0n b5) rfl (by kernel_rfl))
 refine yzt 1 ?_
 refine ye ?_
 replace hT := (hT.past hbV1)
 refine yc 2 rfl 10 ((HA V1 hT).out) (fun Gx hGx => ?_)
 rintro eV2 V2 ⟨rfl, hbV2⟩
 have hzV2 := hbV2.size
 refine ⟨_, rfl, hGx _ _ ?_⟩
 clear hGx Gx
 refine yzt 7 ?_
 refine ye ?_
 refine ywv 8 rfl 22 (.slice (some ⟨V2.heap.size, 0, none⟩) 4 4) #[.int .u8 64, .int .u8 0, .int .u8 0, .int .u8 0] 5 (fun V3 hbV3 hzV3 b22 => ?_)
 refine yv 0 rfl 23 (.string twoS) ?_ (j0v (p := some ⟨V2.heap.size, 0, none⟩) (n := 4) (c := 4) (xs := [64, 0, 0, 0]) p0j x0v uStr (y0n b22) rfl (by kernel_rfl))
 refine yv 0 rfl 24 (.bool true) ?_ (b1t (s := twoS) (by kernel_rfl) (by kernel_rfl))
 refine yzt 2 ?_
 refine wp_ret ?_
 repeat (first | with_reducible refine a0w ?_ | with_reducible refine a0t ?_)
 refine yret (.bool true) (res1 Tryd.results17 rvt) ?_
 exact ⟨rfl, (a0g (a0g hbV1 hbV2) hbV3)⟩
def chs (c : Int) (n : Nat) : Nat := ((if c < 0 then -(c + 1) else c) % (n : Int)).toNat
theorem i1o (c : Int) (n : Nat) (h : 0 < n) : chs c n < n := by
 unfold chs
 have h1 := Int.emod_lt_of_pos (if c < 0 then -(c + 1) else c) (show (0 : Int) < (n : Int) by omega)
 have h2 := Int.emod_nonneg (if c < 0 then -(c + 1) else c) (show (n : Int) ≠ 0 by omega)
 omega
theorem u0t (i : Int) (n : Nat) (w : World) (hi : -9223372036854775808 ≤ i ∧ i ≤ 9223372036854775807) (hn : 0 < n) (hn2 : n ≤ 1000000000) :
 Calls Tryd.prog 28 #[.int .i64 i, .int .i64 n] w fun e w' => e = .returned (.int .i64 (chs i n : Nat)) ∧ w = w' := by
 by_cases h : i < 0
 · have hc : ((chs i n : Nat) : Int) = (-(i + 1)) % (n : Int) := by
    unfold chs; rw [if_pos h, Int.toNat_of_nonneg (Int.emod_nonneg _ (by omega))]
   have HC := hi0 hc
   clear hc
   go_enter Tryd.func28, Tryd.ntmps28
   go_wp2
   go_ret
   refine ⟨c0s ?_, rfl⟩
   rw [HC.out, ← Int.neg_tmod, Int.tmod_eq_emod_of_nonneg (by omega)]
 · have hc : ((chs i n : Nat) : Int) = i % (n : Int) := by
    unfold chs; rw [if_neg h, Int.toNat_of_nonneg (Int.emod_nonneg _ (by omega))]
   have HC := hi0 hc
   clear hc
   go_enter Tryd.func28, Tryd.ntmps28
   go_wp2
   go_ret
   exact ⟨c0s HC.out.symm, rfl⟩
theorem o0g {way way' : Int} {neg : Bool} (h : (way = 5 ∧ way' = 1 ∧ neg = false) ∨ (way = 1 ∧ way' = 4 ∧ neg = false) ∨ (way = 4 ∧ way' = 1 ∧ neg = true) ∨ (way = 1 ∧ way' = 5 ∧ neg = true)) (num den : Nat) (e : Int) (w : Nat) (k : Int) :
 upP neg num den e w way k = true → upP neg num den e w way' k = true := by
 rcases h with ⟨rfl, rfl, rfl⟩ | ⟨rfl, rfl, rfl⟩ | ⟨rfl, rfl, rfl⟩ | ⟨rfl, rfl, rfl⟩
 · rw [up5]; simp
 · rw [up4]; intro h; unfold upP at h; simp only [Bool.and_eq_true] at h; rw [h.1]; rfl
 · rw [up4]; simp
 · rw [up5]; intro h; unfold upP at h; simp only [Bool.and_eq_true] at h; rw [h.1]; rfl
def z0g (R : Int → Vr × Nat) : Prop := LeV (R 5).1 (R 1).1 ∧ LeV (R 1).1 (R 4).1
theorem b0k (r : Vr × Nat) : z0g fun _ => r := ⟨o0f _, o0f _⟩
theorem j0m {f : Fm} (G : b0b f) (neg : Bool) {num den : Nat} (e : Int) (hn : 0 < num) (hd : 0 < den) : z0g fun way => f.placedM (a0p neg num den e f.g way) way := by
 cases neg
 · have h1 := g0s (way := 5) (way' := 1) (e := e) (neg := false) G hn hd (o0g (.inl ⟨rfl, rfl, rfl⟩) num den e) (by decide)
   have h2 := g0s (way := 1) (way' := 4) (e := e) (neg := false) G hn hd (o0g (.inr (.inl ⟨rfl, rfl, rfl⟩)) num den e) (by decide)
   exact ⟨h1, h2⟩
 · have h1 := g0s (way := 4) (way' := 1) (e := e) (neg := true) G hn hd (o0g (.inr (.inr (.inl ⟨rfl, rfl, rfl⟩))) num den e) (by decide)
   have h2 := g0s (way := 1) (way' := 5) (e := e) (neg := true) G hn hd (o0g (.inr (.inr (.inr ⟨rfl, rfl, rfl⟩))) num den e) (by decide)
   exact ⟨h2, h1⟩
theorem p0s {f : Fm} (G : b0b f) (x : Dv) : z0g fun way => f.numM x way := by
 unfold Fm.numM
 by_cases h : x.m = 0
 · simp only [if_pos h]; exact b0k _
 · simp only [if_neg h]; exact j0m G _ _ (by omega) (by omega)
theorem zero_le {f : Fm} (g h : Bool) : LeV (f.zeroM g) (f.zeroM h) := r0l (by show 1 ≠ 3; decide) (by show 1 ≠ 3; decide) (s0q _)
theorem z0h {f : Fm} (G : b0b f) (x y : Dv) (g h : Bool) : z0g fun way => f.sumM x y g h way := by
 unfold Fm.sumM
 by_cases k : (f0y x y).m ≠ 0
 · simp only [if_pos k]; exact p0s G _
 · simp only [if_neg k]
   by_cases c : x.m = 0 ∧ g = h
   · simp only [if_pos c]; exact b0k _
   · simp only [if_neg c]; exact ⟨zero_le _ _, zero_le _ _⟩
def opM (f : Fm) (c : Nat) (a b : Vr) (way : Int) : Vr × Nat := if c = 0 then f.addM a b way else if c = 1 then f.mulM a b way else f.divM a b way
theorem c1j {f : Fm} (G : b0b f) (c : Nat) {a b : Vr} (A : VrOk a) (B : VrOk b) : z0g (opM f c a b) := by
 unfold opM
 by_cases c0 : c = 0
 · simp only [if_pos c0]
   unfold Fm.addM
   split
   · exact b0k _
   · split
     · split
       · exact b0k _
       · split <;> exact b0k _
     · exact z0h G _ _ _ _
 · by_cases c1 : c = 1
   · simp only [if_neg c0, if_pos c1]
     unfold Fm.mulM
     split
     · exact b0k _
     · split
       · split <;> exact b0k _
       · split
         · exact b0k _
         · exact p0s G _
   · simp only [if_neg c0, if_neg c1]
     unfold Fm.divM
     have h1 := A.c
     have h2 := B.c
     split
     · exact b0k _
     · split
       · exact b0k _
       · split
         · exact b0k _
         · split
           · exact b0k _
           · split
             · exact b0k _
             · have k1 := (A.x2 (by omega)).1
               have k2 := (B.x2 (by omega)).1
               exact j0m G _ _ (by omega) (by omega)
theorem i1p {f : Fm} (G : b0b f) (c : Nat) {a b : Vr} (A : VrF f a) (B : VrF f b) (way : Int) : ResF f (opM f c a b way).1 := by
 unfold opM
 split
 · exact d1k G A B way
 · split
   · exact d1l G A.inf B.inf way
   · exact d1m G A.inf B.ok way
theorem g1j {a b : Vr} (h : LeV a b) (_ : (cmpR a b).2 = true) : (cmpR a b).1 ≤ 0 := by
 unfold cmpR at *
 split
 · exact Int.le_refl _
 · exact h (by omega) (by omega)
theorem o0h {n way : Int} (h : 1 ≤ way ∧ way ≤ 5) (L : List ByteArray) : errR n way L = errR n 1 L := by
 unfold errR
 rw [if_pos h, if_pos (show (1 : Int) ≤ 1 ∧ (1 : Int) ≤ 5 by omega)]
theorem p0t {n : Int} {s t : ByteArray} (h0 : errR n 1 [s, t] = 0) (c : Nat) {w1 w2 : Int} (hw1 : 1 ≤ w1 ∧ w1 ≤ 5) (hw2 : 1 ≤ w2 ∧ w2 ≤ 5) (hle : LeV (opM (fmt n) c (refD n s) (refD n t) w1).1 (opM (fmt n) c (refD n s) (refD n t) w2).1) :
 ∃ (x : Int) (p : Bool), (p = true → x ≤ 0) ∧ ∀ W, TabW W → Hid (Calls Tryd.prog 15 #[.int .i64 n, .string (outS n w1 [s, t] (opM (fmt n) c (refD n s) (refD n t) w1)), .string (outS n w2 [s, t] (opM (fmt n) c (refD n s) (refD n t) w2))] W fun en w' => en = .returned (.tuple #[.int .i64 x, .bool p, .int .i64 0]) ∧ Below W.heap.size W w') := by
 obtain ⟨hn, hL, _⟩ := f0l h0
 have G := d0h hn
 have R1 := i1p G c (d0q (s := s) hn) (d0q (s := t) hn) w1
 have R2 := i1p G c (d0q (s := s) hn) (d0q (s := t) hn) w2
 have e1 : outS n w1 [s, t] (opM (fmt n) c (refD n s) (refD n t) w1) = strR n (opM (fmt n) c (refD n s) (refD n t) w1).1 := by unfold outS; rw [o0h hw1, if_pos h0]
 have e2 : outS n w2 [s, t] (opM (fmt n) c (refD n s) (refD n t) w2) = strR n (opM (fmt n) c (refD n s) (refD n t) w2).1 := by unfold outS; rw [o0h hw2, if_pos h0]
 rw [e1, e2]
 generalize (opM (fmt n) c (refD n s) (refD n t) w1).1 = r1 at *
 generalize (opM (fmt n) c (refD n s) (refD n t) w2).1 = r2 at *
 obtain ⟨p1, d1⟩ := t0b hn R1
 obtain ⟨p2, d2⟩ := t0b hn R2
 have he : errR n 1 [strR n r1, strR n r2] = 0 := by
  unfold errR
  have : errL n [strR n r1, strR n r2] = 0 := by unfold errL errL errL; simp [p1, p2]
  rw [if_pos hn, if_pos this]; rfl
 refine ⟨(cmpR r1 r2).1, (cmpR r1 r2).2, g1j hle, fun W hT => ?_⟩
 have := p0r n (strR n r1) (strR n r2) W hT
 unfold o0e at this
 simp only [he, if_true, d1, d2] at this
 exact hi0 this
theorem z0i (n which way : Int) (s t : ByteArray) (b1 b2 b3 b4 : Nat) (w : World) (B1 : Bt w b1 3 #[.int .i64 which]) (B2 : Bt w b2 3 #[.int .i64 n]) (B3 : Bt w b3 9 #[.string s]) (B4 : Bt w b4 9 #[.string t]) (hT : TabW w) (hi : -9223372036854775808 ≤ which ∧ which ≤ 9223372036854775807) :
 Calls Tryd.prog 27 #[.int .i64 way, .pointer (some ⟨b1, 0, none⟩), .pointer (some ⟨b2, 0, none⟩), .pointer (some ⟨b3, 0, none⟩), .pointer (some ⟨b4, 0, none⟩)] w
  fun en w' => en = .returned (.tuple #[.string (outS n way [s, t] (opM (fmt n) (chs which 3) (refD n s) (refD n t) way)), .int .i64 (errR n way [s, t])]) ∧ Below w.heap.size w w' := by
 have HC := fun W => hi0 (stay (u0t which 3 W hi (by omega) (by omega)))
 have hlt := i1o which 3 (by omega)
 have HA := fun W h => hi0 (r0m (t0c n way s t W h))
 have HM := fun W h => hi0 (r0m (c1f n way s t W h))
 have HD := fun W h => hi0 (r0m (c1h n way s t W h))
 unfold opM
 generalize outF n way [s, t] ((fmt n).addM (refD n s) (refD n t) way) = fa at *
 generalize outF n way [s, t] ((fmt n).mulM (refD n s) (refD n t) way) = fm at *
 generalize outF n way [s, t] ((fmt n).divM (refD n s) (refD n t) way) = fd at *
 generalize (fmt n).addM (refD n s) (refD n t) way = ra at *
 generalize (fmt n).mulM (refD n s) (refD n t) way = rm at *
 generalize (fmt n).divM (refD n s) (refD n t) way = rd at *
 generalize errR n way [s, t] = er at *
 generalize chs which 3 = c at *
 have I := Inv.startR w [b1, b2, b3, b4] [⟨3, [.v (.int .i64 which)], true⟩, ⟨3, [.v (.int .i64 n)], true⟩, ⟨9, [.v (.string s)], true⟩, ⟨9, [.v (.string t)], true⟩] [tabF] ⟨B1, B2, B3, B4, True.intro⟩ ⟨hT, True.intro⟩
 refine a0f [.v (.int .i64 way), .p 0 0, .p 1 0, .p 2 0, .p 3 0] I Tryd.func27 ?_
 refine zq I (fun Al W I => (HC W).out) fun Al W I => ?_
 rcases Bool.eq_false_or_eq_true ((c : Int) == 0) with f22 | f22
 · refine zb I 22 ((c : Int) == 0) (true) (f22) fun Al W I => ?_
   refine zq I (fun Al W I => (HA W I.fa.1).out) fun Al W I => ?_
   exact zret I (v := fun Al => .tuple #[.string (outS n way [s, t] ra), .int .i64 er]) fun Al W I => ⟨by rw [if_pos (show c = 0 by have := oTr f22; omega)], I.below⟩
 refine zb I 22 ((c : Int) == 0) (false) (f22) fun Al W I => ?_
 rcases Bool.eq_false_or_eq_true ((c : Int) == 1) with f33 | f33
 · refine zb I 33 ((c : Int) == 1) (true) (f33) fun Al W I => ?_
   refine zq I (fun Al W I => (HM W I.fa.1).out) fun Al W I => ?_
   exact zret I (v := fun Al => .tuple #[.string (outS n way [s, t] rm), .int .i64 er]) fun Al W I => ⟨by rw [if_neg (show ¬ c = 0 by have := oFa f22; omega), if_pos (show c = 1 by have := oTr f33; omega)], I.below⟩
 refine zb I 33 ((c : Int) == 1) (false) (f33) fun Al W I => ?_
 refine zq I (fun Al W I => (HD W I.fa.1).out) fun Al W I => ?_
 exact zret I (v := fun Al => .tuple #[.string (outS n way [s, t] rd), .int .i64 er]) fun Al W I => ⟨by rw [if_neg (show ¬ c = 0 by have := oFa f22; omega), if_neg (show ¬ c = 1 by have := oFa f33; omega)], I.below⟩
theorem l0o (n : Int) (s t : ByteArray) (which : Int) (w : World) (hi : -9223372036854775808 ≤ which ∧ which ≤ 9223372036854775807) (hT : TabW w) : Calls Tryd.prog 7 #[.int .i64 n, .string s, .string t, .int .i64 which] w fun en w' => en = .returned (.bool true) ∧ Below w.heap.size w w' := by
 have HB0 := fun W h => hi0 (l0s W h)
 have HD := fun way b1 b2 b3 b4 W h1 h2 h3 h4 h5 => hi0 (z0i n which way s t b1 b2 b3 b4 W h1 h2 h3 h4 h5 hi)
 have H5 := HD 5
 have H1 := HD 1
 have H4 := HD 4
 clear HD
 rw [o0h (by omega)] at H5 H4
 by_cases h0 : errR n 1 [s, t] = 0
 · obtain ⟨hn, hL, _⟩ := f0l h0
   obtain ⟨k1, k2⟩ := c1j (d0h hn) (chs which 3) (d0q (s := s) hn).ok (d0q (s := t) hn).ok
   obtain ⟨x1, p1, l1, HC1⟩ := p0t h0 (chs which 3) (w1 := 5) (w2 := 1) (by omega) (by omega) k1
   obtain ⟨x2, p2, l2, HC2⟩ := p0t h0 (chs which 3) (w1 := 1) (w2 := 4) (by omega) (by omega) k2
   rw [h0] at H5 H1 H4
   generalize outS n 5 [s, t] (opM (fmt n) (chs which 3) (refD n s) (refD n t) 5) = s5 at *
   generalize outS n 1 [s, t] (opM (fmt n) (chs which 3) (refD n s) (refD n t) 1) = s1 at *
   generalize outS n 4 [s, t] (opM (fmt n) (chs which 3) (refD n s) (refD n t) 4) = s4 at *
   clear h0 hL k1 k2
   have I := Inv.start w [tabF] ⟨hT, True.intro⟩
   refine a0f [.v (.int .i64 n), .v (.string s), .v (.string t), .v (.int .i64 which)] I Tryd.func7 ?_
   refine zq I (fun Al W I => (HB0 W I.fa.1).out) fun Al W I => ?_
   refine zq I (fun Al W I => (H5 _ _ _ _ W (I.box 3 3 _) (I.box 0 3 _) (I.box 1 9 _) (I.box 2 9 _) I.fa.1).out) fun Al W I => ?_
   refine zq I (fun Al W I => (H1 _ _ _ _ W (I.box 3 3 _) (I.box 0 3 _) (I.box 1 9 _) (I.box 2 9 _) I.fa.1).out) fun Al W I => ?_
   refine zq I (fun Al W I => (H4 _ _ _ _ W (I.box 3 3 _) (I.box 0 3 _) (I.box 1 9 _) (I.box 2 9 _) I.fa.1).out) fun Al W I => ?_
   refine zq I (fun Al W I => (HC1 W I.fa.1).out) fun Al W I => ?_
   refine zq I (fun Al W I => (HC2 W I.fa.1).out) fun Al W I => ?_
   rcases Bool.eq_false_or_eq_true (!p1) with f72 | f72
   · refine zb I 72 (!p1) (true) (f72) fun Al W I => ?_
     rcases Bool.eq_false_or_eq_true (!p2) with f80 | f80
     · refine zb I 80 (!p2) (true) (f80) fun Al W I => ?_
       exact zrb I
     refine zb I 80 (!p2) (false) (f80) fun Al W I => ?_
     refine zb I 83 (decide (x2 ≤ 0)) (true) (dTr (l2 (by simpa using f80))) fun Al W I => ?_
     exact zrb I
   refine zb I 72 (!p1) (false) (f72) fun Al W I => ?_
   refine zb I 75 (decide (x1 ≤ 0)) (true) (dTr (l1 (by simpa using f72))) fun Al W I => ?_
   rcases Bool.eq_false_or_eq_true (!p2) with f80 | f80
   · refine zb I 80 (!p2) (true) (f80) fun Al W I => ?_
     exact zrb I
   refine zb I 80 (!p2) (false) (f80) fun Al W I => ?_
   refine zb I 83 (decide (x2 ≤ 0)) (true) (dTr (l2 (by simpa using f80))) fun Al W I => ?_
   exact zrb I
 · generalize errR n 1 [s, t] = er at *
   generalize outS n 5 [s, t] (opM (fmt n) (chs which 3) (refD n s) (refD n t) 5) = s5 at *
   generalize outS n 1 [s, t] (opM (fmt n) (chs which 3) (refD n s) (refD n t) 1) = s1 at *
   generalize outS n 4 [s, t] (opM (fmt n) (chs which 3) (refD n s) (refD n t) 4) = s4 at *
   have I := Inv.start w [tabF] ⟨hT, True.intro⟩
   refine a0f [.v (.int .i64 n), .v (.string s), .v (.string t), .v (.int .i64 which)] I Tryd.func7 ?_
   refine zq I (fun Al W I => (HB0 W I.fa.1).out) fun Al W I => ?_
   refine zq I (fun Al W I => (H5 _ _ _ _ W (I.box 3 3 _) (I.box 0 3 _) (I.box 1 9 _) (I.box 2 9 _) I.fa.1).out) fun Al W I => ?_
   refine zq I (fun Al W I => (H1 _ _ _ _ W (I.box 3 3 _) (I.box 0 3 _) (I.box 1 9 _) (I.box 2 9 _) I.fa.1).out) fun Al W I => ?_
   refine zq I (fun Al W I => (H4 _ _ _ _ W (I.box 3 3 _) (I.box 0 3 _) (I.box 1 9 _) (I.box 2 9 _) I.fa.1).out) fun Al W I => ?_
   refine zb I 39 (er != 0) (true) (bne_iff_ne.2 h0) fun Al W I => ?_
   exact zrb I
end Go.Proofs.YtmacohmclpnphaaDoor
