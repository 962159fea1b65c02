/- arith: compare, Open, Tell. -/
import Derived.Deep.LoopGhost
import Derived.Lib.Strings
import Derived.Lib.Slices
import Derived.Lib.Small
import Derived.Lib.Walk
import Derived.Lib.BitFns
import Derived.Outline
import Derived.Carry
import Derived.Deep.RegionHeld3
import Derived.Test.YtmacohmclpnphaaDoorYb1
import Derived.Test.YtmacohmclpnphaaDoorYb2
import Derived.Test.YtmacohmclpnphaaDoorYb3
import Derived.Test.YtmacohmclpnphaaDoorYb4
import Derived.Test.YtmacohmclpnphaaDoorYb5
import Derived.Test.YtmacohmclpnphaaDoorYb6
set_option maxHeartbeats 8000000
set_option maxRecDepth 100000
namespace Go.Proofs.YtmacohmclpnphaaDoor
open Go.RowKit Go.Slip
def _root_.Go.Slip.Vr.side (r : Vr) : Int := if r.cls ≠ 3 then 0 else if r.neg then -2 else 2
def cmpM (a b : Vr) : Int := if a.side ≠ 0 ∨ b.side ≠ 0 then clip (a.side - b.side) else rCmp a.x b.x
theorem s0e (f : Fm) (a : Vp) (r : Vr) (w : World) (A1 : AtV f a r) : Calls Tryd.prog 105 #[.agg #[.int .i64 (a.v.cls : Int), .bool a.v.neg, .slice a.p (dig B32 a.v.d).length a.c, .int .i64 a.v.pow]] w fun en w' => en = .returned (.int .i64 r.side) ∧ Below w.heap.size w w' := by
 unfold Vr.side
 rw [← A1.rep.cls, ← A1.rep.neg]
 clear A1
 obtain ⟨⟨k, g, d, e⟩, p, c⟩ := a
 simp only
 have HI := fun W => hi0 (l0b k g p (dig B32 d).length c e W)
 by_cases h : k = 3
 · rw [if_neg (fun h' => h' h)]
   cases g
   · have I := Inv.start w [] True.intro
     refine a0i [.v (.agg #[.int .i64 (k : Int), .bool false, .slice p (dig B32 d).length c, .int .i64 e])] I Tryd.func105 ?_
     refine zqd I (fun Al W I => (HI W).out) (dTr h) fun Al W I => ?_
     exact zrb I
   · have I := Inv.start w [] True.intro
     refine a0i [.v (.agg #[.int .i64 (k : Int), .bool true, .slice p (dig B32 d).length c, .int .i64 e])] I Tryd.func105 ?_
     refine zqd I (fun Al W I => (HI W).out) (dTr h) fun Al W I => ?_
     exact zrb I
 · rw [if_pos h]
   have I := Inv.start w [] True.intro
   refine a0i [.v (.agg #[.int .i64 (k : Int), .bool g, .slice p (dig B32 d).length c, .int .i64 e])] I Tryd.func105 ?_
   refine zqd I (fun Al W I => (HI W).out) (dFa h) fun Al W I => ?_
   exact zrb I
theorem z0z (x y : Dv) (p q : Option Addr) (c d : Nat) (w : World) (hx : Bare x) (hy : Bare y) (sx : SmD x) (sy : SmD y) (hp : Rd w .u32 p (dig B32 x.m)) (hq : Rd w .u32 q (dig B32 y.m)) :
 Calls Tryd.prog 107 #[.agg #[.bool x.neg, .slice p (dig B32 x.m).length c, .int .i64 x.e], .agg #[.bool y.neg, .slice q (dig B32 y.m).length d, .int .i64 y.e]] w fun en w' => en = .returned (.int .i64 (rCmp x y)) ∧ Below w.heap.size w w' := by
 have h1 := sx.len
 have h2 := sy.len
 have h3 := sx.lo
 have h4 := sx.hi
 have h5 := sy.lo
 have h6 := sy.hi
 have := z0c x.neg y.neg p q _ c _ d x.e y.e x.m y.m w hp hq rfl rfl (by omega) (by omega) (by omega) (by omega)
 rw [show (⟨x.neg, x.m, x.e⟩ : Dv) = x from rfl, show (⟨y.neg, y.m, y.e⟩ : Dv) = y from rfl, b1o hx hy] at this
 exact this
theorem q0r (n : Int) : (if (if (n : Int) < 1 then n else 1) > (-1 : Int) then (if (n : Int) < 1 then n else 1) else -1) = clip n := by
 unfold clip
 split <;> split <;> omega
theorem x0j (f : Fm) (n way fl : Int) (a b : Vp) (ra rb : Vr) (base u : Nat) (w : World) (U : Bt w u 153 #[.int .i64 n, .int .i64 way, .int .i64 f.g.rad, .int .i64 f.g.digs, .int .i64 f.g.lo, .int .i64 f.g.hi, .bool f.g.grad, .int .u8 (famB f), .int .i64 fl]) (oa : Own w base .u32 76 a.p a.c (dig B32 a.v.d)) (ob : Own w base .u32 76 b.p b.c (dig B32 b.v.d))
 (A1 : AtV f a ra) (B1 : AtV f b rb) (hT : TabW w) :
 Calls Tryd.prog 55 #[.pointer (some ⟨u, 0, none⟩), .agg #[.int .i64 (a.v.cls : Int), .bool a.v.neg, .slice a.p (dig B32 a.v.d).length a.c, .int .i64 a.v.pow], .agg #[.int .i64 (b.v.cls : Int), .bool b.v.neg, .slice b.p (dig B32 b.v.d).length b.c, .int .i64 b.v.pow]] w fun en w' => en = .returned (.int .i64 (cmpM ra rb)) ∧ Below w.heap.size w w' := by
 have HSA := fun W => hi0 (s0e f a ra W A1)
 have HSB := fun W => hi0 (s0e f b rb W B1)
 have HA := fun W u h1 h2 h3 => hi0 (f1r f n way fl a.v ra a.p a.c base u W h1 h2 A1.rep A1.ok h3)
 have HB := fun W u h1 h2 h3 => hi0 (f1r f n way fl b.v rb b.p b.c base u W h1 h2 B1.rep B1.ok h3)
 have HC := fun W p q c d h1 h2 => hi0 (z0z ra.x rb.x p q c d W A1.ok.bare B1.ok.bare A1.ok.sm B1.ok.sm h1 h2)
 have hM1 : ra.side ≠ 0 ∨ rb.side ≠ 0 → cmpM ra rb = clip (ra.side - rb.side) := fun h => by unfold cmpM; rw [if_pos h]
 have hM2 : ¬ (ra.side ≠ 0 ∨ rb.side ≠ 0) → cmpM ra rb = rCmp ra.x rb.x := fun h => by unfold cmpM; rw [if_neg h]
 have hb1 : -2 ≤ ra.side ∧ ra.side ≤ 2 := by unfold Vr.side; split; omega; split <;> omega
 have hb2 : -2 ≤ rb.side ∧ rb.side ≤ 2 := by unfold Vr.side; split; omega; split <;> omega
 generalize ra.side = sa at *
 generalize rb.side = sb at *
 generalize cmpM ra rb = R at *
 generalize rCmp ra.x rb.x = RC at *
 have I := Inv.startR w [u] [⟨153, (uS f n way fl), true⟩] [ownF base .u32 76 a.p a.c (dig B32 a.v.d), ownF base .u32 76 b.p b.c (dig B32 b.v.d), tabF] ⟨U, True.intro⟩ ⟨oa, ob, hT, True.intro⟩
 refine a0i [.p 0 0, .v (.agg #[.int .i64 (a.v.cls : Int), .bool a.v.neg, .slice a.p (dig B32 a.v.d).length a.c, .int .i64 a.v.pow]), .v (.agg #[.int .i64 (b.v.cls : Int), .bool b.v.neg, .slice b.p (dig B32 b.v.d).length b.c, .int .i64 b.v.pow])] I Tryd.func55 ?_
 refine zd [] I fun Al W I => ?_
 refine zk [0, 2] I fun I => ?_
 refine zo 1 I fun I => ?_
 refine zq I (fun Al W I => (HSA W).out) fun Al W I => ?_
 refine zo 3 I fun I => ?_
 refine zq I (fun Al W I => (HSB W).out) fun Al W I => ?_
 refine zk [4, 5] I fun I => ?_
 by_cases ha : sa = 0
 · by_cases hb0 : sb = 0
   · refine zb I 14 (sa != 0) (false) (bne_eq_false_iff_eq.2 ha) fun Al W I => ?_
     refine zb I 17 (sb != 0) (false) (bne_eq_false_iff_eq.2 hb0) fun Al W I => ?_
     refine zd [] I fun Al W I => ?_
     refine zk [0, 1, 3, 4] I fun I => ?_
     refine zo 2 I fun I => ?_
     refine zqo I (fun Al W I => (HA W _ (I.box 0 153 _) I.fa.1 I.fa.2.2.1).out) fun Al W p26 c26 I => ?_
     refine zo 5 I fun I => ?_
     refine zqo I (fun Al W I => (HB W _ (I.box 0 153 _) I.fa.2.2.1 I.fa.2.2.2.1).out) fun Al W p29 c29 I => ?_
     refine zo 6 I fun I => ?_
     refine zq I (fun Al W I => (HC W p26 p29 c26 c29 I.fa.2.1.rd I.fa.1.rd).out) fun Al W I => ?_
     refine zk [7] I fun I => ?_
     refine zret I (v := fun Al => .int .i64 RC) fun Al W I => ?_
     first | exact ⟨by rw [hM1 (by omega)], I.below⟩ | exact ⟨by rw [hM2 (by omega)], I.below⟩
   refine zb I 14 (sa != 0) (false) (bne_eq_false_iff_eq.2 ha) fun Al W I => ?_
   refine zb I 17 (sb != 0) (true) (bne_iff_ne.2 hb0) fun Al W I => ?_
   refine zi I 21 .i64 (sa - sb) ((sa - sb)) ((by exact iwo)) fun Al W I => ?_
   refine zm I 22 .i64 (if ((sa - sb) : Int) < 1 then (sa - sb) else 1) ((if (sa - sb : Int) < 1 then sa - sb else 1)) (rfl) fun Al W I => ?_
   refine zm I 23 .i64 (if ((if (sa - sb : Int) < 1 then sa - sb else 1) : Int) > (-1) then (if (sa - sb : Int) < 1 then sa - sb else 1) else (-1)) ((clip (sa - sb))) ((by exact q0r _)) fun Al W I => ?_
   refine zret I (v := fun Al => .int .i64 (clip (sa - sb))) fun Al W I => ?_
   first | exact ⟨by rw [hM1 (by omega)], I.below⟩ | exact ⟨by rw [hM2 (by omega)], I.below⟩
 by_cases hb0 : sb = 0
 · refine zb I 14 (sa != 0) (true) (bne_iff_ne.2 ha) fun Al W I => ?_
   refine zi I 21 .i64 (sa - sb) ((sa - sb)) ((by exact iwo)) fun Al W I => ?_
   refine zm I 22 .i64 (if ((sa - sb) : Int) < 1 then (sa - sb) else 1) ((if (sa - sb : Int) < 1 then sa - sb else 1)) (rfl) fun Al W I => ?_
   refine zm I 23 .i64 (if ((if (sa - sb : Int) < 1 then sa - sb else 1) : Int) > (-1) then (if (sa - sb : Int) < 1 then sa - sb else 1) else (-1)) ((clip (sa - sb))) ((by exact q0r _)) fun Al W I => ?_
   refine zret I (v := fun Al => .int .i64 (clip (sa - sb))) fun Al W I => ?_
   first | exact ⟨by rw [hM1 (by omega)], I.below⟩ | exact ⟨by rw [hM2 (by omega)], I.below⟩
 refine zb I 14 (sa != 0) (true) (bne_iff_ne.2 ha) fun Al W I => ?_
 refine zi I 21 .i64 (sa - sb) ((sa - sb)) ((by exact iwo)) fun Al W I => ?_
 refine zm I 22 .i64 (if ((sa - sb) : Int) < 1 then (sa - sb) else 1) ((if (sa - sb : Int) < 1 then sa - sb else 1)) (rfl) fun Al W I => ?_
 refine zm I 23 .i64 (if ((if (sa - sb : Int) < 1 then sa - sb else 1) : Int) > (-1) then (if (sa - sb : Int) < 1 then sa - sb else 1) else (-1)) ((clip (sa - sb))) ((by exact q0r _)) fun Al W I => ?_
 refine zret I (v := fun Al => .int .i64 (clip (sa - sb))) fun Al W I => ?_
 first | exact ⟨by rw [hM1 (by omega)], I.below⟩ | exact ⟨by rw [hM2 (by omega)], I.below⟩
theorem o0x (n : Int) (w : World) : Calls Tryd.prog 74 #[.int .i64 n] w fun en w' => en = .returned (.tuple #[.agg #[.int .i64 (fmt n).g.rad, .int .i64 (fmt n).g.digs, .int .i64 (fmt n).g.lo, .int .i64 (fmt n).g.hi, .bool (fmt n).g.grad], .int .i64 (k0s n)]) ∧ Below w.heap.size w w' := by
 by_cases hn : IsFm n
 · have h0 : k0s n = 0 := by unfold k0s; rw [if_pos hn]
   rw [h0]
   have HF := fun W => hi0 (h0p n hn W)
   generalize fmt n = f at *
   have I := Inv.start w [] True.intro
   refine a0i [.v (.int .i64 n)] I Tryd.func74 ?_
   refine zq I (fun Al W I => (HF W).out) fun Al W I => ?_
   exact zrb I
 · have h0 : k0s n = 6 := by unfold k0s; rw [if_neg hn]
   rw [h0, d1d hn]
   have HF := fun W => hi0 (k0n n hn W)
   have I := Inv.start w [] True.intro
   refine a0i [.v (.int .i64 n)] I Tryd.func74 ?_
   refine zq I (fun Al W I => (HF W).out) fun Al W I => ?_
   exact zrb I
theorem a1a (n way : Int) (w : World) (h : ¬ (IsFm n ∧ 1 ≤ way ∧ way ≤ 5)) : Calls Tryd.prog 52 #[.int .i64 n, .int .i64 way] w fun en w' => en = .returned (.tuple #[.pointer none, .int .i64 6]) ∧ Below w.heap.size w w' := by
 have HG := fun W => hi0 (o0x n W)
 by_cases hn : IsFm n
 · have he : k0s n = 0 := by unfold k0s; rw [if_pos hn]
   have h' : way < 1 ∨ 5 < way := by by_cases k : 1 ≤ way ∧ way ≤ 5; exact absurd ⟨hn, k⟩ h; omega
   rw [he] at HG
   generalize fmt n = f at *
   have I := Inv.start w [] True.intro
   refine a0i [.v (.int .i64 n), .v (.int .i64 way)] I Tryd.func52 ?_
   refine zq I (fun Al W I => (HG W).out) fun Al W I => ?_
   by_cases h1 : way < 1
   · refine zb I 18 (decide (way < 1)) (true) (dTr h1) fun Al W I => ?_
     exact zrb I
   refine zb I 18 (decide (way < 1)) (false) (dFa h1) fun Al W I => ?_
   refine zb I 21 (decide (way > 5)) (true) (dTr (by omega)) fun Al W I => ?_
   exact zrb I
 · have he : k0s n = 6 := by unfold k0s; rw [if_neg hn]
   rw [he] at HG
   generalize fmt n = f at *
   have I := Inv.start w [] True.intro
   refine a0i [.v (.int .i64 n), .v (.int .i64 way)] I Tryd.func52 ?_
   refine zq I (fun Al W I => (HG W).out) fun Al W I => ?_
   exact zrb I
def k0v (f : Fm) (n way : Int) (w : World) (en : Ending) (w' : World) : Prop :=
 ∃ u, en = .returned (.tuple #[.pointer (some ⟨u, 0, none⟩), .int .i64 0]) ∧ w.heap.size ≤ u ∧ Bt w' u 153 #[.int .i64 n, .int .i64 way, .int .i64 f.g.rad, .int .i64 f.g.digs, .int .i64 f.g.lo, .int .i64 f.g.hi, .bool f.g.grad, .int .u8 (famB f), .int .i64 0] ∧ Below w.heap.size w w'
theorem x0k (n way : Int) (w : World) (hn : IsFm n) (hw : 1 ≤ way ∧ way ≤ 5) : Calls Tryd.prog 52 #[.int .i64 n, .int .i64 way] w (k0v (fmt n) n way w) := by
 have HG := fun W => hi0 (o0x n W)
 have he : k0s n = 0 := by unfold k0s; rw [if_pos hn]
 rw [he] at HG
 have G := e0s hn
 generalize fmt n = f at *
 have hrad := G.rad
 have hgr := G.grad
 by_cases f2 : f.fam = 2
 · have hBf : famB f = 66 := by unfold famB; rw [if_neg (by omega), if_pos f2]
   rw [if_pos f2] at hrad
   have I := Inv.start w [] True.intro
   refine a0i [.v (.int .i64 n), .v (.int .i64 way)] I Tryd.func52 ?_
   refine zq I (fun Al W I => (HG W).out) fun Al W I => ?_
   refine zb I 18 (decide (way < 1)) (false) (dFa (by omega)) fun Al W I => ?_
   refine zb I 21 (decide (way > 5)) (false) (dFa (by omega)) fun Al W I => ?_
   refine zb I 31 (f.g.rad == 16) (true) (beq_iff_eq.2 hrad) fun Al W I => ?_
   exact zret I (v := fun Al => .tuple #[.pointer (some ⟨(lk 0 Al 1), 0, none⟩), .int .i64 0]) fun Al W I => ⟨_, rfl, (I.geB 1), by rw [hBf]; exact (I.box 1 153 _), I.below⟩
 · rw [if_neg f2] at hrad
   by_cases f1 : f.fam = 1
   · have hBf : famB f = 65 := by unfold famB; rw [if_pos f1]
     rw [decide_eq_true f1] at hgr
     unfold k0v
     rw [hBf, hgr]
     simp only [hgr] at HG
     have I := Inv.start w [] True.intro
     refine a0i [.v (.int .i64 n), .v (.int .i64 way)] I Tryd.func52 ?_
     refine zq I (fun Al W I => (HG W).out) fun Al W I => ?_
     refine zb I 18 (decide (way < 1)) (false) (dFa (by omega)) fun Al W I => ?_
     refine zb I 21 (decide (way > 5)) (false) (dFa (by omega)) fun Al W I => ?_
     refine zb I 31 (f.g.rad == 16) (false) (bFn (by omega)) fun Al W I => ?_
     exact zret I fun Al W I => ⟨_, rfl, (I.geB 1), (I.box 1 153 _), I.below⟩
   · have hBf : famB f = 67 := by unfold famB; rw [if_neg f1, if_neg f2]
     rw [decide_eq_false f1] at hgr
     unfold k0v
     rw [hBf, hgr]
     simp only [hgr] at HG
     have I := Inv.start w [] True.intro
     refine a0i [.v (.int .i64 n), .v (.int .i64 way)] I Tryd.func52 ?_
     refine zq I (fun Al W I => (HG W).out) fun Al W I => ?_
     refine zb I 18 (decide (way < 1)) (false) (dFa (by omega)) fun Al W I => ?_
     refine zb I 21 (decide (way > 5)) (false) (dFa (by omega)) fun Al W I => ?_
     refine zb I 31 (f.g.rad == 16) (false) (bFn (by omega)) fun Al W I => ?_
     exact zret I fun Al W I => ⟨_, rfl, (I.geB 1), (I.box 1 153 _), I.below⟩
end Go.Proofs.YtmacohmclpnphaaDoor
namespace Go.Slip
open Go.RowKit
theorem x0l {P : Program} {w : World} {b : Nat} {t : TypeId} {vs : Array Value} (h : Bt w b t vs) {ty : TypeId} (hT : d0h P ty) {m : Nat} (v : Value) (hv : vs[m]? = some v) : (VO.ld ty (.pointer (some (at_ (some ⟨b, 0, none⟩) m)))).sem.run P w = .ok v w := by
 have := p0u h hT m v hv
 show (Instr.loadAt _ _).run P w = _
 unfold at_
 simpa using this
end Go.Slip
namespace Go.Proofs.YtmacohmclpnphaaDoor
open Go.RowKit Go.Slip
def a1b (b : Nat) (xs : List Vp) : PF :=
 ⟨fun w => ∀ x, x ∈ xs → Own w b .u32 76 x.p x.c (dig B32 x.v.d), fun a => ∃ x, x ∈ xs ∧ x.p.isSome = true ∧ blk x.p = a, fun _ _ h hb _ x hx => (h x hx).same fun hp => hb _ ((h x hx).blk_lt hp).2 ⟨x, hx, hp, rfl⟩, fun _ _ h ⟨x, hx, hp, hf⟩ => hf ▸ ((h x hx).blk_lt hp).2⟩
theorem x0m {w : World} {b : Nat} {xs : List Vp} {v : Vl} {p : Option Addr} {c : Nat} (h : ∀ x, x ∈ xs → Own w b .u32 76 x.p x.c (dig B32 x.v.d)) (o : Own w b .u32 76 p c (dig B32 v.d)) : ∀ x, x ∈ xs ++ [⟨v, p, c⟩] → Own w b .u32 76 x.p x.c (dig B32 x.v.d) := fun x hx => by
 rw [List.mem_append, List.mem_singleton] at hx
 rcases hx with hx | rfl
 · exact h x hx
 · exact o
theorem a1c {b a : Nat} {xs : List Vp} {v : Vl} {p : Option Addr} {c : Nat} (h : (a1b b (xs ++ [⟨v, p, c⟩])).foot a) (h1 : ∀ x, (x ∈ xs ∧ x.p.isSome = true ∧ blk x.p = a) → False) (h2 : p.isSome = true → blk p = a → False) : False := by
 obtain ⟨x, hx, h3, h4⟩ := h
 rw [List.mem_append, List.mem_singleton] at hx
 rcases hx with hx | rfl
 · exact h1 x ⟨hx, h3, h4⟩
 · exact h2 h3 h4
theorem f1s : i0u Tryd.prog 154 9 (.string ByteArray.empty) 16 := tyV (by kernel_rfl) (by kernel_rfl) (by omega) rfl rfl
theorem f1t : d0h Tryd.prog 9 := c0c (by kernel_rfl) (by kernel_rfl)
def errL (n : Int) : List ByteArray → Int
 | [] => 0
 | s :: r => if a0t n s = 0 then errL n r else a0t n s
theorem x0n (n : Int) : ∀ (L : List ByteArray), errL n L ≠ 0 → ∃ (j : Nat) (s : ByteArray), L[j]? = some s ∧ errL n L = a0t n s ∧ a0t n s ≠ 0 ∧ ∀ i t, i < j → L[i]? = some t → a0t n t = 0
 | [], h => absurd rfl h
 | s :: r, h => by
  unfold errL at h ⊢
  by_cases hs : a0t n s = 0
  · rw [if_pos hs] at h ⊢
    obtain ⟨j, t, h1, h2, h3, h4⟩ := x0n n r h
    refine ⟨j + 1, t, by simpa using h1, h2, h3, fun i u hi hu => ?_⟩
    cases i with
    | zero => simp only [List.getElem?_cons_zero, Option.some.injEq] at hu; rw [← hu]; exact hs
    | succ i => exact h4 i u (by omega) (by simpa using hu)
  · rw [if_neg hs]
    exact ⟨0, s, rfl, rfl, hs, fun i t hi => by omega⟩
theorem h0w (n : Int) : ∀ {L : List ByteArray}, errL n L = 0 → ∀ s, s ∈ L → a0t n s = 0
 | [], _, s, h => by simp at h
 | t :: r, h, s, hs => by
  unfold errL at h
  by_cases ht : a0t n t = 0
  · rw [if_pos ht] at h
    rcases List.mem_cons.1 hs with rfl | hs
    · exact ht
    · exact h0w n h s hs
  · rw [if_neg ht] at h
    exact absurd h ht
def d1q (n : Int) (w : World) (L : List ByteArray) (en : Ending) (w' : World) : Prop :=
 ∃ (xs : List Vp) (vs : List Value) (p : Option Addr) (c : Nat), en = .returned (.tuple #[.slice p L.length c, .int .i64 0]) ∧ xs.map (·.v) = L.map (decP n) ∧ vs = xs.flatMap Vp.cells ∧ OwnS w' w.heap.size 29 4 p c L.length vs ∧ (∀ x, x ∈ xs → Own w' w.heap.size .u32 76 x.p x.c (dig B32 x.v.d)) ∧ Below w.heap.size w w'
theorem a1d (n way fl : Int) (L : List ByteArray) (b m u : Nat) (w : World) (U : Bt w u 153 #[.int .i64 n, .int .i64 way, .int .i64 (fmt n).g.rad, .int .i64 (fmt n).g.digs, .int .i64 (fmt n).g.lo, .int .i64 (fmt n).g.hi, .bool (fmt n).g.grad, .int .u8 (famB (fmt n)), .int .i64 fl]) (hB0 : Bt w b 9 (L.map Value.string).toArray) (hm : m = L.length) (hl : L.length ≤ 1000) (h0 : errL n L = 0) (hT : TabW w) :
 Calls Tryd.prog 53 #[.pointer (some ⟨u, 0, none⟩), .slice (some ⟨b, 0, none⟩) m m] w (d1q n w L) := by
 subst hm
 have HX : ∀ i, i < L.length → ∃ s : ByteArray, L[i]? = some s ∧ a0t n s = 0 ∧ (L.map Value.string).toArray[i]? = some (.string s) ∧ L.take (i + 1) = L.take i ++ [s] := fun i h => ⟨L[i], List.getElem?_eq_getElem h, h0w n h0 _ (List.getElem_mem h), by simp [h], by rw [List.take_add_one, List.getElem?_eq_getElem h]; rfl⟩
 have HD := fun s W h => hi0 (e0x n s W h)
 generalize fmt n = f at *
 have I := Inv.startW w u 153 (uS f n way fl) [btF b 9 (L.map Value.string).toArray, tabF] U ⟨hB0, hT, True.intro⟩ ⟨fun hf => hB0.far U (by kernel_rfl) hf, fun hf => hT.far U (by kernel_rfl) hf, True.intro⟩
 refine a0i [.p 0 0, .v (.slice (some ⟨b, 0, none⟩) L.length L.length)] I Tryd.func53 ?_
 have I := I.add (i0v w.heap.size 29 4 none 0 0 []) (OwnS.nil _ _ _ _) (fun _ _ h => by cases h.1)
 have I := I.add (a1b w.heap.size []) (fun _ h => by cases h) (fun _ _ ⟨_, h, _⟩ => by cases h)
 refine c1e I (fun gk fr bx gs => ∃ (U900 : Nat → Value) (i : Nat) (p6 : Option Addr) (c6 : Nat) (xs : List Vp) (vs : List Value), fr = (.p 0 0 :: .v (.slice (some ⟨b, 0, none⟩) L.length L.length) :: su 2 (sw U900 4 2 (.v (.slice p6 i c6) :: .v undef :: sw U900 8 3 (.v (.slice (some ⟨b, 0, none⟩) L.length L.length) :: .v (.int .i64 (L.length : Int)) :: .v (.int .i64 (i : Int)) :: sw U900 14 21 []))) : List SV) ∧ bx = [⟨153, (uS f n way fl), false⟩] ∧ gs = [a1b w.heap.size xs, i0v w.heap.size 29 4 p6 c6 i vs, btF b 9 (L.map Value.string).toArray, tabF] ∧ (gk + i = L.length) ∧ (vs = xs.flatMap Vp.cells) ∧ (xs.map (·.v) = (L.take i).map (decP n))) L.length (fun Al W U I => ⟨_, ⟨U, 0, none, 0, [], [], rfl, rfl, rfl, (by omega), rfl, rfl⟩, I.pick [0, 1, 2, 3]⟩) ?_
 rintro J gk0 _ _ _ ⟨U900, i, p6, c6, xs, vs, rfl, rfl, rfl, hgk, hvs, hxs⟩ hJ Al W I
 rcases Bool.eq_false_or_eq_true (decide ((i : Int) < (L.length : Int))) with f14 | f14
 · refine zb I 14 (decide ((i : Int) < (L.length : Int))) (true) (f14) fun Al W I => ?_
   obtain ⟨s, hs, hse, hsv, hst⟩ := HX i (by have := oTr f14; omega)
   refine zx I 15 (fun _ => .pointer (some (at_ (some ⟨b, 0, none⟩) i))) (fun Al W I => (v0s (m := i) (n := L.length) (c := L.length) f1s (fun _ => ⟨rfl, rfl⟩) (by have := oTr f14; omega))) fun Al W I => ?_
   refine zx I 16 (fun _ => .string s) (fun Al W I => (x0l I.fa.2.2.1 f1t _ hsv)) fun Al W I => ?_
   refine zqo I (fun Al W I => (HD s W I.fa.2.2.2.1).out) fun Al W p23 c23 I => ?_
   refine zb I 27 ((a0t n s) != 0) (false) (bne_eq_false_iff_eq.2 hse) fun Al W I => ?_
   have I := I.pick [2, 0, 1, 3, 4]
   refine zap I l0d 2 1 (fun Al => [.int .i64 (((decP n s).cls : Nat) : Int), .bool ((decP n s).neg), .slice p23 (dig B32 (decP n s).d).length c23, .int .i64 ((decP n s).pow)]) (fun Al W I => I.box 2 29 _) (by omega) (fun Al W I hp => ⟨I.fa.1.apart I.fa.2.1 (by kernel_rfl) hp, fun ⟨x, hx, h⟩ => I.fa.1.apart (I.fa.2.2.1 x hx) (by kernel_rfl) hp h, fun e => I.fa.1.far I.fa.2.2.2.1 (by kernel_rfl) hp (Eq.symm e), fun e => by have h1 := (I.fa.1.blk_lt hp).1; have h2 := hT.2; have e : 0 = _ := e; omega, True.intro⟩) fun Al W p32 c32 hq_32 I => ?_
   have I := I.add (a1b w.heap.size (xs ++ [(⟨decP n s, p23, c23⟩ : Vp)])) (x0m I.fa.2.2.1 I.fa.2.1) (fun a ha h => a1c h ((fun a ha h0 e => (I.far a ha).2.2.1 ⟨h0, e⟩) a ha) ((fun a ha h0 e => (I.far a ha).2.1 ⟨h0, e⟩) a ha))
   refine zi I 33 .i64 ((i : Int) + 1) (((i + 1 : Nat) : Int)) ((by rw [show ((i : Int) + 1) = ((i + 1 : Nat) : Int) by omega]; exact IntWalk.i64_in _ (by have := oTr f14; omega))) fun Al W I => ?_
   exact b1a 1 I J fun Al W U I => hJ (gk0 - 1) _ _ _ _ _ ((by have := oTr f14; omega)) ⟨U, i + 1, p32, c32, xs ++ [(⟨decP n s, p23, c23⟩ : Vp)], _, rfl, rfl, rfl, (by have := oTr f14; omega), (by rw [hvs, List.flatMap_append]; rfl), (by rw [hst, List.map_append, List.map_append, hxs]; rfl)⟩ (I.pick [0, 1, 4, 5])
 refine zb I 14 (decide ((i : Int) < (L.length : Int))) (false) (f14) fun Al W I => ?_
 have hi : i = L.length := by have := oFa f14; omega
 exact zret I (v := fun Al => .tuple #[.slice p6 i c6, .int .i64 0]) fun Al W I => ⟨xs, vs, p6, c6, by rw [hi], by rw [hxs, hi, List.take_length], hvs, hi ▸ I.fa.2.1, I.fa.1, I.bel.toBelow U (I.boxE 153 _)⟩
theorem o0y (n way fl : Int) (L : List ByteArray) (b m u : Nat) (w : World) (U : Bt w u 153 #[.int .i64 n, .int .i64 way, .int .i64 (fmt n).g.rad, .int .i64 (fmt n).g.digs, .int .i64 (fmt n).g.lo, .int .i64 (fmt n).g.hi, .bool (fmt n).g.grad, .int .u8 (famB (fmt n)), .int .i64 fl]) (hB0 : Bt w b 9 (L.map Value.string).toArray) (hm : m = L.length) (hl : L.length ≤ 1000) (h0 : errL n L ≠ 0) (hT : TabW w) :
 Calls Tryd.prog 53 #[.pointer (some ⟨u, 0, none⟩), .slice (some ⟨b, 0, none⟩) m m] w fun en w' => en = .returned (.tuple #[.slice none 0 0, .int .i64 (errL n L)]) ∧ Below w.heap.size w w' := by
 subst hm
 obtain ⟨j, sj, hj, he, hne, hlt⟩ := x0n n L h0
 have hjl : j < L.length := (List.getElem?_eq_some_iff.1 hj).1
 rw [he]
 have HX : ∀ i, i < L.length → ∃ s : ByteArray, (L.map Value.string).toArray[i]? = some (.string s) ∧ (i < j → a0t n s = 0) ∧ (i = j → a0t n s = a0t n sj) := fun i h => ⟨L[i], by simp [h], fun k => hlt i _ k (List.getElem?_eq_getElem h), fun k => by subst k; rw [List.getElem?_eq_getElem h] at hj; cases hj; rfl⟩
 have HD := fun s W h => hi0 (e0x n s W h)
 clear he h0 hlt hj
 generalize a0t n sj = er at *
 generalize fmt n = f at *
 have I := Inv.startW w u 153 (uS f n way fl) [btF b 9 (L.map Value.string).toArray, tabF] U ⟨hB0, hT, True.intro⟩ ⟨fun hf => hB0.far U (by kernel_rfl) hf, fun hf => hT.far U (by kernel_rfl) hf, True.intro⟩
 refine a0i [.p 0 0, .v (.slice (some ⟨b, 0, none⟩) L.length L.length)] I Tryd.func53 ?_
 have I := I.add (i0v w.heap.size 29 4 none 0 0 []) (OwnS.nil _ _ _ _) (fun _ _ h => by cases h.1)
 refine c1e I (fun gk fr bx gs => ∃ (U900 : Nat → Value) (i : Nat) (p6 : Option Addr) (c6 : Nat) (vs : List Value), fr = (.p 0 0 :: .v (.slice (some ⟨b, 0, none⟩) L.length L.length) :: su 2 (sw U900 4 2 (.v (.slice p6 i c6) :: .v undef :: sw U900 8 3 (.v (.slice (some ⟨b, 0, none⟩) L.length L.length) :: .v (.int .i64 (L.length : Int)) :: .v (.int .i64 (i : Int)) :: sw U900 14 21 []))) : List SV) ∧ bx = [⟨153, (uS f n way fl), false⟩] ∧ gs = [i0v w.heap.size 29 4 p6 c6 i vs, btF b 9 (L.map Value.string).toArray, tabF] ∧ (gk + i = L.length) ∧ (i ≤ j)) L.length (fun Al W U I => ⟨_, ⟨U, 0, none, 0, [], rfl, rfl, rfl, (by omega), (by omega)⟩, I.pick [0, 1, 2]⟩) ?_
 rintro J gk0 _ _ _ ⟨U900, i, p6, c6, vs, rfl, rfl, rfl, hgk, hij⟩ hJ Al W I
 rcases Bool.eq_false_or_eq_true (decide ((i : Int) < (L.length : Int))) with f14 | f14
 · refine zb I 14 (decide ((i : Int) < (L.length : Int))) (true) (f14) fun Al W I => ?_
   obtain ⟨s, hsv, hs0, hse⟩ := HX i (by have := oTr f14; omega)
   refine zx I 15 (fun _ => .pointer (some (at_ (some ⟨b, 0, none⟩) i))) (fun Al W I => (v0s (m := i) (n := L.length) (c := L.length) f1s (fun _ => ⟨rfl, rfl⟩) (by have := oTr f14; omega))) fun Al W I => ?_
   refine zx I 16 (fun _ => .string s) (fun Al W I => (x0l I.fa.2.1 f1t _ hsv)) fun Al W I => ?_
   refine zqo I (fun Al W I => (HD s W I.fa.2.2.1).out) fun Al W p23 c23 I => ?_
   by_cases hij2 : i = j
   · refine zb I 27 ((a0t n s) != 0) (true) (bne_iff_ne.2 (by rw [hse hij2]; exact hne)) fun Al W I => ?_
     exact zret I (v := fun Al => .tuple #[.slice none 0 0, .int .i64 (a0t n s)]) fun Al W I => ⟨by rw [hse hij2], I.bel.toBelow U (I.boxE 153 _)⟩
   refine zb I 27 ((a0t n s) != 0) (false) (bne_eq_false_iff_eq.2 (hs0 (by omega))) fun Al W I => ?_
   have I := I.pick [1, 0, 2, 3]
   refine zap I l0d 2 1 (fun Al => [.int .i64 (((decP n s).cls : Nat) : Int), .bool ((decP n s).neg), .slice p23 (dig B32 (decP n s).d).length c23, .int .i64 ((decP n s).pow)]) (fun Al W I => I.box 2 29 _) (by omega) (fun Al W I hp => ⟨I.fa.1.apart I.fa.2.1 (by kernel_rfl) hp, fun e => I.fa.1.far I.fa.2.2.1 (by kernel_rfl) hp (Eq.symm e), fun e => by have h1 := (I.fa.1.blk_lt hp).1; have h2 := hT.2; have e : 0 = _ := e; omega, True.intro⟩) fun Al W p32 c32 hq_32 I => ?_
   refine zi I 33 .i64 ((i : Int) + 1) (((i + 1 : Nat) : Int)) ((by rw [show ((i : Int) + 1) = ((i + 1 : Nat) : Int) by omega]; exact IntWalk.i64_in _ (by have := oTr f14; omega))) fun Al W I => ?_
   exact b1a 1 I J fun Al W U I => hJ (gk0 - 1) _ _ _ _ _ ((by have := oTr f14; omega)) ⟨U, i + 1, p32, c32, _, rfl, rfl, rfl, (by have := oTr f14; omega), (by omega)⟩ (I.pick [0, 2, 3])
 refine zb I 14 (decide ((i : Int) < (L.length : Int))) (false) (f14) fun Al W I => ?_
 exact zret I (v := fun Al => .tuple #[.slice p6 i c6, .int .i64 0]) fun Al W I => absurd (oFa f14) (by rw [Classical.not_not]; omega)
def errR (n way : Int) (L : List ByteArray) : Int := if IsFm n then (if errL n L = 0 then (if 1 ≤ way ∧ way ≤ 5 then 0 else 6) else errL n L) else 6
def strR (n : Int) (r : Vr) : ByteArray := a0v ((fmt n).strP ((fmt n).encP r.cls r.neg r.x))
def o0z (x : Dv) (up : Bool) : Dv := if up = true then x else a0p x
def q0s (x : Dv) (g : Gd) (up : Bool) : Dv := o0z (c0k (o0z x up) g).1 up
def t0l (cls : Nat) (x : Dv) (g : Gd) (up : Bool) : Int := if 2 < cls ∨ a0h x g = false then 4 else if (c0k (o0z x up) g).2 = false then 5 else 0
def p0a (f : Fm) (x : Dv) (up : Bool) : ByteArray := if (q0s x f.g up).m = 0 then a0v (f.str false 0 0) else a0v (f.strP (f.numP (q0s x f.g up)))
def f0j (n : Int) (s : ByteArray) (up : Bool) : Int := if a0t n s = 0 then t0l ((fmt n).refN (a0d (fmt n) s)).cls ((fmt n).refN (a0d (fmt n) s)).x (fmt n).g up else a0t n s
def d0j (n : Int) (s : ByteArray) (up : Bool) : ByteArray := p0a (fmt n) ((fmt n).refN (a0d (fmt n) s)).x up
structure PatN (f : Fm) (v : Vl) (x : Dv) : Prop where
 same : bare ⟨v.neg, v.d, wid f.g * v.pow⟩ = x
 bare : Bare x
 vlen : (dig B32 v.d).length ≤ 1000
 len : (dig B32 x.m).length ≤ 1000
 len16 : (dig B16 x.m).length ≤ 1000
 pl : -100000 ≤ v.pow
 ph : v.pow ≤ 100000
 lo : -100000 ≤ x.e
 hi : x.e ≤ 100000
 c1 : 1 ≤ v.cls
theorem a1e {f : Fm} {g : Bool} {D : Dc} (k1 : 1 ≤ D.c) (k2 : D.m < 2 ^ (f.F + 1)) (k3 : -16445 ≤ D.p ∧ D.p ≤ 16323) (z2 : f.F ≤ 64) : PatN f (f.vl g D) (f.vr g D).x := by
 have hs := s0b f g D
 have hml : (dig B32 D.m).length ≤ 3 := a0l k2 (by omega)
 have hml16 : (dig B16 D.m).length ≤ 5 := w0x k2 (by omega)
 have hw := b0c f.g
 have hmu := e0w (wd := wid f.g) (k := D.p) (B := 16445) hw.2 (by omega)
 have hvd : (dig B32 (f.vl g D).d).length ≤ 3 := by
  unfold Fm.vl
  simp only
  split
  · exact Nat.le_trans (a0m a0a (Nat.div_le_self _ _)) hml
  · simp [a0e]
 have hvp : -100000 ≤ (f.vl g D).pow ∧ (f.vl g D).pow ≤ 100000 := by
  unfold Fm.vl
  simp only
  split
  · have h1 : tz D.m ≤ 32000 := f1o D.m (by omega)
    have h2 := Nat.div_le_self (tz D.m) (wid f.g)
    obtain ⟨q, hq⟩ : ∃ q : Nat, tz D.m / wid f.g = q := ⟨_, rfl⟩
    rw [hq] at h2 ⊢
    omega
  · omega
 have hx : (dig B32 (f.vr g D).x.m).length ≤ 3 ∧ (dig B16 (f.vr g D).x.m).length ≤ 5 ∧ -100000 ≤ (f.vr g D).x.e ∧ (f.vr g D).x.e ≤ 100000 := by
  unfold Fm.vr
  simp only
  split
  · have := l0p (⟨g, D.m, wid f.g * D.p⟩ : Dv) (n := 3) hml (lo := -80000) (hi := 70000) (by simp only; omega) (by simp only; omega) (by omega) (by omega)
    exact ⟨Nat.le_trans (f0x a0a _) hml, Nat.le_trans (f0x e0q _) hml16, by omega, by omega⟩
  · simp [a0e]
 exact ⟨hs, by rw [← hs]; exact f0p _, by omega, by omega, by omega, hvp.1, hvp.2, by omega, by omega, k1⟩
theorem d1r {f : Fm} (G : e0b f) (s : ByteArray) : PatN f (f.valN (a0d f s)) (f.refN (a0d f s)).x := by
 have he : f.exp (a0d f s) < 2 ^ f.E := Nat.mod_lt _ (Nat.pow_pos (by omega))
 have hx : f.frac (a0d f s) < 2 ^ f.F := Nat.mod_lt _ (Nat.pow_pos (by omega))
 refine a1e ?_ (w0b (f := f) (f.neg (a0d f s)) (e := f.exp (a0d f s)) hx) (y0v G (f.neg (a0d f s)) (frac := f.frac (a0d f s)) he) G.f2
 have := q0j f (f.neg (a0d f s)) (f.exp (a0d f s)) (f.frac (a0d f s))
 unfold Fm.decN Dc.c
 split <;> omega
theorem d1s (n : Int) (s : ByteArray) (up : Bool) (w : World) (hn : IsFm n) (hs : s.size = (fmt n).size) (hT : TabW w) :
 Calls Tryd.prog 13 #[.int .i64 n, .string s, .bool up] w (h0t w (t0l ((fmt n).refN (a0d (fmt n) s)).cls ((fmt n).refN (a0d (fmt n) s)).x (fmt n).g up) (p0a (fmt n) ((fmt n).refN (a0d (fmt n) s)).x up)) := by
 have G := e0s hn
 have HF := fun W => hi0 (w0t n s W hn hs)
 have HD := fun W h => hi0 (m0a (fmt n) s W G hs h)
 have PN := d1r G s
 have hcl : ((fmt n).refN (a0d (fmt n) s)).cls = ((fmt n).valN (a0d (fmt n) s)).cls := rfl
 rw [hcl]
 generalize ((fmt n).refN (a0d (fmt n) s)).x = x at *
 generalize (fmt n).valN (a0d (fmt n) s) = v at *
 generalize (fmt n).neg (a0d (fmt n) s) = g at *
 generalize fmt n = f at *
 obtain ⟨hsm, hB, hvl, hxl, _, hpl, hph, hlo, hhi, hc1⟩ := PN
 have hg := G.g
 have GG := c0r hg
 have hkp := h0i hB GG
 have hPe : 0 < 2 ^ f.E := Nat.pow_pos (by omega)
 have HR : ∀ (W : World) p c, Own W w.heap.size .u32 76 p c (dig B32 v.d) → TabW W → Hid (Calls Tryd.prog 45 #[.agg #[.int .i64 (f.size : Int), .int .i64 (f.E : Int), .int .i64 (f.F : Int), .int .i64 f.g.rad, .int .i64 f.g.digs, .int .i64 f.g.lo, .int .i64 f.g.hi, .bool f.g.grad, .bool f.hid, .bool f.inf, .bool f.res, .func (.func (ordF f)) #[] #[]], .agg #[.int .i64 (v.cls : Int), .bool v.neg, .slice p (dig B32 v.d).length c, .int .i64 v.pow]] W (d0w W W.heap.size x)) := by
  intro W p c h1 h2
  have := x0c f v.neg v.d v.pow v.cls p c W h1.rd h1.le_cap (by omega) ⟨hpl, hph⟩ h2
  rw [hsm] at this
  exact hi0 this
 obtain ⟨x1, h1⟩ : ∃ x1, o0z x up = x1 := ⟨_, rfl⟩
 have hm1 : x1.m = x.m ∧ x1.e = x.e ∧ a0h x1 f.g = a0h x f.g ∧ Bare x1 := by
  subst h1
  unfold o0z
  split
  · exact ⟨rfl, rfl, rfl, hB⟩
  · exact ⟨rfl, rfl, rfl, j0p hB⟩
 obtain ⟨x2, h2⟩ : ∃ x2, (c0k x1 f.g).1 = x2 := ⟨_, rfl⟩
 obtain ⟨ok, hok⟩ : ∃ ok, (c0k x1 f.g).2 = ok := ⟨_, rfl⟩
 have hin2 := fun h : ok = true => s0a (a := x1) GG (hok.trans h)
 rw [h2] at hin2
 obtain ⟨x3, h3⟩ : ∃ x3, o0z x2 up = x3 := ⟨_, rfl⟩
 have hm3 : x3.m = x2.m ∧ x3.e = x2.e ∧ a0h x3 f.g = a0h x2 f.g := by
  subst h3
  unfold o0z
  split <;> exact ⟨rfl, rfl, rfl⟩
 have HG : ∀ (W : World) p c base, Own W base .u32 76 p c (dig B32 x1.m) → a0h x f.g = true → TabW W → base ≤ W.heap.size → Hid (Calls Tryd.prog 48 #[.agg #[.bool x1.neg, .slice p (dig B32 x1.m).length c, .int .i64 x1.e], .agg #[.int .i64 f.g.rad, .int .i64 f.g.digs, .int .i64 f.g.lo, .int .i64 f.g.hi, .bool f.g.grad]] W (x0b W base x2 ok)) := by
  intro W p c base k1 k2 k3 k4
  obtain ⟨q1, q2, q3, q4⟩ := hm1
  have q5 : (dig B32 x1.m).length ≤ 1200 := by rw [q1]; omega
  have he := m0q hg hB k2
  have := t0i x1.neg p c base x1.m x1.e f.g W k1 q4 q5 (by omega) GG (q3.trans k2) k3 k4
  rw [show (⟨x1.neg, x1.m, x1.e⟩ : Dv) = x1 from rfl, h2, hok] at this
  exact hi0 this
 have hE : t0l v.cls x f.g up = if 2 < v.cls ∨ a0h x f.g = false then 4 else if ok = false then 5 else 0 := by unfold t0l; rw [h1, hok]
 have hO : p0a f x up = if x3.m = 0 then a0v (f.str false 0 0) else a0v (f.strP (f.numP x3)) := by
  have h : q0s x f.g up = x3 := by unfold q0s; rw [h1, h2, h3]
  unfold p0a
  rw [h]
 rw [hE, hO]
 have hl3 := fun h : ok = true => z0t hg (hin2 h).1
 have he3 := fun h : ok = true => m0q hg (hin2 h).2 (hin2 h).1
 have hup : up = true → x1 = x ∧ x3 = x2 := fun h => by rw [← h1, ← h3, h]; exact ⟨rfl, rfl⟩
 have hdn : up = false → x1 = a0p x ∧ x3 = a0p x2 := fun h => by rw [← h1, ← h3, h]; exact ⟨rfl, rfl⟩
 clear hE hO h1 h2 h3 hok
 cases up with
 | true =>
  obtain ⟨e1, e3⟩ := hup rfl
  subst e1 e3
  clear hup hdn
  have I := Inv.start w [tabF] ⟨hT, True.intro⟩
  refine a0i [.v (.int .i64 n), .v (.string s), .v (.bool true)] I Tryd.func13 ?_
  refine zq I (fun Al W I => (HF W).out) fun Al W I => ?_
  refine zqo I (fun Al W I => (HD W I.fa.1).out) fun Al W p26 c26 I => ?_
  rcases Bool.eq_false_or_eq_true ((v.cls : Int) != 2) with f31 | f31
  · refine zb I 31 ((v.cls : Int) != 2) (true) (f31) fun Al W I => ?_
    rcases Bool.eq_false_or_eq_true ((v.cls : Int) != 1) with f35 | f35
    · refine zb I 35 ((v.cls : Int) != 1) (true) (f35) fun Al W I => ?_
      have hE : 2 < v.cls ∨ a0h x1 f.g = false := .inl (by have := bne_iff_ne.1 f31; have := bne_iff_ne.1 f35; omega)
      refine zret I (v := fun Al => .tuple #[Go.Value.string (ByteArray.mk #[]), .int .i64 4]) fun Al W I => ?_
      first | exact a0c (r := 4) (if_pos hE) (by decide) rfl I.below | exact a0c (r := 5) ((if_neg hE).trans (if_pos f55)) (by decide) rfl I.below
    refine zb I 35 ((v.cls : Int) != 1) (false) (f35) fun Al W I => ?_
    refine zqo I (fun Al W I => have hzW := I.bel.size; (HR W p26 c26 (I.fa.1.mono (by omega)) I.fa.2.1).out) fun Al W p39 c39 I => ?_
    by_cases hk : a0h x1 f.g = true
    · refine zqd I (fun Al W I => have hzW := I.bel.size; b0b x1.neg p39 c39 x1.e x1.m f.g W I.fa.1.rd (by omega) (by omega) GG) (show (c0g ⟨x1.neg, x1.m, x1.e⟩ f.g) = true from hkp.trans hk) fun Al W I => ?_
      have hE : ¬ (2 < v.cls ∨ a0h x1 f.g = false) := fun h => by rcases h with h | h <;> first | (rw [hk] at h; cases h; done) | (have := bne_eq_false_iff_eq.1 f31; omega) | (have := bne_eq_false_iff_eq.1 f35; omega)
      refine zqo I (fun Al W I => have hzW := I.bel.size; (HG W p39 c39 _ I.fa.1 hk I.fa.2.2.1 (by omega)).out) fun Al W p53 c53 I => ?_
      rcases Bool.eq_false_or_eq_true (ok) with f55 | f55
      · refine zb I 55 (ok) (true) (f55) fun Al W I => ?_
        by_cases h0 : x3.m = 0
        · have hl := hl3 f55
          have hee := he3 f55
          refine zq I (fun Al W I => a0u x3.neg p53 _ c53 x3.e x3.m W rfl) fun Al W I => ?_
          refine zb I 60 ((a0w ⟨x3.neg, x3.m, x3.e⟩) == 0) (true) (beq_iff_eq.2 ((d0t x3).2 h0)) fun Al W I => ?_
          refine zq I (fun Al W I => h0u f false 0 0 rfl W G hPe) fun Al W I => ?_
          exact zret I (v := fun Al => .tuple #[.string (a0v (f.str false 0 0)), .int .i64 0]) fun Al W I => a0x (by rw [if_neg hE, if_neg (by rw [f55]; simp)]) (by rw [if_pos h0]) rfl I.below
        have hl := hl3 f55
        have hee := he3 f55
        refine zq I (fun Al W I => a0u x3.neg p53 _ c53 x3.e x3.m W rfl) fun Al W I => ?_
        refine zb I 60 ((a0w ⟨x3.neg, x3.m, x3.e⟩) == 0) (false) (bFn (fun h => h0 ((d0t x3).1 h))) fun Al W I => ?_
        refine zq I (fun Al W I => have hzW := I.bel.size; f0a f x3 p53 c53 W G I.fa.1.rd hl (by omega) (hin2 f55).1 h0) fun Al W I => ?_
        exact zret I (v := fun Al => .tuple #[.string (a0v (f.strP (f.numP x3))), .int .i64 0]) fun Al W I => a0x (by rw [if_neg hE, if_neg (by rw [f55]; simp)]) (by rw [if_neg h0]) rfl I.below
      refine zb I 55 (ok) (false) (f55) fun Al W I => ?_
      refine zret I (v := fun Al => .tuple #[Go.Value.string (ByteArray.mk #[]), .int .i64 5]) fun Al W I => ?_
      first | exact a0c (r := 4) (if_pos hE) (by decide) rfl I.below | exact a0c (r := 5) ((if_neg hE).trans (if_pos f55)) (by decide) rfl I.below
    refine zqd I (fun Al W I => have hzW := I.bel.size; b0b x1.neg p39 c39 x1.e x1.m f.g W I.fa.1.rd (by omega) (by omega) GG) (show (c0g ⟨x1.neg, x1.m, x1.e⟩ f.g) = false from hkp.trans (by simpa using hk)) fun Al W I => ?_
    have hE : 2 < v.cls ∨ a0h x1 f.g = false := .inr (by simpa using hk)
    refine zret I (v := fun Al => .tuple #[Go.Value.string (ByteArray.mk #[]), .int .i64 4]) fun Al W I => ?_
    first | exact a0c (r := 4) (if_pos hE) (by decide) rfl I.below | exact a0c (r := 5) ((if_neg hE).trans (if_pos f55)) (by decide) rfl I.below
  refine zb I 31 ((v.cls : Int) != 2) (false) (f31) fun Al W I => ?_
  refine zqo I (fun Al W I => have hzW := I.bel.size; (HR W p26 c26 (I.fa.1.mono (by omega)) I.fa.2.1).out) fun Al W p39 c39 I => ?_
  by_cases hk : a0h x1 f.g = true
  · refine zqd I (fun Al W I => have hzW := I.bel.size; b0b x1.neg p39 c39 x1.e x1.m f.g W I.fa.1.rd (by omega) (by omega) GG) (show (c0g ⟨x1.neg, x1.m, x1.e⟩ f.g) = true from hkp.trans hk) fun Al W I => ?_
    have hE : ¬ (2 < v.cls ∨ a0h x1 f.g = false) := fun h => by rcases h with h | h <;> first | (rw [hk] at h; cases h; done) | (have := bne_eq_false_iff_eq.1 f31; omega) | (have := bne_eq_false_iff_eq.1 f35; omega)
    refine zqo I (fun Al W I => have hzW := I.bel.size; (HG W p39 c39 _ I.fa.1 hk I.fa.2.2.1 (by omega)).out) fun Al W p53 c53 I => ?_
    rcases Bool.eq_false_or_eq_true (ok) with f55 | f55
    · refine zb I 55 (ok) (true) (f55) fun Al W I => ?_
      by_cases h0 : x3.m = 0
      · have hl := hl3 f55
        have hee := he3 f55
        refine zq I (fun Al W I => a0u x3.neg p53 _ c53 x3.e x3.m W rfl) fun Al W I => ?_
        refine zb I 60 ((a0w ⟨x3.neg, x3.m, x3.e⟩) == 0) (true) (beq_iff_eq.2 ((d0t x3).2 h0)) fun Al W I => ?_
        refine zq I (fun Al W I => h0u f false 0 0 rfl W G hPe) fun Al W I => ?_
        exact zret I (v := fun Al => .tuple #[.string (a0v (f.str false 0 0)), .int .i64 0]) fun Al W I => a0x (by rw [if_neg hE, if_neg (by rw [f55]; simp)]) (by rw [if_pos h0]) rfl I.below
      have hl := hl3 f55
      have hee := he3 f55
      refine zq I (fun Al W I => a0u x3.neg p53 _ c53 x3.e x3.m W rfl) fun Al W I => ?_
      refine zb I 60 ((a0w ⟨x3.neg, x3.m, x3.e⟩) == 0) (false) (bFn (fun h => h0 ((d0t x3).1 h))) fun Al W I => ?_
      refine zq I (fun Al W I => have hzW := I.bel.size; f0a f x3 p53 c53 W G I.fa.1.rd hl (by omega) (hin2 f55).1 h0) fun Al W I => ?_
      exact zret I (v := fun Al => .tuple #[.string (a0v (f.strP (f.numP x3))), .int .i64 0]) fun Al W I => a0x (by rw [if_neg hE, if_neg (by rw [f55]; simp)]) (by rw [if_neg h0]) rfl I.below
    refine zb I 55 (ok) (false) (f55) fun Al W I => ?_
    refine zret I (v := fun Al => .tuple #[Go.Value.string (ByteArray.mk #[]), .int .i64 5]) fun Al W I => ?_
    first | exact a0c (r := 4) (if_pos hE) (by decide) rfl I.below | exact a0c (r := 5) ((if_neg hE).trans (if_pos f55)) (by decide) rfl I.below
  refine zqd I (fun Al W I => have hzW := I.bel.size; b0b x1.neg p39 c39 x1.e x1.m f.g W I.fa.1.rd (by omega) (by omega) GG) (show (c0g ⟨x1.neg, x1.m, x1.e⟩ f.g) = false from hkp.trans (by simpa using hk)) fun Al W I => ?_
  have hE : 2 < v.cls ∨ a0h x1 f.g = false := .inr (by simpa using hk)
  refine zret I (v := fun Al => .tuple #[Go.Value.string (ByteArray.mk #[]), .int .i64 4]) fun Al W I => ?_
  first | exact a0c (r := 4) (if_pos hE) (by decide) rfl I.below | exact a0c (r := 5) ((if_neg hE).trans (if_pos f55)) (by decide) rfl I.below
 | false =>
  obtain ⟨e1, e3⟩ := hdn rfl
  subst e1 e3
  clear hup hdn
  have I := Inv.start w [tabF] ⟨hT, True.intro⟩
  refine a0i [.v (.int .i64 n), .v (.string s), .v (.bool false)] I Tryd.func13 ?_
  refine zq I (fun Al W I => (HF W).out) fun Al W I => ?_
  refine zqo I (fun Al W I => (HD W I.fa.1).out) fun Al W p26 c26 I => ?_
  rcases Bool.eq_false_or_eq_true ((v.cls : Int) != 2) with f31 | f31
  · refine zb I 31 ((v.cls : Int) != 2) (true) (f31) fun Al W I => ?_
    rcases Bool.eq_false_or_eq_true ((v.cls : Int) != 1) with f35 | f35
    · refine zb I 35 ((v.cls : Int) != 1) (true) (f35) fun Al W I => ?_
      have hE : 2 < v.cls ∨ a0h x f.g = false := .inl (by have := bne_iff_ne.1 f31; have := bne_iff_ne.1 f35; omega)
      refine zret I (v := fun Al => .tuple #[Go.Value.string (ByteArray.mk #[]), .int .i64 4]) fun Al W I => ?_
      first | exact a0c (r := 4) (if_pos hE) (by decide) rfl I.below | exact a0c (r := 5) ((if_neg hE).trans (if_pos f55)) (by decide) rfl I.below
    refine zb I 35 ((v.cls : Int) != 1) (false) (f35) fun Al W I => ?_
    refine zqo I (fun Al W I => have hzW := I.bel.size; (HR W p26 c26 (I.fa.1.mono (by omega)) I.fa.2.1).out) fun Al W p39 c39 I => ?_
    by_cases hk : a0h x f.g = true
    · refine zqd I (fun Al W I => have hzW := I.bel.size; b0b x.neg p39 c39 x.e x.m f.g W I.fa.1.rd (by omega) (by omega) GG) (show (c0g ⟨x.neg, x.m, x.e⟩ f.g) = true from hkp.trans hk) fun Al W I => ?_
      have hE : ¬ (2 < v.cls ∨ a0h x f.g = false) := fun h => by rcases h with h | h <;> first | (rw [hk] at h; cases h; done) | (have := bne_eq_false_iff_eq.1 f31; omega) | (have := bne_eq_false_iff_eq.1 f35; omega)
      refine zq I (fun Al W I => i0m x.neg p39 _ c39 x.e x.m W rfl) fun Al W I => ?_
      refine zqo I (fun Al W I => have hzW := I.bel.size; (HG W p39 c39 _ I.fa.1 hk I.fa.2.2.1 (by omega)).out) fun Al W p53 c53 I => ?_
      rcases Bool.eq_false_or_eq_true (ok) with f55 | f55
      · refine zb I 55 (ok) (true) (f55) fun Al W I => ?_
        by_cases h0 : x2.m = 0
        · have hl := hl3 f55
          have hee := he3 f55
          refine zq I (fun Al W I => a0u x2.neg p53 _ c53 x2.e x2.m W rfl) fun Al W I => ?_
          refine zb I 60 ((a0w ⟨x2.neg, x2.m, x2.e⟩) == 0) (true) (beq_iff_eq.2 ((d0t x2).2 h0)) fun Al W I => ?_
          refine zq I (fun Al W I => h0u f false 0 0 rfl W G hPe) fun Al W I => ?_
          exact zret I (v := fun Al => .tuple #[.string (a0v (f.str false 0 0)), .int .i64 0]) fun Al W I => a0x (by rw [if_neg hE, if_neg (by rw [f55]; simp)]) (by rw [if_pos (show (a0p x2).m = 0 from h0)]) rfl I.below
        have hl := hl3 f55
        have hee := he3 f55
        refine zq I (fun Al W I => a0u x2.neg p53 _ c53 x2.e x2.m W rfl) fun Al W I => ?_
        refine zb I 60 ((a0w ⟨x2.neg, x2.m, x2.e⟩) == 0) (false) (bFn (fun h => h0 ((d0t x2).1 h))) fun Al W I => ?_
        refine zq I (fun Al W I => i0m x2.neg p53 _ c53 x2.e x2.m W rfl) fun Al W I => ?_
        refine zq I (fun Al W I => have hzW := I.bel.size; f0a f (a0p x2) p53 c53 W G I.fa.1.rd hl (by show -60000 ≤ x2.e ∧ x2.e ≤ 60000; omega) (hin2 f55).1 h0) fun Al W I => ?_
        exact zret I (v := fun Al => .tuple #[.string (a0v (f.strP (f.numP (a0p x2)))), .int .i64 0]) fun Al W I => a0x (by rw [if_neg hE, if_neg (by rw [f55]; simp)]) (by rw [if_neg (show ¬ (a0p x2).m = 0 from h0)]) rfl I.below
      refine zb I 55 (ok) (false) (f55) fun Al W I => ?_
      refine zret I (v := fun Al => .tuple #[Go.Value.string (ByteArray.mk #[]), .int .i64 5]) fun Al W I => ?_
      first | exact a0c (r := 4) (if_pos hE) (by decide) rfl I.below | exact a0c (r := 5) ((if_neg hE).trans (if_pos f55)) (by decide) rfl I.below
    refine zqd I (fun Al W I => have hzW := I.bel.size; b0b x.neg p39 c39 x.e x.m f.g W I.fa.1.rd (by omega) (by omega) GG) (show (c0g ⟨x.neg, x.m, x.e⟩ f.g) = false from hkp.trans (by simpa using hk)) fun Al W I => ?_
    have hE : 2 < v.cls ∨ a0h x f.g = false := .inr (by simpa using hk)
    refine zret I (v := fun Al => .tuple #[Go.Value.string (ByteArray.mk #[]), .int .i64 4]) fun Al W I => ?_
    first | exact a0c (r := 4) (if_pos hE) (by decide) rfl I.below | exact a0c (r := 5) ((if_neg hE).trans (if_pos f55)) (by decide) rfl I.below
  refine zb I 31 ((v.cls : Int) != 2) (false) (f31) fun Al W I => ?_
  refine zqo I (fun Al W I => have hzW := I.bel.size; (HR W p26 c26 (I.fa.1.mono (by omega)) I.fa.2.1).out) fun Al W p39 c39 I => ?_
  by_cases hk : a0h x f.g = true
  · refine zqd I (fun Al W I => have hzW := I.bel.size; b0b x.neg p39 c39 x.e x.m f.g W I.fa.1.rd (by omega) (by omega) GG) (show (c0g ⟨x.neg, x.m, x.e⟩ f.g) = true from hkp.trans hk) fun Al W I => ?_
    have hE : ¬ (2 < v.cls ∨ a0h x f.g = false) := fun h => by rcases h with h | h <;> first | (rw [hk] at h; cases h; done) | (have := bne_eq_false_iff_eq.1 f31; omega) | (have := bne_eq_false_iff_eq.1 f35; omega)
    refine zq I (fun Al W I => i0m x.neg p39 _ c39 x.e x.m W rfl) fun Al W I => ?_
    refine zqo I (fun Al W I => have hzW := I.bel.size; (HG W p39 c39 _ I.fa.1 hk I.fa.2.2.1 (by omega)).out) fun Al W p53 c53 I => ?_
    rcases Bool.eq_false_or_eq_true (ok) with f55 | f55
    · refine zb I 55 (ok) (true) (f55) fun Al W I => ?_
      by_cases h0 : x2.m = 0
      · have hl := hl3 f55
        have hee := he3 f55
        refine zq I (fun Al W I => a0u x2.neg p53 _ c53 x2.e x2.m W rfl) fun Al W I => ?_
        refine zb I 60 ((a0w ⟨x2.neg, x2.m, x2.e⟩) == 0) (true) (beq_iff_eq.2 ((d0t x2).2 h0)) fun Al W I => ?_
        refine zq I (fun Al W I => h0u f false 0 0 rfl W G hPe) fun Al W I => ?_
        exact zret I (v := fun Al => .tuple #[.string (a0v (f.str false 0 0)), .int .i64 0]) fun Al W I => a0x (by rw [if_neg hE, if_neg (by rw [f55]; simp)]) (by rw [if_pos (show (a0p x2).m = 0 from h0)]) rfl I.below
      have hl := hl3 f55
      have hee := he3 f55
      refine zq I (fun Al W I => a0u x2.neg p53 _ c53 x2.e x2.m W rfl) fun Al W I => ?_
      refine zb I 60 ((a0w ⟨x2.neg, x2.m, x2.e⟩) == 0) (false) (bFn (fun h => h0 ((d0t x2).1 h))) fun Al W I => ?_
      refine zq I (fun Al W I => i0m x2.neg p53 _ c53 x2.e x2.m W rfl) fun Al W I => ?_
      refine zq I (fun Al W I => have hzW := I.bel.size; f0a f (a0p x2) p53 c53 W G I.fa.1.rd hl (by show -60000 ≤ x2.e ∧ x2.e ≤ 60000; omega) (hin2 f55).1 h0) fun Al W I => ?_
      exact zret I (v := fun Al => .tuple #[.string (a0v (f.strP (f.numP (a0p x2)))), .int .i64 0]) fun Al W I => a0x (by rw [if_neg hE, if_neg (by rw [f55]; simp)]) (by rw [if_neg (show ¬ (a0p x2).m = 0 from h0)]) rfl I.below
    refine zb I 55 (ok) (false) (f55) fun Al W I => ?_
    refine zret I (v := fun Al => .tuple #[Go.Value.string (ByteArray.mk #[]), .int .i64 5]) fun Al W I => ?_
    first | exact a0c (r := 4) (if_pos hE) (by decide) rfl I.below | exact a0c (r := 5) ((if_neg hE).trans (if_pos f55)) (by decide) rfl I.below
  refine zqd I (fun Al W I => have hzW := I.bel.size; b0b x.neg p39 c39 x.e x.m f.g W I.fa.1.rd (by omega) (by omega) GG) (show (c0g ⟨x.neg, x.m, x.e⟩ f.g) = false from hkp.trans (by simpa using hk)) fun Al W I => ?_
  have hE : 2 < v.cls ∨ a0h x f.g = false := .inr (by simpa using hk)
  refine zret I (v := fun Al => .tuple #[Go.Value.string (ByteArray.mk #[]), .int .i64 4]) fun Al W I => ?_
  first | exact a0c (r := 4) (if_pos hE) (by decide) rfl I.below | exact a0c (r := 5) ((if_neg hE).trans (if_pos f55)) (by decide) rfl I.below
theorem s0f (n : Int) (s : ByteArray) (up : Bool) (w : World) (hT : TabW w) :
 Calls Tryd.prog 13 #[.int .i64 n, .string s, .bool up] w (h0t w (f0j n s up) (d0j n s up)) := by
 unfold f0j d0j
 by_cases hn : IsFm n
 · by_cases hs : s.size = (fmt n).size
   · rw [if_pos (b0n.2 ⟨hn, hs⟩)]
     exact d1s n s up w hn hs hT
   · have h0 : a0t n s = 1 := by unfold a0t; rw [if_pos hn, if_neg hs]
     rw [h0, if_neg (by decide)]
     generalize p0a (fmt n) ((fmt n).refN (a0d (fmt n) s)).x up = o
     have HF := fun W => hi0 (r0w n s W hn hs)
     generalize fmt n = f at *
     have I := Inv.start w [] True.intro
     refine a0i [.v (.int .i64 n), .v (.string s), .v (.bool up)] I Tryd.func13 ?_
     refine zq I (fun Al W I => (HF W).out) fun Al W I => ?_
     exact zret I fun Al W I => a0c (r := 1) rfl (by decide) rfl I.below
 · have h0 : a0t n s = 6 := by unfold a0t; rw [if_neg hn]
   rw [h0, if_neg (by decide)]
   generalize p0a (fmt n) ((fmt n).refN (a0d (fmt n) s)).x up = o
   have HF := fun W => hi0 (r0x n s W hn)
   have I := Inv.start w [] True.intro
   refine a0i [.v (.int .i64 n), .v (.string s), .v (.bool up)] I Tryd.func13 ?_
   refine zq I (fun Al W I => (HF W).out) fun Al W I => ?_
   exact zret I fun Al W I => a0c (r := 6) rfl (by decide) rfl I.below
structure VrF (f : Fm) (r : Vr) : Prop where
 ok : VrOk r
 inf : r.cls = 3 → f.fam = 1
def refD (n : Int) (s : ByteArray) : Vr := (fmt n).refN (a0d (fmt n) s)
theorem f1u {f : Fm} (G : e0b f) (neg : Bool) {e frac : Nat} (h : e < 2 ^ f.E) : (f.dec neg e frac).p = 0 ∨ (f.g.lo ≤ (f.dec neg e frac).p ∧ (f.dec neg e frac).p ≤ f.g.hi + 1) := by
 have h3 := G.hi1
 have h4 := G.hi2
 have h5 := G.hi3
 have h6 := G.fam
 have gg := (c0r G.g).le
 have e1 := G.e1
 have hE1 : (2 : Nat) ^ 7 ≤ 2 ^ f.E := Nat.pow_le_pow_right (by omega) e1
 unfold Fm.dec
 generalize 2 ^ f.E = T at *
 repeat' split
 all_goals first | exact .inl rfl | (right; simp only; omega)
theorem d1t {f : Fm} (neg : Bool) {e frac : Nat} (h : (f.dec neg e frac).c = 3) : f.fam = 1 := by
 have h : (f.dec neg e frac).cls = 3 := by
  unfold Dc.c at h
  split at h <;> omega
 unfold Fm.dec at h
 split at h
 · simp at h
 · split at h
   · rename_i k
     exact k.1
   · split at h
     · split at h <;> simp at h
     · split at h
       · simp at h
       · split at h
         · simp at h
         · split at h <;> simp at h
theorem x0o {n : Int} {s : ByteArray} (hn : IsFm n) : VrF (fmt n) (refD n s) := by
 have G := e0s hn
 have GG := c0r G.g
 obtain ⟨w1, w2, w3⟩ := i0h G.g
 have he : (fmt n).exp (a0d (fmt n) s) < 2 ^ (fmt n).E := Nat.mod_lt _ (Nat.pow_pos (by omega))
 have hx : (fmt n).frac (a0d (fmt n) s) < 2 ^ (fmt n).F := Nat.mod_lt _ (Nat.pow_pos (by omega))
 have hm := w0b (f := fmt n) ((fmt n).neg (a0d (fmt n) s)) (e := (fmt n).exp (a0d (fmt n) s)) hx
 have hp := f1u G ((fmt n).neg (a0d (fmt n) s)) (frac := (fmt n).frac (a0d (fmt n) s)) he
 have hi := fun h => d1t (f := fmt n) ((fmt n).neg (a0d (fmt n) s)) (e := (fmt n).exp (a0d (fmt n) s)) (frac := (fmt n).frac (a0d (fmt n) s)) h
 have hcls := q0j (fmt n) ((fmt n).neg (a0d (fmt n) s)) ((fmt n).exp (a0d (fmt n) s)) ((fmt n).frac (a0d (fmt n) s))
 have z2 := G.f2
 unfold refD Fm.refN Fm.decN
 generalize (fmt n).dec ((fmt n).neg (a0d (fmt n) s)) ((fmt n).exp (a0d (fmt n) s)) ((fmt n).frac (a0d (fmt n) s)) = D at *
 generalize (fmt n).neg (a0d (fmt n) s) = g at *
 generalize fmt n = f at *
 have hc : 1 ≤ D.c ∧ D.c ≤ 5 := by unfold Dc.c; split <;> omega
 have hml : (dig B32 D.m).length ≤ 3 := a0l hm (by omega)
 have wp := b0c f.g
 have hwp : -17010 ≤ (wid f.g : Int) * D.p ∧ (wid f.g : Int) * D.p ≤ 17010 := by
  rcases hp with h | ⟨h1, h2⟩
  · rw [h, Int.mul_zero]; omega
  · have a1 : (wid f.g : Int) * f.g.lo ≤ wid f.g * D.p := Int.mul_le_mul_of_nonneg_left h1 (by omega)
    have a2 : (wid f.g : Int) * D.p ≤ wid f.g * (f.g.hi + 1) := Int.mul_le_mul_of_nonneg_left h2 (by omega)
    rw [Int.mul_add, Int.mul_one] at a2
    omega
 refine ⟨⟨hc, fun h => ?_, fun h => ?_, ?_, ?_, ?_, ?_⟩, hi⟩
 · have h : ¬ D.c = 2 := h
   unfold Fm.vr
   simp only [if_neg h]
   rfl
 · have h : D.c = 2 := h
   have hm0 := b1g h
   unfold Fm.vr
   simp only [h, if_true]
   obtain ⟨b1, b2⟩ := d1p (g := g) (e := (wid f.g : Int) * D.p) hm0
   exact ⟨b2, by rw [b1]; rfl⟩
 · unfold Fm.vr
   simp only
   split
   · exact f0p _
   · exact .inr rfl
 · unfold Fm.vr
   simp only
   split
   · exact Nat.le_trans (f0x a0a _) (by show (dig B32 D.m).length ≤ _; omega)
   · show (dig B32 0).length ≤ _; rw [a0e]; decide
 · unfold Fm.vr
   simp only
   split
   · have := l0p (⟨g, D.m, wid f.g * D.p⟩ : Dv) (n := 3) hml (lo := -17100) (hi := 17100) (by simp only; omega) (by simp only; omega) (by omega) (by omega)
     omega
   · show (-18000 : Int) ≤ 0; decide
 · unfold Fm.vr
   simp only
   split
   · have := l0p (⟨g, D.m, wid f.g * D.p⟩ : Dv) (n := 3) hml (lo := -17100) (hi := 17100) (by simp only; omega) (by simp only; omega) (by omega) (by omega)
     omega
   · show (0 : Int) ≤ 18000; decide
theorem a1f {n : Int} {s : ByteArray} (h0 : a0t n s = 0) : VRep (fmt n) (decP n s) (refD n s) := by
 obtain ⟨hn, hs⟩ := b0n.1 h0
 have G := e0s hn
 have hd : decP n s = (fmt n).valN (a0d (fmt n) s) := by unfold decP; rw [if_pos h0]
 have he : (fmt n).exp (a0d (fmt n) s) < 2 ^ (fmt n).E := Nat.mod_lt _ (Nat.pow_pos (by omega))
 have hx : (fmt n).frac (a0d (fmt n) s) < 2 ^ (fmt n).F := Nat.mod_lt _ (Nat.pow_pos (by omega))
 have hb := g1j G ((fmt n).neg (a0d (fmt n) s)) he hx ((fmt n).neg (a0d (fmt n) s))
 have hk := s0b (fmt n) ((fmt n).neg (a0d (fmt n) s)) ((fmt n).decN (a0d (fmt n) s))
 have ho := z0v (fmt n) ((fmt n).neg (a0d (fmt n) s)) ((fmt n).decN (a0d (fmt n) s))
 rw [hd]
 exact ⟨rfl, rfl, fun _ => hk, fun h => ho h, hb.1, hb.2.1, hb.2.2⟩
theorem b1i {n : Int} {s : ByteArray} (h0 : a0t n s = 0) {x : Vp} (hx : x.v = decP n s) : AtV (fmt n) x (refD n s) := by
 have F := x0o (s := s) (b0n.1 h0).1
 exact ⟨by rw [hx]; exact a1f h0, F.ok, F.inf⟩
/-! ### Results -/
theorem d1u {f : Fm} (G : e0b f) {r : Vr} (R : ResF f r) : CanF f r.cls r.neg r.x :=
 ⟨R.c, R.c1, fun h => ⟨w0v G (R.c2 h).1 (R.c2 h).2.2.1, (R.c2 h).2.1, (R.c2 h).2.2.1, (R.c2 h).2.2.2⟩, R.c3, R.c4, R.c5⟩
theorem s0g {n : Int} (hn : IsFm n) {r : Vr} (R : ResF (fmt n) r) : a0t n (strR n r) = 0 ∧ refD n (strR n r) = r := by
 have G := e0s hn
 have C := d1u G R
 have hlt := d1e G (cls := r.cls) (g := r.neg) (d := r.x) (fun h => (C.c2 h).1)
 have hs : (strR n r).size = (fmt n).size := by unfold strR; rw [l0i]; exact c1v _ _ _ _
 refine ⟨b0n.2 ⟨hn, hs⟩, ?_⟩
 have hv := d1g G C
 obtain ⟨q1, q2, q3⟩ := w0d (f := fmt n) (neg := ((fmt n).encP r.cls r.neg r.x).neg) hlt.1 hlt.2
 unfold refD Fm.refN Fm.decN strR Fm.strP
 rw [q0p G hlt.1 hlt.2, q1, q2, q3, hv]
 by_cases h2 : r.cls = 2
 · rw [if_pos h2]
 · rw [if_neg h2, show (⟨false, 0, 0⟩ : Dv) = r.x from (R.x0 h2).symm]
end Go.Proofs.YtmacohmclpnphaaDoor
namespace Go.Slip
open Go.RowKit
def p0b : List (Nat × SV) → Cfg → Cfg
 | [], c => c
 | (i, y) :: l, c => p0b l (i0l i y c)
section
variable {P : Program} {Q : Exit → Act → World → Prop} {E : List Nat} {w0 : World} {A : List Nat} {fs : List PF} {W : World} {c c' : Cfg}
theorem d1v (_ : Inv E w0 A c.bx fs W) (l : List (Nat × SV)) (h1 : ∀ A W, Inv E w0 A (nrm (p0b l c)).bx fs W → G P Q A (nrm (p0b l c)) W)
 (h2 : (∀ A W, Inv E w0 A (nrm (p0b l c)).bx fs W → G P Q A (nrm (p0b l c)) W) → G P Q A c W) : G P Q A c W := h2 h1
theorem zuse (K : ∀ A W, Inv E w0 A c'.bx fs W → G P Q A c' W) (I : Inv E w0 A c.bx fs W) (he : c = c' := by kernel_rfl) : G P Q A c W := by
 subst he
 exact K _ _ I
end
end Go.Slip
namespace Go.Slip
open Go.RowKit
def b1j (i : Nat) (c : Cfg) (A : List Nat) : Option VO :=
 match c.rg with
 | .dr ops _ _ (_ + 1) listed => match ops[i]? with
  | some o => match Region.noSelect ops && Region.free .any ops listed i && (Region.ready .any ops listed).contains i && wnt ops c.fr o with
   | true => match o.op with
    | .indexAddr t x j => some (.ix t (evr A c.fr x) (evr A c.fr j))
    | _ => none
   | false => none
  | none => none
 | _ => none
section
variable {P : Program} {Q : Exit → Act → World → Prop} {E : List Nat} {w0 : World} {A : List Nat} {fs : List PF} {W : World} {c : Cfg}
theorem zkx (i : Nat) (I : Inv E w0 A c.bx fs W) {vo : VO} (v : Value) (hx : ∀ W, vo.sem.run P W = .ok v W) (h : Inv E w0 A (i0l i (.v v) c).bx fs W → G P Q A (i0l i (.v v) c) W)
 (hv : b1j i c A = some vo := by kernel_rfl) (hm : dk1 c.rg c.bx = dk2 c.rg := by kernel_rfl) (hQ : f0h Q := by exact d0r) : G P Q A c W := by
 refine ⟨?_⟩
 have h := (h (by rw [r0l]; exact I)).out
 obtain ⟨cf, cb, rg, ks⟩ := c
 cases rg with
 | off => cases hv
 | pl => cases hv
 | one => cases hv
 | ret => cases hv
 | dr ops A0 m fuel listed =>
  cases fuel with
  | zero => cases hv
  | succ fuel =>
   unfold b1j at hv
   unfold i0l at h
   simp only at hv h
   intro pre
   split at hv
   · rename_i o hi
     rw [hi] at h
     split at hv
     · rename_i h1
       simp only [Bool.and_eq_true] at h1
       obtain ⟨⟨⟨h1, h2⟩, h3⟩, hw⟩ := h1
       split at hv
       · rename_i t x j hop
         simp only [Option.some.injEq] at hv
         subst hv
         have hS : SB A0 m W := v0g I pre hm
         have h : WpH P ops (post P Q ks) (SB A0 m) fuel (listed.setIfInBounds i true) (act A (putO cf o.dst (.v v))) W := h pre
         rw [← d0i] at h
         refine g0v i o.dst v _ hi rfl rfl h1 h2 h3 (fun c a w => e0e (P := P) hQ ks c a o.dst v w) (.inl ⟨by rw [f0l]; exact hw, fun w' _ => ?_⟩) hS h
         rw [b0v]
         unfold execOp
         have := hx w'
         unfold VO.sem at this
         simp only [hop, Sem.run_bind, this, Result.andThen_ok, Sem.run_pure]
       · cases hv
     · cases hv
   · cases hv
end
end Go.Slip
namespace Go.Proofs.YtmacohmclpnphaaDoor
open Go.RowKit Go.Slip
theorem d1w {n : Int} {s t : ByteArray} (h : errL n [s, t] = 0) : a0t n s = 0 ∧ a0t n t = 0 ∧ IsFm n := by
 have h1 := h0w n h s (by simp)
 exact ⟨h1, h0w n h t (by simp), (b0n.1 h1).1⟩
theorem a1g {n : Int} {xs : List Vp} {s t : ByteArray} (h : xs.map (·.v) = [s, t].map (decP n)) : ∃ x y, xs = [x, y] ∧ x.v = decP n s ∧ y.v = decP n t := by
 cases xs with
 | nil => simp at h
 | cons x l =>
  cases l with
  | nil => simp at h
  | cons y l =>
   cases l with
   | nil => simp only [List.map_cons, List.map_nil, List.cons.injEq, and_true] at h; exact ⟨x, y, rfl, h.1, h.2⟩
   | cons _ _ => simp at h
theorem x0p {n way : Int} {L : List ByteArray} (h0 : errR n way L = 0) : IsFm n ∧ errL n L = 0 ∧ 1 ≤ way ∧ way ≤ 5 := by
 have hn : IsFm n := by unfold errR at h0; split at h0; assumption; omega
 unfold errR at h0
 rw [if_pos hn] at h0
 have hL : errL n L = 0 := by split at h0; assumption; contradiction
 rw [if_pos hL] at h0
 exact ⟨hn, hL, by split at h0; assumption; omega⟩
def d1x (w : World) (x y : Vl) (en : Ending) (w' : World) : Prop :=
 ∃ p1 c1 p2 c2 p c, en = .returned (.tuple #[.slice p 2 c, .int .i64 0]) ∧ OwnS w' w.heap.size 29 4 p c 2 ((⟨x, p1, c1⟩ : Vp).cells ++ (⟨y, p2, c2⟩ : Vp).cells) ∧ Own w' w.heap.size .u32 76 p1 c1 (dig B32 x.d) ∧ Own w' w.heap.size .u32 76 p2 c2 (dig B32 y.d) ∧ Below w.heap.size w w'
theorem t0m (n way fl : Int) (s t : ByteArray) (b u : Nat) (w : World) (U : Bt w u 153 #[.int .i64 n, .int .i64 way, .int .i64 (fmt n).g.rad, .int .i64 (fmt n).g.digs, .int .i64 (fmt n).g.lo, .int .i64 (fmt n).g.hi, .bool (fmt n).g.grad, .int .u8 (famB (fmt n)), .int .i64 fl]) (hB0 : Bt w b 9 #[.string s, .string t]) (h0 : errL n [s, t] = 0) (hT : TabW w) :
 Calls Tryd.prog 53 #[.pointer (some ⟨u, 0, none⟩), .slice (some ⟨b, 0, none⟩) 2 2] w (d1x w (decP n s) (decP n t)) := by
 refine (a1d n way fl [s, t] b 2 u w U hB0 rfl (by simp) h0 hT).mono fun en w' hh => ?_
 obtain ⟨xs, vs, p, c, h1, h2, h3, h4, h5, h6⟩ := hh
 obtain ⟨x, y, rfl, hx, hy⟩ := a1g h2
 subst h3
 have g1 := h5 x (by simp)
 have g2 := h5 y (by simp)
 rw [hx] at g1
 rw [hy] at g2
 refine ⟨x.p, x.c, y.p, y.c, p, c, h1, ?_, g1, g2, h6⟩
 rw [← hx, ← hy]
 exact h4
def cmpR (a b : Vr) : Int × Bool := if 4 ≤ a.cls ∨ 4 ≤ b.cls then (0, false) else (cmpM a b, true)
def n0m (n : Int) (s t : ByteArray) (w : World) (en : Ending) (w' : World) : Prop :=
 (if errR n 1 [s, t] = 0 then en = .returned (.tuple #[.int .i64 (cmpR (refD n s) (refD n t)).1, .bool (cmpR (refD n s) (refD n t)).2, .int .i64 0]) else en = .returned (.tuple #[.int .i64 0, .bool false, .int .i64 (errR n 1 [s, t])])) ∧ Below w.heap.size w w'
theorem p0c (n : Int) (s t : ByteArray) (w : World) (hT : TabW w) : Calls Tryd.prog 15 #[.int .i64 n, .string s, .string t] w (n0m n s t w) := by
 unfold n0m
 by_cases h0 : errR n 1 [s, t] = 0
 · obtain ⟨hn, hL, hw⟩ := x0p h0
   obtain ⟨hs, ht, _⟩ := d1w hL
   simp only [h0, if_true]
   have HO := fun W => hi0 (x0k n 1 W hn (by omega))
   have HD := fun W b u h1 h2 h3 => hi0 (t0m n 1 0 s t b u W h1 h2 hL h3)
   have A1 : ∀ p1 c1, AtV (fmt n) ⟨decP n s, p1, c1⟩ (refD n s) := fun p1 c1 => b1i hs rfl
   have B1 : ∀ p1 c1, AtV (fmt n) ⟨decP n t, p1, c1⟩ (refD n t) := fun p1 c1 => b1i ht rfl
   have HC := fun W p1 c1 p2 c2 b u h1 h2 h3 h4 => hi0 (x0j (fmt n) n 1 0 ⟨decP n s, p1, c1⟩ ⟨decP n t, p2, c2⟩ (refD n s) (refD n t) b u W h1 h2 h3 (A1 p1 c1) (B1 p2 c2) h4)
   have k1 := (A1 none 0).rep.cls
   have k2 := (B1 none 0).rep.cls
   have o1 := (A1 none 0).ok.c
   have o2 := (B1 none 0).ok.c
   have hR : cmpR (refD n s) (refD n t) = if 4 ≤ (refD n s).cls ∨ 4 ≤ (refD n t).cls then (0, false) else (cmpM (refD n s) (refD n t), true) := rfl
   simp only at k1 k2 HC
   generalize cmpR (refD n s) (refD n t) = R at *
   generalize cmpM (refD n s) (refD n t) = RC at *
   generalize (refD n s).cls = q1 at *
   generalize (refD n t).cls = q2 at *
   generalize decP n s = v1 at *
   generalize decP n t = v2 at *
   generalize fmt n = f at *
   clear A1 B1 hs ht hL hw
   subst k1 k2
   have I := Inv.start w [tabF] ⟨hT, True.intro⟩
   refine a0i [.v (.int .i64 n), .v (.string s), .v (.string t)] I Tryd.func15 ?_
   refine zg I (fun Al W I => (HO W).out) fun Al V Iv _ hB _ kz => ?_
   rintro _ W ⟨u14, rfl, hge, hB, hb⟩
   refine ⟨_, rfl, kz _ _ hb fun I => ?_⟩
   refine f1a Iv hb 0 u14 153 [(.int .i64 n), (.int .i64 1), (.int .i64 f.g.rad), (.int .i64 f.g.digs), (.int .i64 f.g.lo), (.int .i64 f.g.hi), (.bool f.g.grad), (.int .u8 (famB f)), (.int .i64 0)] hge hB fun Al hAl_14 I => ?_
   refine f1b I 15 0 u14 hAl_14 fun Al W I => ?_
   refine zg I (fun Al W I => (HD W _ _ (I.box 0 153 _) (I.box 1 9 _) I.fa.1).out) fun Al V Iv _ hB _ kz => ?_
   rintro _ W ⟨p1, c1, p2, c2, p, c, rfl, oS, oa, ob, hb⟩
   refine ⟨_, rfl, kz _ _ hb fun I => ?_⟩
   have I := I.owns oS
   have I := I.own oa
   have I := I.own ob
   by_cases h1 : 4 ≤ v1.cls
   · by_cases h2 : 4 ≤ v2.cls
     · refine zx I 32 (fun _ => .pointer (some (at_ p (0 * 4)))) (fun Al W I => (i0s (m := 0) (n := 2) (c := c) l0d I.fa.2.2.1.solid (by omega))) fun Al W I => ?_
       refine zx I 33 (fun _ => .agg #[.int .i64 (v1.cls : Int), .bool v1.neg, .slice p1 (dig B32 v1.d).length c1, .int .i64 v1.pow]) (fun Al W I => (g0k (m := 0 * 4) I.fa.2.2.1 l0e (⟨v1, p1, c1⟩ : Vp).cells rfl rfl)) fun Al W I => ?_
       refine zqd I (fun Al W I => e0y v1.cls v1.neg p1 (dig B32 v1.d).length c1 v1.pow W) (show (decide (v1.cls = 4) || decide (v1.cls = 5)) = true from (by simp; omega)) fun Al W I => ?_
       refine zret I (v := fun Al => .tuple #[.int .i64 0, .bool false, .int .i64 0]) fun Al W I => ?_
       first | exact ⟨by rw [hR, if_pos (by omega)], I.below⟩ | exact ⟨by rw [hR, if_neg (by omega)], I.below⟩
     refine zx I 32 (fun _ => .pointer (some (at_ p (0 * 4)))) (fun Al W I => (i0s (m := 0) (n := 2) (c := c) l0d I.fa.2.2.1.solid (by omega))) fun Al W I => ?_
     refine zx I 33 (fun _ => .agg #[.int .i64 (v1.cls : Int), .bool v1.neg, .slice p1 (dig B32 v1.d).length c1, .int .i64 v1.pow]) (fun Al W I => (g0k (m := 0 * 4) I.fa.2.2.1 l0e (⟨v1, p1, c1⟩ : Vp).cells rfl rfl)) fun Al W I => ?_
     refine zqd I (fun Al W I => e0y v1.cls v1.neg p1 (dig B32 v1.d).length c1 v1.pow W) (show (decide (v1.cls = 4) || decide (v1.cls = 5)) = true from (by simp; omega)) fun Al W I => ?_
     refine zret I (v := fun Al => .tuple #[.int .i64 0, .bool false, .int .i64 0]) fun Al W I => ?_
     first | exact ⟨by rw [hR, if_pos (by omega)], I.below⟩ | exact ⟨by rw [hR, if_neg (by omega)], I.below⟩
   by_cases h2 : 4 ≤ v2.cls
   · refine zx I 32 (fun _ => .pointer (some (at_ p (0 * 4)))) (fun Al W I => (i0s (m := 0) (n := 2) (c := c) l0d I.fa.2.2.1.solid (by omega))) fun Al W I => ?_
     refine zx I 33 (fun _ => .agg #[.int .i64 (v1.cls : Int), .bool v1.neg, .slice p1 (dig B32 v1.d).length c1, .int .i64 v1.pow]) (fun Al W I => (g0k (m := 0 * 4) I.fa.2.2.1 l0e (⟨v1, p1, c1⟩ : Vp).cells rfl rfl)) fun Al W I => ?_
     refine zqd I (fun Al W I => e0y v1.cls v1.neg p1 (dig B32 v1.d).length c1 v1.pow W) (show (decide (v1.cls = 4) || decide (v1.cls = 5)) = false from (by simp; omega)) fun Al W I => ?_
     refine zx I 37 (fun _ => .pointer (some (at_ p (1 * 4)))) (fun Al W I => (i0s (m := 1) (n := 2) (c := c) l0d I.fa.2.2.1.solid (by omega))) fun Al W I => ?_
     refine zx I 38 (fun _ => .agg #[.int .i64 (v2.cls : Int), .bool v2.neg, .slice p2 (dig B32 v2.d).length c2, .int .i64 v2.pow]) (fun Al W I => (g0k (m := 1 * 4) I.fa.2.2.1 l0e (⟨v2, p2, c2⟩ : Vp).cells rfl rfl)) fun Al W I => ?_
     refine zqd I (fun Al W I => e0y v2.cls v2.neg p2 (dig B32 v2.d).length c2 v2.pow W) (show (decide (v2.cls = 4) || decide (v2.cls = 5)) = true from (by simp; omega)) fun Al W I => ?_
     refine zret I (v := fun Al => .tuple #[.int .i64 0, .bool false, .int .i64 0]) fun Al W I => ?_
     first | exact ⟨by rw [hR, if_pos (by omega)], I.below⟩ | exact ⟨by rw [hR, if_neg (by omega)], I.below⟩
   refine zx I 32 (fun _ => .pointer (some (at_ p (0 * 4)))) (fun Al W I => (i0s (m := 0) (n := 2) (c := c) l0d I.fa.2.2.1.solid (by omega))) fun Al W I => ?_
   refine zx I 33 (fun _ => .agg #[.int .i64 (v1.cls : Int), .bool v1.neg, .slice p1 (dig B32 v1.d).length c1, .int .i64 v1.pow]) (fun Al W I => (g0k (m := 0 * 4) I.fa.2.2.1 l0e (⟨v1, p1, c1⟩ : Vp).cells rfl rfl)) fun Al W I => ?_
   refine zqd I (fun Al W I => e0y v1.cls v1.neg p1 (dig B32 v1.d).length c1 v1.pow W) (show (decide (v1.cls = 4) || decide (v1.cls = 5)) = false from (by simp; omega)) fun Al W I => ?_
   refine zx I 37 (fun _ => .pointer (some (at_ p (1 * 4)))) (fun Al W I => (i0s (m := 1) (n := 2) (c := c) l0d I.fa.2.2.1.solid (by omega))) fun Al W I => ?_
   refine zx I 38 (fun _ => .agg #[.int .i64 (v2.cls : Int), .bool v2.neg, .slice p2 (dig B32 v2.d).length c2, .int .i64 v2.pow]) (fun Al W I => (g0k (m := 1 * 4) I.fa.2.2.1 l0e (⟨v2, p2, c2⟩ : Vp).cells rfl rfl)) fun Al W I => ?_
   refine zqd I (fun Al W I => e0y v2.cls v2.neg p2 (dig B32 v2.d).length c2 v2.pow W) (show (decide (v2.cls = 4) || decide (v2.cls = 5)) = false from (by simp; omega)) fun Al W I => ?_
   refine zd [] I fun Al W I => ?_
   refine zk [0, 1] I fun I => ?_
   refine zkx 2 I (.pointer (some (at_ p (0 * 4)))) (fun _ => (i0s (m := 0) (n := 2) (c := c) l0d I.fa.2.2.1.solid (by omega))) fun I => ?_
   refine zk [4] I fun I => ?_
   refine zkx 5 I (.pointer (some (at_ p (1 * 4)))) (fun _ => (i0s (m := 1) (n := 2) (c := c) l0d I.fa.2.2.1.solid (by omega))) fun I => ?_
   refine d1v I [(3, .v (.agg #[.int .i64 (v1.cls : Int), .bool v1.neg, .slice p1 (dig B32 v1.d).length c1, .int .i64 v1.pow])), (6, .v (.agg #[.int .i64 (v2.cls : Int), .bool v2.neg, .slice p2 (dig B32 v2.d).length c2, .int .i64 v2.pow]))] (fun Al W I => ?_) (fun KL7 => ?_)
   · refine zo 7 I fun I => ?_
     refine zq I (fun Al W I => (HC W p1 c1 p2 c2 _ _ (I.box 0 153 _) I.fa.2.1 I.fa.1 I.fa.2.2.2.1).out) fun Al W I => ?_
     refine zk [8, 9, 10] I fun I => ?_
     refine zret I (v := fun Al => .tuple #[.int .i64 RC, .bool true, .int .i64 0]) fun Al W I => ?_
     first | exact ⟨by rw [hR, if_pos (by omega)], I.below⟩ | exact ⟨by rw [hR, if_neg (by omega)], I.below⟩
   refine d1v I [(3, .v (.agg #[.int .i64 (v1.cls : Int), .bool v1.neg, .slice p1 (dig B32 v1.d).length c1, .int .i64 v1.pow]))] (fun Al W I => ?_) (fun KL5 => ?_)
   · refine zo 6 I fun I => ?_
     refine zx I 47 (fun _ => .agg #[.int .i64 (v2.cls : Int), .bool v2.neg, .slice p2 (dig B32 v2.d).length c2, .int .i64 v2.pow]) (fun Al W I => (g0k (m := 1 * 4) I.fa.2.2.1 l0e (⟨v2, p2, c2⟩ : Vp).cells rfl rfl)) fun Al W I => ?_
     exact zuse KL7 I
   refine d1v I [(6, .v (.agg #[.int .i64 (v2.cls : Int), .bool v2.neg, .slice p2 (dig B32 v2.d).length c2, .int .i64 v2.pow]))] (fun Al W I => ?_) (fun KL6 => ?_)
   · refine zo 3 I fun I => ?_
     refine zx I 44 (fun _ => .agg #[.int .i64 (v1.cls : Int), .bool v1.neg, .slice p1 (dig B32 v1.d).length c1, .int .i64 v1.pow]) (fun Al W I => (g0k (m := 0 * 4) I.fa.2.2.1 l0e (⟨v1, p1, c1⟩ : Vp).cells rfl rfl)) fun Al W I => ?_
     exact zuse KL7 I
   refine zo2 3 6 I (fun I => ?_) (fun I => ?_)
   · refine zx I 44 (fun _ => .agg #[.int .i64 (v1.cls : Int), .bool v1.neg, .slice p1 (dig B32 v1.d).length c1, .int .i64 v1.pow]) (fun Al W I => (g0k (m := 0 * 4) I.fa.2.2.1 l0e (⟨v1, p1, c1⟩ : Vp).cells rfl rfl)) fun Al W I => ?_
     exact zuse KL5 I
   refine zx I 47 (fun _ => .agg #[.int .i64 (v2.cls : Int), .bool v2.neg, .slice p2 (dig B32 v2.d).length c2, .int .i64 v2.pow]) (fun Al W I => (g0k (m := 1 * 4) I.fa.2.2.1 l0e (⟨v2, p2, c2⟩ : Vp).cells rfl rfl)) fun Al W I => ?_
   exact zuse KL6 I
 · simp only [if_neg h0]
   by_cases hn : IsFm n
   · have hE : errR n 1 [s, t] = errL n [s, t] := by
      unfold errR
      rw [if_pos hn]
      by_cases hL : errL n [s, t] = 0
      · rw [hL]; decide
      · rw [if_neg hL]
     rw [hE] at h0 ⊢
     have HO := fun W => hi0 (x0k n 1 W hn (by omega))
     have HD := fun W b u h1 h2 h3 => hi0 (o0y n 1 0 [s, t] b 2 u W h1 h2 rfl (by simp) h0 h3)
     generalize errL n [s, t] = er at *
     generalize fmt n = f at *
     have I := Inv.start w [tabF] ⟨hT, True.intro⟩
     refine a0i [.v (.int .i64 n), .v (.string s), .v (.string t)] I Tryd.func15 ?_
     refine zg I (fun Al W I => (HO W).out) fun Al V Iv _ hB _ kz => ?_
     rintro _ W ⟨u14, rfl, hge, hB, hb⟩
     refine ⟨_, rfl, kz _ _ hb fun I => ?_⟩
     refine f1a Iv hb 0 u14 153 [(.int .i64 n), (.int .i64 1), (.int .i64 f.g.rad), (.int .i64 f.g.digs), (.int .i64 f.g.lo), (.int .i64 f.g.hi), (.bool f.g.grad), (.int .u8 (famB f)), (.int .i64 0)] hge hB fun Al hAl_14 I => ?_
     refine f1b I 15 0 u14 hAl_14 fun Al W I => ?_
     refine zq I (fun Al W I => (HD W _ _ (I.box 0 153 _) (I.box 1 9 _) I.fa.1).out) fun Al W I => ?_
     refine zb I 29 (er != 0) (true) (bne_iff_ne.2 h0) fun Al W I => ?_
     exact zrb I
   · have hE : errR n 1 [s, t] = 6 := by unfold errR; rw [if_neg hn]
     rw [hE]
     have HO := fun W => hi0 (a1a n 1 W (fun h => hn h.1))
     have I := Inv.start w [] True.intro
     refine a0i [.v (.int .i64 n), .v (.string s), .v (.string t)] I Tryd.func15 ?_
     refine zq I (fun Al W I => (HO W).out) fun Al W I => ?_
     exact zrb I
end Go.Proofs.YtmacohmclpnphaaDoor
namespace Go.Slip
theorem t0n {x : Dv} (h : Bare x) : a0p (a0p x) = x := by
 rcases h with h | rfl
 · unfold a0p
   have : 0 < x.m := by omega
   simp [this]
 · rfl
theorem j0g (a : Dv) (x : Int) : rCmp a (c0f a (oneD x)) < 0 := by
 obtain ⟨E, h1, h2, h3⟩ : ∃ E : Int, E ≤ a.e ∧ E ≤ x ∧ E ≤ 0 := ⟨min (min a.e x) 0, by omega, by omega, by omega⟩
 have h4 : E ≤ (c0f a (oneD x)).e := by rw [d0g a (oneD x) h1 h2]; exact e1k _ h3
 rw [r0d a _ h1 h4, u0n a (oneD x) h1 h2, h0j h2]
 have : (0 : Int) < 2 ^ (x - E).toNat := Int.pow_pos (by decide)
 rw [Int.sign_neg_iff]
 omega
theorem x0q {a : Dv} (ha : Bare a) {g : Gd} : rCmp a (c0k a g).1 < 0 := by
 unfold c0k
 by_cases h0 : a.m = 0
 · rw [if_pos h0]
   obtain rfl : a = ⟨false, 0, 0⟩ := by
    rcases ha with h | h
    · omega
    · exact h
   show rCmp _ (b0x g) < 0
   have h := j0g ⟨false, 0, 0⟩ (b0x g).e
   rwa [show c0f ⟨false, 0, 0⟩ (oneD (b0x g).e) = b0x g by
    obtain ⟨E, h1, h2⟩ : ∃ E : Int, E ≤ (b0x g).e ∧ E ≤ 0 := ⟨min (b0x g).e 0, by omega, by omega⟩
    rw [d0g ⟨false, 0, 0⟩ (oneD (b0x g).e) (e := E) h2 h1, h0j h1]
    rw [show zOf (⟨false, 0, 0⟩ : Dv) E = 0 by unfold zOf sg; simp, Int.zero_add]
    have := d0f 1 ((b0x g).e - E).toNat E
    rw [Int.one_mul, j0x, show E + ((((b0x g).e - E).toNat : Nat) : Int) = (b0x g).e by omega] at this
    rw [this]
    rfl] at h
 · rw [if_neg h0]
   split
   · exact j0g a _
   · rename_i hn
     split
     · split
       · show rCmp a ⟨false, 0, 0⟩ < 0
         obtain ⟨E, h1, h2⟩ : ∃ E : Int, E ≤ a.e ∧ E ≤ 0 := ⟨min a.e 0, by omega, by omega⟩
         rw [r0d a ⟨false, 0, 0⟩ h1 h2, show zOf (⟨false, 0, 0⟩ : Dv) E = 0 by unfold zOf sg; simp, Int.sub_zero]
         unfold zOf sg
         rw [if_pos (by simpa using hn)]
         have : 0 < a.m * 2 ^ (a.e - E).toNat := Nat.mul_pos (by omega) (Nat.pow_pos (by omega))
         rw [Int.sign_neg_iff]
         omega
       · exact j0g a _
     · exact j0g a _
end Go.Slip
namespace Go.Proofs.YtmacohmclpnphaaDoor
open Go.RowKit Go.Slip
def resD (y : Dv) : Vr := if y.m = 0 then ⟨1, false, vz⟩ else ⟨2, y.neg, y⟩
theorem f1v {y : Dv} (h : Bare y) : (resD y).x = y := by
 unfold resD
 split
 · rcases h with k | k
   · omega
   · exact k.symm
 · rfl
theorem x0r {f : Fm} {y : Dv} (h : Bare y) (hin : a0h y f.g = true) : ResF f (resD y) := by
 unfold resD
 split
 · exact ⟨by show 1 ≤ 1 ∧ 1 ≤ 5; omega, fun _ k => (by cases k), fun k => (by cases k), fun k => (by cases k), fun k => (by cases k), fun k => (by cases k), fun _ => rfl⟩
 · rename_i h0
   exact ⟨by show 1 ≤ 2 ∧ 2 ≤ 5; omega, fun k => (by cases k), fun _ => ⟨hin, h, h0, rfl⟩, fun k => (by cases k), fun k => (by cases k), fun k => (by cases k), fun k => absurd rfl k⟩
theorem x0s (n : Int) (x : Dv) (up : Bool) : p0a (fmt n) x up = strR n (resD (q0s x (fmt n).g up)) := by
 unfold p0a resD strR
 split <;> rfl
theorem s0h {n : Int} {s : ByteArray} (h : a0t n s = 0) : decP n s = (fmt n).toV (refD n s) := by
 unfold decP refD
 rw [if_pos h, (x0h (e0s (b0n.1 h).1) s).same]
theorem a1h {a b : Vr} (ha : a.cls ≤ 2) (hb : b.cls ≤ 2) : cmpR a b = (rCmp a.x b.x, true) := by
 unfold cmpR cmpM Vr.side
 rw [if_neg (by omega), if_neg]
 rw [if_pos (by omega), if_pos (by omega)]
 simp
structure d1y (n : Int) (s t u : ByteArray) : Prop where
 ps : a0t n s = 0
 pt : a0t n t = 0
 e2 : f0j n t false = 0
 o2 : d0j n t false = u
 pu : a0t n u = 0
 same : decP n u = decP n s ∨ ((decP n s).cls = 1 ∧ (decP n s).neg = true ∧ decP n u = ⟨1, false, 0, 0⟩)
 cmp : ∃ c : Int, c < 0 ∧ cmpR (refD n s) (refD n t) = (c, true)
theorem a1i {n : Int} {s : ByteArray} (h : f0j n s true = 0) : ∃ u, d1y n s (d0j n s true) u := by
 have h2 := h
 unfold f0j at h2
 have hp : a0t n s = 0 := by split at h2; assumption; exact h2
 rw [if_pos hp] at h2
 obtain ⟨hn, _⟩ := b0n.1 hp
 have G := e0s hn
 have GG := c0r G.g
 have F := (x0o (s := s) hn).ok
 have hd := s0h hp
 unfold d0j
 rw [show (fmt n).refN (a0d (fmt n) s) = refD n s from rfl] at h2 ⊢
 rw [x0s]
 generalize hr : refD n s = r at *
 unfold t0l at h2
 split at h2
 · omega
 · rename_i c1
   split at h2
   · omega
   · rename_i c2
     have hin : a0h r.x (fmt n).g = true := by
      cases q : a0h r.x (fmt n).g
      · exact absurd (.inr q) c1
      · rfl
     have hs : (c0k r.x (fmt n).g).2 = true := by
      cases q : (c0k r.x (fmt n).g).2
      · exact absurd q c2
      · rfl
     have hB := F.bare
     obtain ⟨hyin, hyB⟩ := s0a GG hs
     have hback := u0s hB GG hin hs
     have hmore := x0q hB (g := (fmt n).g)
     have hN : q0s r.x (fmt n).g true = (c0k r.x (fmt n).g).1 := rfl
     rw [hN]
     generalize (c0k r.x (fmt n).g).1 = y at *
     have Ry := x0r hyB hyin
     have Rx := x0r hB hin
     obtain ⟨pt, ht⟩ := s0g hn Ry
     obtain ⟨pu, hu⟩ := s0g hn Rx
     have hy2 : (resD y).cls ≤ 2 := by unfold resD; split <;> simp
     have hyx := f1v hyB
     have e1 : f0j n (strR n (resD y)) false = 0 := by
      unfold f0j
      rw [if_pos pt, show (fmt n).refN (a0d (fmt n) (strR n (resD y))) = refD n (strR n (resD y)) from rfl, ht, hyx]
      unfold t0l
      rw [if_neg (by rw [hyin]; rintro (k | k); omega; cases k), show o0z y false = a0p y from rfl, hback, if_neg (by simp)]
     have e2 : d0j n (strR n (resD y)) false = strR n (resD r.x) := by
      unfold d0j
      rw [x0s, show (fmt n).refN (a0d (fmt n) (strR n (resD y))) = refD n (strR n (resD y)) from rfl, ht, hyx]
      have : q0s y (fmt n).g false = a0p (c0k (a0p y) (fmt n).g).1 := rfl
      rw [this, hback, t0n hB]
     refine ⟨strR n (resD r.x), hp, pt, e1, e2, pu, ?_, rCmp r.x y, hmore, ?_⟩
     · rw [hd, s0h pu, hu]
       have hc : r.cls = 1 ∨ r.cls = 2 := by have := F.c; omega
       rcases hc with hc | hc
       · have hx := F.x0 (by omega)
         have e : resD r.x = ⟨1, false, vz⟩ := by rw [hx]; rfl
         rw [e]
         cases hg : r.neg
         · left
           have : r = ⟨1, false, vz⟩ := by cases r; simp only at hc hx hg; rw [hc, hx, hg]
           rw [this]
         · right
           refine ⟨hc, hg, rfl⟩
       · obtain ⟨x1, x2⟩ := F.x2 hc
         left
         have : resD r.x = r := by
          unfold resD
          rw [if_neg x1]
          cases r; simp only at hc x2; rw [hc, x2]
         rw [this]
     · rw [hr, ht, a1h (by omega) hy2, hyx]
theorem i0x (v : Vl) (p q : Option Addr) (c m d : Nat) (w : World) (h1 : v.cls = 1) (h2 : v.neg = true) :
 Calls Tryd.prog 16 #[.agg #[.int .i64 (v.cls : Int), .bool v.neg, .slice p (dig B32 v.d).length c, .int .i64 v.pow], .agg #[.int .i64 1, .bool false, .slice q m d, .int .i64 0]] w fun en w' => en = .returned (.bool false) ∧ Below w.heap.size w w' := by
 rw [h1, h2]
 have I := Inv.start w [] True.intro
 refine a0i [.v (.agg #[.int .i64 ((1 : Nat) : Int), .bool true, .slice p (dig B32 v.d).length c, .int .i64 v.pow]), .v (.agg #[.int .i64 1, .bool false, .slice q m d, .int .i64 0])] I Tryd.func16 ?_
 refine zb I 9 (((1 : Nat) : Int) == 1) (true) (rfl) fun Al W I => ?_
 refine zb I 15 (true == false) (false) (rfl) fun Al W I => ?_
 exact zrb I
theorem l0f (n : Int) (s : ByteArray) (w : World) (hT : TabW w) : Calls Tryd.prog 3 #[.int .i64 n, .string s] w fun en w' => en = .returned (.bool true) ∧ Below w.heap.size w w' := by
 have HB0 := fun W h => hi0 (l0c W h)
 have HN1 := fun W h => hi0 (s0f n s true W h)
 unfold h0t at HN1
 by_cases h0 : f0j n s true = 0
 · obtain ⟨u, K⟩ := a1i h0
   have HN2 := fun W h => hi0 (s0f n (d0j n s true) false W h)
   unfold h0t at HN2
   have HD1 := fun W h => hi0 (e0x n s W h)
   have HD2 := fun W h => hi0 (e0x n u W h)
   obtain ⟨c, hc, hcmp⟩ := K.cmp
   have hn := (b0n.1 K.ps).1
   have hl : (dig B32 (decP n s).d).length ≤ 1000 := by unfold decP; rw [if_pos K.ps]; exact (x0h (e0s hn) s).vlen
   have he : errR n 1 [s, d0j n s true] = 0 := by
    unfold errR
    have : errL n [s, d0j n s true] = 0 := by unfold errL errL errL; simp [K.ps, K.pt]
    rw [if_pos hn, if_pos this]; rfl
   have HC : ∀ W, TabW W → Hid (Calls Tryd.prog 15 #[.int .i64 n, .string s, .string (d0j n s true)] W fun en w' => en = .returned (.tuple #[.int .i64 c, .bool true, .int .i64 0]) ∧ Below W.heap.size W w') := fun W h => by
    have := p0c n s (d0j n s true) W h
    unfold n0m at this
    simp only [he, if_true, hcmp] at this
    exact hi0 this
   have hsame := K.same
   simp only [h0, K.e2, K.o2, if_true] at HN1 HN2
   rw [K.ps] at HD1
   rw [K.pu] at HD2
   generalize d0j n s true = t at *
   generalize decP n s = v at *
   generalize decP n u = v2 at *
   clear K h0 hcmp he
   rcases hsame with rfl | ⟨c1, c2, rfl⟩
   · have hcc := dTr hc
     have I := Inv.start w [tabF] ⟨hT, True.intro⟩
     refine a0i [.v (.int .i64 n), .v (.string s)] I Tryd.func3 ?_
     refine zq I (fun Al W I => (HB0 W I.fa.1).out) fun Al W I => ?_
     refine zq I (fun Al W I => (HN1 W I.fa.1).out) fun Al W I => ?_
     refine zq I (fun Al W I => (HN2 W I.fa.1).out) fun Al W I => ?_
     refine zqo I (fun Al W I => (HD1 W I.fa.1).out) fun Al W p34 c34 I => ?_
     refine zqo I (fun Al W I => (HD2 W I.fa.2.1).out) fun Al W p40 c40 I => ?_
     refine zq I (fun Al W I => (HC W I.fa.2.2.1).out) fun Al W I => ?_
     refine zb I 70 (decide (c < 0)) (true) (hcc) fun Al W I => ?_
     refine zq I (fun Al W I => have hzW := I.bel.size; i0w v2 p34 p40 c34 c40 _ _ W I.fa.2.1 I.fa.1 (by omega)) fun Al W I => ?_
     exact zrb I
   · have hcc := dTr hc
     have HS := fun p d q m e W => hi0 (i0x v p q d m e W c1 c2)
     have I := Inv.start w [tabF] ⟨hT, True.intro⟩
     refine a0i [.v (.int .i64 n), .v (.string s)] I Tryd.func3 ?_
     refine zq I (fun Al W I => (HB0 W I.fa.1).out) fun Al W I => ?_
     refine zq I (fun Al W I => (HN1 W I.fa.1).out) fun Al W I => ?_
     refine zq I (fun Al W I => (HN2 W I.fa.1).out) fun Al W I => ?_
     refine zqo I (fun Al W I => (HD1 W I.fa.1).out) fun Al W p34 c34 I => ?_
     refine zqo I (fun Al W I => (HD2 W I.fa.2.1).out) fun Al W p40 c40 I => ?_
     refine zq I (fun Al W I => (HC W I.fa.2.2.1).out) fun Al W I => ?_
     refine zb I 70 (decide (c < 0)) (true) (hcc) fun Al W I => ?_
     refine zq I (fun Al W I => (HS p34 c34 p40 (dig B32 0).length c40 W).out) fun Al W I => ?_
     refine zb I 79 ((v.cls : Int) == 1) (true) (dTr (by omega)) fun Al W I => ?_
     exact zrb I
 · simp only [if_neg h0] at HN1
   generalize f0j n s true = er at *
   have I := Inv.start w [tabF] ⟨hT, True.intro⟩
   refine a0i [.v (.int .i64 n), .v (.string s)] I Tryd.func3 ?_
   refine zq I (fun Al W I => (HB0 W I.fa.1).out) fun Al W I => ?_
   refine zq I (fun Al W I => (HN1 W I.fa.1).out) fun Al W I => ?_
   refine zb I 24 (er != 0) (true) (bne_iff_ne.2 h0) fun Al W I => ?_
   exact zrb I
end Go.Proofs.YtmacohmclpnphaaDoor
