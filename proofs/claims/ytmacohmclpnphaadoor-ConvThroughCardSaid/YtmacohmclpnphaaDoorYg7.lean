/- arith: place. -/
import Derived.Deep.LoopGhost
import Derived.Deep.RegionHeld3
import Derived.Lib.Strings
import Derived.Lib.Slices
import Derived.Lib.Small
import Derived.Lib.Walk
import Derived.Lib.BitFns
import Derived.Carry
import Derived.LoopN
import Derived.Test.YtmacohmclpnphaaDoorYg1
import Derived.Test.YtmacohmclpnphaaDoorYg2
import Derived.Test.YtmacohmclpnphaaDoorYg3
import Derived.Test.YtmacohmclpnphaaDoorYg4
import Derived.Test.YtmacohmclpnphaaDoorYg5
import Derived.Test.YtmacohmclpnphaaDoorYg6
set_option maxHeartbeats 8000000
set_option maxRecDepth 100000
namespace Go.Proofs.YtmacohmclpnphaaDoor
open Go.RowKit Go.Slip
def h0b (f : Fm) (n way c : Int) (u : Nat) (w : World) (base : Nat) (v : Vl) (en : Ending) (w' : World) : Prop :=
 ∃ p k, en = .returned (.agg #[.int .i64 (v.cls : Int), .bool v.neg, .slice p (dig B32 v.d).length k, .int .i64 v.pow]) ∧ Own w' base .u32 76 p k (dig B32 v.d) ∧ Kp [u] w w' ∧ Bt w' u 153 #[.int .i64 n, .int .i64 way, .int .i64 f.g.rad, .int .i64 f.g.digs, .int .i64 f.g.lo, .int .i64 f.g.hi, .bool f.g.grad, .int .u8 (famB f), .int .i64 c]
theorem i0o.ub {f : Fm} {n way c : Int} {u base : Nat} {w w' : World} {v : Vl} {en : Ending} (h : i0o f n way c u w v en w') (hb : base ≤ w.heap.size) : h0b f n way c u w base v en w' := by
 obtain ⟨p, k, h1, h2, h3, h4⟩ := h
 exact ⟨p, k, h1, h2.mono hb, h3, h4⟩
theorem e0i {f : Fm} {n way c : Int} {u k base : Nat} {g : Bool} {w w' : World} {en : Ending} (h : en = .returned (.agg #[.int .i64 (k : Int), .bool g, .slice none 0 0, .int .i64 0])) (hk : Kp [u] w w') (hb : Bt w' u 153 #[.int .i64 n, .int .i64 way, .int .i64 f.g.rad, .int .i64 f.g.digs, .int .i64 f.g.lo, .int .i64 f.g.hi, .bool f.g.grad, .int .u8 (famB f), .int .i64 c]) : h0b f n way c u w base ⟨k, g, 0, 0⟩ en w' := by
 refine ⟨none, 0, ?_, ?_, hk, hb⟩
 · rw [h, a0d]; rfl
 · show Own _ _ _ _ _ _ (dig B32 0); rw [a0d]; exact Own.nil _ _ _ _
theorem pl_n (f : Fm) (n way : Int) (ng : Bool) (d : Nat) (pw : Int) (pp : Option Addr) (cc base u : Nat) (w : World) (U : Bt w u 153 #[.int .i64 n, .int .i64 way, .int .i64 f.g.rad, .int .i64 f.g.digs, .int .i64 f.g.lo, .int .i64 f.g.hi, .bool f.g.grad, .int .u8 (famB f), .int .i64 0]) (hp : Own w base .u32 76 pp cc (dig B32 d)) (ex un : Bool) :
 Calls Tryd.prog 146 #[.pointer (some ⟨u, 0, none⟩), .agg #[.bool ng, .slice pp (dig B32 d).length cc, .int .i64 pw, .bool ex, .bool false, .bool un]] w (h0b f n way (((f.placedM ⟨ng, d, pw, ex, false, un⟩ way).2 : Nat) : Int) u w base (f.placedV ⟨ng, d, pw, ex, false, un⟩ way)) := by
 have hV : f.placedV ⟨ng, d, pw, ex, false, un⟩ way = if un = true ∧ f.fam ≠ 1 ∧ pw < f.g.lo then ⟨1, false, 0, 0⟩ else if d = 0 then ⟨1, ng && decide (f.fam = 1), 0, 0⟩ else ⟨2, ng, d, pw⟩ := by unfold Fm.placedV; simp only [Bool.false_eq_true, if_false]
 have hM : (f.placedM ⟨ng, d, pw, ex, false, un⟩ way).2 = if un = true ∧ f.fam ≠ 1 ∧ pw < f.g.lo then 3 else f.flP ⟨ng, d, pw, ex, false, un⟩ := by
  unfold Fm.placedM; simp only [Bool.false_eq_true, if_false]
  split
  · rfl
  · split <;> rfl
 have hFL : f.flP ⟨ng, d, pw, ex, false, un⟩ = if un then (if f.fam = 1 then (if ex then 0 else 3) else 3) else if ex then 0 else 1 := rfl
 have hF1 : f.fam = 1 → (famB f != 65) = false := fun h => by unfold famB; rw [if_pos h]; rfl
 have hF2 : f.fam ≠ 1 → (famB f != 65) = true := fun h => by unfold famB; rw [if_neg h]; split <;> rfl
 have hB1 : (famB f != 65) = true → f.fam ≠ 1 := fun h k => by rw [hF1 k] at h; cases h
 have hB2 : (famB f != 65) = false → f.fam = 1 := fun h => Classical.byContradiction fun k => by rw [hF2 k] at h; cases h
 have hz := a0h a0a d
 have HR9 := fun W u hU => hi0 (c0a f n way 0 1 1 u W hU (by decide +kernel))
 have HR3 := fun k (hk : k = 0 ∨ k = 1) W u hU => hi0 (c0a f n way k 3 3 u W hU (by rcases hk with rfl | rfl <;> decide +kernel))
 have HR2 := fun k (hk : k = 1) W u hU => hi0 (c0a f n way k 2 3 u W hU (by subst hk; decide +kernel))
 have HZ := fun k W u hU => hi0 (x0l f n way k ng u W hU)
 rw [hFL] at hM
 generalize (f.placedM ⟨ng, d, pw, ex, false, un⟩ way).2 = FL at *
 generalize f.placedV ⟨ng, d, pw, ex, false, un⟩ way = v at *
 clear hFL
 generalize (ng && decide (f.fam = 1)) = q at *
 have I := Inv.startW w u 153 (uS f n way 0) [ownF base .u32 76 pp cc (dig B32 d)] U ⟨hp, True.intro⟩ ⟨fun hf => hp.far U (by kernel_rfl) hf.1 hf.2, True.intro⟩
 refine a0c [.p 0 0, .v (.agg #[.bool ng, .slice pp (dig B32 d).length cc, .int .i64 pw, .bool ex, .bool false, .bool un])] I Tryd.func146 ?_
 obtain ⟨ne, hne⟩ : ∃ ne, (!ex) = ne := ⟨_, rfl⟩
 refine zb I 7 (!ex) (ne) (hne) fun Al W I => ?_
 refine zcut I (some 2000007) (fun fr bx gs => ∃ (U1 : Nat → Value) (k1 : Int), fr = (.p 0 0 :: .v (.agg #[.bool ng, .slice pp (dig B32 d).length cc, .int .i64 pw, .bool ex, .bool false, .bool un]) :: .v undef :: .p 1 0 :: .p 2 0 :: sw U1 5 2 (.v (.bool ne) :: sw U1 8 2 (.v undef :: sw U1 11 6 (.v undef :: sw U1 18 18 (.v undef :: .v (U1 37) :: .v undef :: sw U1 39 12 (.v undef :: sw U1 52 11 []))))) : List SV) ∧ bx = [⟨153, (uS f n way k1), false⟩, ⟨143, [.v (.bool ng), .v (.slice pp (dig B32 d).length cc), .v (.int .i64 pw), .v (.bool ex), .v (.bool false), .v (.bool un)], false⟩, ⟨29, [.v (.int .i64 0), .v (.bool false), .v (.slice none 0 0), .v (.int .i64 0)], false⟩] ∧ gs = [ownF base .u32 76 pp cc (dig B32 d)] ∧ (k1 = if ex then 0 else 1)) ?_ ?_
 · intro J hJ Al W I
   rcases Bool.eq_false_or_eq_true ne with rfl | rfl
   · refine zge I 0 153 (fun Al W I => (HR9 W _ (I.box 0 153 _)).out) fun Al V Iv _ _ kz => ?_
     rintro _ W ⟨rfl, hO, hB⟩
     refine ⟨_, rfl, kz _ (uS f n way 1) _ hO hB fun I => ?_⟩
     exact a0q I J fun Al W U I => hJ _ _ _ _ _ ⟨U, 1, rfl, rfl, rfl, (by revert hne; cases ex <;> simp)⟩ (I.pick [0])
   exact a0q I J fun Al W U I => hJ _ _ _ _ _ ⟨U, 0, rfl, rfl, rfl, (by revert hne; cases ex <;> simp)⟩ (I.pick [0])
 rintro _ _ _ ⟨U1, k1, rfl, rfl, rfl, hk1⟩ Al W I
 refine zcut I (some 1000000) (fun fr bx gs => ∃ (U2 : Nat → Value) (k2 : Int), fr = (.p 0 0 :: .v (.agg #[.bool ng, .slice pp (dig B32 d).length cc, .int .i64 pw, .bool ex, .bool false, .bool un]) :: .v undef :: .p 1 0 :: .p 2 0 :: sw U2 5 2 (.v (.bool ne) :: sw U2 8 43 (.v undef :: sw U2 52 11 [])) : List SV) ∧ bx = [⟨153, (uS f n way k2), false⟩, ⟨143, [.v (.bool ng), .v (.slice pp (dig B32 d).length cc), .v (.int .i64 pw), .v (.bool ex), .v (.bool false), .v (.bool un)], false⟩, ⟨29, [.v (.int .i64 0), .v (.bool false), .v (.slice none 0 0), .v (.int .i64 0)], false⟩] ∧ gs = [ownF base .u32 76 pp cc (dig B32 d)] ∧ ((FL : Int) = k2) ∧ (¬ (un = true ∧ f.fam ≠ 1 ∧ pw < f.g.lo))) ?_ ?_
 · intro J hJ Al W I
   rcases Bool.eq_false_or_eq_true (un) with f19 | f19
   · refine zb I 19 (un) (true) (f19) fun Al W I => ?_
     rcases Bool.eq_false_or_eq_true ((famB f) != 65) with f25 | f25
     · refine zb I 25 ((famB f) != 65) (true) (f25) fun Al W I => ?_
       refine zge I 0 153 (fun Al W I => (HR3 k1 (by rw [hk1]; split <;> simp) W _ (I.box 0 153 _)).out) fun Al V Iv _ _ kz => ?_
       rintro _ W ⟨rfl, hO, hB⟩
       refine ⟨_, rfl, kz _ (uS f n way 3) _ hO hB fun I => ?_⟩
       by_cases f36 : pw < f.g.lo
       · refine zd [] I fun Al W I => ?_
         refine zk [0, 1, 2, 3, 4, 5, 6] I fun I => ?_
         refine zkb 7 I (decide (pw < f.g.lo)) (true) (dTr f36) fun I => ?_
         refine zret I (v := fun Al => .agg #[.int .i64 1, .bool false, .slice none 0 0, .int .i64 0]) fun Al W I => ?_
         first | (rw [hV, hM, if_pos ⟨f19, hB1 f25, f36⟩, if_pos ⟨f19, hB1 f25, f36⟩]; exact e0i (k := 1) rfl I.bel (I.boxE 153 _)) | (rw [hV, hk2, if_neg hlo, if_neg (fun h => by have := hz.2 h; have := bnF f51; omega)]; exact ⟨pp, cc, rfl, I.fa.1, I.bel, I.boxE 153 _⟩)
       refine zd [] I fun Al W I => ?_
       refine zk [0, 1, 2, 3, 4, 5, 6] I fun I => ?_
       refine zkb 7 I (decide (pw < f.g.lo)) (false) (dFa f36) fun I => ?_
       exact a0q I J fun Al W U I => hJ _ _ _ _ _ ⟨U, 3, rfl, rfl, rfl, (by have h1 := hB1 f25; rw [hM, if_neg (fun h => f36 h.2.2), if_pos f19, if_neg h1]; rfl), (fun h => f36 h.2.2)⟩ (I.pick [0])
     refine zb I 25 ((famB f) != 65) (false) (f25) fun Al W I => ?_
     refine zb I 40 (un) (true) (f19) fun Al W I => ?_
     rcases Bool.eq_false_or_eq_true (!ex) with f44 | f44
     · refine zb I 44 (!ex) (true) (f44) fun Al W I => ?_
       refine zge I 0 153 (fun Al W I => (HR2 k1 (by rw [hk1]; revert f44; cases ex <;> simp) W _ (I.box 0 153 _)).out) fun Al V Iv _ _ kz => ?_
       rintro _ W ⟨rfl, hO, hB⟩
       refine ⟨_, rfl, kz _ (uS f n way 3) _ hO hB fun I => ?_⟩
       exact a0q I J fun Al W U I => hJ _ _ _ _ _ ⟨U, 3, rfl, rfl, rfl, (by have h1 := hB2 f25; rw [hM, if_neg (fun h => h.2.1 h1), if_pos f19, if_pos h1]; revert f44; cases ex <;> simp), (fun h => by have h1 := hB2 f25; exact h.2.1 h1)⟩ (I.pick [0])
     refine zb I 44 (!ex) (false) (f44) fun Al W I => ?_
     exact a0q I J fun Al W U I => hJ _ _ _ _ _ ⟨U, k1, rfl, rfl, rfl, (by have h1 := hB2 f25; rw [hM, if_neg (fun h => h.2.1 h1), if_pos f19, if_pos h1, hk1]; revert f44; cases ex <;> simp), (fun h => by have h1 := hB2 f25; exact h.2.1 h1)⟩ (I.pick [0])
   refine zb I 19 (un) (false) (f19) fun Al W I => ?_
   refine zb I 40 (un) (false) (f19) fun Al W I => ?_
   exact a0q I J fun Al W U I => hJ _ _ _ _ _ ⟨U, k1, rfl, rfl, rfl, (by rw [hM, if_neg (fun h => by rw [f19] at h; cases h.1), if_neg (by rw [f19]; simp), hk1]; split <;> rfl), (fun h => by rw [f19] at h; cases h.1)⟩ (I.pick [0])
 rintro _ _ _ ⟨U2, k2, rfl, rfl, rfl, hk2, hlo⟩ Al W I
 rcases Bool.eq_false_or_eq_true ((((dig B32 d).length : Nat) : Int) == 0) with f51 | f51
 · refine zb I 51 ((((dig B32 d).length : Nat) : Int) == 0) (true) (f51) fun Al W I => ?_
   refine zq I (fun Al W I => (HZ k2 W _ (I.box 0 153 _)).out) fun Al W I => ?_
   rw [hV, hk2, if_neg hlo, if_pos (hz.1 (by have := beq_iff_eq.1 f51; omega))]
   exact zret I fun Al W I => e0i (k := 1) rfl I.bel (I.boxE 153 _)
 refine zb I 51 ((((dig B32 d).length : Nat) : Int) == 0) (false) (f51) fun Al W I => ?_
 refine zret I (v := fun Al => .agg #[.int .i64 2, .bool ng, .slice pp (dig B32 d).length cc, .int .i64 pw]) fun Al W I => ?_
 first | (rw [hV, hM, if_pos ⟨f19, hB1 f25, f36⟩, if_pos ⟨f19, hB1 f25, f36⟩]; exact e0i (k := 1) rfl I.bel (I.boxE 153 _)) | (rw [hV, hk2, if_neg hlo, if_neg (fun h => by have := hz.2 h; have := bnF f51; omega)]; exact ⟨pp, cc, rfl, I.fa.1, I.bel, I.boxE 153 _⟩)
theorem g1u (f : Fm) (n way : Int) (p : Pl) (pp : Option Addr) (cc base u : Nat) (w : World) (U : Bt w u 153 #[.int .i64 n, .int .i64 way, .int .i64 f.g.rad, .int .i64 f.g.digs, .int .i64 f.g.lo, .int .i64 f.g.hi, .bool f.g.grad, .int .u8 (famB f), .int .i64 0]) (hb : base ≤ w.heap.size) (G : b0l f) (hw : 1 ≤ way ∧ way ≤ 5) (ho : p.over = true) :
 Calls Tryd.prog 146 #[.pointer (some ⟨u, 0, none⟩), .agg #[.bool p.neg, .slice pp (dig B32 p.d).length cc, .int .i64 p.pow, .bool true, .bool true, .bool p.under]] w (h0b f n way 5 u w base (f.placedV p way)) := by
 have HO := fun W u hU => hi0 (b1l f n way 0 5 p u W hU G (by decide +kernel) hw ho)
 generalize f.placedV p way = v at *
 have I := Inv.startW w u 153 (uS f n way 0) [] U True.intro True.intro
 refine a0c [.p 0 0, .v (.agg #[.bool p.neg, .slice pp (dig B32 p.d).length cc, .int .i64 p.pow, .bool true, .bool true, .bool p.under])] I Tryd.func146 ?_
 refine zge I 0 153 (fun Al W I => (HO W _ (I.box 0 153 _)).out) fun Al V Iv _ _ kz => ?_
 rintro _ W ⟨p16, c16, rfl, o16, hO, hB⟩
 refine ⟨_, rfl, kz _ (uS f n way 5) _ hO hB fun I => ?_⟩
 have I := I.ownB base o16
 exact zret I fun Al W I => ⟨p16, c16, rfl, I.fa.1, I.bel, I.boxE 153 _⟩
theorem g1v (f : Fm) (n way : Int) (p : Pl) (pp : Option Addr) (cc base u : Nat) (w : World) (U : Bt w u 153 #[.int .i64 n, .int .i64 way, .int .i64 f.g.rad, .int .i64 f.g.digs, .int .i64 f.g.lo, .int .i64 f.g.hi, .bool f.g.grad, .int .u8 (famB f), .int .i64 0]) (hb : base ≤ w.heap.size) (G : b0l f) (hw : 1 ≤ way ∧ way ≤ 5) (ho : p.over = true) :
 Calls Tryd.prog 146 #[.pointer (some ⟨u, 0, none⟩), .agg #[.bool p.neg, .slice pp (dig B32 p.d).length cc, .int .i64 p.pow, .bool false, .bool true, .bool p.under]] w (h0b f n way 5 u w base (f.placedV p way)) := by
 have HO := fun W u hU => hi0 (b1l f n way 1 5 p u W hU G (by decide +kernel) hw ho)
 have HR := fun W u hU => hi0 (c0a f n way 0 1 1 u W hU (by decide +kernel))
 generalize f.placedV p way = v at *
 have I := Inv.startW w u 153 (uS f n way 0) [] U True.intro True.intro
 refine a0c [.p 0 0, .v (.agg #[.bool p.neg, .slice pp (dig B32 p.d).length cc, .int .i64 p.pow, .bool false, .bool true, .bool p.under])] I Tryd.func146 ?_
 refine zge I 0 153 (fun Al W I => (HR W _ (I.box 0 153 _)).out) fun Al V Iv _ _ kz => ?_
 rintro _ W ⟨rfl, hO, hB⟩
 refine ⟨_, rfl, kz _ (uS f n way 1) _ hO hB fun I => ?_⟩
 refine zge I 0 153 (fun Al W I => (HO W _ (I.box 0 153 _)).out) fun Al V Iv _ _ kz => ?_
 rintro _ W ⟨p16, c16, rfl, o16, hO, hB⟩
 refine ⟨_, rfl, kz _ (uS f n way 5) _ hO hB fun I => ?_⟩
 have I := I.ownB base o16
 exact zret I fun Al W I => ⟨p16, c16, rfl, I.fa.1, I.bel, I.boxE 153 _⟩
theorem d1p (f : Fm) (n way : Int) (p : Pl) (pp : Option Addr) (cc base u : Nat) (w : World) (U : Bt w u 153 #[.int .i64 n, .int .i64 way, .int .i64 f.g.rad, .int .i64 f.g.digs, .int .i64 f.g.lo, .int .i64 f.g.hi, .bool f.g.grad, .int .u8 (famB f), .int .i64 0]) (hp : Own w base .u32 76 pp cc (dig B32 p.d)) (hb : base ≤ w.heap.size) (G : b0l f) (hw : 1 ≤ way ∧ way ≤ 5) :
 Calls Tryd.prog 146 #[.pointer (some ⟨u, 0, none⟩), .agg #[.bool p.neg, .slice pp (dig B32 p.d).length cc, .int .i64 p.pow, .bool p.exact, .bool p.over, .bool p.under]] w (h0b f n way (((f.placedM p way).2 : Nat) : Int) u w base (f.placedV p way)) := by
 obtain ⟨ng, d, pw, ex, ov, un⟩ := p
 cases ov with
 | true =>
  have e : (f.placedM ⟨ng, d, pw, ex, true, un⟩ way).2 = 5 := by unfold Fm.placedM; rw [if_pos rfl]
  rw [e]
  cases ex
  · exact g1v f n way ⟨ng, d, pw, false, true, un⟩ pp cc base u w U hb G hw rfl
  · exact g1u f n way ⟨ng, d, pw, true, true, un⟩ pp cc base u w U hb G hw rfl
 | false =>
  exact pl_n f n way ng d pw pp cc base u w U hp ex un
theorem p0b (ng : Bool) (p q : Option Addr) (c d : Nat) (num den : Nat) (e : Int) (g : Gd) (way : Int) (w : World) (hp : Rd w .u32 p (dig B32 num)) (hq : Rd w .u32 q (dig B32 den))
 (hl : (dig B32 num).length ≤ 100000) (hl2 : (dig B32 den).length ≤ 100000) (hn : 0 < num) (hd : 0 < den) (he : -1000000 ≤ e ∧ e ≤ 1000000) (G : e0v g) (hw1 : 1 ≤ way) (hw2 : way ≤ 5) :
 Calls Tryd.prog 97 #[.agg #[.bool ng, .slice p (dig B32 num).length c, .slice q (dig B32 den).length d, .int .i64 e], .agg #[.int .i64 g.rad, .int .i64 g.digs, .int .i64 g.lo, .int .i64 g.hi, .bool g.grad], .int .i64 way] w (s0f w (a0j ng num den e g way)) := by
 have h := q0r ng p q c d num den e g way (theK num den e (wid g) g.digs.toNat) w hp hq hl hl2 hn hd he G hw1 hw2 (i0g hn hd e (a0r g).1 (by have := G.d1; omega))
 unfold a0j
 rw [if_neg (by omega)]
 exact h
theorem g1w (f : Fm) (n way : Int) (ng : Bool) (p q : Option Addr) (c d : Nat) (num den : Nat) (e : Int) (u : Nat) (w : World) (U : Bt w u 153 #[.int .i64 n, .int .i64 way, .int .i64 f.g.rad, .int .i64 f.g.digs, .int .i64 f.g.lo, .int .i64 f.g.hi, .bool f.g.grad, .int .u8 (famB f), .int .i64 0]) (hp : Rd w .u32 p (dig B32 num)) (hq : Rd w .u32 q (dig B32 den))
 (hl : (dig B32 num).length ≤ 100000) (hl2 : (dig B32 den).length ≤ 100000) (hn : 0 < num) (hd : 0 < den) (he : -1000000 ≤ e ∧ e ≤ 1000000) (G : b0l f) (hw : 1 ≤ way ∧ way ≤ 5) :
 Calls Tryd.prog 119 #[.pointer (some ⟨u, 0, none⟩), .agg #[.bool ng, .slice p (dig B32 num).length c, .slice q (dig B32 den).length d, .int .i64 e]] w
  (i0o f n way (((f.placedM (a0j ng num den e f.g way) way).2 : Nat) : Int) u w (f.placedV (a0j ng num den e f.g way) way)) := by
 have GG := b0i G.g
 have HF := fun W h1 h2 => hi0 (p0b ng p q c d num den e f.g way W h1 h2 hl hl2 hn hd he GG hw.1 hw.2)
 have HP := fun pp cc base u W U h1 h2 => hi0 (d1p f n way (a0j ng num den e f.g way) pp cc base u W U h1 h2 G hw)
 have hR := x0s (neg := ng) (num := num) (e := e) (way := way) hd GG
 generalize (f.placedM (a0j ng num den e f.g way) way).2 = fl at *
 generalize f.placedV (a0j ng num den e f.g way) way = v at *
 generalize a0j ng num den e f.g way = P at *
 have I := Inv.startW w u 153 (uS f n way 0) [rdF .u32 p (dig B32 num), rdF .u32 q (dig B32 den)] U ⟨hp, hq, True.intro⟩ ⟨fun hf => hp.far U (by kernel_rfl) hf.1 hf.2, fun hf => hq.far U (by kernel_rfl) hf.1 hf.2, True.intro⟩
 refine a0c [.p 0 0, .v (.agg #[.bool ng, .slice p (dig B32 num).length c, .slice q (dig B32 den).length d, .int .i64 e])] I Tryd.func119 ?_
 refine zcut I none (fun fr bx gs => ∃ (U1 : Nat → Value) (p16 : Option Addr) (c16 : Nat), fr = (.p 0 0 :: .v (.agg #[.bool ng, .slice p (dig B32 num).length c, .slice q (dig B32 den).length d, .int .i64 e]) :: .v undef :: .p 1 0 :: .p 2 0 :: sw U1 5 12 [] : List SV) ∧ bx = [⟨153, (uS f n way (fl : Int)), false⟩, ⟨146, [.v (.bool ng), .v (.slice p (dig B32 num).length c), .v (.slice q (dig B32 den).length d), .v (.int .i64 e)], false⟩, ⟨29, [.v (.int .i64 (v.cls : Int)), .v (.bool v.neg), .v (.slice p16 (dig B32 v.d).length c16), .v (.int .i64 v.pow)], false⟩] ∧ gs = [ownF w.heap.size .u32 76 p16 c16 (dig B32 v.d), rdF .u32 p (dig B32 num), rdF .u32 q (dig B32 den)]) ?_ ?_
 · intro J hJ Al W I
   refine zd [0, 2] I fun Al W I => ?_
   refine zk [0, 1, 2, 3, 4, 6, 7, 8] I fun I => ?_
   refine zo2 5 9 I (fun I => ?_) (fun I => ?_)
   · refine zn I fun Al W I => ?_
     refine zo 9 I fun I => ?_
     refine zn I fun Al W I => ?_
     refine zo 10 I fun I => ?_
     refine zqo I (fun Al W I => (HF W I.fa.1 I.fa.2.1).out) fun Al W p15 c15 I => ?_
     refine zo 11 I fun I => ?_
     refine zge I 0 153 (fun Al W I => have hzW := I.bel.size; (HP p15 c15 _ _ W (I.box 0 153 _) I.fa.1 (by omega)).out) fun Al V Iv _ _ kz => ?_
     rintro _ W ⟨p16, c16, rfl, o16, hO, hB⟩
     refine ⟨_, rfl, kz _ (uS f n way (fl : Int)) _ hO hB fun I => ?_⟩
     have I := I.own o16
     refine zo 12 I fun I => ?_
     refine zn I fun Al W I => ?_
     exact a0q I J fun Al W U I => hJ _ _ _ _ _ ⟨U, p16, c16, rfl, rfl, rfl⟩ (I.pick [0, 2, 3])
   refine zn I fun Al W I => ?_
   refine zo 5 I fun I => ?_
   refine zn I fun Al W I => ?_
   refine zo 10 I fun I => ?_
   refine zqo I (fun Al W I => (HF W I.fa.1 I.fa.2.1).out) fun Al W p15 c15 I => ?_
   refine zo 11 I fun I => ?_
   refine zge I 0 153 (fun Al W I => have hzW := I.bel.size; (HP p15 c15 _ _ W (I.box 0 153 _) I.fa.1 (by omega)).out) fun Al V Iv _ _ kz => ?_
   rintro _ W ⟨p16, c16, rfl, o16, hO, hB⟩
   refine ⟨_, rfl, kz _ (uS f n way (fl : Int)) _ hO hB fun I => ?_⟩
   have I := I.own o16
   refine zo 12 I fun I => ?_
   refine zn I fun Al W I => ?_
   exact a0q I J fun Al W U I => hJ _ _ _ _ _ ⟨U, p16, c16, rfl, rfl, rfl⟩ (I.pick [0, 2, 3])
 rintro _ _ _ ⟨U1, p16, c16, rfl, rfl, rfl⟩ Al W I
 exact zret I fun Al W I => ⟨p16, c16, rfl, I.fa.1, I.bel, I.boxE 153 _⟩
structure VrOk (r : Vr) : Prop where
 c : 1 ≤ r.cls ∧ r.cls ≤ 5
 x0 : r.cls ≠ 2 → r.x = vz
 x2 : r.cls = 2 → r.x.m ≠ 0 ∧ r.x.neg = r.neg
 bare : Bare r.x
 len : (dig B32 r.x.m).length ≤ 20
 lo : -18000 ≤ r.x.e
 hi : r.x.e ≤ 18000
def h0c (f : Fm) (n way : Int) (u : Nat) (w : World) (base : Nat) (r : Vr × Nat) (en : Ending) (w' : World) : Prop :=
 ∃ v, VRep f v r.1 ∧ h0b f n way ((r.2 : Nat) : Int) u w base v en w'
theorem c0w {f : Fm} {n way : Int} {u k fl base : Nat} {g : Bool} {x : Dv} {w w' : World} {en : Ending} (hk2 : k ≠ 2) (h : en = .returned (.agg #[.int .i64 (k : Int), .bool g, .slice none 0 0, .int .i64 0])) (hk : Kp [u] w w') (hb : Bt w' u 153 #[.int .i64 n, .int .i64 way, .int .i64 f.g.rad, .int .i64 f.g.digs, .int .i64 f.g.lo, .int .i64 f.g.hi, .bool f.g.grad, .int .u8 (famB f), .int .i64 (fl : Int)]) : h0c f n way u w base (⟨k, g, x⟩, fl) en w' :=
 ⟨⟨k, g, 0, 0⟩, e0y hk2, e0i h hk hb⟩
theorem h0c.mono {f : Fm} {n way : Int} {u base b' : Nat} {w w' : World} {r : Vr × Nat} {en : Ending} (h : h0c f n way u w base r en w') (hb : b' ≤ base) : h0c f n way u w b' r en w' := by
 obtain ⟨v, h1, p, k, h2, h3, h4, h5⟩ := h
 exact ⟨v, h1, p, k, h2, h3.mono hb, h4, h5⟩
theorem s0l (f : Fm) (n way : Int) (x : Dv) (p : Option Addr) (c u : Nat) (w : World) (U : Bt w u 153 #[.int .i64 n, .int .i64 way, .int .i64 f.g.rad, .int .i64 f.g.digs, .int .i64 f.g.lo, .int .i64 f.g.hi, .bool f.g.grad, .int .u8 (famB f), .int .i64 0]) (hp : Rd w .u32 p (dig B32 x.m))
 (hl : (dig B32 x.m).length ≤ 100000) (he : -1000000 ≤ x.e ∧ x.e ≤ 1000000) (G : b0l f) (hw : 1 ≤ way ∧ way ≤ 5) :
 Calls Tryd.prog 115 #[.pointer (some ⟨u, 0, none⟩), .agg #[.bool x.neg, .slice p (dig B32 x.m).length c, .int .i64 x.e]] w (h0c f n way u w w.heap.size (f.numM x way)) := by
 have hs : d0y ⟨x.neg, x.m, x.e⟩ = d0y x := rfl
 have HS := fun W => hi0 (d0j x.neg p _ c x.e x.m W rfl)
 rw [hs] at HS
 have h0 := x0k x
 by_cases hx : x.m = 0
 · have hn : f.numM x way = (⟨1, false, vz⟩, 0) := by unfold Fm.numM Fm.zeroM; rw [if_pos hx]; simp
   rw [hn]
   have HZ := fun W u hU => hi0 (x0l f n way 0 false u W hU)
   rw [Bool.false_and] at HZ
   have hd := h0.2 hx
   generalize d0y x = sx at *
   have I := Inv.startW w u 153 (uS f n way 0) [rdF .u32 p (dig B32 x.m)] U ⟨hp, True.intro⟩ ⟨fun hf => hp.far U (by kernel_rfl) hf.1 hf.2, True.intro⟩
   refine a0c [.p 0 0, .v (.agg #[.bool x.neg, .slice p (dig B32 x.m).length c, .int .i64 x.e])] I Tryd.func115 ?_
   refine zq I (fun Al W I => (HS W).out) fun Al W I => ?_
   refine zb I 7 (sx == 0) (true) (beq_iff_eq.2 hd) fun Al W I => ?_
   refine zq I (fun Al W I => (HZ W _ (I.box 0 153 _)).out) fun Al W I => ?_
   exact zret I fun Al W I => c0w (k := 1) (by decide) rfl I.bel (I.boxE 153 _)
 · have hn : f.numM x way = f.placedM (a0j x.neg x.m 1 x.e f.g way) way := by unfold Fm.numM; rw [if_neg hx]
   rw [hn]
   have hd : d0y x ≠ 0 := fun h => hx (h0.1 h)
   have l1 : (dig B32 1).length ≤ 1 := by rw [a0e a0a]; unfold B32; omega
   have HF := fun p q c d u W U h1 h2 => hi0 (g1w f n way x.neg p q c d x.m 1 x.e u W U h1 h2 hl (by omega) (by omega) (by omega) he G hw)
   have HV := (l0u G (neg := x.neg) (num := x.m) (den := 1) (e := x.e) (way := way) (by omega)).2
   have hm : f.placedM (a0j x.neg x.m 1 x.e f.g way) way = ((f.placedM (a0j x.neg x.m 1 x.e f.g way) way).1, (f.placedM (a0j x.neg x.m 1 x.e f.g way) way).2) := rfl
   rw [hm]
   generalize (f.placedM (a0j x.neg x.m 1 x.e f.g way) way).1 = r at *
   generalize (f.placedM (a0j x.neg x.m 1 x.e f.g way) way).2 = fl at *
   generalize f.placedV (a0j x.neg x.m 1 x.e f.g way) way = v at *
   generalize d0y x = sx at *
   have I := Inv.startW w u 153 (uS f n way 0) [rdF .u32 p (dig B32 x.m)] U ⟨hp, True.intro⟩ ⟨fun hf => hp.far U (by kernel_rfl) hf.1 hf.2, True.intro⟩
   refine a0c [.p 0 0, .v (.agg #[.bool x.neg, .slice p (dig B32 x.m).length c, .int .i64 x.e])] I Tryd.func115 ?_
   refine zq I (fun Al W I => (HS W).out) fun Al W I => ?_
   refine zb I 7 (sx == 0) (false) (bFn hd) fun Al W I => ?_
   refine zd [0, 2] I fun Al W I => ?_
   refine zk [0, 1, 2, 3, 4, 5, 6, 8, 9, 10] I fun I => ?_
   refine zo 7 I fun I => ?_
   refine zqo I (fun Al W I => have hzW := I.bel.size; sof 1 1 rfl (by omega) W) fun Al W p17 c17 I => ?_
   refine zk [11] I fun I => ?_
   refine zo 12 I fun I => ?_
   refine zge I 0 153 (fun Al W I => (HF p p17 c c17 _ W (I.box 0 153 _) I.fa.2.1 I.fa.1.rd).out) fun Al V Iv _ _ kz => ?_
   rintro _ W ⟨p22, c22, rfl, o22, hO, hB⟩
   refine ⟨_, rfl, kz _ (uS f n way (fl : Int)) _ hO hB fun I => ?_⟩
   have I := I.own o22
   refine zo 13 I fun I => ?_
   refine zn I fun Al W I => ?_
   exact zret I fun Al W I => ⟨v, HV, p22, c22, rfl, I.fa.1.mono (by omega), I.bel, I.boxE 153 _⟩
structure Vp where
 v : Vl
 p : Option Addr
 c : Nat
def Vp.cells (x : Vp) : List Value := [.int .i64 (x.v.cls : Int), .bool x.v.neg, .slice x.p (dig B32 x.v.d).length x.c, .int .i64 x.v.pow]
theorem Vp.len (x : Vp) : x.cells.length = 4 := rfl
theorem p0c (x y : Dv) (p q : Option Addr) (c d base : Nat) (w : World) (hx : Bare x) (hy : Bare y) (sx : SmD x) (sy : SmD y) (hp : Own w base .u32 76 p c (dig B32 x.m)) (hq : Own w base .u32 76 q d (dig B32 y.m)) (hT : TabW w) (hb : base ≤ w.heap.size) :
 Calls Tryd.prog 101 #[.agg #[.bool x.neg, .slice p (dig B32 x.m).length c, .int .i64 x.e], .agg #[.bool y.neg, .slice q (dig B32 y.m).length d, .int .i64 y.e]] w (e0r w base (e0p x y)) := by
 have h1 := sx.len
 have h2 := sy.len
 have h3 := sx.lo
 have h4 := sx.hi
 have h5 := sy.lo
 have h6 := sy.hi
 have := u0z x.neg y.neg p q _ c _ d base x.e y.e x.m y.m w hp hq rfl rfl (by omega) (by omega) (by omega) (by omega) hT hb
 rw [show (⟨x.neg, x.m, x.e⟩ : Dv) = x from rfl, show (⟨y.neg, y.m, y.e⟩ : Dv) = y from rfl, y0f hx hy] at this
 exact this
theorem VrOk.sm {r : Vr} (R : VrOk r) : SmD r.x := ⟨by have := R.len; omega, by have := R.lo; omega, by have := R.hi; omega⟩
theorem d1q (f : Fm) (n way : Int) (u : Nat) (w : World) (U : Bt w u 153 #[.int .i64 n, .int .i64 way, .int .i64 f.g.rad, .int .i64 f.g.digs, .int .i64 f.g.lo, .int .i64 f.g.hi, .bool f.g.grad, .int .u8 (famB f), .int .i64 0]) :
 Calls Tryd.prog 110 #[.pointer (some ⟨u, 0, none⟩), .int .i64 16] w fun en w' => en = .returned (.agg #[.int .i64 (f.nothM.cls : Int), .bool false, .slice none 0 0, .int .i64 0]) ∧ Kp [u] w w' ∧ Bt w' u 153 #[.int .i64 n, .int .i64 way, .int .i64 f.g.rad, .int .i64 f.g.digs, .int .i64 f.g.lo, .int .i64 f.g.hi, .bool f.g.grad, .int .u8 (famB f), .int .i64 16] := by
 have HR := fun W u hU => hi0 (c0a f n way 0 16 16 u W hU (by decide +kernel))
 have HN := fun W u hU => hi0 (k0l f n way 16 u W hU)
 generalize f.nothM.cls = k at *
 have I := Inv.startW w u 153 (uS f n way 0) [] U True.intro True.intro
 refine a0c [.p 0 0, .v (.int .i64 16)] I Tryd.func110 ?_
 refine zge I 0 153 (fun Al W I => (HR W _ (I.box 0 153 _)).out) fun Al V Iv _ _ kz => ?_
 rintro _ W ⟨rfl, hO, hB⟩
 refine ⟨_, rfl, kz _ (uS f n way 16) _ hO hB fun I => ?_⟩
 refine zq I (fun Al W I => (HN W _ (I.box 0 153 _)).out) fun Al W I => ?_
 exact zret I fun Al W I => ⟨rfl, I.bel, I.boxE 153 _⟩
def two (a b : Vp) : List Vp := [a, b]
theorem p0d (n : Int) (w : World) : Calls Tryd.prog 74 #[.int .i64 n] w fun en w' => en = .returned (.tuple #[.agg #[.int .i64 (fmt n).g.rad, .int .i64 (fmt n).g.digs, .int .i64 (fmt n).g.lo, .int .i64 (fmt n).g.hi, .bool (fmt n).g.grad], .int .i64 (b0p n)]) ∧ Below w.heap.size w w' := by
 by_cases hn : IsFm n
 · have h0 : b0p n = 0 := by unfold b0p; rw [if_pos hn]
   rw [h0]
   have HF := fun W => hi0 (e0w n hn W)
   generalize fmt n = f at *
   have I := Inv.start w [] True.intro
   refine a0c [.v (.int .i64 n)] I Tryd.func74 ?_
   refine zq I (fun Al W I => (HF W).out) fun Al W I => ?_
   exact zrb I
 · have h0 : b0p n = 6 := by unfold b0p; rw [if_neg hn]
   rw [h0, q0t hn]
   have HF := fun W => hi0 (f0s n hn W)
   have I := Inv.start w [] True.intro
   refine a0c [.v (.int .i64 n)] I Tryd.func74 ?_
   refine zq I (fun Al W I => (HF W).out) fun Al W I => ?_
   exact zrb I
theorem n0o (n way : Int) (w : World) (h : ¬ (IsFm n ∧ 1 ≤ way ∧ way ≤ 5)) : Calls Tryd.prog 52 #[.int .i64 n, .int .i64 way] w fun en w' => en = .returned (.tuple #[.pointer none, .int .i64 6]) ∧ Below w.heap.size w w' := by
 have HG := fun W => hi0 (p0d n W)
 by_cases hn : IsFm n
 · have he : b0p n = 0 := by unfold b0p; rw [if_pos hn]
   have h' : way < 1 ∨ 5 < way := by by_cases k : 1 ≤ way ∧ way ≤ 5; exact absurd ⟨hn, k⟩ h; omega
   rw [he] at HG
   generalize fmt n = f at *
   have I := Inv.start w [] True.intro
   refine a0c [.v (.int .i64 n), .v (.int .i64 way)] I Tryd.func52 ?_
   refine zq I (fun Al W I => (HG W).out) fun Al W I => ?_
   by_cases h1 : way < 1
   · refine zb I 18 (decide (way < 1)) (true) (dTr h1) fun Al W I => ?_
     exact zrb I
   refine zb I 18 (decide (way < 1)) (false) (dFa h1) fun Al W I => ?_
   refine zb I 21 (decide (way > 5)) (true) (dTr (by omega)) fun Al W I => ?_
   exact zrb I
 · have he : b0p n = 6 := by unfold b0p; rw [if_neg hn]
   rw [he] at HG
   generalize fmt n = f at *
   have I := Inv.start w [] True.intro
   refine a0c [.v (.int .i64 n), .v (.int .i64 way)] I Tryd.func52 ?_
   refine zq I (fun Al W I => (HG W).out) fun Al W I => ?_
   exact zrb I
def k0p (f : Fm) (n way : Int) (w : World) (en : Ending) (w' : World) : Prop :=
 ∃ u, en = .returned (.tuple #[.pointer (some ⟨u, 0, none⟩), .int .i64 0]) ∧ w.heap.size ≤ u ∧ Bt w' u 153 #[.int .i64 n, .int .i64 way, .int .i64 f.g.rad, .int .i64 f.g.digs, .int .i64 f.g.lo, .int .i64 f.g.hi, .bool f.g.grad, .int .u8 (famB f), .int .i64 0] ∧ Below w.heap.size w w'
theorem q0w (n way : Int) (w : World) (hn : IsFm n) (hw : 1 ≤ way ∧ way ≤ 5) : Calls Tryd.prog 52 #[.int .i64 n, .int .i64 way] w (k0p (fmt n) n way w) := by
 have HG := fun W => hi0 (p0d n W)
 have he : b0p n = 0 := by unfold b0p; rw [if_pos hn]
 rw [he] at HG
 have G := c0j hn
 generalize fmt n = f at *
 have hrad := G.rad
 have hgr := G.grad
 by_cases f2 : f.fam = 2
 · have hBf : famB f = 66 := by unfold famB; rw [if_neg (by omega), if_pos f2]
   rw [if_pos f2] at hrad
   have I := Inv.start w [] True.intro
   refine a0c [.v (.int .i64 n), .v (.int .i64 way)] I Tryd.func52 ?_
   refine zq I (fun Al W I => (HG W).out) fun Al W I => ?_
   refine zb I 18 (decide (way < 1)) (false) (dFa (by omega)) fun Al W I => ?_
   refine zb I 21 (decide (way > 5)) (false) (dFa (by omega)) fun Al W I => ?_
   refine zb I 31 (f.g.rad == 16) (true) (beq_iff_eq.2 hrad) fun Al W I => ?_
   exact zret I (v := fun Al => .tuple #[.pointer (some ⟨(lk 0 Al 1), 0, none⟩), .int .i64 0]) fun Al W I => ⟨_, rfl, (I.geB 1), by rw [hBf]; exact (I.box 1 153 _), I.below⟩
 · rw [if_neg f2] at hrad
   by_cases f1 : f.fam = 1
   · have hBf : famB f = 65 := by unfold famB; rw [if_pos f1]
     rw [decide_eq_true f1] at hgr
     unfold k0p
     rw [hBf, hgr]
     simp only [hgr] at HG
     have I := Inv.start w [] True.intro
     refine a0c [.v (.int .i64 n), .v (.int .i64 way)] I Tryd.func52 ?_
     refine zq I (fun Al W I => (HG W).out) fun Al W I => ?_
     refine zb I 18 (decide (way < 1)) (false) (dFa (by omega)) fun Al W I => ?_
     refine zb I 21 (decide (way > 5)) (false) (dFa (by omega)) fun Al W I => ?_
     refine zb I 31 (f.g.rad == 16) (false) (bFn (by omega)) fun Al W I => ?_
     exact zret I fun Al W I => ⟨_, rfl, (I.geB 1), (I.box 1 153 _), I.below⟩
   · have hBf : famB f = 67 := by unfold famB; rw [if_neg f1, if_neg f2]
     rw [decide_eq_false f1] at hgr
     unfold k0p
     rw [hBf, hgr]
     simp only [hgr] at HG
     have I := Inv.start w [] True.intro
     refine a0c [.v (.int .i64 n), .v (.int .i64 way)] I Tryd.func52 ?_
     refine zq I (fun Al W I => (HG W).out) fun Al W I => ?_
     refine zb I 18 (decide (way < 1)) (false) (dFa (by omega)) fun Al W I => ?_
     refine zb I 21 (decide (way > 5)) (false) (dFa (by omega)) fun Al W I => ?_
     refine zb I 31 (f.g.rad == 16) (false) (bFn (by omega)) fun Al W I => ?_
     exact zret I fun Al W I => ⟨_, rfl, (I.geB 1), (I.box 1 153 _), I.below⟩
theorem b1m (n way fl : Int) (a : Vp) (r : Vr) (base u : Nat) (w : World) (U : Bt w u 153 #[.int .i64 n, .int .i64 way, .int .i64 (fmt n).g.rad, .int .i64 (fmt n).g.digs, .int .i64 (fmt n).g.lo, .int .i64 (fmt n).g.hi, .bool (fmt n).g.grad, .int .u8 (famB (fmt n)), .int .i64 fl]) (oa : Own w base .u32 76 a.p a.c (dig B32 a.v.d)) (hn : IsFm n) (V : VRep (fmt n) a.v r) (R : ResF (fmt n) r) (hT : TabW w) :
 Calls Tryd.prog 90 #[.pointer (some ⟨u, 0, none⟩), .agg #[.int .i64 (a.v.cls : Int), .bool a.v.neg, .slice a.p (dig B32 a.v.d).length a.c, .int .i64 a.v.pow]] w fun en w' => en = .returned (.tuple #[.string (b0a ((fmt n).strP ((fmt n).encP r.cls r.neg r.x))), .int .i64 fl, .int .i64 0]) ∧ Below w.heap.size w w' := by
 have HE := fun W (h1 : Own W base .u32 76 a.p a.c (dig B32 a.v.d)) h2 => hi0 (l0r n (a.v.cls : Int) (dinV a.v a.p a.c) W (x0q h1 V.len) h2)
 obtain ⟨e1, e2⟩ := f1y R V a.p a.c
 unfold d0d o0w at HE
 rw [if_pos hn, e1, e2] at HE
 simp only [if_true] at HE
 have HE2 : ∀ W, Own W base .u32 76 a.p a.c (dig B32 a.v.d) → TabW W → Hid (Calls Tryd.prog 26 #[.int .i64 n, .agg #[.int .i64 (a.v.cls : Int), .bool a.v.neg, .slice a.p (dig B32 a.v.d).length a.c, .int .i64 a.v.pow]] W fun en w' => en = .returned (.tuple #[.string (b0a ((fmt n).strP ((fmt n).encP r.cls r.neg r.x))), .int .i64 0]) ∧ Below W.heap.size W w') := HE
 clear HE e1 e2 V R
 generalize b0a ((fmt n).strP ((fmt n).encP r.cls r.neg r.x)) = s at *
 generalize fmt n = f at *
 have I := Inv.startR w [u] [⟨153, (uS f n way fl), true⟩] [ownF base .u32 76 a.p a.c (dig B32 a.v.d), tabF] ⟨U, True.intro⟩ ⟨oa, hT, True.intro⟩
 refine a0c [.p 0 0, .v (.agg #[.int .i64 (a.v.cls : Int), .bool a.v.neg, .slice a.p (dig B32 a.v.d).length a.c, .int .i64 a.v.pow])] I Tryd.func90 ?_
 refine zd [] I fun Al W I => ?_
 refine zk [0, 1, 2, 3, 4] I fun I => ?_
 refine zo 5 I fun I => ?_
 refine zq I (fun Al W I => (HE2 W I.fa.1 I.fa.2.1).out) fun Al W I => ?_
 refine zk [6, 7, 8, 9, 10] I fun I => ?_
 refine zd [] I fun Al W I => ?_
 refine zk [0, 1, 2, 3, 4, 5, 6, 7] I fun I => ?_
 exact zrb I
end Go.Proofs.YtmacohmclpnphaaDoor
namespace Go.Slip
open Go.RowKit
end Go.Slip
namespace Go.Proofs.YtmacohmclpnphaaDoor
open Go.RowKit Go.Slip
def errL (n : Int) : List ByteArray → Int
 | [] => 0
 | s :: r => if a0v n s = 0 then errL n r else a0v n s
def errR (n way : Int) (L : List ByteArray) : Int := if IsFm n then (if errL n L = 0 then (if 1 ≤ way ∧ way ≤ 5 then 0 else 6) else errL n L) else 6
def strR (n : Int) (r : Vr) : ByteArray := b0a ((fmt n).strP ((fmt n).encP r.cls r.neg r.x))
structure VrF (f : Fm) (r : Vr) : Prop where
 ok : VrOk r
 inf : r.cls = 3 → f.fam = 1
def refD (n : Int) (s : ByteArray) : Vr := (fmt n).refN (a0i (fmt n) s)
theorem g1b {f : Fm} (G : b0l f) (neg : Bool) {e frac : Nat} (h : e < 2 ^ f.E) : (f.dec neg e frac).p = 0 ∨ (f.g.lo ≤ (f.dec neg e frac).p ∧ (f.dec neg e frac).p ≤ f.g.hi + 1) := by
 have h3 := G.hi1
 have h4 := G.hi2
 have h5 := G.hi3
 have h6 := G.fam
 have gg := (b0i G.g).le
 have e1 := G.e1
 have hE1 : (2 : Nat) ^ 7 ≤ 2 ^ f.E := Nat.pow_le_pow_right (by omega) e1
 unfold Fm.dec
 generalize 2 ^ f.E = T at *
 repeat' split
 all_goals first | exact .inl rfl | (right; simp only; omega)
theorem d1r {f : Fm} (neg : Bool) {e frac : Nat} (h : (f.dec neg e frac).c = 3) : f.fam = 1 := by
 have h : (f.dec neg e frac).cls = 3 := by
  unfold Dc.c at h
  split at h <;> omega
 unfold Fm.dec at h
 split at h
 · simp at h
 · split at h
   · rename_i k
     exact k.1
   · split at h
     · split at h <;> simp at h
     · split at h
       · simp at h
       · split at h
         · simp at h
         · split at h <;> simp at h
theorem q0x {n : Int} {s : ByteArray} (hn : IsFm n) : VrF (fmt n) (refD n s) := by
 have G := c0j hn
 have GG := b0i G.g
 obtain ⟨w1, w2, w3⟩ := l0k G.g
 have he : (fmt n).exp (a0i (fmt n) s) < 2 ^ (fmt n).E := Nat.mod_lt _ (Nat.pow_pos (by omega))
 have hx : (fmt n).frac (a0i (fmt n) s) < 2 ^ (fmt n).F := Nat.mod_lt _ (Nat.pow_pos (by omega))
 have hm := z0a (f := fmt n) ((fmt n).neg (a0i (fmt n) s)) (e := (fmt n).exp (a0i (fmt n) s)) hx
 have hp := g1b G ((fmt n).neg (a0i (fmt n) s)) (frac := (fmt n).frac (a0i (fmt n) s)) he
 have hi := fun h => d1r (f := fmt n) ((fmt n).neg (a0i (fmt n) s)) (e := (fmt n).exp (a0i (fmt n) s)) (frac := (fmt n).frac (a0i (fmt n) s)) h
 have hcls := w0l (fmt n) ((fmt n).neg (a0i (fmt n) s)) ((fmt n).exp (a0i (fmt n) s)) ((fmt n).frac (a0i (fmt n) s))
 have z2 := G.f2
 unfold refD Fm.refN Fm.decN
 generalize (fmt n).dec ((fmt n).neg (a0i (fmt n) s)) ((fmt n).exp (a0i (fmt n) s)) ((fmt n).frac (a0i (fmt n) s)) = D at *
 generalize (fmt n).neg (a0i (fmt n) s) = g at *
 generalize fmt n = f at *
 have hc : 1 ≤ D.c ∧ D.c ≤ 5 := by unfold Dc.c; split <;> omega
 have hml : (dig B32 D.m).length ≤ 3 := a0l hm (by omega)
 have wp := a0r f.g
 have hwp : -17010 ≤ (wid f.g : Int) * D.p ∧ (wid f.g : Int) * D.p ≤ 17010 := by
  rcases hp with h | ⟨h1, h2⟩
  · rw [h, Int.mul_zero]; omega
  · have a1 : (wid f.g : Int) * f.g.lo ≤ wid f.g * D.p := Int.mul_le_mul_of_nonneg_left h1 (by omega)
    have a2 : (wid f.g : Int) * D.p ≤ wid f.g * (f.g.hi + 1) := Int.mul_le_mul_of_nonneg_left h2 (by omega)
    rw [Int.mul_add, Int.mul_one] at a2
    omega
 refine ⟨⟨hc, fun h => ?_, fun h => ?_, ?_, ?_, ?_, ?_⟩, hi⟩
 · have h : ¬ D.c = 2 := h
   unfold Fm.vr
   simp only [if_neg h]
   rfl
 · have h : D.c = 2 := h
   have hm0 := b1j h
   unfold Fm.vr
   simp only [h, if_true]
   obtain ⟨b1, b2⟩ := k0o (g := g) (e := (wid f.g : Int) * D.p) hm0
   exact ⟨b2, by rw [b1]; rfl⟩
 · unfold Fm.vr
   simp only
   split
   · exact c0x _
   · exact .inr rfl
 · unfold Fm.vr
   simp only
   split
   · exact Nat.le_trans (f0z a0a _) (by show (dig B32 D.m).length ≤ _; omega)
   · show (dig B32 0).length ≤ _; rw [a0d]; decide
 · unfold Fm.vr
   simp only
   split
   · have := j0o (⟨g, D.m, wid f.g * D.p⟩ : Dv) (n := 3) hml (lo := -17100) (hi := 17100) (by simp only; omega) (by simp only; omega) (by omega) (by omega)
     omega
   · show (-18000 : Int) ≤ 0; decide
 · unfold Fm.vr
   simp only
   split
   · have := j0o (⟨g, D.m, wid f.g * D.p⟩ : Dv) (n := 3) hml (lo := -17100) (hi := 17100) (by simp only; omega) (by simp only; omega) (by omega) (by omega)
     omega
   · show (0 : Int) ≤ 18000; decide
theorem i0x {n : Int} {s : ByteArray} (h0 : a0v n s = 0) : VRep (fmt n) (decP n s) (refD n s) := by
 obtain ⟨hn, hs⟩ := c0r.1 h0
 have G := c0j hn
 have hd : decP n s = (fmt n).valN (a0i (fmt n) s) := by unfold decP; rw [if_pos h0]
 have he : (fmt n).exp (a0i (fmt n) s) < 2 ^ (fmt n).E := Nat.mod_lt _ (Nat.pow_pos (by omega))
 have hx : (fmt n).frac (a0i (fmt n) s) < 2 ^ (fmt n).F := Nat.mod_lt _ (Nat.pow_pos (by omega))
 have hb := g1s G ((fmt n).neg (a0i (fmt n) s)) he hx ((fmt n).neg (a0i (fmt n) s))
 have hk := z0x (fmt n) ((fmt n).neg (a0i (fmt n) s)) ((fmt n).decN (a0i (fmt n) s))
 have ho := z0z (fmt n) ((fmt n).neg (a0i (fmt n) s)) ((fmt n).decN (a0i (fmt n) s))
 rw [hd]
 exact ⟨rfl, rfl, fun _ => hk, fun h => ho h, hb.1, hb.2.1, hb.2.2⟩
/-! ### Results -/
theorem x0t {f : Fm} (G : b0l f) (x : Dv) (way : Int) : ResF f (f.numM x way).1 := by
 unfold Fm.numM
 split
 · exact n0n G _
 · exact (l0u G (by omega)).1
theorem d1s {f : Fm} {r : Vr} (h : r.cls = 3) (R : VrF f r) : ResF f r :=
 ⟨by omega, fun k => by omega, fun k => by omega, fun _ => R.inf h, fun k => by omega, fun k => by omega, fun _ => R.ok.x0 (by omega)⟩
def _root_.Go.Slip.Vr.opp (r : Vr) : Vr := if r.cls ≤ 3 then ⟨r.cls, !r.neg, b0y r.x⟩ else r
theorem d1t {f : Fm} (G : b0l f) {r : Vr} (R : ResF f r) : CanF f r.cls r.neg r.x :=
 ⟨R.c, R.c1, fun h => ⟨x0i G (R.c2 h).1 (R.c2 h).2.2.1, (R.c2 h).2.1, (R.c2 h).2.2.1, (R.c2 h).2.2.2⟩, R.c3, R.c4, R.c5⟩
theorem s0m {n : Int} (hn : IsFm n) {r : Vr} (R : ResF (fmt n) r) : a0v n (strR n r) = 0 ∧ refD n (strR n r) = r := by
 have G := c0j hn
 have C := d1t G R
 have hlt := d1d G (cls := r.cls) (g := r.neg) (d := r.x) (fun h => (C.c2 h).1)
 have hs : (strR n r).size = (fmt n).size := by unfold strR; rw [s0w]; exact c1w _ _ _ _
 refine ⟨c0r.2 ⟨hn, hs⟩, ?_⟩
 have hv := d1f G C
 obtain ⟨q1, q2, q3⟩ := w0n (f := fmt n) (neg := ((fmt n).encP r.cls r.neg r.x).neg) hlt.1 hlt.2
 unfold refD Fm.refN Fm.decN strR Fm.strP
 rw [q0u G hlt.1 hlt.2, q1, q2, q3, hv]
 by_cases h2 : r.cls = 2
 · rw [if_pos h2]
 · rw [if_neg h2, show (⟨false, 0, 0⟩ : Dv) = r.x from (R.x0 h2).symm]
def outS (n way : Int) (L : List ByteArray) (R : Vr × Nat) : ByteArray := if errR n way L = 0 then strR n R.1 else b0a []
def outF (n way : Int) (L : List ByteArray) (R : Vr × Nat) : Nat := if errR n way L = 0 then R.2 else 0
def n0p (n way : Int) (L : List ByteArray) (R : Vr × Nat) (w : World) (en : Ending) (w' : World) : Prop :=
 (if errR n way L = 0 then en = .returned (.tuple #[.string (strR n R.1), .int .i64 ((R.2 : Nat) : Int), .int .i64 (errR n way L)]) else en = .returned (.tuple #[.string (b0a []), .int .i64 0, .int .i64 (errR n way L)])) ∧ Below w.heap.size w w'
theorem d1u {n way : Int} {L : List ByteArray} {R : Vr × Nat} {w : World} {fn : FuncId} {args : Array Value} (h : Calls Tryd.prog fn args w (n0p n way L R w)) :
 Calls Tryd.prog fn args w fun en w' => en = .returned (.tuple #[.string (outS n way L R), .int .i64 ((outF n way L R : Nat) : Int), .int .i64 (errR n way L)]) ∧ Below w.heap.size w w' := by
 refine h.mono fun en w' hh => ⟨?_, hh.2⟩
 unfold outS outF
 have := hh.1
 by_cases h0 : errR n way L = 0
 · rw [if_pos h0] at this ⊢; rw [if_pos h0]; exact this
 · rw [if_neg h0] at this ⊢; rw [if_neg h0]; exact this
end Go.Proofs.YtmacohmclpnphaaDoor
namespace Go.Slip
theorem g1x (n : Int) : bits .and .i64 n 4611686018427387903 = n % 4611686018427387904 := by
 have h1 : (BitVec.ofInt 64 4611686018427387903).toNat = 2 ^ 62 - 1 := by decide
 have h2 : (BitVec.ofInt 64 n).toNat = (n % 18446744073709551616).toNat := by rw [BitVec.toNat_ofInt]; rfl
 have key : (BitVec.ofInt 64 n &&& BitVec.ofInt 64 4611686018427387903).toNat = (n % 4611686018427387904).toNat := by
  rw [BitVec.toNat_and, h2, h1, Nat.and_two_pow_sub_one_eq_mod]
  omega
 show IntKind.i64.wrap ((BitVec.ofInt 64 n &&& BitVec.ofInt 64 4611686018427387903).toNat : Nat) = _
 rw [key, Int.toNat_of_nonneg (by omega)]
 exact iwo
def intD (n : Int) : Dv := norm n 0
theorem n0q (m : Nat) (e : Int) : bare ⟨false, m, e⟩ = norm (m : Int) e := (f0l false m e).symm
theorem l0v (a b : Int) (j k : Nat) : e0p (norm a j) (norm b k) = norm (a * 2 ^ j + b * 2 ^ k) 0 := by
 have h : ∀ (c : Int) (i : Nat), (0 : Int) ≤ (norm c i).e ∧ zOf (norm c i) 0 = c * 2 ^ i := fun c i => by
  have e : norm c (i : Int) = norm (c * 2 ^ i) 0 := by rw [l0b]; congr 1; omega
  rw [e]
  exact ⟨e1k _ (Int.le_refl 0), n0m _ _⟩
 rw [i0a _ _ (h a j).1 (h b k).1, (h a j).2, (h b k).2]
end Go.Slip
namespace Go.Proofs.YtmacohmclpnphaaDoor
open Go.RowKit Go.Slip
theorem s0n (n : Int) (v : Vl) (r : Vr) (p : Option Addr) (c b0 : Nat) (w : World) (hn : IsFm n) (hp : Own w b0 .u32 76 p c (dig B32 v.d)) (V : VRep (fmt n) v r) (R : VrOk r) (hT : TabW w) :
 Calls Tryd.prog 92 #[.int .i64 n, .agg #[.int .i64 (v.cls : Int), .bool v.neg, .slice p (dig B32 v.d).length c, .int .i64 v.pow]] w (e0r w w.heap.size r.x) := by
 have HG := fun W => hi0 (h0s n W)
 have h0 : b0p n = 0 := by unfold b0p; rw [if_pos hn]
 rw [h0] at HG
 generalize fmt n = f at *
 have hx : bare ⟨v.neg, v.d, wid f.g * v.pow⟩ = r.x := by
  by_cases h2 : r.cls = 2
  · exact V.num h2
  · rw [R.x0 h2, (V.oth h2).1]; rfl
 have hl := V.len
 have hlo := V.lo
 have hhi := V.hi
 have wp := a0r f.g
 have hmu := f0t (wd := wid f.g) (k := v.pow) (B := 20000) wp.2 ⟨hlo, hhi⟩
 rw [← hx, ← o0v]
 clear hx R V h0
 have hwd : wid f.g = if f.g.rad = 16 then 4 else 1 := rfl
 generalize hmw : (wid f.g : Int) * v.pow = mw at *
 have HMW := hi0 hmw
 have HH := fun W (c : Nat) h1 h0 h2 => hi0 (e0d p _ c mw v.d W h1 rfl h0 (by omega) (by omega) h2)
 clear hmw
 generalize bare ⟨false, v.d, mw⟩ = d at *
 obtain ⟨rb, hrb⟩ : ∃ b, (f.g.rad == 16) = b := ⟨_, rfl⟩
 have HRB := hi0 hrb
 have h4 : rb = true → (4 : Int) = ((wid f.g : Nat) : Int) := fun h => by rw [h] at hrb; rw [hwd, if_pos (beq_iff_eq.1 hrb)]; rfl
 have h1 : rb = false → (1 : Int) = ((wid f.g : Nat) : Int) := fun h => by rw [h] at hrb; rw [hwd, if_neg (bnF hrb)]; rfl
 clear hrb hwd
 have I := Inv.start w [ownF b0 .u32 76 p c (dig B32 v.d), tabF] ⟨hp, hT, True.intro⟩
 refine a0c [.v (.int .i64 n), .v (.agg #[.int .i64 (v.cls : Int), .bool v.neg, .slice p (dig B32 v.d).length c, .int .i64 v.pow])] I Tryd.func92 ?_
 refine zq I (fun Al W I => (HG W).out) fun Al W I => ?_
 refine zb I 16 (f.g.rad == 16) (rb) (HRB.out) fun Al W I => ?_
 refine zcut I (some 2000016) (fun fr bx gs => ∃ (U1 : Nat → Value) (k1 : Int), fr = (.v (.int .i64 n) :: .v (.agg #[.int .i64 (v.cls : Int), .bool v.neg, .slice p (dig B32 v.d).length c, .int .i64 v.pow]) :: .v undef :: .p 0 0 :: .p 1 0 :: .p 2 0 :: .v (U1 6) :: .v (.int .i64 k1) :: .v undef :: sw U1 9 7 (.v (.bool rb) :: sw U1 17 8 (.v undef :: sw U1 26 3 [])) : List SV) ∧ bx = [⟨29, [.v (.int .i64 (v.cls : Int)), .v (.bool v.neg), .v (.slice p (dig B32 v.d).length c), .v (.int .i64 v.pow)], false⟩, ⟨87, [.v (.bool false), .v (.slice none 0 0), .v (.int .i64 0)], false⟩, ⟨51, [.v (.int .i64 f.g.rad), .v (.int .i64 f.g.digs), .v (.int .i64 f.g.lo), .v (.int .i64 f.g.hi), .v (.bool f.g.grad)], false⟩] ∧ gs = [ownF b0 .u32 76 p c (dig B32 v.d), tabF] ∧ (k1 = ((wid f.g : Nat) : Int))) ?_ ?_
 · intro J hJ Al W I
   rcases Bool.eq_false_or_eq_true rb with rfl | rfl
   · exact a0q I J fun Al W U I => hJ _ _ _ _ _ ⟨U, 4, rfl, rfl, rfl, h4 rfl⟩ (I.pick [0, 1])
   exact a0q I J fun Al W U I => hJ _ _ _ _ _ ⟨U, 1, rfl, rfl, rfl, h1 rfl⟩ (I.pick [0, 1])
 rintro _ _ _ ⟨U1, k1, rfl, rfl, rfl, hk1⟩ Al W I
 refine zi I 22 .i64 (k1 * v.pow) (mw) ((by rw [hk1, HMW.out]; exact iwo)) fun Al W I => ?_
 refine zqo I (fun Al W I => (HH W c I.fa.1.rd I.fa.1.le_cap I.fa.2.1).out) fun Al W p23 c23 I => ?_
 by_cases ng : v.neg = true
 · refine zb I 25 (v.neg) (true) (ng) fun Al W I => ?_
   refine zq I (fun Al W I => q0o d.neg p23 _ c23 d.e d.m W rfl) fun Al W I => ?_
   rw [if_pos ng]
   exact zret I fun Al W I => ⟨p23, c23, rfl, I.fa.1.mono (by omega), I.below⟩
 refine zb I 25 (v.neg) (false) ((by simpa using ng)) fun Al W I => ?_
 rw [if_neg ng]
 exact zret I fun Al W I => ⟨p23, c23, rfl, I.fa.1.mono (by omega), I.below⟩
end Go.Proofs.YtmacohmclpnphaaDoor
namespace Go.Slip
theorem q0y (z e : Int) : b0y (norm z e) = norm (-z) e := by
 by_cases h : z = 0
 · subst h; rfl
 · have h1 : (bare (ofZ z e)).m ≠ 0 := l0j h e
   unfold norm at *
   unfold ofZ bare at *
   simp only at h1 ⊢
   rw [if_neg (by omega)] at h1
   rw [if_neg (by omega), if_neg (by omega)]
   unfold b0y
   simp only at h1 ⊢
   rw [Int.natAbs_neg, decide_eq_true (Nat.pos_of_ne_zero h1), Bool.and_true]
   simp only [Dv.mk.injEq, and_true]
   by_cases k : z < 0
   · rw [decide_eq_true k, decide_eq_false (by omega)]; rfl
   · rw [decide_eq_false k, decide_eq_true (by omega)]; rfl
def RepG (g : Gd) (z : Nat) (k : Int) : Prop := 0 < z ∧ z < 2 ^ (wid g * g.digs.toNat) ∧ (g.lo < k ∨ g.grad = false → 2 ^ (wid g * (g.digs.toNat - 1)) ≤ z) ∧ g.lo ≤ k
theorem RepG.stepK {g : Gd} (G : e0v g) {z : Nat} {k : Int} (h : RepG g z k) {s : Int} (hs : s.natAbs = z) : stepK (norm s (wid g * k)) g = k := by
 obtain ⟨h1, h2, h3, h4⟩ := h
 refine a1i G (by omega) (by omega) h4 ?_
 rcases Int.lt_or_le g.lo k with h | h
 · left; rw [hs]; exact h3 (.inl h)
 · right; omega
end Go.Slip
namespace Go.Proofs.YtmacohmclpnphaaDoor
open Go.RowKit Go.Slip
theorem d1v {n : Int} (h : -9223372036854775808 ≤ n ∧ n ≤ 9223372036854775807) : (dig B32 (intD n).m).length ≤ 2 ∧ -100 ≤ (intD n).e ∧ (intD n).e ≤ 100 ∧ Bare (intD n) := by
 have hl : (dig B32 n.natAbs).length ≤ 2 := (a0e a0a _ 2).2 (by unfold B32; omega)
 have h1 := f0z a0a ⟨decide (n < 0), n.natAbs, 0⟩
 have h2 := j0o ⟨decide (n < 0), n.natAbs, 0⟩ (n := 2) hl (lo := -1) (hi := 1) (by simp only; omega) (by simp only; omega) (by omega) (by omega)
 have h3 := c0x ⟨decide (n < 0), n.natAbs, 0⟩
 have e : intD n = bare ⟨decide (n < 0), n.natAbs, 0⟩ := rfl
 rw [← e] at h1 h2 h3
 simp only at h1
 exact ⟨by omega, by omega, by omega, h3⟩
theorem f0w {m : Nat} {e : Int} (h : m < 18446744073709551616) (he : 0 ≤ e ∧ e ≤ 62) : SmD (norm (m : Int) e) ∧ Bare (norm (m : Int) e) := by
 have hl : (dig B32 m).length ≤ 2 := (a0e a0a _ 2).2 (by unfold B32; omega)
 have h1 := f0z a0a ⟨false, m, e⟩
 have h2 := j0o ⟨false, m, e⟩ (n := 2) hl (lo := -1) (hi := 100) (by simp only; omega) (by simp only; omega) (by omega) (by omega)
 rw [n0q] at h1 h2
 simp only at h1
 exact ⟨⟨by omega, by omega, by omega⟩, by rw [← n0q]; exact c0x _⟩
theorem q0z (n fm way : Int) (w : World) (hr : -9223372036854775808 ≤ n ∧ n ≤ 9223372036854775807) (hT : TabW w) :
 Calls Tryd.prog 80 #[.int .i64 n, .int .i64 fm, .int .i64 way] w (n0p fm way [] ((fmt fm).numM (intD n) way) w) := by
 unfold n0p
 by_cases hok : IsFm fm ∧ 1 ≤ way ∧ way ≤ 5
 · obtain ⟨hn, hw⟩ := hok
   have h0 : errR fm way [] = 0 := by unfold errR; rw [if_pos hn, if_pos (show errL fm [] = 0 from rfl), if_pos hw]
   simp only [h0, if_true]
   have HO := fun W => hi0 (q0w fm way W hn hw)
   have RS : ResF (fmt fm) ((fmt fm).numM (intD n) way).1 := x0t (c0j hn) _ _
   obtain ⟨b1, b2, b3, b4⟩ := d1v hr
   have HNU := fun (x : Dv) (hx : x = intD n) W p c u (h1 : Bt W u 153 #[.int .i64 fm, .int .i64 way, .int .i64 (fmt fm).g.rad, .int .i64 (fmt fm).g.digs, .int .i64 (fmt fm).g.lo, .int .i64 (fmt fm).g.hi, .bool (fmt fm).g.grad, .int .u8 (famB (fmt fm)), .int .i64 0]) (h2 : Rd W .u32 p (dig B32 x.m)) => hi0 (show Calls Tryd.prog 115 #[.pointer (some ⟨u, 0, none⟩), .agg #[.bool x.neg, .slice p (dig B32 x.m).length c, .int .i64 x.e]] W (h0c (fmt fm) fm way u W W.heap.size ((fmt fm).numM (intD n) way)) from by
     subst hx; exact s0l (fmt fm) fm way _ p c u W h1 h2 (by omega) (by omega) (c0j hn) hw)
   obtain ⟨rS, flS, hS⟩ : ∃ rS flS, (fmt fm).numM (intD n) way = (rS, flS) := ⟨_, _, rfl⟩
   rw [hS] at HNU RS ⊢
   have HTL := fun W (v : Vl) p c b u h1 h2 h3 h4 => hi0 (b1m fm way (flS : Int) ⟨v, p, c⟩ rS b u W h1 h2 hn h3 RS h4)
   rw [show b0a ((fmt fm).strP ((fmt fm).encP rS.cls rS.neg rS.x)) = strR fm rS from rfl] at HTL
   clear hS RS h0
   generalize strR fm rS = str at *
   generalize fmt fm = f at *
   -- the lower bits
   obtain ⟨N1, hN1⟩ : ∃ N1 : Nat, (N1 : Int) = n % 4611686018427387904 := ⟨(n % 4611686018427387904).toNat, by omega⟩
   have HW := fun (m : Nat) (e : Int) (hm : m < 18446744073709551616) (he : 0 ≤ e ∧ e ≤ 62) W p c h1 h2 h3 => hi0 ((n0q m e) ▸ e0d p _ c e m W h1 rfl h2 (by have : (dig B32 m).length ≤ 2 := (a0e a0a _ 2).2 (by unfold B32; omega); omega) (by omega) h3)
   have HPL := fun (m k : Nat) (e : Int) (hm : m < 18446744073709551616) (hk : k < 18446744073709551616) (he : 0 ≤ e ∧ e ≤ 62) W p q c d b h1 h2 h3 h4 => hi0 (p0c (norm (m : Int) e) (norm (k : Int) 0) p q c d b W (f0w hm he).2 (f0w hk (by omega)).2 (f0w hm he).1 (f0w hk (by omega)).1 h1 h2 h3 h4)
   have HPR := fun (m k : Nat) (hm : m < 18446744073709551616) (hk : k < 18446744073709551616) W p q c d b h1 h2 h3 h4 => hi0 (p0c (norm (m : Int) 0) (norm (k : Int) 62) p q c d b W (f0w hm (by omega)).2 (f0w hk (by omega)).2 (f0w hm (by omega)).1 (f0w hk (by omega)).1 h1 h2 h3 h4)
   have hI : ∀ z : Int, norm z 0 = intD z := fun _ => rfl
   have eP : ∀ m : Nat, (m : Int) < 4611686018427387904 → (m : Int) = n → norm (m : Int) 0 = intD n := fun m _ h => by rw [h]; rfl
   have e2 : ∀ a b : Nat, (a : Int) * 2 + b = -n → b0y (e0p (norm (a : Int) 1) (norm (b : Int) 0)) = intD n := fun a b h => by
    have := l0v a b 1 0
    simp only [Int.natCast_one, Int.natCast_zero, Int.pow_succ, Int.pow_zero, Int.one_mul, Int.mul_one] at this
    rw [this, q0y, h, Int.neg_neg]
    rfl
   have e3 : ∀ m : Nat, (m : Int) + 4611686018427387904 = n → e0p (norm (m : Int) 0) (norm ((1 : Nat) : Int) 62) = intD n := fun m h => by
    have := l0v m 1 0 62
    simp only [Int.natCast_zero, Int.pow_zero, Int.mul_one] at this
    rw [show ((1 : Nat) : Int) = 1 from rfl, show (62 : Int) = ((62 : Nat) : Int) from rfl, this, show (m : Int) + 1 * 2 ^ 62 = n by omega]
    rfl
   have hN2 : (N1 : Int) < 4611686018427387904 ∧ 0 ≤ (N1 : Int) := by omega
   have HAND := hi0 ((g1x n).trans hN1.symm)
   have td : n < 0 → n.tdiv 2 = -((-n) / 2) ∧ n.tmod 2 = -((-n) % 2) := fun h => by
    have a1 := Int.neg_tdiv (-n) 2
    have a2 := Int.neg_tmod (-n) 2
    rw [Int.neg_neg] at a1 a2
    rw [a1, a2, Int.tdiv_eq_ediv_of_nonneg (by omega), Int.tmod_eq_emod_of_nonneg (by omega)]
    exact ⟨rfl, rfl⟩
   obtain ⟨qa, hqa⟩ : ∃ qa : Nat, n < 0 → (qa : Int) = -(n.tdiv 2) := ⟨(-(n.tdiv 2)).toNat, fun h => by have := td h; omega⟩
   obtain ⟨qb, hqb⟩ : ∃ qb : Nat, n < 0 → (qb : Int) = -(n.tmod 2) := ⟨(-(n.tmod 2)).toNat, fun h => by have := td h; omega⟩
   have hq3 : n < 0 → (qa : Int) * 2 + qb = -n := fun h => by have := hqa h; have := hqb h; have := td h; omega
   have I := Inv.start w [tabF] ⟨hT, True.intro⟩
   refine a0c [.v (.int .i64 n), .v (.int .i64 fm), .v (.int .i64 way)] I Tryd.func80 ?_
   refine zg I (fun Al W I => (HO W).out) fun Al V Iv _ hB _ kz => ?_
   rintro _ W ⟨u15, rfl, hge, hB, hb⟩
   refine ⟨_, rfl, kz _ _ hb fun I => ?_⟩
   refine f1e Iv hb 0 u15 153 [(.int .i64 fm), (.int .i64 way), (.int .i64 f.g.rad), (.int .i64 f.g.digs), (.int .i64 f.g.lo), (.int .i64 f.g.hi), (.bool f.g.grad), (.int .u8 (famB f)), (.int .i64 0)] hge hB fun Al hAl_15 I => ?_
   refine f1f I 16 0 u15 hAl_15 fun Al W I => ?_
   refine zbin I 22 _ (fun _ _ _ _ _ => w0a .i64 (n) (4611686018427387903) ((N1 : Int)) ((HAND.out))) fun Al W I => ?_
   refine zqo I (fun Al W I => have hzW := I.bel.size; sof (N1 : Int) N1 rfl (by omega) W) fun Al W p23 c23 I => ?_
   refine zqo I (fun Al W I => have hzW := I.bel.size; (HW N1 0 (by omega) (by omega) W p23 c23 I.fa.1.rd I.fa.1.le_cap I.fa.2.1).out) fun Al W p24 c24 I => ?_
   by_cases hneg : n < 0
   · refine zb I 26 (decide (n < 0)) (true) (dTr hneg) fun Al W I => ?_
     refine zbin I 28 _ (fun _ _ _ _ _ => q0h .i64 (n) (2) ((n.tdiv 2)) (by omega) ((by exact IntWalk.i64_in _ (by have := td hneg; omega)))) fun Al W I => ?_
     refine zi I 29 .i64 (0 - (n.tdiv 2)) (-(n.tdiv 2)) ((iwo).trans (by omega)) fun Al W I => ?_
     refine zqo I (fun Al W I => have hzW := I.bel.size; sof _ qa (by first | exact (hqa hneg).symm | omega) (by have := hqa hneg; have := td hneg; omega) W) fun Al W p30 c30 I => ?_
     refine zqo I (fun Al W I => have hzW := I.bel.size; (HW qa 1 (by have := hqa hneg; have := td hneg; omega) (by omega) W p30 c30 I.fa.1.rd I.fa.1.le_cap I.fa.2.2.2.1).out) fun Al W p31 c31 I => ?_
     refine zbin I 33 _ (fun _ _ _ _ _ => c1j .i64 (n) (2) ((n.tmod 2)) (by omega) (rfl)) fun Al W I => ?_
     refine zi I 34 .i64 (0 - (n.tmod 2)) (-(n.tmod 2)) ((iwo).trans (by omega)) fun Al W I => ?_
     refine zqo I (fun Al W I => have hzW := I.bel.size; sof _ qb (by first | exact (hqb hneg).symm | omega) (by have := hqb hneg; have := td hneg; omega) W) fun Al W p35 c35 I => ?_
     refine zqo I (fun Al W I => have hzW := I.bel.size; (HW qb 0 (by have := hqb hneg; have := td hneg; omega) (by omega) W p35 c35 I.fa.1.rd I.fa.1.le_cap I.fa.2.2.2.2.2.1).out) fun Al W p36 c36 I => ?_
     refine zqo I (fun Al W I => have hzW := I.bel.size; (HPL qa qb 1 (by have := hqa hneg; have := td hneg; omega) (by have := hqb hneg; have := td hneg; omega) (by omega) W p31 p36 c31 c36 _ I.fa.2.2.1 I.fa.1 I.fa.2.2.2.2.2.2.1 I.bel.size).out) fun Al W p37 c37 I => ?_
     refine zq I (fun Al W I => q0o (e0p (norm (qa : Int) 1) (norm (qb : Int) 0)).neg p37 _ c37 (e0p (norm (qa : Int) 1) (norm (qb : Int) 0)).e (e0p (norm (qa : Int) 1) (norm (qb : Int) 0)).m W rfl) fun Al W I => ?_
     refine zge I 0 153 (fun Al W I => (HNU _ (e2 qa qb (hq3 hneg)) W p37 c37 _ (I.box 0 153 _) I.fa.1.rd).out) fun Al V Iv _ _ kz => ?_
     rintro _ W ⟨v48, hR48, p48, c48, rfl, o48, hO, hB⟩
     refine ⟨_, rfl, kz _ (uS f fm way (flS : Int)) _ hO hB fun I => ?_⟩
     have I := I.own o48
     refine zq I (fun Al W I => (HTL W v48 p48 c48 _ _ (I.box 0 153 _) I.fa.1 hR48 I.fa.2.2.2.2.2.2.2.2.1).out) fun Al W I => ?_
     exact zrb I
   refine zb I 26 (decide (n < 0)) (false) (dFa hneg) fun Al W I => ?_
   by_cases hbig : n ≥ 4611686018427387904
   · refine zb I 40 (decide (n ≥ 4611686018427387904)) (true) (dTr hbig) fun Al W I => ?_
     refine zcut I none (fun fr bx gs => ∃ (U1 : Nat → Value) (p44 : Option Addr) (c44 : Nat), fr = (.v (.int .i64 n) :: .v (.int .i64 fm) :: .v (.int .i64 way) :: su 3 (.v (Go.Value.string (ByteArray.mk #[])) :: .v (.int .i64 0) :: .v (.int .i64 0) :: .p 0 0 :: .v (.int .i64 0) :: .p 1 0 :: sw U1 12 7 (.v (.bool false) :: sw U1 20 6 (.v (.bool false) :: sw U1 27 13 (.v (.bool true) :: sw U1 41 12 [])))) : List SV) ∧ bx = [⟨153, (uS f fm way 0), false⟩, ⟨87, [.v (.bool ((e0p (norm (N1 : Int) 0) (norm ((1 : Nat) : Int) 62)).neg)), .v (.slice p44 (dig B32 (e0p (norm (N1 : Int) 0) (norm ((1 : Nat) : Int) 62)).m).length c44), .v (.int .i64 ((e0p (norm (N1 : Int) 0) (norm ((1 : Nat) : Int) 62)).e))], false⟩] ∧ gs = [ownF w.heap.size .u32 76 p44 c44 (dig B32 (e0p (norm (N1 : Int) 0) (norm ((1 : Nat) : Int) 62)).m), ownF w.heap.size .u32 76 p24 c24 (dig B32 (norm (N1 : Int) 0).m), ownF w.heap.size .u32 76 p23 c23 (dig B32 N1), tabF]) ?_ ?_
     · intro J hJ Al W I
       refine zd [1] I fun Al W I => ?_
       refine zo2 0 1 I (fun I => ?_) (fun I => ?_)
       · refine zn I fun Al W I => ?_
         refine zo 1 I fun I => ?_
         refine zqo I (fun Al W I => e0e W) fun Al W p42 c42 I => ?_
         refine zo 2 I fun I => ?_
         refine zqo I (fun Al W I => have hzW := I.bel.size; (HW 1 62 (by omega) (by omega) W p42 c42 I.fa.1.rd I.fa.1.le_cap I.fa.2.2.2.1).out) fun Al W p43 c43 I => ?_
         refine zo 3 I fun I => ?_
         refine zqo I (fun Al W I => have hzW := I.bel.size; (HPR N1 1 (by omega) (by omega) W p24 p43 c24 c43 _ I.fa.2.2.1 I.fa.1 I.fa.2.2.2.2.1 I.bel.size).out) fun Al W p44 c44 I => ?_
         refine zo 4 I fun I => ?_
         refine zn I fun Al W I => ?_
         exact a0q I J fun Al W U I => hJ _ _ _ _ _ ⟨U, p44, c44, rfl, rfl, rfl⟩ (I.pick [0, 3, 4, 5])
       refine zqo I (fun Al W I => e0e W) fun Al W p42 c42 I => ?_
       refine zo2 0 2 I (fun I => ?_) (fun I => ?_)
       · refine zn I fun Al W I => ?_
         refine zo 2 I fun I => ?_
         refine zqo I (fun Al W I => have hzW := I.bel.size; (HW 1 62 (by omega) (by omega) W p42 c42 I.fa.1.rd I.fa.1.le_cap I.fa.2.2.2.1).out) fun Al W p43 c43 I => ?_
         refine zo 3 I fun I => ?_
         refine zqo I (fun Al W I => have hzW := I.bel.size; (HPR N1 1 (by omega) (by omega) W p24 p43 c24 c43 _ I.fa.2.2.1 I.fa.1 I.fa.2.2.2.2.1 I.bel.size).out) fun Al W p44 c44 I => ?_
         refine zo 4 I fun I => ?_
         refine zn I fun Al W I => ?_
         exact a0q I J fun Al W U I => hJ _ _ _ _ _ ⟨U, p44, c44, rfl, rfl, rfl⟩ (I.pick [0, 3, 4, 5])
       refine zqo I (fun Al W I => have hzW := I.bel.size; (HW 1 62 (by omega) (by omega) W p42 c42 I.fa.1.rd I.fa.1.le_cap I.fa.2.2.2.1).out) fun Al W p43 c43 I => ?_
       refine zo 0 I fun I => ?_
       refine zn I fun Al W I => ?_
       refine zo 3 I fun I => ?_
       refine zqo I (fun Al W I => have hzW := I.bel.size; (HPR N1 1 (by omega) (by omega) W p24 p43 c24 c43 _ I.fa.2.2.1 I.fa.1 I.fa.2.2.2.2.1 I.bel.size).out) fun Al W p44 c44 I => ?_
       refine zo 4 I fun I => ?_
       refine zn I fun Al W I => ?_
       exact a0q I J fun Al W U I => hJ _ _ _ _ _ ⟨U, p44, c44, rfl, rfl, rfl⟩ (I.pick [0, 3, 4, 5])
     rintro _ _ _ ⟨U1, p44, c44, rfl, rfl, rfl⟩ Al W I
     refine zge I 0 153 (fun Al W I => have hzW := I.bel.size; (HNU _ (e3 N1 (by omega)) W p44 c44 _ (I.box 0 153 _) I.fa.1.rd).out) fun Al V Iv _ _ kz => ?_
     rintro _ W ⟨v48, hR48, p48, c48, rfl, o48, hO, hB⟩
     refine ⟨_, rfl, kz _ (uS f fm way (flS : Int)) _ hO hB fun I => ?_⟩
     have I := I.own o48
     refine zq I (fun Al W I => (HTL W v48 p48 c48 _ _ (I.box 0 153 _) I.fa.1 hR48 I.fa.2.2.2.2.1).out) fun Al W I => ?_
     exact zrb I
   refine zb I 40 (decide (n ≥ 4611686018427387904)) (false) (dFa hbig) fun Al W I => ?_
   refine zge I 0 153 (fun Al W I => have hzW := I.bel.size; (HNU _ (eP N1 (by omega) (by omega)) W p24 c24 _ (I.box 0 153 _) I.fa.1.rd).out) fun Al V Iv _ _ kz => ?_
   rintro _ W ⟨v48, hR48, p48, c48, rfl, o48, hO, hB⟩
   refine ⟨_, rfl, kz _ (uS f fm way (flS : Int)) _ hO hB fun I => ?_⟩
   have I := I.own o48
   refine zq I (fun Al W I => (HTL W v48 p48 c48 _ _ (I.box 0 153 _) I.fa.1 hR48 I.fa.2.2.2.1).out) fun Al W I => ?_
   exact zrb I
 · have h0 : errR fm way [] = 6 := by
    unfold errR
    by_cases hn : IsFm fm
    · rw [if_pos hn, if_pos (show errL fm [] = 0 from rfl), if_neg (fun h => hok ⟨hn, h⟩)]
    · rw [if_neg hn]
   simp only [h0, show ((6 : Int) = 0) = False by simp, if_false]
   have HO := fun W => hi0 (n0o fm way W hok)
   have I := Inv.start w [] True.intro
   refine a0c [.v (.int .i64 n), .v (.int .i64 fm), .v (.int .i64 way)] I Tryd.func80 ?_
   refine zq I (fun Al W I => (HO W).out) fun Al W I => ?_
   exact zrb I
def t0w (v : Nat) (neg : Bool) : Int × Bool := if v < 9223372036854775808 then (if neg = true then -(v : Int) else v, true) else (-9223372036854775808, neg && decide (v = 9223372036854775808))
theorem d1w {v i : Nat} (hi : i < 2) : bits .or .u64 (((v % B32 ^ i : Nat) : Int)) (((v / B32 ^ i % B32 * 2 ^ (32 * i) : Nat)) : Int) = ((v % B32 ^ (i + 1) : Nat) : Int) := by
 have hB : B32 = 4294967296 := rfl
 have hx : v / B32 ^ i % B32 < B32 := Nat.mod_lt _ (by unfold B32; omega)
 rcases (show i = 0 ∨ i = 1 by omega) with rfl | rfl
 · simp only [Nat.pow_zero, Nat.mod_one, Nat.div_one, Nat.mul_zero, Nat.mul_one, Nat.zero_add, Nat.pow_one]
   rw [u64_or_nat 0 (v % B32) (by omega) (by rw [hB]; omega), Nat.zero_or]
 · simp only [Nat.pow_one, Nat.mul_one]
   have h1 : v % B32 < 4294967296 := by rw [hB]; omega
   have h2 : v / B32 % B32 * 2 ^ 32 < 18446744073709551616 := by rw [hB]; omega
   rw [u64_or_nat _ _ (by omega) h2, Nat.or_comm, nat_join 32 (v / B32 % B32 * 2 ^ 32) (v % B32) (by omega) (by omega)]
   have : v % B32 ^ (1 + 1) = v % B32 + B32 * (v / B32 % B32) := by
    rw [show (1 + 1) = 2 from rfl, Nat.pow_two, Nat.mod_mul]
   rw [this, hB]
   omega
theorem d1x {v i : Nat} : dg (dig B32 v) i = v / B32 ^ i % B32 := f1w a0a v i
theorem r0a (p : Option Addr) (c : Nat) (v : Nat) (neg : Bool) (w : World) (hp : Rd w .u32 p (dig B32 v)) (hv : v < 18446744073709551616) :
 Calls Tryd.prog 133 #[.slice p (dig B32 v).length c, .bool neg] w fun en w' => en = .returned (.tuple #[.int .i64 (t0w v neg).1, .bool (t0w v neg).2]) ∧ Below w.heap.size w w' := by
 have hl : (dig B32 v).length ≤ 2 := (a0e a0a _ 2).2 (by unfold B32; omega)
 have HL := fun W h => hi0 (stay (e0k p _ c v W h rfl (by omega)))
 have hbl : blen v < 64 ↔ v < 9223372036854775808 := by
  have := a0x v 63
  omega
 have hfull : v % B32 ^ (dig B32 v).length = v := Nat.mod_eq_of_lt ((a0e a0a v _).1 (Nat.le_refl _))
 have hstep : ∀ i, i < (dig B32 v).length → bits .or .u64 (((v % B32 ^ i : Nat) : Int)) (((dg (dig B32 v) i * 2 ^ (32 * i) : Nat)) : Int) = ((v % B32 ^ (i + 1) : Nat) : Int) := fun i h => by rw [d1x]; exact d1w (by omega)
 have hsh : ∀ i, i < (dig B32 v).length → IntKind.u64.wrap (((dg (dig B32 v) i : Nat) : Int) * 2 ^ (min (32 * (i : Int)).toNat IntKind.u64.bits)) = ((dg (dig B32 v) i * 2 ^ (32 * i) : Nat) : Int) := fun i h => by
  have hx : dg (dig B32 v) i < 4294967296 := by rw [d1x]; exact Nat.mod_lt _ (by unfold B32; omega)
  rcases (show i = 0 ∨ i = 1 by omega) with rfl | rfl
  · simp only [Nat.mul_zero, Nat.pow_zero, Nat.mul_one]
    rw [show min (32 * ((0 : Nat) : Int)).toNat IntKind.u64.bits = 0 from rfl, Int.pow_zero, Int.mul_one]
    exact IntWalk.u64_in _ (by omega)
  · rw [show min (32 * ((1 : Nat) : Int)).toNat IntKind.u64.bits = 32 from rfl, Nat.mul_one]
    rw [IntWalk.u64_in _ (by omega)]
    simp
 have HU : ∀ X : Int, 0 ≤ X → X < 9223372036854775808 → IntKind.i64.wrap X = X := fun X h1 h2 => iwo
 have hM : t0w v neg = if v < 9223372036854775808 then (if neg = true then -(v : Int) else v, true) else (-9223372036854775808, neg && decide (v = 9223372036854775808)) := rfl
 have hdg : ∀ i, dg (dig B32 v) i < 4294967296 := fun i => by rw [d1x]; exact Nat.mod_lt _ (by unfold B32; omega)
 generalize blen v = bl at *
 have I := Inv.start w [rdF .u32 p (dig B32 v)] ⟨hp, True.intro⟩
 refine a0c [.v (.slice p (dig B32 v).length c), .v (.bool neg)] I Tryd.func133 ?_
 refine e1w I (fun gk fr bx gs => ∃ (U900 : Nat → Value) (i : Nat) (u : Nat), fr = (.v (.slice p (dig B32 v).length c) :: .v (.bool neg) :: su 2 (.v (.int .i64 0) :: .v (.bool false) :: .v (.int .u64 (u : Int)) :: sw U900 7 2 (.v (.slice p (dig B32 v).length c) :: .v (.int .i64 (((dig B32 v).length : Nat) : Int)) :: .v (.int .i64 (i : Int)) :: sw U900 12 12 (.v undef :: sw U900 25 9 (.v undef :: sw U900 35 10 [])))) : List SV) ∧ bx = [] ∧ gs = [rdF .u32 p (dig B32 v)] ∧ (u = v % B32 ^ i) ∧ (gk + i = (dig B32 v).length)) ((dig B32 v).length) (fun Al W U I => ⟨_, ⟨U, 0, 0, rfl, rfl, rfl, (by rw [Nat.pow_zero, Nat.mod_one]), (by omega)⟩, I.pick [0]⟩) ?_
 rintro J gk0 _ _ _ ⟨U900, i, u, rfl, rfl, rfl, hu, hgk⟩ hJ Al W I
 rcases Bool.eq_false_or_eq_true (decide ((i : Int) < (((dig B32 v).length : Nat) : Int))) with f12 | f12
 · refine zb I 12 (decide ((i : Int) < (((dig B32 v).length : Nat) : Int))) (true) (f12) fun Al W I => ?_
   refine zx I 14 (fun _ => .pointer (some (at_ p i))) (fun Al W I => (b1c (m := i) (n := (dig B32 v).length) (c := c) f1q I.fa.1.solid (by have := oTr f12; omega))) fun Al W I => ?_
   refine zx I 15 (fun _ => .int .u32 ((dg (dig B32 v) i : Nat) : Int)) (fun Al W I => (b1h I.fa.1 f1r (by have := oTr f12; omega))) fun Al W I => ?_
   refine zi I 18 .u64 ((dg (dig B32 v) i : Nat) : Int) (((dg (dig B32 v) i : Nat) : Int)) ((by exact IntWalk.u64_in _ (by have := hdg i; omega))) fun Al W I => ?_
   refine zi I 20 .i64 ((32 : Int) * (i : Int)) ((32 : Int) * (i : Int)) (iwo) fun Al W I => ?_
   refine zbin I 21 _ (fun _ _ _ _ _ => b0u .u64 (((dg (dig B32 v) i : Nat) : Int)) .i64 ((32 : Int) * (i : Int)) (((dg (dig B32 v) i * 2 ^ (32 * i) : Nat) : Int)) (by omega) ((hsh i (by have := oTr f12; omega)))) fun Al W I => ?_
   refine zbin I 22 _ (fun _ _ _ _ _ => b1b .u64 (u : Int) (((dg (dig B32 v) i * 2 ^ (32 * i) : Nat) : Int)) (((v % B32 ^ (i + 1) : Nat) : Int)) ((by rw [hu]; exact hstep i (by have := oTr f12; omega)))) fun Al W I => ?_
   refine zi I 23 .i64 ((i : Int) + 1) ((i : Int) + 1) (iwo) fun Al W I => ?_
   exact a0q I J fun Al W U I => hJ (gk0 - 1) _ _ _ _ _ ((by have := oTr f12; omega)) ⟨U, i + 1, v % B32 ^ (i + 1), rfl, rfl, rfl, rfl, (by have := oTr f12; omega)⟩ (I.pick [0])
 refine zb I 12 (decide ((i : Int) < (((dig B32 v).length : Nat) : Int))) (false) (f12) fun Al W I => ?_
 by_cases hs : v < 9223372036854775808
 · by_cases ng : neg = true
   · have hi : i = (dig B32 v).length := by have := oFa f12; omega
     rw [hi, hfull] at hu
     refine zq I (fun Al W I => (HL W I.fa.1).out) fun Al W I => ?_
     refine zb I 27 (decide ((bl : Int) < 64)) (true) (dTr (by omega)) fun Al W I => ?_
     refine zb I 29 (neg) (true) (ng) fun Al W I => ?_
     refine zi I 32 .i64 (u : Int) (u : Int) (iwo) fun Al W I => ?_
     refine zi I 33 .i64 (0 - (u : Int)) (-(u : Int)) ((iwo).trans (by omega)) fun Al W I => ?_
     exact zret I (v := fun Al => .tuple #[.int .i64 (-(u : Int)), .bool true]) fun Al W I => ⟨by rw [hM, if_pos hs, if_pos ng, hu], I.below⟩
   have hi : i = (dig B32 v).length := by have := oFa f12; omega
   rw [hi, hfull] at hu
   refine zq I (fun Al W I => (HL W I.fa.1).out) fun Al W I => ?_
   refine zb I 27 (decide ((bl : Int) < 64)) (true) (dTr (by omega)) fun Al W I => ?_
   refine zb I 29 (neg) (false) ((by simpa using ng)) fun Al W I => ?_
   refine zq I (fun Al W I => (HL W I.fa.1).out) fun Al W I => ?_
   refine zb I 37 (decide ((bl : Int) < 64)) (true) (dTr (by omega)) fun Al W I => ?_
   refine zi I 39 .i64 (u : Int) (u : Int) (iwo) fun Al W I => ?_
   exact zret I (v := fun Al => .tuple #[.int .i64 (u : Int), .bool true]) fun Al W I => ⟨by rw [hM, if_pos hs, if_neg ng, hu], I.below⟩
 by_cases ng : neg = true
 · have hi : i = (dig B32 v).length := by have := oFa f12; omega
   rw [hi, hfull] at hu
   refine zq I (fun Al W I => (HL W I.fa.1).out) fun Al W I => ?_
   refine zb I 27 (decide ((bl : Int) < 64)) (false) (dFa (by omega)) fun Al W I => ?_
   refine zq I (fun Al W I => (HL W I.fa.1).out) fun Al W I => ?_
   refine zb I 37 (decide ((bl : Int) < 64)) (false) (dFa (by omega)) fun Al W I => ?_
   refine zb I 41 (neg) (true) (ng) fun Al W I => ?_
   exact zret I (v := fun Al => .tuple #[.int .i64 (-9223372036854775808), .bool ((u : Int) == 9223372036854775808)]) fun Al W I => ⟨by rw [hM, if_neg hs, ng, Bool.true_and, hu]; exact congrArg (fun b => Ending.returned (.tuple #[.int .i64 (-9223372036854775808), .bool b])) (Bool.eq_iff_iff.2 (by simp; omega)), I.below⟩
 have hi : i = (dig B32 v).length := by have := oFa f12; omega
 rw [hi, hfull] at hu
 refine zq I (fun Al W I => (HL W I.fa.1).out) fun Al W I => ?_
 refine zb I 27 (decide ((bl : Int) < 64)) (false) (dFa (by omega)) fun Al W I => ?_
 refine zq I (fun Al W I => (HL W I.fa.1).out) fun Al W I => ?_
 refine zb I 37 (decide ((bl : Int) < 64)) (false) (dFa (by omega)) fun Al W I => ?_
 refine zb I 41 (neg) (false) ((by simpa using ng)) fun Al W I => ?_
 exact zret I (v := fun Al => .tuple #[.int .i64 (-9223372036854775808), .bool false]) fun Al W I => ⟨by rw [hM, if_neg hs, show neg = false by simpa using ng]; rfl, I.below⟩
def g0n : Gd := ⟨2, 64, 0, 0, true⟩
theorem p0e : e0v g0n := ⟨.inl rfl, by decide, by decide, by decide, by decide, by decide, by decide, by decide⟩
def x0u (x : Dv) (way : Int) : Int × Nat :=
 if (t0w (a0j x.neg x.m 1 x.e g0n way).d (a0j x.neg x.m 1 x.e g0n way).neg).2 = true ∧ (a0j x.neg x.m 1 x.e g0n way).over = false then
  ((t0w (a0j x.neg x.m 1 x.e g0n way).d (a0j x.neg x.m 1 x.e g0n way).neg).1, if (a0j x.neg x.m 1 x.e g0n way).exact = true then 0 else 1) else (0, 16)
def p0f (r : Vr) (way : Int) : Int × Nat := if r.cls = 1 then (0, 0) else if r.cls ≠ 2 then (0, 16) else x0u r.x way
def x0v (n way : Int) (s : ByteArray) (w : World) (en : Ending) (w' : World) : Prop :=
 en = .returned (.tuple #[.int .i64 (if errR n way [s] = 0 then (p0f (refD n s) way).1 else 0), .int .i64 (if errR n way [s] = 0 then ((p0f (refD n s) way).2 : Int) else 0), .int .i64 (errR n way [s])]) ∧ Below w.heap.size w w'
theorem x0w (n way : Int) (s : ByteArray) (w : World) (hT : TabW w) : Calls Tryd.prog 81 #[.int .i64 n, .string s, .int .i64 way] w (x0v n way s w) := by
 unfold x0v
 have HD := fun W h => hi0 (g0c n s W h)
 by_cases hp : a0v n s = 0
 · have hn := (c0r.1 hp).1
   have hL : errL n [s] = 0 := by unfold errL errL; simp [hp]
   rw [hp] at HD
   by_cases hw : 1 ≤ way ∧ way ≤ 5
   · have h0 : errR n way [s] = 0 := by unfold errR; rw [if_pos hn, if_pos hL, if_pos hw]
     simp only [h0, if_true]
     have HO := fun W => hi0 (q0w n way W hn hw)
     have F := q0x (s := s) hn
     have V := i0x hp
     have HX := fun W p c b h1 h2 => hi0 (s0n n (decP n s) (refD n s) p c b W hn h1 V F.ok h2)
     have hcl := V.cls
     have hc := F.ok.c
     have hx2 := F.ok.x2
     have sm := F.ok.sm
     have hT0 : p0f (refD n s) way = if (refD n s).cls = 1 then (0, 0) else if (refD n s).cls ≠ 2 then (0, 16) else x0u (refD n s).x way := rfl
     generalize p0f (refD n s) way = TT at *
     generalize decP n s = v at *
     generalize refD n s = r at *
     generalize fmt n = f at *
     have s1 := sm.len
     have s2 := sm.lo
     have s3 := sm.hi
     have d1 : (dig B32 1).length ≤ 1 := by rw [o0s a0a (by omega) (by unfold B32; omega)]; simp
     have HF := fun (h : r.cls = 2) W p q c d h1 h2 => hi0 (p0b r.x.neg p q c d r.x.m 1 r.x.e g0n way W h1 h2 (by omega) (by omega) (by have := (hx2 h).1; omega) (by omega) (by omega) p0e hw.1 hw.2)
     have hlt : r.cls = 2 → (a0j r.x.neg r.x.m 1 r.x.e g0n way).d < 18446744073709551616 := fun h => by
      have h0 := (hx2 h).1
      unfold a0j
      rw [if_neg h0]
      exact s0b (show 0 < 1 by omega) p0e (i0g (by omega) (by omega) _ (a0r _).1 (by decide))
     unfold x0u at hT0
     generalize a0j r.x.neg r.x.m 1 r.x.e g0n way = P at *
     have HMa := fun (h : r.cls = 2) W p c h1 => hi0 (r0a p c P.d P.neg W h1 (hlt h))
     obtain ⟨mi, mb, hm⟩ : ∃ mi mb, t0w P.d P.neg = (mi, mb) := ⟨_, _, rfl⟩
     rw [hm] at HMa hT0
     simp only at HMa hT0
     clear hm hlt F V sm
     have I := Inv.start w [tabF] ⟨hT, True.intro⟩
     refine a0c [.v (.int .i64 n), .v (.string s), .v (.int .i64 way)] I Tryd.func81 ?_
     refine zqo I (fun Al W I => (HD W I.fa.1).out) fun Al W p22 c22 I => ?_
     refine zg I (fun Al W I => (HO W).out) fun Al V Iv _ hB _ kz => ?_
     rintro _ W ⟨u31, rfl, hge, hB, hb⟩
     refine ⟨_, rfl, kz _ _ hb fun I => ?_⟩
     by_cases h1 : r.cls = 1
     · refine zb I 39 ((v.cls : Int) == 1) (true) (dTr (by omega)) fun Al W I => ?_
       refine zret I (v := fun Al => .tuple #[.int .i64 0, .int .i64 0, .int .i64 0]) fun Al W I => ?_
       first | exact ⟨by rw [hT0, if_pos h1]; rfl, I.below⟩ | exact ⟨by rw [hT0, if_neg h1, if_pos h2]; rfl, I.below⟩ | exact ⟨by rw [hT0, if_neg h1, if_neg (by omega), if_neg (fun h => hmb h.1)]; rfl, I.below⟩ | exact ⟨by rw [hT0, if_neg h1, if_neg (by omega), if_neg (fun h => absurd (h.2.symm.trans hov) (by decide))]; rfl, I.below⟩ | exact ⟨by rw [hT0, if_neg h1, if_neg (by omega), if_pos ⟨hmb, by simpa using hov⟩, if_pos hex]; rfl, I.below⟩ | exact ⟨by rw [hT0, if_neg h1, if_neg (by omega), if_pos ⟨hmb, by simpa using hov⟩, if_neg hex]; rfl, I.below⟩
     refine zb I 39 ((v.cls : Int) == 1) (false) (dFa (by omega)) fun Al W I => ?_
     by_cases h2 : r.cls = 2
     · refine zb I 42 ((v.cls : Int) != 2) (false) (bne_eq_false_iff_eq.2 (by omega)) fun Al W I => ?_
       refine zqo I (fun Al W I => (HX W p22 c22 _ I.fa.1 I.fa.2.1).out) fun Al W p45 c45 I => ?_
       refine zd [] I fun Al W I => ?_
       refine zk [0, 1, 2, 3, 4, 5, 7, 8, 9, 11, 12] I fun I => ?_
       refine zo2 6 14 I (fun I => ?_) (fun I => ?_)
       · refine zqo I (fun Al W I => e0e W) fun Al W p53 c53 I => ?_
         refine zk [10] I fun I => ?_
         refine zo2 13 14 I (fun I => ?_) (fun I => ?_)
         · refine zqo I (fun Al W I => (HF h2 W p45 p53 c45 c53 I.fa.2.1.rd I.fa.1.rd).out) fun Al W p60 c60 I => ?_
           refine zo 14 I fun I => ?_
           refine zn I fun Al W I => ?_
           refine zo 15 I fun I => ?_
           refine zn I fun Al W I => ?_
           refine zq I (fun Al W I => (HMa h2 W p60 c60 I.fa.1.rd).out) fun Al W I => ?_
           by_cases hmb : mb = true
           · by_cases hov : P.over = true
             · refine zb I 70 (mb) (true) (hmb) fun Al W I => ?_
               refine zb I 72 (P.over) (true) (hov) fun Al W I => ?_
               refine zret I (v := fun Al => .tuple #[.int .i64 0, .int .i64 16, .int .i64 0]) fun Al W I => ?_
               first | exact ⟨by rw [hT0, if_pos h1]; rfl, I.below⟩ | exact ⟨by rw [hT0, if_neg h1, if_pos h2]; rfl, I.below⟩ | exact ⟨by rw [hT0, if_neg h1, if_neg (by omega), if_neg (fun h => hmb h.1)]; rfl, I.below⟩ | exact ⟨by rw [hT0, if_neg h1, if_neg (by omega), if_neg (fun h => absurd (h.2.symm.trans hov) (by decide))]; rfl, I.below⟩ | exact ⟨by rw [hT0, if_neg h1, if_neg (by omega), if_pos ⟨hmb, by simpa using hov⟩, if_pos hex]; rfl, I.below⟩ | exact ⟨by rw [hT0, if_neg h1, if_neg (by omega), if_pos ⟨hmb, by simpa using hov⟩, if_neg hex]; rfl, I.below⟩
             refine zb I 70 (mb) (true) (hmb) fun Al W I => ?_
             refine zb I 72 (P.over) (false) ((by simpa using hov)) fun Al W I => ?_
             by_cases hex : P.exact = true
             · refine zb I 76 (P.exact) (true) (hex) fun Al W I => ?_
               refine zret I (v := fun Al => .tuple #[.int .i64 mi, .int .i64 0, .int .i64 0]) fun Al W I => ?_
               first | exact ⟨by rw [hT0, if_pos h1]; rfl, I.below⟩ | exact ⟨by rw [hT0, if_neg h1, if_pos h2]; rfl, I.below⟩ | exact ⟨by rw [hT0, if_neg h1, if_neg (by omega), if_neg (fun h => hmb h.1)]; rfl, I.below⟩ | exact ⟨by rw [hT0, if_neg h1, if_neg (by omega), if_neg (fun h => absurd (h.2.symm.trans hov) (by decide))]; rfl, I.below⟩ | exact ⟨by rw [hT0, if_neg h1, if_neg (by omega), if_pos ⟨hmb, by simpa using hov⟩, if_pos hex]; rfl, I.below⟩ | exact ⟨by rw [hT0, if_neg h1, if_neg (by omega), if_pos ⟨hmb, by simpa using hov⟩, if_neg hex]; rfl, I.below⟩
             refine zb I 76 (P.exact) (false) ((by simpa using hex)) fun Al W I => ?_
             refine zret I (v := fun Al => .tuple #[.int .i64 mi, .int .i64 1, .int .i64 0]) fun Al W I => ?_
             first | exact ⟨by rw [hT0, if_pos h1]; rfl, I.below⟩ | exact ⟨by rw [hT0, if_neg h1, if_pos h2]; rfl, I.below⟩ | exact ⟨by rw [hT0, if_neg h1, if_neg (by omega), if_neg (fun h => hmb h.1)]; rfl, I.below⟩ | exact ⟨by rw [hT0, if_neg h1, if_neg (by omega), if_neg (fun h => absurd (h.2.symm.trans hov) (by decide))]; rfl, I.below⟩ | exact ⟨by rw [hT0, if_neg h1, if_neg (by omega), if_pos ⟨hmb, by simpa using hov⟩, if_pos hex]; rfl, I.below⟩ | exact ⟨by rw [hT0, if_neg h1, if_neg (by omega), if_pos ⟨hmb, by simpa using hov⟩, if_neg hex]; rfl, I.below⟩
           by_cases hov : P.over = true
           · refine zb I 70 (mb) (false) ((by simpa using hmb)) fun Al W I => ?_
             refine zret I (v := fun Al => .tuple #[.int .i64 0, .int .i64 16, .int .i64 0]) fun Al W I => ?_
             first | exact ⟨by rw [hT0, if_pos h1]; rfl, I.below⟩ | exact ⟨by rw [hT0, if_neg h1, if_pos h2]; rfl, I.below⟩ | exact ⟨by rw [hT0, if_neg h1, if_neg (by omega), if_neg (fun h => hmb h.1)]; rfl, I.below⟩ | exact ⟨by rw [hT0, if_neg h1, if_neg (by omega), if_neg (fun h => absurd (h.2.symm.trans hov) (by decide))]; rfl, I.below⟩ | exact ⟨by rw [hT0, if_neg h1, if_neg (by omega), if_pos ⟨hmb, by simpa using hov⟩, if_pos hex]; rfl, I.below⟩ | exact ⟨by rw [hT0, if_neg h1, if_neg (by omega), if_pos ⟨hmb, by simpa using hov⟩, if_neg hex]; rfl, I.below⟩
           refine zb I 70 (mb) (false) ((by simpa using hmb)) fun Al W I => ?_
           refine zret I (v := fun Al => .tuple #[.int .i64 0, .int .i64 16, .int .i64 0]) fun Al W I => ?_
           first | exact ⟨by rw [hT0, if_pos h1]; rfl, I.below⟩ | exact ⟨by rw [hT0, if_neg h1, if_pos h2]; rfl, I.below⟩ | exact ⟨by rw [hT0, if_neg h1, if_neg (by omega), if_neg (fun h => hmb h.1)]; rfl, I.below⟩ | exact ⟨by rw [hT0, if_neg h1, if_neg (by omega), if_neg (fun h => absurd (h.2.symm.trans hov) (by decide))]; rfl, I.below⟩ | exact ⟨by rw [hT0, if_neg h1, if_neg (by omega), if_pos ⟨hmb, by simpa using hov⟩, if_pos hex]; rfl, I.below⟩ | exact ⟨by rw [hT0, if_neg h1, if_neg (by omega), if_pos ⟨hmb, by simpa using hov⟩, if_neg hex]; rfl, I.below⟩
         refine zn I fun Al W I => ?_
         refine zo 13 I fun I => ?_
         refine zqo I (fun Al W I => (HF h2 W p45 p53 c45 c53 I.fa.2.1.rd I.fa.1.rd).out) fun Al W p60 c60 I => ?_
         refine zo 15 I fun I => ?_
         refine zn I fun Al W I => ?_
         refine zq I (fun Al W I => (HMa h2 W p60 c60 I.fa.1.rd).out) fun Al W I => ?_
         by_cases hmb : mb = true
         · by_cases hov : P.over = true
           · refine zb I 70 (mb) (true) (hmb) fun Al W I => ?_
             refine zb I 72 (P.over) (true) (hov) fun Al W I => ?_
             refine zret I (v := fun Al => .tuple #[.int .i64 0, .int .i64 16, .int .i64 0]) fun Al W I => ?_
             first | exact ⟨by rw [hT0, if_pos h1]; rfl, I.below⟩ | exact ⟨by rw [hT0, if_neg h1, if_pos h2]; rfl, I.below⟩ | exact ⟨by rw [hT0, if_neg h1, if_neg (by omega), if_neg (fun h => hmb h.1)]; rfl, I.below⟩ | exact ⟨by rw [hT0, if_neg h1, if_neg (by omega), if_neg (fun h => absurd (h.2.symm.trans hov) (by decide))]; rfl, I.below⟩ | exact ⟨by rw [hT0, if_neg h1, if_neg (by omega), if_pos ⟨hmb, by simpa using hov⟩, if_pos hex]; rfl, I.below⟩ | exact ⟨by rw [hT0, if_neg h1, if_neg (by omega), if_pos ⟨hmb, by simpa using hov⟩, if_neg hex]; rfl, I.below⟩
           refine zb I 70 (mb) (true) (hmb) fun Al W I => ?_
           refine zb I 72 (P.over) (false) ((by simpa using hov)) fun Al W I => ?_
           by_cases hex : P.exact = true
           · refine zb I 76 (P.exact) (true) (hex) fun Al W I => ?_
             refine zret I (v := fun Al => .tuple #[.int .i64 mi, .int .i64 0, .int .i64 0]) fun Al W I => ?_
             first | exact ⟨by rw [hT0, if_pos h1]; rfl, I.below⟩ | exact ⟨by rw [hT0, if_neg h1, if_pos h2]; rfl, I.below⟩ | exact ⟨by rw [hT0, if_neg h1, if_neg (by omega), if_neg (fun h => hmb h.1)]; rfl, I.below⟩ | exact ⟨by rw [hT0, if_neg h1, if_neg (by omega), if_neg (fun h => absurd (h.2.symm.trans hov) (by decide))]; rfl, I.below⟩ | exact ⟨by rw [hT0, if_neg h1, if_neg (by omega), if_pos ⟨hmb, by simpa using hov⟩, if_pos hex]; rfl, I.below⟩ | exact ⟨by rw [hT0, if_neg h1, if_neg (by omega), if_pos ⟨hmb, by simpa using hov⟩, if_neg hex]; rfl, I.below⟩
           refine zb I 76 (P.exact) (false) ((by simpa using hex)) fun Al W I => ?_
           refine zret I (v := fun Al => .tuple #[.int .i64 mi, .int .i64 1, .int .i64 0]) fun Al W I => ?_
           first | exact ⟨by rw [hT0, if_pos h1]; rfl, I.below⟩ | exact ⟨by rw [hT0, if_neg h1, if_pos h2]; rfl, I.below⟩ | exact ⟨by rw [hT0, if_neg h1, if_neg (by omega), if_neg (fun h => hmb h.1)]; rfl, I.below⟩ | exact ⟨by rw [hT0, if_neg h1, if_neg (by omega), if_neg (fun h => absurd (h.2.symm.trans hov) (by decide))]; rfl, I.below⟩ | exact ⟨by rw [hT0, if_neg h1, if_neg (by omega), if_pos ⟨hmb, by simpa using hov⟩, if_pos hex]; rfl, I.below⟩ | exact ⟨by rw [hT0, if_neg h1, if_neg (by omega), if_pos ⟨hmb, by simpa using hov⟩, if_neg hex]; rfl, I.below⟩
         by_cases hov : P.over = true
         · refine zb I 70 (mb) (false) ((by simpa using hmb)) fun Al W I => ?_
           refine zret I (v := fun Al => .tuple #[.int .i64 0, .int .i64 16, .int .i64 0]) fun Al W I => ?_
           first | exact ⟨by rw [hT0, if_pos h1]; rfl, I.below⟩ | exact ⟨by rw [hT0, if_neg h1, if_pos h2]; rfl, I.below⟩ | exact ⟨by rw [hT0, if_neg h1, if_neg (by omega), if_neg (fun h => hmb h.1)]; rfl, I.below⟩ | exact ⟨by rw [hT0, if_neg h1, if_neg (by omega), if_neg (fun h => absurd (h.2.symm.trans hov) (by decide))]; rfl, I.below⟩ | exact ⟨by rw [hT0, if_neg h1, if_neg (by omega), if_pos ⟨hmb, by simpa using hov⟩, if_pos hex]; rfl, I.below⟩ | exact ⟨by rw [hT0, if_neg h1, if_neg (by omega), if_pos ⟨hmb, by simpa using hov⟩, if_neg hex]; rfl, I.below⟩
         refine zb I 70 (mb) (false) ((by simpa using hmb)) fun Al W I => ?_
         refine zret I (v := fun Al => .tuple #[.int .i64 0, .int .i64 16, .int .i64 0]) fun Al W I => ?_
         first | exact ⟨by rw [hT0, if_pos h1]; rfl, I.below⟩ | exact ⟨by rw [hT0, if_neg h1, if_pos h2]; rfl, I.below⟩ | exact ⟨by rw [hT0, if_neg h1, if_neg (by omega), if_neg (fun h => hmb h.1)]; rfl, I.below⟩ | exact ⟨by rw [hT0, if_neg h1, if_neg (by omega), if_neg (fun h => absurd (h.2.symm.trans hov) (by decide))]; rfl, I.below⟩ | exact ⟨by rw [hT0, if_neg h1, if_neg (by omega), if_pos ⟨hmb, by simpa using hov⟩, if_pos hex]; rfl, I.below⟩ | exact ⟨by rw [hT0, if_neg h1, if_neg (by omega), if_pos ⟨hmb, by simpa using hov⟩, if_neg hex]; rfl, I.below⟩
       refine zn I fun Al W I => ?_
       refine zo 6 I fun I => ?_
       refine zqo I (fun Al W I => e0e W) fun Al W p53 c53 I => ?_
       refine zk [10] I fun I => ?_
       refine zo 13 I fun I => ?_
       refine zqo I (fun Al W I => (HF h2 W p45 p53 c45 c53 I.fa.2.1.rd I.fa.1.rd).out) fun Al W p60 c60 I => ?_
       refine zo 15 I fun I => ?_
       refine zn I fun Al W I => ?_
       refine zq I (fun Al W I => (HMa h2 W p60 c60 I.fa.1.rd).out) fun Al W I => ?_
       by_cases hmb : mb = true
       · by_cases hov : P.over = true
         · refine zb I 70 (mb) (true) (hmb) fun Al W I => ?_
           refine zb I 72 (P.over) (true) (hov) fun Al W I => ?_
           refine zret I (v := fun Al => .tuple #[.int .i64 0, .int .i64 16, .int .i64 0]) fun Al W I => ?_
           first | exact ⟨by rw [hT0, if_pos h1]; rfl, I.below⟩ | exact ⟨by rw [hT0, if_neg h1, if_pos h2]; rfl, I.below⟩ | exact ⟨by rw [hT0, if_neg h1, if_neg (by omega), if_neg (fun h => hmb h.1)]; rfl, I.below⟩ | exact ⟨by rw [hT0, if_neg h1, if_neg (by omega), if_neg (fun h => absurd (h.2.symm.trans hov) (by decide))]; rfl, I.below⟩ | exact ⟨by rw [hT0, if_neg h1, if_neg (by omega), if_pos ⟨hmb, by simpa using hov⟩, if_pos hex]; rfl, I.below⟩ | exact ⟨by rw [hT0, if_neg h1, if_neg (by omega), if_pos ⟨hmb, by simpa using hov⟩, if_neg hex]; rfl, I.below⟩
         refine zb I 70 (mb) (true) (hmb) fun Al W I => ?_
         refine zb I 72 (P.over) (false) ((by simpa using hov)) fun Al W I => ?_
         by_cases hex : P.exact = true
         · refine zb I 76 (P.exact) (true) (hex) fun Al W I => ?_
           refine zret I (v := fun Al => .tuple #[.int .i64 mi, .int .i64 0, .int .i64 0]) fun Al W I => ?_
           first | exact ⟨by rw [hT0, if_pos h1]; rfl, I.below⟩ | exact ⟨by rw [hT0, if_neg h1, if_pos h2]; rfl, I.below⟩ | exact ⟨by rw [hT0, if_neg h1, if_neg (by omega), if_neg (fun h => hmb h.1)]; rfl, I.below⟩ | exact ⟨by rw [hT0, if_neg h1, if_neg (by omega), if_neg (fun h => absurd (h.2.symm.trans hov) (by decide))]; rfl, I.below⟩ | exact ⟨by rw [hT0, if_neg h1, if_neg (by omega), if_pos ⟨hmb, by simpa using hov⟩, if_pos hex]; rfl, I.below⟩ | exact ⟨by rw [hT0, if_neg h1, if_neg (by omega), if_pos ⟨hmb, by simpa using hov⟩, if_neg hex]; rfl, I.below⟩
         refine zb I 76 (P.exact) (false) ((by simpa using hex)) fun Al W I => ?_
         refine zret I (v := fun Al => .tuple #[.int .i64 mi, .int .i64 1, .int .i64 0]) fun Al W I => ?_
         first | exact ⟨by rw [hT0, if_pos h1]; rfl, I.below⟩ | exact ⟨by rw [hT0, if_neg h1, if_pos h2]; rfl, I.below⟩ | exact ⟨by rw [hT0, if_neg h1, if_neg (by omega), if_neg (fun h => hmb h.1)]; rfl, I.below⟩ | exact ⟨by rw [hT0, if_neg h1, if_neg (by omega), if_neg (fun h => absurd (h.2.symm.trans hov) (by decide))]; rfl, I.below⟩ | exact ⟨by rw [hT0, if_neg h1, if_neg (by omega), if_pos ⟨hmb, by simpa using hov⟩, if_pos hex]; rfl, I.below⟩ | exact ⟨by rw [hT0, if_neg h1, if_neg (by omega), if_pos ⟨hmb, by simpa using hov⟩, if_neg hex]; rfl, I.below⟩
       by_cases hov : P.over = true
       · refine zb I 70 (mb) (false) ((by simpa using hmb)) fun Al W I => ?_
         refine zret I (v := fun Al => .tuple #[.int .i64 0, .int .i64 16, .int .i64 0]) fun Al W I => ?_
         first | exact ⟨by rw [hT0, if_pos h1]; rfl, I.below⟩ | exact ⟨by rw [hT0, if_neg h1, if_pos h2]; rfl, I.below⟩ | exact ⟨by rw [hT0, if_neg h1, if_neg (by omega), if_neg (fun h => hmb h.1)]; rfl, I.below⟩ | exact ⟨by rw [hT0, if_neg h1, if_neg (by omega), if_neg (fun h => absurd (h.2.symm.trans hov) (by decide))]; rfl, I.below⟩ | exact ⟨by rw [hT0, if_neg h1, if_neg (by omega), if_pos ⟨hmb, by simpa using hov⟩, if_pos hex]; rfl, I.below⟩ | exact ⟨by rw [hT0, if_neg h1, if_neg (by omega), if_pos ⟨hmb, by simpa using hov⟩, if_neg hex]; rfl, I.below⟩
       refine zb I 70 (mb) (false) ((by simpa using hmb)) fun Al W I => ?_
       refine zret I (v := fun Al => .tuple #[.int .i64 0, .int .i64 16, .int .i64 0]) fun Al W I => ?_
       first | exact ⟨by rw [hT0, if_pos h1]; rfl, I.below⟩ | exact ⟨by rw [hT0, if_neg h1, if_pos h2]; rfl, I.below⟩ | exact ⟨by rw [hT0, if_neg h1, if_neg (by omega), if_neg (fun h => hmb h.1)]; rfl, I.below⟩ | exact ⟨by rw [hT0, if_neg h1, if_neg (by omega), if_neg (fun h => absurd (h.2.symm.trans hov) (by decide))]; rfl, I.below⟩ | exact ⟨by rw [hT0, if_neg h1, if_neg (by omega), if_pos ⟨hmb, by simpa using hov⟩, if_pos hex]; rfl, I.below⟩ | exact ⟨by rw [hT0, if_neg h1, if_neg (by omega), if_pos ⟨hmb, by simpa using hov⟩, if_neg hex]; rfl, I.below⟩
     refine zb I 42 ((v.cls : Int) != 2) (true) (bne_iff_ne.2 (by omega)) fun Al W I => ?_
     refine zret I (v := fun Al => .tuple #[.int .i64 0, .int .i64 16, .int .i64 0]) fun Al W I => ?_
     first | exact ⟨by rw [hT0, if_pos h1]; rfl, I.below⟩ | exact ⟨by rw [hT0, if_neg h1, if_pos h2]; rfl, I.below⟩ | exact ⟨by rw [hT0, if_neg h1, if_neg (by omega), if_neg (fun h => hmb h.1)]; rfl, I.below⟩ | exact ⟨by rw [hT0, if_neg h1, if_neg (by omega), if_neg (fun h => absurd (h.2.symm.trans hov) (by decide))]; rfl, I.below⟩ | exact ⟨by rw [hT0, if_neg h1, if_neg (by omega), if_pos ⟨hmb, by simpa using hov⟩, if_pos hex]; rfl, I.below⟩ | exact ⟨by rw [hT0, if_neg h1, if_neg (by omega), if_pos ⟨hmb, by simpa using hov⟩, if_neg hex]; rfl, I.below⟩
   · have h0 : errR n way [s] = 6 := by unfold errR; rw [if_pos hn, if_pos hL, if_neg hw]
     simp only [h0, show ((6 : Int) = 0) = False by simp, if_false]
     have HO := fun W => hi0 (n0o n way W (fun h => hw h.2))
     generalize decP n s = v at *
     have I := Inv.start w [tabF] ⟨hT, True.intro⟩
     refine a0c [.v (.int .i64 n), .v (.string s), .v (.int .i64 way)] I Tryd.func81 ?_
     refine zqo I (fun Al W I => (HD W I.fa.1).out) fun Al W p22 c22 I => ?_
     refine zq I (fun Al W I => (HO W).out) fun Al W I => ?_
     exact zrb I
 · have h0 : errR n way [s] = a0v n s := by
    unfold errR
    by_cases hn : IsFm n
    · have : errL n [s] = a0v n s := by unfold errL errL; simp [hp]
      rw [if_pos hn, this, if_neg hp]
    · rw [if_neg hn]
      unfold a0v
      rw [if_neg hn]
   simp only [h0, if_neg hp]
   generalize decP n s = v at *
   generalize a0v n s = ep at *
   have I := Inv.start w [tabF] ⟨hT, True.intro⟩
   refine a0c [.v (.int .i64 n), .v (.string s), .v (.int .i64 way)] I Tryd.func81 ?_
   refine zqo I (fun Al W I => (HD W I.fa.1).out) fun Al W p22 c22 I => ?_
   refine zb I 26 (ep != 0) (true) (bne_iff_ne.2 hp) fun Al W I => ?_
   exact zrb I
theorem h0t (w : World) (hT : TabW w) : Calls Tryd.prog 32 #[] w fun en w' => en = .returned (.bool true) ∧ Below w.heap.size w w' := by
 have R3 : ResF (fmt 4) ((fmt 4).numM (intD 3) 1).1 := x0t (c0j (by decide)) _ _
 obtain ⟨q1, q2⟩ := s0m (n := 4) (by decide) R3
 have hA : ((fmt 4).numM (intD 3) 1).2 = 0 ∧ p0f ((fmt 4).numM (intD 3) 1).1 1 = (3, 0) := by decide +kernel
 have h0 : errR 4 1 [] = 0 := by decide
 have h1 : errR 4 1 [strR 4 ((fmt 4).numM (intD 3) 1).1] = 0 := by
  unfold errR
  have : errL 4 [strR 4 ((fmt 4).numM (intD 3) 1).1] = 0 := by unfold errL errL; simp [q1]
  rw [if_pos (by decide), if_pos this, if_pos (by decide)]
 have HF := fun W h => hi0 (d1u (q0z 3 4 1 W (by decide) h))
 have HI := fun W h => hi0 (x0w 4 1 (strR 4 ((fmt 4).numM (intD 3) 1).1) W h)
 unfold x0v at HI
 unfold outS outF at HF
 simp only [h0, h1, q2, hA.1, hA.2, if_true] at HF HI
 clear q1 q2 hA h0 h1 R3
 generalize strR 4 ((fmt 4).numM (intD 3) 1).1 = str at *
 have I := Inv.start w [tabF] ⟨hT, True.intro⟩
 refine a0c [] I Tryd.func32 ?_
 refine zq I (fun Al W I => (HF W I.fa.1).out) fun Al W I => ?_
 refine zq I (fun Al W I => (HI W I.fa.1).out) fun Al W I => ?_
 refine zb I 22 (((0 : Nat) : Int) == 0) (true) (rfl) fun Al W I => ?_
 refine zb I 34 (((0 : Nat) : Int) == 0) (true) (rfl) fun Al W I => ?_
 exact zrb I
end Go.Proofs.YtmacohmclpnphaaDoor
namespace Go.Slip
open Go.RowKit
section
variable {P : Program} {Q : Exit → Act → World → Prop} {E : List Nat} {w0 : World} {A : List Nat} {fs : List PF} {W : World} {c : Cfg}
theorem zunr (I : Inv E w0 A c.bx fs W) (n : Nat)
 (h : ∀ J : Nat → Act → World → Prop, (∀ m fr bx A W fs, Inv E w0 A bx fs W → (Inv E w0 A (l0f (zr P none c) fr bx (J m)).bx fs W → G P Q A (l0f (zr P none c) fr bx (J m)) W) → J (m + 1) (act A fr) W) → ∀ A W, Inv E w0 A (l0f (zr P none c) (zr P none c).fr (zr P none c).bx (J n)).bx fs W → G P Q A (l0f (zr P none c) (zr P none c).fr (zr P none c).bx (J n)) W)
 (hr : ∀ A w, (zms P none 5000 c A w).map (·.1) = (zms P none 5000 c A w).map (·.2) := by intro _ _; kernel_rfl)
 (hl : (v0t (zr P none c)).isSome = true := by kernel_rfl) : G P Q A c W :=
 b0t I hr fun A W I => by
  generalize zr P none c = c at *
  refine ⟨?_⟩
  obtain ⟨cf, cb, rg, ks⟩ := c
  cases rg with
  | pl => cases hl
  | dr => cases hl
  | one => cases hl
  | ret => cases hl
  | off =>
   cases ks with
   | nil => cases hl
   | cons k ks =>
    cases k with
    | block => cases hl
    | stop => cases hl
    | code b =>
     cases b with
     | loop b =>
      refine wp_loop_rounds (n + 1) ?_
      exact (h (fun m a w => Code.rounds P b (post P Q ks) m a w) (fun m fr bx A W fs I h => (h I).out) A W I).out
     | _ => cases hl
end
end Go.Slip
namespace Go.Proofs.YtmacohmclpnphaaDoor
open Go.RowKit Go.Slip
def _root_.Go.Slip.Fm.takeM (f : Fm) (r : Vr) (way : Int) : Vr × Nat :=
 if r.cls = 1 then (f.zeroM r.neg, 0) else if r.cls = 2 then f.numM r.x way else if r.cls = 3 ∧ f.fam = 1 then (r, 0) else if r.cls = 4 ∧ f.fam = 1 then (f.nothM, 0) else f.lostM
theorem d1y {f : Fm} (G : b0l f) {r : Vr} (R : VrOk r) (way : Int) : ResF f (f.takeM r way).1 := by
 unfold Fm.takeM
 split
 · exact n0n G _
 · split
   · exact x0t G _ _
   · split
     · rename_i h
       exact d1s h.1 ⟨R, fun _ => h.2⟩
     · split <;> exact l0t G
theorem g1c (f g : Fm) (n way : Int) (v : Vl) (r : Vr) (p q : Option Addr) (c d base u : Nat) (w : World) (U : Bt w u 153 #[.int .i64 n, .int .i64 way, .int .i64 f.g.rad, .int .i64 f.g.digs, .int .i64 f.g.lo, .int .i64 f.g.hi, .bool f.g.grad, .int .u8 (famB f), .int .i64 0]) (ov : Own w base .u32 76 p c (dig B32 v.d)) (ox : Own w base .u32 76 q d (dig B32 r.x.m)) (hb : base ≤ w.heap.size)
 (V : VRep g v r) (R : VrOk r) (G : b0l f) (hw : 1 ≤ way ∧ way ≤ 5) (hT : TabW w) :
 Calls Tryd.prog 91 #[.pointer (some ⟨u, 0, none⟩), .agg #[.int .i64 (v.cls : Int), .bool v.neg, .slice p (dig B32 v.d).length c, .int .i64 v.pow], .agg #[.bool r.x.neg, .slice q (dig B32 r.x.m).length d, .int .i64 r.x.e]] w (h0c f n way u w base (f.takeM r way)) := by
 have hM : f.takeM r way = if r.cls = 1 then (f.zeroM r.neg, 0) else if r.cls = 2 then f.numM r.x way else if r.cls = 3 ∧ f.fam = 1 then (r, 0) else if r.cls = 4 ∧ f.fam = 1 then (f.nothM, 0) else f.lostM := rfl
 have hc := R.c
 have hcl := V.cls
 have hng := V.neg
 have sm := R.sm
 have s1 := sm.len
 have s2 := sm.lo
 have s3 := sm.hi
 have HZ := fun W u h1 => hi0 (x0l f n way 0 v.neg u W h1)
 have HL := fun W u h1 => hi0 (d1q f n way u W h1)
 have HN := fun W u h1 => hi0 (k0l f n way 0 u W h1)
 have HNU := fun W p c u h1 h2 => hi0 (s0l f n way r.x p c u W h1 h2 (by omega) (by omega) G hw)
 have hk2 := p0a G
 have hlostm : f.lostM = (⟨f.nothM.cls, false, vz⟩, 16) := rfl
 have hnothm : f.nothM = ⟨f.nothM.cls, false, vz⟩ := rfl
 have VI : r.cls ≠ 2 → VRep f v r := fun h => ⟨V.cls, V.neg, fun k => absurd k h, V.oth, V.len, V.lo, V.hi⟩
 obtain ⟨rS, flS, hS⟩ : ∃ rS flS, f.numM r.x way = (rS, flS) := ⟨_, _, rfl⟩
 rw [hS] at HNU hM
 have hf1 : f.fam = 1 → ((famB f : Int) == 65) = true := fun h => by unfold famB; rw [if_pos h]; rfl
 have hf2 : ¬ f.fam = 1 → ((famB f : Int) == 65) = false := fun h => by unfold famB; rw [if_neg h]; split <;> rfl
 generalize f.takeM r way = RR at *
 rw [hnothm] at hM
 generalize f.nothM.cls = kN at *
 clear hS
 have I := Inv.startW w u 153 (uS f n way 0) [ownF base .u32 76 p c (dig B32 v.d), ownF base .u32 76 q d (dig B32 r.x.m), tabF] U ⟨ov, ox, hT, True.intro⟩ ⟨fun hf => ov.far U (by kernel_rfl) hf.1 hf.2, fun hf => ox.far U (by kernel_rfl) hf.1 hf.2, fun hf => hT.far U (by kernel_rfl) hf, True.intro⟩
 refine a0c [.p 0 0, .v (.agg #[.int .i64 (v.cls : Int), .bool v.neg, .slice p (dig B32 v.d).length c, .int .i64 v.pow]), .v (.agg #[.bool r.x.neg, .slice q (dig B32 r.x.m).length d, .int .i64 r.x.e])] I Tryd.func91 ?_
 by_cases z1 : r.cls = 1
 · refine zb I 10 ((v.cls : Int) == 1) (true) (beq_iff_eq.2 (by omega)) fun Al W I => ?_
   refine zq I (fun Al W I => (HZ W _ (I.box 0 153 _)).out) fun Al W I => ?_
   rw [hM, if_pos z1, ← hng]
   exact zret I fun Al W I => c0w (k := 1) (by decide) rfl I.bel (I.boxE 153 _)
 refine zb I 10 ((v.cls : Int) == 1) (false) (bFn (by omega)) fun Al W I => ?_
 by_cases z2 : r.cls = 2
 · refine zb I 16 ((v.cls : Int) == 2) (true) (beq_iff_eq.2 (by omega)) fun Al W I => ?_
   refine zge I 0 153 (fun Al W I => (HNU W q d _ (I.box 0 153 _) I.fa.2.1.rd).out) fun Al V Iv _ _ kz => ?_
   rintro _ W ⟨v19, hR19, p19, c19, rfl, o19, hO, hB⟩
   refine ⟨_, rfl, kz _ (uS f n way (flS : Int)) _ hO hB fun I => ?_⟩
   have I := I.ownB base o19
   rw [hM, if_neg z1, if_pos z2]
   exact zret I fun Al W I => ⟨v19, hR19, p19, c19, rfl, I.fa.1, I.bel, I.boxE 153 _⟩
 refine zb I 16 ((v.cls : Int) == 2) (false) (bFn (by omega)) fun Al W I => ?_
 by_cases z3 : r.cls = 3
 · refine zb I 21 ((v.cls : Int) == 3) (true) (beq_iff_eq.2 (by omega)) fun Al W I => ?_
   by_cases zf : f.fam = 1
   · refine zb I 26 ((famB f) == 65) (true) (hf1 zf) fun Al W I => ?_
     rw [hM, if_neg z1, if_neg z2, if_pos ⟨z3, zf⟩]
     exact zret I fun Al W I => ⟨v, VI z2, p, c, rfl, I.fa.1, I.bel, I.boxE 153 _⟩
   refine zb I 26 ((famB f) == 65) (false) (hf2 zf) fun Al W I => ?_
   refine zge I 0 153 (fun Al W I => (HL W _ (I.box 0 153 _)).out) fun Al V Iv _ _ kz => ?_
   rintro _ W ⟨rfl, hO, hB⟩
   refine ⟨_, rfl, kz _ (uS f n way 16) _ hO hB fun I => ?_⟩
   rw [hM, if_neg z1, if_neg z2, if_neg (fun h => by first | exact z3 h.1 | exact zf h.2), if_neg (fun h => by first | omega | exact z4 h.1 | exact zg h.2), hlostm]
   exact zret I fun Al W I => c0w hk2 rfl I.bel (I.boxE 153 _)
 refine zb I 21 ((v.cls : Int) == 3) (false) (bFn (by omega)) fun Al W I => ?_
 by_cases z4 : r.cls = 4
 · refine zb I 29 ((v.cls : Int) == 4) (true) (beq_iff_eq.2 (by omega)) fun Al W I => ?_
   by_cases zg : f.fam = 1
   · refine zb I 34 ((famB f) == 65) (true) (hf1 zg) fun Al W I => ?_
     refine zq I (fun Al W I => (HN W _ (I.box 0 153 _)).out) fun Al W I => ?_
     rw [hM, if_neg z1, if_neg z2, if_neg (fun h => z3 h.1), if_pos ⟨z4, zg⟩]
     exact zret I fun Al W I => c0w hk2 rfl I.bel (I.boxE 153 _)
   refine zb I 34 ((famB f) == 65) (false) (hf2 zg) fun Al W I => ?_
   refine zge I 0 153 (fun Al W I => (HL W _ (I.box 0 153 _)).out) fun Al V Iv _ _ kz => ?_
   rintro _ W ⟨rfl, hO, hB⟩
   refine ⟨_, rfl, kz _ (uS f n way 16) _ hO hB fun I => ?_⟩
   rw [hM, if_neg z1, if_neg z2, if_neg (fun h => by first | exact z3 h.1 | exact zf h.2), if_neg (fun h => by first | omega | exact z4 h.1 | exact zg h.2), hlostm]
   exact zret I fun Al W I => c0w hk2 rfl I.bel (I.boxE 153 _)
 refine zb I 29 ((v.cls : Int) == 4) (false) (bFn (by omega)) fun Al W I => ?_
 refine zge I 0 153 (fun Al W I => (HL W _ (I.box 0 153 _)).out) fun Al V Iv _ _ kz => ?_
 rintro _ W ⟨rfl, hO, hB⟩
 refine ⟨_, rfl, kz _ (uS f n way 16) _ hO hB fun I => ?_⟩
 rw [hM, if_neg z1, if_neg z2, if_neg (fun h => by first | exact z3 h.1 | exact zf h.2), if_neg (fun h => by first | omega | exact z4 h.1 | exact zg h.2), hlostm]
 exact zret I fun Al W I => c0w hk2 rfl I.bel (I.boxE 153 _)
def exG (f : Fm) : Dv := bare ⟨false, 2 ^ (wid f.g * f.g.digs.toNat) - 1, wid f.g * f.g.hi⟩
def exL (f : Fm) : Dv := bare ⟨false, 2 ^ (wid f.g * f.g.digs.toNat) - 1, wid f.g * f.g.lo⟩
def exM (f : Fm) (b : Bool) : Dv := cond b (bare ⟨false, 1, wid f.g * (f.g.lo + f.g.digs - 1)⟩) (bare ⟨false, 1, wid f.g * f.g.lo⟩)
def k0q (f g : Fm) : Bool := a0k (exG f) g.g && (a0k (exL f) g.g && (a0k (exM f (!f.g.grad)) g.g && (!(g.g.rad == 16) || (decide (4 * (g.g.digs - 1) + 1 ≥ wid f.g * f.g.digs) || f.g.rad == 16))))
theorem n0r {m : Nat} {e : Int} (hl : (dig B32 m).length ≤ 16) (he : -80000 ≤ e ∧ e ≤ 80000) : (dig B32 (bare ⟨false, m, e⟩).m).length ≤ 16 ∧ -100000 ≤ (bare ⟨false, m, e⟩).e ∧ (bare ⟨false, m, e⟩).e ≤ 100000 := by
 have h1 := f0z a0a ⟨false, m, e⟩
 have h2 := j0o ⟨false, m, e⟩ (n := 16) hl (lo := -80000) (hi := 80000) (by simp only; omega) (by simp only; omega) (by omega) (by omega)
 simp only at h1
 omega
theorem a1l (fm tg : Int) (w : World) (hf : IsFm fm) (ht : IsFm tg) (hT : TabW w) :
 Calls Tryd.prog 30 #[.int .i64 fm, .int .i64 tg] w fun en w' => en = .returned (.tuple #[.bool (k0q (fmt fm) (fmt tg)), .int .i64 0]) ∧ Below w.heap.size w w' := by
 have HG1 := fun W => hi0 (h0s fm W)
 have HG2 := fun W => hi0 (h0s tg W)
 have e1 : b0p fm = 0 := by unfold b0p; rw [if_pos hf]
 have e2 : b0p tg = 0 := by unfold b0p; rw [if_pos ht]
 rw [e1] at HG1
 rw [e2] at HG2
 have F := b0i (c0j hf).g
 have G := b0i (c0j ht).g
 have hEx : k0q (fmt fm) (fmt tg) = (a0k (exG (fmt fm)) (fmt tg).g && (a0k (exL (fmt fm)) (fmt tg).g && (a0k (exM (fmt fm) (!(fmt fm).g.grad)) (fmt tg).g && (!((fmt tg).g.rad == 16) || (decide (4 * ((fmt tg).g.digs - 1) + 1 ≥ wid (fmt fm).g * (fmt fm).g.digs) || (fmt fm).g.rad == 16))))) := rfl
 generalize fmt fm = f at *
 generalize fmt tg = g at *
 generalize k0q f g = EX at *
 have d1 := F.d1
 have d2 := F.d2
 have f1 := F.l1
 have f2 := F.l2
 have f3 := F.h1
 have f4 := F.h2
 have g1 := G.d1
 have g2 := G.d2
 have wp := a0r f.g
 have hmd : ((wid f.g * f.g.digs.toNat : Nat) : Int) = (wid f.g : Nat) * f.g.digs := by rw [Int.natCast_mul, Int.toNat_of_nonneg (by omega)]
 have hmb : wid f.g * f.g.digs.toNat ≤ 4 * 120 := Nat.mul_le_mul wp.2 (by omega)
 have b1 := f0t (wd := wid f.g) (k := f.g.lo) (B := 17000) wp.2 ⟨by omega, by omega⟩
 have b2 := f0t (wd := wid f.g) (k := f.g.hi) (B := 17000) wp.2 ⟨by omega, by omega⟩
 have b3 := f0t (wd := wid f.g) (k := f.g.lo + f.g.digs - 1) (B := 17200) wp.2 ⟨by omega, by omega⟩
 have hwd : wid f.g = if f.g.rad = 16 then 4 else 1 := rfl
 have l1 : (dig B32 1).length ≤ 1 := by rw [a0e a0a]; unfold B32; omega
 have l2 : (dig B32 (2 ^ (wid f.g * f.g.digs.toNat))).length ≤ 16 := d0t (by omega)
 have h1 := Nat.one_le_two_pow (n := wid f.g * f.g.digs.toNat)
 have l3 : (dig B32 (2 ^ (wid f.g * f.g.digs.toNat) - 1)).length ≤ 16 := Nat.le_trans (a0o a0a (Nat.sub_le _ _)) l2
 have HW1 := fun W p c h1 h2 h3 => hi0 (e0d p _ c (wid f.g * f.g.hi) (2 ^ (wid f.g * f.g.digs.toNat) - 1) W h1 rfl h2 (by omega) (by omega) h3)
 have HW2 := fun W p c h1 h2 h3 => hi0 (e0d p _ c (wid f.g * f.g.lo) (2 ^ (wid f.g * f.g.digs.toNat) - 1) W h1 rfl h2 (by omega) (by omega) h3)
 have HW3 := fun W p c h1 h2 h3 => hi0 (e0d p _ c (wid f.g * f.g.lo) 1 W h1 rfl h2 (by omega) (by omega) h3)
 have HW4 := fun W p c h1 h2 h3 => hi0 (e0d p _ c (wid f.g * (f.g.lo + f.g.digs - 1)) 1 W h1 rfl h2 (by omega) (by omega) h3)
 have HKe := fun (x : Dv) (hB : Bare x) (hl : (dig B32 x.m).length ≤ 16) (he : -100000 ≤ x.e ∧ x.e ≤ 100000) W p c h => hi0 ((m0y hB G) ▸ i0k x.neg p c x.e x.m g.g W h (by omega) (by omega) G)
 have n1 := n0r (e := wid f.g * f.g.hi) l3 (by omega)
 have n2 := n0r (e := wid f.g * f.g.lo) l3 (by omega)
 have n3 := n0r (m := 1) (e := wid f.g * f.g.lo) (by omega) (by omega)
 have n4 := n0r (m := 1) (e := wid f.g * (f.g.lo + f.g.digs - 1)) (by omega) (by omega)
 have K1 := HKe _ (c0x ⟨false, 2 ^ (wid f.g * f.g.digs.toNat) - 1, wid f.g * f.g.hi⟩) n1.1 n1.2
 have K2 := HKe _ (c0x ⟨false, 2 ^ (wid f.g * f.g.digs.toNat) - 1, wid f.g * f.g.lo⟩) n2.1 n2.2
 have K3 : ∀ b : Bool, _ := fun b => HKe (cond b (bare ⟨false, 1, wid f.g * (f.g.lo + f.g.digs - 1)⟩) (bare ⟨false, 1, wid f.g * f.g.lo⟩)) (by cases b <;> exact c0x _) (by cases b; exact n3.1; exact n4.1) (by cases b; exact n3.2; exact n4.2)
 unfold exG exL exM at hEx
 generalize bare ⟨false, 2 ^ (wid f.g * f.g.digs.toNat) - 1, wid f.g * f.g.hi⟩ = D1 at *
 generalize bare ⟨false, 2 ^ (wid f.g * f.g.digs.toNat) - 1, wid f.g * f.g.lo⟩ = D2 at *
 generalize bare ⟨false, 1, wid f.g * f.g.lo⟩ = D3 at *
 generalize bare ⟨false, 1, wid f.g * (f.g.lo + f.g.digs - 1)⟩ = D4 at *
 obtain ⟨gb, hgb⟩ : ∃ gb, (!f.g.grad) = gb := ⟨_, rfl⟩
 rw [hgb] at hEx
 have K3 := K3 gb
 generalize a0k D1 g.g = k1 at *
 generalize a0k D2 g.g = k2 at *
 generalize a0k (cond gb D4 D3) g.g = k3 at *
 obtain ⟨rb, hrb⟩ : ∃ b, (f.g.rad == 16) = b := ⟨_, rfl⟩
 have HRB := hi0 hrb
 have HGB := hi0 hgb
 have h4 : rb = true → (4 : Int) = ((wid f.g : Nat) : Int) := fun h => by rw [h] at hrb; rw [hwd, if_pos (beq_iff_eq.1 hrb)]; rfl
 have h5 : rb = false → (1 : Int) = ((wid f.g : Nat) : Int) := fun h => by rw [h] at hrb; rw [hwd, if_neg (bnF hrb)]; rfl
 have HEX := hi0 hEx
 have HMD := hi0 hmd
 clear hrb hgb hwd n1 n2 n3 n4 hEx HKe hmd
 generalize hX : 2 ^ (wid f.g * f.g.digs.toNat) = X at *
 have HX := hi0 hX
 clear hX
 generalize wid f.g * f.g.digs.toNat = M at *
 have I := Inv.start w [tabF] ⟨hT, True.intro⟩
 refine a0c [.v (.int .i64 fm), .v (.int .i64 tg)] I Tryd.func30 ?_
 refine zq I (fun Al W I => (HG1 W).out) fun Al W I => ?_
 refine zq I (fun Al W I => (HG2 W).out) fun Al W I => ?_
 refine zb I 32 (f.g.rad == 16) (rb) (HRB.out) fun Al W I => ?_
 refine zcut I (some 2000032) (fun fr bx gs => ∃ (U1 : Nat → Value) (j1 : Int), fr = (.v (.int .i64 fm) :: .v (.int .i64 tg) :: su 2 (.v (.bool false) :: .v (.int .i64 0) :: .p 0 0 :: .v (.int .i64 0) :: .p 1 0 :: .v (.int .i64 j1) :: su 4 (sw U1 14 6 (.v (.bool false) :: sw U1 21 7 (.v (.bool false) :: sw U1 29 3 (.v (.bool rb) :: sw U1 33 16 (.v undef :: sw U1 50 23 (su 4 (sw U1 77 5 (.v undef :: sw U1 83 3 (.v undef :: sw U1 87 15 [])))))))))) : List SV) ∧ bx = [⟨51, [.v (.int .i64 f.g.rad), .v (.int .i64 f.g.digs), .v (.int .i64 f.g.lo), .v (.int .i64 f.g.hi), .v (.bool f.g.grad)], false⟩, ⟨51, [.v (.int .i64 g.g.rad), .v (.int .i64 g.g.digs), .v (.int .i64 g.g.lo), .v (.int .i64 g.g.hi), .v (.bool g.g.grad)], false⟩] ∧ gs = [tabF] ∧ (j1 = ((wid f.g : Nat) : Int))) ?_ ?_
 · intro J hJ Al W I
   rcases Bool.eq_false_or_eq_true rb with rfl | rfl
   · exact a0q I J fun Al W U I => hJ _ _ _ _ _ ⟨U, 4, rfl, rfl, rfl, h4 rfl⟩ (I.pick [0])
   exact a0q I J fun Al W U I => hJ _ _ _ _ _ ⟨U, 1, rfl, rfl, rfl, h5 rfl⟩ (I.pick [0])
 rintro _ _ _ ⟨U1, j1, rfl, rfl, rfl, hj1⟩ Al W I
 refine zd [] I fun Al W I => ?_
 refine zk [1, 2, 3] I fun I => ?_
 refine zki 4 I .i64 (j1 * f.g.digs) ((M : Int)) ((by rw [hj1, ← HMD.out]; exact iwo)) fun I => ?_
 refine zo 0 I fun I => ?_
 refine zqo I (fun Al W I => e0e W) fun Al W p33 c33 I => ?_
 refine zo 5 I fun I => ?_
 refine zqo I (fun Al W I => have hzW := I.bel.size; sshl p33 _ c33 1 M X _ W I.fa.1.rd rfl (by omega) (by omega) rfl (by rw [HX.out]; omega)) fun Al W p38 c38 I => ?_
 refine zo 6 I fun I => ?_
 refine zqo I (fun Al W I => e0e W) fun Al W p39 c39 I => ?_
 refine zo 7 I fun I => ?_
 refine zqo I (fun Al W I => have hzW := I.bel.size; ssub p38 p39 _ _ c38 c39 X 1 (X - 1) W I.fa.2.1.rd I.fa.1.rd rfl rfl (by omega) (by omega) rfl) fun Al W p40 c40 I => ?_
 refine zk [8] I fun I => ?_
 refine zd [] I fun Al W I => ?_
 refine zk [1, 2, 3] I fun I => ?_
 refine zki 4 I .i64 (j1 * f.g.lo) ((wid f.g * f.g.lo)) ((by rw [hj1]; exact iwo)) fun I => ?_
 refine zo2 0 6 I (fun I => ?_) (fun I => ?_)
 · refine zqo I (fun Al W I => e0e W) fun Al W p41 c41 I => ?_
   refine zo2 5 6 I (fun I => ?_) (fun I => ?_)
   · refine zqo I (fun Al W I => (HW3 W p41 c41 I.fa.1.rd I.fa.1.le_cap I.fa.2.2.2.2.2.1).out) fun Al W p46 c46 I => ?_
     refine zo 6 I fun I => ?_
     refine zn I fun Al W I => ?_
     refine zo 7 I fun I => ?_
     refine zn I fun Al W I => ?_
     refine zb I 49 (!f.g.grad) (gb) (HGB.out) fun Al W I => ?_
     refine zcut I (some 2000049) (fun fr bx gs => ∃ (U2 : Nat → Value) (px : Option Addr) (cx : Nat), fr = (.v (.int .i64 fm) :: .v (.int .i64 tg) :: su 2 (.v (.bool false) :: .v (.int .i64 0) :: .p 0 0 :: .v (.int .i64 0) :: .p 1 0 :: .v (.int .i64 j1) :: .v (.slice p40 (dig B32 (X - 1)).length c40) :: .p 2 0 :: su 2 (sw U2 14 6 (.v (.bool false) :: sw U2 21 7 (.v (.bool false) :: sw U2 29 3 (.v (.bool rb) :: sw U2 33 16 (.v (.bool gb) :: sw U2 50 23 (su 4 (sw U2 77 5 (.v undef :: sw U2 83 3 (.v undef :: sw U2 87 15 [])))))))))) : List SV) ∧ bx = [⟨51, [.v (.int .i64 f.g.rad), .v (.int .i64 f.g.digs), .v (.int .i64 f.g.lo), .v (.int .i64 f.g.hi), .v (.bool f.g.grad)], false⟩, ⟨51, [.v (.int .i64 g.g.rad), .v (.int .i64 g.g.digs), .v (.int .i64 g.g.lo), .v (.int .i64 g.g.hi), .v (.bool g.g.grad)], false⟩, ⟨87, [.v (.bool ((cond gb D4 D3).neg)), .v (.slice px (dig B32 (cond gb D4 D3).m).length cx), .v (.int .i64 ((cond gb D4 D3).e))], false⟩] ∧ gs = [ownF w.heap.size .u32 76 px cx (dig B32 (cond gb D4 D3).m), ownF w.heap.size .u32 76 p46 c46 (dig B32 D3.m), ownF w.heap.size .u32 76 p41 c41 (dig B32 1), ownF w.heap.size .u32 76 p40 c40 (dig B32 (X - 1)), ownF w.heap.size .u32 76 p39 c39 (dig B32 1), ownF w.heap.size .u32 76 p38 c38 (dig B32 X), ownF w.heap.size .u32 76 p33 c33 (dig B32 1), tabF]) ?_ ?_
     · intro J hJ Al W I
       rcases Bool.eq_false_or_eq_true gb with rfl | rfl
       · refine zd [2] I fun Al W I => ?_
         refine zk [1, 2, 3, 4, 5] I fun I => ?_
         refine zki 6 I .i64 (f.g.lo + f.g.digs) (f.g.lo + f.g.digs) (iwo) fun I => ?_
         refine zki 7 I .i64 ((f.g.lo + f.g.digs) - 1) ((f.g.lo + f.g.digs) - 1) (iwo) fun I => ?_
         refine zki 8 I .i64 (j1 * ((f.g.lo + f.g.digs) - 1)) ((wid f.g * (f.g.lo + f.g.digs - 1))) ((by rw [hj1]; exact iwo)) fun I => ?_
         refine zo 0 I fun I => ?_
         refine zqo I (fun Al W I => e0e W) fun Al W p50 c50 I => ?_
         refine zo 9 I fun I => ?_
         refine zqo I (fun Al W I => (HW4 W p50 c50 I.fa.1.rd I.fa.1.le_cap I.fa.2.2.2.2.2.2.2.1).out) fun Al W p59 c59 I => ?_
         refine zo 10 I fun I => ?_
         refine zn I fun Al W I => ?_
         exact a0q I J fun Al W U I => hJ _ _ _ _ _ ⟨U, p59, c59, rfl, rfl, rfl⟩ (I.pick [0, 2, 3, 4, 5, 6, 7, 8])
       exact a0q I J fun Al W U I => hJ _ _ _ _ _ ⟨U, p46, c46, rfl, rfl, rfl⟩ (I.pick [0, 0, 1, 2, 3, 4, 5, 6])
     rintro _ _ _ ⟨U2, px, cx, rfl, rfl, rfl⟩ Al W I
     refine zd [] I fun Al W I => ?_
     refine zk [0, 1, 2, 3] I fun I => ?_
     refine zki 4 I .i64 (j1 * f.g.hi) ((wid f.g * f.g.hi)) ((by rw [hj1]; exact iwo)) fun I => ?_
     refine zk [6, 7, 8, 9] I fun I => ?_
     refine zki 10 I .i64 (j1 * f.g.lo) ((wid f.g * f.g.lo)) ((by rw [hj1]; exact iwo)) fun I => ?_
     refine zk [12, 15] I fun I => ?_
     refine zo 5 I fun I => ?_
     refine zqo I (fun Al W I => (HW1 W p40 c40 I.fa.2.2.2.1.rd I.fa.2.2.2.1.le_cap I.fa.2.2.2.2.2.2.2.1).out) fun Al W p65 c65 I => ?_
     refine zo 11 I fun I => ?_
     refine zqo I (fun Al W I => (HW2 W p40 c40 I.fa.2.2.2.2.1.rd I.fa.2.2.2.2.1.le_cap I.fa.2.2.2.2.2.2.2.2.1).out) fun Al W p71 c71 I => ?_
     refine zo 13 I fun I => ?_
     refine zn I fun Al W I => ?_
     refine zk [14] I fun I => ?_
     refine zunr I 3 ?_
     rintro J0 hJ0 Al W I
     refine zq I (fun Al W I => (K1 W p65 c65 I.fa.2.1.rd).out) fun Al W I => ?_
     rcases Bool.eq_false_or_eq_true (!k1) with f81 | f81
     · refine zb I 82 (!k1) (true) (f81) fun Al W I => ?_
       refine zret I (v := fun Al => .tuple #[.bool false, .int .i64 0]) fun Al W I => ?_
       first | exact ⟨by rw [HEX.out, show k1 = false by simpa using f81]; rfl, I.below⟩ | exact ⟨by rw [HEX.out, show k1 = true by simpa using q3, show k2 = false by simpa using f81]; rfl, I.below⟩ | exact ⟨by rw [HEX.out, show k1 = true by simpa using q3, show k2 = true by simpa using q2, show k3 = false by simpa using f81]; rfl, I.below⟩ | exact ⟨by rw [HEX.out, show k1 = true by simpa using q3, show k2 = true by simpa using q2, show k3 = true by simpa using q1, f86]; rfl, I.below⟩ | exact ⟨by rw [HEX.out, show k1 = true by simpa using q3, show k2 = true by simpa using q2, show k3 = true by simpa using q1, f86, f96]; rfl, I.below⟩
     refine zb I 82 (!k1) (false) (f81) fun Al W I => ?_
     have q3 := f81
     refine a0q I (J0 3) (fr := fun Al U3 => (.v (.int .i64 fm) :: .v (.int .i64 tg) :: su 2 (.v (.bool false) :: .v (.int .i64 0) :: .p 0 0 :: .v (.int .i64 0) :: .p 1 0 :: .v (.int .i64 j1) :: .v (.slice p40 (dig B32 (X - 1)).length c40) :: .p 2 0 :: .v undef :: .p 4 0 :: sw U3 14 6 (.v (.bool false) :: sw U3 21 7 (.v (.bool false) :: sw U3 29 3 (.v (.bool rb) :: sw U3 33 16 (.v (.bool gb) :: sw U3 50 23 (.s 3 0 3 3 :: .v (.int .i64 ((3 : Nat) : Int)) :: .v (.int .i64 1) :: .v (.bool true) :: sw U3 77 5 (.v (.bool false) :: sw U3 83 3 (.v undef :: sw U3 87 15 [])))))))) : List SV)) (bx := fun Al U3 => [⟨51, [.v (.int .i64 f.g.rad), .v (.int .i64 f.g.digs), .v (.int .i64 f.g.lo), .v (.int .i64 f.g.hi), .v (.bool f.g.grad)], false⟩, ⟨51, [.v (.int .i64 g.g.rad), .v (.int .i64 g.g.digs), .v (.int .i64 g.g.lo), .v (.int .i64 g.g.hi), .v (.bool g.g.grad)], false⟩, ⟨87, [.v (.bool ((cond gb D4 D3).neg)), .v (.slice px (dig B32 (cond gb D4 D3).m).length cx), .v (.int .i64 ((cond gb D4 D3).e))], false⟩, ⟨87, [.v (.bool D1.neg), .v (.slice p65 (dig B32 D1.m).length c65), .v (.int .i64 D1.e), .v (.bool D2.neg), .v (.slice p71 (dig B32 D2.m).length c71), .v (.int .i64 D2.e), .v (.bool ((cond gb D4 D3).neg)), .v (.slice px (dig B32 (cond gb D4 D3).m).length cx), .v (.int .i64 ((cond gb D4 D3).e))], false⟩, ⟨87, [.v (.bool D1.neg), .v (.slice p65 (dig B32 D1.m).length c65), .v (.int .i64 D1.e)], false⟩]) fun Al W U3 I => hJ0 _ _ _ _ _ _ I fun I => ?_
     refine zq I (fun Al W I => (K2 W p71 c71 I.fa.1.rd).out) fun Al W I => ?_
     rcases Bool.eq_false_or_eq_true (!k2) with f81 | f81
     · refine zb I 82 (!k2) (true) (f81) fun Al W I => ?_
       refine zret I (v := fun Al => .tuple #[.bool false, .int .i64 0]) fun Al W I => ?_
       first | exact ⟨by rw [HEX.out, show k1 = false by simpa using f81]; rfl, I.below⟩ | exact ⟨by rw [HEX.out, show k1 = true by simpa using q3, show k2 = false by simpa using f81]; rfl, I.below⟩ | exact ⟨by rw [HEX.out, show k1 = true by simpa using q3, show k2 = true by simpa using q2, show k3 = false by simpa using f81]; rfl, I.below⟩ | exact ⟨by rw [HEX.out, show k1 = true by simpa using q3, show k2 = true by simpa using q2, show k3 = true by simpa using q1, f86]; rfl, I.below⟩ | exact ⟨by rw [HEX.out, show k1 = true by simpa using q3, show k2 = true by simpa using q2, show k3 = true by simpa using q1, f86, f96]; rfl, I.below⟩
     refine zb I 82 (!k2) (false) (f81) fun Al W I => ?_
     have q2 := f81
     refine a0q I (J0 2) (fr := fun Al U4 => (.v (.int .i64 fm) :: .v (.int .i64 tg) :: su 2 (.v (.bool false) :: .v (.int .i64 0) :: .p 0 0 :: .v (.int .i64 0) :: .p 1 0 :: .v (.int .i64 j1) :: .v (.slice p40 (dig B32 (X - 1)).length c40) :: .p 2 0 :: .v undef :: .p 5 0 :: sw U4 14 6 (.v (.bool false) :: sw U4 21 7 (.v (.bool false) :: sw U4 29 3 (.v (.bool rb) :: sw U4 33 16 (.v (.bool gb) :: sw U4 50 23 (.s 3 0 3 3 :: .v (.int .i64 ((3 : Nat) : Int)) :: .v (.int .i64 2) :: .v (.bool true) :: sw U4 77 5 (.v (.bool false) :: sw U4 83 3 (.v undef :: sw U4 87 15 [])))))))) : List SV)) (bx := fun Al U4 => [⟨51, [.v (.int .i64 f.g.rad), .v (.int .i64 f.g.digs), .v (.int .i64 f.g.lo), .v (.int .i64 f.g.hi), .v (.bool f.g.grad)], false⟩, ⟨51, [.v (.int .i64 g.g.rad), .v (.int .i64 g.g.digs), .v (.int .i64 g.g.lo), .v (.int .i64 g.g.hi), .v (.bool g.g.grad)], false⟩, ⟨87, [.v (.bool ((cond gb D4 D3).neg)), .v (.slice px (dig B32 (cond gb D4 D3).m).length cx), .v (.int .i64 ((cond gb D4 D3).e))], false⟩, ⟨87, [.v (.bool D1.neg), .v (.slice p65 (dig B32 D1.m).length c65), .v (.int .i64 D1.e), .v (.bool D2.neg), .v (.slice p71 (dig B32 D2.m).length c71), .v (.int .i64 D2.e), .v (.bool ((cond gb D4 D3).neg)), .v (.slice px (dig B32 (cond gb D4 D3).m).length cx), .v (.int .i64 ((cond gb D4 D3).e))], false⟩, ⟨87, [.v (.bool D1.neg), .v (.slice p65 (dig B32 D1.m).length c65), .v (.int .i64 D1.e)], false⟩, ⟨87, [.v (.bool D2.neg), .v (.slice p71 (dig B32 D2.m).length c71), .v (.int .i64 D2.e)], false⟩]) fun Al W U4 I => hJ0 _ _ _ _ _ _ I fun I => ?_
     refine zq I (fun Al W I => (K3 W px cx I.fa.2.2.1.rd).out) fun Al W I => ?_
     rcases Bool.eq_false_or_eq_true (!k3) with f81 | f81
     · refine zb I 82 (!k3) (true) (f81) fun Al W I => ?_
       refine zret I (v := fun Al => .tuple #[.bool false, .int .i64 0]) fun Al W I => ?_
       first | exact ⟨by rw [HEX.out, show k1 = false by simpa using f81]; rfl, I.below⟩ | exact ⟨by rw [HEX.out, show k1 = true by simpa using q3, show k2 = false by simpa using f81]; rfl, I.below⟩ | exact ⟨by rw [HEX.out, show k1 = true by simpa using q3, show k2 = true by simpa using q2, show k3 = false by simpa using f81]; rfl, I.below⟩ | exact ⟨by rw [HEX.out, show k1 = true by simpa using q3, show k2 = true by simpa using q2, show k3 = true by simpa using q1, f86]; rfl, I.below⟩ | exact ⟨by rw [HEX.out, show k1 = true by simpa using q3, show k2 = true by simpa using q2, show k3 = true by simpa using q1, f86, f96]; rfl, I.below⟩
     refine zb I 82 (!k3) (false) (f81) fun Al W I => ?_
     have q1 := f81
     refine a0q I (J0 1) (fr := fun Al U5 => (.v (.int .i64 fm) :: .v (.int .i64 tg) :: su 2 (.v (.bool false) :: .v (.int .i64 0) :: .p 0 0 :: .v (.int .i64 0) :: .p 1 0 :: .v (.int .i64 j1) :: .v (.slice p40 (dig B32 (X - 1)).length c40) :: .p 2 0 :: .v undef :: .p 6 0 :: sw U5 14 6 (.v (.bool false) :: sw U5 21 7 (.v (.bool false) :: sw U5 29 3 (.v (.bool rb) :: sw U5 33 16 (.v (.bool gb) :: sw U5 50 23 (.s 3 0 3 3 :: .v (.int .i64 ((3 : Nat) : Int)) :: .v (.int .i64 3) :: .v (.bool true) :: sw U5 77 5 (.v (.bool false) :: sw U5 83 3 (.v undef :: sw U5 87 15 [])))))))) : List SV)) (bx := fun Al U5 => [⟨51, [.v (.int .i64 f.g.rad), .v (.int .i64 f.g.digs), .v (.int .i64 f.g.lo), .v (.int .i64 f.g.hi), .v (.bool f.g.grad)], false⟩, ⟨51, [.v (.int .i64 g.g.rad), .v (.int .i64 g.g.digs), .v (.int .i64 g.g.lo), .v (.int .i64 g.g.hi), .v (.bool g.g.grad)], false⟩, ⟨87, [.v (.bool ((cond gb D4 D3).neg)), .v (.slice px (dig B32 (cond gb D4 D3).m).length cx), .v (.int .i64 ((cond gb D4 D3).e))], false⟩, ⟨87, [.v (.bool D1.neg), .v (.slice p65 (dig B32 D1.m).length c65), .v (.int .i64 D1.e), .v (.bool D2.neg), .v (.slice p71 (dig B32 D2.m).length c71), .v (.int .i64 D2.e), .v (.bool ((cond gb D4 D3).neg)), .v (.slice px (dig B32 (cond gb D4 D3).m).length cx), .v (.int .i64 ((cond gb D4 D3).e))], false⟩, ⟨87, [.v (.bool D1.neg), .v (.slice p65 (dig B32 D1.m).length c65), .v (.int .i64 D1.e)], false⟩, ⟨87, [.v (.bool D2.neg), .v (.slice p71 (dig B32 D2.m).length c71), .v (.int .i64 D2.e)], false⟩, ⟨87, [.v (.bool ((cond gb D4 D3).neg)), .v (.slice px (dig B32 (cond gb D4 D3).m).length cx), .v (.int .i64 ((cond gb D4 D3).e))], false⟩]) fun Al W U5 I => hJ0 _ _ _ _ _ _ I fun I => ?_
     rcases Bool.eq_false_or_eq_true (g.g.rad == 16) with f86 | f86
     · refine zb I 86 (g.g.rad == 16) (true) (f86) fun Al W I => ?_
       refine zi I 89 .i64 (g.g.digs - 1) (g.g.digs - 1) (iwo) fun Al W I => ?_
       refine zi I 90 .i64 ((4 : Int) * (g.g.digs - 1)) ((4 : Int) * (g.g.digs - 1)) (iwo) fun Al W I => ?_
       refine zi I 91 .i64 (((4 : Int) * (g.g.digs - 1)) + 1) (((4 : Int) * (g.g.digs - 1)) + 1) (iwo) fun Al W I => ?_
       refine zi I 95 .i64 (j1 * f.g.digs) ((wid f.g * f.g.digs)) ((by rw [hj1, ← HMD.out]; exact iwo)) fun Al W I => ?_
       rcases Bool.eq_false_or_eq_true (decide ((((4 : Int) * (g.g.digs - 1)) + 1) ≥ (wid f.g * f.g.digs))) with f96 | f96
       · refine zb I 96 (decide ((((4 : Int) * (g.g.digs - 1)) + 1) ≥ (wid f.g * f.g.digs))) (true) (f96) fun Al W I => ?_
         refine zret I (v := fun Al => .tuple #[.bool true, .int .i64 0]) fun Al W I => ?_
         first | exact ⟨by rw [HEX.out, show k1 = false by simpa using f81]; rfl, I.below⟩ | exact ⟨by rw [HEX.out, show k1 = true by simpa using q3, show k2 = false by simpa using f81]; rfl, I.below⟩ | exact ⟨by rw [HEX.out, show k1 = true by simpa using q3, show k2 = true by simpa using q2, show k3 = false by simpa using f81]; rfl, I.below⟩ | exact ⟨by rw [HEX.out, show k1 = true by simpa using q3, show k2 = true by simpa using q2, show k3 = true by simpa using q1, f86]; rfl, I.below⟩ | exact ⟨by rw [HEX.out, show k1 = true by simpa using q3, show k2 = true by simpa using q2, show k3 = true by simpa using q1, f86, f96]; rfl, I.below⟩
       refine zb I 96 (decide ((((4 : Int) * (g.g.digs - 1)) + 1) ≥ (wid f.g * f.g.digs))) (false) (f96) fun Al W I => ?_
       refine zret I (v := fun Al => .tuple #[.bool (f.g.rad == 16), .int .i64 0]) fun Al W I => ?_
       first | exact ⟨by rw [HEX.out, show k1 = false by simpa using f81]; rfl, I.below⟩ | exact ⟨by rw [HEX.out, show k1 = true by simpa using q3, show k2 = false by simpa using f81]; rfl, I.below⟩ | exact ⟨by rw [HEX.out, show k1 = true by simpa using q3, show k2 = true by simpa using q2, show k3 = false by simpa using f81]; rfl, I.below⟩ | exact ⟨by rw [HEX.out, show k1 = true by simpa using q3, show k2 = true by simpa using q2, show k3 = true by simpa using q1, f86]; rfl, I.below⟩ | exact ⟨by rw [HEX.out, show k1 = true by simpa using q3, show k2 = true by simpa using q2, show k3 = true by simpa using q1, f86, f96]; rfl, I.below⟩
     refine zb I 86 (g.g.rad == 16) (false) (f86) fun Al W I => ?_
     refine zret I (v := fun Al => .tuple #[.bool true, .int .i64 0]) fun Al W I => ?_
     first | exact ⟨by rw [HEX.out, show k1 = false by simpa using f81]; rfl, I.below⟩ | exact ⟨by rw [HEX.out, show k1 = true by simpa using q3, show k2 = false by simpa using f81]; rfl, I.below⟩ | exact ⟨by rw [HEX.out, show k1 = true by simpa using q3, show k2 = true by simpa using q2, show k3 = false by simpa using f81]; rfl, I.below⟩ | exact ⟨by rw [HEX.out, show k1 = true by simpa using q3, show k2 = true by simpa using q2, show k3 = true by simpa using q1, f86]; rfl, I.below⟩ | exact ⟨by rw [HEX.out, show k1 = true by simpa using q3, show k2 = true by simpa using q2, show k3 = true by simpa using q1, f86, f96]; rfl, I.below⟩
   refine zn I fun Al W I => ?_
   refine zo 5 I fun I => ?_
   refine zqo I (fun Al W I => (HW3 W p41 c41 I.fa.1.rd I.fa.1.le_cap I.fa.2.2.2.2.2.1).out) fun Al W p46 c46 I => ?_
   refine zo 7 I fun I => ?_
   refine zn I fun Al W I => ?_
   refine zb I 49 (!f.g.grad) (gb) (HGB.out) fun Al W I => ?_
   refine zcut I (some 2000049) (fun fr bx gs => ∃ (U2 : Nat → Value) (px : Option Addr) (cx : Nat), fr = (.v (.int .i64 fm) :: .v (.int .i64 tg) :: su 2 (.v (.bool false) :: .v (.int .i64 0) :: .p 0 0 :: .v (.int .i64 0) :: .p 1 0 :: .v (.int .i64 j1) :: .v (.slice p40 (dig B32 (X - 1)).length c40) :: .p 2 0 :: su 2 (sw U2 14 6 (.v (.bool false) :: sw U2 21 7 (.v (.bool false) :: sw U2 29 3 (.v (.bool rb) :: sw U2 33 16 (.v (.bool gb) :: sw U2 50 23 (su 4 (sw U2 77 5 (.v undef :: sw U2 83 3 (.v undef :: sw U2 87 15 [])))))))))) : List SV) ∧ bx = [⟨51, [.v (.int .i64 f.g.rad), .v (.int .i64 f.g.digs), .v (.int .i64 f.g.lo), .v (.int .i64 f.g.hi), .v (.bool f.g.grad)], false⟩, ⟨51, [.v (.int .i64 g.g.rad), .v (.int .i64 g.g.digs), .v (.int .i64 g.g.lo), .v (.int .i64 g.g.hi), .v (.bool g.g.grad)], false⟩, ⟨87, [.v (.bool ((cond gb D4 D3).neg)), .v (.slice px (dig B32 (cond gb D4 D3).m).length cx), .v (.int .i64 ((cond gb D4 D3).e))], false⟩] ∧ gs = [ownF w.heap.size .u32 76 px cx (dig B32 (cond gb D4 D3).m), ownF w.heap.size .u32 76 p46 c46 (dig B32 D3.m), ownF w.heap.size .u32 76 p41 c41 (dig B32 1), ownF w.heap.size .u32 76 p40 c40 (dig B32 (X - 1)), ownF w.heap.size .u32 76 p39 c39 (dig B32 1), ownF w.heap.size .u32 76 p38 c38 (dig B32 X), ownF w.heap.size .u32 76 p33 c33 (dig B32 1), tabF]) ?_ ?_
   · intro J hJ Al W I
     rcases Bool.eq_false_or_eq_true gb with rfl | rfl
     · refine zd [2] I fun Al W I => ?_
       refine zk [1, 2, 3, 4, 5] I fun I => ?_
       refine zki 6 I .i64 (f.g.lo + f.g.digs) (f.g.lo + f.g.digs) (iwo) fun I => ?_
       refine zki 7 I .i64 ((f.g.lo + f.g.digs) - 1) ((f.g.lo + f.g.digs) - 1) (iwo) fun I => ?_
       refine zki 8 I .i64 (j1 * ((f.g.lo + f.g.digs) - 1)) ((wid f.g * (f.g.lo + f.g.digs - 1))) ((by rw [hj1]; exact iwo)) fun I => ?_
       refine zo 0 I fun I => ?_
       refine zqo I (fun Al W I => e0e W) fun Al W p50 c50 I => ?_
       refine zo 9 I fun I => ?_
       refine zqo I (fun Al W I => (HW4 W p50 c50 I.fa.1.rd I.fa.1.le_cap I.fa.2.2.2.2.2.2.2.1).out) fun Al W p59 c59 I => ?_
       refine zo 10 I fun I => ?_
       refine zn I fun Al W I => ?_
       exact a0q I J fun Al W U I => hJ _ _ _ _ _ ⟨U, p59, c59, rfl, rfl, rfl⟩ (I.pick [0, 2, 3, 4, 5, 6, 7, 8])
     exact a0q I J fun Al W U I => hJ _ _ _ _ _ ⟨U, p46, c46, rfl, rfl, rfl⟩ (I.pick [0, 0, 1, 2, 3, 4, 5, 6])
   rintro _ _ _ ⟨U2, px, cx, rfl, rfl, rfl⟩ Al W I
   refine zd [] I fun Al W I => ?_
   refine zk [0, 1, 2, 3] I fun I => ?_
   refine zki 4 I .i64 (j1 * f.g.hi) ((wid f.g * f.g.hi)) ((by rw [hj1]; exact iwo)) fun I => ?_
   refine zk [6, 7, 8, 9] I fun I => ?_
   refine zki 10 I .i64 (j1 * f.g.lo) ((wid f.g * f.g.lo)) ((by rw [hj1]; exact iwo)) fun I => ?_
   refine zk [12, 15] I fun I => ?_
   refine zo 5 I fun I => ?_
   refine zqo I (fun Al W I => (HW1 W p40 c40 I.fa.2.2.2.1.rd I.fa.2.2.2.1.le_cap I.fa.2.2.2.2.2.2.2.1).out) fun Al W p65 c65 I => ?_
   refine zo 11 I fun I => ?_
   refine zqo I (fun Al W I => (HW2 W p40 c40 I.fa.2.2.2.2.1.rd I.fa.2.2.2.2.1.le_cap I.fa.2.2.2.2.2.2.2.2.1).out) fun Al W p71 c71 I => ?_
   refine zo 13 I fun I => ?_
   refine zn I fun Al W I => ?_
   refine zk [14] I fun I => ?_
   refine zunr I 3 ?_
   rintro J0 hJ0 Al W I
   refine zq I (fun Al W I => (K1 W p65 c65 I.fa.2.1.rd).out) fun Al W I => ?_
   rcases Bool.eq_false_or_eq_true (!k1) with f81 | f81
   · refine zb I 82 (!k1) (true) (f81) fun Al W I => ?_
     refine zret I (v := fun Al => .tuple #[.bool false, .int .i64 0]) fun Al W I => ?_
     first | exact ⟨by rw [HEX.out, show k1 = false by simpa using f81]; rfl, I.below⟩ | exact ⟨by rw [HEX.out, show k1 = true by simpa using q3, show k2 = false by simpa using f81]; rfl, I.below⟩ | exact ⟨by rw [HEX.out, show k1 = true by simpa using q3, show k2 = true by simpa using q2, show k3 = false by simpa using f81]; rfl, I.below⟩ | exact ⟨by rw [HEX.out, show k1 = true by simpa using q3, show k2 = true by simpa using q2, show k3 = true by simpa using q1, f86]; rfl, I.below⟩ | exact ⟨by rw [HEX.out, show k1 = true by simpa using q3, show k2 = true by simpa using q2, show k3 = true by simpa using q1, f86, f96]; rfl, I.below⟩
   refine zb I 82 (!k1) (false) (f81) fun Al W I => ?_
   have q3 := f81
   refine a0q I (J0 3) (fr := fun Al U3 => (.v (.int .i64 fm) :: .v (.int .i64 tg) :: su 2 (.v (.bool false) :: .v (.int .i64 0) :: .p 0 0 :: .v (.int .i64 0) :: .p 1 0 :: .v (.int .i64 j1) :: .v (.slice p40 (dig B32 (X - 1)).length c40) :: .p 2 0 :: .v undef :: .p 4 0 :: sw U3 14 6 (.v (.bool false) :: sw U3 21 7 (.v (.bool false) :: sw U3 29 3 (.v (.bool rb) :: sw U3 33 16 (.v (.bool gb) :: sw U3 50 23 (.s 3 0 3 3 :: .v (.int .i64 ((3 : Nat) : Int)) :: .v (.int .i64 1) :: .v (.bool true) :: sw U3 77 5 (.v (.bool false) :: sw U3 83 3 (.v undef :: sw U3 87 15 [])))))))) : List SV)) (bx := fun Al U3 => [⟨51, [.v (.int .i64 f.g.rad), .v (.int .i64 f.g.digs), .v (.int .i64 f.g.lo), .v (.int .i64 f.g.hi), .v (.bool f.g.grad)], false⟩, ⟨51, [.v (.int .i64 g.g.rad), .v (.int .i64 g.g.digs), .v (.int .i64 g.g.lo), .v (.int .i64 g.g.hi), .v (.bool g.g.grad)], false⟩, ⟨87, [.v (.bool ((cond gb D4 D3).neg)), .v (.slice px (dig B32 (cond gb D4 D3).m).length cx), .v (.int .i64 ((cond gb D4 D3).e))], false⟩, ⟨87, [.v (.bool D1.neg), .v (.slice p65 (dig B32 D1.m).length c65), .v (.int .i64 D1.e), .v (.bool D2.neg), .v (.slice p71 (dig B32 D2.m).length c71), .v (.int .i64 D2.e), .v (.bool ((cond gb D4 D3).neg)), .v (.slice px (dig B32 (cond gb D4 D3).m).length cx), .v (.int .i64 ((cond gb D4 D3).e))], false⟩, ⟨87, [.v (.bool D1.neg), .v (.slice p65 (dig B32 D1.m).length c65), .v (.int .i64 D1.e)], false⟩]) fun Al W U3 I => hJ0 _ _ _ _ _ _ I fun I => ?_
   refine zq I (fun Al W I => (K2 W p71 c71 I.fa.1.rd).out) fun Al W I => ?_
   rcases Bool.eq_false_or_eq_true (!k2) with f81 | f81
   · refine zb I 82 (!k2) (true) (f81) fun Al W I => ?_
     refine zret I (v := fun Al => .tuple #[.bool false, .int .i64 0]) fun Al W I => ?_
     first | exact ⟨by rw [HEX.out, show k1 = false by simpa using f81]; rfl, I.below⟩ | exact ⟨by rw [HEX.out, show k1 = true by simpa using q3, show k2 = false by simpa using f81]; rfl, I.below⟩ | exact ⟨by rw [HEX.out, show k1 = true by simpa using q3, show k2 = true by simpa using q2, show k3 = false by simpa using f81]; rfl, I.below⟩ | exact ⟨by rw [HEX.out, show k1 = true by simpa using q3, show k2 = true by simpa using q2, show k3 = true by simpa using q1, f86]; rfl, I.below⟩ | exact ⟨by rw [HEX.out, show k1 = true by simpa using q3, show k2 = true by simpa using q2, show k3 = true by simpa using q1, f86, f96]; rfl, I.below⟩
   refine zb I 82 (!k2) (false) (f81) fun Al W I => ?_
   have q2 := f81
   refine a0q I (J0 2) (fr := fun Al U4 => (.v (.int .i64 fm) :: .v (.int .i64 tg) :: su 2 (.v (.bool false) :: .v (.int .i64 0) :: .p 0 0 :: .v (.int .i64 0) :: .p 1 0 :: .v (.int .i64 j1) :: .v (.slice p40 (dig B32 (X - 1)).length c40) :: .p 2 0 :: .v undef :: .p 5 0 :: sw U4 14 6 (.v (.bool false) :: sw U4 21 7 (.v (.bool false) :: sw U4 29 3 (.v (.bool rb) :: sw U4 33 16 (.v (.bool gb) :: sw U4 50 23 (.s 3 0 3 3 :: .v (.int .i64 ((3 : Nat) : Int)) :: .v (.int .i64 2) :: .v (.bool true) :: sw U4 77 5 (.v (.bool false) :: sw U4 83 3 (.v undef :: sw U4 87 15 [])))))))) : List SV)) (bx := fun Al U4 => [⟨51, [.v (.int .i64 f.g.rad), .v (.int .i64 f.g.digs), .v (.int .i64 f.g.lo), .v (.int .i64 f.g.hi), .v (.bool f.g.grad)], false⟩, ⟨51, [.v (.int .i64 g.g.rad), .v (.int .i64 g.g.digs), .v (.int .i64 g.g.lo), .v (.int .i64 g.g.hi), .v (.bool g.g.grad)], false⟩, ⟨87, [.v (.bool ((cond gb D4 D3).neg)), .v (.slice px (dig B32 (cond gb D4 D3).m).length cx), .v (.int .i64 ((cond gb D4 D3).e))], false⟩, ⟨87, [.v (.bool D1.neg), .v (.slice p65 (dig B32 D1.m).length c65), .v (.int .i64 D1.e), .v (.bool D2.neg), .v (.slice p71 (dig B32 D2.m).length c71), .v (.int .i64 D2.e), .v (.bool ((cond gb D4 D3).neg)), .v (.slice px (dig B32 (cond gb D4 D3).m).length cx), .v (.int .i64 ((cond gb D4 D3).e))], false⟩, ⟨87, [.v (.bool D1.neg), .v (.slice p65 (dig B32 D1.m).length c65), .v (.int .i64 D1.e)], false⟩, ⟨87, [.v (.bool D2.neg), .v (.slice p71 (dig B32 D2.m).length c71), .v (.int .i64 D2.e)], false⟩]) fun Al W U4 I => hJ0 _ _ _ _ _ _ I fun I => ?_
   refine zq I (fun Al W I => (K3 W px cx I.fa.2.2.1.rd).out) fun Al W I => ?_
   rcases Bool.eq_false_or_eq_true (!k3) with f81 | f81
   · refine zb I 82 (!k3) (true) (f81) fun Al W I => ?_
     refine zret I (v := fun Al => .tuple #[.bool false, .int .i64 0]) fun Al W I => ?_
     first | exact ⟨by rw [HEX.out, show k1 = false by simpa using f81]; rfl, I.below⟩ | exact ⟨by rw [HEX.out, show k1 = true by simpa using q3, show k2 = false by simpa using f81]; rfl, I.below⟩ | exact ⟨by rw [HEX.out, show k1 = true by simpa using q3, show k2 = true by simpa using q2, show k3 = false by simpa using f81]; rfl, I.below⟩ | exact ⟨by rw [HEX.out, show k1 = true by simpa using q3, show k2 = true by simpa using q2, show k3 = true by simpa using q1, f86]; rfl, I.below⟩ | exact ⟨by rw [HEX.out, show k1 = true by simpa using q3, show k2 = true by simpa using q2, show k3 = true by simpa using q1, f86, f96]; rfl, I.below⟩
   refine zb I 82 (!k3) (false) (f81) fun Al W I => ?_
   have q1 := f81
   refine a0q I (J0 1) (fr := fun Al U5 => (.v (.int .i64 fm) :: .v (.int .i64 tg) :: su 2 (.v (.bool false) :: .v (.int .i64 0) :: .p 0 0 :: .v (.int .i64 0) :: .p 1 0 :: .v (.int .i64 j1) :: .v (.slice p40 (dig B32 (X - 1)).length c40) :: .p 2 0 :: .v undef :: .p 6 0 :: sw U5 14 6 (.v (.bool false) :: sw U5 21 7 (.v (.bool false) :: sw U5 29 3 (.v (.bool rb) :: sw U5 33 16 (.v (.bool gb) :: sw U5 50 23 (.s 3 0 3 3 :: .v (.int .i64 ((3 : Nat) : Int)) :: .v (.int .i64 3) :: .v (.bool true) :: sw U5 77 5 (.v (.bool false) :: sw U5 83 3 (.v undef :: sw U5 87 15 [])))))))) : List SV)) (bx := fun Al U5 => [⟨51, [.v (.int .i64 f.g.rad), .v (.int .i64 f.g.digs), .v (.int .i64 f.g.lo), .v (.int .i64 f.g.hi), .v (.bool f.g.grad)], false⟩, ⟨51, [.v (.int .i64 g.g.rad), .v (.int .i64 g.g.digs), .v (.int .i64 g.g.lo), .v (.int .i64 g.g.hi), .v (.bool g.g.grad)], false⟩, ⟨87, [.v (.bool ((cond gb D4 D3).neg)), .v (.slice px (dig B32 (cond gb D4 D3).m).length cx), .v (.int .i64 ((cond gb D4 D3).e))], false⟩, ⟨87, [.v (.bool D1.neg), .v (.slice p65 (dig B32 D1.m).length c65), .v (.int .i64 D1.e), .v (.bool D2.neg), .v (.slice p71 (dig B32 D2.m).length c71), .v (.int .i64 D2.e), .v (.bool ((cond gb D4 D3).neg)), .v (.slice px (dig B32 (cond gb D4 D3).m).length cx), .v (.int .i64 ((cond gb D4 D3).e))], false⟩, ⟨87, [.v (.bool D1.neg), .v (.slice p65 (dig B32 D1.m).length c65), .v (.int .i64 D1.e)], false⟩, ⟨87, [.v (.bool D2.neg), .v (.slice p71 (dig B32 D2.m).length c71), .v (.int .i64 D2.e)], false⟩, ⟨87, [.v (.bool ((cond gb D4 D3).neg)), .v (.slice px (dig B32 (cond gb D4 D3).m).length cx), .v (.int .i64 ((cond gb D4 D3).e))], false⟩]) fun Al W U5 I => hJ0 _ _ _ _ _ _ I fun I => ?_
   rcases Bool.eq_false_or_eq_true (g.g.rad == 16) with f86 | f86
   · refine zb I 86 (g.g.rad == 16) (true) (f86) fun Al W I => ?_
     refine zi I 89 .i64 (g.g.digs - 1) (g.g.digs - 1) (iwo) fun Al W I => ?_
     refine zi I 90 .i64 ((4 : Int) * (g.g.digs - 1)) ((4 : Int) * (g.g.digs - 1)) (iwo) fun Al W I => ?_
     refine zi I 91 .i64 (((4 : Int) * (g.g.digs - 1)) + 1) (((4 : Int) * (g.g.digs - 1)) + 1) (iwo) fun Al W I => ?_
     refine zi I 95 .i64 (j1 * f.g.digs) ((wid f.g * f.g.digs)) ((by rw [hj1, ← HMD.out]; exact iwo)) fun Al W I => ?_
     rcases Bool.eq_false_or_eq_true (decide ((((4 : Int) * (g.g.digs - 1)) + 1) ≥ (wid f.g * f.g.digs))) with f96 | f96
     · refine zb I 96 (decide ((((4 : Int) * (g.g.digs - 1)) + 1) ≥ (wid f.g * f.g.digs))) (true) (f96) fun Al W I => ?_
       refine zret I (v := fun Al => .tuple #[.bool true, .int .i64 0]) fun Al W I => ?_
       first | exact ⟨by rw [HEX.out, show k1 = false by simpa using f81]; rfl, I.below⟩ | exact ⟨by rw [HEX.out, show k1 = true by simpa using q3, show k2 = false by simpa using f81]; rfl, I.below⟩ | exact ⟨by rw [HEX.out, show k1 = true by simpa using q3, show k2 = true by simpa using q2, show k3 = false by simpa using f81]; rfl, I.below⟩ | exact ⟨by rw [HEX.out, show k1 = true by simpa using q3, show k2 = true by simpa using q2, show k3 = true by simpa using q1, f86]; rfl, I.below⟩ | exact ⟨by rw [HEX.out, show k1 = true by simpa using q3, show k2 = true by simpa using q2, show k3 = true by simpa using q1, f86, f96]; rfl, I.below⟩
     refine zb I 96 (decide ((((4 : Int) * (g.g.digs - 1)) + 1) ≥ (wid f.g * f.g.digs))) (false) (f96) fun Al W I => ?_
     refine zret I (v := fun Al => .tuple #[.bool (f.g.rad == 16), .int .i64 0]) fun Al W I => ?_
     first | exact ⟨by rw [HEX.out, show k1 = false by simpa using f81]; rfl, I.below⟩ | exact ⟨by rw [HEX.out, show k1 = true by simpa using q3, show k2 = false by simpa using f81]; rfl, I.below⟩ | exact ⟨by rw [HEX.out, show k1 = true by simpa using q3, show k2 = true by simpa using q2, show k3 = false by simpa using f81]; rfl, I.below⟩ | exact ⟨by rw [HEX.out, show k1 = true by simpa using q3, show k2 = true by simpa using q2, show k3 = true by simpa using q1, f86]; rfl, I.below⟩ | exact ⟨by rw [HEX.out, show k1 = true by simpa using q3, show k2 = true by simpa using q2, show k3 = true by simpa using q1, f86, f96]; rfl, I.below⟩
   refine zb I 86 (g.g.rad == 16) (false) (f86) fun Al W I => ?_
   refine zret I (v := fun Al => .tuple #[.bool true, .int .i64 0]) fun Al W I => ?_
   first | exact ⟨by rw [HEX.out, show k1 = false by simpa using f81]; rfl, I.below⟩ | exact ⟨by rw [HEX.out, show k1 = true by simpa using q3, show k2 = false by simpa using f81]; rfl, I.below⟩ | exact ⟨by rw [HEX.out, show k1 = true by simpa using q3, show k2 = true by simpa using q2, show k3 = false by simpa using f81]; rfl, I.below⟩ | exact ⟨by rw [HEX.out, show k1 = true by simpa using q3, show k2 = true by simpa using q2, show k3 = true by simpa using q1, f86]; rfl, I.below⟩ | exact ⟨by rw [HEX.out, show k1 = true by simpa using q3, show k2 = true by simpa using q2, show k3 = true by simpa using q1, f86, f96]; rfl, I.below⟩
 refine zn I fun Al W I => ?_
 refine zo 0 I fun I => ?_
 refine zqo I (fun Al W I => e0e W) fun Al W p41 c41 I => ?_
 refine zo 5 I fun I => ?_
 refine zqo I (fun Al W I => (HW3 W p41 c41 I.fa.1.rd I.fa.1.le_cap I.fa.2.2.2.2.2.1).out) fun Al W p46 c46 I => ?_
 refine zo 7 I fun I => ?_
 refine zn I fun Al W I => ?_
 refine zb I 49 (!f.g.grad) (gb) (HGB.out) fun Al W I => ?_
 refine zcut I (some 2000049) (fun fr bx gs => ∃ (U2 : Nat → Value) (px : Option Addr) (cx : Nat), fr = (.v (.int .i64 fm) :: .v (.int .i64 tg) :: su 2 (.v (.bool false) :: .v (.int .i64 0) :: .p 0 0 :: .v (.int .i64 0) :: .p 1 0 :: .v (.int .i64 j1) :: .v (.slice p40 (dig B32 (X - 1)).length c40) :: .p 2 0 :: su 2 (sw U2 14 6 (.v (.bool false) :: sw U2 21 7 (.v (.bool false) :: sw U2 29 3 (.v (.bool rb) :: sw U2 33 16 (.v (.bool gb) :: sw U2 50 23 (su 4 (sw U2 77 5 (.v undef :: sw U2 83 3 (.v undef :: sw U2 87 15 [])))))))))) : List SV) ∧ bx = [⟨51, [.v (.int .i64 f.g.rad), .v (.int .i64 f.g.digs), .v (.int .i64 f.g.lo), .v (.int .i64 f.g.hi), .v (.bool f.g.grad)], false⟩, ⟨51, [.v (.int .i64 g.g.rad), .v (.int .i64 g.g.digs), .v (.int .i64 g.g.lo), .v (.int .i64 g.g.hi), .v (.bool g.g.grad)], false⟩, ⟨87, [.v (.bool ((cond gb D4 D3).neg)), .v (.slice px (dig B32 (cond gb D4 D3).m).length cx), .v (.int .i64 ((cond gb D4 D3).e))], false⟩] ∧ gs = [ownF w.heap.size .u32 76 px cx (dig B32 (cond gb D4 D3).m), ownF w.heap.size .u32 76 p46 c46 (dig B32 D3.m), ownF w.heap.size .u32 76 p41 c41 (dig B32 1), ownF w.heap.size .u32 76 p40 c40 (dig B32 (X - 1)), ownF w.heap.size .u32 76 p39 c39 (dig B32 1), ownF w.heap.size .u32 76 p38 c38 (dig B32 X), ownF w.heap.size .u32 76 p33 c33 (dig B32 1), tabF]) ?_ ?_
 · intro J hJ Al W I
   rcases Bool.eq_false_or_eq_true gb with rfl | rfl
   · refine zd [2] I fun Al W I => ?_
     refine zk [1, 2, 3, 4, 5] I fun I => ?_
     refine zki 6 I .i64 (f.g.lo + f.g.digs) (f.g.lo + f.g.digs) (iwo) fun I => ?_
     refine zki 7 I .i64 ((f.g.lo + f.g.digs) - 1) ((f.g.lo + f.g.digs) - 1) (iwo) fun I => ?_
     refine zki 8 I .i64 (j1 * ((f.g.lo + f.g.digs) - 1)) ((wid f.g * (f.g.lo + f.g.digs - 1))) ((by rw [hj1]; exact iwo)) fun I => ?_
     refine zo 0 I fun I => ?_
     refine zqo I (fun Al W I => e0e W) fun Al W p50 c50 I => ?_
     refine zo 9 I fun I => ?_
     refine zqo I (fun Al W I => (HW4 W p50 c50 I.fa.1.rd I.fa.1.le_cap I.fa.2.2.2.2.2.2.2.1).out) fun Al W p59 c59 I => ?_
     refine zo 10 I fun I => ?_
     refine zn I fun Al W I => ?_
     exact a0q I J fun Al W U I => hJ _ _ _ _ _ ⟨U, p59, c59, rfl, rfl, rfl⟩ (I.pick [0, 2, 3, 4, 5, 6, 7, 8])
   exact a0q I J fun Al W U I => hJ _ _ _ _ _ ⟨U, p46, c46, rfl, rfl, rfl⟩ (I.pick [0, 0, 1, 2, 3, 4, 5, 6])
 rintro _ _ _ ⟨U2, px, cx, rfl, rfl, rfl⟩ Al W I
 refine zd [] I fun Al W I => ?_
 refine zk [0, 1, 2, 3] I fun I => ?_
 refine zki 4 I .i64 (j1 * f.g.hi) ((wid f.g * f.g.hi)) ((by rw [hj1]; exact iwo)) fun I => ?_
 refine zk [6, 7, 8, 9] I fun I => ?_
 refine zki 10 I .i64 (j1 * f.g.lo) ((wid f.g * f.g.lo)) ((by rw [hj1]; exact iwo)) fun I => ?_
 refine zk [12, 15] I fun I => ?_
 refine zo 5 I fun I => ?_
 refine zqo I (fun Al W I => (HW1 W p40 c40 I.fa.2.2.2.1.rd I.fa.2.2.2.1.le_cap I.fa.2.2.2.2.2.2.2.1).out) fun Al W p65 c65 I => ?_
 refine zo 11 I fun I => ?_
 refine zqo I (fun Al W I => (HW2 W p40 c40 I.fa.2.2.2.2.1.rd I.fa.2.2.2.2.1.le_cap I.fa.2.2.2.2.2.2.2.2.1).out) fun Al W p71 c71 I => ?_
 refine zo 13 I fun I => ?_
 refine zn I fun Al W I => ?_
 refine zk [14] I fun I => ?_
 refine zunr I 3 ?_
 rintro J0 hJ0 Al W I
 refine zq I (fun Al W I => (K1 W p65 c65 I.fa.2.1.rd).out) fun Al W I => ?_
 rcases Bool.eq_false_or_eq_true (!k1) with f81 | f81
 · refine zb I 82 (!k1) (true) (f81) fun Al W I => ?_
   refine zret I (v := fun Al => .tuple #[.bool false, .int .i64 0]) fun Al W I => ?_
   first | exact ⟨by rw [HEX.out, show k1 = false by simpa using f81]; rfl, I.below⟩ | exact ⟨by rw [HEX.out, show k1 = true by simpa using q3, show k2 = false by simpa using f81]; rfl, I.below⟩ | exact ⟨by rw [HEX.out, show k1 = true by simpa using q3, show k2 = true by simpa using q2, show k3 = false by simpa using f81]; rfl, I.below⟩ | exact ⟨by rw [HEX.out, show k1 = true by simpa using q3, show k2 = true by simpa using q2, show k3 = true by simpa using q1, f86]; rfl, I.below⟩ | exact ⟨by rw [HEX.out, show k1 = true by simpa using q3, show k2 = true by simpa using q2, show k3 = true by simpa using q1, f86, f96]; rfl, I.below⟩
 refine zb I 82 (!k1) (false) (f81) fun Al W I => ?_
 have q3 := f81
 refine a0q I (J0 3) (fr := fun Al U3 => (.v (.int .i64 fm) :: .v (.int .i64 tg) :: su 2 (.v (.bool false) :: .v (.int .i64 0) :: .p 0 0 :: .v (.int .i64 0) :: .p 1 0 :: .v (.int .i64 j1) :: .v (.slice p40 (dig B32 (X - 1)).length c40) :: .p 2 0 :: .v undef :: .p 4 0 :: sw U3 14 6 (.v (.bool false) :: sw U3 21 7 (.v (.bool false) :: sw U3 29 3 (.v (.bool rb) :: sw U3 33 16 (.v (.bool gb) :: sw U3 50 23 (.s 3 0 3 3 :: .v (.int .i64 ((3 : Nat) : Int)) :: .v (.int .i64 1) :: .v (.bool true) :: sw U3 77 5 (.v (.bool false) :: sw U3 83 3 (.v undef :: sw U3 87 15 [])))))))) : List SV)) (bx := fun Al U3 => [⟨51, [.v (.int .i64 f.g.rad), .v (.int .i64 f.g.digs), .v (.int .i64 f.g.lo), .v (.int .i64 f.g.hi), .v (.bool f.g.grad)], false⟩, ⟨51, [.v (.int .i64 g.g.rad), .v (.int .i64 g.g.digs), .v (.int .i64 g.g.lo), .v (.int .i64 g.g.hi), .v (.bool g.g.grad)], false⟩, ⟨87, [.v (.bool ((cond gb D4 D3).neg)), .v (.slice px (dig B32 (cond gb D4 D3).m).length cx), .v (.int .i64 ((cond gb D4 D3).e))], false⟩, ⟨87, [.v (.bool D1.neg), .v (.slice p65 (dig B32 D1.m).length c65), .v (.int .i64 D1.e), .v (.bool D2.neg), .v (.slice p71 (dig B32 D2.m).length c71), .v (.int .i64 D2.e), .v (.bool ((cond gb D4 D3).neg)), .v (.slice px (dig B32 (cond gb D4 D3).m).length cx), .v (.int .i64 ((cond gb D4 D3).e))], false⟩, ⟨87, [.v (.bool D1.neg), .v (.slice p65 (dig B32 D1.m).length c65), .v (.int .i64 D1.e)], false⟩]) fun Al W U3 I => hJ0 _ _ _ _ _ _ I fun I => ?_
 refine zq I (fun Al W I => (K2 W p71 c71 I.fa.1.rd).out) fun Al W I => ?_
 rcases Bool.eq_false_or_eq_true (!k2) with f81 | f81
 · refine zb I 82 (!k2) (true) (f81) fun Al W I => ?_
   refine zret I (v := fun Al => .tuple #[.bool false, .int .i64 0]) fun Al W I => ?_
   first | exact ⟨by rw [HEX.out, show k1 = false by simpa using f81]; rfl, I.below⟩ | exact ⟨by rw [HEX.out, show k1 = true by simpa using q3, show k2 = false by simpa using f81]; rfl, I.below⟩ | exact ⟨by rw [HEX.out, show k1 = true by simpa using q3, show k2 = true by simpa using q2, show k3 = false by simpa using f81]; rfl, I.below⟩ | exact ⟨by rw [HEX.out, show k1 = true by simpa using q3, show k2 = true by simpa using q2, show k3 = true by simpa using q1, f86]; rfl, I.below⟩ | exact ⟨by rw [HEX.out, show k1 = true by simpa using q3, show k2 = true by simpa using q2, show k3 = true by simpa using q1, f86, f96]; rfl, I.below⟩
 refine zb I 82 (!k2) (false) (f81) fun Al W I => ?_
 have q2 := f81
 refine a0q I (J0 2) (fr := fun Al U4 => (.v (.int .i64 fm) :: .v (.int .i64 tg) :: su 2 (.v (.bool false) :: .v (.int .i64 0) :: .p 0 0 :: .v (.int .i64 0) :: .p 1 0 :: .v (.int .i64 j1) :: .v (.slice p40 (dig B32 (X - 1)).length c40) :: .p 2 0 :: .v undef :: .p 5 0 :: sw U4 14 6 (.v (.bool false) :: sw U4 21 7 (.v (.bool false) :: sw U4 29 3 (.v (.bool rb) :: sw U4 33 16 (.v (.bool gb) :: sw U4 50 23 (.s 3 0 3 3 :: .v (.int .i64 ((3 : Nat) : Int)) :: .v (.int .i64 2) :: .v (.bool true) :: sw U4 77 5 (.v (.bool false) :: sw U4 83 3 (.v undef :: sw U4 87 15 [])))))))) : List SV)) (bx := fun Al U4 => [⟨51, [.v (.int .i64 f.g.rad), .v (.int .i64 f.g.digs), .v (.int .i64 f.g.lo), .v (.int .i64 f.g.hi), .v (.bool f.g.grad)], false⟩, ⟨51, [.v (.int .i64 g.g.rad), .v (.int .i64 g.g.digs), .v (.int .i64 g.g.lo), .v (.int .i64 g.g.hi), .v (.bool g.g.grad)], false⟩, ⟨87, [.v (.bool ((cond gb D4 D3).neg)), .v (.slice px (dig B32 (cond gb D4 D3).m).length cx), .v (.int .i64 ((cond gb D4 D3).e))], false⟩, ⟨87, [.v (.bool D1.neg), .v (.slice p65 (dig B32 D1.m).length c65), .v (.int .i64 D1.e), .v (.bool D2.neg), .v (.slice p71 (dig B32 D2.m).length c71), .v (.int .i64 D2.e), .v (.bool ((cond gb D4 D3).neg)), .v (.slice px (dig B32 (cond gb D4 D3).m).length cx), .v (.int .i64 ((cond gb D4 D3).e))], false⟩, ⟨87, [.v (.bool D1.neg), .v (.slice p65 (dig B32 D1.m).length c65), .v (.int .i64 D1.e)], false⟩, ⟨87, [.v (.bool D2.neg), .v (.slice p71 (dig B32 D2.m).length c71), .v (.int .i64 D2.e)], false⟩]) fun Al W U4 I => hJ0 _ _ _ _ _ _ I fun I => ?_
 refine zq I (fun Al W I => (K3 W px cx I.fa.2.2.1.rd).out) fun Al W I => ?_
 rcases Bool.eq_false_or_eq_true (!k3) with f81 | f81
 · refine zb I 82 (!k3) (true) (f81) fun Al W I => ?_
   refine zret I (v := fun Al => .tuple #[.bool false, .int .i64 0]) fun Al W I => ?_
   first | exact ⟨by rw [HEX.out, show k1 = false by simpa using f81]; rfl, I.below⟩ | exact ⟨by rw [HEX.out, show k1 = true by simpa using q3, show k2 = false by simpa using f81]; rfl, I.below⟩ | exact ⟨by rw [HEX.out, show k1 = true by simpa using q3, show k2 = true by simpa using q2, show k3 = false by simpa using f81]; rfl, I.below⟩ | exact ⟨by rw [HEX.out, show k1 = true by simpa using q3, show k2 = true by simpa using q2, show k3 = true by simpa using q1, f86]; rfl, I.below⟩ | exact ⟨by rw [HEX.out, show k1 = true by simpa using q3, show k2 = true by simpa using q2, show k3 = true by simpa using q1, f86, f96]; rfl, I.below⟩
 refine zb I 82 (!k3) (false) (f81) fun Al W I => ?_
 have q1 := f81
 refine a0q I (J0 1) (fr := fun Al U5 => (.v (.int .i64 fm) :: .v (.int .i64 tg) :: su 2 (.v (.bool false) :: .v (.int .i64 0) :: .p 0 0 :: .v (.int .i64 0) :: .p 1 0 :: .v (.int .i64 j1) :: .v (.slice p40 (dig B32 (X - 1)).length c40) :: .p 2 0 :: .v undef :: .p 6 0 :: sw U5 14 6 (.v (.bool false) :: sw U5 21 7 (.v (.bool false) :: sw U5 29 3 (.v (.bool rb) :: sw U5 33 16 (.v (.bool gb) :: sw U5 50 23 (.s 3 0 3 3 :: .v (.int .i64 ((3 : Nat) : Int)) :: .v (.int .i64 3) :: .v (.bool true) :: sw U5 77 5 (.v (.bool false) :: sw U5 83 3 (.v undef :: sw U5 87 15 [])))))))) : List SV)) (bx := fun Al U5 => [⟨51, [.v (.int .i64 f.g.rad), .v (.int .i64 f.g.digs), .v (.int .i64 f.g.lo), .v (.int .i64 f.g.hi), .v (.bool f.g.grad)], false⟩, ⟨51, [.v (.int .i64 g.g.rad), .v (.int .i64 g.g.digs), .v (.int .i64 g.g.lo), .v (.int .i64 g.g.hi), .v (.bool g.g.grad)], false⟩, ⟨87, [.v (.bool ((cond gb D4 D3).neg)), .v (.slice px (dig B32 (cond gb D4 D3).m).length cx), .v (.int .i64 ((cond gb D4 D3).e))], false⟩, ⟨87, [.v (.bool D1.neg), .v (.slice p65 (dig B32 D1.m).length c65), .v (.int .i64 D1.e), .v (.bool D2.neg), .v (.slice p71 (dig B32 D2.m).length c71), .v (.int .i64 D2.e), .v (.bool ((cond gb D4 D3).neg)), .v (.slice px (dig B32 (cond gb D4 D3).m).length cx), .v (.int .i64 ((cond gb D4 D3).e))], false⟩, ⟨87, [.v (.bool D1.neg), .v (.slice p65 (dig B32 D1.m).length c65), .v (.int .i64 D1.e)], false⟩, ⟨87, [.v (.bool D2.neg), .v (.slice p71 (dig B32 D2.m).length c71), .v (.int .i64 D2.e)], false⟩, ⟨87, [.v (.bool ((cond gb D4 D3).neg)), .v (.slice px (dig B32 (cond gb D4 D3).m).length cx), .v (.int .i64 ((cond gb D4 D3).e))], false⟩]) fun Al W U5 I => hJ0 _ _ _ _ _ _ I fun I => ?_
 rcases Bool.eq_false_or_eq_true (g.g.rad == 16) with f86 | f86
 · refine zb I 86 (g.g.rad == 16) (true) (f86) fun Al W I => ?_
   refine zi I 89 .i64 (g.g.digs - 1) (g.g.digs - 1) (iwo) fun Al W I => ?_
   refine zi I 90 .i64 ((4 : Int) * (g.g.digs - 1)) ((4 : Int) * (g.g.digs - 1)) (iwo) fun Al W I => ?_
   refine zi I 91 .i64 (((4 : Int) * (g.g.digs - 1)) + 1) (((4 : Int) * (g.g.digs - 1)) + 1) (iwo) fun Al W I => ?_
   refine zi I 95 .i64 (j1 * f.g.digs) ((wid f.g * f.g.digs)) ((by rw [hj1, ← HMD.out]; exact iwo)) fun Al W I => ?_
   rcases Bool.eq_false_or_eq_true (decide ((((4 : Int) * (g.g.digs - 1)) + 1) ≥ (wid f.g * f.g.digs))) with f96 | f96
   · refine zb I 96 (decide ((((4 : Int) * (g.g.digs - 1)) + 1) ≥ (wid f.g * f.g.digs))) (true) (f96) fun Al W I => ?_
     refine zret I (v := fun Al => .tuple #[.bool true, .int .i64 0]) fun Al W I => ?_
     first | exact ⟨by rw [HEX.out, show k1 = false by simpa using f81]; rfl, I.below⟩ | exact ⟨by rw [HEX.out, show k1 = true by simpa using q3, show k2 = false by simpa using f81]; rfl, I.below⟩ | exact ⟨by rw [HEX.out, show k1 = true by simpa using q3, show k2 = true by simpa using q2, show k3 = false by simpa using f81]; rfl, I.below⟩ | exact ⟨by rw [HEX.out, show k1 = true by simpa using q3, show k2 = true by simpa using q2, show k3 = true by simpa using q1, f86]; rfl, I.below⟩ | exact ⟨by rw [HEX.out, show k1 = true by simpa using q3, show k2 = true by simpa using q2, show k3 = true by simpa using q1, f86, f96]; rfl, I.below⟩
   refine zb I 96 (decide ((((4 : Int) * (g.g.digs - 1)) + 1) ≥ (wid f.g * f.g.digs))) (false) (f96) fun Al W I => ?_
   refine zret I (v := fun Al => .tuple #[.bool (f.g.rad == 16), .int .i64 0]) fun Al W I => ?_
   first | exact ⟨by rw [HEX.out, show k1 = false by simpa using f81]; rfl, I.below⟩ | exact ⟨by rw [HEX.out, show k1 = true by simpa using q3, show k2 = false by simpa using f81]; rfl, I.below⟩ | exact ⟨by rw [HEX.out, show k1 = true by simpa using q3, show k2 = true by simpa using q2, show k3 = false by simpa using f81]; rfl, I.below⟩ | exact ⟨by rw [HEX.out, show k1 = true by simpa using q3, show k2 = true by simpa using q2, show k3 = true by simpa using q1, f86]; rfl, I.below⟩ | exact ⟨by rw [HEX.out, show k1 = true by simpa using q3, show k2 = true by simpa using q2, show k3 = true by simpa using q1, f86, f96]; rfl, I.below⟩
 refine zb I 86 (g.g.rad == 16) (false) (f86) fun Al W I => ?_
 refine zret I (v := fun Al => .tuple #[.bool true, .int .i64 0]) fun Al W I => ?_
 first | exact ⟨by rw [HEX.out, show k1 = false by simpa using f81]; rfl, I.below⟩ | exact ⟨by rw [HEX.out, show k1 = true by simpa using q3, show k2 = false by simpa using f81]; rfl, I.below⟩ | exact ⟨by rw [HEX.out, show k1 = true by simpa using q3, show k2 = true by simpa using q2, show k3 = false by simpa using f81]; rfl, I.below⟩ | exact ⟨by rw [HEX.out, show k1 = true by simpa using q3, show k2 = true by simpa using q2, show k3 = true by simpa using q1, f86]; rfl, I.below⟩ | exact ⟨by rw [HEX.out, show k1 = true by simpa using q3, show k2 = true by simpa using q2, show k3 = true by simpa using q1, f86, f96]; rfl, I.below⟩
def eEx (fm tg : Int) : Int := if IsFm fm ∧ IsFm tg then 0 else 6
def oEx (fm tg : Int) : Bool := if IsFm fm ∧ IsFm tg then k0q (fmt fm) (fmt tg) else false
theorem p0g (fm tg : Int) (w : World) (hT : TabW w) :
 Calls Tryd.prog 30 #[.int .i64 fm, .int .i64 tg] w fun en w' => en = .returned (.tuple #[.bool (oEx fm tg), .int .i64 (eEx fm tg)]) ∧ Below w.heap.size w w' := by
 unfold oEx eEx
 have HG1 := fun W => hi0 (h0s fm W)
 have HG2 := fun W => hi0 (h0s tg W)
 by_cases hf : IsFm fm
 · by_cases ht : IsFm tg
   · rw [if_pos ⟨hf, ht⟩, if_pos ⟨hf, ht⟩]
     exact a1l fm tg w hf ht hT
   · rw [if_neg (fun h => ht h.2), if_neg (fun h => ht h.2)]
     have e1 : b0p fm = 0 := by unfold b0p; rw [if_pos hf]
     have e2 : b0p tg = 6 := by unfold b0p; rw [if_neg ht]
     rw [e1] at HG1
     rw [e2] at HG2
     generalize fmt fm = f at *
     generalize fmt tg = g at *
     have I := Inv.start w [] True.intro
     refine a0c [.v (.int .i64 fm), .v (.int .i64 tg)] I Tryd.func30 ?_
     refine zq I (fun Al W I => (HG1 W).out) fun Al W I => ?_
     refine zq I (fun Al W I => (HG2 W).out) fun Al W I => ?_
     exact zrb I
 · rw [if_neg (fun h => hf h.1), if_neg (fun h => hf h.1)]
   have e1 : b0p fm = 6 := by unfold b0p; rw [if_neg hf]
   rw [e1] at HG1
   generalize fmt fm = f at *
   have I := Inv.start w [] True.intro
   refine a0c [.v (.int .i64 fm), .v (.int .i64 tg)] I Tryd.func30 ?_
   refine zq I (fun Al W I => (HG1 W).out) fun Al W I => ?_
   exact zrb I
def eCv (fr tg way : Int) (s : ByteArray) : Int := if IsFm fr ∧ IsFm tg then (if a0v fr s = 0 then (if 1 ≤ way ∧ way ≤ 5 then 0 else 6) else a0v fr s) else 6
def oCv (fr tg way : Int) (s : ByteArray) : ByteArray := if eCv fr tg way s = 0 then strR tg ((fmt tg).takeM (refD fr s) way).1 else b0a []
def fCv (fr tg way : Int) (s : ByteArray) : Nat := if eCv fr tg way s = 0 then ((fmt tg).takeM (refD fr s) way).2 else 0
theorem e0f (fr tg way : Int) (s : ByteArray) (w : World) (hT : TabW w) :
 Calls Tryd.prog 41 #[.int .i64 fr, .string s, .int .i64 tg, .int .i64 way] w fun en w' => en = .returned (.tuple #[.string (oCv fr tg way s), .int .i64 ((fCv fr tg way s : Nat) : Int), .int .i64 (eCv fr tg way s)]) ∧ Below w.heap.size w w' := by
 have HS1 := fun W => hi0 (s0i fr W)
 have HS2 := fun W => hi0 (s0i tg W)
 unfold oCv fCv
 by_cases hf : IsFm fr
 · have e1 : b0p fr = 0 := by unfold b0p; rw [if_pos hf]
   rw [e1] at HS1
   by_cases ht : IsFm tg
   · have e2 : b0p tg = 0 := by unfold b0p; rw [if_pos ht]
     rw [e2] at HS2
     have hE : eCv fr tg way s = if a0v fr s = 0 then (if 1 ≤ way ∧ way ≤ 5 then 0 else 6) else a0v fr s := if_pos ⟨hf, ht⟩
     have HD := fun W h => hi0 (g0c fr s W h)
     by_cases hp : a0v fr s = 0
     · rw [hp] at HD
       by_cases hw : 1 ≤ way ∧ way ≤ 5
       · have h0 : eCv fr tg way s = 0 := by rw [hE, if_pos hp, if_pos hw]
         simp only [h0, if_true]
         have HO := fun W => hi0 (q0w tg way W ht hw)
         have F := q0x (s := s) hf
         have V := i0x hp
         have HX := fun W p c b h1 h2 => hi0 (s0n fr (decP fr s) (refD fr s) p c b W hf h1 V F.ok h2)
         have HT := fun W p q c d b u h1 h2 h3 h4 h5 => hi0 (g1c (fmt tg) (fmt fr) tg way (decP fr s) (refD fr s) p q c d b u W h1 h2 h3 h4 V F.ok (c0j ht) hw h5)
         have RS := d1y (c0j ht) F.ok way
         obtain ⟨rS, flS, hS⟩ : ∃ rS flS, (fmt tg).takeM (refD fr s) way = (rS, flS) := ⟨_, _, rfl⟩
         rw [hS] at HT RS ⊢
         have HTL := fun W (v : Vl) p c b u h1 h2 h3 h4 => hi0 (b1m tg way (flS : Int) ⟨v, p, c⟩ rS b u W h1 h2 ht h3 RS h4)
         rw [show b0a ((fmt tg).strP ((fmt tg).encP rS.cls rS.neg rS.x)) = strR tg rS from rfl] at HTL
         simp only
         clear hS RS h0 V F hE e1 e2
         generalize strR tg rS = str at *
         generalize decP fr s = v at *
         generalize refD fr s = r at *
         generalize fmt fr = g at *
         generalize fmt tg = f at *
         have I := Inv.start w [tabF] ⟨hT, True.intro⟩
         refine a0c [.v (.int .i64 fr), .v (.string s), .v (.int .i64 tg), .v (.int .i64 way)] I Tryd.func41 ?_
         refine zunr I 2 ?_
         rintro J0 hJ0 Al W I
         refine zq I (fun Al W I => (HS1 W).out) fun Al W I => ?_
         refine a0q I (J0 2) (fr := fun Al U1 => (.v (.int .i64 fr) :: .v (.string s) :: .v (.int .i64 tg) :: .v (.int .i64 way) :: su 4 (.v (Go.Value.string (ByteArray.mk #[])) :: .v (.int .i64 0) :: .v (.int .i64 0) :: .v undef :: .v (.int .i64 fr) :: .v (U1 13) :: .v (.int .i64 0) :: su 3 (sw U1 18 2 (.s 0 0 2 2 :: .v (.int .i64 ((2 : Nat) : Int)) :: .v (.int .i64 1) :: .v (.bool true) :: sw U1 24 8 (.v (.bool false) :: sw U1 33 9 (.v undef :: sw U1 43 8 (.v undef :: sw U1 52 12 [])))))) : List SV)) (bx := fun Al U1 => [⟨3, [.v (.int .i64 fr), .v (.int .i64 tg)], false⟩]) fun Al W U1 I => hJ0 _ _ _ _ _ _ I fun I => ?_
         refine zq I (fun Al W I => (HS2 W).out) fun Al W I => ?_
         refine a0q I (J0 1) (fr := fun Al U2 => (.v (.int .i64 fr) :: .v (.string s) :: .v (.int .i64 tg) :: .v (.int .i64 way) :: su 4 (.v (Go.Value.string (ByteArray.mk #[])) :: .v (.int .i64 0) :: .v (.int .i64 0) :: .v undef :: .v (.int .i64 tg) :: .v (U2 13) :: .v (.int .i64 0) :: su 3 (sw U2 18 2 (.s 0 0 2 2 :: .v (.int .i64 ((2 : Nat) : Int)) :: .v (.int .i64 2) :: .v (.bool true) :: sw U2 24 8 (.v (.bool false) :: sw U2 33 9 (.v undef :: sw U2 43 8 (.v undef :: sw U2 52 12 [])))))) : List SV)) (bx := fun Al U2 => [⟨3, [.v (.int .i64 fr), .v (.int .i64 tg)], false⟩]) fun Al W U2 I => hJ0 _ _ _ _ _ _ I fun I => ?_
         refine zqo I (fun Al W I => (HD W I.fa.1).out) fun Al W p38 c38 I => ?_
         refine zg I (fun Al W I => (HO W).out) fun Al V Iv _ hB _ kz => ?_
         rintro _ W ⟨u47, rfl, hge, hB, hb⟩
         refine ⟨_, rfl, kz _ _ hb fun I => ?_⟩
         refine f1e Iv hb 2 u47 153 [(.int .i64 tg), (.int .i64 way), (.int .i64 f.g.rad), (.int .i64 f.g.digs), (.int .i64 f.g.lo), (.int .i64 f.g.hi), (.bool f.g.grad), (.int .u8 (famB f)), (.int .i64 0)] hge hB fun Al hAl_47 I => ?_
         refine f1f I 48 2 u47 hAl_47 fun Al W I => ?_
         refine zd [2] I fun Al W I => ?_
         refine zk [0, 1, 2, 3, 4] I fun I => ?_
         refine zo 5 I fun I => ?_
         refine zqo I (fun Al W I => (HX W p38 c38 _ I.fa.1 I.fa.2.1).out) fun Al W p58 c58 I => ?_
         refine zo 6 I fun I => ?_
         refine zge I 2 153 (fun Al W I => (HT W p38 p58 c38 c58 _ _ (I.box 2 153 _) I.fa.2.1 I.fa.1 I.bel.size I.fa.2.2.1).out) fun Al V Iv _ _ kz => ?_
         rintro _ W ⟨v59, hR59, p59, c59, rfl, o59, hO, hB⟩
         refine ⟨_, rfl, kz _ (uS f tg way (flS : Int)) _ hO hB fun I => ?_⟩
         have I := I.own o59
         refine zo 7 I fun I => ?_
         refine zq I (fun Al W I => (HTL W v59 p59 c59 _ _ (I.box 2 153 _) I.fa.1 hR59 I.fa.2.2.2.1).out) fun Al W I => ?_
         refine zk [8, 9, 10, 11, 12, 13] I fun I => ?_
         exact zrb I
       · have h0 : eCv fr tg way s = 6 := by rw [hE, if_pos hp, if_neg hw]
         simp only [h0, show ((6 : Int) = 0) = False by simp, if_false]
         have HO := fun W => hi0 (n0o tg way W (fun h => hw h.2))
         clear h0 hE e1 e2
         generalize decP fr s = v at *
         generalize fmt fr = g at *
         generalize fmt tg = f at *
         have I := Inv.start w [tabF] ⟨hT, True.intro⟩
         refine a0c [.v (.int .i64 fr), .v (.string s), .v (.int .i64 tg), .v (.int .i64 way)] I Tryd.func41 ?_
         refine zunr I 2 ?_
         rintro J0 hJ0 Al W I
         refine zq I (fun Al W I => (HS1 W).out) fun Al W I => ?_
         refine a0q I (J0 2) (fr := fun Al U1 => (.v (.int .i64 fr) :: .v (.string s) :: .v (.int .i64 tg) :: .v (.int .i64 way) :: su 4 (.v (Go.Value.string (ByteArray.mk #[])) :: .v (.int .i64 0) :: .v (.int .i64 0) :: .v undef :: .v (.int .i64 fr) :: .v (U1 13) :: .v (.int .i64 0) :: su 3 (sw U1 18 2 (.s 0 0 2 2 :: .v (.int .i64 ((2 : Nat) : Int)) :: .v (.int .i64 1) :: .v (.bool true) :: sw U1 24 8 (.v (.bool false) :: sw U1 33 9 (.v undef :: sw U1 43 8 (.v undef :: sw U1 52 12 [])))))) : List SV)) (bx := fun Al U1 => [⟨3, [.v (.int .i64 fr), .v (.int .i64 tg)], false⟩]) fun Al W U1 I => hJ0 _ _ _ _ _ _ I fun I => ?_
         refine zq I (fun Al W I => (HS2 W).out) fun Al W I => ?_
         refine a0q I (J0 1) (fr := fun Al U2 => (.v (.int .i64 fr) :: .v (.string s) :: .v (.int .i64 tg) :: .v (.int .i64 way) :: su 4 (.v (Go.Value.string (ByteArray.mk #[])) :: .v (.int .i64 0) :: .v (.int .i64 0) :: .v undef :: .v (.int .i64 tg) :: .v (U2 13) :: .v (.int .i64 0) :: su 3 (sw U2 18 2 (.s 0 0 2 2 :: .v (.int .i64 ((2 : Nat) : Int)) :: .v (.int .i64 2) :: .v (.bool true) :: sw U2 24 8 (.v (.bool false) :: sw U2 33 9 (.v undef :: sw U2 43 8 (.v undef :: sw U2 52 12 [])))))) : List SV)) (bx := fun Al U2 => [⟨3, [.v (.int .i64 fr), .v (.int .i64 tg)], false⟩]) fun Al W U2 I => hJ0 _ _ _ _ _ _ I fun I => ?_
         refine zqo I (fun Al W I => (HD W I.fa.1).out) fun Al W p38 c38 I => ?_
         refine zq I (fun Al W I => (HO W).out) fun Al W I => ?_
         exact zrb I
     · have h0 : eCv fr tg way s = a0v fr s := by rw [hE, if_neg hp]
       simp only [h0, if_neg hp]
       clear h0 hE e1 e2
       generalize decP fr s = v at *
       generalize a0v fr s = ep at *
       generalize fmt fr = g at *
       generalize fmt tg = f at *
       have I := Inv.start w [tabF] ⟨hT, True.intro⟩
       refine a0c [.v (.int .i64 fr), .v (.string s), .v (.int .i64 tg), .v (.int .i64 way)] I Tryd.func41 ?_
       refine zunr I 2 ?_
       rintro J0 hJ0 Al W I
       refine zq I (fun Al W I => (HS1 W).out) fun Al W I => ?_
       refine a0q I (J0 2) (fr := fun Al U1 => (.v (.int .i64 fr) :: .v (.string s) :: .v (.int .i64 tg) :: .v (.int .i64 way) :: su 4 (.v (Go.Value.string (ByteArray.mk #[])) :: .v (.int .i64 0) :: .v (.int .i64 0) :: .v undef :: .v (.int .i64 fr) :: .v (U1 13) :: .v (.int .i64 0) :: su 3 (sw U1 18 2 (.s 0 0 2 2 :: .v (.int .i64 ((2 : Nat) : Int)) :: .v (.int .i64 1) :: .v (.bool true) :: sw U1 24 8 (.v (.bool false) :: sw U1 33 9 (.v undef :: sw U1 43 8 (.v undef :: sw U1 52 12 [])))))) : List SV)) (bx := fun Al U1 => [⟨3, [.v (.int .i64 fr), .v (.int .i64 tg)], false⟩]) fun Al W U1 I => hJ0 _ _ _ _ _ _ I fun I => ?_
       refine zq I (fun Al W I => (HS2 W).out) fun Al W I => ?_
       refine a0q I (J0 1) (fr := fun Al U2 => (.v (.int .i64 fr) :: .v (.string s) :: .v (.int .i64 tg) :: .v (.int .i64 way) :: su 4 (.v (Go.Value.string (ByteArray.mk #[])) :: .v (.int .i64 0) :: .v (.int .i64 0) :: .v undef :: .v (.int .i64 tg) :: .v (U2 13) :: .v (.int .i64 0) :: su 3 (sw U2 18 2 (.s 0 0 2 2 :: .v (.int .i64 ((2 : Nat) : Int)) :: .v (.int .i64 2) :: .v (.bool true) :: sw U2 24 8 (.v (.bool false) :: sw U2 33 9 (.v undef :: sw U2 43 8 (.v undef :: sw U2 52 12 [])))))) : List SV)) (bx := fun Al U2 => [⟨3, [.v (.int .i64 fr), .v (.int .i64 tg)], false⟩]) fun Al W U2 I => hJ0 _ _ _ _ _ _ I fun I => ?_
       refine zqo I (fun Al W I => (HD W I.fa.1).out) fun Al W p38 c38 I => ?_
       refine zb I 42 (ep != 0) (true) (bne_iff_ne.2 hp) fun Al W I => ?_
       exact zrb I
   · have e2 : b0p tg = 6 := by unfold b0p; rw [if_neg ht]
     rw [e2] at HS2
     have h0 : eCv fr tg way s = 6 := if_neg fun h => ht h.2
     simp only [h0, show ((6 : Int) = 0) = False by simp, if_false]
     clear h0 e1 e2
     generalize fmt fr = g at *
     generalize fmt tg = f at *
     have I := Inv.start w [] True.intro
     refine a0c [.v (.int .i64 fr), .v (.string s), .v (.int .i64 tg), .v (.int .i64 way)] I Tryd.func41 ?_
     refine zunr I 1 ?_
     rintro J0 hJ0 Al W I
     refine zq I (fun Al W I => (HS1 W).out) fun Al W I => ?_
     refine a0q I (J0 1) (fr := fun Al U1 => (.v (.int .i64 fr) :: .v (.string s) :: .v (.int .i64 tg) :: .v (.int .i64 way) :: su 4 (.v (Go.Value.string (ByteArray.mk #[])) :: .v (.int .i64 0) :: .v (.int .i64 0) :: .v undef :: .v (.int .i64 fr) :: .v (U1 13) :: .v (.int .i64 0) :: su 3 (sw U1 18 2 (.s 0 0 2 2 :: .v (.int .i64 ((2 : Nat) : Int)) :: .v (.int .i64 1) :: .v (.bool true) :: sw U1 24 8 (.v (.bool false) :: sw U1 33 9 (.v undef :: sw U1 43 8 (.v undef :: sw U1 52 12 [])))))) : List SV)) (bx := fun Al U1 => [⟨3, [.v (.int .i64 fr), .v (.int .i64 tg)], false⟩]) fun Al W U1 I => hJ0 _ _ _ _ _ _ I fun I => ?_
     refine zq I (fun Al W I => (HS2 W).out) fun Al W I => ?_
     exact zrb I
 · have e1 : b0p fr = 6 := by unfold b0p; rw [if_neg hf]
   rw [e1] at HS1
   have h0 : eCv fr tg way s = 6 := if_neg fun h => hf h.1
   simp only [h0, show ((6 : Int) = 0) = False by simp, if_false]
   clear h0 e1
   generalize fmt fr = g at *
   have I := Inv.start w [] True.intro
   refine a0c [.v (.int .i64 fr), .v (.string s), .v (.int .i64 tg), .v (.int .i64 way)] I Tryd.func41 ?_
   refine zunr I 1 ?_
   rintro J0 hJ0 Al W I
   refine zq I (fun Al W I => (HS1 W).out) fun Al W I => ?_
   exact zrb I
theorem g1d {a : Dv} {e : Int} (h : zOf a e = 0) : a.m = 0 := by
 unfold zOf sg at h
 have hp : 0 < 2 ^ (a.e - e).toNat := Nat.pow_pos (by omega)
 rcases Nat.eq_zero_or_pos a.m with k | k
 · exact k
 · have hq := Nat.mul_pos k hp
   have hz : (a.m : Int) * 2 ^ (a.e - e).toNat ≠ 0 := by
    have : (((a.m * 2 ^ (a.e - e).toNat : Nat)) : Int) ≠ 0 := by omega
    simpa using this
   split at h <;> first | exact absurd h hz | (exfalso; apply hz; simpa using h)
end Go.Proofs.YtmacohmclpnphaaDoor
namespace Go.Slip
end Go.Slip
namespace Go.Proofs.YtmacohmclpnphaaDoor
open Go.RowKit Go.Slip
theorem r0b {f : Fm} (G : b0l f) {s : Bool} {m : Nat} {e way : Int} (hm : m ≠ 0) (hin : a0k (bare ⟨s, m, e⟩) f.g = true) : f.placedM (a0j s m 1 e f.g way) way = (⟨2, s, bare ⟨s, m, e⟩⟩, 0) := by
 have GG := b0i G.g
 obtain ⟨h1, h2⟩ := n0l (way := way) GG hin
 have hex := o0y (show 0 < 1 by omega) GG ((n0l (way := 5) GG hin).1.trans (n0l (way := 4) GG hin).1.symm) way
 obtain ⟨b1, b2⟩ := k0o (g := s) (e := e) hm
 have hneg : (a0j s m 1 e f.g way).neg = s := by unfold a0j; rw [if_neg hm]; rfl
 have hgr := G.grad
 unfold rv at h1
 generalize a0j s m 1 e f.g way = p at *
 unfold okP at h2
 simp only [Bool.and_eq_true, Bool.not_eq_true', Bool.or_eq_true] at h2
 obtain ⟨ho, hu⟩ := h2
 have hd : p.d ≠ 0 := fun h => by rw [h, g0e] at h1; rw [← h1] at b2; exact b2 rfl
 have hf : p.under = true → f.fam = 1 := fun h => by
  rcases hu with k | k
  · rw [h] at k; cases k
  · rw [hgr] at k; exact oTr k
 unfold Fm.placedM
 rw [ho, if_neg (by decide), if_neg (fun h => h.2.1 (hf h.1)), if_neg hd, h1, hneg]
 unfold Fm.flP
 rw [hex]
 by_cases hu : p.under = true
 · rw [if_pos hu, if_pos (hf hu)]; rfl
 · rw [if_neg hu]; rfl
theorem a1m {f : Fm} (G : b0l f) {x : Dv} {way : Int} (hB : Bare x) (hm : x.m ≠ 0) (hin : a0k x f.g = true) : f.numM x way = (⟨2, x.neg, x⟩, 0) := by
 have hx : bare (⟨x.neg, x.m, x.e⟩ : Dv) = x := j0g hB
 unfold Fm.numM
 rw [if_neg hm, r0b G hm (by rw [hx]; exact hin), hx]
/-! ### The number 1 -/
theorem t0x (x : Dv) : (e0p x (b0y x)).m = 0 := by
 have := v0b x (b0y x) (e := min x.e 0) (by omega) (show min x.e 0 ≤ x.e by omega)
 rw [l0c, Int.add_right_neg] at this
 exact g1d this
theorem sub_self {f : Fm} {r : Vr} (hc : r.cls ≤ 2) (way : Int) : ∃ g, f.addM r r.opp way = (f.zeroM g, 0) := by
 have ho : r.opp = ⟨r.cls, !r.neg, b0y r.x⟩ := by unfold Vr.opp; rw [if_pos (by omega)]
 rw [ho]
 unfold Fm.addM
 rw [if_neg (by simp only; omega), if_neg (by simp only; omega)]
 unfold Fm.sumM
 rw [if_neg (by rw [t0x]; simp)]
 split
 · exact ⟨_, rfl⟩
 · exact ⟨_, rfl⟩
theorem t0y {a : Dv} {g : Gd} (h : a.m ≠ 0) : a0k a g = true ↔ ((wid g : Int) * g.lo ≤ a.e ∧ topD a ≤ wid g * (g.hi + g.digs)) ∧ ((topD a - 1) / (wid g : Int) - g.digs.toNat + 1 < g.lo → g.grad = true ∧ (wid g : Int) * g.lo ≤ a.e) ∧ (g.lo ≤ (topD a - 1) / (wid g : Int) - g.digs.toNat + 1 → (wid g : Int) * ((topD a - 1) / (wid g : Int) - g.digs.toNat + 1) ≤ a.e) := by
 unfold a0k upK
 rw [if_neg h]
 generalize (topD a - 1) / (wid g : Int) - g.digs.toNat + 1 = K
 by_cases c : a.e < wid g * g.lo ∨ wid g * (g.hi + g.digs) < topD a
 · rw [if_pos c]
   constructor
   · intro k; cases k
   · intro k; omega
 · rw [if_neg c]
   by_cases d : K < g.lo
   · rw [if_pos d]
     cases g.grad
     · simp only [Bool.false_eq_true, if_false, false_iff]
       intro k
       have := (k.2.1 d).1
       cases this
     · simp only [if_true, decide_eq_true_eq, true_and]
       constructor
       · intro k; exact ⟨by omega, fun _ => k, fun q => by omega⟩
       · intro k; exact k.2.1 d
   · rw [if_neg d, decide_eq_true_eq]
     constructor
     · intro k; exact ⟨by omega, fun q => absurd q d, fun _ => k⟩
     · intro k; exact k.2.2 (by omega)
theorem s0o {fm tg : Int} (hf : IsFm fm) (ht : IsFm tg) (hE : k0q (fmt fm) (fmt tg) = true) {x : Dv} (hx : a0k x (fmt fm).g = true) : a0k x (fmt tg).g = true := by
 by_cases h0 : x.m = 0
 · unfold a0k; rw [if_pos h0]
 · rw [t0y h0] at hx ⊢
   have hT : x.e < topD x := by
    have := (c0o x.m).2 (by omega)
    unfold topD; omega
   generalize topD x = T at *
   generalize x.e = e at *
   rcases i0w hf with rfl | rfl | rfl | rfl | rfl | rfl | rfl | rfl <;> rcases i0w ht with rfl | rfl | rfl | rfl | rfl | rfl | rfl | rfl <;>
    first
    | (exfalso; revert hE; decide +kernel)
    | (simp [fmt, wid] at hx ⊢; omega)
theorem x0x {f : Fm} (G : b0l f) {r : Vr} (R : VrOk r) (h2 : r.cls = 2) (hin : a0k r.x f.g = true) (way : Int) : f.takeM r way = (r, 0) ∧ ResF f r := by
 obtain ⟨x1, x2⟩ := R.x2 h2
 have hr : (⟨2, r.x.neg, r.x⟩ : Vr) = r := by cases r; simp only at h2 x2; rw [h2, x2]
 refine ⟨?_, R.c, fun h => by omega, fun _ => ⟨hin, R.bare, x1, x2⟩, fun h => by omega, fun h => by omega, fun h => by omega, fun h => absurd h2 h⟩
 unfold Fm.takeM
 rw [if_neg (by omega), if_pos h2, a1m G R.bare x1 hin, hr]
end Go.Proofs.YtmacohmclpnphaaDoor
namespace Go.Slip
open Go.RowKit
end Go.Slip
namespace Go.Proofs.YtmacohmclpnphaaDoor
open Go.RowKit Go.Slip
structure Wp where
 r : Vr
 p : Option Addr
 c : Nat
def Wp.cells (x : Wp) : List Value := [.int .i64 (x.r.cls : Int), .bool x.r.neg, .bool x.r.x.neg, .slice x.p (dig B16 x.r.x.m).length x.c, .int .i64 x.r.x.e]
theorem Wp.len (x : Wp) : x.cells.length = 5 := rfl
structure TnD (a : Dv) : Prop where
 len : (dig B32 a.m).length ≤ 40
 lo : -38000 ≤ a.e
 hi : a.e ≤ 38000
theorem VrOk.tn {r : Vr} (R : VrOk r) : TnD r.x := ⟨by have := R.len; omega, by have := R.lo; omega, by have := R.hi; omega⟩
theorem TnD.sm {a : Dv} (h : TnD a) : SmD a := ⟨by have := h.len; omega, by have := h.lo; omega, by have := h.hi; omega⟩
theorem a1n {n : Int} {s : ByteArray} (h : a0v n s ≠ 0) : (decP n s).cls = 0 := by unfold decP; rw [if_neg h]; rfl
theorem s0p {n : Int} {s : ByteArray} (h : a0v n s = 0) : (decP n s).cls = (refD n s).cls := (i0x h).cls
theorem p0h (n : Int) (s : ByteArray) (w : World) (hT : TabW w) : Calls Tryd.prog 22 #[.int .i64 n, .string s] w fun en w' => en = .returned (.int .i64 (((decP n s).cls : Nat) : Int)) ∧ Below w.heap.size w w' := by
 have HC := fun W h => hi0 (x0h n s W h)
 have hb := fun h => a1n (n := n) (s := s) h
 generalize (if a0v n s = 0 then (fmt n).neg (a0i (fmt n) s) else false) = g at *
 generalize a0v n s = er at *
 generalize (decP n s).cls = c at *
 have I := Inv.start w [tabF] ⟨hT, True.intro⟩
 refine a0c [.v (.int .i64 n), .v (.string s)] I Tryd.func22 ?_
 refine zq I (fun Al W I => (HC W I.fa.1).out) fun Al W I => ?_
 rcases Bool.eq_false_or_eq_true (er != 0) with f16 | f16
 · refine zb I 16 (er != 0) (true) (f16) fun Al W I => ?_
   exact zret I (v := fun Al => .int .i64 0) fun Al W I => ⟨by rw [hb (bne_iff_ne.1 f16)]; rfl, I.below⟩
 refine zb I 16 (er != 0) (false) (f16) fun Al W I => ?_
 exact zrb I
theorem t0z {f : Fm} {cls : Int} {a : Din} (hc : cls = 2) (h : a0g f cls a = 0) : a0k (numD f a) f.g = true := by
 subst hc
 unfold a0g at h
 split at h
 · omega
 · split at h
   · contradiction
   · split at h
     · omega
     · rw [if_pos rfl] at h
       split at h
       · omega
       · split at h
         · omega
         · rename_i k
           cases q : a0k (numD f a) f.g
           · exact absurd (.inr q) k
           · rfl
theorem s0q {n : Int} {s : ByteArray} (hp : a0v n s = 0) (p : Option Addr) (c : Nat) (h : d0d n ((decP n s).cls : Nat) (dinV (decP n s) p c) = 0) :
 f0v (fmt n) ((decP n s).cls : Nat) (dinV (decP n s) p c) = strR n (refD n s) ∧ ((refD n s).cls = 2 → a0k (refD n s).x (fmt n).g = true) := by
 have V := i0x hp
 have hn := (c0r.1 hp).1
 unfold d0d at h
 rw [if_pos hn] at h
 have hx : (refD n s).cls = 2 → numD (fmt n) (dinV (decP n s) p c) = (refD n s).x := fun h2 => by
  rw [← V.num h2]
  unfold numD dinV
  simp only [a0z a0a]
 refine ⟨?_, fun h2 => ?_⟩
 · unfold f0v strR
   rw [Int.toNat_natCast, V.cls, show (dinV (decP n s) p c).g = (refD n s).neg from V.neg]
   by_cases h2 : (refD n s).cls = 2
   · rw [hx h2]
   · rw [l0s (fmt n) h2 _ _ (refD n s).x]
 · rw [← hx h2]
   exact t0z (by rw [V.cls, h2]; rfl) h
theorem i0y {fm tg way : Int} {s : ByteArray} (h : eCv fm tg way s = 0) : IsFm fm ∧ IsFm tg ∧ a0v fm s = 0 ∧ 1 ≤ way ∧ way ≤ 5 := by
 unfold eCv at h
 split at h
 · rename_i k
   split at h
   · rename_i hp
     split at h
     · rename_i hw; exact ⟨k.1, k.2, hp, hw⟩
     · omega
   · rename_i hp; exact absurd h hp
 · omega
theorem g1e {fm tg way : Int} {s : ByteArray} (hf : IsFm fm) (ht : IsFm tg) (hp : a0v fm s = 0) (hw : 1 ≤ way ∧ way ≤ 5) : eCv fm tg way s = 0 := by
 unfold eCv; rw [if_pos ⟨hf, ht⟩, if_pos hp, if_pos hw]
theorem k0r {fm tg way : Int} {s : ByteArray} (h : eCv fm tg way s = 0) (hc : (refD fm s).cls = 2) (hin : a0k (refD fm s).x (fmt tg).g = true) :
 oCv fm tg way s = strR tg (refD fm s) ∧ fCv fm tg way s = 0 ∧ a0v tg (strR tg (refD fm s)) = 0 ∧ refD tg (strR tg (refD fm s)) = refD fm s := by
 obtain ⟨hf, ht, hp, hw⟩ := i0y h
 obtain ⟨k, R⟩ := x0x (c0j ht) (q0x (s := s) hf).ok hc hin way
 obtain ⟨q1, q2⟩ := s0m ht R
 unfold oCv fCv
 rw [if_pos h, if_pos h, k]
 exact ⟨rfl, rfl, q1, q2⟩
theorem s0r (n : Int) (s : ByteArray) (W : World) (p : Option Addr) (c b : Nat) (ho : Own W b .u32 76 p c (dig B32 (decP n s).d)) (h : TabW W) :
 Calls Tryd.prog 26 #[.int .i64 n, .agg #[.int .i64 (((decP n s).cls : Nat) : Int), .bool (decP n s).neg, .slice p (dig B32 (decP n s).d).length c, .int .i64 (decP n s).pow]] W fun en w' => en = .returned (.tuple #[.string (if d0d n ((decP n s).cls : Nat) (dinV (decP n s) none 0) = 0 then f0v (fmt n) ((decP n s).cls : Nat) (dinV (decP n s) none 0) else b0a []), .int .i64 (d0d n ((decP n s).cls : Nat) (dinV (decP n s) none 0))]) ∧ Below W.heap.size W w' :=
 l0r n ((decP n s).cls : Nat) (dinV (decP n s) p c) W (x0q ho (by
   unfold decP
   by_cases h0 : a0v n s = 0
   · rw [if_pos h0]; exact (d1n (c0j (c0r.1 h0).1) s).vlen
   · rw [if_neg h0]; show (dig B32 0).length ≤ _; rw [a0d]; decide)) h
theorem p0i (fm : Int) (s : ByteArray) (tg way : Int) (w : World) (hT : TabW w) : Calls Tryd.prog 10 #[.int .i64 fm, .string s, .int .i64 tg, .int .i64 way] w fun en w' => en = .returned (.bool true) ∧ Below w.heap.size w w' := by
 have HB0 := fun W h => hi0 (h0t W h)
 have HX := fun W h => hi0 (p0g fm tg W h)
 have HC := fun W h => hi0 (e0f fm tg way s W h)
 have HK := fun W h => hi0 (p0h fm s W h)
 by_cases hq : eEx fm tg = 0 ∧ eCv fm tg way s = 0 ∧ oEx fm tg = true ∧ (decP fm s).cls = 2
 · obtain ⟨h1, h2, h3, h4⟩ := hq
   obtain ⟨hf, ht, hp, hw⟩ := i0y h2
   have hE : k0q (fmt fm) (fmt tg) = true := by unfold oEx at h3; rwa [if_pos ⟨hf, ht⟩] at h3
   have HD := fun W h => hi0 (g0c fm s W h)
   have HE := fun W p c b h1 h2 => hi0 (s0r fm s W p c b h1 h2)
   rw [h1, h3] at HX
   rw [h2] at HC
   rw [hp] at HD
   have hc2 : (refD fm s).cls = 2 := by rw [← s0p hp]; exact h4
   by_cases he : d0d fm ((decP fm s).cls : Nat) (dinV (decP fm s) none 0) = 0
   · obtain ⟨e1, e2⟩ := s0q hp none 0 he
     rw [if_pos he, he, e1] at HE
     have hin := e2 hc2
     obtain ⟨a1, a2, a3, a4⟩ := k0r h2 hc2 (s0o hf ht hE hin)
     rw [a1, a2] at HC
     have HC2 := fun W h => hi0 (e0f tg fm way (strR tg (refD fm s)) W h)
     have b0 := g1e ht hf a3 hw
     obtain ⟨b1, b2, _, _⟩ := k0r b0 (by rw [a4]; exact hc2) (by rw [a4]; exact hin)
     rw [b1, b2, b0, a4] at HC2
     generalize strR tg (refD fm s) = t at *
     generalize strR fm (refD fm s) = tu at *
     generalize decP fm s = v at *
     clear a1 a2 a3 a4 b0 b1 b2 e1 e2 he hin hE h1 h2 h3
     have I := Inv.start w [tabF] ⟨hT, True.intro⟩
     refine a0c [.v (.int .i64 fm), .v (.string s), .v (.int .i64 tg), .v (.int .i64 way)] I Tryd.func10 ?_
     refine zq I (fun Al W I => (HB0 W I.fa.1).out) fun Al W I => ?_
     refine zq I (fun Al W I => (HX W I.fa.1).out) fun Al W I => ?_
     refine zq I (fun Al W I => (HC W I.fa.1).out) fun Al W I => ?_
     refine zq I (fun Al W I => (HK W I.fa.1).out) fun Al W I => ?_
     refine zb I 49 ((v.cls : Int) != 2) (false) (bne_eq_false_iff_eq.2 (by omega)) fun Al W I => ?_
     refine zqo I (fun Al W I => (HD W I.fa.1).out) fun Al W p54 c54 I => ?_
     refine zq I (fun Al W I => (HE W p54 c54 _ I.fa.1 I.fa.2.1).out) fun Al W I => ?_
     refine zq I (fun Al W I => (HC2 W I.fa.2.1).out) fun Al W I => ?_
     refine zb I 84 (((0 : Nat) : Int) == 0) (true) (rfl) fun Al W I => ?_
     refine zb I 88 (((0 : Nat) : Int) == 0) (true) (rfl) fun Al W I => ?_
     refine zbin I 93 _ (fun _ _ _ _ _ => w0b tu) fun Al W I => ?_
     exact zrb I
   · generalize oCv fm tg way s = t at *
     generalize fCv fm tg way s = fl at *
     generalize (if d0d fm ((decP fm s).cls : Nat) (dinV (decP fm s) none 0) = 0 then f0v (fmt fm) ((decP fm s).cls : Nat) (dinV (decP fm s) none 0) else b0a []) = tu at *
     generalize d0d fm ((decP fm s).cls : Nat) (dinV (decP fm s) none 0) = ee at *
     generalize decP fm s = v at *
     have I := Inv.start w [tabF] ⟨hT, True.intro⟩
     refine a0c [.v (.int .i64 fm), .v (.string s), .v (.int .i64 tg), .v (.int .i64 way)] I Tryd.func10 ?_
     refine zq I (fun Al W I => (HB0 W I.fa.1).out) fun Al W I => ?_
     refine zq I (fun Al W I => (HX W I.fa.1).out) fun Al W I => ?_
     refine zq I (fun Al W I => (HC W I.fa.1).out) fun Al W I => ?_
     refine zq I (fun Al W I => (HK W I.fa.1).out) fun Al W I => ?_
     refine zb I 49 ((v.cls : Int) != 2) (false) (bne_eq_false_iff_eq.2 (by omega)) fun Al W I => ?_
     refine zqo I (fun Al W I => (HD W I.fa.1).out) fun Al W p54 c54 I => ?_
     refine zq I (fun Al W I => (HE W p54 c54 _ I.fa.1 I.fa.2.1).out) fun Al W I => ?_
     refine zb I 67 (ee != 0) (true) (bne_iff_ne.2 he) fun Al W I => ?_
     exact zrb I
 · generalize eEx fm tg = ex at *
   generalize oEx fm tg = ox at *
   generalize oCv fm tg way s = t at *
   generalize fCv fm tg way s = fl at *
   generalize eCv fm tg way s = ec at *
   generalize decP fm s = v at *
   have I := Inv.start w [tabF] ⟨hT, True.intro⟩
   refine a0c [.v (.int .i64 fm), .v (.string s), .v (.int .i64 tg), .v (.int .i64 way)] I Tryd.func10 ?_
   refine zq I (fun Al W I => (HB0 W I.fa.1).out) fun Al W I => ?_
   refine zq I (fun Al W I => (HX W I.fa.1).out) fun Al W I => ?_
   refine zq I (fun Al W I => (HC W I.fa.1).out) fun Al W I => ?_
   rcases Bool.eq_false_or_eq_true (ex != 0) with f36 | f36
   · refine zb I 36 (ex != 0) (true) (f36) fun Al W I => ?_
     exact zrb I
   refine zb I 36 (ex != 0) (false) (f36) fun Al W I => ?_
   rcases Bool.eq_false_or_eq_true (ec != 0) with f39 | f39
   · refine zb I 39 (ec != 0) (true) (f39) fun Al W I => ?_
     exact zrb I
   refine zb I 39 (ec != 0) (false) (f39) fun Al W I => ?_
   rcases Bool.eq_false_or_eq_true (!ox) with f43 | f43
   · refine zb I 43 (!ox) (true) (f43) fun Al W I => ?_
     exact zrb I
   refine zb I 43 (!ox) (false) (f43) fun Al W I => ?_
   refine zq I (fun Al W I => (HK W I.fa.1).out) fun Al W I => ?_
   refine zb I 49 ((v.cls : Int) != 2) (true) (bne_iff_ne.2 (fun h => hq ⟨bne_eq_false_iff_eq.1 f36, bne_eq_false_iff_eq.1 f39, by simpa using f43, by omega⟩)) fun Al W I => ?_
   exact zrb I
theorem k0s (fm : Int) (s : ByteArray) (th tg way : Int) (w : World) (hT : TabW w) : Calls Tryd.prog 11 #[.int .i64 fm, .string s, .int .i64 th, .int .i64 tg, .int .i64 way] w fun en w' => en = .returned (.bool true) ∧ Below w.heap.size w w' := by
 have HB0 := fun W h => hi0 (h0t W h)
 have HX := fun W h => hi0 (p0g fm th W h)
 have HC1 := fun W h => hi0 (e0f fm tg way s W h)
 have HC2 := fun W h => hi0 (e0f fm th way s W h)
 have HC3 := fun W h => hi0 (e0f th tg way (oCv fm th way s) W h)
 have HK := fun W h => hi0 (p0h fm s W h)
 by_cases hq : eEx fm th = 0 ∧ eCv fm tg way s = 0 ∧ eCv fm th way s = 0 ∧ eCv th tg way (oCv fm th way s) = 0 ∧ oEx fm th = true ∧ (decP fm s).cls = 2
 · obtain ⟨h1, h2, h3, h4, h5, h6⟩ := hq
   obtain ⟨hf, ht, hp, hw⟩ := i0y h2
   obtain ⟨_, hh, _, _⟩ := i0y h3
   have hE : k0q (fmt fm) (fmt th) = true := by unfold oEx at h5; rwa [if_pos ⟨hf, hh⟩] at h5
   have HD := fun W h => hi0 (g0c fm s W h)
   have HE := fun W p c b h1 h2 => hi0 (s0r fm s W p c b h1 h2)
   rw [h1, h5] at HX
   rw [hp] at HD
   have hc2 : (refD fm s).cls = 2 := by rw [← s0p hp]; exact h6
   by_cases he : d0d fm ((decP fm s).cls : Nat) (dinV (decP fm s) none 0) = 0
   · obtain ⟨e1, e2⟩ := s0q hp none 0 he
     rw [if_pos he, he, e1] at HE
     have hin := e2 hc2
     obtain ⟨a1, a2, a3, a4⟩ := k0r h3 hc2 (s0o hf hh hE hin)
     have k1 : oCv th tg way (oCv fm th way s) = oCv fm tg way s ∧ fCv th tg way (oCv fm th way s) = fCv fm tg way s := by
      have h4' := h4
      rw [a1] at h4' ⊢
      unfold oCv fCv
      rw [if_pos h4', if_pos h4', if_pos h2, if_pos h2, a4]
      exact ⟨rfl, rfl⟩
     rw [k1.1, k1.2, h4] at HC3
     rw [h2] at HC1
     rw [h3] at HC2
     generalize oCv fm th way s = t at *
     generalize oCv fm tg way s = ta at *
     generalize fCv fm th way s = fl2 at *
     generalize fCv fm tg way s = fl at *
     generalize strR fm (refD fm s) = tu at *
     generalize decP fm s = v at *
     clear a1 a2 a3 a4 k1 e1 e2 he hin hE h1 h2 h3 h4 h5
     have I := Inv.start w [tabF] ⟨hT, True.intro⟩
     refine a0c [.v (.int .i64 fm), .v (.string s), .v (.int .i64 th), .v (.int .i64 tg), .v (.int .i64 way)] I Tryd.func11 ?_
     refine zq I (fun Al W I => (HB0 W I.fa.1).out) fun Al W I => ?_
     refine zq I (fun Al W I => (HX W I.fa.1).out) fun Al W I => ?_
     refine zq I (fun Al W I => (HC1 W I.fa.1).out) fun Al W I => ?_
     refine zq I (fun Al W I => (HC2 W I.fa.1).out) fun Al W I => ?_
     refine zq I (fun Al W I => (HC3 W I.fa.1).out) fun Al W I => ?_
     refine zq I (fun Al W I => (HK W I.fa.1).out) fun Al W I => ?_
     refine zb I 82 ((v.cls : Int) != 2) (false) (bne_eq_false_iff_eq.2 (by omega)) fun Al W I => ?_
     refine zqo I (fun Al W I => (HD W I.fa.1).out) fun Al W p87 c87 I => ?_
     refine zq I (fun Al W I => (HE W p87 c87 _ I.fa.1 I.fa.2.1).out) fun Al W I => ?_
     refine zbin I 106 _ (fun _ _ _ _ _ => w0b ta) fun Al W I => ?_
     refine zb I 110 ((fl : Int) == (fl : Int)) (true) (beq_self_eq_true _) fun Al W I => ?_
     exact zrb I
   · rw [h2] at HC1
     rw [h3] at HC2
     rw [h4] at HC3
     generalize oCv th tg way (oCv fm th way s) = tc at *
     generalize fCv th tg way (oCv fm th way s) = fl3 at *
     generalize oCv fm th way s = t at *
     generalize oCv fm tg way s = ta at *
     generalize fCv fm th way s = fl2 at *
     generalize fCv fm tg way s = fl at *
     generalize (if d0d fm ((decP fm s).cls : Nat) (dinV (decP fm s) none 0) = 0 then f0v (fmt fm) ((decP fm s).cls : Nat) (dinV (decP fm s) none 0) else b0a []) = tu at *
     generalize d0d fm ((decP fm s).cls : Nat) (dinV (decP fm s) none 0) = ee at *
     generalize decP fm s = v at *
     have I := Inv.start w [tabF] ⟨hT, True.intro⟩
     refine a0c [.v (.int .i64 fm), .v (.string s), .v (.int .i64 th), .v (.int .i64 tg), .v (.int .i64 way)] I Tryd.func11 ?_
     refine zq I (fun Al W I => (HB0 W I.fa.1).out) fun Al W I => ?_
     refine zq I (fun Al W I => (HX W I.fa.1).out) fun Al W I => ?_
     refine zq I (fun Al W I => (HC1 W I.fa.1).out) fun Al W I => ?_
     refine zq I (fun Al W I => (HC2 W I.fa.1).out) fun Al W I => ?_
     refine zq I (fun Al W I => (HC3 W I.fa.1).out) fun Al W I => ?_
     refine zq I (fun Al W I => (HK W I.fa.1).out) fun Al W I => ?_
     refine zb I 82 ((v.cls : Int) != 2) (false) (bne_eq_false_iff_eq.2 (by omega)) fun Al W I => ?_
     refine zqo I (fun Al W I => (HD W I.fa.1).out) fun Al W p87 c87 I => ?_
     refine zq I (fun Al W I => (HE W p87 c87 _ I.fa.1 I.fa.2.1).out) fun Al W I => ?_
     refine zb I 100 (ee != 0) (true) (bne_iff_ne.2 he) fun Al W I => ?_
     exact zrb I
 · generalize oCv th tg way (oCv fm th way s) = tc at *
   generalize fCv th tg way (oCv fm th way s) = fl3 at *
   generalize eCv th tg way (oCv fm th way s) = ec3 at *
   generalize oCv fm th way s = t at *
   generalize oCv fm tg way s = ta at *
   generalize fCv fm th way s = fl2 at *
   generalize fCv fm tg way s = fl at *
   generalize eCv fm th way s = ec2 at *
   generalize eCv fm tg way s = ec1 at *
   generalize eEx fm th = ex at *
   generalize oEx fm th = ox at *
   generalize decP fm s = v at *
   have I := Inv.start w [tabF] ⟨hT, True.intro⟩
   refine a0c [.v (.int .i64 fm), .v (.string s), .v (.int .i64 th), .v (.int .i64 tg), .v (.int .i64 way)] I Tryd.func11 ?_
   refine zq I (fun Al W I => (HB0 W I.fa.1).out) fun Al W I => ?_
   refine zq I (fun Al W I => (HX W I.fa.1).out) fun Al W I => ?_
   refine zq I (fun Al W I => (HC1 W I.fa.1).out) fun Al W I => ?_
   refine zq I (fun Al W I => (HC2 W I.fa.1).out) fun Al W I => ?_
   refine zq I (fun Al W I => (HC3 W I.fa.1).out) fun Al W I => ?_
   rcases Bool.eq_false_or_eq_true (ex != 0) with f61 | f61
   · refine zb I 61 (ex != 0) (true) (f61) fun Al W I => ?_
     exact zrb I
   refine zb I 61 (ex != 0) (false) (f61) fun Al W I => ?_
   rcases Bool.eq_false_or_eq_true (ec1 != 0) with f64 | f64
   · refine zb I 64 (ec1 != 0) (true) (f64) fun Al W I => ?_
     exact zrb I
   refine zb I 64 (ec1 != 0) (false) (f64) fun Al W I => ?_
   rcases Bool.eq_false_or_eq_true (ec2 != 0) with f68 | f68
   · refine zb I 68 (ec2 != 0) (true) (f68) fun Al W I => ?_
     exact zrb I
   refine zb I 68 (ec2 != 0) (false) (f68) fun Al W I => ?_
   rcases Bool.eq_false_or_eq_true (ec3 != 0) with f72 | f72
   · refine zb I 72 (ec3 != 0) (true) (f72) fun Al W I => ?_
     exact zrb I
   refine zb I 72 (ec3 != 0) (false) (f72) fun Al W I => ?_
   rcases Bool.eq_false_or_eq_true (!ox) with f76 | f76
   · refine zb I 76 (!ox) (true) (f76) fun Al W I => ?_
     exact zrb I
   refine zb I 76 (!ox) (false) (f76) fun Al W I => ?_
   refine zq I (fun Al W I => (HK W I.fa.1).out) fun Al W I => ?_
   refine zb I 82 ((v.cls : Int) != 2) (true) (bne_iff_ne.2 (fun h => hq ⟨bne_eq_false_iff_eq.1 f61, bne_eq_false_iff_eq.1 f64, bne_eq_false_iff_eq.1 f68, bne_eq_false_iff_eq.1 f72, by simpa using f76, by omega⟩)) fun Al W I => ?_
   exact zrb I
end Go.Proofs.YtmacohmclpnphaaDoor
