/- arith: place. -/
import Derived.Lib.Strings
import Derived.Lib.Slices
import Derived.Lib.Small
import Derived.Lib.Walk
import Derived.Lib.BitFns
import Derived.Deep.LoopGhost
import Derived.Deep.RegionHeld3
import Derived.Carry
import Derived.Laws.BitsLemmas
import Derived.Test.YtmacohmclpnphaaDoorYf1
import Derived.Test.YtmacohmclpnphaaDoorYf2
import Derived.Test.YtmacohmclpnphaaDoorYf3
import Derived.Test.YtmacohmclpnphaaDoorYf4
import Derived.Test.YtmacohmclpnphaaDoorYf5
import Derived.Test.YtmacohmclpnphaaDoorYf6
set_option maxHeartbeats 8000000
set_option maxRecDepth 100000
namespace Go.Proofs.YtmacohmclpnphaaDoor
open Go.RowKit Go.Slip
def h0q (f : Fm) (n way c : Int) (u : Nat) (w : World) (base : Nat) (v : Vl) (en : Ending) (w' : World) : Prop :=
 ∃ p k, en = .returned (.agg #[.int .i64 (v.cls : Int), .bool v.neg, .slice p (dig B32 v.d).length k, .int .i64 v.pow]) ∧ Own w' base .u32 76 p k (dig B32 v.d) ∧ Kp [u] w w' ∧ Bt w' u 153 #[.int .i64 n, .int .i64 way, .int .i64 f.g.rad, .int .i64 f.g.digs, .int .i64 f.g.lo, .int .i64 f.g.hi, .bool f.g.grad, .int .u8 (famB f), .int .i64 c]
theorem j0f.ub {f : Fm} {n way c : Int} {u base : Nat} {w w' : World} {v : Vl} {en : Ending} (h : j0f f n way c u w v en w') (hb : base ≤ w.heap.size) : h0q f n way c u w base v en w' := by
 obtain ⟨p, k, h1, h2, h3, h4⟩ := h
 exact ⟨p, k, h1, h2.mono hb, h3, h4⟩
theorem e0v {f : Fm} {n way c : Int} {u k base : Nat} {g : Bool} {w w' : World} {en : Ending} (h : en = .returned (.agg #[.int .i64 (k : Int), .bool g, .slice none 0 0, .int .i64 0])) (hk : Kp [u] w w') (hb : Bt w' u 153 #[.int .i64 n, .int .i64 way, .int .i64 f.g.rad, .int .i64 f.g.digs, .int .i64 f.g.lo, .int .i64 f.g.hi, .bool f.g.grad, .int .u8 (famB f), .int .i64 c]) : h0q f n way c u w base ⟨k, g, 0, 0⟩ en w' := by
 refine ⟨none, 0, ?_, ?_, hk, hb⟩
 · rw [h, a0e]; rfl
 · show Own _ _ _ _ _ _ (dig B32 0); rw [a0e]; exact Own.nil _ _ _ _
theorem pl_n (f : Fm) (n way : Int) (ng : Bool) (d : Nat) (pw : Int) (pp : Option Addr) (cc base u : Nat) (w : World) (U : Bt w u 153 #[.int .i64 n, .int .i64 way, .int .i64 f.g.rad, .int .i64 f.g.digs, .int .i64 f.g.lo, .int .i64 f.g.hi, .bool f.g.grad, .int .u8 (famB f), .int .i64 0]) (hp : Own w base .u32 76 pp cc (dig B32 d)) (ex un : Bool) :
 Calls Tryd.prog 146 #[.pointer (some ⟨u, 0, none⟩), .agg #[.bool ng, .slice pp (dig B32 d).length cc, .int .i64 pw, .bool ex, .bool false, .bool un]] w (h0q f n way (((f.placedM ⟨ng, d, pw, ex, false, un⟩ way).2 : Nat) : Int) u w base (f.placedV ⟨ng, d, pw, ex, false, un⟩ way)) := by
 have hV : f.placedV ⟨ng, d, pw, ex, false, un⟩ way = if un = true ∧ f.fam ≠ 1 ∧ pw < f.g.lo then ⟨1, false, 0, 0⟩ else if d = 0 then ⟨1, ng && decide (f.fam = 1), 0, 0⟩ else ⟨2, ng, d, pw⟩ := by unfold Fm.placedV; simp only [Bool.false_eq_true, if_false]
 have hM : (f.placedM ⟨ng, d, pw, ex, false, un⟩ way).2 = if un = true ∧ f.fam ≠ 1 ∧ pw < f.g.lo then 3 else f.flP ⟨ng, d, pw, ex, false, un⟩ := by
  unfold Fm.placedM; simp only [Bool.false_eq_true, if_false]
  split
  · rfl
  · split <;> rfl
 have hFL : f.flP ⟨ng, d, pw, ex, false, un⟩ = if un then (if f.fam = 1 then (if ex then 0 else 3) else 3) else if ex then 0 else 1 := rfl
 have hF1 : f.fam = 1 → (famB f != 65) = false := fun h => by unfold famB; rw [if_pos h]; rfl
 have hF2 : f.fam ≠ 1 → (famB f != 65) = true := fun h => by unfold famB; rw [if_neg h]; split <;> rfl
 have hB1 : (famB f != 65) = true → f.fam ≠ 1 := fun h k => by rw [hF1 k] at h; cases h
 have hB2 : (famB f != 65) = false → f.fam = 1 := fun h => Classical.byContradiction fun k => by rw [hF2 k] at h; cases h
 have hz := a0i a0a d
 have HR9 := fun W u hU => hi0 (b0y f n way 0 1 1 u W hU (by decide +kernel))
 have HR3 := fun k (hk : k = 0 ∨ k = 1) W u hU => hi0 (b0y f n way k 3 3 u W hU (by rcases hk with rfl | rfl <;> decide +kernel))
 have HR2 := fun k (hk : k = 1) W u hU => hi0 (b0y f n way k 2 3 u W hU (by subst hk; decide +kernel))
 have HZ := fun k W u hU => hi0 (p0m f n way k ng u W hU)
 rw [hFL] at hM
 generalize (f.placedM ⟨ng, d, pw, ex, false, un⟩ way).2 = FL at *
 generalize f.placedV ⟨ng, d, pw, ex, false, un⟩ way = v at *
 clear hFL
 generalize (ng && decide (f.fam = 1)) = q at *
 have I := Inv.startW w u 153 (uS f n way 0) [ownF base .u32 76 pp cc (dig B32 d)] U ⟨hp, True.intro⟩ ⟨fun hf => hp.far U (by kernel_rfl) hf.1 hf.2, True.intro⟩
 refine a0c [.p 0 0, .v (.agg #[.bool ng, .slice pp (dig B32 d).length cc, .int .i64 pw, .bool ex, .bool false, .bool un])] I Tryd.func146 ?_
 obtain ⟨ne, hne⟩ : ∃ ne, (!ex) = ne := ⟨_, rfl⟩
 refine zb I 7 (!ex) (ne) (hne) fun Al W I => ?_
 refine zcut I (some 2000007) (fun fr bx gs => ∃ (U1 : Nat → Value) (k1 : Int), fr = (.p 0 0 :: .v (.agg #[.bool ng, .slice pp (dig B32 d).length cc, .int .i64 pw, .bool ex, .bool false, .bool un]) :: .v undef :: .p 1 0 :: .p 2 0 :: sw U1 5 2 (.v (.bool ne) :: sw U1 8 2 (.v undef :: sw U1 11 6 (.v undef :: sw U1 18 18 (.v undef :: .v (U1 37) :: .v undef :: sw U1 39 12 (.v undef :: sw U1 52 11 []))))) : List SV) ∧ bx = [⟨153, (uS f n way k1), false⟩, ⟨143, [.v (.bool ng), .v (.slice pp (dig B32 d).length cc), .v (.int .i64 pw), .v (.bool ex), .v (.bool false), .v (.bool un)], false⟩, ⟨29, [.v (.int .i64 0), .v (.bool false), .v (.slice none 0 0), .v (.int .i64 0)], false⟩] ∧ gs = [ownF base .u32 76 pp cc (dig B32 d)] ∧ (k1 = if ex then 0 else 1)) ?_ ?_
 · intro J hJ Al W I
   rcases Bool.eq_false_or_eq_true ne with rfl | rfl
   · refine zge I 0 153 (fun Al W I => (HR9 W _ (I.box 0 153 _)).out) fun Al V Iv _ _ kz => ?_
     rintro _ W ⟨rfl, hO, hB⟩
     refine ⟨_, rfl, kz _ (uS f n way 1) _ hO hB fun I => ?_⟩
     exact b0c I J fun Al W U I => hJ _ _ _ _ _ ⟨U, 1, rfl, rfl, rfl, (by revert hne; cases ex <;> simp)⟩ (I.pick [0])
   exact b0c I J fun Al W U I => hJ _ _ _ _ _ ⟨U, 0, rfl, rfl, rfl, (by revert hne; cases ex <;> simp)⟩ (I.pick [0])
 rintro _ _ _ ⟨U1, k1, rfl, rfl, rfl, hk1⟩ Al W I
 refine zcut I (some 1000000) (fun fr bx gs => ∃ (U2 : Nat → Value) (k2 : Int), fr = (.p 0 0 :: .v (.agg #[.bool ng, .slice pp (dig B32 d).length cc, .int .i64 pw, .bool ex, .bool false, .bool un]) :: .v undef :: .p 1 0 :: .p 2 0 :: sw U2 5 2 (.v (.bool ne) :: sw U2 8 43 (.v undef :: sw U2 52 11 [])) : List SV) ∧ bx = [⟨153, (uS f n way k2), false⟩, ⟨143, [.v (.bool ng), .v (.slice pp (dig B32 d).length cc), .v (.int .i64 pw), .v (.bool ex), .v (.bool false), .v (.bool un)], false⟩, ⟨29, [.v (.int .i64 0), .v (.bool false), .v (.slice none 0 0), .v (.int .i64 0)], false⟩] ∧ gs = [ownF base .u32 76 pp cc (dig B32 d)] ∧ ((FL : Int) = k2) ∧ (¬ (un = true ∧ f.fam ≠ 1 ∧ pw < f.g.lo))) ?_ ?_
 · intro J hJ Al W I
   rcases Bool.eq_false_or_eq_true (un) with f19 | f19
   · refine zb I 19 (un) (true) (f19) fun Al W I => ?_
     rcases Bool.eq_false_or_eq_true ((famB f) != 65) with f25 | f25
     · refine zb I 25 ((famB f) != 65) (true) (f25) fun Al W I => ?_
       refine zge I 0 153 (fun Al W I => (HR3 k1 (by rw [hk1]; split <;> simp) W _ (I.box 0 153 _)).out) fun Al V Iv _ _ kz => ?_
       rintro _ W ⟨rfl, hO, hB⟩
       refine ⟨_, rfl, kz _ (uS f n way 3) _ hO hB fun I => ?_⟩
       by_cases f36 : pw < f.g.lo
       · refine zd [] I fun Al W I => ?_
         refine zk [0, 1, 2, 3, 4, 5, 6] I fun I => ?_
         refine zkb 7 I (decide (pw < f.g.lo)) (true) (dTr f36) fun I => ?_
         refine zret I (v := fun Al => .agg #[.int .i64 1, .bool false, .slice none 0 0, .int .i64 0]) fun Al W I => ?_
         first | (rw [hV, hM, if_pos ⟨f19, hB1 f25, f36⟩, if_pos ⟨f19, hB1 f25, f36⟩]; exact e0v (k := 1) rfl I.bel (I.boxE 153 _)) | (rw [hV, hk2, if_neg hlo, if_neg (fun h => by have := hz.2 h; have := bnF f51; omega)]; exact ⟨pp, cc, rfl, I.fa.1, I.bel, I.boxE 153 _⟩)
       refine zd [] I fun Al W I => ?_
       refine zk [0, 1, 2, 3, 4, 5, 6] I fun I => ?_
       refine zkb 7 I (decide (pw < f.g.lo)) (false) (dFa f36) fun I => ?_
       exact b0c I J fun Al W U I => hJ _ _ _ _ _ ⟨U, 3, rfl, rfl, rfl, (by have h1 := hB1 f25; rw [hM, if_neg (fun h => f36 h.2.2), if_pos f19, if_neg h1]; rfl), (fun h => f36 h.2.2)⟩ (I.pick [0])
     refine zb I 25 ((famB f) != 65) (false) (f25) fun Al W I => ?_
     refine zb I 40 (un) (true) (f19) fun Al W I => ?_
     rcases Bool.eq_false_or_eq_true (!ex) with f44 | f44
     · refine zb I 44 (!ex) (true) (f44) fun Al W I => ?_
       refine zge I 0 153 (fun Al W I => (HR2 k1 (by rw [hk1]; revert f44; cases ex <;> simp) W _ (I.box 0 153 _)).out) fun Al V Iv _ _ kz => ?_
       rintro _ W ⟨rfl, hO, hB⟩
       refine ⟨_, rfl, kz _ (uS f n way 3) _ hO hB fun I => ?_⟩
       exact b0c I J fun Al W U I => hJ _ _ _ _ _ ⟨U, 3, rfl, rfl, rfl, (by have h1 := hB2 f25; rw [hM, if_neg (fun h => h.2.1 h1), if_pos f19, if_pos h1]; revert f44; cases ex <;> simp), (fun h => by have h1 := hB2 f25; exact h.2.1 h1)⟩ (I.pick [0])
     refine zb I 44 (!ex) (false) (f44) fun Al W I => ?_
     exact b0c I J fun Al W U I => hJ _ _ _ _ _ ⟨U, k1, rfl, rfl, rfl, (by have h1 := hB2 f25; rw [hM, if_neg (fun h => h.2.1 h1), if_pos f19, if_pos h1, hk1]; revert f44; cases ex <;> simp), (fun h => by have h1 := hB2 f25; exact h.2.1 h1)⟩ (I.pick [0])
   refine zb I 19 (un) (false) (f19) fun Al W I => ?_
   refine zb I 40 (un) (false) (f19) fun Al W I => ?_
   exact b0c I J fun Al W U I => hJ _ _ _ _ _ ⟨U, k1, rfl, rfl, rfl, (by rw [hM, if_neg (fun h => by rw [f19] at h; cases h.1), if_neg (by rw [f19]; simp), hk1]; split <;> rfl), (fun h => by rw [f19] at h; cases h.1)⟩ (I.pick [0])
 rintro _ _ _ ⟨U2, k2, rfl, rfl, rfl, hk2, hlo⟩ Al W I
 rcases Bool.eq_false_or_eq_true ((((dig B32 d).length : Nat) : Int) == 0) with f51 | f51
 · refine zb I 51 ((((dig B32 d).length : Nat) : Int) == 0) (true) (f51) fun Al W I => ?_
   refine zq I (fun Al W I => (HZ k2 W _ (I.box 0 153 _)).out) fun Al W I => ?_
   rw [hV, hk2, if_neg hlo, if_pos (hz.1 (by have := beq_iff_eq.1 f51; omega))]
   exact zret I fun Al W I => e0v (k := 1) rfl I.bel (I.boxE 153 _)
 refine zb I 51 ((((dig B32 d).length : Nat) : Int) == 0) (false) (f51) fun Al W I => ?_
 refine zret I (v := fun Al => .agg #[.int .i64 2, .bool ng, .slice pp (dig B32 d).length cc, .int .i64 pw]) fun Al W I => ?_
 first | (rw [hV, hM, if_pos ⟨f19, hB1 f25, f36⟩, if_pos ⟨f19, hB1 f25, f36⟩]; exact e0v (k := 1) rfl I.bel (I.boxE 153 _)) | (rw [hV, hk2, if_neg hlo, if_neg (fun h => by have := hz.2 h; have := bnF f51; omega)]; exact ⟨pp, cc, rfl, I.fa.1, I.bel, I.boxE 153 _⟩)
theorem j1o (f : Fm) (n way : Int) (p : Pl) (pp : Option Addr) (cc base u : Nat) (w : World) (U : Bt w u 153 #[.int .i64 n, .int .i64 way, .int .i64 f.g.rad, .int .i64 f.g.digs, .int .i64 f.g.lo, .int .i64 f.g.hi, .bool f.g.grad, .int .u8 (famB f), .int .i64 0]) (hb : base ≤ w.heap.size) (G : b0g f) (hw : 1 ≤ way ∧ way ≤ 5) (ho : p.over = true) :
 Calls Tryd.prog 146 #[.pointer (some ⟨u, 0, none⟩), .agg #[.bool p.neg, .slice pp (dig B32 p.d).length cc, .int .i64 p.pow, .bool true, .bool true, .bool p.under]] w (h0q f n way 5 u w base (f.placedV p way)) := by
 have HO := fun W u hU => hi0 (d1v f n way 0 5 p u W hU G (by decide +kernel) hw ho)
 generalize f.placedV p way = v at *
 have I := Inv.startW w u 153 (uS f n way 0) [] U True.intro True.intro
 refine a0c [.p 0 0, .v (.agg #[.bool p.neg, .slice pp (dig B32 p.d).length cc, .int .i64 p.pow, .bool true, .bool true, .bool p.under])] I Tryd.func146 ?_
 refine zge I 0 153 (fun Al W I => (HO W _ (I.box 0 153 _)).out) fun Al V Iv _ _ kz => ?_
 rintro _ W ⟨p16, c16, rfl, o16, hO, hB⟩
 refine ⟨_, rfl, kz _ (uS f n way 5) _ hO hB fun I => ?_⟩
 have I := I.ownB base o16
 exact zret I fun Al W I => ⟨p16, c16, rfl, I.fa.1, I.bel, I.boxE 153 _⟩
theorem j1p (f : Fm) (n way : Int) (p : Pl) (pp : Option Addr) (cc base u : Nat) (w : World) (U : Bt w u 153 #[.int .i64 n, .int .i64 way, .int .i64 f.g.rad, .int .i64 f.g.digs, .int .i64 f.g.lo, .int .i64 f.g.hi, .bool f.g.grad, .int .u8 (famB f), .int .i64 0]) (hb : base ≤ w.heap.size) (G : b0g f) (hw : 1 ≤ way ∧ way ≤ 5) (ho : p.over = true) :
 Calls Tryd.prog 146 #[.pointer (some ⟨u, 0, none⟩), .agg #[.bool p.neg, .slice pp (dig B32 p.d).length cc, .int .i64 p.pow, .bool false, .bool true, .bool p.under]] w (h0q f n way 5 u w base (f.placedV p way)) := by
 have HO := fun W u hU => hi0 (d1v f n way 1 5 p u W hU G (by decide +kernel) hw ho)
 have HR := fun W u hU => hi0 (b0y f n way 0 1 1 u W hU (by decide +kernel))
 generalize f.placedV p way = v at *
 have I := Inv.startW w u 153 (uS f n way 0) [] U True.intro True.intro
 refine a0c [.p 0 0, .v (.agg #[.bool p.neg, .slice pp (dig B32 p.d).length cc, .int .i64 p.pow, .bool false, .bool true, .bool p.under])] I Tryd.func146 ?_
 refine zge I 0 153 (fun Al W I => (HR W _ (I.box 0 153 _)).out) fun Al V Iv _ _ kz => ?_
 rintro _ W ⟨rfl, hO, hB⟩
 refine ⟨_, rfl, kz _ (uS f n way 1) _ hO hB fun I => ?_⟩
 refine zge I 0 153 (fun Al W I => (HO W _ (I.box 0 153 _)).out) fun Al V Iv _ _ kz => ?_
 rintro _ W ⟨p16, c16, rfl, o16, hO, hB⟩
 refine ⟨_, rfl, kz _ (uS f n way 5) _ hO hB fun I => ?_⟩
 have I := I.ownB base o16
 exact zret I fun Al W I => ⟨p16, c16, rfl, I.fa.1, I.bel, I.boxE 153 _⟩
theorem g1c (f : Fm) (n way : Int) (p : Pl) (pp : Option Addr) (cc base u : Nat) (w : World) (U : Bt w u 153 #[.int .i64 n, .int .i64 way, .int .i64 f.g.rad, .int .i64 f.g.digs, .int .i64 f.g.lo, .int .i64 f.g.hi, .bool f.g.grad, .int .u8 (famB f), .int .i64 0]) (hp : Own w base .u32 76 pp cc (dig B32 p.d)) (hb : base ≤ w.heap.size) (G : b0g f) (hw : 1 ≤ way ∧ way ≤ 5) :
 Calls Tryd.prog 146 #[.pointer (some ⟨u, 0, none⟩), .agg #[.bool p.neg, .slice pp (dig B32 p.d).length cc, .int .i64 p.pow, .bool p.exact, .bool p.over, .bool p.under]] w (h0q f n way (((f.placedM p way).2 : Nat) : Int) u w base (f.placedV p way)) := by
 obtain ⟨ng, d, pw, ex, ov, un⟩ := p
 cases ov with
 | true =>
  have e : (f.placedM ⟨ng, d, pw, ex, true, un⟩ way).2 = 5 := by unfold Fm.placedM; rw [if_pos rfl]
  rw [e]
  cases ex
  · exact j1p f n way ⟨ng, d, pw, false, true, un⟩ pp cc base u w U hb G hw rfl
  · exact j1o f n way ⟨ng, d, pw, true, true, un⟩ pp cc base u w U hb G hw rfl
 | false =>
  exact pl_n f n way ng d pw pp cc base u w U hp ex un
theorem y0w (ng : Bool) (p q : Option Addr) (c d : Nat) (num den : Nat) (e : Int) (g : Gd) (way : Int) (w : World) (hp : Rd w .u32 p (dig B32 num)) (hq : Rd w .u32 q (dig B32 den))
 (hl : (dig B32 num).length ≤ 100000) (hl2 : (dig B32 den).length ≤ 100000) (hn : 0 < num) (hd : 0 < den) (he : -1000000 ≤ e ∧ e ≤ 1000000) (G : e0y g) (hw1 : 1 ≤ way) (hw2 : way ≤ 5) :
 Calls Tryd.prog 97 #[.agg #[.bool ng, .slice p (dig B32 num).length c, .slice q (dig B32 den).length d, .int .i64 e], .agg #[.int .i64 g.rad, .int .i64 g.digs, .int .i64 g.lo, .int .i64 g.hi, .bool g.grad], .int .i64 way] w (s0z w (a0m ng num den e g way)) := by
 have h := r0g ng p q c d num den e g way (theK num den e (wid g) g.digs.toNat) w hp hq hl hl2 hn hd he G hw1 hw2 (h0o hn hd e (a0r g).1 (by have := G.d1; omega))
 unfold a0m
 rw [if_neg (by omega)]
 exact h
theorem j1q (f : Fm) (n way : Int) (ng : Bool) (p q : Option Addr) (c d : Nat) (num den : Nat) (e : Int) (u : Nat) (w : World) (U : Bt w u 153 #[.int .i64 n, .int .i64 way, .int .i64 f.g.rad, .int .i64 f.g.digs, .int .i64 f.g.lo, .int .i64 f.g.hi, .bool f.g.grad, .int .u8 (famB f), .int .i64 0]) (hp : Rd w .u32 p (dig B32 num)) (hq : Rd w .u32 q (dig B32 den))
 (hl : (dig B32 num).length ≤ 100000) (hl2 : (dig B32 den).length ≤ 100000) (hn : 0 < num) (hd : 0 < den) (he : -1000000 ≤ e ∧ e ≤ 1000000) (G : b0g f) (hw : 1 ≤ way ∧ way ≤ 5) :
 Calls Tryd.prog 119 #[.pointer (some ⟨u, 0, none⟩), .agg #[.bool ng, .slice p (dig B32 num).length c, .slice q (dig B32 den).length d, .int .i64 e]] w
  (j0f f n way (((f.placedM (a0m ng num den e f.g way) way).2 : Nat) : Int) u w (f.placedV (a0m ng num den e f.g way) way)) := by
 have GG := b0f G.g
 have HF := fun W h1 h2 => hi0 (y0w ng p q c d num den e f.g way W h1 h2 hl hl2 hn hd he GG hw.1 hw.2)
 have HP := fun pp cc base u W U h1 h2 => hi0 (g1c f n way (a0m ng num den e f.g way) pp cc base u W U h1 h2 G hw)
 have hR := y0v (neg := ng) (num := num) (e := e) (way := way) hd GG
 generalize (f.placedM (a0m ng num den e f.g way) way).2 = fl at *
 generalize f.placedV (a0m ng num den e f.g way) way = v at *
 generalize a0m ng num den e f.g way = P at *
 have I := Inv.startW w u 153 (uS f n way 0) [rdF .u32 p (dig B32 num), rdF .u32 q (dig B32 den)] U ⟨hp, hq, True.intro⟩ ⟨fun hf => hp.far U (by kernel_rfl) hf.1 hf.2, fun hf => hq.far U (by kernel_rfl) hf.1 hf.2, True.intro⟩
 refine a0c [.p 0 0, .v (.agg #[.bool ng, .slice p (dig B32 num).length c, .slice q (dig B32 den).length d, .int .i64 e])] I Tryd.func119 ?_
 refine zcut I none (fun fr bx gs => ∃ (U1 : Nat → Value) (p16 : Option Addr) (c16 : Nat), fr = (.p 0 0 :: .v (.agg #[.bool ng, .slice p (dig B32 num).length c, .slice q (dig B32 den).length d, .int .i64 e]) :: .v undef :: .p 1 0 :: .p 2 0 :: sw U1 5 12 [] : List SV) ∧ bx = [⟨153, (uS f n way (fl : Int)), false⟩, ⟨146, [.v (.bool ng), .v (.slice p (dig B32 num).length c), .v (.slice q (dig B32 den).length d), .v (.int .i64 e)], false⟩, ⟨29, [.v (.int .i64 (v.cls : Int)), .v (.bool v.neg), .v (.slice p16 (dig B32 v.d).length c16), .v (.int .i64 v.pow)], false⟩] ∧ gs = [ownF w.heap.size .u32 76 p16 c16 (dig B32 v.d), rdF .u32 p (dig B32 num), rdF .u32 q (dig B32 den)]) ?_ ?_
 · intro J hJ Al W I
   refine zd [0, 2] I fun Al W I => ?_
   refine zk [0, 1, 2, 3, 4, 6, 7, 8] I fun I => ?_
   refine zo2 5 9 I (fun I => ?_) (fun I => ?_)
   · refine zn I fun Al W I => ?_
     refine zo 9 I fun I => ?_
     refine zn I fun Al W I => ?_
     refine zo 10 I fun I => ?_
     refine zqo I (fun Al W I => (HF W I.fa.1 I.fa.2.1).out) fun Al W p15 c15 I => ?_
     refine zo 11 I fun I => ?_
     refine zge I 0 153 (fun Al W I => have hzW := I.bel.size; (HP p15 c15 _ _ W (I.box 0 153 _) I.fa.1 (by omega)).out) fun Al V Iv _ _ kz => ?_
     rintro _ W ⟨p16, c16, rfl, o16, hO, hB⟩
     refine ⟨_, rfl, kz _ (uS f n way (fl : Int)) _ hO hB fun I => ?_⟩
     have I := I.own o16
     refine zo 12 I fun I => ?_
     refine zn I fun Al W I => ?_
     exact b0c I J fun Al W U I => hJ _ _ _ _ _ ⟨U, p16, c16, rfl, rfl, rfl⟩ (I.pick [0, 2, 3])
   refine zn I fun Al W I => ?_
   refine zo 5 I fun I => ?_
   refine zn I fun Al W I => ?_
   refine zo 10 I fun I => ?_
   refine zqo I (fun Al W I => (HF W I.fa.1 I.fa.2.1).out) fun Al W p15 c15 I => ?_
   refine zo 11 I fun I => ?_
   refine zge I 0 153 (fun Al W I => have hzW := I.bel.size; (HP p15 c15 _ _ W (I.box 0 153 _) I.fa.1 (by omega)).out) fun Al V Iv _ _ kz => ?_
   rintro _ W ⟨p16, c16, rfl, o16, hO, hB⟩
   refine ⟨_, rfl, kz _ (uS f n way (fl : Int)) _ hO hB fun I => ?_⟩
   have I := I.own o16
   refine zo 12 I fun I => ?_
   refine zn I fun Al W I => ?_
   exact b0c I J fun Al W U I => hJ _ _ _ _ _ ⟨U, p16, c16, rfl, rfl, rfl⟩ (I.pick [0, 2, 3])
 rintro _ _ _ ⟨U1, p16, c16, rfl, rfl, rfl⟩ Al W I
 exact zret I fun Al W I => ⟨p16, c16, rfl, I.fa.1, I.bel, I.boxE 153 _⟩
structure VrOk (r : Vr) : Prop where
 c : 1 ≤ r.cls ∧ r.cls ≤ 5
 x0 : r.cls ≠ 2 → r.x = vz
 x2 : r.cls = 2 → r.x.m ≠ 0 ∧ r.x.neg = r.neg
 bare : Bare r.x
 len : (dig B32 r.x.m).length ≤ 20
 lo : -18000 ≤ r.x.e
 hi : r.x.e ≤ 18000
def e0s (f : Fm) (n way : Int) (u : Nat) (w : World) (base : Nat) (r : Vr × Nat) (en : Ending) (w' : World) : Prop :=
 ∃ v, VRep f v r.1 ∧ h0q f n way ((r.2 : Nat) : Int) u w base v en w'
theorem a0f {f : Fm} {n way : Int} {u k fl base : Nat} {g : Bool} {x : Dv} {w w' : World} {en : Ending} (hk2 : k ≠ 2) (h : en = .returned (.agg #[.int .i64 (k : Int), .bool g, .slice none 0 0, .int .i64 0])) (hk : Kp [u] w w') (hb : Bt w' u 153 #[.int .i64 n, .int .i64 way, .int .i64 f.g.rad, .int .i64 f.g.digs, .int .i64 f.g.lo, .int .i64 f.g.hi, .bool f.g.grad, .int .u8 (famB f), .int .i64 (fl : Int)]) : e0s f n way u w base (⟨k, g, x⟩, fl) en w' :=
 ⟨⟨k, g, 0, 0⟩, f0f hk2, e0v h hk hb⟩
theorem e0s.mono {f : Fm} {n way : Int} {u base b' : Nat} {w w' : World} {r : Vr × Nat} {en : Ending} (h : e0s f n way u w base r en w') (hb : b' ≤ base) : e0s f n way u w b' r en w' := by
 obtain ⟨v, h1, p, k, h2, h3, h4, h5⟩ := h
 exact ⟨v, h1, p, k, h2, h3.mono hb, h4, h5⟩
theorem y0x (f : Fm) (n way fl : Int) (v : Vl) (r : Vr) (p : Option Addr) (c b0 u : Nat) (w : World) (U : Bt w u 153 #[.int .i64 n, .int .i64 way, .int .i64 f.g.rad, .int .i64 f.g.digs, .int .i64 f.g.lo, .int .i64 f.g.hi, .bool f.g.grad, .int .u8 (famB f), .int .i64 fl]) (hp : Own w b0 .u32 76 p c (dig B32 v.d)) (V : VRep f v r) (R : VrOk r) (hT : TabW w) :
 Calls Tryd.prog 106 #[.pointer (some ⟨u, 0, none⟩), .agg #[.int .i64 (v.cls : Int), .bool v.neg, .slice p (dig B32 v.d).length c, .int .i64 v.pow]] w (e0l w w.heap.size r.x) := by
 have hx : bare ⟨v.neg, v.d, wid f.g * v.pow⟩ = r.x := by
  by_cases h2 : r.cls = 2
  · exact V.num h2
  · rw [R.x0 h2, (V.oth h2).1]; rfl
 have hl := V.len
 have hlo := V.lo
 have hhi := V.hi
 have wp := a0r f.g
 have hmu := j0e (wd := wid f.g) (k := v.pow) (B := 20000) wp.2 ⟨hlo, hhi⟩
 rw [← hx, ← p0l]
 clear hx R V
 obtain ⟨cls, g, d0, pw⟩ := v
 simp only at *
 generalize hmw : (wid f.g : Int) * pw = mw at *
 have HMW := hi0 hmw
 have HW := fun W u hU => hi0 (y0m f n way fl u W hU)
 have HH := fun W (c : Nat) h1 h0 h2 => hi0 (k0x p _ c mw d0 W h1 rfl h0 (by omega) (by omega) h2)
 clear hmw
 generalize hd : bare ⟨false, d0, mw⟩ = d at *
 clear hd
 cases g with
 | false =>
  rw [if_neg (by simp)]
  have I := Inv.startR w [u] [⟨153, (uS f n way fl), true⟩] [ownF b0 .u32 76 p c (dig B32 d0), tabF] ⟨U, True.intro⟩ ⟨hp, hT, True.intro⟩
  refine a0c [.p 0 0, .v (.agg #[.int .i64 (cls : Int), .bool false, .slice p (dig B32 d0).length c, .int .i64 pw])] I Tryd.func106 ?_
  refine zcut I none (fun fr bx gs => ∃ (U1 : Nat → Value) (p13 : Option Addr) (c13 : Nat), fr = (.p 0 0 :: .v (.agg #[.int .i64 (cls : Int), .bool false, .slice p (dig B32 d0).length c, .int .i64 pw]) :: .v undef :: .p 1 0 :: .p 2 0 :: .p 3 0 :: sw U1 6 9 (.v undef :: sw U1 16 3 []) : List SV) ∧ bx = [⟨153, (uS f n way fl), true⟩, ⟨29, [.v (.int .i64 (cls : Int)), .v (.bool false), .v (.slice p (dig B32 d0).length c), .v (.int .i64 pw)], false⟩, ⟨87, [.v (.bool false), .v (.slice none 0 0), .v (.int .i64 0)], false⟩, ⟨87, [.v (.bool d.neg), .v (.slice p13 (dig B32 d.m).length c13), .v (.int .i64 d.e)], false⟩] ∧ gs = [ownF w.heap.size .u32 76 p13 c13 (dig B32 d.m), ownF b0 .u32 76 p c (dig B32 d0), tabF]) ?_ ?_
  · intro J hJ Al W I
    refine zd [] I fun Al W I => ?_
    refine zk [0, 1, 2, 4, 5] I fun I => ?_
    refine zo2 3 8 I (fun I => ?_) (fun I => ?_)
    · refine zq I (fun Al W I => (HW W _ (I.box 0 153 _)).out) fun Al W I => ?_
      refine zki 6 I .i64 (((wid f.g : Nat) : Int) * pw) (mw) ((by rw [HMW.out]; exact iwo)) fun I => ?_
      refine zo2 7 8 I (fun I => ?_) (fun I => ?_)
      · refine zqo I (fun Al W I => (HH W c I.fa.1.rd I.fa.1.le_cap I.fa.2.1).out) fun Al W p13 c13 I => ?_
        refine zo 8 I fun I => ?_
        refine zn I fun Al W I => ?_
        refine zo 9 I fun I => ?_
        refine zn I fun Al W I => ?_
        exact b0c I J fun Al W U I => hJ _ _ _ _ _ ⟨U, p13, c13, rfl, rfl, rfl⟩ (I.pick [0, 1, 2])
      refine zn I fun Al W I => ?_
      refine zo 7 I fun I => ?_
      refine zqo I (fun Al W I => (HH W c I.fa.1.rd I.fa.1.le_cap I.fa.2.1).out) fun Al W p13 c13 I => ?_
      refine zo 9 I fun I => ?_
      refine zn I fun Al W I => ?_
      exact b0c I J fun Al W U I => hJ _ _ _ _ _ ⟨U, p13, c13, rfl, rfl, rfl⟩ (I.pick [0, 1, 2])
    refine zn I fun Al W I => ?_
    refine zo 3 I fun I => ?_
    refine zq I (fun Al W I => (HW W _ (I.box 0 153 _)).out) fun Al W I => ?_
    refine zki 6 I .i64 (((wid f.g : Nat) : Int) * pw) (mw) ((by rw [HMW.out]; exact iwo)) fun I => ?_
    refine zo 7 I fun I => ?_
    refine zqo I (fun Al W I => (HH W c I.fa.1.rd I.fa.1.le_cap I.fa.2.1).out) fun Al W p13 c13 I => ?_
    refine zo 9 I fun I => ?_
    refine zn I fun Al W I => ?_
    exact b0c I J fun Al W U I => hJ _ _ _ _ _ ⟨U, p13, c13, rfl, rfl, rfl⟩ (I.pick [0, 1, 2])
  rintro _ _ _ ⟨U1, p13, c13, rfl, rfl, rfl⟩ Al W I
  exact zret I fun Al W I => ⟨p13, c13, rfl, I.fa.1.mono (by omega), I.below⟩
 | true =>
  rw [if_pos rfl]
  have I := Inv.startR w [u] [⟨153, (uS f n way fl), true⟩] [ownF b0 .u32 76 p c (dig B32 d0), tabF] ⟨U, True.intro⟩ ⟨hp, hT, True.intro⟩
  refine a0c [.p 0 0, .v (.agg #[.int .i64 (cls : Int), .bool true, .slice p (dig B32 d0).length c, .int .i64 pw])] I Tryd.func106 ?_
  refine zcut I none (fun fr bx gs => ∃ (U1 : Nat → Value) (p13 : Option Addr) (c13 : Nat), fr = (.p 0 0 :: .v (.agg #[.int .i64 (cls : Int), .bool true, .slice p (dig B32 d0).length c, .int .i64 pw]) :: .v undef :: .p 1 0 :: .p 2 0 :: .p 3 0 :: sw U1 6 9 (.v undef :: sw U1 16 3 []) : List SV) ∧ bx = [⟨153, (uS f n way fl), true⟩, ⟨29, [.v (.int .i64 (cls : Int)), .v (.bool true), .v (.slice p (dig B32 d0).length c), .v (.int .i64 pw)], false⟩, ⟨87, [.v (.bool false), .v (.slice none 0 0), .v (.int .i64 0)], false⟩, ⟨87, [.v (.bool d.neg), .v (.slice p13 (dig B32 d.m).length c13), .v (.int .i64 d.e)], false⟩] ∧ gs = [ownF w.heap.size .u32 76 p13 c13 (dig B32 d.m), ownF b0 .u32 76 p c (dig B32 d0), tabF]) ?_ ?_
  · intro J hJ Al W I
    refine zd [] I fun Al W I => ?_
    refine zk [0, 1, 2, 4, 5] I fun I => ?_
    refine zo2 3 8 I (fun I => ?_) (fun I => ?_)
    · refine zq I (fun Al W I => (HW W _ (I.box 0 153 _)).out) fun Al W I => ?_
      refine zki 6 I .i64 (((wid f.g : Nat) : Int) * pw) (mw) ((by rw [HMW.out]; exact iwo)) fun I => ?_
      refine zo2 7 8 I (fun I => ?_) (fun I => ?_)
      · refine zqo I (fun Al W I => (HH W c I.fa.1.rd I.fa.1.le_cap I.fa.2.1).out) fun Al W p13 c13 I => ?_
        refine zo 8 I fun I => ?_
        refine zn I fun Al W I => ?_
        refine zo 9 I fun I => ?_
        refine zn I fun Al W I => ?_
        exact b0c I J fun Al W U I => hJ _ _ _ _ _ ⟨U, p13, c13, rfl, rfl, rfl⟩ (I.pick [0, 1, 2])
      refine zn I fun Al W I => ?_
      refine zo 7 I fun I => ?_
      refine zqo I (fun Al W I => (HH W c I.fa.1.rd I.fa.1.le_cap I.fa.2.1).out) fun Al W p13 c13 I => ?_
      refine zo 9 I fun I => ?_
      refine zn I fun Al W I => ?_
      exact b0c I J fun Al W U I => hJ _ _ _ _ _ ⟨U, p13, c13, rfl, rfl, rfl⟩ (I.pick [0, 1, 2])
    refine zn I fun Al W I => ?_
    refine zo 3 I fun I => ?_
    refine zq I (fun Al W I => (HW W _ (I.box 0 153 _)).out) fun Al W I => ?_
    refine zki 6 I .i64 (((wid f.g : Nat) : Int) * pw) (mw) ((by rw [HMW.out]; exact iwo)) fun I => ?_
    refine zo 7 I fun I => ?_
    refine zqo I (fun Al W I => (HH W c I.fa.1.rd I.fa.1.le_cap I.fa.2.1).out) fun Al W p13 c13 I => ?_
    refine zo 9 I fun I => ?_
    refine zn I fun Al W I => ?_
    exact b0c I J fun Al W U I => hJ _ _ _ _ _ ⟨U, p13, c13, rfl, rfl, rfl⟩ (I.pick [0, 1, 2])
  rintro _ _ _ ⟨U1, p13, c13, rfl, rfl, rfl⟩ Al W I
  refine zq I (fun Al W I => x0t d.neg p13 _ c13 d.e d.m W rfl) fun Al W I => ?_
  exact zret I fun Al W I => ⟨p13, c13, rfl, I.fa.1.mono (by omega), I.below⟩
theorem i1m (f : Fm) (n way : Int) (u : Nat) (w : World) (U : Bt w u 153 #[.int .i64 n, .int .i64 way, .int .i64 f.g.rad, .int .i64 f.g.digs, .int .i64 f.g.lo, .int .i64 f.g.hi, .bool f.g.grad, .int .u8 (famB f), .int .i64 0]) (fl : Nat) (b : Int) (hc : bits .or .i64 0 b = (fl : Nat)) :
 Calls Tryd.prog 110 #[.pointer (some ⟨u, 0, none⟩), .int .i64 b] w (e0s f n way u w w.heap.size (f.nothM, fl)) := by
 have HR := fun W u hU => hi0 (b0y f n way 0 b (fl : Nat) u W hU hc)
 have HN := fun W u hU => hi0 (i0h f n way (fl : Nat) u W hU)
 have hk : f.nothM.cls ≠ 2 := by unfold Fm.nothM; simp only; split <;> (try split) <;> omega
 have e : f.nothM = ⟨f.nothM.cls, false, vz⟩ := rfl
 rw [e]
 generalize f.nothM.cls = k at *
 have I := Inv.startW w u 153 (uS f n way 0) [] U True.intro True.intro
 refine a0c [.p 0 0, .v (.int .i64 b)] I Tryd.func110 ?_
 refine zge I 0 153 (fun Al W I => (HR W _ (I.box 0 153 _)).out) fun Al V Iv _ _ kz => ?_
 rintro _ W ⟨rfl, hO, hB⟩
 refine ⟨_, rfl, kz _ (uS f n way (fl : Int)) _ hO hB fun I => ?_⟩
 refine zq I (fun Al W I => (HN W _ (I.box 0 153 _)).out) fun Al W I => ?_
 exact zret I fun Al W I => a0f hk rfl I.bel (I.boxE 153 _)
theorem o0c (f : Fm) (n way : Int) (x : Dv) (p : Option Addr) (c u : Nat) (w : World) (U : Bt w u 153 #[.int .i64 n, .int .i64 way, .int .i64 f.g.rad, .int .i64 f.g.digs, .int .i64 f.g.lo, .int .i64 f.g.hi, .bool f.g.grad, .int .u8 (famB f), .int .i64 0]) (hp : Rd w .u32 p (dig B32 x.m))
 (hl : (dig B32 x.m).length ≤ 100000) (he : -1000000 ≤ x.e ∧ x.e ≤ 1000000) (G : b0g f) (hw : 1 ≤ way ∧ way ≤ 5) :
 Calls Tryd.prog 115 #[.pointer (some ⟨u, 0, none⟩), .agg #[.bool x.neg, .slice p (dig B32 x.m).length c, .int .i64 x.e]] w (e0s f n way u w w.heap.size (f.numM x way)) := by
 have hs : d0x ⟨x.neg, x.m, x.e⟩ = d0x x := rfl
 have HS := fun W => hi0 (c0p x.neg p _ c x.e x.m W rfl)
 rw [hs] at HS
 have h0 := l0c x
 by_cases hx : x.m = 0
 · have hn : f.numM x way = (⟨1, false, vz⟩, 0) := by unfold Fm.numM Fm.zeroM; rw [if_pos hx]; simp
   rw [hn]
   have HZ := fun W u hU => hi0 (p0m f n way 0 false u W hU)
   rw [Bool.false_and] at HZ
   have hd := h0.2 hx
   generalize d0x x = sx at *
   have I := Inv.startW w u 153 (uS f n way 0) [rdF .u32 p (dig B32 x.m)] U ⟨hp, True.intro⟩ ⟨fun hf => hp.far U (by kernel_rfl) hf.1 hf.2, True.intro⟩
   refine a0c [.p 0 0, .v (.agg #[.bool x.neg, .slice p (dig B32 x.m).length c, .int .i64 x.e])] I Tryd.func115 ?_
   refine zq I (fun Al W I => (HS W).out) fun Al W I => ?_
   refine zb I 7 (sx == 0) (true) (beq_iff_eq.2 hd) fun Al W I => ?_
   refine zq I (fun Al W I => (HZ W _ (I.box 0 153 _)).out) fun Al W I => ?_
   exact zret I fun Al W I => a0f (k := 1) (by decide) rfl I.bel (I.boxE 153 _)
 · have hn : f.numM x way = f.placedM (a0m x.neg x.m 1 x.e f.g way) way := by unfold Fm.numM; rw [if_neg hx]
   rw [hn]
   have hd : d0x x ≠ 0 := fun h => hx (h0.1 h)
   have l1 : (dig B32 1).length ≤ 1 := by rw [a0h a0a]; unfold B32; omega
   have HF := fun p q c d u W U h1 h2 => hi0 (j1q f n way x.neg p q c d x.m 1 x.e u W U h1 h2 hl (by omega) (by omega) (by omega) he G hw)
   have HV := (m0k G (neg := x.neg) (num := x.m) (den := 1) (e := x.e) (way := way) (by omega)).2
   have hm : f.placedM (a0m x.neg x.m 1 x.e f.g way) way = ((f.placedM (a0m x.neg x.m 1 x.e f.g way) way).1, (f.placedM (a0m x.neg x.m 1 x.e f.g way) way).2) := rfl
   rw [hm]
   generalize (f.placedM (a0m x.neg x.m 1 x.e f.g way) way).1 = r at *
   generalize (f.placedM (a0m x.neg x.m 1 x.e f.g way) way).2 = fl at *
   generalize f.placedV (a0m x.neg x.m 1 x.e f.g way) way = v at *
   generalize d0x x = sx at *
   have I := Inv.startW w u 153 (uS f n way 0) [rdF .u32 p (dig B32 x.m)] U ⟨hp, True.intro⟩ ⟨fun hf => hp.far U (by kernel_rfl) hf.1 hf.2, True.intro⟩
   refine a0c [.p 0 0, .v (.agg #[.bool x.neg, .slice p (dig B32 x.m).length c, .int .i64 x.e])] I Tryd.func115 ?_
   refine zq I (fun Al W I => (HS W).out) fun Al W I => ?_
   refine zb I 7 (sx == 0) (false) (bFn hd) fun Al W I => ?_
   refine zd [0, 2] I fun Al W I => ?_
   refine zk [0, 1, 2, 3, 4, 5, 6, 8, 9, 10] I fun I => ?_
   refine zo 7 I fun I => ?_
   refine zqo I (fun Al W I => have hzW := I.bel.size; sof 1 1 rfl (by omega) W) fun Al W p17 c17 I => ?_
   refine zk [11] I fun I => ?_
   refine zo 12 I fun I => ?_
   refine zge I 0 153 (fun Al W I => (HF p p17 c c17 _ W (I.box 0 153 _) I.fa.2.1 I.fa.1.rd).out) fun Al V Iv _ _ kz => ?_
   rintro _ W ⟨p22, c22, rfl, o22, hO, hB⟩
   refine ⟨_, rfl, kz _ (uS f n way (fl : Int)) _ hO hB fun I => ?_⟩
   have I := I.own o22
   refine zo 13 I fun I => ?_
   refine zn I fun Al W I => ?_
   exact zret I fun Al W I => ⟨v, HV, p22, c22, rfl, I.fa.1.mono (by omega), I.bel, I.boxE 153 _⟩
structure Vp where
 v : Vl
 p : Option Addr
 c : Nat
def Vp.cells (x : Vp) : List Value := [.int .i64 (x.v.cls : Int), .bool x.v.neg, .slice x.p (dig B32 x.v.d).length x.c, .int .i64 x.v.pow]
theorem Vp.len (x : Vp) : x.cells.length = 4 := rfl
theorem o0d : x0c Tryd.prog 101 29 4 48 := a1p (z := .agg #[.int .i64 0, .bool false, .slice none 0 0, .int .i64 0]) (by kernel_rfl) (by kernel_rfl) (by kernel_rfl) (by kernel_rfl) (by kernel_rfl)
theorem l0i : d0q Tryd.prog 29 4 := c0e (by kernel_rfl) (by kernel_rfl)
theorem y0y (f : Fm) (n way fl : Int) (xs : List Vp) (b m u : Nat) (w : World) (U : Bt w u 153 #[.int .i64 n, .int .i64 way, .int .i64 f.g.rad, .int .i64 f.g.digs, .int .i64 f.g.lo, .int .i64 f.g.hi, .bool f.g.grad, .int .u8 (famB f), .int .i64 fl]) (hB : Bt w b 29 (xs.flatMap Vp.cells).toArray) (hm : m = xs.length) (hl : xs.length ≤ 1000) (hno : ∀ x ∈ xs, x.v.cls < 4) :
 Calls Tryd.prog 108 #[.pointer (some ⟨u, 0, none⟩), .slice (some ⟨b, 0, none⟩) m m] w fun en w' => en = .returned (.tuple #[.agg #[.int .i64 0, .bool false, .slice none 0 0, .int .i64 0], .bool false]) ∧ Below w.heap.size w w' := by
 subst hm
 have HX : ∀ i, i < xs.length → ∃ x : Vp, xs[i]? = some x ∧ x.v.cls < 4 := fun i h => ⟨xs[i], List.getElem?_eq_getElem h, hno _ (List.getElem_mem h)⟩
 have I := Inv.startR w [u] [⟨153, (uS f n way fl), true⟩] [btF b 29 (xs.flatMap Vp.cells).toArray] ⟨U, True.intro⟩ ⟨hB, True.intro⟩
 refine a0c [.p 0 0, .v (.slice (some ⟨b, 0, none⟩) xs.length xs.length)] I Tryd.func108 ?_
 refine w0u I (fun gk fr bx gs => ∃ (U900 : Nat → Value) (i : Nat), fr = (.p 0 0 :: .v (.slice (some ⟨b, 0, none⟩) xs.length xs.length) :: su 2 (.p 1 0 :: .v (U900 5) :: .v undef :: .v (U900 7) :: .v (.slice (some ⟨b, 0, none⟩) xs.length xs.length) :: .v (.int .i64 (xs.length : Int)) :: .v (.int .i64 (i : Int)) :: sw U900 11 16 []) : List SV) ∧ bx = [⟨153, (uS f n way fl), true⟩, ⟨29, [.v (.int .i64 0), .v (.bool false), .v (.slice none 0 0), .v (.int .i64 0)], false⟩] ∧ gs = [btF b 29 (xs.flatMap Vp.cells).toArray] ∧ (gk + i = xs.length)) xs.length (fun Al W U I => ⟨_, ⟨U, 0, rfl, rfl, rfl, (by omega)⟩, I.pick [0]⟩) ?_
 rintro J gk0 _ _ _ ⟨U900, i, rfl, rfl, rfl, hgk⟩ hJ Al W I
 rcases Bool.eq_false_or_eq_true (decide ((i : Int) < (xs.length : Int))) with f11 | f11
 · refine zb I 11 (decide ((i : Int) < (xs.length : Int))) (true) (f11) fun Al W I => ?_
   obtain ⟨x, hx, hx4⟩ := HX i (by have := oTr f11; omega)
   refine zx I 12 (fun _ => .pointer (some (at_ (some ⟨b, 0, none⟩) (i * 4)))) (fun Al W I => (k0o (m := i) (n := xs.length) (c := xs.length) o0d (fun _ => ⟨rfl, rfl⟩) (by have := oTr f11; omega))) fun Al W I => ?_
   refine zx I 13 (fun _ => .agg #[.int .i64 (x.v.cls : Int), .bool x.v.neg, .slice x.p (dig B32 x.v.d).length x.c, .int .i64 x.v.pow]) (fun Al W I => (d1o I.fa.1 l0i x.cells (q0y Vp.len hx) rfl)) fun Al W I => ?_
   refine zqd I (fun Al W I => l0e x.v.cls x.v.neg x.p (dig B32 x.v.d).length x.c x.v.pow W) (show (decide (x.v.cls = 4) || decide (x.v.cls = 5)) = false from (by rw [decide_eq_false (by omega), decide_eq_false (by omega)]; rfl)) fun Al W I => ?_
   refine zi I 25 .i64 ((i : Int) + 1) (((i + 1 : Nat) : Int)) ((by rw [show ((i : Int) + 1) = ((i + 1 : Nat) : Int) by omega]; exact IntWalk.i64_in _ (by have := oTr f11; omega))) fun Al W I => ?_
   exact s0r 2 I J fun Al W U I => hJ (gk0 - 1) _ _ _ _ _ ((by have := oTr f11; omega)) ⟨U, i + 1, rfl, rfl, rfl, (by have := oTr f11; omega)⟩ (I.pick [0])
 refine zb I 11 (decide ((i : Int) < (xs.length : Int))) (false) (f11) fun Al W I => ?_
 exact zrb I
theorem r0l (f : Fm) (n way : Int) (xs : List Vp) (b m u : Nat) (w : World) (U : Bt w u 153 #[.int .i64 n, .int .i64 way, .int .i64 f.g.rad, .int .i64 f.g.digs, .int .i64 f.g.lo, .int .i64 f.g.hi, .bool f.g.grad, .int .u8 (famB f), .int .i64 0]) (hB : Bt w b 29 (xs.flatMap Vp.cells).toArray) (hm : m = xs.length) (hl : xs.length ≤ 1000) (hc : ∀ x ∈ xs, x.v.cls ≤ 5) (G : b0g f) (hyes : ∃ x ∈ xs, 4 ≤ x.v.cls) :
 Calls Tryd.prog 108 #[.pointer (some ⟨u, 0, none⟩), .slice (some ⟨b, 0, none⟩) m m] w fun en w' => en = .returned (.tuple #[.agg #[.int .i64 (f.nothM.cls : Int), .bool false, .slice none 0 0, .int .i64 0], .bool true]) ∧ Kp [u] w w' ∧ Bt w' u 153 #[.int .i64 n, .int .i64 way, .int .i64 f.g.rad, .int .i64 f.g.digs, .int .i64 f.g.lo, .int .i64 f.g.hi, .bool f.g.grad, .int .u8 (famB f), .int .i64 ((f.offM.2 : Nat) : Int)] := by
 subst hm
 have HX : ∀ i, i < xs.length → ∃ x : Vp, xs[i]? = some x ∧ x.v.cls ≤ 5 := fun i h => ⟨xs[i], List.getElem?_eq_getElem h, hc _ (List.getElem_mem h)⟩
 obtain ⟨y, hy, hy4⟩ := hyes
 obtain ⟨j, hj, hjy⟩ := List.getElem_of_mem hy
 have hYJ : xs[j]? = some y := by rw [List.getElem?_eq_getElem hj, hjy]
 clear hjy hy hc
 have HN := fun fl W u hU => hi0 (i0h f n way fl u W hU)
 have HR := fun W u hU => hi0 (b0y f n way 0 16 16 u W hU (by decide +kernel))
 have e2 : f.fam = 3 → ((f.offM.2 : Nat) : Int) = 16 ∧ famB f = 67 := fun h => ⟨by unfold Fm.offM; rw [if_pos h]; rfl, by unfold famB; rw [if_neg (by omega), if_neg (by omega)]⟩
 have e3 : f.fam ≠ 3 → ((f.offM.2 : Nat) : Int) = 0 := fun h => by unfold Fm.offM; rw [if_neg h]; rfl
 have e4 : f.fam ≠ 3 → famB f ≠ 67 := fun h => by have := G.fam; unfold famB; split; decide; rw [if_pos (by omega)]; decide
 generalize ((f.offM.2 : Nat) : Int) = fl at *
 generalize f.nothM.cls = kN at *
 have I := Inv.startW w u 153 (uS f n way 0) [btF b 29 (xs.flatMap Vp.cells).toArray] U ⟨hB, True.intro⟩ ⟨fun hf => hB.far U (by kernel_rfl) hf, True.intro⟩
 refine a0c [.p 0 0, .v (.slice (some ⟨b, 0, none⟩) xs.length xs.length)] I Tryd.func108 ?_
 refine w0u I (fun gk fr bx gs => ∃ (U900 : Nat → Value) (i : Nat), fr = (.p 0 0 :: .v (.slice (some ⟨b, 0, none⟩) xs.length xs.length) :: su 2 (.p 1 0 :: .v (U900 5) :: .v undef :: .v (U900 7) :: .v (.slice (some ⟨b, 0, none⟩) xs.length xs.length) :: .v (.int .i64 (xs.length : Int)) :: .v (.int .i64 (i : Int)) :: sw U900 11 16 []) : List SV) ∧ bx = [⟨153, (uS f n way 0), false⟩, ⟨29, [.v (.int .i64 0), .v (.bool false), .v (.slice none 0 0), .v (.int .i64 0)], false⟩] ∧ gs = [btF b 29 (xs.flatMap Vp.cells).toArray] ∧ (gk + i = xs.length) ∧ (∀ (j : Nat) (x : Vp), j < i → xs[j]? = some x → x.v.cls < 4)) xs.length (fun Al W U I => ⟨_, ⟨U, 0, rfl, rfl, rfl, (by omega), (fun _ _ h => absurd h (by omega))⟩, I.pick [0]⟩) ?_
 rintro J gk0 _ _ _ ⟨U900, i, rfl, rfl, rfl, hgk, hlt⟩ hJ Al W I
 rcases Bool.eq_false_or_eq_true (decide ((i : Int) < (xs.length : Int))) with f11 | f11
 · refine zb I 11 (decide ((i : Int) < (xs.length : Int))) (true) (f11) fun Al W I => ?_
   obtain ⟨x, hx, hx5⟩ := HX i (by have := oTr f11; omega)
   refine zx I 12 (fun _ => .pointer (some (at_ (some ⟨b, 0, none⟩) (i * 4)))) (fun Al W I => (k0o (m := i) (n := xs.length) (c := xs.length) o0d (fun _ => ⟨rfl, rfl⟩) (by have := oTr f11; omega))) fun Al W I => ?_
   refine zx I 13 (fun _ => .agg #[.int .i64 (x.v.cls : Int), .bool x.v.neg, .slice x.p (dig B32 x.v.d).length x.c, .int .i64 x.v.pow]) (fun Al W I => (d1o I.fa.1 l0i x.cells (q0y Vp.len hx) rfl)) fun Al W I => ?_
   by_cases hof : 4 ≤ x.v.cls
   · refine zqd I (fun Al W I => l0e x.v.cls x.v.neg x.p (dig B32 x.v.d).length x.c x.v.pow W) (show (decide (x.v.cls = 4) || decide (x.v.cls = 5)) = true from (by rcases (show x.v.cls = 4 ∨ x.v.cls = 5 by omega) with h | h <;> rw [h] <;> rfl)) fun Al W I => ?_
     by_cases hf3 : f.fam = 3
     · refine zb I 20 ((famB f) == 67) (true) (beq_iff_eq.2 (e2 hf3).2) fun Al W I => ?_
       refine zge I 0 153 (fun Al W I => (HR W _ (I.box 0 153 _)).out) fun Al V Iv _ _ kz => ?_
       rintro _ W ⟨rfl, hO, hB⟩
       refine ⟨_, rfl, kz _ (uS f n way 16) _ hO hB fun I => ?_⟩
       refine zq I (fun Al W I => (HN 16 W _ (I.box 0 153 _)).out) fun Al W I => ?_
       refine zret I (v := fun Al => .tuple #[.agg #[.int .i64 (kN : Int), .bool false, .slice none 0 0, .int .i64 0], .bool true]) fun Al W I => ?_
       first | exact ⟨rfl, I.bel, by rw [(e2 hf3).1]; exact I.boxE 153 _⟩ | exact ⟨rfl, I.bel, by rw [e3 hf3]; exact I.boxE 153 _⟩
     refine zb I 20 ((famB f) == 67) (false) (bFn (e4 hf3)) fun Al W I => ?_
     refine zq I (fun Al W I => (HN 0 W _ (I.box 0 153 _)).out) fun Al W I => ?_
     refine zret I (v := fun Al => .tuple #[.agg #[.int .i64 (kN : Int), .bool false, .slice none 0 0, .int .i64 0], .bool true]) fun Al W I => ?_
     first | exact ⟨rfl, I.bel, by rw [(e2 hf3).1]; exact I.boxE 153 _⟩ | exact ⟨rfl, I.bel, by rw [e3 hf3]; exact I.boxE 153 _⟩
   refine zqd I (fun Al W I => l0e x.v.cls x.v.neg x.p (dig B32 x.v.d).length x.c x.v.pow W) (show (decide (x.v.cls = 4) || decide (x.v.cls = 5)) = false from (by rw [decide_eq_false (by omega), decide_eq_false (by omega)]; rfl)) fun Al W I => ?_
   refine zi I 25 .i64 ((i : Int) + 1) (((i + 1 : Nat) : Int)) ((by rw [show ((i : Int) + 1) = ((i + 1 : Nat) : Int) by omega]; exact IntWalk.i64_in _ (by have := oTr f11; omega))) fun Al W I => ?_
   exact s0r 2 I J fun Al W U I => hJ (gk0 - 1) _ _ _ _ _ ((by have := oTr f11; omega)) ⟨U, i + 1, rfl, rfl, rfl, (by have := oTr f11; omega), (fun j' x' h h' => by rcases (show j' < i ∨ j' = i by omega) with q | rfl; exact hlt j' x' q h'; rw [hx] at h'; cases h'; omega)⟩ (I.pick [0])
 refine zb I 11 (decide ((i : Int) < (xs.length : Int))) (false) (f11) fun Al W I => ?_
 exact zret I (v := fun Al => .tuple #[.agg #[.int .i64 0, .bool false, .slice none 0 0, .int .i64 0], .bool false]) fun Al W I => absurd (hlt j y (by have := oFa f11; omega) hYJ) (by rw [Nat.not_lt]; omega)
theorem y0z (x y : Dv) (p q : Option Addr) (c d base : Nat) (w : World) (hx : Bare x) (hy : Bare y) (sx : SmD x) (sy : SmD y) (hp : Own w base .u32 76 p c (dig B32 x.m)) (hq : Own w base .u32 76 q d (dig B32 y.m)) (hT : TabW w) (hb : base ≤ w.heap.size) :
 Calls Tryd.prog 101 #[.agg #[.bool x.neg, .slice p (dig B32 x.m).length c, .int .i64 x.e], .agg #[.bool y.neg, .slice q (dig B32 y.m).length d, .int .i64 y.e]] w (e0l w base (g0q x y)) := by
 have h1 := sx.len
 have h2 := sy.len
 have h3 := sx.lo
 have h4 := sx.hi
 have h5 := sy.lo
 have h6 := sy.hi
 have := w0a x.neg y.neg p q _ c _ d base x.e y.e x.m y.m w hp hq rfl rfl (by omega) (by omega) (by omega) (by omega) hT hb
 rw [show (⟨x.neg, x.m, x.e⟩ : Dv) = x from rfl, show (⟨y.neg, y.m, y.e⟩ : Dv) = y from rfl, s0a hx hy] at this
 exact this
theorem j1r (f : Fm) (n way : Int) (x y : Dv) (g h : Bool) (p q : Option Addr) (c d base u : Nat) (w : World) (U : Bt w u 153 #[.int .i64 n, .int .i64 way, .int .i64 f.g.rad, .int .i64 f.g.digs, .int .i64 f.g.lo, .int .i64 f.g.hi, .bool f.g.grad, .int .u8 (famB f), .int .i64 0]) (hp : Own w base .u32 76 p c (dig B32 x.m)) (hq : Own w base .u32 76 q d (dig B32 y.m)) (hb : base ≤ w.heap.size)
 (hx : Bare x) (hy : Bare y) (sx : SmD x) (sy : SmD y) (G : b0g f) (hw : 1 ≤ way ∧ way ≤ 5) (hT : TabW w) :
 Calls Tryd.prog 111 #[.pointer (some ⟨u, 0, none⟩), .agg #[.bool x.neg, .slice p (dig B32 x.m).length c, .int .i64 x.e], .agg #[.bool y.neg, .slice q (dig B32 y.m).length d, .int .i64 y.e], .bool g, .bool h] w (e0s f n way u w w.heap.size (f.sumM x y g h way)) := by
 have HP := fun W h1 h2 h3 h4 => hi0 (y0z x y p q c d base W hx hy sx sy h1 h2 h3 h4)
 have hbd := b1i sx.len sy.len sx.lo sx.hi sy.lo sy.hi
 rw [s0a hx hy] at hbd
 have hS1 : (g0q x y).m ≠ 0 → f.sumM x y g h way = f.numM (g0q x y) way := fun k => by unfold Fm.sumM; rw [if_pos k]
 have hS2 : (g0q x y).m = 0 → x.m = 0 ∧ g = h → f.sumM x y g h way = (f.zeroM g, 0) := fun k k' => by unfold Fm.sumM; rw [if_neg (fun h => h k), if_pos k']
 have hS3 : (g0q x y).m = 0 → ¬ (x.m = 0 ∧ g = h) → f.sumM x y g h way = (f.zeroM (decide (way = 5)), 0) := fun k k' => by unfold Fm.sumM; rw [if_neg (fun h => h k), if_neg k']
 generalize g0q x y = s at *
 generalize f.sumM x y g h way = R at *
 have HN := fun W u (p : Option Addr) (c : Nat) hU h1 => hi0 (o0c f n way s p c u W hU h1 (by omega) (by omega) G hw)
 have HS := fun (W : World) (p : Option Addr) (c : Nat) => hi0 (c0p s.neg p _ c s.e s.m W rfl)
 have HX := fun (W : World) => hi0 (c0p x.neg p _ c x.e x.m W rfl)
 have HZ := fun g W u hU => hi0 (p0m f n way 0 g u W hU)
 rw [show (⟨s.neg, s.m, s.e⟩ : Dv) = s from rfl] at HS
 rw [show (⟨x.neg, x.m, x.e⟩ : Dv) = x from rfl] at HX
 have hs0 := l0c s
 have hx0 := l0c x
 generalize d0x s = ss at *
 generalize d0x x = xs at *
 obtain ⟨rN, flN, hN⟩ : ∃ rN flN, f.numM s way = (rN, flN) := ⟨_, _, rfl⟩
 rw [hN] at HN hS1
 clear hN
 have I := Inv.startW w u 153 (uS f n way 0) [ownF base .u32 76 p c (dig B32 x.m), ownF base .u32 76 q d (dig B32 y.m), tabF] U ⟨hp, hq, hT, True.intro⟩ ⟨fun hf => hp.far U (by kernel_rfl) hf.1 hf.2, fun hf => hq.far U (by kernel_rfl) hf.1 hf.2, fun hf => hT.far U (by kernel_rfl) hf, True.intro⟩
 refine a0c [.p 0 0, .v (.agg #[.bool x.neg, .slice p (dig B32 x.m).length c, .int .i64 x.e]), .v (.agg #[.bool y.neg, .slice q (dig B32 y.m).length d, .int .i64 y.e]), .v (.bool g), .v (.bool h)] I Tryd.func111 ?_
 refine zg I (fun Al W I => have hzW := I.bel.size; (HP W I.fa.1 I.fa.2.1 I.fa.2.2.1 (by omega)).out) fun Al V Iv _ hB _ kz => ?_
 rintro _ W ⟨p14, c14, rfl, o14, hb⟩
 refine ⟨_, rfl, kz _ _ hb fun I => ?_⟩
 have I := I.ownB base o14
 by_cases hs : s.m = 0
 · refine zq I (fun Al W I => (HS W p14 c14).out) fun Al W I => ?_
   refine zb I 17 (ss != 0) (false) (bne_eq_false_iff_eq.2 (hs0.2 hs)) fun Al W I => ?_
   by_cases hx1 : x.m = 0
   · by_cases hgh : g = h
     · refine zq I (fun Al W I => (HX W).out) fun Al W I => ?_
       refine zb I 23 (xs == 0) (true) (beq_iff_eq.2 (hx0.2 hx1)) fun Al W I => ?_
       refine zb I 27 (g == h) (true) ((by rw [hgh]; exact beq_self_eq_true h)) fun Al W I => ?_
       refine zq I (fun Al W I => (HZ g W _ (I.box 0 153 _)).out) fun Al W I => ?_
       rw [hS2 hs ⟨hx1, hgh⟩]
       exact zret I fun Al W I => a0f (k := 1) (by decide) rfl I.bel (I.boxE 153 _)
     refine zq I (fun Al W I => (HX W).out) fun Al W I => ?_
     refine zb I 23 (xs == 0) (true) (beq_iff_eq.2 (hx0.2 hx1)) fun Al W I => ?_
     refine zb I 27 (g == h) (false) (bFn hgh) fun Al W I => ?_
     refine zb I 37 (way == 5) ((decide (way = 5))) (rfl) fun Al W I => ?_
     refine zq I (fun Al W I => (HZ (decide (way = 5)) W _ (I.box 0 153 _)).out) fun Al W I => ?_
     rw [hS3 hs (fun k => by first | exact hx1 k.1 | exact hgh k.2)]
     exact zret I fun Al W I => a0f (k := 1) (by decide) rfl I.bel (I.boxE 153 _)
   by_cases hgh : g = h
   · refine zq I (fun Al W I => (HX W).out) fun Al W I => ?_
     refine zb I 23 (xs == 0) (false) (bFn (fun k => hx1 (hx0.1 k))) fun Al W I => ?_
     refine zb I 37 (way == 5) ((decide (way = 5))) (rfl) fun Al W I => ?_
     refine zq I (fun Al W I => (HZ (decide (way = 5)) W _ (I.box 0 153 _)).out) fun Al W I => ?_
     rw [hS3 hs (fun k => by first | exact hx1 k.1 | exact hgh k.2)]
     exact zret I fun Al W I => a0f (k := 1) (by decide) rfl I.bel (I.boxE 153 _)
   refine zq I (fun Al W I => (HX W).out) fun Al W I => ?_
   refine zb I 23 (xs == 0) (false) (bFn (fun k => hx1 (hx0.1 k))) fun Al W I => ?_
   refine zb I 37 (way == 5) ((decide (way = 5))) (rfl) fun Al W I => ?_
   refine zq I (fun Al W I => (HZ (decide (way = 5)) W _ (I.box 0 153 _)).out) fun Al W I => ?_
   rw [hS3 hs (fun k => by first | exact hx1 k.1 | exact hgh k.2)]
   exact zret I fun Al W I => a0f (k := 1) (by decide) rfl I.bel (I.boxE 153 _)
 refine zq I (fun Al W I => (HS W p14 c14).out) fun Al W I => ?_
 refine zb I 17 (ss != 0) (true) (bne_iff_ne.2 (fun k => hs (hs0.1 k))) fun Al W I => ?_
 refine zge I 0 153 (fun Al W I => (HN W _ p14 c14 (I.box 0 153 _) I.fa.1.rd).out) fun Al V Iv _ _ kz => ?_
 rintro _ W ⟨v20, hR20, p20, c20, rfl, o20, hO, hB⟩
 refine ⟨_, rfl, kz _ (uS f n way (flN : Int)) _ hO hB fun I => ?_⟩
 have I := I.own o20
 rw [hS1 hs]
 exact zret I fun Al W I => ⟨v20, hR20, p20, c20, rfl, I.fa.1, I.bel, I.boxE 153 _⟩
structure AtV (f : Fm) (a : Vp) (r : Vr) : Prop where
 rep : VRep f a.v r
 ok : VrOk r
 inf : r.cls = 3 → f.fam = 1
theorem VrOk.sm {r : Vr} (R : VrOk r) : SmD r.x := ⟨by have := R.len; omega, by have := R.lo; omega, by have := R.hi; omega⟩
theorem c1i {r s : Vr} (R : VrOk r) (S : VrOk s) : SmD (d0f r.x s.x) := by
 have h1 := R.len
 have h2 := S.len
 have h3 := R.lo
 have h4 := R.hi
 have h5 := S.lo
 have h6 := S.hi
 have h7 := t0y r.x s.x
 have h8 : (dig B32 (r.x.m * s.x.m)).length ≤ 1200 := Nat.le_trans (c0h a0a _ _) (by omega)
 have h9 := k0c ⟨xor r.x.neg s.x.neg, r.x.m * s.x.m, r.x.e + s.x.e⟩ (n := 1200) h8 (lo := -60000) (hi := 60000) (by simp only; omega) (by simp only; omega) (by omega) (by omega)
 have e : d0f r.x s.x = bare ⟨xor r.x.neg s.x.neg, r.x.m * s.x.m, r.x.e + s.x.e⟩ := rfl
 rw [← e] at h9
 exact ⟨by omega, by omega, by omega⟩
theorem z0a (f : Fm) (n way : Int) (u : Nat) (w : World) (U : Bt w u 153 #[.int .i64 n, .int .i64 way, .int .i64 f.g.rad, .int .i64 f.g.digs, .int .i64 f.g.lo, .int .i64 f.g.hi, .bool f.g.grad, .int .u8 (famB f), .int .i64 0]) :
 Calls Tryd.prog 110 #[.pointer (some ⟨u, 0, none⟩), .int .i64 16] w fun en w' => en = .returned (.agg #[.int .i64 (f.nothM.cls : Int), .bool false, .slice none 0 0, .int .i64 0]) ∧ Kp [u] w w' ∧ Bt w' u 153 #[.int .i64 n, .int .i64 way, .int .i64 f.g.rad, .int .i64 f.g.digs, .int .i64 f.g.lo, .int .i64 f.g.hi, .bool f.g.grad, .int .u8 (famB f), .int .i64 16] := by
 have HR := fun W u hU => hi0 (b0y f n way 0 16 16 u W hU (by decide +kernel))
 have HN := fun W u hU => hi0 (i0h f n way 16 u W hU)
 generalize f.nothM.cls = k at *
 have I := Inv.startW w u 153 (uS f n way 0) [] U True.intro True.intro
 refine a0c [.p 0 0, .v (.int .i64 16)] I Tryd.func110 ?_
 refine zge I 0 153 (fun Al W I => (HR W _ (I.box 0 153 _)).out) fun Al V Iv _ _ kz => ?_
 rintro _ W ⟨rfl, hO, hB⟩
 refine ⟨_, rfl, kz _ (uS f n way 16) _ hO hB fun I => ?_⟩
 refine zq I (fun Al W I => (HN W _ (I.box 0 153 _)).out) fun Al W I => ?_
 exact zret I fun Al W I => ⟨rfl, I.bel, I.boxE 153 _⟩
theorem u0w (x y : Dv) (p q : Option Addr) (c d base : Nat) (w : World) (sx : SmD x) (sy : SmD y) (hp : Own w base .u32 76 p c (dig B32 x.m)) (hq : Own w base .u32 76 q d (dig B32 y.m)) (hT : TabW w) :
 Calls Tryd.prog 116 #[.agg #[.bool x.neg, .slice p (dig B32 x.m).length c, .int .i64 x.e], .agg #[.bool y.neg, .slice q (dig B32 y.m).length d, .int .i64 y.e]] w (e0l w w.heap.size (d0f x y)) := by
 have h1 := sx.len
 have h2 := sy.len
 have h3 := sx.lo
 have h4 := sx.hi
 have h5 := sy.lo
 have h6 := sy.hi
 exact u0a x.neg y.neg p q _ c _ d base x.e y.e x.m y.m w hp hq rfl rfl (by omega) (by omega) (by omega) (by omega) hT
def two (a b : Vp) : List Vp := [a, b]
theorem j1s (f : Fm) (n way : Int) (a b : Vp) (ra rb : Vr) (base u : Nat) (w : World) (U : Bt w u 153 #[.int .i64 n, .int .i64 way, .int .i64 f.g.rad, .int .i64 f.g.digs, .int .i64 f.g.lo, .int .i64 f.g.hi, .bool f.g.grad, .int .u8 (famB f), .int .i64 0]) (oa : Own w base .u32 76 a.p a.c (dig B32 a.v.d)) (ob : Own w base .u32 76 b.p b.c (dig B32 b.v.d)) (hb : base ≤ w.heap.size)
 (A1 : AtV f a ra) (B1 : AtV f b rb) (G : b0g f) (hw : 1 ≤ way ∧ way ≤ 5) (hT : TabW w) :
 Calls Tryd.prog 58 #[.pointer (some ⟨u, 0, none⟩), .agg #[.int .i64 (a.v.cls : Int), .bool a.v.neg, .slice a.p (dig B32 a.v.d).length a.c, .int .i64 a.v.pow], .agg #[.int .i64 (b.v.cls : Int), .bool b.v.neg, .slice b.p (dig B32 b.v.d).length b.c, .int .i64 b.v.pow]] w (e0s f n way u w base (f.addM ra rb way)) := by
 have hM : f.addM ra rb way = if 4 ≤ a.v.cls ∨ 4 ≤ b.v.cls then f.offM else if a.v.cls = 3 ∨ b.v.cls = 3 then (if a.v.cls = b.v.cls ∧ a.v.neg ≠ b.v.neg then f.lostM else if a.v.cls = 3 then (ra, 0) else (rb, 0)) else f.sumM ra.x rb.x a.v.neg b.v.neg way := by
  unfold Fm.addM; rw [A1.rep.cls, B1.rep.cls, A1.rep.neg, B1.rep.neg]
 have hca : a.v.cls ≤ 5 := by rw [A1.rep.cls]; exact A1.ok.c.2
 have hcb : b.v.cls ≤ 5 := by rw [B1.rep.cls]; exact B1.ok.c.2
 have HY := fun W b0 u h1 h2 h3 => hi0 (r0l f n way [a, b] b0 2 u W h1 h2 rfl (by simp) (by simp [hca, hcb]) G h3)
 have HN := fun W b0 u h1 h2 h3 => hi0 (y0y f n way 0 [a, b] b0 2 u W h1 h2 rfl (by simp) h3)
 have HL := fun W u h1 => hi0 (i1m f n way u W h1 16 16 (by decide +kernel))
 have HA := fun W u h1 h2 h3 => hi0 (y0x f n way 0 a.v ra a.p a.c base u W h1 h2 A1.rep A1.ok h3)
 have HB := fun W u h1 h2 h3 => hi0 (y0x f n way 0 b.v rb b.p b.c base u W h1 h2 B1.rep B1.ok h3)
 have HS := fun W p q c d base u h1 h2 h3 h4 h5 => hi0 (j1r f n way ra.x rb.x a.v.neg b.v.neg p q c d base u W h1 h2 h3 h4 A1.ok.bare B1.ok.bare A1.ok.sm B1.ok.sm G hw h5)
 have hoffm : f.offM = (⟨f.nothM.cls, false, vz⟩, f.offM.2) := rfl
 have hk2 := i0j G
 have hlostm : f.lostM = (f.nothM, 16) := rfl
 have VA := A1.rep
 have VB := B1.rep
 obtain ⟨rS, flS, hS⟩ : ∃ rS flS, f.sumM ra.x rb.x a.v.neg b.v.neg way = (rS, flS) := ⟨_, _, rfl⟩
 rw [hS] at HS hM
 generalize f.addM ra rb way = R at *
 generalize f.offM.2 = flo at *
 generalize f.nothM.cls = kN at *
 generalize f.nothM = rN at *
 have I := Inv.startW w u 153 (uS f n way 0) [ownF base .u32 76 a.p a.c (dig B32 a.v.d), ownF base .u32 76 b.p b.c (dig B32 b.v.d), tabF] U ⟨oa, ob, hT, True.intro⟩ ⟨fun hf => oa.far U (by kernel_rfl) hf.1 hf.2, fun hf => ob.far U (by kernel_rfl) hf.1 hf.2, fun hf => hT.far U (by kernel_rfl) hf, True.intro⟩
 refine a0c [.p 0 0, .v (.agg #[.int .i64 (a.v.cls : Int), .bool a.v.neg, .slice a.p (dig B32 a.v.d).length a.c, .int .i64 a.v.pow]), .v (.agg #[.int .i64 (b.v.cls : Int), .bool b.v.neg, .slice b.p (dig B32 b.v.d).length b.c, .int .i64 b.v.pow])] I Tryd.func58 ?_
 by_cases hof : 4 ≤ a.v.cls ∨ 4 ≤ b.v.cls
 · refine zge I 0 153 (fun Al W I => (HY W _ _ (I.box 0 153 _) (I.box 4 29 _) (by simpa using hof)).out) fun Al V Iv _ _ kz => ?_
   rintro _ W ⟨rfl, hO, hB⟩
   refine ⟨_, rfl, kz _ (uS f n way (flo : Int)) _ hO hB fun I => ?_⟩
   rw [hM]
   refine zret I (v := fun Al => .agg #[.int .i64 (kN : Int), .bool false, .slice none 0 0, .int .i64 0]) fun Al W I => ?_
   first | (rw [if_pos hof, hoffm]; exact a0f hk2 rfl I.bel (I.boxE 153 _)) | (rw [if_neg hof, if_pos (.inl h3a), if_neg (fun h => by first | exact h.2 hng | (have := h.1; omega)), if_pos h3a]; exact ⟨a.v, VA, a.p, a.c, rfl, I.fa.1, I.bel, I.boxE 153 _⟩) | (rw [if_neg hof, if_pos (.inr h3b), if_neg (fun h => h3a (by omega)), if_neg h3a]; exact ⟨b.v, VB, b.p, b.c, rfl, I.fa.2.1, I.bel, I.boxE 153 _⟩)
 refine zq I (fun Al W I => have hzW := I.bel.size; (HN W _ _ (I.box 0 153 _) (I.box 4 29 _) (by simp only [List.mem_cons, List.mem_nil_iff, or_false]; rintro x (rfl | rfl) <;> omega)).out) fun Al W I => ?_
 by_cases h3a : a.v.cls = 3
 · by_cases h3b : b.v.cls = 3
   · by_cases hng : a.v.neg = b.v.neg
     · refine zqd I (fun Al W I => a0b a.v.cls a.v.neg a.p (dig B32 a.v.d).length a.c a.v.pow W) (dTr h3a) fun Al W I => ?_
       refine zqd I (fun Al W I => a0b b.v.cls b.v.neg b.p (dig B32 b.v.d).length b.c b.v.pow W) (dTr h3b) fun Al W I => ?_
       refine zb I 31 (a.v.neg != b.v.neg) (false) (bne_eq_false_iff_eq.2 hng) fun Al W I => ?_
       refine zqd I (fun Al W I => a0b a.v.cls a.v.neg a.p (dig B32 a.v.d).length a.c a.v.pow W) (dTr h3a) fun Al W I => ?_
       rw [hM]
       refine zret I (v := fun Al => .agg #[.int .i64 (a.v.cls : Int), .bool a.v.neg, .slice a.p (dig B32 a.v.d).length a.c, .int .i64 a.v.pow]) fun Al W I => ?_
       first | (rw [if_pos hof, hoffm]; exact a0f hk2 rfl I.bel (I.boxE 153 _)) | (rw [if_neg hof, if_pos (.inl h3a), if_neg (fun h => by first | exact h.2 hng | (have := h.1; omega)), if_pos h3a]; exact ⟨a.v, VA, a.p, a.c, rfl, I.fa.1, I.bel, I.boxE 153 _⟩) | (rw [if_neg hof, if_pos (.inr h3b), if_neg (fun h => h3a (by omega)), if_neg h3a]; exact ⟨b.v, VB, b.p, b.c, rfl, I.fa.2.1, I.bel, I.boxE 153 _⟩)
     refine zqd I (fun Al W I => a0b a.v.cls a.v.neg a.p (dig B32 a.v.d).length a.c a.v.pow W) (dTr h3a) fun Al W I => ?_
     refine zqd I (fun Al W I => a0b b.v.cls b.v.neg b.p (dig B32 b.v.d).length b.c b.v.pow W) (dTr h3b) fun Al W I => ?_
     refine zb I 31 (a.v.neg != b.v.neg) (true) (bne_iff_ne.2 hng) fun Al W I => ?_
     refine zge I 0 153 (fun Al W I => (HL W _ (I.box 0 153 _)).out) fun Al V Iv _ _ kz => ?_
     rintro _ W ⟨v34, hR34, p34, c34, rfl, o34, hO, hB⟩
     refine ⟨_, rfl, kz _ (uS f n way 16) _ hO hB fun I => ?_⟩
     have I := I.ownB base o34
     rw [hM, if_neg hof, if_pos (.inl h3a), if_pos ⟨by omega, hng⟩, hlostm]
     exact zret I fun Al W I => ⟨v34, hR34, p34, c34, rfl, I.fa.1, I.bel, I.boxE 153 _⟩
   by_cases hng : a.v.neg = b.v.neg
   · refine zqd I (fun Al W I => a0b a.v.cls a.v.neg a.p (dig B32 a.v.d).length a.c a.v.pow W) (dTr h3a) fun Al W I => ?_
     refine zqd I (fun Al W I => a0b b.v.cls b.v.neg b.p (dig B32 b.v.d).length b.c b.v.pow W) (dFa h3b) fun Al W I => ?_
     refine zqd I (fun Al W I => a0b a.v.cls a.v.neg a.p (dig B32 a.v.d).length a.c a.v.pow W) (dTr h3a) fun Al W I => ?_
     rw [hM]
     refine zret I (v := fun Al => .agg #[.int .i64 (a.v.cls : Int), .bool a.v.neg, .slice a.p (dig B32 a.v.d).length a.c, .int .i64 a.v.pow]) fun Al W I => ?_
     first | (rw [if_pos hof, hoffm]; exact a0f hk2 rfl I.bel (I.boxE 153 _)) | (rw [if_neg hof, if_pos (.inl h3a), if_neg (fun h => by first | exact h.2 hng | (have := h.1; omega)), if_pos h3a]; exact ⟨a.v, VA, a.p, a.c, rfl, I.fa.1, I.bel, I.boxE 153 _⟩) | (rw [if_neg hof, if_pos (.inr h3b), if_neg (fun h => h3a (by omega)), if_neg h3a]; exact ⟨b.v, VB, b.p, b.c, rfl, I.fa.2.1, I.bel, I.boxE 153 _⟩)
   refine zqd I (fun Al W I => a0b a.v.cls a.v.neg a.p (dig B32 a.v.d).length a.c a.v.pow W) (dTr h3a) fun Al W I => ?_
   refine zqd I (fun Al W I => a0b b.v.cls b.v.neg b.p (dig B32 b.v.d).length b.c b.v.pow W) (dFa h3b) fun Al W I => ?_
   refine zqd I (fun Al W I => a0b a.v.cls a.v.neg a.p (dig B32 a.v.d).length a.c a.v.pow W) (dTr h3a) fun Al W I => ?_
   rw [hM]
   refine zret I (v := fun Al => .agg #[.int .i64 (a.v.cls : Int), .bool a.v.neg, .slice a.p (dig B32 a.v.d).length a.c, .int .i64 a.v.pow]) fun Al W I => ?_
   first | (rw [if_pos hof, hoffm]; exact a0f hk2 rfl I.bel (I.boxE 153 _)) | (rw [if_neg hof, if_pos (.inl h3a), if_neg (fun h => by first | exact h.2 hng | (have := h.1; omega)), if_pos h3a]; exact ⟨a.v, VA, a.p, a.c, rfl, I.fa.1, I.bel, I.boxE 153 _⟩) | (rw [if_neg hof, if_pos (.inr h3b), if_neg (fun h => h3a (by omega)), if_neg h3a]; exact ⟨b.v, VB, b.p, b.c, rfl, I.fa.2.1, I.bel, I.boxE 153 _⟩)
 by_cases h3b : b.v.cls = 3
 · by_cases hng : a.v.neg = b.v.neg
   · refine zqd I (fun Al W I => a0b a.v.cls a.v.neg a.p (dig B32 a.v.d).length a.c a.v.pow W) (dFa h3a) fun Al W I => ?_
     refine zqd I (fun Al W I => a0b a.v.cls a.v.neg a.p (dig B32 a.v.d).length a.c a.v.pow W) (dFa h3a) fun Al W I => ?_
     refine zqd I (fun Al W I => a0b b.v.cls b.v.neg b.p (dig B32 b.v.d).length b.c b.v.pow W) (dTr h3b) fun Al W I => ?_
     rw [hM]
     refine zret I (v := fun Al => .agg #[.int .i64 (b.v.cls : Int), .bool b.v.neg, .slice b.p (dig B32 b.v.d).length b.c, .int .i64 b.v.pow]) fun Al W I => ?_
     first | (rw [if_pos hof, hoffm]; exact a0f hk2 rfl I.bel (I.boxE 153 _)) | (rw [if_neg hof, if_pos (.inl h3a), if_neg (fun h => by first | exact h.2 hng | (have := h.1; omega)), if_pos h3a]; exact ⟨a.v, VA, a.p, a.c, rfl, I.fa.1, I.bel, I.boxE 153 _⟩) | (rw [if_neg hof, if_pos (.inr h3b), if_neg (fun h => h3a (by omega)), if_neg h3a]; exact ⟨b.v, VB, b.p, b.c, rfl, I.fa.2.1, I.bel, I.boxE 153 _⟩)
   refine zqd I (fun Al W I => a0b a.v.cls a.v.neg a.p (dig B32 a.v.d).length a.c a.v.pow W) (dFa h3a) fun Al W I => ?_
   refine zqd I (fun Al W I => a0b a.v.cls a.v.neg a.p (dig B32 a.v.d).length a.c a.v.pow W) (dFa h3a) fun Al W I => ?_
   refine zqd I (fun Al W I => a0b b.v.cls b.v.neg b.p (dig B32 b.v.d).length b.c b.v.pow W) (dTr h3b) fun Al W I => ?_
   rw [hM]
   refine zret I (v := fun Al => .agg #[.int .i64 (b.v.cls : Int), .bool b.v.neg, .slice b.p (dig B32 b.v.d).length b.c, .int .i64 b.v.pow]) fun Al W I => ?_
   first | (rw [if_pos hof, hoffm]; exact a0f hk2 rfl I.bel (I.boxE 153 _)) | (rw [if_neg hof, if_pos (.inl h3a), if_neg (fun h => by first | exact h.2 hng | (have := h.1; omega)), if_pos h3a]; exact ⟨a.v, VA, a.p, a.c, rfl, I.fa.1, I.bel, I.boxE 153 _⟩) | (rw [if_neg hof, if_pos (.inr h3b), if_neg (fun h => h3a (by omega)), if_neg h3a]; exact ⟨b.v, VB, b.p, b.c, rfl, I.fa.2.1, I.bel, I.boxE 153 _⟩)
 by_cases hng : a.v.neg = b.v.neg
 · refine zqd I (fun Al W I => a0b a.v.cls a.v.neg a.p (dig B32 a.v.d).length a.c a.v.pow W) (dFa h3a) fun Al W I => ?_
   refine zqd I (fun Al W I => a0b a.v.cls a.v.neg a.p (dig B32 a.v.d).length a.c a.v.pow W) (dFa h3a) fun Al W I => ?_
   refine zqd I (fun Al W I => a0b b.v.cls b.v.neg b.p (dig B32 b.v.d).length b.c b.v.pow W) (dFa h3b) fun Al W I => ?_
   refine zd [0, 3] I fun Al W I => ?_
   refine zk [0, 1, 2, 4, 5, 7, 8, 9, 10] I fun I => ?_
   refine zo 3 I fun I => ?_
   refine zg I (fun Al W I => (HA W _ (I.box 0 153 _) I.fa.1 I.fa.2.2.1).out) fun Al V Iv _ hB _ kz => ?_
   rintro _ W ⟨p46, c46, rfl, o46, hb⟩
   refine ⟨_, rfl, kz _ _ hb fun I => ?_⟩
   have I := I.ownB base o46
   refine zo 6 I fun I => ?_
   refine zg I (fun Al W I => (HB W _ (I.box 0 153 _) I.fa.2.2.1 I.fa.2.2.2.1).out) fun Al V Iv _ hB _ kz => ?_
   rintro _ W ⟨p49, c49, rfl, o49, hb⟩
   refine ⟨_, rfl, kz _ _ hb fun I => ?_⟩
   have I := I.ownB base o49
   refine zo 11 I fun I => ?_
   refine zge I 0 153 (fun Al W I => have hzW := I.bel.size; (HS W p46 p49 c46 c49 _ _ (I.box 0 153 _) I.fa.2.1 I.fa.1 (by omega) I.fa.2.2.2.2.1).out) fun Al V Iv _ _ kz => ?_
   rintro _ W ⟨v54, hR54, p54, c54, rfl, o54, hO, hB⟩
   refine ⟨_, rfl, kz _ (uS f n way (flS : Int)) _ hO hB fun I => ?_⟩
   have I := I.ownB base o54
   refine zo 12 I fun I => ?_
   refine zn I fun Al W I => ?_
   rw [hM, if_neg hof, if_neg (by rintro (h | h); exact h3a h; exact h3b h)]
   exact zret I fun Al W I => ⟨v54, hR54, p54, c54, rfl, I.fa.1, I.bel, I.boxE 153 _⟩
 refine zqd I (fun Al W I => a0b a.v.cls a.v.neg a.p (dig B32 a.v.d).length a.c a.v.pow W) (dFa h3a) fun Al W I => ?_
 refine zqd I (fun Al W I => a0b a.v.cls a.v.neg a.p (dig B32 a.v.d).length a.c a.v.pow W) (dFa h3a) fun Al W I => ?_
 refine zqd I (fun Al W I => a0b b.v.cls b.v.neg b.p (dig B32 b.v.d).length b.c b.v.pow W) (dFa h3b) fun Al W I => ?_
 refine zd [0, 3] I fun Al W I => ?_
 refine zk [0, 1, 2, 4, 5, 7, 8, 9, 10] I fun I => ?_
 refine zo 3 I fun I => ?_
 refine zg I (fun Al W I => (HA W _ (I.box 0 153 _) I.fa.1 I.fa.2.2.1).out) fun Al V Iv _ hB _ kz => ?_
 rintro _ W ⟨p46, c46, rfl, o46, hb⟩
 refine ⟨_, rfl, kz _ _ hb fun I => ?_⟩
 have I := I.ownB base o46
 refine zo 6 I fun I => ?_
 refine zg I (fun Al W I => (HB W _ (I.box 0 153 _) I.fa.2.2.1 I.fa.2.2.2.1).out) fun Al V Iv _ hB _ kz => ?_
 rintro _ W ⟨p49, c49, rfl, o49, hb⟩
 refine ⟨_, rfl, kz _ _ hb fun I => ?_⟩
 have I := I.ownB base o49
 refine zo 11 I fun I => ?_
 refine zge I 0 153 (fun Al W I => have hzW := I.bel.size; (HS W p46 p49 c46 c49 _ _ (I.box 0 153 _) I.fa.2.1 I.fa.1 (by omega) I.fa.2.2.2.2.1).out) fun Al V Iv _ _ kz => ?_
 rintro _ W ⟨v54, hR54, p54, c54, rfl, o54, hO, hB⟩
 refine ⟨_, rfl, kz _ (uS f n way (flS : Int)) _ hO hB fun I => ?_⟩
 have I := I.ownB base o54
 refine zo 12 I fun I => ?_
 refine zn I fun Al W I => ?_
 rw [hM, if_neg hof, if_neg (by rintro (h | h); exact h3a h; exact h3b h)]
 exact zret I fun Al W I => ⟨v54, hR54, p54, c54, rfl, I.fa.1, I.bel, I.boxE 153 _⟩
theorem g1d (f : Fm) (n way fl : Int) (a b : Vp) (u : Nat) (w : World) (U : Bt w u 153 #[.int .i64 n, .int .i64 way, .int .i64 f.g.rad, .int .i64 f.g.digs, .int .i64 f.g.lo, .int .i64 f.g.hi, .bool f.g.grad, .int .u8 (famB f), .int .i64 fl]) (h3a : a.v.cls ≠ 3) (h3b : b.v.cls ≠ 3) :
 Calls Tryd.prog 112 #[.pointer (some ⟨u, 0, none⟩), .agg #[.int .i64 (a.v.cls : Int), .bool a.v.neg, .slice a.p (dig B32 a.v.d).length a.c, .int .i64 a.v.pow], .agg #[.int .i64 (b.v.cls : Int), .bool b.v.neg, .slice b.p (dig B32 b.v.d).length b.c, .int .i64 b.v.pow]] w fun en w' => en = .returned (.tuple #[.agg #[.int .i64 0, .bool false, .slice none 0 0, .int .i64 0], .bool false]) ∧ Below w.heap.size w w' := by
 have I := Inv.startR w [u] [⟨153, (uS f n way fl), true⟩] [] ⟨U, True.intro⟩ True.intro
 refine a0c [.p 0 0, .v (.agg #[.int .i64 (a.v.cls : Int), .bool a.v.neg, .slice a.p (dig B32 a.v.d).length a.c, .int .i64 a.v.pow]), .v (.agg #[.int .i64 (b.v.cls : Int), .bool b.v.neg, .slice b.p (dig B32 b.v.d).length b.c, .int .i64 b.v.pow])] I Tryd.func112 ?_
 refine zqd I (fun Al W I => a0b a.v.cls a.v.neg a.p (dig B32 a.v.d).length a.c a.v.pow W) (dFa h3a) fun Al W I => ?_
 refine zqd I (fun Al W I => a0b b.v.cls b.v.neg b.p (dig B32 b.v.d).length b.c b.v.pow W) (dFa h3b) fun Al W I => ?_
 exact zrb I
theorem c1j (f : Fm) (n way fl : Int) (a b : Vp) (u : Nat) (w : World) (U : Bt w u 153 #[.int .i64 n, .int .i64 way, .int .i64 f.g.rad, .int .i64 f.g.digs, .int .i64 f.g.lo, .int .i64 f.g.hi, .bool f.g.grad, .int .u8 (famB f), .int .i64 fl]) (h3 : a.v.cls = 3 ∨ b.v.cls = 3) (h1 : ¬ (a.v.cls = 1 ∨ b.v.cls = 1)) :
 Calls Tryd.prog 112 #[.pointer (some ⟨u, 0, none⟩), .agg #[.int .i64 (a.v.cls : Int), .bool a.v.neg, .slice a.p (dig B32 a.v.d).length a.c, .int .i64 a.v.pow], .agg #[.int .i64 (b.v.cls : Int), .bool b.v.neg, .slice b.p (dig B32 b.v.d).length b.c, .int .i64 b.v.pow]] w fun en w' => en = .returned (.tuple #[.agg #[.int .i64 3, .bool (a.v.neg != b.v.neg), .slice none 0 0, .int .i64 0], .bool true]) ∧ Below w.heap.size w w' := by
 have I := Inv.startR w [u] [⟨153, (uS f n way fl), true⟩] [] ⟨U, True.intro⟩ True.intro
 refine a0c [.p 0 0, .v (.agg #[.int .i64 (a.v.cls : Int), .bool a.v.neg, .slice a.p (dig B32 a.v.d).length a.c, .int .i64 a.v.pow]), .v (.agg #[.int .i64 (b.v.cls : Int), .bool b.v.neg, .slice b.p (dig B32 b.v.d).length b.c, .int .i64 b.v.pow])] I Tryd.func112 ?_
 by_cases ha : a.v.cls = 3
 · refine zqd I (fun Al W I => a0b a.v.cls a.v.neg a.p (dig B32 a.v.d).length a.c a.v.pow W) (dTr ha) fun Al W I => ?_
   refine zqd I (fun Al W I => a0z a.v.cls a.v.neg a.p (dig B32 a.v.d).length a.c a.v.pow W) (dFa (by omega)) fun Al W I => ?_
   refine zqd I (fun Al W I => a0z b.v.cls b.v.neg b.p (dig B32 b.v.d).length b.c b.v.pow W) (dFa (by omega)) fun Al W I => ?_
   refine zb I 31 (a.v.neg != b.v.neg) ((a.v.neg != b.v.neg)) (rfl) fun Al W I => ?_
   refine zq I (fun Al W I => g0d (a.v.neg != b.v.neg) W) fun Al W I => ?_
   exact zrb I
 refine zqd I (fun Al W I => a0b a.v.cls a.v.neg a.p (dig B32 a.v.d).length a.c a.v.pow W) (dFa ha) fun Al W I => ?_
 refine zqd I (fun Al W I => a0b b.v.cls b.v.neg b.p (dig B32 b.v.d).length b.c b.v.pow W) (dTr (by omega)) fun Al W I => ?_
 refine zqd I (fun Al W I => a0z a.v.cls a.v.neg a.p (dig B32 a.v.d).length a.c a.v.pow W) (dFa (by omega)) fun Al W I => ?_
 refine zqd I (fun Al W I => a0z b.v.cls b.v.neg b.p (dig B32 b.v.d).length b.c b.v.pow W) (dFa (by omega)) fun Al W I => ?_
 refine zb I 31 (a.v.neg != b.v.neg) ((a.v.neg != b.v.neg)) (rfl) fun Al W I => ?_
 refine zq I (fun Al W I => g0d (a.v.neg != b.v.neg) W) fun Al W I => ?_
 exact zrb I
theorem z0b (f : Fm) (n way : Int) (a b : Vp) (u : Nat) (w : World) (U : Bt w u 153 #[.int .i64 n, .int .i64 way, .int .i64 f.g.rad, .int .i64 f.g.digs, .int .i64 f.g.lo, .int .i64 f.g.hi, .bool f.g.grad, .int .u8 (famB f), .int .i64 0]) (h3 : a.v.cls = 3 ∨ b.v.cls = 3) (h1 : a.v.cls = 1 ∨ b.v.cls = 1) :
 Calls Tryd.prog 112 #[.pointer (some ⟨u, 0, none⟩), .agg #[.int .i64 (a.v.cls : Int), .bool a.v.neg, .slice a.p (dig B32 a.v.d).length a.c, .int .i64 a.v.pow], .agg #[.int .i64 (b.v.cls : Int), .bool b.v.neg, .slice b.p (dig B32 b.v.d).length b.c, .int .i64 b.v.pow]] w fun en w' => en = .returned (.tuple #[.agg #[.int .i64 (f.nothM.cls : Int), .bool false, .slice none 0 0, .int .i64 0], .bool true]) ∧ Kp [u] w w' ∧ Bt w' u 153 #[.int .i64 n, .int .i64 way, .int .i64 f.g.rad, .int .i64 f.g.digs, .int .i64 f.g.lo, .int .i64 f.g.hi, .bool f.g.grad, .int .u8 (famB f), .int .i64 16] := by
 have HL := fun W u h1 => hi0 (z0a f n way u W h1)
 generalize f.nothM.cls = kN at *
 have I := Inv.startW w u 153 (uS f n way 0) [] U True.intro True.intro
 refine a0c [.p 0 0, .v (.agg #[.int .i64 (a.v.cls : Int), .bool a.v.neg, .slice a.p (dig B32 a.v.d).length a.c, .int .i64 a.v.pow]), .v (.agg #[.int .i64 (b.v.cls : Int), .bool b.v.neg, .slice b.p (dig B32 b.v.d).length b.c, .int .i64 b.v.pow])] I Tryd.func112 ?_
 by_cases ha : a.v.cls = 3
 · refine zqd I (fun Al W I => a0b a.v.cls a.v.neg a.p (dig B32 a.v.d).length a.c a.v.pow W) (dTr ha) fun Al W I => ?_
   refine zqd I (fun Al W I => a0z a.v.cls a.v.neg a.p (dig B32 a.v.d).length a.c a.v.pow W) (dFa (by omega)) fun Al W I => ?_
   refine zqd I (fun Al W I => a0z b.v.cls b.v.neg b.p (dig B32 b.v.d).length b.c b.v.pow W) (dTr (by omega)) fun Al W I => ?_
   refine zge I 0 153 (fun Al W I => (HL W _ (I.box 0 153 _)).out) fun Al V Iv _ _ kz => ?_
   rintro _ W ⟨rfl, hO, hB⟩
   refine ⟨_, rfl, kz _ (uS f n way 16) _ hO hB fun I => ?_⟩
   exact zret I fun Al W I => ⟨rfl, I.bel, I.boxE 153 _⟩
 refine zqd I (fun Al W I => a0b a.v.cls a.v.neg a.p (dig B32 a.v.d).length a.c a.v.pow W) (dFa ha) fun Al W I => ?_
 refine zqd I (fun Al W I => a0b b.v.cls b.v.neg b.p (dig B32 b.v.d).length b.c b.v.pow W) (dTr (by omega)) fun Al W I => ?_
 refine zqd I (fun Al W I => a0z a.v.cls a.v.neg a.p (dig B32 a.v.d).length a.c a.v.pow W) (dTr (by omega)) fun Al W I => ?_
 refine zge I 0 153 (fun Al W I => (HL W _ (I.box 0 153 _)).out) fun Al V Iv _ _ kz => ?_
 rintro _ W ⟨rfl, hO, hB⟩
 refine ⟨_, rfl, kz _ (uS f n way 16) _ hO hB fun I => ?_⟩
 exact zret I fun Al W I => ⟨rfl, I.bel, I.boxE 153 _⟩
def _root_.Go.Slip.Fm.mulM (f : Fm) (a b : Vr) (way : Int) : Vr × Nat :=
 if 4 ≤ a.cls ∨ 4 ≤ b.cls then f.offM
 else if a.cls = 3 ∨ b.cls = 3 then (if a.cls = 1 ∨ b.cls = 1 then f.lostM else (infM (a.neg != b.neg), 0))
 else if a.cls = 1 ∨ b.cls = 1 then (f.zeroM (a.neg != b.neg), 0)
 else f.numM (d0f a.x b.x) way
theorem j1t (f : Fm) (n way : Int) (a b : Vp) (ra rb : Vr) (base u : Nat) (w : World) (U : Bt w u 153 #[.int .i64 n, .int .i64 way, .int .i64 f.g.rad, .int .i64 f.g.digs, .int .i64 f.g.lo, .int .i64 f.g.hi, .bool f.g.grad, .int .u8 (famB f), .int .i64 0]) (oa : Own w base .u32 76 a.p a.c (dig B32 a.v.d)) (ob : Own w base .u32 76 b.p b.c (dig B32 b.v.d)) (hb : base ≤ w.heap.size)
 (A1 : AtV f a ra) (B1 : AtV f b rb) (G : b0g f) (hw : 1 ≤ way ∧ way ≤ 5) (hT : TabW w) :
 Calls Tryd.prog 60 #[.pointer (some ⟨u, 0, none⟩), .agg #[.int .i64 (a.v.cls : Int), .bool a.v.neg, .slice a.p (dig B32 a.v.d).length a.c, .int .i64 a.v.pow], .agg #[.int .i64 (b.v.cls : Int), .bool b.v.neg, .slice b.p (dig B32 b.v.d).length b.c, .int .i64 b.v.pow]] w (e0s f n way u w base (f.mulM ra rb way)) := by
 have hM : f.mulM ra rb way = if 4 ≤ a.v.cls ∨ 4 ≤ b.v.cls then f.offM else if a.v.cls = 3 ∨ b.v.cls = 3 then (if a.v.cls = 1 ∨ b.v.cls = 1 then f.lostM else (infM (a.v.neg != b.v.neg), 0)) else if a.v.cls = 1 ∨ b.v.cls = 1 then (f.zeroM (a.v.neg != b.v.neg), 0) else f.numM (d0f ra.x rb.x) way := by
  unfold Fm.mulM; rw [A1.rep.cls, B1.rep.cls, A1.rep.neg, B1.rep.neg]
 have hca : a.v.cls ≤ 5 := by rw [A1.rep.cls]; exact A1.ok.c.2
 have hcb : b.v.cls ≤ 5 := by rw [B1.rep.cls]; exact B1.ok.c.2
 have HY := fun W b0 u h1 h2 h3 => hi0 (r0l f n way [a, b] b0 2 u W h1 h2 rfl (by simp) (by simp [hca, hcb]) G h3)
 have HN := fun W b0 u h1 h2 h3 => hi0 (y0y f n way 0 [a, b] b0 2 u W h1 h2 rfl (by simp) h3)
 have HPN := fun W u h1 h2 h3 => hi0 (g1d f n way 0 a b u W h1 h2 h3)
 have HPI := fun W u h1 h2 h3 => hi0 (c1j f n way 0 a b u W h1 h2 h3)
 have HPL := fun W u h1 h2 h3 => hi0 (z0b f n way a b u W h1 h2 h3)
 have HZ := fun W u h1 => hi0 (p0m f n way 0 (a.v.neg != b.v.neg) u W h1)
 have HA := fun W u h1 h2 h3 => hi0 (y0x f n way 0 a.v ra a.p a.c base u W h1 h2 A1.rep A1.ok h3)
 have HB := fun W u h1 h2 h3 => hi0 (y0x f n way 0 b.v rb b.p b.c base u W h1 h2 B1.rep B1.ok h3)
 have sa := A1.ok.sm
 have sb := B1.ok.sm
 have st := c1i A1.ok B1.ok
 have HT := fun W p q c d base h1 h2 h3 => hi0 (u0w ra.x rb.x p q c d base W sa sb h1 h2 h3)
 generalize d0f ra.x rb.x = t at *
 have hl3 := st.len
 have hl4 := st.lo
 have hl5 := st.hi
 have HNU := fun W p c u h1 h2 => hi0 (o0c f n way t p c u W h1 h2 (by omega) (by omega) G hw)
 have hoffm : f.offM = (⟨f.nothM.cls, false, vz⟩, f.offM.2) := rfl
 have hk2 := i0j G
 have hlostm : f.lostM = (⟨f.nothM.cls, false, vz⟩, 16) := rfl
 obtain ⟨rS, flS, hS⟩ : ∃ rS flS, f.numM t way = (rS, flS) := ⟨_, _, rfl⟩
 rw [hS] at HNU hM
 generalize f.mulM ra rb way = R at *
 generalize f.offM.2 = flo at *
 generalize f.nothM.cls = kN at *
 clear hS st
 have I := Inv.startW w u 153 (uS f n way 0) [ownF base .u32 76 a.p a.c (dig B32 a.v.d), ownF base .u32 76 b.p b.c (dig B32 b.v.d), tabF] U ⟨oa, ob, hT, True.intro⟩ ⟨fun hf => oa.far U (by kernel_rfl) hf.1 hf.2, fun hf => ob.far U (by kernel_rfl) hf.1 hf.2, fun hf => hT.far U (by kernel_rfl) hf, True.intro⟩
 refine a0c [.p 0 0, .v (.agg #[.int .i64 (a.v.cls : Int), .bool a.v.neg, .slice a.p (dig B32 a.v.d).length a.c, .int .i64 a.v.pow]), .v (.agg #[.int .i64 (b.v.cls : Int), .bool b.v.neg, .slice b.p (dig B32 b.v.d).length b.c, .int .i64 b.v.pow])] I Tryd.func60 ?_
 by_cases hof : 4 ≤ a.v.cls ∨ 4 ≤ b.v.cls
 · refine zge I 0 153 (fun Al W I => (HY W _ _ (I.box 0 153 _) (I.box 4 29 _) (by simpa using hof)).out) fun Al V Iv _ _ kz => ?_
   rintro _ W ⟨rfl, hO, hB⟩
   refine ⟨_, rfl, kz _ (uS f n way (flo : Int)) _ hO hB fun I => ?_⟩
   rw [hM]
   refine zret I (v := fun Al => .agg #[.int .i64 (kN : Int), .bool false, .slice none 0 0, .int .i64 0]) fun Al W I => ?_
   first | (rw [if_pos hof, hoffm]; exact a0f hk2 rfl I.bel (I.boxE 153 _)) | (rw [if_neg hof, if_pos h3, if_pos h1, hlostm]; exact a0f hk2 rfl I.bel (I.boxE 153 _)) | (rw [if_neg hof, if_pos h3, if_neg h1]; exact a0f (k := 3) (by decide) rfl I.bel (I.boxE 153 _))
 refine zq I (fun Al W I => have hzW := I.bel.size; (HN W _ _ (I.box 0 153 _) (I.box 4 29 _) (by simp only [List.mem_cons, List.mem_nil_iff, or_false]; rintro x (rfl | rfl) <;> omega)).out) fun Al W I => ?_
 by_cases h3 : a.v.cls = 3 ∨ b.v.cls = 3
 · by_cases h1 : a.v.cls = 1 ∨ b.v.cls = 1
   · refine zge I 0 153 (fun Al W I => (HPL W _ (I.box 0 153 _) h3 h1).out) fun Al V Iv _ _ kz => ?_
     rintro _ W ⟨rfl, hO, hB⟩
     refine ⟨_, rfl, kz _ (uS f n way 16) _ hO hB fun I => ?_⟩
     rw [hM]
     refine zret I (v := fun Al => .agg #[.int .i64 (kN : Int), .bool false, .slice none 0 0, .int .i64 0]) fun Al W I => ?_
     first | (rw [if_pos hof, hoffm]; exact a0f hk2 rfl I.bel (I.boxE 153 _)) | (rw [if_neg hof, if_pos h3, if_pos h1, hlostm]; exact a0f hk2 rfl I.bel (I.boxE 153 _)) | (rw [if_neg hof, if_pos h3, if_neg h1]; exact a0f (k := 3) (by decide) rfl I.bel (I.boxE 153 _))
   refine zq I (fun Al W I => (HPI W _ (I.box 0 153 _) h3 h1).out) fun Al W I => ?_
   rw [hM]
   refine zret I (v := fun Al => .agg #[.int .i64 3, .bool (a.v.neg != b.v.neg), .slice none 0 0, .int .i64 0]) fun Al W I => ?_
   first | (rw [if_pos hof, hoffm]; exact a0f hk2 rfl I.bel (I.boxE 153 _)) | (rw [if_neg hof, if_pos h3, if_pos h1, hlostm]; exact a0f hk2 rfl I.bel (I.boxE 153 _)) | (rw [if_neg hof, if_pos h3, if_neg h1]; exact a0f (k := 3) (by decide) rfl I.bel (I.boxE 153 _))
 refine zq I (fun Al W I => have hzW := I.bel.size; (HPN W _ (I.box 0 153 _) (by omega) (by omega)).out) fun Al W I => ?_
 by_cases hza : a.v.cls = 1
 · by_cases hzb : b.v.cls = 1
   · refine zqd I (fun Al W I => a0z a.v.cls a.v.neg a.p (dig B32 a.v.d).length a.c a.v.pow W) (dTr hza) fun Al W I => ?_
     refine zb I 41 (a.v.neg != b.v.neg) ((a.v.neg != b.v.neg)) (rfl) fun Al W I => ?_
     refine zq I (fun Al W I => (HZ W _ (I.box 0 153 _)).out) fun Al W I => ?_
     rw [hM, if_neg hof, if_neg h3, if_pos (by omega)]
     exact zret I fun Al W I => a0f (k := 1) (by decide) rfl I.bel (I.boxE 153 _)
   refine zqd I (fun Al W I => a0z a.v.cls a.v.neg a.p (dig B32 a.v.d).length a.c a.v.pow W) (dTr hza) fun Al W I => ?_
   refine zb I 41 (a.v.neg != b.v.neg) ((a.v.neg != b.v.neg)) (rfl) fun Al W I => ?_
   refine zq I (fun Al W I => (HZ W _ (I.box 0 153 _)).out) fun Al W I => ?_
   rw [hM, if_neg hof, if_neg h3, if_pos (by omega)]
   exact zret I fun Al W I => a0f (k := 1) (by decide) rfl I.bel (I.boxE 153 _)
 by_cases hzb : b.v.cls = 1
 · refine zqd I (fun Al W I => a0z a.v.cls a.v.neg a.p (dig B32 a.v.d).length a.c a.v.pow W) (dFa hza) fun Al W I => ?_
   refine zqd I (fun Al W I => a0z b.v.cls b.v.neg b.p (dig B32 b.v.d).length b.c b.v.pow W) (dTr hzb) fun Al W I => ?_
   refine zb I 41 (a.v.neg != b.v.neg) ((a.v.neg != b.v.neg)) (rfl) fun Al W I => ?_
   refine zq I (fun Al W I => (HZ W _ (I.box 0 153 _)).out) fun Al W I => ?_
   rw [hM, if_neg hof, if_neg h3, if_pos (by omega)]
   exact zret I fun Al W I => a0f (k := 1) (by decide) rfl I.bel (I.boxE 153 _)
 refine zqd I (fun Al W I => a0z a.v.cls a.v.neg a.p (dig B32 a.v.d).length a.c a.v.pow W) (dFa hza) fun Al W I => ?_
 refine zqd I (fun Al W I => a0z b.v.cls b.v.neg b.p (dig B32 b.v.d).length b.c b.v.pow W) (dFa hzb) fun Al W I => ?_
 refine zd [0, 3] I fun Al W I => ?_
 refine zk [0, 1, 2, 4, 5] I fun I => ?_
 refine zo 3 I fun I => ?_
 refine zg I (fun Al W I => (HA W _ (I.box 0 153 _) I.fa.1 I.fa.2.2.1).out) fun Al V Iv _ hB _ kz => ?_
 rintro _ W ⟨p46, c46, rfl, o46, hb⟩
 refine ⟨_, rfl, kz _ _ hb fun I => ?_⟩
 have I := I.ownB base o46
 refine zo 6 I fun I => ?_
 refine zg I (fun Al W I => (HB W _ (I.box 0 153 _) I.fa.2.2.1 I.fa.2.2.2.1).out) fun Al V Iv _ hB _ kz => ?_
 rintro _ W ⟨p49, c49, rfl, o49, hb⟩
 refine ⟨_, rfl, kz _ _ hb fun I => ?_⟩
 have I := I.ownB base o49
 refine zo 7 I fun I => ?_
 refine zg I (fun Al W I => (HT W p46 p49 c46 c49 _ I.fa.2.1 I.fa.1 I.fa.2.2.2.2.1).out) fun Al V Iv _ hB _ kz => ?_
 rintro _ W ⟨p50, c50, rfl, o50, hb⟩
 refine ⟨_, rfl, kz _ _ hb fun I => ?_⟩
 have I := I.ownB base o50
 refine zo 8 I fun I => ?_
 refine zge I 0 153 (fun Al W I => (HNU W p50 c50 _ (I.box 0 153 _) I.fa.1.rd).out) fun Al V Iv _ _ kz => ?_
 rintro _ W ⟨v51, hR51, p51, c51, rfl, o51, hO, hB⟩
 refine ⟨_, rfl, kz _ (uS f n way (flS : Int)) _ hO hB fun I => ?_⟩
 have I := I.ownB base o51
 refine zo 9 I fun I => ?_
 refine zn I fun Al W I => ?_
 rw [hM, if_neg hof, if_neg h3, if_neg (by omega)]
 exact zret I fun Al W I => ⟨v51, hR51, p51, c51, rfl, I.fa.1, I.bel, I.boxE 153 _⟩
theorem p0r (n : Int) (w : World) : Calls Tryd.prog 74 #[.int .i64 n] w fun en w' => en = .returned (.tuple #[.agg #[.int .i64 (fmt n).g.rad, .int .i64 (fmt n).g.digs, .int .i64 (fmt n).g.lo, .int .i64 (fmt n).g.hi, .bool (fmt n).g.grad], .int .i64 (l0b n)]) ∧ Below w.heap.size w w' := by
 by_cases hn : IsFm n
 · have h0 : l0b n = 0 := by unfold l0b; rw [if_pos hn]
   rw [h0]
   have HF := fun W => hi0 (i0f n hn W)
   generalize fmt n = f at *
   have I := Inv.start w [] True.intro
   refine a0c [.v (.int .i64 n)] I Tryd.func74 ?_
   refine zq I (fun Al W I => (HF W).out) fun Al W I => ?_
   exact zrb I
 · have h0 : l0b n = 6 := by unfold l0b; rw [if_neg hn]
   rw [h0, f1q hn]
   have HF := fun W => hi0 (k0v n hn W)
   have I := Inv.start w [] True.intro
   refine a0c [.v (.int .i64 n)] I Tryd.func74 ?_
   refine zq I (fun Al W I => (HF W).out) fun Al W I => ?_
   exact zrb I
theorem t0f (n way : Int) (w : World) (h : ¬ (IsFm n ∧ 1 ≤ way ∧ way ≤ 5)) : Calls Tryd.prog 52 #[.int .i64 n, .int .i64 way] w fun en w' => en = .returned (.tuple #[.pointer none, .int .i64 6]) ∧ Below w.heap.size w w' := by
 have HG := fun W => hi0 (p0r n W)
 by_cases hn : IsFm n
 · have he : l0b n = 0 := by unfold l0b; rw [if_pos hn]
   have h' : way < 1 ∨ 5 < way := by by_cases k : 1 ≤ way ∧ way ≤ 5; exact absurd ⟨hn, k⟩ h; omega
   rw [he] at HG
   generalize fmt n = f at *
   have I := Inv.start w [] True.intro
   refine a0c [.v (.int .i64 n), .v (.int .i64 way)] I Tryd.func52 ?_
   refine zq I (fun Al W I => (HG W).out) fun Al W I => ?_
   by_cases h1 : way < 1
   · refine zb I 18 (decide (way < 1)) (true) (dTr h1) fun Al W I => ?_
     exact zrb I
   refine zb I 18 (decide (way < 1)) (false) (dFa h1) fun Al W I => ?_
   refine zb I 21 (decide (way > 5)) (true) (dTr (by omega)) fun Al W I => ?_
   exact zrb I
 · have he : l0b n = 6 := by unfold l0b; rw [if_neg hn]
   rw [he] at HG
   generalize fmt n = f at *
   have I := Inv.start w [] True.intro
   refine a0c [.v (.int .i64 n), .v (.int .i64 way)] I Tryd.func52 ?_
   refine zq I (fun Al W I => (HG W).out) fun Al W I => ?_
   exact zrb I
def l0j (f : Fm) (n way : Int) (w : World) (en : Ending) (w' : World) : Prop :=
 ∃ u, en = .returned (.tuple #[.pointer (some ⟨u, 0, none⟩), .int .i64 0]) ∧ w.heap.size ≤ u ∧ Bt w' u 153 #[.int .i64 n, .int .i64 way, .int .i64 f.g.rad, .int .i64 f.g.digs, .int .i64 f.g.lo, .int .i64 f.g.hi, .bool f.g.grad, .int .u8 (famB f), .int .i64 0] ∧ Below w.heap.size w w'
theorem r0m (n way : Int) (w : World) (hn : IsFm n) (hw : 1 ≤ way ∧ way ≤ 5) : Calls Tryd.prog 52 #[.int .i64 n, .int .i64 way] w (l0j (fmt n) n way w) := by
 have HG := fun W => hi0 (p0r n W)
 have he : l0b n = 0 := by unfold l0b; rw [if_pos hn]
 rw [he] at HG
 have G := c0d hn
 generalize fmt n = f at *
 have hrad := G.rad
 have hgr := G.grad
 by_cases f2 : f.fam = 2
 · have hBf : famB f = 66 := by unfold famB; rw [if_neg (by omega), if_pos f2]
   rw [if_pos f2] at hrad
   have I := Inv.start w [] True.intro
   refine a0c [.v (.int .i64 n), .v (.int .i64 way)] I Tryd.func52 ?_
   refine zq I (fun Al W I => (HG W).out) fun Al W I => ?_
   refine zb I 18 (decide (way < 1)) (false) (dFa (by omega)) fun Al W I => ?_
   refine zb I 21 (decide (way > 5)) (false) (dFa (by omega)) fun Al W I => ?_
   refine zb I 31 (f.g.rad == 16) (true) (beq_iff_eq.2 hrad) fun Al W I => ?_
   exact zret I (v := fun Al => .tuple #[.pointer (some ⟨(lk 0 Al 1), 0, none⟩), .int .i64 0]) fun Al W I => ⟨_, rfl, (I.geB 1), by rw [hBf]; exact (I.box 1 153 _), I.below⟩
 · rw [if_neg f2] at hrad
   by_cases f1 : f.fam = 1
   · have hBf : famB f = 65 := by unfold famB; rw [if_pos f1]
     rw [decide_eq_true f1] at hgr
     unfold l0j
     rw [hBf, hgr]
     simp only [hgr] at HG
     have I := Inv.start w [] True.intro
     refine a0c [.v (.int .i64 n), .v (.int .i64 way)] I Tryd.func52 ?_
     refine zq I (fun Al W I => (HG W).out) fun Al W I => ?_
     refine zb I 18 (decide (way < 1)) (false) (dFa (by omega)) fun Al W I => ?_
     refine zb I 21 (decide (way > 5)) (false) (dFa (by omega)) fun Al W I => ?_
     refine zb I 31 (f.g.rad == 16) (false) (bFn (by omega)) fun Al W I => ?_
     exact zret I fun Al W I => ⟨_, rfl, (I.geB 1), (I.box 1 153 _), I.below⟩
   · have hBf : famB f = 67 := by unfold famB; rw [if_neg f1, if_neg f2]
     rw [decide_eq_false f1] at hgr
     unfold l0j
     rw [hBf, hgr]
     simp only [hgr] at HG
     have I := Inv.start w [] True.intro
     refine a0c [.v (.int .i64 n), .v (.int .i64 way)] I Tryd.func52 ?_
     refine zq I (fun Al W I => (HG W).out) fun Al W I => ?_
     refine zb I 18 (decide (way < 1)) (false) (dFa (by omega)) fun Al W I => ?_
     refine zb I 21 (decide (way > 5)) (false) (dFa (by omega)) fun Al W I => ?_
     refine zb I 31 (f.g.rad == 16) (false) (bFn (by omega)) fun Al W I => ?_
     exact zret I fun Al W I => ⟨_, rfl, (I.geB 1), (I.box 1 153 _), I.below⟩
theorem i1n (n way fl : Int) (a : Vp) (r : Vr) (base u : Nat) (w : World) (U : Bt w u 153 #[.int .i64 n, .int .i64 way, .int .i64 (fmt n).g.rad, .int .i64 (fmt n).g.digs, .int .i64 (fmt n).g.lo, .int .i64 (fmt n).g.hi, .bool (fmt n).g.grad, .int .u8 (famB (fmt n)), .int .i64 fl]) (oa : Own w base .u32 76 a.p a.c (dig B32 a.v.d)) (hn : IsFm n) (V : VRep (fmt n) a.v r) (R : ResF (fmt n) r) (hT : TabW w) :
 Calls Tryd.prog 90 #[.pointer (some ⟨u, 0, none⟩), .agg #[.int .i64 (a.v.cls : Int), .bool a.v.neg, .slice a.p (dig B32 a.v.d).length a.c, .int .i64 a.v.pow]] w fun en w' => en = .returned (.tuple #[.string (b0e ((fmt n).strP ((fmt n).encP r.cls r.neg r.x))), .int .i64 fl, .int .i64 0]) ∧ Below w.heap.size w w' := by
 have HE := fun W (h1 : Own W base .u32 76 a.p a.c (dig B32 a.v.d)) h2 => hi0 (u0u n (a.v.cls : Int) (dinV a.v a.p a.c) W (g1a h1 V.len) h2)
 obtain ⟨e1, e2⟩ := i1k R V a.p a.c
 unfold r0i p0n at HE
 rw [if_pos hn, e1, e2] at HE
 simp only [if_true] at HE
 have HE2 : ∀ W, Own W base .u32 76 a.p a.c (dig B32 a.v.d) → TabW W → Hid (Calls Tryd.prog 26 #[.int .i64 n, .agg #[.int .i64 (a.v.cls : Int), .bool a.v.neg, .slice a.p (dig B32 a.v.d).length a.c, .int .i64 a.v.pow]] W fun en w' => en = .returned (.tuple #[.string (b0e ((fmt n).strP ((fmt n).encP r.cls r.neg r.x))), .int .i64 0]) ∧ Below W.heap.size W w') := HE
 clear HE e1 e2 V R
 generalize b0e ((fmt n).strP ((fmt n).encP r.cls r.neg r.x)) = s at *
 generalize fmt n = f at *
 have I := Inv.startR w [u] [⟨153, (uS f n way fl), true⟩] [ownF base .u32 76 a.p a.c (dig B32 a.v.d), tabF] ⟨U, True.intro⟩ ⟨oa, hT, True.intro⟩
 refine a0c [.p 0 0, .v (.agg #[.int .i64 (a.v.cls : Int), .bool a.v.neg, .slice a.p (dig B32 a.v.d).length a.c, .int .i64 a.v.pow])] I Tryd.func90 ?_
 refine zd [] I fun Al W I => ?_
 refine zk [0, 1, 2, 3, 4] I fun I => ?_
 refine zo 5 I fun I => ?_
 refine zq I (fun Al W I => (HE2 W I.fa.1 I.fa.2.1).out) fun Al W I => ?_
 refine zk [6, 7, 8, 9, 10] I fun I => ?_
 refine zd [] I fun Al W I => ?_
 refine zk [0, 1, 2, 3, 4, 5, 6, 7] I fun I => ?_
 exact zrb I
end Go.Proofs.YtmacohmclpnphaaDoor
namespace Go.Slip
open Go.RowKit
theorem z0c {P : Program} {w : World} {b : Nat} {t : TypeId} {vs : Array Value} (h : Bt w b t vs) {ty : TypeId} (hT : d0y P ty) {m : Nat} (v : Value) (hv : vs[m]? = some v) : (VO.ld ty (.pointer (some (at_ (some ⟨b, 0, none⟩) m)))).sem.run P w = .ok v w := by
 have := q0k h hT m v hv
 show (Instr.loadAt _ _).run P w = _
 unfold at_
 simpa using this
end Go.Slip
namespace Go.Proofs.YtmacohmclpnphaaDoor
open Go.RowKit Go.Slip
def u0x (b : Nat) (xs : List Vp) : PF :=
 ⟨fun w => ∀ x, x ∈ xs → Own w b .u32 76 x.p x.c (dig B32 x.v.d), fun a => ∃ x, x ∈ xs ∧ x.p.isSome = true ∧ blk x.p = a, fun _ _ h hb _ x hx => (h x hx).same fun hp => hb _ ((h x hx).blk_lt hp).2 ⟨x, hx, hp, rfl⟩, fun _ _ h ⟨x, hx, hp, hf⟩ => hf ▸ ((h x hx).blk_lt hp).2⟩
theorem z0d {w : World} {b : Nat} {xs : List Vp} {v : Vl} {p : Option Addr} {c : Nat} (h : ∀ x, x ∈ xs → Own w b .u32 76 x.p x.c (dig B32 x.v.d)) (o : Own w b .u32 76 p c (dig B32 v.d)) : ∀ x, x ∈ xs ++ [⟨v, p, c⟩] → Own w b .u32 76 x.p x.c (dig B32 x.v.d) := fun x hx => by
 rw [List.mem_append, List.mem_singleton] at hx
 rcases hx with hx | rfl
 · exact h x hx
 · exact o
theorem c1k {b a : Nat} {xs : List Vp} {v : Vl} {p : Option Addr} {c : Nat} (h : (u0x b (xs ++ [⟨v, p, c⟩])).foot a) (h1 : ∀ x, (x ∈ xs ∧ x.p.isSome = true ∧ blk x.p = a) → False) (h2 : p.isSome = true → blk p = a → False) : False := by
 obtain ⟨x, hx, h3, h4⟩ := h
 rw [List.mem_append, List.mem_singleton] at hx
 rcases hx with hx | rfl
 · exact h1 x ⟨hx, h3, h4⟩
 · exact h2 h3 h4
theorem i1o : j0h Tryd.prog 154 9 (.string ByteArray.empty) 16 := tyV (by kernel_rfl) (by kernel_rfl) (by omega) rfl rfl
theorem i1p : d0y Tryd.prog 9 := c0u (by kernel_rfl) (by kernel_rfl)
def errL (n : Int) : List ByteArray → Int
 | [] => 0
 | s :: r => if a0s n s = 0 then errL n r else a0s n s
theorem z0e (n : Int) : ∀ (L : List ByteArray), errL n L ≠ 0 → ∃ (j : Nat) (s : ByteArray), L[j]? = some s ∧ errL n L = a0s n s ∧ a0s n s ≠ 0 ∧ ∀ i t, i < j → L[i]? = some t → a0s n t = 0
 | [], h => absurd rfl h
 | s :: r, h => by
  unfold errL at h ⊢
  by_cases hs : a0s n s = 0
  · rw [if_pos hs] at h ⊢
    obtain ⟨j, t, h1, h2, h3, h4⟩ := z0e n r h
    refine ⟨j + 1, t, by simpa using h1, h2, h3, fun i u hi hu => ?_⟩
    cases i with
    | zero => simp only [List.getElem?_cons_zero, Option.some.injEq] at hu; rw [← hu]; exact hs
    | succ i => exact h4 i u (by omega) (by simpa using hu)
  · rw [if_neg hs]
    exact ⟨0, s, rfl, rfl, hs, fun i t hi => by omega⟩
theorem g0e (n : Int) : ∀ {L : List ByteArray}, errL n L = 0 → ∀ s, s ∈ L → a0s n s = 0
 | [], _, s, h => by simp at h
 | t :: r, h, s, hs => by
  unfold errL at h
  by_cases ht : a0s n t = 0
  · rw [if_pos ht] at h
    rcases List.mem_cons.1 hs with rfl | hs
    · exact ht
    · exact g0e n h s hs
  · rw [if_neg ht] at h
    exact absurd h ht
def g1e (n : Int) (w : World) (L : List ByteArray) (en : Ending) (w' : World) : Prop :=
 ∃ (xs : List Vp) (vs : List Value) (p : Option Addr) (c : Nat), en = .returned (.tuple #[.slice p L.length c, .int .i64 0]) ∧ xs.map (·.v) = L.map (decP n) ∧ vs = xs.flatMap Vp.cells ∧ OwnS w' w.heap.size 29 4 p c L.length vs ∧ (∀ x, x ∈ xs → Own w' w.heap.size .u32 76 x.p x.c (dig B32 x.v.d)) ∧ Below w.heap.size w w'
theorem t0g (n way fl : Int) (L : List ByteArray) (b m u : Nat) (w : World) (U : Bt w u 153 #[.int .i64 n, .int .i64 way, .int .i64 (fmt n).g.rad, .int .i64 (fmt n).g.digs, .int .i64 (fmt n).g.lo, .int .i64 (fmt n).g.hi, .bool (fmt n).g.grad, .int .u8 (famB (fmt n)), .int .i64 fl]) (hB0 : Bt w b 9 (L.map Value.string).toArray) (hm : m = L.length) (hl : L.length ≤ 1000) (h0 : errL n L = 0) (hT : TabW w) :
 Calls Tryd.prog 53 #[.pointer (some ⟨u, 0, none⟩), .slice (some ⟨b, 0, none⟩) m m] w (g1e n w L) := by
 subst hm
 have HX : ∀ i, i < L.length → ∃ s : ByteArray, L[i]? = some s ∧ a0s n s = 0 ∧ (L.map Value.string).toArray[i]? = some (.string s) ∧ L.take (i + 1) = L.take i ++ [s] := fun i h => ⟨L[i], List.getElem?_eq_getElem h, g0e n h0 _ (List.getElem_mem h), by simp [h], by rw [List.take_add_one, List.getElem?_eq_getElem h]; rfl⟩
 have HD := fun s W h => hi0 (g0l n s W h)
 generalize fmt n = f at *
 have I := Inv.startW w u 153 (uS f n way fl) [btF b 9 (L.map Value.string).toArray, tabF] U ⟨hB0, hT, True.intro⟩ ⟨fun hf => hB0.far U (by kernel_rfl) hf, fun hf => hT.far U (by kernel_rfl) hf, True.intro⟩
 refine a0c [.p 0 0, .v (.slice (some ⟨b, 0, none⟩) L.length L.length)] I Tryd.func53 ?_
 have I := I.add (h0m w.heap.size 29 4 none 0 0 []) (OwnS.nil _ _ _ _) (fun _ _ h => by cases h.1)
 have I := I.add (u0x w.heap.size []) (fun _ h => by cases h) (fun _ _ ⟨_, h, _⟩ => by cases h)
 refine w0u I (fun gk fr bx gs => ∃ (U900 : Nat → Value) (i : Nat) (p6 : Option Addr) (c6 : Nat) (xs : List Vp) (vs : List Value), fr = (.p 0 0 :: .v (.slice (some ⟨b, 0, none⟩) L.length L.length) :: su 2 (sw U900 4 2 (.v (.slice p6 i c6) :: .v undef :: sw U900 8 3 (.v (.slice (some ⟨b, 0, none⟩) L.length L.length) :: .v (.int .i64 (L.length : Int)) :: .v (.int .i64 (i : Int)) :: sw U900 14 21 []))) : List SV) ∧ bx = [⟨153, (uS f n way fl), false⟩] ∧ gs = [u0x w.heap.size xs, h0m w.heap.size 29 4 p6 c6 i vs, btF b 9 (L.map Value.string).toArray, tabF] ∧ (gk + i = L.length) ∧ (vs = xs.flatMap Vp.cells) ∧ (xs.map (·.v) = (L.take i).map (decP n))) L.length (fun Al W U I => ⟨_, ⟨U, 0, none, 0, [], [], rfl, rfl, rfl, (by omega), rfl, rfl⟩, I.pick [0, 1, 2, 3]⟩) ?_
 rintro J gk0 _ _ _ ⟨U900, i, p6, c6, xs, vs, rfl, rfl, rfl, hgk, hvs, hxs⟩ hJ Al W I
 rcases Bool.eq_false_or_eq_true (decide ((i : Int) < (L.length : Int))) with f14 | f14
 · refine zb I 14 (decide ((i : Int) < (L.length : Int))) (true) (f14) fun Al W I => ?_
   obtain ⟨s, hs, hse, hsv, hst⟩ := HX i (by have := oTr f14; omega)
   refine zx I 15 (fun _ => .pointer (some (at_ (some ⟨b, 0, none⟩) i))) (fun Al W I => (x0b (m := i) (n := L.length) (c := L.length) i1o (fun _ => ⟨rfl, rfl⟩) (by have := oTr f14; omega))) fun Al W I => ?_
   refine zx I 16 (fun _ => .string s) (fun Al W I => (z0c I.fa.2.2.1 i1p _ hsv)) fun Al W I => ?_
   refine zqo I (fun Al W I => (HD s W I.fa.2.2.2.1).out) fun Al W p23 c23 I => ?_
   refine zb I 27 ((a0s n s) != 0) (false) (bne_eq_false_iff_eq.2 hse) fun Al W I => ?_
   have I := I.pick [2, 0, 1, 3, 4]
   refine zap I o0d 2 1 (fun Al => [.int .i64 (((decP n s).cls : Nat) : Int), .bool ((decP n s).neg), .slice p23 (dig B32 (decP n s).d).length c23, .int .i64 ((decP n s).pow)]) (fun Al W I => I.box 2 29 _) (by omega) (fun Al W I hp => ⟨I.fa.1.apart I.fa.2.1 (by kernel_rfl) hp, fun ⟨x, hx, h⟩ => I.fa.1.apart (I.fa.2.2.1 x hx) (by kernel_rfl) hp h, fun e => I.fa.1.far I.fa.2.2.2.1 (by kernel_rfl) hp (Eq.symm e), fun e => by have h1 := (I.fa.1.blk_lt hp).1; have h2 := hT.2; have e : 0 = _ := e; omega, True.intro⟩) fun Al W p32 c32 hq_32 I => ?_
   have I := I.add (u0x w.heap.size (xs ++ [(⟨decP n s, p23, c23⟩ : Vp)])) (z0d I.fa.2.2.1 I.fa.2.1) (fun a ha h => c1k h ((fun a ha h0 e => (I.far a ha).2.2.1 ⟨h0, e⟩) a ha) ((fun a ha h0 e => (I.far a ha).2.1 ⟨h0, e⟩) a ha))
   refine zi I 33 .i64 ((i : Int) + 1) (((i + 1 : Nat) : Int)) ((by rw [show ((i : Int) + 1) = ((i + 1 : Nat) : Int) by omega]; exact IntWalk.i64_in _ (by have := oTr f14; omega))) fun Al W I => ?_
   exact s0r 1 I J fun Al W U I => hJ (gk0 - 1) _ _ _ _ _ ((by have := oTr f14; omega)) ⟨U, i + 1, p32, c32, xs ++ [(⟨decP n s, p23, c23⟩ : Vp)], _, rfl, rfl, rfl, (by have := oTr f14; omega), (by rw [hvs, List.flatMap_append]; rfl), (by rw [hst, List.map_append, List.map_append, hxs]; rfl)⟩ (I.pick [0, 1, 4, 5])
 refine zb I 14 (decide ((i : Int) < (L.length : Int))) (false) (f14) fun Al W I => ?_
 have hi : i = L.length := by have := oFa f14; omega
 exact zret I (v := fun Al => .tuple #[.slice p6 i c6, .int .i64 0]) fun Al W I => ⟨xs, vs, p6, c6, by rw [hi], by rw [hxs, hi, List.take_length], hvs, hi ▸ I.fa.2.1, I.fa.1, I.bel.toBelow U (I.boxE 153 _)⟩
theorem _root_.Go.Slip.Inv.ownl {E : List Nat} {w0 : World} {A : List Nat} {bx : List Box} {fs : List PF} {W : World} (I : Inv E w0 A bx fs W) {b : Nat} {xs : List Vp} (o : ∀ x, x ∈ xs → Own W b .u32 76 x.p x.c (dig B32 x.v.d)) (hb : w0.heap.size ≤ b := by first | exact Nat.le_refl _ | assumption | omega) (hne : o0x 76 bx = true := by kernel_rfl) :
 Inv E w0 A bx (u0x w0.heap.size xs :: fs) W :=
 I.add (u0x w0.heap.size xs) (fun x hx => (o x hx).mono hb) fun a ha ⟨x, hx, hf1, hf2⟩ => by
  obtain ⟨j, hj, _, rfl⟩ := ha
  exact (o x hx).far (I.bt j hj) (f0w hne j hj) hf1 hf2
theorem p0s (n way fl : Int) (L : List ByteArray) (b m u : Nat) (w : World) (U : Bt w u 153 #[.int .i64 n, .int .i64 way, .int .i64 (fmt n).g.rad, .int .i64 (fmt n).g.digs, .int .i64 (fmt n).g.lo, .int .i64 (fmt n).g.hi, .bool (fmt n).g.grad, .int .u8 (famB (fmt n)), .int .i64 fl]) (hB0 : Bt w b 9 (L.map Value.string).toArray) (hm : m = L.length) (hl : L.length ≤ 1000) (h0 : errL n L ≠ 0) (hT : TabW w) :
 Calls Tryd.prog 53 #[.pointer (some ⟨u, 0, none⟩), .slice (some ⟨b, 0, none⟩) m m] w fun en w' => en = .returned (.tuple #[.slice none 0 0, .int .i64 (errL n L)]) ∧ Below w.heap.size w w' := by
 subst hm
 obtain ⟨j, sj, hj, he, hne, hlt⟩ := z0e n L h0
 have hjl : j < L.length := (List.getElem?_eq_some_iff.1 hj).1
 rw [he]
 have HX : ∀ i, i < L.length → ∃ s : ByteArray, (L.map Value.string).toArray[i]? = some (.string s) ∧ (i < j → a0s n s = 0) ∧ (i = j → a0s n s = a0s n sj) := fun i h => ⟨L[i], by simp [h], fun k => hlt i _ k (List.getElem?_eq_getElem h), fun k => by subst k; rw [List.getElem?_eq_getElem h] at hj; cases hj; rfl⟩
 have HD := fun s W h => hi0 (g0l n s W h)
 clear he h0 hlt hj
 generalize a0s n sj = er at *
 generalize fmt n = f at *
 have I := Inv.startW w u 153 (uS f n way fl) [btF b 9 (L.map Value.string).toArray, tabF] U ⟨hB0, hT, True.intro⟩ ⟨fun hf => hB0.far U (by kernel_rfl) hf, fun hf => hT.far U (by kernel_rfl) hf, True.intro⟩
 refine a0c [.p 0 0, .v (.slice (some ⟨b, 0, none⟩) L.length L.length)] I Tryd.func53 ?_
 have I := I.add (h0m w.heap.size 29 4 none 0 0 []) (OwnS.nil _ _ _ _) (fun _ _ h => by cases h.1)
 refine w0u I (fun gk fr bx gs => ∃ (U900 : Nat → Value) (i : Nat) (p6 : Option Addr) (c6 : Nat) (vs : List Value), fr = (.p 0 0 :: .v (.slice (some ⟨b, 0, none⟩) L.length L.length) :: su 2 (sw U900 4 2 (.v (.slice p6 i c6) :: .v undef :: sw U900 8 3 (.v (.slice (some ⟨b, 0, none⟩) L.length L.length) :: .v (.int .i64 (L.length : Int)) :: .v (.int .i64 (i : Int)) :: sw U900 14 21 []))) : List SV) ∧ bx = [⟨153, (uS f n way fl), false⟩] ∧ gs = [h0m w.heap.size 29 4 p6 c6 i vs, btF b 9 (L.map Value.string).toArray, tabF] ∧ (gk + i = L.length) ∧ (i ≤ j)) L.length (fun Al W U I => ⟨_, ⟨U, 0, none, 0, [], rfl, rfl, rfl, (by omega), (by omega)⟩, I.pick [0, 1, 2]⟩) ?_
 rintro J gk0 _ _ _ ⟨U900, i, p6, c6, vs, rfl, rfl, rfl, hgk, hij⟩ hJ Al W I
 rcases Bool.eq_false_or_eq_true (decide ((i : Int) < (L.length : Int))) with f14 | f14
 · refine zb I 14 (decide ((i : Int) < (L.length : Int))) (true) (f14) fun Al W I => ?_
   obtain ⟨s, hsv, hs0, hse⟩ := HX i (by have := oTr f14; omega)
   refine zx I 15 (fun _ => .pointer (some (at_ (some ⟨b, 0, none⟩) i))) (fun Al W I => (x0b (m := i) (n := L.length) (c := L.length) i1o (fun _ => ⟨rfl, rfl⟩) (by have := oTr f14; omega))) fun Al W I => ?_
   refine zx I 16 (fun _ => .string s) (fun Al W I => (z0c I.fa.2.1 i1p _ hsv)) fun Al W I => ?_
   refine zqo I (fun Al W I => (HD s W I.fa.2.2.1).out) fun Al W p23 c23 I => ?_
   by_cases hij2 : i = j
   · refine zb I 27 ((a0s n s) != 0) (true) (bne_iff_ne.2 (by rw [hse hij2]; exact hne)) fun Al W I => ?_
     exact zret I (v := fun Al => .tuple #[.slice none 0 0, .int .i64 (a0s n s)]) fun Al W I => ⟨by rw [hse hij2], I.bel.toBelow U (I.boxE 153 _)⟩
   refine zb I 27 ((a0s n s) != 0) (false) (bne_eq_false_iff_eq.2 (hs0 (by omega))) fun Al W I => ?_
   have I := I.pick [1, 0, 2, 3]
   refine zap I o0d 2 1 (fun Al => [.int .i64 (((decP n s).cls : Nat) : Int), .bool ((decP n s).neg), .slice p23 (dig B32 (decP n s).d).length c23, .int .i64 ((decP n s).pow)]) (fun Al W I => I.box 2 29 _) (by omega) (fun Al W I hp => ⟨I.fa.1.apart I.fa.2.1 (by kernel_rfl) hp, fun e => I.fa.1.far I.fa.2.2.1 (by kernel_rfl) hp (Eq.symm e), fun e => by have h1 := (I.fa.1.blk_lt hp).1; have h2 := hT.2; have e : 0 = _ := e; omega, True.intro⟩) fun Al W p32 c32 hq_32 I => ?_
   refine zi I 33 .i64 ((i : Int) + 1) (((i + 1 : Nat) : Int)) ((by rw [show ((i : Int) + 1) = ((i + 1 : Nat) : Int) by omega]; exact IntWalk.i64_in _ (by have := oTr f14; omega))) fun Al W I => ?_
   exact s0r 1 I J fun Al W U I => hJ (gk0 - 1) _ _ _ _ _ ((by have := oTr f14; omega)) ⟨U, i + 1, p32, c32, _, rfl, rfl, rfl, (by have := oTr f14; omega), (by omega)⟩ (I.pick [0, 2, 3])
 refine zb I 14 (decide ((i : Int) < (L.length : Int))) (false) (f14) fun Al W I => ?_
 exact zret I (v := fun Al => .tuple #[.slice p6 i c6, .int .i64 0]) fun Al W I => absurd (oFa f14) (by rw [Classical.not_not]; omega)
def errR (n way : Int) (L : List ByteArray) : Int := if IsFm n then (if errL n L = 0 then (if 1 ≤ way ∧ way ≤ 5 then 0 else 6) else errL n L) else 6
def c1l (n way : Int) (L : List ByteArray) (fn : FuncId) (R : Vr × Nat) : Prop :=
 ∀ (xs : List Vp) (vs : List Value) (p : Option Addr) (c base u : Nat) (W : World), xs.map (·.v) = L.map (decP n) → vs = xs.flatMap Vp.cells → OwnS W base 29 4 p c L.length vs → (∀ x, x ∈ xs → Own W base .u32 76 x.p x.c (dig B32 x.v.d)) →
  Bt W u 153 #[.int .i64 n, .int .i64 way, .int .i64 (fmt n).g.rad, .int .i64 (fmt n).g.digs, .int .i64 (fmt n).g.lo, .int .i64 (fmt n).g.hi, .bool (fmt n).g.grad, .int .u8 (famB (fmt n)), .int .i64 0] → TabW W → base ≤ W.heap.size →
  Calls Tryd.prog fn #[.pointer (some ⟨u, 0, none⟩), .slice p L.length c] W (e0s (fmt n) n way u W base R)
def strR (n : Int) (r : Vr) : ByteArray := b0e ((fmt n).strP ((fmt n).encP r.cls r.neg r.x))
theorem z0f (n way : Int) (L : List ByteArray) (fn : FuncId) (R : Vr × Nat) (b m : Nat) (w : World) (hB0 : Bt w b 9 (L.map Value.string).toArray) (hm : m = L.length) (hl : L.length ≤ 1000) (hT : TabW w)
 (hfn : ∀ args w, (callFunc fn args).run Tryd.prog w = .ok (.enter fn args) w) (h0 : errR n way L = 0) (HD : c1l n way L fn R) (HR : ResF (fmt n) R.1) :
 Calls Tryd.prog 56 #[.int .i64 n, .int .i64 way, .func (.func fn) #[] #[], .slice (some ⟨b, 0, none⟩) m m] w fun en w' => en = .returned (.tuple #[.string (strR n R.1), .int .i64 ((R.2 : Nat) : Int), .int .i64 0]) ∧ Below w.heap.size w w' := by
 subst hm
 have hn : IsFm n := by unfold errR at h0; split at h0; assumption; omega
 unfold errR at h0
 rw [if_pos hn] at h0
 have hL : errL n L = 0 := by split at h0; assumption; contradiction
 rw [if_pos hL] at h0
 have hw : 1 ≤ way ∧ way ≤ 5 := by split at h0; assumption; omega
 clear h0
 obtain ⟨r, fl⟩ := R
 simp only at HR ⊢
 have HO1 := fun W => hi0 (r0m n 1 W hn (by omega))
 have HO2 := fun W => hi0 (r0m n way W hn hw)
 have HDe := fun W u h1 h2 h3 => hi0 (t0g n 1 0 L b L.length u W h1 h2 rfl hl hL h3)
 have HDo := fun xs vs p c base u W h1 h2 h3 h4 h5 h6 h7 => hi0 (HD xs vs p c base u W h1 h2 h3 h4 h5 h6 h7)
 have HT := fun W (v : Vl) p c base u h1 h2 h3 h4 => hi0 (i1n n way (fl : Int) ⟨v, p, c⟩ r base u W h1 h2 hn h3 HR h4)
 have hs : strR n r = b0e ((fmt n).strP ((fmt n).encP r.cls r.neg r.x)) := rfl
 rw [← hs] at HT
 clear hs
 generalize strR n r = s at *
 generalize fmt n = f at *
 have I := Inv.start w [btF b 9 (L.map Value.string).toArray, tabF] ⟨hB0, hT, True.intro⟩
 refine a0c [.v (.int .i64 n), .v (.int .i64 way), .v (.func (.func fn) #[] #[]), .v (.slice (some ⟨b, 0, none⟩) L.length L.length)] I Tryd.func56 ?_
 refine zg I (fun Al W I => (HO1 W).out) fun Al V Iv _ hB _ kz => ?_
 rintro _ W ⟨u16, rfl, hge, hB, hb⟩
 refine ⟨_, rfl, kz _ _ hb fun I => ?_⟩
 refine a1q Iv hb 0 u16 153 [(.int .i64 n), (.int .i64 1), (.int .i64 f.g.rad), (.int .i64 f.g.digs), (.int .i64 f.g.lo), (.int .i64 f.g.hi), (.bool f.g.grad), (.int .u8 (famB f)), (.int .i64 0)] hge hB fun Al hAl_16 I => ?_
 refine a1r I 17 0 u16 hAl_16 fun Al W I => ?_
 refine zg I (fun Al W I => (HDe W _ (I.box 0 153 _) I.fa.1 I.fa.2.1).out) fun Al V Iv _ hB _ kz => ?_
 rintro _ W ⟨xs, vs, p25, c25, rfl, hxs, hvs, oS, oL, hb⟩
 refine ⟨_, rfl, kz _ _ hb fun I => ?_⟩
 have I := I.owns oS
 have I := I.ownl oL
 refine zg I (fun Al W I => (HO2 W).out) fun Al V Iv _ hB _ kz => ?_
 rintro _ W ⟨u34, rfl, hge, hB, hb⟩
 refine ⟨_, rfl, kz _ _ hb fun I => ?_⟩
 refine a1q Iv hb 1 u34 153 [(.int .i64 n), (.int .i64 way), (.int .i64 f.g.rad), (.int .i64 f.g.digs), (.int .i64 f.g.lo), (.int .i64 f.g.hi), (.bool f.g.grad), (.int .u8 (famB f)), (.int .i64 0)] hge hB fun Al hAl_34 I => ?_
 refine a1r I 35 1 u34 hAl_34 fun Al W I => ?_
 refine zgfe (hf := hfn) I 1 153 (fun Al W I => (HDo xs vs p25 c25 _ _ W hxs hvs I.fa.2.1 I.fa.1 (I.box 1 153 _) I.fa.2.2.2.1 I.bel.size).out) fun Al V Iv _ _ kz => ?_
 rintro _ W ⟨v44, hR44, p44, c44, rfl, o44, hO, hB⟩
 refine ⟨_, rfl, kz _ (uS f n way (fl : Int)) _ hO hB fun I => ?_⟩
 have I := I.own o44
 refine zq I (fun Al W I => (HT W v44 p44 c44 _ _ (I.box 1 153 _) I.fa.1 hR44 I.fa.2.2.2.2.1).out) fun Al W I => ?_
 exact zrb I
theorem r0n (n way : Int) (L : List ByteArray) (fn : FuncId) (b m : Nat) (w : World) (hB0 : Bt w b 9 (L.map Value.string).toArray) (hm : m = L.length) (hl : L.length ≤ 1000) (hT : TabW w) (h0 : errR n way L ≠ 0) :
 Calls Tryd.prog 56 #[.int .i64 n, .int .i64 way, .func (.func fn) #[] #[], .slice (some ⟨b, 0, none⟩) m m] w fun en w' => en = .returned (.tuple #[.string (b0e []), .int .i64 0, .int .i64 (errR n way L)]) ∧ Below w.heap.size w w' := by
 subst hm
 unfold errR at h0 ⊢
 by_cases hn : IsFm n
 · rw [if_pos hn] at h0 ⊢
   have HO1 := fun W => hi0 (r0m n 1 W hn (by omega))
   by_cases hL : errL n L = 0
   · rw [if_pos hL] at h0 ⊢
     have hw : ¬ (1 ≤ way ∧ way ≤ 5) := fun h => h0 (if_pos h)
     rw [if_neg hw]
     have HO2 := fun W => hi0 (t0f n way W (fun h => hw h.2))
     have HDe := fun W u h1 h2 h3 => hi0 (t0g n 1 0 L b L.length u W h1 h2 rfl hl hL h3)
     generalize fmt n = f at *
     have I := Inv.start w [btF b 9 (L.map Value.string).toArray, tabF] ⟨hB0, hT, True.intro⟩
     refine a0c [.v (.int .i64 n), .v (.int .i64 way), .v (.func (.func fn) #[] #[]), .v (.slice (some ⟨b, 0, none⟩) L.length L.length)] I Tryd.func56 ?_
     refine zg I (fun Al W I => (HO1 W).out) fun Al V Iv _ hB _ kz => ?_
     rintro _ W ⟨u16, rfl, hge, hB, hb⟩
     refine ⟨_, rfl, kz _ _ hb fun I => ?_⟩
     refine a1q Iv hb 0 u16 153 [(.int .i64 n), (.int .i64 1), (.int .i64 f.g.rad), (.int .i64 f.g.digs), (.int .i64 f.g.lo), (.int .i64 f.g.hi), (.bool f.g.grad), (.int .u8 (famB f)), (.int .i64 0)] hge hB fun Al hAl_16 I => ?_
     refine a1r I 17 0 u16 hAl_16 fun Al W I => ?_
     refine zg I (fun Al W I => (HDe W _ (I.box 0 153 _) I.fa.1 I.fa.2.1).out) fun Al V Iv _ hB _ kz => ?_
     rintro _ W ⟨xs, vs, p25, c25, rfl, hxs, hvs, oS, oL, hb⟩
     refine ⟨_, rfl, kz _ _ hb fun I => ?_⟩
     have I := I.owns oS
     have I := I.ownl oL
     refine zq I (fun Al W I => (HO2 W).out) fun Al W I => ?_
     exact zrb I
   · rw [if_neg hL] at h0 ⊢
     have HDe := fun W u h1 h2 h3 => hi0 (p0s n 1 0 L b L.length u W h1 h2 rfl hl hL h3)
     generalize errL n L = er at *
     generalize fmt n = f at *
     have I := Inv.start w [btF b 9 (L.map Value.string).toArray, tabF] ⟨hB0, hT, True.intro⟩
     refine a0c [.v (.int .i64 n), .v (.int .i64 way), .v (.func (.func fn) #[] #[]), .v (.slice (some ⟨b, 0, none⟩) L.length L.length)] I Tryd.func56 ?_
     refine zg I (fun Al W I => (HO1 W).out) fun Al V Iv _ hB _ kz => ?_
     rintro _ W ⟨u16, rfl, hge, hB, hb⟩
     refine ⟨_, rfl, kz _ _ hb fun I => ?_⟩
     refine a1q Iv hb 0 u16 153 [(.int .i64 n), (.int .i64 1), (.int .i64 f.g.rad), (.int .i64 f.g.digs), (.int .i64 f.g.lo), (.int .i64 f.g.hi), (.bool f.g.grad), (.int .u8 (famB f)), (.int .i64 0)] hge hB fun Al hAl_16 I => ?_
     refine a1r I 17 0 u16 hAl_16 fun Al W I => ?_
     refine zq I (fun Al W I => (HDe W _ (I.box 0 153 _) I.fa.1 I.fa.2.1).out) fun Al W I => ?_
     refine zb I 29 (er != 0) (true) (bne_iff_ne.2 hL) fun Al W I => ?_
     exact zrb I
 · rw [if_neg hn]
   have HO1 := fun W => hi0 (t0f n 1 W (fun h => hn h.1))
   have I := Inv.start w [] True.intro
   refine a0c [.v (.int .i64 n), .v (.int .i64 way), .v (.func (.func fn) #[] #[]), .v (.slice (some ⟨b, 0, none⟩) L.length L.length)] I Tryd.func56 ?_
   refine zq I (fun Al W I => (HO1 W).out) fun Al W I => ?_
   exact zrb I
structure VrF (f : Fm) (r : Vr) : Prop where
 ok : VrOk r
 inf : r.cls = 3 → f.fam = 1
def refD (n : Int) (s : ByteArray) : Vr := (fmt n).refN (a0j (fmt n) s)
theorem i1q {f : Fm} (G : b0g f) (neg : Bool) {e frac : Nat} (h : e < 2 ^ f.E) : (f.dec neg e frac).p = 0 ∨ (f.g.lo ≤ (f.dec neg e frac).p ∧ (f.dec neg e frac).p ≤ f.g.hi + 1) := by
 have h3 := G.hi1
 have h4 := G.hi2
 have h5 := G.hi3
 have h6 := G.fam
 have gg := (b0f G.g).le
 have e1 := G.e1
 have hE1 : (2 : Nat) ^ 7 ≤ 2 ^ f.E := Nat.pow_le_pow_right (by omega) e1
 unfold Fm.dec
 generalize 2 ^ f.E = T at *
 repeat' split
 all_goals first | exact .inl rfl | (right; simp only; omega)
theorem g1f {f : Fm} (neg : Bool) {e frac : Nat} (h : (f.dec neg e frac).c = 3) : f.fam = 1 := by
 have h : (f.dec neg e frac).cls = 3 := by
  unfold Dc.c at h
  split at h <;> omega
 unfold Fm.dec at h
 split at h
 · simp at h
 · split at h
   · rename_i k
     exact k.1
   · split at h
     · split at h <;> simp at h
     · split at h
       · simp at h
       · split at h
         · simp at h
         · split at h <;> simp at h
theorem e0t {n : Int} {s : ByteArray} (hn : IsFm n) : VrF (fmt n) (refD n s) := by
 have G := c0d hn
 have GG := b0f G.g
 obtain ⟨w1, w2, w3⟩ := l0z G.g
 have he : (fmt n).exp (a0j (fmt n) s) < 2 ^ (fmt n).E := Nat.mod_lt _ (Nat.pow_pos (by omega))
 have hx : (fmt n).frac (a0j (fmt n) s) < 2 ^ (fmt n).F := Nat.mod_lt _ (Nat.pow_pos (by omega))
 have hm := a1v (f := fmt n) ((fmt n).neg (a0j (fmt n) s)) (e := (fmt n).exp (a0j (fmt n) s)) hx
 have hp := i1q G ((fmt n).neg (a0j (fmt n) s)) (frac := (fmt n).frac (a0j (fmt n) s)) he
 have hi := fun h => g1f (f := fmt n) ((fmt n).neg (a0j (fmt n) s)) (e := (fmt n).exp (a0j (fmt n) s)) (frac := (fmt n).frac (a0j (fmt n) s)) h
 have hcls := x0n (fmt n) ((fmt n).neg (a0j (fmt n) s)) ((fmt n).exp (a0j (fmt n) s)) ((fmt n).frac (a0j (fmt n) s))
 have z2 := G.f2
 unfold refD Fm.refN Fm.decN
 generalize (fmt n).dec ((fmt n).neg (a0j (fmt n) s)) ((fmt n).exp (a0j (fmt n) s)) ((fmt n).frac (a0j (fmt n) s)) = D at *
 generalize (fmt n).neg (a0j (fmt n) s) = g at *
 generalize fmt n = f at *
 have hc : 1 ≤ D.c ∧ D.c ≤ 5 := by unfold Dc.c; split <;> omega
 have hml : (dig B32 D.m).length ≤ 3 := a0n hm (by omega)
 have wp := a0r f.g
 have hwp : -17010 ≤ (wid f.g : Int) * D.p ∧ (wid f.g : Int) * D.p ≤ 17010 := by
  rcases hp with h | ⟨h1, h2⟩
  · rw [h, Int.mul_zero]; omega
  · have a1 : (wid f.g : Int) * f.g.lo ≤ wid f.g * D.p := Int.mul_le_mul_of_nonneg_left h1 (by omega)
    have a2 : (wid f.g : Int) * D.p ≤ wid f.g * (f.g.hi + 1) := Int.mul_le_mul_of_nonneg_left h2 (by omega)
    rw [Int.mul_add, Int.mul_one] at a2
    omega
 refine ⟨⟨hc, fun h => ?_, fun h => ?_, ?_, ?_, ?_, ?_⟩, hi⟩
 · have h : ¬ D.c = 2 := h
   unfold Fm.vr
   simp only [if_neg h]
   rfl
 · have h : D.c = 2 := h
   have hm0 := y0l h
   unfold Fm.vr
   simp only [h, if_true]
   obtain ⟨b1, b2⟩ := l0h (g := g) (e := (wid f.g : Int) * D.p) hm0
   exact ⟨b2, by rw [b1]; rfl⟩
 · unfold Fm.vr
   simp only
   split
   · exact f0t _
   · exact .inr rfl
 · unfold Fm.vr
   simp only
   split
   · exact Nat.le_trans (g0h a0a _) (by show (dig B32 D.m).length ≤ _; omega)
   · show (dig B32 0).length ≤ _; rw [a0e]; decide
 · unfold Fm.vr
   simp only
   split
   · have := k0c (⟨g, D.m, wid f.g * D.p⟩ : Dv) (n := 3) hml (lo := -17100) (hi := 17100) (by simp only; omega) (by simp only; omega) (by omega) (by omega)
     omega
   · show (-18000 : Int) ≤ 0; decide
 · unfold Fm.vr
   simp only
   split
   · have := k0c (⟨g, D.m, wid f.g * D.p⟩ : Dv) (n := 3) hml (lo := -17100) (hi := 17100) (by simp only; omega) (by simp only; omega) (by omega) (by omega)
     omega
   · show (0 : Int) ≤ 18000; decide
theorem t0h {n : Int} {s : ByteArray} (h0 : a0s n s = 0) : VRep (fmt n) (decP n s) (refD n s) := by
 obtain ⟨hn, hs⟩ := b0x.1 h0
 have G := c0d hn
 have hd : decP n s = (fmt n).valN (a0j (fmt n) s) := by unfold decP; rw [if_pos h0]
 have he : (fmt n).exp (a0j (fmt n) s) < 2 ^ (fmt n).E := Nat.mod_lt _ (Nat.pow_pos (by omega))
 have hx : (fmt n).frac (a0j (fmt n) s) < 2 ^ (fmt n).F := Nat.mod_lt _ (Nat.pow_pos (by omega))
 have hb := j1m G ((fmt n).neg (a0j (fmt n) s)) he hx ((fmt n).neg (a0j (fmt n) s))
 have hk := b1u (fmt n) ((fmt n).neg (a0j (fmt n) s)) ((fmt n).decN (a0j (fmt n) s))
 have ho := b1w (fmt n) ((fmt n).neg (a0j (fmt n) s)) ((fmt n).decN (a0j (fmt n) s))
 rw [hd]
 exact ⟨rfl, rfl, fun _ => hk, fun h => ho h, hb.1, hb.2.1, hb.2.2⟩
theorem p0t {n : Int} {s : ByteArray} (h0 : a0s n s = 0) {x : Vp} (hx : x.v = decP n s) : AtV (fmt n) x (refD n s) := by
 have F := e0t (s := s) (b0x.1 h0).1
 exact ⟨by rw [hx]; exact t0h h0, F.ok, F.inf⟩
/-! ### Results -/
theorem z0g {f : Fm} (G : b0g f) (x : Dv) (way : Int) : ResF f (f.numM x way).1 := by
 unfold Fm.numM
 split
 · exact j0b G _
 · exact (m0k G (by omega)).1
theorem i1r {f : Fm} (G : b0g f) (x y : Dv) (g h : Bool) (way : Int) : ResF f (f.sumM x y g h way).1 := by
 unfold Fm.sumM
 split
 · exact z0g G _ _
 · split <;> exact j0b G _
theorem r0o {f : Fm} {r : Vr} (h : r.cls = 3) (R : VrF f r) : ResF f r :=
 ⟨by omega, fun k => by omega, fun k => by omega, fun _ => R.inf h, fun k => by omega, fun k => by omega, fun _ => R.ok.x0 (by omega)⟩
theorem i1s {f : Fm} (G : b0g f) {a b : Vr} (A : VrF f a) (B : VrF f b) (way : Int) : ResF f (f.addM a b way).1 := by
 unfold Fm.addM
 split
 · exact d0k G
 · split
   · rename_i h
     split
     · exact d0k G
     · split
       · rename_i h3; exact r0o h3 A
       · rename_i h3; exact r0o (show b.cls = 3 by omega) B
   · exact i1r G _ _ _ _ _
theorem d1w {f : Fm} (G : b0g f) {a b : Vr} (A : a.cls = 3 → f.fam = 1) (B : b.cls = 3 → f.fam = 1) (way : Int) : ResF f (f.mulM a b way).1 := by
 unfold Fm.mulM
 split
 · exact d0k G
 · split
   · rename_i h
     split
     · exact d0k G
     · exact d1u (h.elim A B) _
   · split
     · exact j0b G _
     · exact z0g G _ _
def _root_.Go.Slip.Vr.opp (r : Vr) : Vr := if r.cls ≤ 3 then ⟨r.cls, !r.neg, c0x r.x⟩ else r
theorem g1g {f : Fm} (G : b0g f) {r : Vr} (R : ResF f r) : CanF f r.cls r.neg r.x :=
 ⟨R.c, R.c1, fun h => ⟨y0j G (R.c2 h).1 (R.c2 h).2.2.1, (R.c2 h).2.1, (R.c2 h).2.2.1, (R.c2 h).2.2.2⟩, R.c3, R.c4, R.c5⟩
theorem t0i {n : Int} (hn : IsFm n) {r : Vr} (R : ResF (fmt n) r) : a0s n (strR n r) = 0 ∧ refD n (strR n r) = r := by
 have G := c0d hn
 have C := g1g G R
 have hlt := f1r G (cls := r.cls) (g := r.neg) (d := r.x) (fun h => (C.c2 h).1)
 have hs : (strR n r).size = (fmt n).size := by unfold strR; rw [l0r]; exact f1j _ _ _ _
 refine ⟨b0x.2 ⟨hn, hs⟩, ?_⟩
 have hv := f1t G C
 obtain ⟨q1, q2, q3⟩ := x0p (f := fmt n) (neg := ((fmt n).encP r.cls r.neg r.x).neg) hlt.1 hlt.2
 unfold refD Fm.refN Fm.decN strR Fm.strP
 rw [r0j G hlt.1 hlt.2, q1, q2, q3, hv]
 by_cases h2 : r.cls = 2
 · rw [if_pos h2]
 · rw [if_neg h2, show (⟨false, 0, 0⟩ : Dv) = r.x from (R.x0 h2).symm]
def outS (n way : Int) (L : List ByteArray) (R : Vr × Nat) : ByteArray := if errR n way L = 0 then strR n R.1 else b0e []
def outF (n way : Int) (L : List ByteArray) (R : Vr × Nat) : Nat := if errR n way L = 0 then R.2 else 0
theorem i1t {a : Dv} {e : Int} (h : zOf a e = 0) : a.m = 0 := by
 unfold zOf sg at h
 have hp : 0 < 2 ^ (a.e - e).toNat := Nat.pow_pos (by omega)
 rcases Nat.eq_zero_or_pos a.m with k | k
 · exact k
 · have hq := Nat.mul_pos k hp
   have hz : (a.m : Int) * 2 ^ (a.e - e).toNat ≠ 0 := by
    have : (((a.m * 2 ^ (a.e - e).toNat : Nat)) : Int) ≠ 0 := by omega
    simpa using this
   split at h <;> first | exact absurd h hz | (exfalso; apply hz; simpa using h)
end Go.Proofs.YtmacohmclpnphaaDoor
namespace Go.Slip
end Go.Slip
namespace Go.Proofs.YtmacohmclpnphaaDoor
open Go.RowKit Go.Slip
theorem r0p {f : Fm} (G : b0g f) {s : Bool} {m : Nat} {e way : Int} (hm : m ≠ 0) (hin : a0y (bare ⟨s, m, e⟩) f.g = true) : f.placedM (a0m s m 1 e f.g way) way = (⟨2, s, bare ⟨s, m, e⟩⟩, 0) := by
 have GG := b0f G.g
 obtain ⟨h1, h2⟩ := o0b (way := way) GG hin
 have hex := p0p (show 0 < 1 by omega) GG ((o0b (way := 5) GG hin).1.trans (o0b (way := 4) GG hin).1.symm) way
 obtain ⟨b1, b2⟩ := l0h (g := s) (e := e) hm
 have hneg : (a0m s m 1 e f.g way).neg = s := by unfold a0m; rw [if_neg hm]; rfl
 have hgr := G.grad
 unfold rv at h1
 generalize a0m s m 1 e f.g way = p at *
 unfold okP at h2
 simp only [Bool.and_eq_true, Bool.not_eq_true', Bool.or_eq_true] at h2
 obtain ⟨ho, hu⟩ := h2
 have hd : p.d ≠ 0 := fun h => by rw [h, f0p] at h1; rw [← h1] at b2; exact b2 rfl
 have hf : p.under = true → f.fam = 1 := fun h => by
  rcases hu with k | k
  · rw [h] at k; cases k
  · rw [hgr] at k; exact oTr k
 unfold Fm.placedM
 rw [ho, if_neg (by decide), if_neg (fun h => h.2.1 (hf h.1)), if_neg hd, h1, hneg]
 unfold Fm.flP
 rw [hex]
 by_cases hu : p.under = true
 · rw [if_pos hu, if_pos (hf hu)]; rfl
 · rw [if_neg hu]; rfl
theorem c1m {f : Fm} (G : b0g f) {x : Dv} {way : Int} (hB : Bare x) (hm : x.m ≠ 0) (hin : a0y x f.g = true) : f.numM x way = (⟨2, x.neg, x⟩, 0) := by
 have hx : bare (⟨x.neg, x.m, x.e⟩ : Dv) = x := f0u hB
 unfold Fm.numM
 rw [if_neg hm, r0p G hm (by rw [hx]; exact hin), hx]
/-! ### The number 1 -/
theorem u0y (x : Dv) : (g0q x (c0x x)).m = 0 := by
 have := w0c x (c0x x) (e := min x.e 0) (by omega) (show min x.e 0 ≤ x.e by omega)
 rw [l0u, Int.add_right_neg] at this
 exact i1t this
theorem sub_self {f : Fm} {r : Vr} (hc : r.cls ≤ 2) (way : Int) : ∃ g, f.addM r r.opp way = (f.zeroM g, 0) := by
 have ho : r.opp = ⟨r.cls, !r.neg, c0x r.x⟩ := by unfold Vr.opp; rw [if_pos (by omega)]
 rw [ho]
 unfold Fm.addM
 rw [if_neg (by simp only; omega), if_neg (by simp only; omega)]
 unfold Fm.sumM
 rw [if_neg (by rw [u0y]; simp)]
 split
 · exact ⟨_, rfl⟩
 · exact ⟨_, rfl⟩
end Go.Proofs.YtmacohmclpnphaaDoor
namespace Go.Slip
def z0h (x : Dv) (N : Nat) : Dv := bare (n0p x.m (k0w x.e N) (isq (x.m * 2 ^ k0w x.e N)) 1 x.e)
end Go.Slip
namespace Go.Proofs.YtmacohmclpnphaaDoor
open Go.RowKit Go.Slip
theorem t0j (n : Int) : bits .and .i64 n 1 = n % 2 := by
 have h1 : (BitVec.ofInt 64 1).toNat = 2 ^ 1 - 1 := by decide
 have key : (BitVec.ofInt 64 n &&& BitVec.ofInt 64 1).toNat = (n % ((2 ^ 64 : Nat) : Int)).toNat % 2 ^ 1 := by
  rw [BitVec.toNat_and, BitVec.toNat_ofInt, h1, Nat.and_two_pow_sub_one_eq_mod]
 show IntKind.i64.wrap ((BitVec.ofInt 64 n &&& BitVec.ofInt 64 1).toNat : Nat) = n % 2
 rw [key, IntKind.wrap_i64]
 omega
def c0n (a K e f k : Nat) : Prop := e + f * k = K ∧ (1 ≤ k → 1 ≤ f) ∧ a = a
theorem c0n.start (a K : Nat) : c0n a K 0 1 K := ⟨by omega, fun _ => by omega, rfl⟩
theorem c0n.odd {a K e f k : Nat} (h : c0n a K e f k) (h1 : k % 2 = 1) : c0n a K (e + f) (f + f) (k / 2) := by
 refine ⟨?_, fun _ => by have := h.2.1; omega, rfl⟩
 have h2 := h.1
 obtain ⟨u, rfl⟩ : ∃ u, k = 2 * u + 1 := ⟨k / 2, by omega⟩
 rw [show (2 * u + 1) / 2 = u by omega]
 grind
theorem c0n.last {a K e f : Nat} (h : c0n a K e f 1) : c0n a K (e + f) f 0 := ⟨by have := h.1; omega, fun h => by omega, rfl⟩
theorem c0n.one {a K e f k : Nat} (h : c0n a K e f k) (h1 : k = 1) : c0n a K (e + f) f (k / 2) := by subst h1; exact h.last
theorem c0n.even {a K e f k : Nat} (h : c0n a K e f k) (h0 : 0 < k) (h1 : k % 2 = 0) : c0n a K e (f + f) (k / 2) := by
 refine ⟨?_, fun _ => by have := h.2.1; omega, rfl⟩
 have h2 := h.1
 obtain ⟨u, rfl⟩ : ∃ u, k = 2 * u := ⟨k / 2, by omega⟩
 rw [show (2 * u) / 2 = u by omega]
 grind
theorem c0n.le {a K e f k : Nat} (h : c0n a K e f k) (h0 : 0 < k) : e + f ≤ K := by
 have h2 := h.1
 have : f * 1 ≤ f * k := Nat.mul_le_mul_left _ h0
 omega
theorem c0n.le2 {a K e f k : Nat} (h : c0n a K e f k) : e ≤ K := by have := h.1; omega
theorem c0n.done {a K e f : Nat} (h : c0n a K e f 0) : e = K := by have := h.1; omega
theorem g1h {a K e : Nat} (h : e ≤ K) : (dig B32 (a ^ e)).length ≤ K * (dig B32 a).length + 1 := by
 refine Nat.le_trans (g0v a0a a e) ?_
 have := Nat.mul_le_mul_right (dig B32 a).length h
 omega
theorem g1i (p : Option Addr) (n c : Nat) (a K : Nat) (w : World) (hp : Rd w .u32 p (dig B32 a)) (hn : n = (dig B32 a).length) (hK : K ≤ 1000) (hl : (dig B32 a).length ≤ 100000) :
 Calls Tryd.prog 148 #[.slice p n c, .int .i64 K] w (e0h w .u32 76 (dig B32 (a ^ K))) := by
 subst hn
 have hKl : K * (dig B32 a).length + 1 ≤ 100000001 := by have := Nat.mul_le_mul hK hl; omega
 have PL : ∀ e, e ≤ K → (dig B32 (a ^ e)).length ≤ 100000001 := fun e he => Nat.le_trans (g1h he) hKl
 have PL := hi0 PL
 have E1 := hi0 (show dig B32 1 = dig B32 (a ^ 0) by rw [Nat.pow_zero])
 have E2 := hi0 (show dig B32 a = dig B32 (a ^ 1) by rw [Nat.pow_one])
 have hp1 : Rd w .u32 p (dig B32 (a ^ 1)) := by rw [Nat.pow_one]; exact hp
 go_enter Tryd.func148, Tryd.ntmps148
 go_wp2_with fail
 refine (m0c 1 _ (by omega)).mono ?_
 rw [E1.out, E2.out]
 rintro e w1 ⟨po, co, rfl, hoo, hb1⟩
 go_wp2_with fail
 go_loopw [0, 1, 5] (fun av kv ov wr => ∃ (e f k : Nat) (pa : Option Addr) (ca : Nat) (po : Option Addr) (co : Nat), kv = .int .i64 k ∧ av = .slice pa (dig B32 (a ^ f)).length ca ∧ ov = .slice po (dig B32 (a ^ e)).length co ∧ k ≤ K ∧
     Rd wr .u32 pa (dig B32 (a ^ f)) ∧ Own wr w.heap.size .u32 76 po co (dig B32 (a ^ e)) ∧ Below w.heap.size w wr ∧ Hid (c0n a K e f k))
  (fun _ kv _ _ => (intOf kv).toNat)
 case atStart => exact ⟨0, 1, K, p, c, po, co, rfl, (by rw [Nat.pow_one]), rfl, Nat.le_refl _, hp1.past hb1, hoo, hb1, c0n.start a K⟩
 case round =>
  obtain ⟨e, f, k, pa, ca, po, co, rfl, rfl, rfl, hk, hra, hoo, hb, HR⟩ := hrel
  by_cases h0 : 0 < k
  · have hef := HR.out.le h0
    have l1 := PL.out e (by omega)
    have l2 := PL.out f (by omega)
    by_cases h1 : k % 2 = 1
    · have hbit : bits BinOp.and IntKind.i64 (k : Int) 1 = 1 := by rw [t0j]; omega
      have eef := hi0 (show a ^ e * a ^ f = a ^ (e + f) from (Nat.pow_add _ _ _).symm)
      by_cases h2 : 1 < k
      · have HS := hi0 (HR.out.odd h1)
        have eff := hi0 (show a ^ f * a ^ f = a ^ (f + f) from (Nat.pow_add _ _ _).symm)
        clear h1
        go_wp2_with fail
        refine (h0h po pa _ _ co ca (a ^ e) (a ^ f) _ hoo.rd hra rfl rfl (by omega)).mono ?_
        rw [eef.out]
        rintro e w2 ⟨p2, c2, rfl, ho2, hb2⟩
        have hra := hra.past hb2
        have hb2 := hb.trans (hb2.mono hb.size)
        go_wp2_with fail
        refine (h0h pa pa _ _ ca ca (a ^ f) (a ^ f) _ hra hra rfl rfl (by omega)).mono ?_
        rw [eff.out]
        rintro e w3 ⟨p3, c3, rfl, ho3, hb3⟩
        have ho2 := (ho2.past hb3).mono hb.size
        have hb3 := hb2.trans (hb3.mono hb2.size)
        go_wp2_with fail
        go_roundw
        case rel => exact ⟨_, _, k / 2, p3, c3, p2, c2, by go_num, rfl, rfl, by omega, ho3.rd, ho2, hb3, HS⟩
        case measure => simp [intOf]; omega
      · have HS := hi0 (HR.out.one (by omega))
        clear h1
        go_wp2_with fail
        refine (h0h po pa _ _ co ca (a ^ e) (a ^ f) _ hoo.rd hra rfl rfl (by omega)).mono ?_
        rw [eef.out]
        rintro e w2 ⟨p2, c2, rfl, ho2, hb2⟩
        have hra := hra.past hb2
        have hb2 := hb.trans (hb2.mono hb.size)
        go_wp2_with fail
        go_roundw
        case rel => exact ⟨_, _, k / 2, pa, ca, p2, c2, by go_num, rfl, rfl, by omega, hra, ho2.mono hb.size, hb2, HS⟩
        case measure => simp [intOf]; omega
    · have hbit : bits BinOp.and IntKind.i64 (k : Int) 1 = 0 := by rw [t0j]; omega
      have HS := hi0 (HR.out.even h0 (by omega))
      have eff := hi0 (show a ^ f * a ^ f = a ^ (f + f) from (Nat.pow_add _ _ _).symm)
      have h2 : 1 < k := by omega
      clear h1
      go_wp2_with fail
      refine (h0h pa pa _ _ ca ca (a ^ f) (a ^ f) _ hra hra rfl rfl (by omega)).mono ?_
      rw [eff.out]
      rintro e w3 ⟨p3, c3, rfl, ho3, hb3⟩
      have hoo := hoo.past hb3
      have hb3 := hb.trans (hb3.mono hb.size)
      go_wp2_with fail
      go_roundw
      case rel => exact ⟨_, _, k / 2, p3, c3, po, co, by go_num, rfl, rfl, by omega, ho3.rd, hoo, hb3, HS⟩
      case measure => simp [intOf]; omega
  · obtain rfl : k = 0 := by omega
    go_wp2_with fail
    go_ret
    rw [← HR.out.done]
    exact ⟨po, co, rfl, hoo, hb⟩
def c1n (w : World) (a k : Nat) (en : Ending) (w' : World) : Prop :=
 ∃ r, r ^ k ≤ a ∧ a < (r + 1) ^ k ∧ ∃ p c, en = .returned (.slice p (dig B32 r).length c) ∧ Own w' w.heap.size .u32 76 p c (dig B32 r) ∧ Below w.heap.size w w'
theorem r0q (N : Nat) : (dig B32 (2 ^ N)).length = N / 32 + 1 := by
 rw [← m0q (B := B32) (w := 32) (by decide) (by omega) N]; simp
theorem r0r (a : Nat) : blen a ≤ 32 * (dig B32 a).length := by
 rw [a0w, Nat.pow_mul]
 exact (a0h a0a a _).1 (Nat.le_refl _)
theorem z0i (p : Option Addr) (n c : Nat) (k : Nat) (w : World) (hn : n = 0) (hk : 1 ≤ k) :
 Calls Tryd.prog 128 #[.slice p n c, .int .i64 k] w (c1n w 0 k) := by
 subst hn
 have h1 := hi0 (show 0 ^ k ≤ 0 by rw [Nat.zero_pow hk]; exact Nat.le_refl _)
 have h2 := hi0 (show 0 < (0 + 1) ^ k from Nat.pow_pos (by omega))
 go_enter Tryd.func128, Tryd.ntmps128
 go_wp2_with fail
 refine (e0i p 0 c [] _ (Rd.nil _ _ _) rfl (by simp)).mono ?_
 rintro e w2 ⟨p2, c2, rfl, ho2, hb2⟩
 go_wp2_with fail
 go_ret
 exact ⟨0, h1.out, h2.out, p2, c2, by rw [a0e]; rfl, by rw [a0e]; exact ho2, hb2⟩
theorem c1o (p : Option Addr) (n c : Nat) (a : Nat) (w : World) (hp : Rd w .u32 p (dig B32 a)) (hn : n = (dig B32 a).length) (hl : (dig B32 a).length ≤ 10000) (h0 : 0 < (dig B32 a).length) :
 Calls Tryd.prog 128 #[.slice p n c, .int .i64 1] w (c1n w a 1) := by
 subst hn
 have h1 := hi0 (show a ^ 1 ≤ a by rw [Nat.pow_one]; exact Nat.le_refl _)
 have h2 := hi0 (show a < (a + 1) ^ 1 by rw [Nat.pow_one]; omega)
 have t1 : (((dig B32 a).length : Int) == 0) = false := bFn (by omega)
 go_enter Tryd.func128, Tryd.ntmps128
 go_wp2_with fail
 refine (e0i p _ c _ _ hp rfl (by omega)).mono ?_
 rintro e w2 ⟨p2, c2, rfl, ho2, hb2⟩
 go_wp2_with fail
 go_ret
 exact ⟨a, h1.out, h2.out, p2, c2, rfl, ho2, hb2⟩
theorem z0j (p : Option Addr) (n c : Nat) (a k kk : Nat) (w : World) (hp : Rd w .u32 p (dig B32 a)) (hn : n = (dig B32 a).length) (hl : (dig B32 a).length ≤ 10000) (h0 : 0 < (dig B32 a).length) (hk : 2 ≤ k) (hk2 : k ≤ 1000) (hkk : k = kk + 1) :
 Calls Tryd.prog 128 #[.slice p n c, .int .i64 k] w (c1n w a k) := by
 subst hn
 have ha : 0 < a := by
  have := a0i a0a a
  omega
 have HA := hi0 ha
 have t1 : (((dig B32 a).length : Int) == 0) = false := bFn (by omega)
 have t2 : ((k : Int) == 1) = false := bFn (by omega)
 have hbl := r0r a
 obtain ⟨N, hN⟩ : ∃ N, N = (blen a + k - 1) / k := ⟨_, rfl⟩
 have hN1 : blen a ≤ N * (kk + 1) := by
  rw [← hkk, hN]
  have := e0k (blen a + k - 1) k (by omega)
  rw [Nat.add_mul, Nat.one_mul] at this
  omega
 have hN2 : N ≤ blen a + k := by rw [hN]; exact Nat.le_trans (Nat.div_le_self _ _) (by omega)
 have eN : ((blen a : Int) + (k : Int) - 1) / (k : Int) = (N : Nat) := by
  rw [hN, show (blen a : Int) + (k : Int) - 1 = ((blen a + k - 1 : Nat) : Int) by omega]; rfl
 have HN := hi0 (t0v N hN1)
 rw [← hkk] at HN
 have ek : (k : Int) - 1 = (kk : Nat) := by omega
 have hkk1 : kk ≤ 1000 := by omega
 have LB : (dig B32 (2 ^ N)).length ≤ 11033 := by have := r0q N; omega
 have HK := hi0 hkk
 have k0 : (0 : Int) ≤ (blen a : Int) + (k : Int) - 1 := by omega
 have k1 : (1 : Int) ≤ (k : Int) := by omega
 have hN3 : N ≤ 1000000000 := by omega
 have E1 := hi0 (Nat.one_mul (2 ^ N))
 clear hN hN1 hkk ha
 go_enter Tryd.func128, Tryd.ntmps128
 go_wp2_with fail
 refine (m0c 1 _ (by omega)).mono ?_
 rintro e w1 ⟨p1, c1, rfl, ho1, hb1⟩
 go_wp2_with fail
 refine (e0n p _ c a _ (hp.past hb1) rfl (by omega)).mono ?_
 rintro e w2 ⟨rfl, rfl⟩
 go_wp2_with fail
 refine (f0j p1 _ c1 1 N _ ho1.rd rfl (by have := (a0h a0a 1 1).2 (by unfold B32; omega); omega) hN3).mono ?_
 rw [E1.out]
 rintro e w3 ⟨p3, c3, rfl, ho3, hb3⟩
 have hs3 := hb1.trans (hb3.mono hb1.size)
 have ho3 := ho3.mono hb1.size
 clear hb1 hb3 ho1 eN k0
 go_wp2_with fail
 go_loopg [5] (2 ^ N) (fun g xv wr => ∃ (X : Nat) (px : Option Addr) (cx : Nat), X = g ∧ xv = .slice px (dig B32 X).length cx ∧ Own wr w.heap.size .u32 76 px cx (dig B32 X) ∧ Below w.heap.size w wr ∧ Hid (a < (X + 1) ^ k ∧ X ≤ 2 ^ N))
 case atStart => exact ⟨2 ^ N, p3, c3, rfl, rfl, ho3, hs3, ⟨HN.out, Nat.le_refl _⟩⟩
 case round =>
  obtain ⟨X, px, cx, rfl, rfl, hox, hb, HR⟩ := hrel
  have hX : 0 < X := by
   rcases Nat.eq_zero_or_pos X with h | h
   · have h2 := HR.out.1
     have h3 := HA.out
     rw [h, Nat.zero_add, Nat.one_pow] at h2
     omega
   · exact h
  have lx : (dig B32 X).length ≤ 11033 := Nat.le_trans (a0k a0a HR.out.2) LB
  have HXP := hi0 (show 0 < X ^ kk from Nat.pow_pos hX)
  have lxp : (dig B32 (X ^ kk)).length ≤ 100000000 := by
   have h1 := g0v a0a X kk
   have h2 := Nat.mul_le_mul hkk1 lx
   omega
  obtain ⟨q, hq⟩ : ∃ q, q = a / X ^ kk := ⟨_, rfl⟩
  have lq : (dig B32 q).length ≤ 10000 := by rw [hq]; exact Nat.le_trans (a0k a0a (Nat.div_le_self _ _)) hl
  have HQ := hi0 hq
  obtain ⟨y, hy⟩ : ∃ y, y = (X * kk + q) / k := ⟨_, rfl⟩
  have HY := hi0 hy
  have hy2 : y = (X * kk + a / X ^ kk) / (kk + 1) := by rw [hy, hq, HK.out]
  have HAB := hi0 (o0m hX hy2)
  have HST := hi0 (fun h : X ≤ y => q0c hX hy2 h)
  rw [← HK.out] at HAB HST
  have lk : (dig B32 kk).length ≤ 1 := (a0h a0a kk 1).2 (by unfold B32; omega)
  have lm : (dig B32 (X * kk)).length ≤ 11034 := by have := c0h a0a X kk; omega
  have ls : (dig B32 (X * kk + q)).length ≤ 100000 := by have := d0h a0a (X * kk) q; omega
  have ly : (dig B32 y).length ≤ 100000 := by rw [hy]; exact Nat.le_trans (a0k a0a (Nat.div_le_self _ _)) ls
  clear hy hy2 hq
  go_wp2_with fail
  refine (g1i px _ cx X kk _ hox.rd rfl hkk1 (by omega)).mono ?_
  rintro e w4 ⟨p4, c4, rfl, ho4, hb4⟩
  have hs4 := hb.trans (hb4.mono hb.size)
  have hox4 := hox.past hb4
  go_wp2_with fail
  refine (h0p p p4 _ _ c c4 a (X ^ kk) _ (hp.past hs4) ho4.rd rfl rfl (by omega) lxp HXP.out).mono ?_
  rw [← HQ.out]
  rintro e w5 ⟨p5, c5, q5, d5, rfl, ho5, -, hb5, -⟩
  have hs5 := hs4.trans (hb5.mono hs4.size)
  have hox5 := hox4.past hb5
  clear hox hox4 hb4 hb5 hs4 ho4
  go_wp2_with fail
  refine (m0c kk _ (by omega)).mono ?_
  rintro e w6 ⟨p6, c6, rfl, ho6, hb6⟩
  have hs6 := hs5.trans (hb6.mono hs5.size)
  have hox6 := hox5.past hb6
  have hq6 := ho5.rd.past hb6
  clear hox5 hb6 hs5 ho5
  go_wp2_with fail
  refine (h0h px p6 _ _ cx c6 X kk _ hox6.rd ho6.rd rfl rfl (by omega)).mono ?_
  rintro e w7 ⟨p7, c7, rfl, ho7, hb7⟩
  have hs7 := hs6.trans (hb7.mono hs6.size)
  have hox7 := hox6.past hb7
  have hq7 := hq6.past hb7
  clear hox6 hb7 hs6 hq6 ho6
  go_wp2_with fail
  refine (j0t p7 p5 _ _ c7 c5 (X * kk) q _ ho7.rd hq7 rfl rfl (by omega) (by omega)).mono ?_
  rintro e w8 ⟨p8, c8, rfl, ho8, hb8⟩
  have hs8 := hs7.trans (hb8.mono hs7.size)
  have hox8 := hox7.past hb8
  clear hox7 hb8 hs7 hq7 ho7
  go_wp2_with fail
  refine (p0e p8 _ c8 (X * kk + q) k _ ho8.rd rfl (by omega) (by omega) (by omega)).mono ?_
  rw [← HY.out]
  rintro e w9 ⟨p9, c9, rfl, ho9, hb9⟩
  have hs9 := hs8.trans (hb9.mono hs8.size)
  have hox9 := hox8.past hb9
  have hsz8 := hs8.size
  clear hox8 hb9 ho8
  go_wp2_with fail
  refine (d0c p9 px _ _ c9 cx y X _ ho9.rd hox9.rd rfl rfl (by omega) (by omega)).mono ?_
  rintro e w10 ⟨rfl, hb10⟩
  have hs10 := hs9.trans (hb10.mono hs9.size)
  have hox10 := hox9.past hb10
  have hoy10 := ho9.past hb10
  clear hox9 hb10 hs9 ho9
  by_cases hyx : X ≤ y
  · have hC : 0 ≤ cmpN y X := by unfold cmpN; rw [if_neg (by omega)]; split <;> omega
    have H1 := hi0 (HST.out hyx)
    have H2 := hi0 HR.out.1
    go_wp2_with fail
    go_ret
    exact ⟨X, H1.out, H2.out, px, cx, rfl, hox10, hs10⟩
  · have hC : cmpN y X ≤ -1 := by rw [i0r (by omega)]; omega
    have hlt : y < X := by omega
    clear hyx
    have hle := hi0 (show y ≤ 2 ^ N from Nat.le_trans (Nat.le_of_lt hlt) HR.out.2)
    go_wp2_with fail
    go_roundg y
    case measure => omega
    case rel => exact ⟨y, p9, c9, rfl, rfl, hoy10.mono hsz8, hs10, ⟨HAB.out, hle.out⟩⟩
theorem p0u (p : Option Addr) (n c : Nat) (a k : Nat) (w : World) (hp : Rd w .u32 p (dig B32 a)) (hn : n = (dig B32 a).length) (hl : (dig B32 a).length ≤ 10000) (hk : 1 ≤ k) (hk2 : k ≤ 1000) :
 Calls Tryd.prog 128 #[.slice p n c, .int .i64 k] w (c1n w a k) := by
 by_cases h0 : (dig B32 a).length = 0
 · have e := (a0i a0a a).1 h0
   subst e
   exact z0i p n c k w (by omega) hk
 · by_cases h1 : k = 1
   · subst h1
     exact c1o p n c a w hp hn hl (by omega)
   · exact z0j p n c a k (k - 1) w hp hn hl (by omega) (by omega) hk2 (by omega)
end Go.Proofs.YtmacohmclpnphaaDoor
namespace Go.Slip
open Go.RowKit
def p0v : List (Nat × SV) → Cfg → Cfg
 | [], c => c
 | (i, y) :: l, c => p0v l (i0x i y c)
section
variable {P : Program} {Q : Exit → Act → World → Prop} {E : List Nat} {w0 : World} {A : List Nat} {fs : List PF} {W : World} {c c' : Cfg}
theorem u0z (_ : Inv E w0 A c.bx fs W) (l : List (Nat × SV)) (h1 : ∀ A W, Inv E w0 A (nrm (p0v l c)).bx fs W → G P Q A (nrm (p0v l c)) W)
 (h2 : (∀ A W, Inv E w0 A (nrm (p0v l c)).bx fs W → G P Q A (nrm (p0v l c)) W) → G P Q A c W) : G P Q A c W := h2 h1
theorem zuse (K : ∀ A W, Inv E w0 A c'.bx fs W → G P Q A c' W) (I : Inv E w0 A c.bx fs W) (he : c = c' := by kernel_rfl) : G P Q A c W := by
 subst he
 exact K _ _ I
end
end Go.Slip
namespace Go.Slip
open Go.RowKit
def d1x (i : Nat) (c : Cfg) (A : List Nat) : Option VO :=
 match c.rg with
 | .dr ops _ _ (_ + 1) listed => match ops[i]? with
  | some o => match Region.noSelect ops && Region.free .any ops listed i && (Region.ready .any ops listed).contains i && wnt ops c.fr o with
   | true => match o.op with
    | .indexAddr t x j => some (.ix t (evr A c.fr x) (evr A c.fr j))
    | _ => none
   | false => none
  | none => none
 | _ => none
section
variable {P : Program} {Q : Exit → Act → World → Prop} {E : List Nat} {w0 : World} {A : List Nat} {fs : List PF} {W : World} {c : Cfg}
theorem zkx (i : Nat) (I : Inv E w0 A c.bx fs W) {vo : VO} (v : Value) (hx : ∀ W, vo.sem.run P W = .ok v W) (h : Inv E w0 A (i0x i (.v v) c).bx fs W → G P Q A (i0x i (.v v) c) W)
 (hv : d1x i c A = some vo := by kernel_rfl) (hm : dk1 c.rg c.bx = dk2 c.rg := by kernel_rfl) (hQ : f0m Q := by exact d0t) : G P Q A c W := by
 refine ⟨?_⟩
 have h := (h (by rw [s0l]; exact I)).out
 obtain ⟨cf, cb, rg, ks⟩ := c
 cases rg with
 | off => cases hv
 | pl => cases hv
 | one => cases hv
 | ret => cases hv
 | dr ops A0 m fuel listed =>
  cases fuel with
  | zero => cases hv
  | succ fuel =>
   unfold d1x at hv
   unfold i0x at h
   simp only at hv h
   intro pre
   split at hv
   · rename_i o hi
     rw [hi] at h
     split at hv
     · rename_i h1
       simp only [Bool.and_eq_true] at h1
       obtain ⟨⟨⟨h1, h2⟩, h3⟩, hw⟩ := h1
       split at hv
       · rename_i t x j hop
         simp only [Option.some.injEq] at hv
         subst hv
         have hS : SB A0 m W := w0q I pre hm
         have h : WpH P ops (post P Q ks) (SB A0 m) fuel (listed.setIfInBounds i true) (act A (putO cf o.dst (.v v))) W := h pre
         rw [← d0d] at h
         refine h0j i o.dst v _ hi rfl rfl h1 h2 h3 (fun c a w => e0f (P := P) hQ ks c a o.dst v w) (.inl ⟨by rw [f0d]; exact hw, fun w' _ => ?_⟩) hS h
         rw [b0q]
         unfold execOp
         have := hx w'
         unfold VO.sem at this
         simp only [hop, Sem.run_bind, this, Result.andThen_ok, Sem.run_pure]
       · cases hv
     · cases hv
   · cases hv
end
end Go.Slip
namespace Go.Proofs.YtmacohmclpnphaaDoor
open Go.RowKit Go.Slip
def _root_.Go.Slip.Fm.sqrtM (f : Fm) (a : Vr) (way : Int) : Vr × Nat :=
 if 4 ≤ a.cls then f.offM else if a.cls = 1 then (f.zeroM a.neg, 0) else if a.neg = true then f.lostM else if a.cls = 3 then (a, 0) else f.numM (z0h a.x (300 - blen a.x.m)) way
theorem c1p (p : Option Addr) (c a : Nat) (w : World) (hp : Rd w .u32 p (dig B32 a)) (hl : (dig B32 a).length ≤ 10000) : Calls Tryd.prog 128 #[.slice p (dig B32 a).length c, .int .i64 2] w (e0h w .u32 76 (dig B32 (isq a))) := by
 refine (p0u p _ c a 2 w hp rfl hl (by omega) (by omega)).mono fun en w' ⟨r, k1, k2, h⟩ => ?_
 rw [h1x k1 k2]
 exact h
theorem i1u (f : Fm) (n way : Int) (a : Vp) (ra : Vr) (base u : Nat) (w : World) (U : Bt w u 153 #[.int .i64 n, .int .i64 way, .int .i64 f.g.rad, .int .i64 f.g.digs, .int .i64 f.g.lo, .int .i64 f.g.hi, .bool f.g.grad, .int .u8 (famB f), .int .i64 0]) (oa : Own w base .u32 76 a.p a.c (dig B32 a.v.d)) (hb : base ≤ w.heap.size)
 (A1 : AtV f a ra) (G : b0g f) (hw : 1 ≤ way ∧ way ≤ 5) (hT : TabW w) :
 Calls Tryd.prog 73 #[.pointer (some ⟨u, 0, none⟩), .agg #[.int .i64 (a.v.cls : Int), .bool a.v.neg, .slice a.p (dig B32 a.v.d).length a.c, .int .i64 a.v.pow]] w (e0s f n way u w base (f.sqrtM ra way)) := by
 have hM : f.sqrtM ra way = if 4 ≤ a.v.cls then f.offM else if a.v.cls = 1 then (f.zeroM a.v.neg, 0) else if a.v.neg = true then f.lostM else if a.v.cls = 3 then (ra, 0) else f.numM (z0h ra.x (300 - blen ra.x.m)) way := by
  unfold Fm.sqrtM; rw [A1.rep.cls, A1.rep.neg]
 have hca : a.v.cls ≤ 5 := by rw [A1.rep.cls]; exact A1.ok.c.2
 have HY := fun W b0 u h1 h2 h3 => hi0 (r0l f n way [a] b0 1 u W h1 h2 rfl (by simp) (by simp [hca]) G h3)
 have HN := fun W b0 u h1 h2 h3 => hi0 (y0y f n way 0 [a] b0 1 u W h1 h2 rfl (by simp) h3)
 have HL := fun W u h1 => hi0 (z0a f n way u W h1)
 have HZ := fun W u h1 => hi0 (p0m f n way 0 a.v.neg u W h1)
 have HA := fun W u h1 h2 h3 => hi0 (y0x f n way 0 a.v ra a.p a.c base u W h1 h2 A1.rep A1.ok h3)
 have hoffm : f.offM = (⟨f.nothM.cls, false, vz⟩, f.offM.2) := rfl
 have hk2 := i0j G
 have hlostm : f.lostM = (⟨f.nothM.cls, false, vz⟩, 16) := rfl
 have VA := A1.rep
 have sa := A1.ok.sm
 have hl1 := A1.ok.len
 have hl2 := sa.lo
 have hl3 := sa.hi
 have HLX := fun W p c h => hi0 (stay (e0n p _ c ra.x.m W h rfl (by omega)))
 have hLX := e0d ra.x.m
 obtain ⟨N0, hN0⟩ : ∃ N0, 300 - blen ra.x.m = N0 := ⟨_, rfl⟩
 have m1 : max 0 (300 - ((blen ra.x.m : Nat) : Int)) = (N0 : Int) := by omega
 rw [hN0] at hM
 generalize blen ra.x.m = LX at *
 have hev : k0w ra.x.e N0 = if (ra.x.e - N0) % 2 = 0 then N0 else N0 + 1 := rfl
 have HE0 := hi0 (m0d ra.x.e N0)
 have hnb := b1c ra.x.e N0
 unfold z0h at hM
 obtain ⟨N, hN⟩ : ∃ N, k0w ra.x.e N0 = N := ⟨_, rfl⟩
 rw [hN] at hM hev HE0 hnb
 clear hN
 have hpe : ((ra.x.e - (N0 : Int)).tmod 2 != 0) = !decide ((ra.x.e - (N0 : Int)) % 2 = 0) := j1e _
 obtain ⟨par, hpar⟩ : ∃ b, ((ra.x.e - (N0 : Int)).tmod 2 != 0) = b := ⟨_, rfl⟩
 have hNt : par = true → (N0 : Int) + 1 = N := fun h => by
  rw [hpar, h] at hpe
  have : ¬ (ra.x.e - (N0 : Int)) % 2 = 0 := by simpa using hpe.symm
  rw [if_neg this] at hev; omega
 have hNf : par = false → (N0 : Int) = N := fun h => by
  rw [hpar, h] at hpe
  have : (ra.x.e - (N0 : Int)) % 2 = 0 := by simpa using hpe.symm
  rw [if_pos this] at hev; omega
 have HPAR := hi0 hpar
 clear hpar hpe hev
 have HSX := fun W M p c h hM => hi0 (fshl p _ c ra.x.m N _ M W h rfl (by omega) (by omega) hM rfl)
 have lXN : (dig B32 (ra.x.m * 2 ^ N)).length ≤ 1700 := by have := h0i ra.x.m N; omega
 have hst : n0p ra.x.m N (isq (ra.x.m * 2 ^ N)) 1 ra.x.e = ⟨false, isq (ra.x.m * 2 ^ N) * 2 ^ 1 + (if isq (ra.x.m * 2 ^ N) * isq (ra.x.m * 2 ^ N) ≠ ra.x.m * 2 ^ N then 1 else 0), (ra.x.e - N) / 2 - 1⟩ := by unfold n0p; rw [Nat.mul_comm]; rfl
 rw [hst] at hM
 clear hst
 generalize ra.x.m * 2 ^ N = XN at *
 have HRT := fun W p c h => hi0 (c1p p c XN W h (by omega))
 have lR : (dig B32 (isq XN)).length ≤ 1700 := Nat.le_trans (a0k a0a (h1y XN)) lXN
 generalize isq XN = R at *
 have lRR := c0h a0a R R
 have HS1 := fun W p c h => hi0 (fshl p _ c R 1 _ 1 W h rfl (by omega) (by omega) rfl rfl)
 have HMU := fun W p c h => hi0 (h0h p p _ _ c c R R W h h rfl rfl (by omega))
 have HCM := fun W p q c d h1 h2 => hi0 (d0c p q _ _ c d (R * R) XN W h1 h2 rfl rfl (by omega) (by omega))
 have lQ0 : (dig B32 (R * 2 ^ 1)).length ≤ 1702 := by have := h0i R 1; omega
 generalize hQ0 : R * 2 ^ 1 = Q0 at *
 clear hQ0
 have l1 : (dig B32 1).length ≤ 1 := by rw [p0i a0a (by omega) (by unfold B32; omega)]; simp
 have HAD := fun W p q c d h1 h2 => hi0 (j0t p q _ _ c d Q0 1 W h1 h2 rfl rfl (by omega) (by omega))
 have lQ1 : (dig B32 (Q0 + 1)).length ≤ 1800 := Nat.le_trans (d0h a0a Q0 1) (by omega)
 obtain ⟨sb, hsb⟩ : ∃ b, (cmpN (R * R) XN != 0) = b := ⟨_, rfl⟩
 have hc0 : cmpN (R * R) XN = 0 ↔ R * R = XN := by unfold cmpN; split <;> (try split) <;> omega
 obtain ⟨Q, hQ⟩ : ∃ Q, Q0 + (if R * R ≠ XN then 1 else 0) = Q := ⟨_, rfl⟩
 rw [hQ] at hM
 have hQt : sb = true → Q0 + 1 = Q := fun h => by
  rw [h, bne_iff_ne] at hsb
  rw [← hQ, if_pos (fun k => hsb (hc0.2 k))]
 have hQf : sb = false → Q0 = Q := fun h => by
  rw [h, bne_eq_false_iff_eq] at hsb
  rw [← hQ, if_neg (fun k => k (hc0.1 hsb))]
  rfl
 have lQ : (dig B32 Q).length ≤ 1800 := by
  cases sb
  · rw [← hQf rfl]; omega
  · rw [← hQt rfl]; omega
 have HSB := hi0 hsb
 clear hsb hc0 hQ
 obtain ⟨E2, hE2⟩ : ∃ E2, (ra.x.e - (N : Int)) / 2 = E2 := ⟨_, rfl⟩
 rw [hE2] at hM
 have hE2b : -110000 ≤ E2 ∧ E2 ≤ 100000 := by omega
 have H4 : ∀ k : Int, k = N → IntKind.i64.wrap ((ra.x.e - k).tdiv 2) = E2 := fun k h => by
  rw [h, j1f HE0.out, hE2]; exact iwo
 clear hE2 HE0 hN0
 have hr1 := g0h a0a ⟨false, Q, E2 - 1⟩
 have hr2 := k0c ⟨false, Q, E2 - 1⟩ (n := 1800) (by simp only; omega) (lo := -600000) (hi := 400000) (by simp only; omega) (by simp only; omega) (by omega) (by omega)
 have HW := fun W p (n : Nat) c (q : n = (dig B32 Q).length) (h1 : Rd W .u32 p (dig B32 Q)) (h2 : n ≤ c) h3 => hi0 (k0x p n c (E2 - 1) Q W h1 q h2 (by omega) (by omega) h3)
 generalize bare ⟨false, Q, E2 - 1⟩ = rt at *
 simp only at hr1
 have HNU := fun W p c u h1 h2 => hi0 (o0c f n way rt p c u W h1 h2 (by omega) (by omega) G hw)
 obtain ⟨rS, flS, hS⟩ : ∃ rS flS, f.numM rt way = (rS, flS) := ⟨_, _, rfl⟩
 rw [hS] at HNU hM
 generalize f.sqrtM ra way = RR at *
 generalize f.offM.2 = flo at *
 generalize f.nothM.cls = kN at *
 clear hS
 have I := Inv.startW w u 153 (uS f n way 0) [ownF base .u32 76 a.p a.c (dig B32 a.v.d), tabF] U ⟨oa, hT, True.intro⟩ ⟨fun hf => oa.far U (by kernel_rfl) hf.1 hf.2, fun hf => hT.far U (by kernel_rfl) hf, True.intro⟩
 refine a0c [.p 0 0, .v (.agg #[.int .i64 (a.v.cls : Int), .bool a.v.neg, .slice a.p (dig B32 a.v.d).length a.c, .int .i64 a.v.pow])] I Tryd.func73 ?_
 by_cases hof : 4 ≤ a.v.cls
 · refine zge I 0 153 (fun Al W I => (HY W _ _ (I.box 0 153 _) (I.box 3 29 _) (by simpa using hof)).out) fun Al V Iv _ _ kz => ?_
   rintro _ W ⟨rfl, hO, hB⟩
   refine ⟨_, rfl, kz _ (uS f n way (flo : Int)) _ hO hB fun I => ?_⟩
   rw [hM, if_pos hof, hoffm]
   exact zret I fun Al W I => a0f hk2 rfl I.bel (I.boxE 153 _)
 refine zq I (fun Al W I => have hzW := I.bel.size; (HN W _ _ (I.box 0 153 _) (I.box 3 29 _) (by simp only [List.mem_cons, List.mem_nil_iff, or_false]; rintro x rfl; omega)).out) fun Al W I => ?_
 by_cases z1 : a.v.cls = 1
 · refine zqd I (fun Al W I => a0z a.v.cls a.v.neg a.p (dig B32 a.v.d).length a.c a.v.pow W) (dTr z1) fun Al W I => ?_
   refine zq I (fun Al W I => (HZ W _ (I.box 0 153 _)).out) fun Al W I => ?_
   rw [hM, if_neg hof, if_pos z1]
   exact zret I fun Al W I => a0f (k := 1) (by decide) rfl I.bel (I.boxE 153 _)
 refine zqd I (fun Al W I => a0z a.v.cls a.v.neg a.p (dig B32 a.v.d).length a.c a.v.pow W) (dFa z1) fun Al W I => ?_
 by_cases ng : a.v.neg = true
 · refine zb I 30 (a.v.neg) (true) (ng) fun Al W I => ?_
   refine zge I 0 153 (fun Al W I => (HL W _ (I.box 0 153 _)).out) fun Al V Iv _ _ kz => ?_
   rintro _ W ⟨rfl, hO, hB⟩
   refine ⟨_, rfl, kz _ (uS f n way 16) _ hO hB fun I => ?_⟩
   rw [hM, if_neg hof, if_neg z1, if_pos ng, hlostm]
   exact zret I fun Al W I => a0f hk2 rfl I.bel (I.boxE 153 _)
 refine zb I 30 (a.v.neg) (false) ((by simpa using ng)) fun Al W I => ?_
 by_cases z3 : a.v.cls = 3
 · refine zqd I (fun Al W I => a0b a.v.cls a.v.neg a.p (dig B32 a.v.d).length a.c a.v.pow W) (dTr z3) fun Al W I => ?_
   rw [hM, if_neg hof, if_neg z1, if_neg ng, if_pos z3]
   exact zret I fun Al W I => ⟨a.v, VA, a.p, a.c, rfl, I.fa.1, I.bel, I.boxE 153 _⟩
 refine zqd I (fun Al W I => a0b a.v.cls a.v.neg a.p (dig B32 a.v.d).length a.c a.v.pow W) (dFa z3) fun Al W I => ?_
 refine zg I (fun Al W I => (HA W _ (I.box 0 153 _) I.fa.1 I.fa.2.1).out) fun Al V Iv _ hB _ kz => ?_
 rintro _ W ⟨p39, c39, rfl, o39, hb⟩
 refine ⟨_, rfl, kz _ _ hb fun I => ?_⟩
 have I := I.ownB base o39
 refine zq I (fun Al W I => (HLX W p39 c39 I.fa.1.rd).out) fun Al W I => ?_
 refine zi I 44 .i64 ((300 : Int) - (LX : Int)) ((300 : Int) - (LX : Int)) (iwo) fun Al W I => ?_
 refine zm I 45 .i64 (if (((300 : Int) - (LX : Int)) : Int) > 0 then ((300 : Int) - (LX : Int)) else 0) ((N0 : Int)) (((i1f _ _).trans m1)) fun Al W I => ?_
 refine zi I 50 .i64 (ra.x.e - (N0 : Int)) (ra.x.e - (N0 : Int)) (iwo) fun Al W I => ?_
 refine zbin I 51 _ (fun _ _ _ _ _ => e1v .i64 (ra.x.e - (N0 : Int)) (2) ((ra.x.e - (N0 : Int)).tmod 2) (by omega) (rfl)) fun Al W I => ?_
 refine zb I 52 (((ra.x.e - (N0 : Int)).tmod 2) != 0) (par) (HPAR.out) fun Al W I => ?_
 refine zcut I (some 2000052) (fun fr bx gs => ∃ (U1 : Nat → Value) (k1 : Int), fr = (.p 0 0 :: .v (.agg #[.int .i64 (a.v.cls : Int), .bool a.v.neg, .slice a.p (dig B32 a.v.d).length a.c, .int .i64 a.v.pow]) :: .v undef :: .p 1 0 :: .p 2 0 :: .p 4 0 :: .v (.bool false) :: .p 5 0 :: .v (.int .i64 k1) :: su 3 (sw U1 12 7 (.v (.bool false) :: .v (U1 20) :: .v (.bool false) :: sw U1 22 6 (.v (.bool false) :: sw U1 29 4 (.v (.bool false) :: sw U1 34 18 (.v (.bool par) :: sw U1 53 16 (.v undef :: sw U1 70 14 [])))))) : List SV) ∧ bx = [⟨153, (uS f n way 0), false⟩, ⟨29, [.v (.int .i64 (a.v.cls : Int)), .v (.bool a.v.neg), .v (.slice a.p (dig B32 a.v.d).length a.c), .v (.int .i64 a.v.pow)], false⟩, ⟨29, [.v (.int .i64 0), .v (.bool false), .v (.slice none 0 0), .v (.int .i64 0)], false⟩, ⟨29, [.v (.int .i64 (a.v.cls : Int)), .v (.bool a.v.neg), .v (.slice a.p (dig B32 a.v.d).length a.c), .v (.int .i64 a.v.pow)], false⟩, ⟨29, [.v (.int .i64 0), .v (.bool false), .v (.slice none 0 0), .v (.int .i64 0)], false⟩, ⟨87, [.v (.bool ra.x.neg), .v (.slice p39 (dig B32 ra.x.m).length c39), .v (.int .i64 ra.x.e)], false⟩] ∧ gs = [ownF base .u32 76 p39 c39 (dig B32 ra.x.m), ownF base .u32 76 a.p a.c (dig B32 a.v.d), tabF] ∧ (k1 = (N : Int))) ?_ ?_
 · intro J hJ Al W I
   rcases Bool.eq_false_or_eq_true par with rfl | rfl
   · refine zi I 54 .i64 ((N0 : Int) + 1) ((N0 : Int) + 1) (iwo) fun Al W I => ?_
     exact b0c I J fun Al W U I => hJ _ _ _ _ _ ⟨U, (N0 : Int) + 1, rfl, rfl, rfl, hNt rfl⟩ (I.pick [0, 1, 2])
   exact b0c I J fun Al W U I => hJ _ _ _ _ _ ⟨U, (N0 : Int), rfl, rfl, rfl, hNf rfl⟩ (I.pick [0, 1, 2])
 rintro _ _ _ ⟨U1, k1, rfl, rfl, rfl, hk1⟩ Al W I
 refine zg I (fun Al W I => (HSX W k1 p39 c39 I.fa.1.rd hk1).out) fun Al V Iv _ hB _ kz => ?_
 rintro _ W ⟨p59, c59, rfl, o59, hb⟩
 refine ⟨_, rfl, kz _ _ hb fun I => ?_⟩
 have I := I.ownB base o59
 refine zg I (fun Al W I => (HRT W p59 c59 I.fa.1.rd).out) fun Al V Iv _ hB _ kz => ?_
 rintro _ W ⟨p61, c61, rfl, o61, hb⟩
 refine ⟨_, rfl, kz _ _ hb fun I => ?_⟩
 have I := I.ownB base o61
 refine zg I (fun Al W I => (HS1 W p61 c61 I.fa.1.rd).out) fun Al V Iv _ hB _ kz => ?_
 rintro _ W ⟨p63, c63, rfl, o63, hb⟩
 refine ⟨_, rfl, kz _ _ hb fun I => ?_⟩
 have I := I.ownB base o63
 refine zg I (fun Al W I => (HMU W p61 c61 I.fa.2.1.rd).out) fun Al V Iv _ hB _ kz => ?_
 rintro _ W ⟨p66, c66, rfl, o66, hb⟩
 refine ⟨_, rfl, kz _ _ hb fun I => ?_⟩
 have I := I.ownB base o66
 refine zq I (fun Al W I => (HCM W p66 p59 c66 c59 I.fa.1.rd I.fa.2.2.2.1.rd).out) fun Al W I => ?_
 refine zb I 69 ((cmpN (R * R) XN) != 0) (sb) (HSB.out) fun Al W I => ?_
 refine zcut I (some 2000069) (fun fr bx gs => ∃ (U2 : Nat → Value) (Qv : Nat) (pq : Option Addr) (cq : Nat), fr = (.p 0 0 :: .v (.agg #[.int .i64 (a.v.cls : Int), .bool a.v.neg, .slice a.p (dig B32 a.v.d).length a.c, .int .i64 a.v.pow]) :: .v undef :: .p 1 0 :: .p 2 0 :: .p 4 0 :: .v (.bool false) :: .p 5 0 :: .v (.int .i64 k1) :: .v (.slice p59 (dig B32 XN).length c59) :: .v (.slice p61 (dig B32 R).length c61) :: .v (.slice pq (dig B32 Qv).length cq) :: sw U2 12 7 (.v (.bool false) :: .v (U2 20) :: .v (.bool false) :: sw U2 22 6 (.v (.bool false) :: sw U2 29 4 (.v (.bool false) :: sw U2 34 18 (.v (.bool par) :: sw U2 53 16 (.v (.bool sb) :: sw U2 70 14 []))))) : List SV) ∧ bx = [⟨153, (uS f n way 0), false⟩, ⟨29, [.v (.int .i64 (a.v.cls : Int)), .v (.bool a.v.neg), .v (.slice a.p (dig B32 a.v.d).length a.c), .v (.int .i64 a.v.pow)], false⟩, ⟨29, [.v (.int .i64 0), .v (.bool false), .v (.slice none 0 0), .v (.int .i64 0)], false⟩, ⟨29, [.v (.int .i64 (a.v.cls : Int)), .v (.bool a.v.neg), .v (.slice a.p (dig B32 a.v.d).length a.c), .v (.int .i64 a.v.pow)], false⟩, ⟨29, [.v (.int .i64 0), .v (.bool false), .v (.slice none 0 0), .v (.int .i64 0)], false⟩, ⟨87, [.v (.bool ra.x.neg), .v (.slice p39 (dig B32 ra.x.m).length c39), .v (.int .i64 ra.x.e)], false⟩] ∧ gs = [ownF base .u32 76 pq cq (dig B32 Qv), ownF base .u32 76 p66 c66 (dig B32 (R * R)), ownF base .u32 76 p63 c63 (dig B32 Q0), ownF base .u32 76 p61 c61 (dig B32 R), ownF base .u32 76 p59 c59 (dig B32 XN), ownF base .u32 76 p39 c39 (dig B32 ra.x.m), ownF base .u32 76 a.p a.c (dig B32 a.v.d), tabF] ∧ (Qv = Q)) ?_ ?_
 · intro J hJ Al W I
   rcases Bool.eq_false_or_eq_true sb with rfl | rfl
   · refine zg I (fun Al W I => f1k W) fun Al V Iv _ hB _ kz => ?_
     rintro _ W ⟨p71, c71, rfl, o71, hb⟩
     refine ⟨_, rfl, kz _ _ hb fun I => ?_⟩
     have I := I.ownB base o71
     refine zg I (fun Al W I => (HAD W p63 p71 c63 c71 I.fa.2.2.1.rd I.fa.1.rd).out) fun Al V Iv _ hB _ kz => ?_
     rintro _ W ⟨p72, c72, rfl, o72, hb⟩
     refine ⟨_, rfl, kz _ _ hb fun I => ?_⟩
     have I := I.ownB base o72
     exact b0c I J fun Al W U I => hJ _ _ _ _ _ ⟨U, Q0 + 1, p72, c72, rfl, rfl, rfl, hQt rfl⟩ (I.pick [0, 2, 3, 4, 5, 6, 7, 8])
   exact b0c I J fun Al W U I => hJ _ _ _ _ _ ⟨U, Q0, p63, c63, rfl, rfl, rfl, hQf rfl⟩ (I.pick [1, 0, 1, 2, 3, 4, 5, 6])
 rintro _ _ _ ⟨U2, Qv, pq, cq, rfl, rfl, rfl, hQv⟩ Al W I
 refine zi I 79 .i64 (ra.x.e - k1) (ra.x.e - k1) (iwo) fun Al W I => ?_
 refine zbin I 80 _ (fun _ _ _ _ _ => q0x .i64 (ra.x.e - k1) (2) (E2) (by omega) ((H4 _ hk1))) fun Al W I => ?_
 refine zi I 81 .i64 (E2 - 1) (E2 - 1) (iwo) fun Al W I => ?_
 refine zg I (fun Al W I => (HW W pq (dig B32 Qv).length cq (by rw [hQv]) (hQv ▸ I.fa.1.rd) I.fa.1.le_cap I.fa.2.2.2.2.2.2.2.1).out) fun Al V Iv _ hB _ kz => ?_
 rintro _ W ⟨p82, c82, rfl, o82, hb⟩
 refine ⟨_, rfl, kz _ _ hb fun I => ?_⟩
 have I := I.ownB base o82
 refine zge I 0 153 (fun Al W I => (HNU W p82 c82 _ (I.box 0 153 _) I.fa.1.rd).out) fun Al V Iv _ _ kz => ?_
 rintro _ W ⟨v83, hR83, p83, c83, rfl, o83, hO, hB⟩
 refine ⟨_, rfl, kz _ (uS f n way (flS : Int)) _ hO hB fun I => ?_⟩
 have I := I.ownB base o83
 rw [hM, if_neg hof, if_neg z1, if_neg ng, if_neg z3]
 exact zret I fun Al W I => ⟨v83, hR83, p83, c83, rfl, I.fa.1, I.bel, I.boxE 153 _⟩
theorem r0s {n : Int} {s t : ByteArray} (h : errL n [s, t] = 0) : a0s n s = 0 ∧ a0s n t = 0 ∧ IsFm n := by
 have h1 := g0e n h s (by simp)
 exact ⟨h1, g0e n h t (by simp), (b0x.1 h1).1⟩
theorem t0k {n : Int} {xs : List Vp} {s t : ByteArray} (h : xs.map (·.v) = [s, t].map (decP n)) : ∃ x y, xs = [x, y] ∧ x.v = decP n s ∧ y.v = decP n t := by
 cases xs with
 | nil => simp at h
 | cons x l =>
  cases l with
  | nil => simp at h
  | cons y l =>
   cases l with
   | nil => simp only [List.map_cons, List.map_nil, List.cons.injEq, and_true] at h; exact ⟨x, y, rfl, h.1, h.2⟩
   | cons _ _ => simp at h
theorem c1q (n way : Int) (s t : ByteArray) (h0 : errL n [s, t] = 0) (hw : 1 ≤ way ∧ way ≤ 5) : c1l n way [s, t] 57 ((fmt n).addM (refD n s) (refD n t) way) := by
 intro xs vs p c base u w hxs hvs oS oL U hT hb
 obtain ⟨hs, ht, hn⟩ := r0s h0
 obtain ⟨x, y, rfl, hx, hy⟩ := t0k hxs
 have ox := oL x (by simp)
 have oy := oL y (by simp)
 have HA := fun W u h1 h2 h3 h4 h5 => hi0 (j1s (fmt n) n way x y (refD n s) (refD n t) base u W h1 h2 h3 h4 (p0t hs hx) (p0t ht hy) (c0d hn) hw h5)
 generalize (fmt n).addM (refD n s) (refD n t) way = R at *
 generalize fmt n = f at *
 subst hvs
 clear oL hx hy hxs h0 hs ht hn
 obtain ⟨r, fl⟩ := R
 have I := Inv.startW w u 153 (uS f n way 0) [h0m base 29 4 p c [s, t].length ([x, y].flatMap Vp.cells), ownF base .u32 76 x.p x.c (dig B32 x.v.d), ownF base .u32 76 y.p y.c (dig B32 y.v.d), tabF] U ⟨oS, ox, oy, hT, True.intro⟩ ⟨fun hf => oS.far U (by kernel_rfl) hf.1 hf.2, fun hf => ox.far U (by kernel_rfl) hf.1 hf.2, fun hf => oy.far U (by kernel_rfl) hf.1 hf.2, fun hf => hT.far U (by kernel_rfl) hf, True.intro⟩
 refine a0c [.p 0 0, .v (.slice p [s, t].length c)] I Tryd.func57 ?_
 refine zd [0, 1] I fun Al W I => ?_
 refine zk [0, 1] I fun I => ?_
 refine zkx 2 I (.pointer (some (at_ p (0 * 4)))) (fun _ => (k0o (m := 0) (n := [s, t].length) (c := c) o0d I.fa.1.solid (by simp))) fun I => ?_
 refine zk [4] I fun I => ?_
 refine zkx 5 I (.pointer (some (at_ p (1 * 4)))) (fun _ => (k0o (m := 1) (n := [s, t].length) (c := c) o0d I.fa.1.solid (by simp))) fun I => ?_
 refine u0z I [(3, .v (.agg #[.int .i64 (x.v.cls : Int), .bool x.v.neg, .slice x.p (dig B32 x.v.d).length x.c, .int .i64 x.v.pow])), (6, .v (.agg #[.int .i64 (y.v.cls : Int), .bool y.v.neg, .slice y.p (dig B32 y.v.d).length y.c, .int .i64 y.v.pow]))] (fun Al W I => ?_) (fun KL7 => ?_)
 · refine zo 7 I fun I => ?_
   refine zge I 0 153 (fun Al W I => have hzW := I.bel.size; (HA W _ (I.box 0 153 _) I.fa.2.1 I.fa.2.2.1 (by omega) I.fa.2.2.2.1).out) fun Al V Iv _ _ kz => ?_
   rintro _ W ⟨v12, hR12, p12, c12, rfl, o12, hO, hB⟩
   refine ⟨_, rfl, kz _ (uS f n way (fl : Int)) _ hO hB fun I => ?_⟩
   have I := I.ownB base o12
   refine zo 8 I fun I => ?_
   refine zn I fun Al W I => ?_
   exact zret I fun Al W I => ⟨v12, hR12, p12, c12, rfl, I.fa.1, I.bel, I.boxE 153 _⟩
 refine u0z I [(3, .v (.agg #[.int .i64 (x.v.cls : Int), .bool x.v.neg, .slice x.p (dig B32 x.v.d).length x.c, .int .i64 x.v.pow]))] (fun Al W I => ?_) (fun KL5 => ?_)
 · refine zo 6 I fun I => ?_
   refine zx I 11 (fun _ => .agg #[.int .i64 (y.v.cls : Int), .bool y.v.neg, .slice y.p (dig B32 y.v.d).length y.c, .int .i64 y.v.pow]) (fun Al W I => (i0b (m := 1 * 4) I.fa.1 l0i y.cells rfl rfl)) fun Al W I => ?_
   exact zuse KL7 I
 refine u0z I [(6, .v (.agg #[.int .i64 (y.v.cls : Int), .bool y.v.neg, .slice y.p (dig B32 y.v.d).length y.c, .int .i64 y.v.pow]))] (fun Al W I => ?_) (fun KL6 => ?_)
 · refine zo 3 I fun I => ?_
   refine zx I 8 (fun _ => .agg #[.int .i64 (x.v.cls : Int), .bool x.v.neg, .slice x.p (dig B32 x.v.d).length x.c, .int .i64 x.v.pow]) (fun Al W I => (i0b (m := 0 * 4) I.fa.1 l0i x.cells rfl rfl)) fun Al W I => ?_
   exact zuse KL7 I
 refine zo2 3 6 I (fun I => ?_) (fun I => ?_)
 · refine zx I 8 (fun _ => .agg #[.int .i64 (x.v.cls : Int), .bool x.v.neg, .slice x.p (dig B32 x.v.d).length x.c, .int .i64 x.v.pow]) (fun Al W I => (i0b (m := 0 * 4) I.fa.1 l0i x.cells rfl rfl)) fun Al W I => ?_
   exact zuse KL5 I
 refine zx I 11 (fun _ => .agg #[.int .i64 (y.v.cls : Int), .bool y.v.neg, .slice y.p (dig B32 y.v.d).length y.c, .int .i64 y.v.pow]) (fun Al W I => (i0b (m := 1 * 4) I.fa.1 l0i y.cells rfl rfl)) fun Al W I => ?_
 exact zuse KL6 I
def e0w (n way : Int) (L : List ByteArray) (R : Vr × Nat) (w : World) (en : Ending) (w' : World) : Prop :=
 (if errR n way L = 0 then en = .returned (.tuple #[.string (strR n R.1), .int .i64 ((R.2 : Nat) : Int), .int .i64 (errR n way L)]) else en = .returned (.tuple #[.string (b0e []), .int .i64 0, .int .i64 (errR n way L)])) ∧ Below w.heap.size w w'
theorem i0k {n way : Int} {L : List ByteArray} (h0 : errR n way L = 0) : IsFm n ∧ errL n L = 0 ∧ 1 ≤ way ∧ way ≤ 5 := by
 have hn : IsFm n := by unfold errR at h0; split at h0; assumption; omega
 unfold errR at h0
 rw [if_pos hn] at h0
 have hL : errL n L = 0 := by split at h0; assumption; contradiction
 rw [if_pos hL] at h0
 exact ⟨hn, hL, by split at h0; assumption; omega⟩
theorem c1r (n way : Int) (s t : ByteArray) (w : World) (hT : TabW w) : Calls Tryd.prog 18 #[.int .i64 n, .string s, .string t, .int .i64 way] w (e0w n way [s, t] ((fmt n).addM (refD n s) (refD n t) way) w) := by
 unfold e0w
 by_cases h0 : errR n way [s, t] = 0
 · obtain ⟨hn, hL, hw⟩ := i0k h0
   have HR := fun b m W h1 h2 h3 => hi0 (z0f n way [s, t] 57 _ b m W h1 h2 (by simp) h3 (fun _ _ => by kernel_rfl) h0 (c1q n way s t hL hw) (i1s (c0d hn) (e0t hn) (e0t hn) way))
   simp only [h0, if_true]
   generalize strR n ((fmt n).addM (refD n s) (refD n t) way).1 = str at *
   generalize ((fmt n).addM (refD n s) (refD n t) way).2 = fl at *
   have I := Inv.start w [tabF] ⟨hT, True.intro⟩
   refine a0c [.v (.int .i64 n), .v (.string s), .v (.string t), .v (.int .i64 way)] I Tryd.func18 ?_
   refine zq I (fun Al W I => (HR _ 2 W (I.box 0 9 _) rfl I.fa.1).out) fun Al W I => ?_
   exact zrb I
 · have HR := fun b m W h1 h2 h3 => hi0 (r0n n way [s, t] 57 b m W h1 h2 (by simp) h3 h0)
   simp only [if_neg h0]
   generalize errR n way [s, t] = er at *
   have I := Inv.start w [tabF] ⟨hT, True.intro⟩
   refine a0c [.v (.int .i64 n), .v (.string s), .v (.string t), .v (.int .i64 way)] I Tryd.func18 ?_
   refine zq I (fun Al W I => (HR _ 2 W (I.box 0 9 _) rfl I.fa.1).out) fun Al W I => ?_
   exact zrb I
theorem c1s (n way : Int) (s t : ByteArray) (h0 : errL n [s, t] = 0) (hw : 1 ≤ way ∧ way ≤ 5) : c1l n way [s, t] 59 ((fmt n).mulM (refD n s) (refD n t) way) := by
 intro xs vs p c base u w hxs hvs oS oL U hT hb
 obtain ⟨hs, ht, hn⟩ := r0s h0
 obtain ⟨x, y, rfl, hx, hy⟩ := t0k hxs
 have ox := oL x (by simp)
 have oy := oL y (by simp)
 have HA := fun W u h1 h2 h3 h4 h5 => hi0 (j1t (fmt n) n way x y (refD n s) (refD n t) base u W h1 h2 h3 h4 (p0t hs hx) (p0t ht hy) (c0d hn) hw h5)
 generalize (fmt n).mulM (refD n s) (refD n t) way = R at *
 generalize fmt n = f at *
 subst hvs
 clear oL hx hy hxs h0 hs ht hn
 obtain ⟨r, fl⟩ := R
 have I := Inv.startW w u 153 (uS f n way 0) [h0m base 29 4 p c [s, t].length ([x, y].flatMap Vp.cells), ownF base .u32 76 x.p x.c (dig B32 x.v.d), ownF base .u32 76 y.p y.c (dig B32 y.v.d), tabF] U ⟨oS, ox, oy, hT, True.intro⟩ ⟨fun hf => oS.far U (by kernel_rfl) hf.1 hf.2, fun hf => ox.far U (by kernel_rfl) hf.1 hf.2, fun hf => oy.far U (by kernel_rfl) hf.1 hf.2, fun hf => hT.far U (by kernel_rfl) hf, True.intro⟩
 refine a0c [.p 0 0, .v (.slice p [s, t].length c)] I Tryd.func59 ?_
 refine zd [0, 1] I fun Al W I => ?_
 refine zk [0, 1] I fun I => ?_
 refine zkx 2 I (.pointer (some (at_ p (0 * 4)))) (fun _ => (k0o (m := 0) (n := [s, t].length) (c := c) o0d I.fa.1.solid (by simp))) fun I => ?_
 refine zk [4] I fun I => ?_
 refine zkx 5 I (.pointer (some (at_ p (1 * 4)))) (fun _ => (k0o (m := 1) (n := [s, t].length) (c := c) o0d I.fa.1.solid (by simp))) fun I => ?_
 refine u0z I [(3, .v (.agg #[.int .i64 (x.v.cls : Int), .bool x.v.neg, .slice x.p (dig B32 x.v.d).length x.c, .int .i64 x.v.pow])), (6, .v (.agg #[.int .i64 (y.v.cls : Int), .bool y.v.neg, .slice y.p (dig B32 y.v.d).length y.c, .int .i64 y.v.pow]))] (fun Al W I => ?_) (fun KL7 => ?_)
 · refine zo 7 I fun I => ?_
   refine zge I 0 153 (fun Al W I => have hzW := I.bel.size; (HA W _ (I.box 0 153 _) I.fa.2.1 I.fa.2.2.1 (by omega) I.fa.2.2.2.1).out) fun Al V Iv _ _ kz => ?_
   rintro _ W ⟨v12, hR12, p12, c12, rfl, o12, hO, hB⟩
   refine ⟨_, rfl, kz _ (uS f n way (fl : Int)) _ hO hB fun I => ?_⟩
   have I := I.ownB base o12
   refine zo 8 I fun I => ?_
   refine zn I fun Al W I => ?_
   exact zret I fun Al W I => ⟨v12, hR12, p12, c12, rfl, I.fa.1, I.bel, I.boxE 153 _⟩
 refine u0z I [(3, .v (.agg #[.int .i64 (x.v.cls : Int), .bool x.v.neg, .slice x.p (dig B32 x.v.d).length x.c, .int .i64 x.v.pow]))] (fun Al W I => ?_) (fun KL5 => ?_)
 · refine zo 6 I fun I => ?_
   refine zx I 11 (fun _ => .agg #[.int .i64 (y.v.cls : Int), .bool y.v.neg, .slice y.p (dig B32 y.v.d).length y.c, .int .i64 y.v.pow]) (fun Al W I => (i0b (m := 1 * 4) I.fa.1 l0i y.cells rfl rfl)) fun Al W I => ?_
   exact zuse KL7 I
 refine u0z I [(6, .v (.agg #[.int .i64 (y.v.cls : Int), .bool y.v.neg, .slice y.p (dig B32 y.v.d).length y.c, .int .i64 y.v.pow]))] (fun Al W I => ?_) (fun KL6 => ?_)
 · refine zo 3 I fun I => ?_
   refine zx I 8 (fun _ => .agg #[.int .i64 (x.v.cls : Int), .bool x.v.neg, .slice x.p (dig B32 x.v.d).length x.c, .int .i64 x.v.pow]) (fun Al W I => (i0b (m := 0 * 4) I.fa.1 l0i x.cells rfl rfl)) fun Al W I => ?_
   exact zuse KL7 I
 refine zo2 3 6 I (fun I => ?_) (fun I => ?_)
 · refine zx I 8 (fun _ => .agg #[.int .i64 (x.v.cls : Int), .bool x.v.neg, .slice x.p (dig B32 x.v.d).length x.c, .int .i64 x.v.pow]) (fun Al W I => (i0b (m := 0 * 4) I.fa.1 l0i x.cells rfl rfl)) fun Al W I => ?_
   exact zuse KL5 I
 refine zx I 11 (fun _ => .agg #[.int .i64 (y.v.cls : Int), .bool y.v.neg, .slice y.p (dig B32 y.v.d).length y.c, .int .i64 y.v.pow]) (fun Al W I => (i0b (m := 1 * 4) I.fa.1 l0i y.cells rfl rfl)) fun Al W I => ?_
 exact zuse KL6 I
theorem c1t (n way : Int) (s t : ByteArray) (w : World) (hT : TabW w) : Calls Tryd.prog 19 #[.int .i64 n, .string s, .string t, .int .i64 way] w (e0w n way [s, t] ((fmt n).mulM (refD n s) (refD n t) way) w) := by
 unfold e0w
 by_cases h0 : errR n way [s, t] = 0
 · obtain ⟨hn, hL, hw⟩ := i0k h0
   have HR := fun b m W h1 h2 h3 => hi0 (z0f n way [s, t] 59 _ b m W h1 h2 (by simp) h3 (fun _ _ => by kernel_rfl) h0 (c1s n way s t hL hw) (d1w (c0d hn) (e0t hn).inf (e0t hn).inf way))
   simp only [h0, if_true]
   generalize strR n ((fmt n).mulM (refD n s) (refD n t) way).1 = str at *
   generalize ((fmt n).mulM (refD n s) (refD n t) way).2 = fl at *
   have I := Inv.start w [tabF] ⟨hT, True.intro⟩
   refine a0c [.v (.int .i64 n), .v (.string s), .v (.string t), .v (.int .i64 way)] I Tryd.func19 ?_
   refine zq I (fun Al W I => (HR _ 2 W (I.box 0 9 _) rfl I.fa.1).out) fun Al W I => ?_
   exact zrb I
 · have HR := fun b m W h1 h2 h3 => hi0 (r0n n way [s, t] 59 b m W h1 h2 (by simp) h3 h0)
   simp only [if_neg h0]
   generalize errR n way [s, t] = er at *
   have I := Inv.start w [tabF] ⟨hT, True.intro⟩
   refine a0c [.v (.int .i64 n), .v (.string s), .v (.string t), .v (.int .i64 way)] I Tryd.func19 ?_
   refine zq I (fun Al W I => (HR _ 2 W (I.box 0 9 _) rfl I.fa.1).out) fun Al W I => ?_
   exact zrb I
theorem z0k {n way : Int} {L : List ByteArray} {R : Vr × Nat} {w : World} {fn : FuncId} {args : Array Value} (h : Calls Tryd.prog fn args w (e0w n way L R w)) :
 Calls Tryd.prog fn args w fun en w' => en = .returned (.tuple #[.string (outS n way L R), .int .i64 ((outF n way L R : Nat) : Int), .int .i64 (errR n way L)]) ∧ Below w.heap.size w w' := by
 refine h.mono fun en w' hh => ⟨?_, hh.2⟩
 unfold outS outF
 have := hh.1
 by_cases h0 : errR n way L = 0
 · rw [if_pos h0] at this ⊢; rw [if_pos h0]; exact this
 · rw [if_neg h0] at this ⊢; rw [if_neg h0]; exact this
theorem c1u {n : Int} {xs : List Vp} {s : ByteArray} (h : xs.map (·.v) = [s].map (decP n)) : ∃ x, xs = [x] ∧ x.v = decP n s := by
 cases xs with
 | nil => simp at h
 | cons x l =>
  cases l with
  | nil => simp only [List.map_cons, List.map_nil, List.cons.injEq, and_true] at h; exact ⟨x, rfl, h⟩
  | cons _ _ => simp at h
theorem z0l {f : Fm} (G : b0g f) {a : Vr} (A : VrF f a) (way : Int) : ResF f (f.sqrtM a way).1 := by
 unfold Fm.sqrtM
 split
 · exact d0k G
 · split
   · exact j0b G _
   · split
     · exact d0k G
     · split
       · rename_i h; exact r0o h A
       · exact z0g G _ _
theorem z0m (n way : Int) (s : ByteArray) (h0 : errL n [s] = 0) (hw : 1 ≤ way ∧ way ≤ 5) : c1l n way [s] 72 ((fmt n).sqrtM (refD n s) way) := by
 intro xs vs p c base u w hxs hvs oS oL U hT hb
 have hs := g0e n h0 s (by simp)
 have hn := (b0x.1 hs).1
 obtain ⟨x, rfl, hx⟩ := c1u hxs
 have ox := oL x (by simp)
 have HA := fun W u h1 h2 h3 h4 => hi0 (i1u (fmt n) n way x (refD n s) base u W h1 h2 h3 (p0t hs hx) (c0d hn) hw h4)
 generalize (fmt n).sqrtM (refD n s) way = R at *
 generalize fmt n = f at *
 subst hvs
 clear oL hx hxs h0 hs hn
 obtain ⟨r, fl⟩ := R
 have I := Inv.startW w u 153 (uS f n way 0) [h0m base 29 4 p c [s].length ([x].flatMap Vp.cells), ownF base .u32 76 x.p x.c (dig B32 x.v.d), tabF] U ⟨oS, ox, hT, True.intro⟩ ⟨fun hf => oS.far U (by kernel_rfl) hf.1 hf.2, fun hf => ox.far U (by kernel_rfl) hf.1 hf.2, fun hf => hT.far U (by kernel_rfl) hf, True.intro⟩
 refine a0c [.p 0 0, .v (.slice p [s].length c)] I Tryd.func72 ?_
 refine zx I 7 (fun _ => .pointer (some (at_ p (0 * 4)))) (fun Al W I => (k0o (m := 0) (n := [s].length) (c := c) o0d I.fa.1.solid (by simp))) fun Al W I => ?_
 refine zx I 8 (fun _ => .agg #[.int .i64 (x.v.cls : Int), .bool x.v.neg, .slice x.p (dig B32 x.v.d).length x.c, .int .i64 x.v.pow]) (fun Al W I => (i0b (m := 0 * 4) I.fa.1 l0i x.cells rfl rfl)) fun Al W I => ?_
 refine zge I 0 153 (fun Al W I => have hzW := I.bel.size; (HA W _ (I.box 0 153 _) I.fa.2.1 (by omega) I.fa.2.2.1).out) fun Al V Iv _ _ kz => ?_
 rintro _ W ⟨v9, hR9, p9, c9, rfl, o9, hO, hB⟩
 refine ⟨_, rfl, kz _ (uS f n way (fl : Int)) _ hO hB fun I => ?_⟩
 have I := I.ownB base o9
 exact zret I fun Al W I => ⟨v9, hR9, p9, c9, rfl, I.fa.1, I.bel, I.boxE 153 _⟩
theorem z0n (n way : Int) (s : ByteArray) (w : World) (hT : TabW w) : Calls Tryd.prog 29 #[.int .i64 n, .string s, .int .i64 way] w (e0w n way [s] ((fmt n).sqrtM (refD n s) way) w) := by
 unfold e0w
 by_cases h0 : errR n way [s] = 0
 · obtain ⟨hn, hL, hw⟩ := i0k h0
   have HR := fun b m W h1 h2 h3 => hi0 (z0f n way [s] 72 _ b m W h1 h2 (by simp) h3 (fun _ _ => by kernel_rfl) h0 (z0m n way s hL hw) (z0l (c0d hn) (e0t hn) way))
   simp only [h0, if_true]
   generalize strR n ((fmt n).sqrtM (refD n s) way).1 = str at *
   generalize ((fmt n).sqrtM (refD n s) way).2 = fl at *
   have I := Inv.start w [tabF] ⟨hT, True.intro⟩
   refine a0c [.v (.int .i64 n), .v (.string s), .v (.int .i64 way)] I Tryd.func29 ?_
   refine zq I (fun Al W I => (HR _ 1 W (I.box 0 9 _) rfl I.fa.1).out) fun Al W I => ?_
   exact zrb I
 · have HR := fun b m W h1 h2 h3 => hi0 (r0n n way [s] 72 b m W h1 h2 (by simp) h3 h0)
   simp only [if_neg h0]
   generalize errR n way [s] = er at *
   have I := Inv.start w [tabF] ⟨hT, True.intro⟩
   refine a0c [.v (.int .i64 n), .v (.string s), .v (.int .i64 way)] I Tryd.func29 ?_
   refine zq I (fun Al W I => (HR _ 1 W (I.box 0 9 _) rfl I.fa.1).out) fun Al W I => ?_
   exact zrb I
end Go.Proofs.YtmacohmclpnphaaDoor
namespace Go.Slip
theorem z0o {g : Gd} (G : e0y g) {neg : Bool} {m : Nat} {p : Int} (hm : 0 < m) (hlt : m < 2 ^ (wid g * g.digs.toNat)) (hp : g.lo ≤ p) (hh : p ≤ g.hi)
 (h : g.grad = true ∨ le2 (2 ^ (wid g * (g.digs.toNat - 1))) (wid g * g.lo) m (wid g * p)) : a0y (bare ⟨neg, m, wid g * p⟩) g = true := by
 have wp := a0r g
 have hD : 1 ≤ g.digs.toNat := by have := G.d1; omega
 have hDD : g.digs = (g.digs.toNat : Int) := by have := G.d1; omega
 have hK := h0o hm (show 0 < 1 by omega) ((wid g : Int) * p) wp.1 hD
 have hno := hK.no
 have hyes := hK.yes
 have hle : ∀ k, d0z m 1 (wid g * p) (wid g) g.digs.toNat k → k ≤ theK m 1 (wid g * p) (wid g) g.digs.toNat := fun k h => hK.le (by omega) h
 have hwD := t0d (w := wid g) hD
 generalize theK m 1 (wid g * p) (wid g) g.digs.toNat = K at *
 have hab : ∀ x : Nat, (sg neg x).natAbs = x := fun x => by unfold sg; cases neg <;> simp
 have hKp : K ≤ p := by
  rcases Int.lt_or_le p K with q | q
  · exfalso
    have := g0k (show 0 < 1 by omega) hyes (show p + 1 ≤ K by omega)
    rw [g0a (by omega), Nat.mul_one, Int.mul_add, Int.mul_one] at this
    rw [e0r (wid g * p) (by omega) (Int.le_refl _), Int.sub_self, show ((wid g : Int) * p + wid g - wid g * p).toNat = wid g by omega, ← Nat.pow_add, ← hwD] at this
    simp at this
    omega
  · exact q
 by_cases hlo : g.lo ≤ K
 · obtain ⟨j, hj⟩ : ∃ j : Nat, p = K + j := ⟨(p - K).toNat, by omega⟩
   have e1 : (wid g : Int) * p = wid g * K + (wid g * j : Nat) := by rw [hj, Int.mul_add, Int.natCast_mul]
   have hq : qP m 1 (wid g * p - wid g * K) = m * 2 ^ (wid g * j) := by
    rw [e1, show (wid g : Int) * K + ((wid g * j : Nat) : Int) - wid g * K = ((wid g * j : Nat) : Int) by omega]
    unfold qP numP denP
    rw [show (-((wid g * j : Nat) : Int)).toNat = 0 by omega, Int.toNat_natCast, Nat.pow_zero, Nat.mul_one, Nat.div_one]
   have hlt2 := q_lt (show 0 < 1 by omega) hD hno
   unfold d0z at hyes
   rw [hq] at hyes hlt2
   rw [e1, ← c0b, ← f0k]
   exact e0q G hDD (by rw [hab]; exact hlt2) (.inr (.inl (by rw [hab]; exact hyes))) hlo (by omega)
 · have hg : g.grad = true := by
    rcases h with h | h
    · exact h
    · exfalso
      exact hlo (hle _ (by rw [g0a (by omega), Nat.mul_one]; exact h))
   obtain ⟨j, hj⟩ : ∃ j : Nat, p = g.lo + j := ⟨(p - g.lo).toNat, by omega⟩
   have e1 : (wid g : Int) * p = wid g * g.lo + (wid g * j : Nat) := by rw [hj, Int.mul_add, Int.natCast_mul]
   have hlt2 : m * 2 ^ (wid g * j) < 2 ^ (wid g * g.digs.toNat) := by
    have hf : ¬ d0z m 1 (wid g * p) (wid g) g.digs.toNat g.lo := fun q => hlo (hle _ q)
    rw [g0a (by omega), Nat.mul_one, e1, e0r (wid g * g.lo) (Int.le_refl _) (by omega), Int.sub_self, show ((wid g : Int) * g.lo + ((wid g * j : Nat) : Int) - wid g * g.lo).toNat = wid g * j by omega] at hf
    simp only [Int.toNat_zero, Nat.pow_zero, Nat.mul_one] at hf
    have : 2 ^ (wid g * (g.digs.toNat - 1)) ≤ 2 ^ (wid g * g.digs.toNat) := Nat.pow_le_pow_right (by omega) (by omega)
    omega
   rw [e1, ← c0b, ← f0k]
   exact e0q G hDD (by rw [hab]; exact hlt2) (.inr (.inr ⟨hg, rfl⟩)) (Int.le_refl _) G.le
theorem c1v {neg : Bool} {m : Nat} {e : Int} {g : Gd} {way : Int} (hm : 0 < m) (G : e0y g) (h : (a0m neg m 1 e g way).exact = true) : rv neg m 1 e g way = bare ⟨neg, m, e⟩ := by
 rw [y0u hm (by omega) G]
 unfold a0m at h
 rw [if_neg (by omega)] at h
 have hr : rP m 1 (e - wid g * powK g (theK m 1 e (wid g) g.digs.toNat)) = 0 := oTr h
 generalize powK g (theK m 1 e (wid g) g.digs.toNat) = k at *
 have hd : dUp neg m 1 e (wid g) way k = qP m 1 (e - wid g * k) := by unfold dUp upP; rw [hr]; simp
 rw [hd]
 unfold rP at hr
 have hq : qP m 1 (e - wid g * k) * denP 1 (e - wid g * k) = numP m (e - wid g * k) := by
  unfold qP
  exact Nat.div_mul_cancel (Nat.dvd_of_mod_eq_zero hr)
 generalize qP m 1 (e - wid g * k) = q at *
 unfold numP denP at hq
 rw [Nat.one_mul] at hq
 rcases Int.le_total (wid g * k) e with c | c
 · obtain ⟨n, hn⟩ : ∃ n : Nat, e = wid g * k + n := ⟨(e - wid g * k).toNat, by omega⟩
   rw [show (-(e - wid g * k)).toNat = 0 by omega, show (e - wid g * k).toNat = n by omega, Nat.pow_zero, Nat.mul_one] at hq
   rw [hq, hn, c0b]
 · obtain ⟨n, hn⟩ : ∃ n : Nat, (wid g : Int) * k = e + n := ⟨(wid g * k - e).toNat, by omega⟩
   rw [show (-(e - wid g * k)).toNat = n by omega, show (e - wid g * k).toNat = 0 by omega, Nat.pow_zero, Nat.mul_one] at hq
   rw [← hq, hn, c0b]
theorem r0t {x : Dv} (hB : Bare x) (h0 : x.m ≠ 0) (N : Nat) : d0f x x = ⟨false, x.m * x.m, x.e + x.e⟩ ∧ z0h (d0f x x) N = ⟨false, x.m, x.e⟩ := by
 have hodd : x.m % 2 = 1 := by
  rcases hB with h | h
  · exact h
  · rw [h] at h0; exact absurd rfl h0
 have hodd2 : (x.m * x.m) % 2 = 1 := by rw [Nat.mul_mod, hodd]
 have e1 : d0f x x = ⟨false, x.m * x.m, x.e + x.e⟩ := by
  have : d0f x x = bare ⟨xor x.neg x.neg, x.m * x.m, x.e + x.e⟩ := rfl
  rw [this, Bool.xor_self]
  exact f0u (.inl hodd2)
 refine ⟨e1, ?_⟩
 unfold z0h
 rw [e1]
 simp only
 have hev := m0d (x.e + x.e) N
 obtain ⟨j, hj⟩ : ∃ j, k0w (x.e + x.e) N = j + j := ⟨k0w (x.e + x.e) N / 2, by omega⟩
 rw [hj]
 have em : x.m * x.m * 2 ^ (j + j) = (x.m * 2 ^ j) * (x.m * 2 ^ j) := by rw [Nat.pow_add]; grind
 have hr : isq (x.m * x.m * 2 ^ (j + j)) = x.m * 2 ^ j := (n0q _).unique ⟨Nat.le_of_eq em.symm, by rw [em]; exact Nat.mul_lt_mul_of_lt_of_le (by omega) (by omega) (by omega)⟩
 unfold n0p
 rw [hr, if_neg (fun h => h em.symm), Nat.add_zero]
 have e2 : 2 ^ 1 * (x.m * 2 ^ j) = x.m * 2 ^ (j + 1) := by rw [Nat.pow_succ]; grind
 have e3 : (x.e + x.e - ((j + j : Nat) : Int)) / 2 - ((1 : Nat) : Int) = x.e - ((j + 1 : Nat) : Int) := by omega
 rw [e2, e3, c0b, show x.e - ((j + 1 : Nat) : Int) + ((j + 1 : Nat) : Int) = x.e by omega]
 exact f0u (.inl hodd)
end Go.Slip
namespace Go.Proofs.YtmacohmclpnphaaDoor
open Go.RowKit Go.Slip
theorem z0p {f : Fm} (G : b0g f) {x : Dv} {way : Int} (hB : Bare x) (hm : x.m ≠ 0) (h : (f.numM x way).2 = 0) : (f.numM x way).1 = ⟨2, x.neg, x⟩ := by
 have GG := b0f G.g
 have hx : bare (⟨x.neg, x.m, x.e⟩ : Dv) = x := f0u hB
 have hv := fun k => c1v (neg := x.neg) (e := x.e) (way := way) (show 0 < x.m by omega) GG k
 have hneg : (a0m x.neg x.m 1 x.e f.g way).neg = x.neg := by unfold a0m; rw [if_neg hm]; rfl
 unfold Fm.numM at *
 rw [if_neg hm] at *
 unfold rv at hv
 rw [hx] at hv
 generalize a0m x.neg x.m 1 x.e f.g way = p at *
 have hex : f.flP p = 0 → p.exact = true := fun k => by
  unfold Fm.flP at k
  cases q : p.exact
  · rw [q] at k
    split at k
    · split at k <;> simp at k
    · simp at k
  · rfl
 unfold Fm.placedM at *
 split at h
 · cases h
 · rename_i c1
   rw [if_neg c1]
   split at h
   · cases h
   · rename_i c2
     rw [if_neg c2]
     split at h
     · rename_i c3
       exfalso
       have k := hv (hex h)
       rw [c3, f0p] at k
       rw [← k] at hm
       exact hm rfl
     · rename_i c3
       rw [if_neg c3]
       show (⟨2, p.neg, bare ⟨p.neg, p.d, wid f.g * p.pow⟩⟩ : Vr) = _
       rw [hv (hex h), hneg]
theorem z0q {n : Int} {s : ByteArray} (hn : IsFm n) (hc : (refD n s).cls = 2) : ∃ (g : Bool) (m : Nat) (p : Int), (refD n s).x = bare ⟨g, m, wid (fmt n).g * p⟩ ∧ 0 < m ∧ m < 2 ^ (wid (fmt n).g * (fmt n).g.digs.toNat) ∧ (fmt n).g.lo ≤ p ∧ p ≤ (fmt n).g.hi ∧
 ((fmt n).fam ≠ 1 → (fmt n).fam = 2 ∨ 2 ^ (wid (fmt n).g * ((fmt n).g.digs.toNat - 1)) ≤ m) := by
 have G := c0d hn
 have he : (fmt n).exp (a0j (fmt n) s) < 2 ^ (fmt n).E := Nat.mod_lt _ (Nat.pow_pos (by omega))
 have hx : (fmt n).frac (a0j (fmt n) s) < 2 ^ (fmt n).F := Nat.mod_lt _ (Nat.pow_pos (by omega))
 unfold refD Fm.refN Fm.decN at *
 generalize (fmt n).neg (a0j (fmt n) s) = g at *
 generalize (fmt n).exp (a0j (fmt n) s) = e at *
 generalize (fmt n).frac (a0j (fmt n) s) = x at *
 generalize fmt n = f at *
 have hc : (f.dec g e x).c = 2 := hc
 refine ⟨g, (f.dec g e x).m, (f.dec g e x).p, ?_, ?_, ?_⟩
 · unfold Fm.vr; rw [hc, if_pos rfl]
 · have := y0l hc; omega
 · have h2 : (f.dec g e x).cls = 2 := by unfold Dc.c at hc; split at hc; omega; exact hc
   clear hc
   have w1 := G.w
   have d1 := G.d1
   have d2 := G.d2
   have k1 := G.hi1
   have k2 := G.hi2
   have k3 := G.hi3
   have hf := G.fam
   have hext := G.ext
   have gd := (b0f G.g).d1
   have f1 := G.f1
   have hE2 : (2 : Nat) ^ 7 ≤ 2 ^ f.E := Nat.pow_le_pow_right (by omega) G.e1
   have hFF : 2 ^ (f.F + 1) = 2 ^ f.F * 2 := Nat.pow_succ _ _
   have hle := (b0f G.g).le
   unfold Fm.dec at h2 ⊢
   by_cases a2 : f.fam = 2
   · rw [if_pos a2] at w1
     simp only [if_pos a2] at h2 ⊢
     have := d2 a2
     have := k2 a2
     rw [w1, show 4 * f.g.digs.toNat = f.F by omega]
     exact ⟨hx, by omega, by omega, fun _ => .inl a2⟩
   · rw [if_neg a2] at w1
     simp only [if_neg a2] at h2 ⊢
     rw [w1, Nat.one_mul, Nat.one_mul]
     by_cases a1 : f.fam = 1
     · have := k1 a1
       by_cases b1 : e = 2 ^ f.E - 1
       · simp only [if_pos (show f.fam = 1 ∧ e = 2 ^ f.E - 1 from ⟨a1, b1⟩)] at h2
         exfalso
         split at h2 <;> simp at h2
       · simp only [if_neg (fun h : f.fam = 1 ∧ e = 2 ^ f.E - 1 => b1 h.2), if_neg (fun h : f.fam = 3 ∧ e = 0 => by omega)] at h2 ⊢
         by_cases e0 : e = 0
         · simp only [if_pos e0] at h2 ⊢
           refine ⟨?_, by omega, by omega, fun h => absurd a1 h⟩
           cases hx2 : f.ext
           · have := d1 a2 hx2
             rw [show f.g.digs.toNat = f.F + 1 by omega]; omega
           · obtain ⟨_, q1, q2⟩ := hext hx2
             rw [q2, show (64 : Int).toNat = 64 from rfl, ← q1]; omega
         · simp only [if_neg e0] at h2 ⊢
           cases hx2 : f.ext
           · simp only [if_true]
             have := d1 a2 hx2
             rw [show f.g.digs.toNat = f.F + 1 by omega]
             exact ⟨by omega, by omega, by omega, fun h => absurd a1 h⟩
           · obtain ⟨_, q1, q2⟩ := hext hx2
             rw [hx2] at h2
             simp only [Bool.true_eq_false, if_false] at h2 ⊢
             by_cases c1 : x < 2 ^ 63
             · rw [if_pos c1] at h2; simp at h2
             · rw [if_neg c1, q2, show (64 : Int).toNat = 64 from rfl, ← q1]
               exact ⟨by omega, by show f.g.lo ≤ f.g.lo + e - 1; omega, by show f.g.lo + e - 1 ≤ f.g.hi; omega, fun h => absurd a1 h⟩
     · have a3 : f.fam = 3 := by omega
       have := k3 a3
       have hx2 : f.ext = false := by
        cases q : f.ext
        · rfl
        · exact absurd (hext q).1 a1
       have := d1 a2 hx2
       simp only [if_neg (fun h : f.fam = 1 ∧ e = 2 ^ f.E - 1 => a1 h.1)] at h2 ⊢
       by_cases e0 : e = 0
       · simp only [if_pos (show f.fam = 3 ∧ e = 0 from ⟨a3, e0⟩)] at h2
         exfalso
         split at h2 <;> simp at h2
       · simp only [if_neg (fun h : f.fam = 3 ∧ e = 0 => e0 h.2), if_neg e0, hx2, if_true] at h2 ⊢
         rw [show f.g.digs.toNat = f.F + 1 by omega, Nat.add_sub_cancel]
         exact ⟨by omega, by omega, by omega, fun _ => .inr (by omega)⟩
theorem g1j {n : Int} {s : ByteArray} (hn : IsFm n) (hc : (refD n s).cls = 2) {way : Int} (h : ((fmt n).numM (d0f (refD n s).x (refD n s).x) way).2 = 0) : a0y (refD n s).x (fmt n).g = true := by
 have G := c0d hn
 have GG := b0f G.g
 have F := (e0t (s := s) hn).ok
 obtain ⟨g, m, p, hx, hm, hlt, hp, hh, hfull⟩ := z0q hn hc
 have hB := F.bare
 have h0 := (F.x2 hc).1
 obtain ⟨sq, _⟩ := r0t hB h0 0
 have hgr := G.grad
 have wlo : (wid (fmt n).g : Int) * (fmt n).g.lo + (wid (fmt n).g * ((fmt n).g.digs.toNat - 1) : Nat) ≤ 0 := by
  rcases n0o hn with rfl | rfl | rfl | rfl | rfl | rfl | rfl | rfl <;> decide +kernel
 generalize refD n s = r at *
 generalize fmt n = f at *
 rw [hx]
 by_cases hg : f.g.grad = true
 · exact z0o GG hm hlt hp hh (.inl hg)
 · by_cases hl : le2 (2 ^ (wid f.g * (f.g.digs.toNat - 1))) (wid f.g * f.g.lo) m (wid f.g * p)
   · exact z0o GG hm hlt hp hh (.inr hl)
   · exfalso
     have f1 : f.fam ≠ 1 := fun k => hg (by rw [hgr]; exact dTr k)
     have hD : 1 ≤ f.g.digs.toNat := by have := GG.d1; omega
     -- what is squared is less than the least one
     have hx1 : r.x.m * 2 ^ tz m = m ∧ r.x.e = wid f.g * p + tz m := by
      rw [hx, m0u hm]
      exact ⟨by rw [Nat.mul_comm]; exact (b0t m hm).1, rfl⟩
     obtain ⟨hx1, hx2⟩ := hx1
     generalize tz m = t0 at *
     obtain ⟨T, hT⟩ : ∃ T : Int, (wid f.g : Int) * f.g.lo + (wid f.g * (f.g.digs.toNat - 1) : Nat) = T := ⟨_, rfl⟩
     rw [hT] at wlo
     generalize (wid f.g : Int) * p = P at *
     have hfl : ¬ d0z (r.x.m * r.x.m) 1 (r.x.e + r.x.e) (wid f.g) f.g.digs.toNat f.g.lo := by
      rw [g0a (by omega), Nat.mul_one]
      generalize (wid f.g : Int) * f.g.lo = WL at *
      generalize wid f.g * (f.g.digs.toNat - 1) = d at *
      rw [e0r (min WL P) (by omega) (by omega), ← Nat.pow_add] at hl
      have hm2 : m * 2 ^ (P - min WL P).toNat < 2 ^ (d + (WL - min WL P).toNat) := by omega
      rw [← hx1, Nat.mul_assoc, ← Nat.pow_add] at hm2
      have hxm : 1 ≤ r.x.m := by omega
      have hu0 : t0 + (P - min WL P).toNat < d + (WL - min WL P).toNat := by
       rcases Nat.lt_or_ge (t0 + (P - min WL P).toNat) (d + (WL - min WL P).toNat) with q | q
       · exact q
       · exfalso
         have a := Nat.pow_le_pow_right (show 0 < 2 by omega) q
         have b := Nat.mul_le_mul_right (2 ^ (t0 + (P - min WL P).toNat)) hxm
         omega
      obtain ⟨u, hu⟩ : ∃ u, d + (WL - min WL P).toNat = u + (t0 + (P - min WL P).toNat) := ⟨_, (Nat.sub_add_cancel (Nat.le_of_lt hu0)).symm⟩
      rw [hu, Nat.pow_add 2 u] at hm2
      have hxu : r.x.m < 2 ^ u := Nat.lt_of_mul_lt_mul_right hm2
      have hxe : r.x.e = T - u := by omega
      have hsq : r.x.m * r.x.m < 2 ^ (u + u) := by rw [Nat.pow_add]; exact Nat.mul_lt_mul'' hxu hxu
      rw [e0r (min WL (r.x.e + r.x.e)) (by omega) (by omega), ← Nat.pow_add]
      intro q
      have a := Nat.mul_lt_mul_of_pos_right hsq (Nat.pow_pos (n := (r.x.e + r.x.e - min WL (r.x.e + r.x.e)).toNat) (show 0 < 2 by omega))
      rw [← Nat.pow_add] at a
      have b := Nat.pow_le_pow_right (show 0 < 2 by omega) (show u + u + (r.x.e + r.x.e - min WL (r.x.e + r.x.e)).toNat ≤ d + (WL - min WL (r.x.e + r.x.e)).toNat by omega)
      omega
     have hmm : 0 < r.x.m * r.x.m := Nat.mul_pos (by omega) (by omega)
     have hK := h0o hmm (show 0 < 1 by omega) (r.x.e + r.x.e) (a0r f.g).1 hD
     rw [sq] at h
     unfold Fm.numM at h
     rw [if_neg (by show ¬ r.x.m * r.x.m = 0; omega)] at h
     have hu : (a0m false (r.x.m * r.x.m) 1 (r.x.e + r.x.e) f.g way).under = true := by
      unfold a0m
      rw [if_neg (by omega)]
      show decide (theK _ _ _ _ _ < f.g.lo) = true
      refine decide_eq_true ?_
      rcases Int.lt_or_le (theK (r.x.m * r.x.m) 1 (r.x.e + r.x.e) (wid f.g) f.g.digs.toNat) f.g.lo with q | q
      · exact q
      · exact absurd (g0k (by omega) hK.yes q) hfl
     simp only at h
     generalize a0m false (r.x.m * r.x.m) 1 (r.x.e + r.x.e) f.g way = P2 at *
     unfold Fm.placedM Fm.flP at h
     rw [hu, if_pos (show true = true from rfl), if_neg f1] at h
     split at h
     · cases h
     · split at h
       · cases h
       · split at h <;> cases h
theorem z0r {n : Int} {s : ByteArray} (hn : IsFm n) (hc : (refD n s).cls = 2) {way : Int} (h : ((fmt n).mulM (refD n s) (refD n s) way).2 = 0) :
 (fmt n).sqrtM ((fmt n).mulM (refD n s) (refD n s) way).1 way = (⟨2, false, ⟨false, (refD n s).x.m, (refD n s).x.e⟩⟩, 0) := by
 have G := c0d hn
 have F := (e0t (s := s) hn).ok
 have hmul : (fmt n).mulM (refD n s) (refD n s) way = (fmt n).numM (d0f (refD n s).x (refD n s).x) way := by
  unfold Fm.mulM; rw [if_neg (by omega), if_neg (by omega), if_neg (by omega)]
 rw [hmul] at h ⊢
 have hin := g1j hn hc h
 have hB := F.bare
 have h0 := (F.x2 hc).1
 generalize refD n s = r at *
 generalize fmt n = f at *
 obtain ⟨sq, _⟩ := r0t hB h0 0
 have hs0 : (d0f r.x r.x).m ≠ 0 := by rw [sq]; have := Nat.mul_pos (show 0 < r.x.m by omega) (show 0 < r.x.m by omega); show r.x.m * r.x.m ≠ 0; omega
 have hsB : Bare (d0f r.x r.x) := f0t _
 rw [z0p G hsB hs0 h, sq]
 unfold Fm.sqrtM
 rw [if_neg (by show ¬ 4 ≤ 2; omega), if_neg (by show ¬ 2 = 1; omega), if_neg (by simp), if_neg (by show ¬ 2 = 3; omega)]
 simp only
 rw [← sq, (r0t hB h0 _).2]
 have hb2 : Bare (⟨false, r.x.m, r.x.e⟩ : Dv) := by
  rcases hB with k | k
  · exact .inl k
  · rw [k] at h0; exact absurd rfl h0
 exact c1m G hb2 h0 hin
end Go.Proofs.YtmacohmclpnphaaDoor
namespace Go.Slip
open Go.RowKit
end Go.Slip
namespace Go.Proofs.YtmacohmclpnphaaDoor
open Go.RowKit Go.Slip
structure Wp where
 r : Vr
 p : Option Addr
 c : Nat
def Wp.cells (x : Wp) : List Value := [.int .i64 (x.r.cls : Int), .bool x.r.neg, .bool x.r.x.neg, .slice x.p (dig B16 x.r.x.m).length x.c, .int .i64 x.r.x.e]
theorem Wp.len (x : Wp) : x.cells.length = 5 := rfl
structure TnD (a : Dv) : Prop where
 len : (dig B32 a.m).length ≤ 40
 lo : -38000 ≤ a.e
 hi : a.e ≤ 38000
theorem VrOk.tn {r : Vr} (R : VrOk r) : TnD r.x := ⟨by have := R.len; omega, by have := R.lo; omega, by have := R.hi; omega⟩
theorem TnD.sm {a : Dv} (h : TnD a) : SmD a := ⟨by have := h.len; omega, by have := h.lo; omega, by have := h.hi; omega⟩
theorem r0u {m k : Nat} (h1 : 2 ^ k ≤ m) (h2 : m < 2 ^ (k + 1)) : blen m = k + 1 := by
 have a := (a0w m (k + 1)).2 h2
 have b : ¬ blen m ≤ k := fun h => by have := (a0w m k).1 h; omega
 omega
def oneS : ByteArray := b0e [63, 128, 0, 0]
def twoS : ByteArray := b0e [64, 0, 0, 0]
theorem g1k : a0j (fmt 1) oneS = 1065353216 := by
 unfold a0j oneS
 rw [i0i (by decide)]
 decide +kernel
theorem g1l : a0s 1 oneS = 0 := b0x.2 ⟨by decide, by unfold oneS; rw [l0r]; rfl⟩
theorem g1m : refD 1 oneS = ⟨2, false, ⟨false, 1, 0⟩⟩ := by
 unfold refD
 rw [g1k]
 have hd : (fmt 1).decN 1065353216 = ⟨2, 8388608, -23⟩ := by kernel_rfl
 have hg : (fmt 1).neg 1065353216 = false := by decide +kernel
 unfold Fm.refN Fm.vr
 rw [hd, hg]
 have ht : tz 8388608 = 23 := j0w 1 23 rfl
 have hw : wid (fmt 1).g = 1 := by decide
 unfold Dc.c bare
 simp [ht, hw]
theorem g1n : g0q ⟨false, 1, 0⟩ ⟨false, 1, 0⟩ = ⟨false, 1, 1⟩ := by
 rw [i0t _ _ (e := 0) (by decide) (by decide)]
 have hz : zOf ⟨false, 1, 0⟩ 0 + zOf ⟨false, 1, 0⟩ 0 = 2 := by decide
 rw [hz]
 have ht : tz 2 = 1 := j0w 1 1 rfl
 unfold norm ofZ bare
 simp [ht]
theorem g1o : (fmt 1).addM ⟨2, false, ⟨false, 1, 0⟩⟩ ⟨2, false, ⟨false, 1, 0⟩⟩ 1 = (⟨2, false, ⟨false, 1, 1⟩⟩, 0) := by
 have hK : theK 1 1 1 1 24 = -22 := by
  have h := n0l (m := 1) (by decide) 1 (w := 1) (D := 24) (by decide) (by decide)
  rw [show blen 1 = 1 from r0u (k := 0) (by decide) (by decide)] at h
  exact x0i (by decide) (by decide) (by decide) (by decide) h
 have hR : a0m false 1 1 1 (fmt 1).g 1 = ⟨false, 8388608, -22, true, false, false⟩ := by
  unfold a0m
  rw [if_neg (by decide), show wid (fmt 1).g = 1 from rfl, show (fmt 1).g.digs.toNat = 24 from rfl, hK]
  kernel_rfl
 have ht : tz 8388608 = 23 := j0w 1 23 rfl
 unfold Fm.addM
 rw [if_neg (by decide), if_neg (by decide)]
 unfold Fm.sumM
 rw [g1n, if_pos (by decide)]
 unfold Fm.numM
 rw [if_neg (by decide), hR]
 unfold Fm.placedM Fm.flP bare
 have hw : wid (fmt 1).g = 1 := by decide
 simp [ht, hw]
theorem g1p : strR 1 ⟨2, false, ⟨false, 1, 1⟩⟩ = twoS := by
 have hb : blen 1 = 1 := r0u (k := 0) (by decide) (by decide)
 have h24 : blen 8388608 = 24 := r0u (k := 23) (by decide) (by decide)
 have hs : stepK ⟨false, 1, 1⟩ (fmt 1).g = -22 := by
  unfold stepK upK topD
  simp only [hb]
  decide
 have hf : (fmt 1).fr ⟨false, 1, 1⟩ = 8388608 := by
  unfold Fm.fr
  rw [hs]
  decide
 have hn : (fmt 1).numP ⟨false, 1, 1⟩ = ⟨false, 128, 0⟩ := by
  unfold Fm.numP
  rw [hf, hs, h24]
  kernel_rfl
 have he : (fmt 1).encP 2 false ⟨false, 1, 1⟩ = ⟨false, 128, 0⟩ := hn
 have h2 : (fmt 1).strP ⟨false, 128, 0⟩ = [64, 0, 0, 0] := by decide +kernel
 unfold strR twoS
 simp only
 rw [he, h2]
theorem c1w : errR 1 1 [oneS, oneS] = 0 := by
 unfold errR errL errL errL
 rw [g1l]
 decide
theorem l0o (w : World) (hT : TabW w) : Calls Tryd.prog 17 #[] w fun en w' => en = .returned (.bool true) ∧ Below w.heap.size w w' := by
 have HA : ∀ W, TabW W → Hid (Calls Tryd.prog 18 #[.int .i64 1, .string oneS, .string oneS, .int .i64 1] W fun en w' => en = .returned (.tuple #[.string twoS, .int .i64 0, .int .i64 0]) ∧ Below W.heap.size W w') := by
  intro W h
  have := c1r 1 1 oneS oneS W h
  unfold e0w at this
  rw [c1w, g1m, g1o] at this
  simp only [g1p, if_true] at this
  exact hi0 this
 refine calls_of_wp Tryd.func17 rfl ?_
 refine b0b (a' := ⟨(us 26 []).toArray, []⟩) (by kernel_rfl) ?_
 refine yq ?_
 refine ye ?_
 refine ywv 0 rfl 5 (.slice (some ⟨w.heap.size, 0, none⟩) 4 4) #[.int .u8 63, .int .u8 128, .int .u8 0, .int .u8 0] 5 (fun V1 hbV1 hzV1 b5 => ?_)
 refine yv 0 rfl 6 (.string oneS) ?_ (j0p (p := some ⟨w.heap.size, 0, none⟩) (n := 4) (c := 4) (xs := [63, 128, 0, 0]) p0h x0x uStr (y0r b5) rfl (by kernel_rfl))
 refine yzt 1 ?_
 refine ye ?_
 replace hT := (hT.past hbV1)
 refine yc 2 rfl 10 ((HA V1 hT).out) (fun Gx hGx => ?_)
 rintro eV2 V2 ⟨rfl, hbV2⟩
 have hzV2 := hbV2.size
 refine ⟨_, rfl, hGx _ _ ?_⟩
 clear hGx Gx
 refine yzt 7 ?_
 refine ye ?_
 refine ywv 8 rfl 22 (.slice (some ⟨V2.heap.size, 0, none⟩) 4 4) #[.int .u8 64, .int .u8 0, .int .u8 0, .int .u8 0] 5 (fun V3 hbV3 hzV3 b22 => ?_)
 refine yv 0 rfl 23 (.string twoS) ?_ (j0p (p := some ⟨V2.heap.size, 0, none⟩) (n := 4) (c := 4) (xs := [64, 0, 0, 0]) p0h x0x uStr (y0r b22) rfl (by kernel_rfl))
 refine yv 0 rfl 24 (.bool true) ?_ (c1c (s := twoS) (by kernel_rfl) (by kernel_rfl))
 refine yzt 2 ?_
 refine wp_ret ?_
 repeat (first | with_reducible refine a0t ?_ | with_reducible refine a0q ?_)
 refine yret (.bool true) (res1 Tryd.results17 rvt) ?_
 exact ⟨rfl, (a0d (a0d hbV1 hbV2) hbV3)⟩
theorem c1x {n : Int} {s : ByteArray} (h : a0s n s ≠ 0) : (decP n s).cls = 0 := by unfold decP; rw [if_neg h]; rfl
theorem c1y {n : Int} {s : ByteArray} (h : a0s n s = 0) : (decP n s).cls = (refD n s).cls := (t0h h).cls
theorem z0s (n : Int) (s : ByteArray) (w : World) (hT : TabW w) : Calls Tryd.prog 22 #[.int .i64 n, .string s] w fun en w' => en = .returned (.int .i64 (((decP n s).cls : Nat) : Int)) ∧ Below w.heap.size w w' := by
 have HC := fun W h => hi0 (y0i n s W h)
 have hb := fun h => c1x (n := n) (s := s) h
 generalize (if a0s n s = 0 then (fmt n).neg (a0j (fmt n) s) else false) = g at *
 generalize a0s n s = er at *
 generalize (decP n s).cls = c at *
 have I := Inv.start w [tabF] ⟨hT, True.intro⟩
 refine a0c [.v (.int .i64 n), .v (.string s)] I Tryd.func22 ?_
 refine zq I (fun Al W I => (HC W I.fa.1).out) fun Al W I => ?_
 rcases Bool.eq_false_or_eq_true (er != 0) with f16 | f16
 · refine zb I 16 (er != 0) (true) (f16) fun Al W I => ?_
   exact zret I (v := fun Al => .int .i64 0) fun Al W I => ⟨by rw [hb (bne_iff_ne.1 f16)]; rfl, I.below⟩
 refine zb I 16 (er != 0) (false) (f16) fun Al W I => ?_
 exact zrb I
end Go.Proofs.YtmacohmclpnphaaDoor
namespace Go.Slip
def RepG (g : Gd) (z : Nat) (k : Int) : Prop := 0 < z ∧ z < 2 ^ (wid g * g.digs.toNat) ∧ (g.lo < k ∨ g.grad = false → 2 ^ (wid g * (g.digs.toNat - 1)) ≤ z) ∧ g.lo ≤ k
theorem RepG.stepK {g : Gd} (G : e0y g) {z : Nat} {k : Int} (h : RepG g z k) {s : Int} (hs : s.natAbs = z) : stepK (norm s (wid g * k)) g = k := by
 obtain ⟨h1, h2, h3, h4⟩ := h
 refine c1f G (by omega) (by omega) h4 ?_
 rcases Int.lt_or_le g.lo k with h | h
 · left; rw [hs]; exact h3 (.inl h)
 · right; omega
end Go.Slip
namespace Go.Proofs.YtmacohmclpnphaaDoor
open Go.RowKit Go.Slip
theorem t0l {n : Int} {s : ByteArray} (h : a0s n s = 0) : decP n s = (fmt n).toV (refD n s) := by
 unfold decP refD
 rw [if_pos h, (y0s (c0d (b0x.1 h).1) s).same]
theorem j0j (n : Int) (s : ByteArray) (way : Int) (w : World) (hT : TabW w) : Calls Tryd.prog 8 #[.int .i64 n, .string s, .int .i64 way] w fun en w' => en = .returned (.bool true) ∧ Below w.heap.size w w' := by
 have HB0 := fun W h => hi0 (l0o W h)
 have HM := fun W h => hi0 (z0k (c1t n way s s W h))
 have HC := fun W h => hi0 (z0s n s W h)
 by_cases hq : errR n way [s, s] = 0 ∧ outF n way [s, s] ((fmt n).mulM (refD n s) (refD n s) way) = 0 ∧ (decP n s).cls = 2
 · obtain ⟨h0, hf, hc⟩ := hq
   obtain ⟨hn, hL, hw⟩ := i0k h0
   obtain ⟨hp, _, _⟩ := r0s hL
   have F := e0t (s := s) hn
   have G := c0d hn
   have hc2 : (refD n s).cls = 2 := by rw [← c1y hp]; exact hc
   have hf2 : ((fmt n).mulM (refD n s) (refD n s) way).2 = 0 := by unfold outF at hf; rwa [if_pos h0] at hf
   have e1 : outS n way [s, s] ((fmt n).mulM (refD n s) (refD n s) way) = strR n ((fmt n).mulM (refD n s) (refD n s) way).1 := by unfold outS; rw [if_pos h0]
   rw [e1, hf, h0] at HM
   obtain ⟨m1, m2⟩ := t0i hn (d1w G F.inf F.inf way)
   have HQ := fun W h => hi0 (z0k (z0n n way (strR n ((fmt n).mulM (refD n s) (refD n s) way).1) W h))
   have q0 : errR n way [strR n ((fmt n).mulM (refD n s) (refD n s) way).1] = 0 := by
    unfold errR
    have : errL n [strR n ((fmt n).mulM (refD n s) (refD n s) way).1] = 0 := by unfold errL errL; simp [m1]
    rw [if_pos hn, if_pos this, if_pos hw]
   rw [m2, z0r hn hc2 hf2, q0] at HQ
   unfold outS outF at HQ
   rw [if_pos q0, if_pos q0] at HQ
   simp only at HQ
   have hRes : ResF (fmt n) ⟨2, false, ⟨false, (refD n s).x.m, (refD n s).x.e⟩⟩ := by
    have := z0l G ⟨(e0t (s := strR n ((fmt n).mulM (refD n s) (refD n s) way).1) hn).ok, (e0t (s := strR n ((fmt n).mulM (refD n s) (refD n s) way).1) hn).inf⟩ way
    rw [m2, z0r hn hc2 hf2] at this
    exact this
   obtain ⟨r1, r2⟩ := t0i hn hRes
   have HD1 := fun W h => hi0 (g0l n s W h)
   have HD2 := fun W h => hi0 (g0l n (strR n ⟨2, false, ⟨false, (refD n s).x.m, (refD n s).x.e⟩⟩) W h)
   rw [hp] at HD1
   rw [r1] at HD2
   have hw2 : decP n (strR n ⟨2, false, ⟨false, (refD n s).x.m, (refD n s).x.e⟩⟩) = ⟨(decP n s).cls, false, (decP n s).d, (decP n s).pow⟩ := by
    rw [t0l r1, r2, t0l hp]
    unfold Fm.toV
    rw [hc2]
    rfl
   rw [hw2] at HD2
   have hl : (dig B32 (decP n s).d).length ≤ 1000 := by unfold decP; rw [if_pos hp]; exact (y0s G s).vlen
   have HV := fun W p q c d b1 b2 h1 h2 => hi0 (j0i ⟨(decP n s).cls, false, (decP n s).d, (decP n s).pow⟩ p q c d b1 b2 W h1 h2 (by show (dig B32 (decP n s).d).length ≤ _; omega))
   simp only at HD2 HV
   generalize strR n ⟨2, false, ⟨false, (refD n s).x.m, (refD n s).x.e⟩⟩ = sr at *
   generalize strR n ((fmt n).mulM (refD n s) (refD n s) way).1 = sm at *
   generalize decP n s = v at *
   clear hw2 r1 r2 hRes q0 m1 m2 e1 hf2 hc2 h0 hf
   have I := Inv.start w [tabF] ⟨hT, True.intro⟩
   refine a0c [.v (.int .i64 n), .v (.string s), .v (.int .i64 way)] I Tryd.func8 ?_
   refine zq I (fun Al W I => (HB0 W I.fa.1).out) fun Al W I => ?_
   refine zq I (fun Al W I => (HM W I.fa.1).out) fun Al W I => ?_
   refine zb I 31 (((0 : Nat) : Int) != 0) (false) (rfl) fun Al W I => ?_
   refine zq I (fun Al W I => (HC W I.fa.1).out) fun Al W I => ?_
   refine zb I 37 ((v.cls : Int) != 2) (false) (bne_eq_false_iff_eq.2 (by omega)) fun Al W I => ?_
   refine zq I (fun Al W I => (HQ W I.fa.1).out) fun Al W I => ?_
   refine zqo I (fun Al W I => (HD1 W I.fa.1).out) fun Al W p50 c50 I => ?_
   refine zqo I (fun Al W I => (HD2 W I.fa.2.1).out) fun Al W p56 c56 I => ?_
   refine zb I 72 (((0 : Nat) : Int) == 0) (true) (rfl) fun Al W I => ?_
   refine zq I (fun Al W I => (HV W p50 p56 c50 c56 _ _ I.fa.2.1 I.fa.1).out) fun Al W I => ?_
   exact zrb I
 · generalize outF n way [s, s] ((fmt n).mulM (refD n s) (refD n s) way) = fl at *
   generalize outS n way [s, s] ((fmt n).mulM (refD n s) (refD n s) way) = sm at *
   generalize errR n way [s, s] = er at *
   generalize decP n s = v at *
   have I := Inv.start w [tabF] ⟨hT, True.intro⟩
   refine a0c [.v (.int .i64 n), .v (.string s), .v (.int .i64 way)] I Tryd.func8 ?_
   refine zq I (fun Al W I => (HB0 W I.fa.1).out) fun Al W I => ?_
   refine zq I (fun Al W I => (HM W I.fa.1).out) fun Al W I => ?_
   rcases Bool.eq_false_or_eq_true (er != 0) with f28 | f28
   · refine zb I 28 (er != 0) (true) (f28) fun Al W I => ?_
     exact zrb I
   refine zb I 28 (er != 0) (false) (f28) fun Al W I => ?_
   rcases Bool.eq_false_or_eq_true ((fl : Int) != 0) with f31 | f31
   · refine zb I 31 ((fl : Int) != 0) (true) (f31) fun Al W I => ?_
     exact zrb I
   refine zb I 31 ((fl : Int) != 0) (false) (f31) fun Al W I => ?_
   refine zq I (fun Al W I => (HC W I.fa.1).out) fun Al W I => ?_
   refine zb I 37 ((v.cls : Int) != 2) (true) (bne_iff_ne.2 (fun h => by have h1 := bne_eq_false_iff_eq.1 f28; have h2 := bne_eq_false_iff_eq.1 f31; omega)) fun Al W I => ?_
   exact zrb I
end Go.Proofs.YtmacohmclpnphaaDoor
