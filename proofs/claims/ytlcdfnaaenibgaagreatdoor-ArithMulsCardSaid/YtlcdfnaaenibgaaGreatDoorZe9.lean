/- The references' off, sumOf, AddOf, MulOf, DivOf, FusedOf, CompareOf.
   A walk that reckons: where orders come together. No program is in sight here.
   arith: Add, Mul, Div.
   The references' AddOf, MulOf, PoleOf, DivOf, FusedOf, CompareOf.
   The laws' opened.
   What must be in any case: 1 and 1 are 2.
   The laws ArithAdds, ArithMuls, ArithDivs: their walks. -/
import Derived.Carry
import Derived.Test.YtlcdfnaaenibgaaGreatDoorZe1
import Derived.Test.YtlcdfnaaenibgaaGreatDoorZe2
import Derived.Test.YtlcdfnaaenibgaaGreatDoorZe3
import Derived.Test.YtlcdfnaaenibgaaGreatDoorZe4
import Derived.Test.YtlcdfnaaenibgaaGreatDoorZe5
import Derived.Test.YtlcdfnaaenibgaaGreatDoorZe6
import Derived.Test.YtlcdfnaaenibgaaGreatDoorZe7
import Derived.Test.YtlcdfnaaenibgaaGreatDoorZe8
set_option maxHeartbeats 8000000
set_option maxRecDepth 100000
namespace Go.Proofs.YtlcdfnaaenibgaaGreatDoor
open Go.RowKit Go.Slip

theorem c1u (n : Int) (xs : List Wp) (b m : Nat) (w : World) (hn : IsFm n) (hB : Bt w b 32 (xs.flatMap Wp.cells).toArray) (hm : m = xs.length) (hl : xs.length ≤ 1000) (hno : ∀ x ∈ xs, x.r.cls < 4) :
 Calls Tryz.prog 37 #[.int .i64 n, .slice (some ⟨b, 0, none⟩) m m] w fun en w' => en = .returned (.tuple #[.agg #[.int .i64 0, .bool false, .bool false, .slice none 0 0, .int .i64 0], .int .i64 0, .bool false]) ∧ Below w.heap.size w w' := by
 subst hm
 have HF := fun W => Lib.hid (b0f n W)
 rw [decide_eq_true hn] at HF
 have HX : ∀ i, i < xs.length → ∃ x : Wp, xs[i]? = some x ∧ x.r.cls < 4 := fun i h => ⟨xs[i], List.getElem?_eq_getElem h, hno _ (List.getElem_mem h)⟩
 generalize fmt n = f at *
 have I := Inv.start w [btF b 32 (xs.flatMap Wp.cells).toArray] ⟨hB, True.intro⟩
 refine a0c [.v (.int .i64 n), .v (.slice (some ⟨b, 0, none⟩) xs.length xs.length)] I Tryz.func37 ?_
 refine zg I (fun Al W I => (HF W).out) fun Al V Iv hzV hB Kz kz => ?_
 rintro _ W ⟨rfl, hb⟩
 refine ⟨_, rfl, kz _ _ hb fun I => ?_⟩
 refine o0l I (fun gk fr bx gs => ∃ (U900 : Nat → Value) (i : Nat), fr = (.v (.int .i64 n) :: .v (.slice (some ⟨b, 0, none⟩) xs.length xs.length) :: su 2 (.p 0 0 :: sw U900 5 2 (.p 1 0 :: .v (U900 8) :: .v (.int .i64 (i : Int)) :: sw U900 10 25 [])) : List SV) ∧ bx = [⟨32, [.v (.int .i64 0), .v (.bool false), .v (.bool false), .v (.slice none 0 0), .v (.int .i64 0)], false⟩, ⟨55, [.v (.int .i64 (f.size : Int)), .v (.int .i64 (f.E : Int)), .v (.int .i64 (f.F : Int)), .v (.int .i64 f.g.rad), .v (.int .i64 f.g.digs), .v (.int .i64 f.g.lo), .v (.int .i64 f.g.hi), .v (.bool f.g.grad), .v (.int .i64 (f.fam : Int))], false⟩] ∧ gs = [btF b 32 (xs.flatMap Wp.cells).toArray] ∧ (gk + i = xs.length)) xs.length (fun Al W U I => ⟨_, ⟨U, 0, rfl, rfl, rfl, (by omega)⟩, I.pick [0]⟩) ?_
 rintro J gk0 _ _ _ ⟨U900, i, rfl, rfl, rfl, hgk⟩ hJ Al W I
 rcases Bool.eq_false_or_eq_true (decide ((i : Int) < (xs.length : Int))) with f18 | f18
 · refine zb I 18 (decide ((i : Int) < (xs.length : Int))) (true) (f18) fun Al W I => ?_
   obtain ⟨x, hx, hx4⟩ := HX i (by have := oTr f18; omega)
   refine zx I 23 (fun _ => .pointer (some (at_ (some ⟨b, 0, none⟩) (i * 5)))) (fun Al W I => (d0c (m := i) (n := xs.length) (c := xs.length) tvV (fun _ => ⟨rfl, rfl⟩) (by have := oTr f18; omega))) fun Al W I => ?_
   refine zx I 25 (fun _ => .int .i64 (x.r.cls : Int)) (fun Al W I => (i0b (m := i * 5) I.fa.1 m1m _ (w0p (j := 0) Wp.len hx rfl))) fun Al W I => ?_
   refine zb I 26 (decide ((x.r.cls : Int) ≥ 4)) (false) (dFa (by omega)) fun Al W I => ?_
   refine zi I 20 .i64 ((i : Int) + 1) (((i + 1 : Nat) : Int)) ((by rw [show ((i : Int) + 1) = ((i + 1 : Nat) : Int) by omega]; exact IntWalk.i64_in _ (by have := oTr f18; omega))) fun Al W I => ?_
   exact b0j I J fun Al W U I => hJ (gk0 - 1) _ _ _ _ _ ((by have := oTr f18; omega)) ⟨U, i + 1, rfl, rfl, rfl, (by have := oTr f18; omega)⟩ (I.pick [0])
 refine zb I 18 (decide ((i : Int) < (xs.length : Int))) (false) (f18) fun Al W I => ?_
 exact zret I fun Al W I => ⟨rfl, I.below⟩

theorem y0n (n : Int) (xs : List Wp) (b m : Nat) (w : World) (hn : IsFm n) (hB : Bt w b 32 (xs.flatMap Wp.cells).toArray) (hm : m = xs.length) (hl : xs.length ≤ 1000) (hyes : ∃ x ∈ xs, 4 ≤ x.r.cls) :
 Calls Tryz.prog 37 #[.int .i64 n, .slice (some ⟨b, 0, none⟩) m m] w fun en w' => en = .returned (.tuple #[.agg #[.int .i64 (((fmt n).nothM.cls : Nat) : Int), .bool false, .bool false, .slice none 0 0, .int .i64 0], .int .i64 (((fmt n).offM.2 : Nat) : Int), .bool true]) ∧ Below w.heap.size w w' := by
 subst hm
 have HF := fun W => Lib.hid (b0f n W)
 rw [decide_eq_true hn] at HF
 have HX : ∀ i, i < xs.length → ∃ x : Wp, xs[i]? = some x := fun i h => ⟨xs[i], List.getElem?_eq_getElem h⟩
 obtain ⟨y, hy, hy4⟩ := hyes
 obtain ⟨j, hj, hjy⟩ := List.getElem_of_mem hy
 have hYJ : xs[j]? = some y := by rw [List.getElem?_eq_getElem hj, hjy]
 clear hjy hy
 have HN := fun W => Lib.hid (f0z n W hn)
 generalize (fmt n).nothM.cls = kN at *
 have e2 : (fmt n).fam = 3 → (((fmt n).offM.2 : Nat) : Int) = 16 := fun h => by unfold Fm.offM; rw [if_pos h]; rfl
 have e3 : (fmt n).fam ≠ 3 → (((fmt n).offM.2 : Nat) : Int) = 0 := fun h => by unfold Fm.offM; rw [if_neg h]; rfl
 generalize (((fmt n).offM.2 : Nat) : Int) = fl at *
 generalize fmt n = f at *
 have I := Inv.start w [btF b 32 (xs.flatMap Wp.cells).toArray] ⟨hB, True.intro⟩
 refine a0c [.v (.int .i64 n), .v (.slice (some ⟨b, 0, none⟩) xs.length xs.length)] I Tryz.func37 ?_
 refine zg I (fun Al W I => (HF W).out) fun Al V Iv hzV hB Kz kz => ?_
 rintro _ W ⟨rfl, hb⟩
 refine ⟨_, rfl, kz _ _ hb fun I => ?_⟩
 refine o0l I (fun gk fr bx gs => ∃ (U900 : Nat → Value) (i : Nat), fr = (.v (.int .i64 n) :: .v (.slice (some ⟨b, 0, none⟩) xs.length xs.length) :: su 2 (.p 0 0 :: sw U900 5 2 (.p 1 0 :: .v (U900 8) :: .v (.int .i64 (i : Int)) :: sw U900 10 25 [])) : List SV) ∧ bx = [⟨32, [.v (.int .i64 0), .v (.bool false), .v (.bool false), .v (.slice none 0 0), .v (.int .i64 0)], false⟩, ⟨55, [.v (.int .i64 (f.size : Int)), .v (.int .i64 (f.E : Int)), .v (.int .i64 (f.F : Int)), .v (.int .i64 f.g.rad), .v (.int .i64 f.g.digs), .v (.int .i64 f.g.lo), .v (.int .i64 f.g.hi), .v (.bool f.g.grad), .v (.int .i64 (f.fam : Int))], false⟩] ∧ gs = [btF b 32 (xs.flatMap Wp.cells).toArray] ∧ (gk + i = xs.length) ∧ (∀ (j : Nat) (x : Wp), j < i → xs[j]? = some x → x.r.cls < 4)) xs.length (fun Al W U I => ⟨_, ⟨U, 0, rfl, rfl, rfl, (by omega), (fun _ _ h => absurd h (by omega))⟩, I.pick [0]⟩) ?_
 rintro J gk0 _ _ _ ⟨U900, i, rfl, rfl, rfl, hgk, hlt⟩ hJ Al W I
 rcases Bool.eq_false_or_eq_true (decide ((i : Int) < (xs.length : Int))) with f18 | f18
 · refine zb I 18 (decide ((i : Int) < (xs.length : Int))) (true) (f18) fun Al W I => ?_
   obtain ⟨x, hx⟩ := HX i (by have := oTr f18; omega)
   refine zx I 23 (fun _ => .pointer (some (at_ (some ⟨b, 0, none⟩) (i * 5)))) (fun Al W I => (d0c (m := i) (n := xs.length) (c := xs.length) tvV (fun _ => ⟨rfl, rfl⟩) (by have := oTr f18; omega))) fun Al W I => ?_
   refine zx I 25 (fun _ => .int .i64 (x.r.cls : Int)) (fun Al W I => (i0b (m := i * 5) I.fa.1 m1m _ (w0p (j := 0) Wp.len hx rfl))) fun Al W I => ?_
   rcases Bool.eq_false_or_eq_true (decide ((x.r.cls : Int) ≥ 4)) with f26 | f26
   · refine zb I 26 (decide ((x.r.cls : Int) ≥ 4)) (true) (f26) fun Al W I => ?_
     by_cases hf3 : f.fam = 3
     · refine zb I 29 ((f.fam : Int) == 3) (true) (beq_iff_eq.2 (by omega)) fun Al W I => ?_
       refine zg I (fun Al W I => (HN W).out) fun Al V Iv hzV hB Kz kz => ?_
       rintro _ W ⟨rfl, hb⟩
       refine ⟨_, rfl, kz _ _ hb fun I => ?_⟩
       exact zret I (v := fun Al => .tuple #[.agg #[.int .i64 (kN : Int), .bool false, .bool false, .slice none 0 0, .int .i64 0], .int .i64 16, .bool true]) fun Al W I => ⟨by rw [e2 hf3], I.below⟩
     refine zb I 29 ((f.fam : Int) == 3) (false) (bFn (by omega)) fun Al W I => ?_
     refine zg I (fun Al W I => (HN W).out) fun Al V Iv hzV hB Kz kz => ?_
     rintro _ W ⟨rfl, hb⟩
     refine ⟨_, rfl, kz _ _ hb fun I => ?_⟩
     exact zret I (v := fun Al => .tuple #[.agg #[.int .i64 (kN : Int), .bool false, .bool false, .slice none 0 0, .int .i64 0], .int .i64 0, .bool true]) fun Al W I => ⟨by rw [e3 hf3], I.below⟩
   refine zb I 26 (decide ((x.r.cls : Int) ≥ 4)) (false) (f26) fun Al W I => ?_
   refine zi I 20 .i64 ((i : Int) + 1) (((i + 1 : Nat) : Int)) ((by rw [show ((i : Int) + 1) = ((i + 1 : Nat) : Int) by omega]; exact IntWalk.i64_in _ (by have := oTr f18; omega))) fun Al W I => ?_
   exact b0j I J fun Al W U I => hJ (gk0 - 1) _ _ _ _ _ ((by have := oTr f18; omega)) ⟨U, i + 1, rfl, rfl, rfl, (by have := oTr f18; omega), (fun j' x' h h' => by rcases (show j' < i ∨ j' = i by omega) with q | rfl; exact hlt j' x' q h'; rw [hx] at h'; cases h'; have := oFa f26; omega)⟩ (I.pick [0])
 refine zb I 18 (decide ((i : Int) < (xs.length : Int))) (false) (f18) fun Al W I => ?_
 exact zret I (v := fun Al => .tuple #[.agg #[.int .i64 0, .bool false, .bool false, .slice none 0 0, .int .i64 0], .int .i64 0, .bool false]) fun Al W I => absurd (hlt j y (by have := oFa f18; omega) hYJ) (by rw [Nat.not_lt]; omega)

theorem c1v {x : Dv} (h : SmD x) : FitR x := by
 have h1 := h.len
 have h2 := h.lo
 have h3 := h.hi
 have h4 := j0q x.m
 exact ⟨by omega, by omega, by omega⟩
theorem f1w (a b : Dv) (p q : Option Addr) (c c' : Nat) (w : World) (hp : Rd w .i64 p (dig B16 a.m)) (hq : Rd w .i64 q (dig B16 b.m)) (fa : FitR a) (fb : FitR b) :
 Calls Tryz.prog 49 #[.agg #[.bool a.neg, .slice p (dig B16 a.m).length c, .int .i64 a.e], .agg #[.bool b.neg, .slice q (dig B16 b.m).length c', .int .i64 b.e]] w (GNf w w.heap.size (e0k a b)) :=
 (q0y a.neg b.neg p q _ c _ c' a.e b.e a.m b.m w hp hq rfl rfl fa.len fb.len ⟨fa.lo, fa.hi⟩ ⟨fb.lo, fb.hi⟩).mono fun _ _ => h1c
structure TnD (a : Dv) : Prop where
 len : (dig B32 a.m).length ≤ 40
 lo : -38000 ≤ a.e
 hi : a.e ≤ 38000
theorem VrOk.tn {r : Vr} (R : VrOk r) : TnD r.x := ⟨by have := R.len; omega, by have := R.lo; omega, by have := R.hi; omega⟩
theorem TnD.sm {a : Dv} (h : TnD a) : SmD a := ⟨by have := h.len; omega, by have := h.lo; omega, by have := h.hi; omega⟩
theorem f1x {r s : Vr} (R : VrOk r) (S : VrOk s) : TnD (e0k r.x s.x) := by
 have h1 := R.len
 have h2 := S.len
 have h3 := R.lo
 have h4 := R.hi
 have h5 := S.lo
 have h6 := S.hi
 have h7 := o0z r.x s.x
 have h8 : (dig B32 (r.x.m * s.x.m)).length ≤ 40 := Nat.le_trans (c0i a0b _ _) (by omega)
 have h9 := r0x ⟨xor r.x.neg s.x.neg, r.x.m * s.x.m, r.x.e + s.x.e⟩ (n := 40) h8 (lo := -36000) (hi := 36000) (by simp only; omega) (by simp only; omega) (by omega) (by omega)
 have e : e0k r.x s.x = bare ⟨xor r.x.neg s.x.neg, r.x.m * s.x.m, r.x.e + s.x.e⟩ := rfl
 rw [← e] at h9
 exact ⟨by omega, by omega, by omega⟩
end Go.Proofs.YtlcdfnaaenibgaaGreatDoor
namespace Go.Slip
open Go.RowKit
def t0f : List (Nat × SV) → Cfg → Cfg
 | [], c => c
 | (i, y) :: l, c => t0f l (l0u i y c)
section
variable {P : Program} {Q : Exit → Act → World → Prop} {E : List Nat} {w0 : World} {A : List Nat} {fs : List PF} {W : World} {c c' : Cfg}
theorem f0b (_ : Inv E w0 A c.bx fs W) (l : List (Nat × SV)) (h1 : ∀ A W, Inv E w0 A (nrm (t0f l c)).bx fs W → G P Q A (nrm (t0f l c)) W)
 (h2 : (∀ A W, Inv E w0 A (nrm (t0f l c)).bx fs W → G P Q A (nrm (t0f l c)) W) → G P Q A c W) : G P Q A c W := h2 h1
theorem zuse (K : ∀ A W, Inv E w0 A c'.bx fs W → G P Q A c' W) (I : Inv E w0 A c.bx fs W) (he : c = c' := by kernel_rfl) : G P Q A c W := by
 subst he
 exact K _ _ I
end
end Go.Slip
namespace Go.Proofs.YtlcdfnaaenibgaaGreatDoor
open Go.RowKit Go.Slip

theorem c1w {n : Int} {s t : ByteArray} (h : errL n [s, t] = 0) : a0z n s = 0 ∧ a0z n t = 0 ∧ IsFm n := by
 have h1 := g0r n h s (by simp)
 exact ⟨h1, g0r n h t (by simp), (c0y.1 h1).1⟩
theorem w0r {n : Int} {xs : List Vp} {s t : ByteArray} (h : xs.map (·.v) = [s, t].map (decP n)) : ∃ x y, xs = [x, y] ∧ x.v = decP n s ∧ y.v = decP n t := by
 cases xs with
 | nil => simp at h
 | cons x l =>
  cases l with
  | nil => simp at h
  | cons y l =>
   cases l with
   | nil => simp only [List.map_cons, List.map_nil, List.cons.injEq, and_true] at h; exact ⟨x, y, rfl, h.1, h.2⟩
   | cons _ _ => simp at h

theorem f1y (n way : Int) (s t : ByteArray) (h0 : errL n [s, t] = 0) (hw : 1 ≤ way ∧ way ≤ 5) : j1u n way [s, t] 33 ((fmt n).addM (refD n s) (refD n t) way) := by
 intro xs vs p c base u w hxs hvs oS oL U hT hb
 obtain ⟨hs, ht, hn⟩ := c1w h0
 obtain ⟨x, y, rfl, hx, hy⟩ := w0r hxs
 have ox := oL x (by simp)
 have oy := oL y (by simp)
 have HA := fun W u h1 h2 h3 h4 h5 => Lib.hid (o1c (fmt n) n way x y (refD n s) (refD n t) base u W h1 h2 h3 h4 (w0q hs hx) (w0q ht hy) (c0b hn) hw h5)
 generalize (fmt n).addM (refD n s) (refD n t) way = R at *
 generalize fmt n = f at *
 subst hvs
 clear oL hx hy hxs h0 hs ht hn
 obtain ⟨r, fl⟩ := R
 have I := Inv.startW w u 139 [.v (.int .i64 n), .v (.int .i64 way), .v (.int .i64 f.g.rad), .v (.int .i64 f.g.digs), .v (.int .i64 f.g.lo), .v (.int .i64 f.g.hi), .v (.bool f.g.grad), .v (.int .u8 (famB f)), .v (.int .i64 0)] [h0j base 70 4 p c [s, t].length ([x, y].flatMap Vp.cells), ownF base .u32 160 x.p x.c (dig B32 x.v.d), ownF base .u32 160 y.p y.c (dig B32 y.v.d), tabF] U ⟨oS, ox, oy, hT, True.intro⟩ ⟨fun hf => oS.far U (by kernel_rfl) hf.1 hf.2, fun hf => ox.far U (by kernel_rfl) hf.1 hf.2, fun hf => oy.far U (by kernel_rfl) hf.1 hf.2, fun hf => hT.far U (by kernel_rfl) hf, True.intro⟩
 refine a0c [.p 0 0, .v (.slice p [s, t].length c)] I Tryz.func33 ?_
 refine zd [0, 1] I fun Al W I => ?_
 refine zk [0, 1, 4] I fun I => ?_
 refine f0b I [(2, .v (.pointer (some (at_ p (0 * 4))))), (3, .v (.agg #[.int .i64 (x.v.cls : Int), .bool x.v.neg, .slice x.p (dig B32 x.v.d).length x.c, .int .i64 x.v.pow])), (5, .v (.pointer (some (at_ p (1 * 4))))), (6, .v (.agg #[.int .i64 (y.v.cls : Int), .bool y.v.neg, .slice y.p (dig B32 y.v.d).length y.c, .int .i64 y.v.pow]))] (fun Al W I => ?_) (fun KL17 => ?_)
 · refine zo 7 I (fun I => ?_)
   refine zge I 0 139 (fun Al W I => have hzW := I.bel.size; (HA W _ (I.box 0 139 _) I.fa.2.1 I.fa.2.2.1 (by omega) I.fa.2.2.2.1).out) fun Al V Iv hzV Kz kz => ?_
   rintro _ W ⟨v12, hR12, p12, c12, rfl, o12, hO, hB⟩
   refine ⟨_, rfl, kz _ [.v (.int .i64 n), .v (.int .i64 way), .v (.int .i64 f.g.rad), .v (.int .i64 f.g.digs), .v (.int .i64 f.g.lo), .v (.int .i64 f.g.hi), .v (.bool f.g.grad), .v (.int .u8 (famB f)), .v (.int .i64 (fl : Int))] _ hO hB fun I => ?_⟩
   have I := I.ownB base o12
   refine zo 8 I (fun I => ?_)
   refine zn I fun Al W I => ?_
   exact zret I fun Al W I => ⟨v12, hR12, p12, c12, rfl, I.fa.1, I.bel, I.boxE 139 _⟩
 refine f0b I [(2, .v (.pointer (some (at_ p (0 * 4))))), (3, .v (.agg #[.int .i64 (x.v.cls : Int), .bool x.v.neg, .slice x.p (dig B32 x.v.d).length x.c, .int .i64 x.v.pow])), (5, .v (.pointer (some (at_ p (1 * 4)))))] (fun Al W I => ?_) (fun KL15 => ?_)
 · refine zo 6 I (fun I => ?_)
   refine zx I 11 (fun _ => .agg #[.int .i64 (y.v.cls : Int), .bool y.v.neg, .slice y.p (dig B32 y.v.d).length y.c, .int .i64 y.v.pow]) (fun Al W I => (d0w (m := 1 * 4) I.fa.1 k0m y.cells rfl rfl)) fun Al W I => ?_
   exact zuse KL17 I
 refine f0b I [(2, .v (.pointer (some (at_ p (0 * 4))))), (5, .v (.pointer (some (at_ p (1 * 4))))), (6, .v (.agg #[.int .i64 (y.v.cls : Int), .bool y.v.neg, .slice y.p (dig B32 y.v.d).length y.c, .int .i64 y.v.pow]))] (fun Al W I => ?_) (fun KL16 => ?_)
 · refine zo 3 I (fun I => ?_)
   refine zx I 8 (fun _ => .agg #[.int .i64 (x.v.cls : Int), .bool x.v.neg, .slice x.p (dig B32 x.v.d).length x.c, .int .i64 x.v.pow]) (fun Al W I => (d0w (m := 0 * 4) I.fa.1 k0m x.cells rfl rfl)) fun Al W I => ?_
   exact zuse KL17 I
 refine f0b I [(2, .v (.pointer (some (at_ p (0 * 4))))), (3, .v (.agg #[.int .i64 (x.v.cls : Int), .bool x.v.neg, .slice x.p (dig B32 x.v.d).length x.c, .int .i64 x.v.pow]))] (fun Al W I => ?_) (fun KL12 => ?_)
 · refine zo 5 I (fun I => ?_)
   refine zx I 10 (fun _ => .pointer (some (at_ p (1 * 4)))) (fun Al W I => (d0c (m := 1) (n := [s, t].length) (c := c) i0p I.fa.1.solid (by simp))) fun Al W I => ?_
   exact zuse KL15 I
 refine f0b I [(2, .v (.pointer (some (at_ p (0 * 4))))), (5, .v (.pointer (some (at_ p (1 * 4)))))] (fun Al W I => ?_) (fun KL13 => ?_)
 · refine zo2 3 6 I (fun I => ?_) (fun I => ?_)
   · refine zx I 8 (fun _ => .agg #[.int .i64 (x.v.cls : Int), .bool x.v.neg, .slice x.p (dig B32 x.v.d).length x.c, .int .i64 x.v.pow]) (fun Al W I => (d0w (m := 0 * 4) I.fa.1 k0m x.cells rfl rfl)) fun Al W I => ?_
     exact zuse KL15 I
   refine zx I 11 (fun _ => .agg #[.int .i64 (y.v.cls : Int), .bool y.v.neg, .slice y.p (dig B32 y.v.d).length y.c, .int .i64 y.v.pow]) (fun Al W I => (d0w (m := 1 * 4) I.fa.1 k0m y.cells rfl rfl)) fun Al W I => ?_
   exact zuse KL16 I
 refine f0b I [(5, .v (.pointer (some (at_ p (1 * 4))))), (6, .v (.agg #[.int .i64 (y.v.cls : Int), .bool y.v.neg, .slice y.p (dig B32 y.v.d).length y.c, .int .i64 y.v.pow]))] (fun Al W I => ?_) (fun KL14 => ?_)
 · refine zo 2 I (fun I => ?_)
   refine zx I 7 (fun _ => .pointer (some (at_ p (0 * 4)))) (fun Al W I => (d0c (m := 0) (n := [s, t].length) (c := c) i0p I.fa.1.solid (by simp))) fun Al W I => ?_
   exact zuse KL16 I
 refine f0b I [(2, .v (.pointer (some (at_ p (0 * 4)))))] (fun Al W I => ?_) (fun KL10 => ?_)
 · refine zo2 3 5 I (fun I => ?_) (fun I => ?_)
   · refine zx I 8 (fun _ => .agg #[.int .i64 (x.v.cls : Int), .bool x.v.neg, .slice x.p (dig B32 x.v.d).length x.c, .int .i64 x.v.pow]) (fun Al W I => (d0w (m := 0 * 4) I.fa.1 k0m x.cells rfl rfl)) fun Al W I => ?_
     exact zuse KL12 I
   refine zx I 10 (fun _ => .pointer (some (at_ p (1 * 4)))) (fun Al W I => (d0c (m := 1) (n := [s, t].length) (c := c) i0p I.fa.1.solid (by simp))) fun Al W I => ?_
   exact zuse KL13 I
 refine f0b I [(5, .v (.pointer (some (at_ p (1 * 4)))))] (fun Al W I => ?_) (fun KL11 => ?_)
 · refine zo2 2 6 I (fun I => ?_) (fun I => ?_)
   · refine zx I 7 (fun _ => .pointer (some (at_ p (0 * 4)))) (fun Al W I => (d0c (m := 0) (n := [s, t].length) (c := c) i0p I.fa.1.solid (by simp))) fun Al W I => ?_
     exact zuse KL13 I
   refine zx I 11 (fun _ => .agg #[.int .i64 (y.v.cls : Int), .bool y.v.neg, .slice y.p (dig B32 y.v.d).length y.c, .int .i64 y.v.pow]) (fun Al W I => (d0w (m := 1 * 4) I.fa.1 k0m y.cells rfl rfl)) fun Al W I => ?_
   exact zuse KL14 I
 refine zo2 2 5 I (fun I => ?_) (fun I => ?_)
 · refine zx I 7 (fun _ => .pointer (some (at_ p (0 * 4)))) (fun Al W I => (d0c (m := 0) (n := [s, t].length) (c := c) i0p I.fa.1.solid (by simp))) fun Al W I => ?_
   exact zuse KL10 I
 refine zx I 10 (fun _ => .pointer (some (at_ p (1 * 4)))) (fun Al W I => (d0c (m := 1) (n := [s, t].length) (c := c) i0p I.fa.1.solid (by simp))) fun Al W I => ?_
 exact zuse KL11 I

def f0c (n way : Int) (L : List ByteArray) (R : Vr × Nat) (w : World) (en : Ending) (w' : World) : Prop :=
 (if errR n way L = 0 then en = .returned (.tuple #[.string (strR n R.1), .int .i64 ((R.2 : Nat) : Int), .int .i64 (errR n way L)]) else en = .returned (.tuple #[.string (b0m []), .int .i64 0, .int .i64 (errR n way L)])) ∧ Below w.heap.size w w'
theorem k0n {n way : Int} {L : List ByteArray} (h0 : errR n way L = 0) : IsFm n ∧ errL n L = 0 ∧ 1 ≤ way ∧ way ≤ 5 := by
 have hn : IsFm n := by unfold errR at h0; split at h0; assumption; omega
 unfold errR at h0
 rw [if_pos hn] at h0
 have hL : errL n L = 0 := by split at h0; assumption; contradiction
 rw [if_pos hL] at h0
 exact ⟨hn, hL, by split at h0; assumption; omega⟩

theorem f1z (n way : Int) (s t : ByteArray) (w : World) (hT : TabW w) : Calls Tryz.prog 10 #[.int .i64 n, .string s, .string t, .int .i64 way] w (f0c n way [s, t] ((fmt n).addM (refD n s) (refD n t) way) w) := by
 unfold f0c
 by_cases h0 : errR n way [s, t] = 0
 · obtain ⟨hn, hL, hw⟩ := k0n h0
   have HR := fun b m W h1 h2 h3 => Lib.hid (h1i n way [s, t] 33 _ b m W h1 h2 (by simp) h3 (fun _ _ => by kernel_rfl) h0 (f1y n way s t hL hw) (m1p (c0b hn) (h0h hn) (h0h hn) way))
   simp only [h0, if_true]
   generalize strR n ((fmt n).addM (refD n s) (refD n t) way).1 = str at *
   generalize ((fmt n).addM (refD n s) (refD n t) way).2 = fl at *
   have I := Inv.start w [tabF] ⟨hT, True.intro⟩
   refine a0c [.v (.int .i64 n), .v (.string s), .v (.string t), .v (.int .i64 way)] I Tryz.func10 ?_
   refine zg I (fun Al W I => (HR _ 2 W (I.box 0 9 _) rfl I.fa.1).out) fun Al V Iv hzV hB Kz kz => ?_
   rintro _ W ⟨rfl, hb⟩
   refine ⟨_, rfl, kz _ _ hb fun I => ?_⟩
   exact zret I fun Al W I => ⟨rfl, I.below⟩
 · have HR := fun b m W h1 h2 h3 => Lib.hid (c1s n way [s, t] 33 b m W h1 h2 (by simp) h3 h0)
   simp only [if_neg h0]
   generalize errR n way [s, t] = er at *
   have I := Inv.start w [tabF] ⟨hT, True.intro⟩
   refine a0c [.v (.int .i64 n), .v (.string s), .v (.string t), .v (.int .i64 way)] I Tryz.func10 ?_
   refine zg I (fun Al W I => (HR _ 2 W (I.box 0 9 _) rfl I.fa.1).out) fun Al V Iv hzV hB Kz kz => ?_
   rintro _ W ⟨rfl, hb⟩
   refine ⟨_, rfl, kz _ _ hb fun I => ?_⟩
   exact zret I fun Al W I => ⟨rfl, I.below⟩

theorem g1a (n way : Int) (s t : ByteArray) (h0 : errL n [s, t] = 0) (hw : 1 ≤ way ∧ way ≤ 5) : j1u n way [s, t] 46 ((fmt n).mulM (refD n s) (refD n t) way) := by
 intro xs vs p c base u w hxs hvs oS oL U hT hb
 obtain ⟨hs, ht, hn⟩ := c1w h0
 obtain ⟨x, y, rfl, hx, hy⟩ := w0r hxs
 have ox := oL x (by simp)
 have oy := oL y (by simp)
 have HA := fun W u h1 h2 h3 h4 h5 => Lib.hid (o1d (fmt n) n way x y (refD n s) (refD n t) base u W h1 h2 h3 h4 (w0q hs hx) (w0q ht hy) (c0b hn) hw h5)
 generalize (fmt n).mulM (refD n s) (refD n t) way = R at *
 generalize fmt n = f at *
 subst hvs
 clear oL hx hy hxs h0 hs ht hn
 obtain ⟨r, fl⟩ := R
 have I := Inv.startW w u 139 [.v (.int .i64 n), .v (.int .i64 way), .v (.int .i64 f.g.rad), .v (.int .i64 f.g.digs), .v (.int .i64 f.g.lo), .v (.int .i64 f.g.hi), .v (.bool f.g.grad), .v (.int .u8 (famB f)), .v (.int .i64 0)] [h0j base 70 4 p c [s, t].length ([x, y].flatMap Vp.cells), ownF base .u32 160 x.p x.c (dig B32 x.v.d), ownF base .u32 160 y.p y.c (dig B32 y.v.d), tabF] U ⟨oS, ox, oy, hT, True.intro⟩ ⟨fun hf => oS.far U (by kernel_rfl) hf.1 hf.2, fun hf => ox.far U (by kernel_rfl) hf.1 hf.2, fun hf => oy.far U (by kernel_rfl) hf.1 hf.2, fun hf => hT.far U (by kernel_rfl) hf, True.intro⟩
 refine a0c [.p 0 0, .v (.slice p [s, t].length c)] I Tryz.func46 ?_
 refine zd [0, 1] I fun Al W I => ?_
 refine zk [0, 1, 4] I fun I => ?_
 refine f0b I [(2, .v (.pointer (some (at_ p (0 * 4))))), (3, .v (.agg #[.int .i64 (x.v.cls : Int), .bool x.v.neg, .slice x.p (dig B32 x.v.d).length x.c, .int .i64 x.v.pow])), (5, .v (.pointer (some (at_ p (1 * 4))))), (6, .v (.agg #[.int .i64 (y.v.cls : Int), .bool y.v.neg, .slice y.p (dig B32 y.v.d).length y.c, .int .i64 y.v.pow]))] (fun Al W I => ?_) (fun KL17 => ?_)
 · refine zo 7 I (fun I => ?_)
   refine zge I 0 139 (fun Al W I => have hzW := I.bel.size; (HA W _ (I.box 0 139 _) I.fa.2.1 I.fa.2.2.1 (by omega) I.fa.2.2.2.1).out) fun Al V Iv hzV Kz kz => ?_
   rintro _ W ⟨v12, hR12, p12, c12, rfl, o12, hO, hB⟩
   refine ⟨_, rfl, kz _ [.v (.int .i64 n), .v (.int .i64 way), .v (.int .i64 f.g.rad), .v (.int .i64 f.g.digs), .v (.int .i64 f.g.lo), .v (.int .i64 f.g.hi), .v (.bool f.g.grad), .v (.int .u8 (famB f)), .v (.int .i64 (fl : Int))] _ hO hB fun I => ?_⟩
   have I := I.ownB base o12
   refine zo 8 I (fun I => ?_)
   refine zn I fun Al W I => ?_
   exact zret I fun Al W I => ⟨v12, hR12, p12, c12, rfl, I.fa.1, I.bel, I.boxE 139 _⟩
 refine f0b I [(2, .v (.pointer (some (at_ p (0 * 4))))), (3, .v (.agg #[.int .i64 (x.v.cls : Int), .bool x.v.neg, .slice x.p (dig B32 x.v.d).length x.c, .int .i64 x.v.pow])), (5, .v (.pointer (some (at_ p (1 * 4)))))] (fun Al W I => ?_) (fun KL15 => ?_)
 · refine zo 6 I (fun I => ?_)
   refine zx I 11 (fun _ => .agg #[.int .i64 (y.v.cls : Int), .bool y.v.neg, .slice y.p (dig B32 y.v.d).length y.c, .int .i64 y.v.pow]) (fun Al W I => (d0w (m := 1 * 4) I.fa.1 k0m y.cells rfl rfl)) fun Al W I => ?_
   exact zuse KL17 I
 refine f0b I [(2, .v (.pointer (some (at_ p (0 * 4))))), (5, .v (.pointer (some (at_ p (1 * 4))))), (6, .v (.agg #[.int .i64 (y.v.cls : Int), .bool y.v.neg, .slice y.p (dig B32 y.v.d).length y.c, .int .i64 y.v.pow]))] (fun Al W I => ?_) (fun KL16 => ?_)
 · refine zo 3 I (fun I => ?_)
   refine zx I 8 (fun _ => .agg #[.int .i64 (x.v.cls : Int), .bool x.v.neg, .slice x.p (dig B32 x.v.d).length x.c, .int .i64 x.v.pow]) (fun Al W I => (d0w (m := 0 * 4) I.fa.1 k0m x.cells rfl rfl)) fun Al W I => ?_
   exact zuse KL17 I
 refine f0b I [(2, .v (.pointer (some (at_ p (0 * 4))))), (3, .v (.agg #[.int .i64 (x.v.cls : Int), .bool x.v.neg, .slice x.p (dig B32 x.v.d).length x.c, .int .i64 x.v.pow]))] (fun Al W I => ?_) (fun KL12 => ?_)
 · refine zo 5 I (fun I => ?_)
   refine zx I 10 (fun _ => .pointer (some (at_ p (1 * 4)))) (fun Al W I => (d0c (m := 1) (n := [s, t].length) (c := c) i0p I.fa.1.solid (by simp))) fun Al W I => ?_
   exact zuse KL15 I
 refine f0b I [(2, .v (.pointer (some (at_ p (0 * 4))))), (5, .v (.pointer (some (at_ p (1 * 4)))))] (fun Al W I => ?_) (fun KL13 => ?_)
 · refine zo2 3 6 I (fun I => ?_) (fun I => ?_)
   · refine zx I 8 (fun _ => .agg #[.int .i64 (x.v.cls : Int), .bool x.v.neg, .slice x.p (dig B32 x.v.d).length x.c, .int .i64 x.v.pow]) (fun Al W I => (d0w (m := 0 * 4) I.fa.1 k0m x.cells rfl rfl)) fun Al W I => ?_
     exact zuse KL15 I
   refine zx I 11 (fun _ => .agg #[.int .i64 (y.v.cls : Int), .bool y.v.neg, .slice y.p (dig B32 y.v.d).length y.c, .int .i64 y.v.pow]) (fun Al W I => (d0w (m := 1 * 4) I.fa.1 k0m y.cells rfl rfl)) fun Al W I => ?_
   exact zuse KL16 I
 refine f0b I [(5, .v (.pointer (some (at_ p (1 * 4))))), (6, .v (.agg #[.int .i64 (y.v.cls : Int), .bool y.v.neg, .slice y.p (dig B32 y.v.d).length y.c, .int .i64 y.v.pow]))] (fun Al W I => ?_) (fun KL14 => ?_)
 · refine zo 2 I (fun I => ?_)
   refine zx I 7 (fun _ => .pointer (some (at_ p (0 * 4)))) (fun Al W I => (d0c (m := 0) (n := [s, t].length) (c := c) i0p I.fa.1.solid (by simp))) fun Al W I => ?_
   exact zuse KL16 I
 refine f0b I [(2, .v (.pointer (some (at_ p (0 * 4)))))] (fun Al W I => ?_) (fun KL10 => ?_)
 · refine zo2 3 5 I (fun I => ?_) (fun I => ?_)
   · refine zx I 8 (fun _ => .agg #[.int .i64 (x.v.cls : Int), .bool x.v.neg, .slice x.p (dig B32 x.v.d).length x.c, .int .i64 x.v.pow]) (fun Al W I => (d0w (m := 0 * 4) I.fa.1 k0m x.cells rfl rfl)) fun Al W I => ?_
     exact zuse KL12 I
   refine zx I 10 (fun _ => .pointer (some (at_ p (1 * 4)))) (fun Al W I => (d0c (m := 1) (n := [s, t].length) (c := c) i0p I.fa.1.solid (by simp))) fun Al W I => ?_
   exact zuse KL13 I
 refine f0b I [(5, .v (.pointer (some (at_ p (1 * 4)))))] (fun Al W I => ?_) (fun KL11 => ?_)
 · refine zo2 2 6 I (fun I => ?_) (fun I => ?_)
   · refine zx I 7 (fun _ => .pointer (some (at_ p (0 * 4)))) (fun Al W I => (d0c (m := 0) (n := [s, t].length) (c := c) i0p I.fa.1.solid (by simp))) fun Al W I => ?_
     exact zuse KL13 I
   refine zx I 11 (fun _ => .agg #[.int .i64 (y.v.cls : Int), .bool y.v.neg, .slice y.p (dig B32 y.v.d).length y.c, .int .i64 y.v.pow]) (fun Al W I => (d0w (m := 1 * 4) I.fa.1 k0m y.cells rfl rfl)) fun Al W I => ?_
   exact zuse KL14 I
 refine zo2 2 5 I (fun I => ?_) (fun I => ?_)
 · refine zx I 7 (fun _ => .pointer (some (at_ p (0 * 4)))) (fun Al W I => (d0c (m := 0) (n := [s, t].length) (c := c) i0p I.fa.1.solid (by simp))) fun Al W I => ?_
   exact zuse KL10 I
 refine zx I 10 (fun _ => .pointer (some (at_ p (1 * 4)))) (fun Al W I => (d0c (m := 1) (n := [s, t].length) (c := c) i0p I.fa.1.solid (by simp))) fun Al W I => ?_
 exact zuse KL11 I

theorem w0s (n way : Int) (s t : ByteArray) (w : World) (hT : TabW w) : Calls Tryz.prog 19 #[.int .i64 n, .string s, .string t, .int .i64 way] w (f0c n way [s, t] ((fmt n).mulM (refD n s) (refD n t) way) w) := by
 unfold f0c
 by_cases h0 : errR n way [s, t] = 0
 · obtain ⟨hn, hL, hw⟩ := k0n h0
   have HR := fun b m W h1 h2 h3 => Lib.hid (h1i n way [s, t] 46 _ b m W h1 h2 (by simp) h3 (fun _ _ => by kernel_rfl) h0 (g1a n way s t hL hw) (h1k (c0b hn) (h0h hn).inf (h0h hn).inf way))
   simp only [h0, if_true]
   generalize strR n ((fmt n).mulM (refD n s) (refD n t) way).1 = str at *
   generalize ((fmt n).mulM (refD n s) (refD n t) way).2 = fl at *
   have I := Inv.start w [tabF] ⟨hT, True.intro⟩
   refine a0c [.v (.int .i64 n), .v (.string s), .v (.string t), .v (.int .i64 way)] I Tryz.func19 ?_
   refine zg I (fun Al W I => (HR _ 2 W (I.box 0 9 _) rfl I.fa.1).out) fun Al V Iv hzV hB Kz kz => ?_
   rintro _ W ⟨rfl, hb⟩
   refine ⟨_, rfl, kz _ _ hb fun I => ?_⟩
   exact zret I fun Al W I => ⟨rfl, I.below⟩
 · have HR := fun b m W h1 h2 h3 => Lib.hid (c1s n way [s, t] 46 b m W h1 h2 (by simp) h3 h0)
   simp only [if_neg h0]
   generalize errR n way [s, t] = er at *
   have I := Inv.start w [tabF] ⟨hT, True.intro⟩
   refine a0c [.v (.int .i64 n), .v (.string s), .v (.string t), .v (.int .i64 way)] I Tryz.func19 ?_
   refine zg I (fun Al W I => (HR _ 2 W (I.box 0 9 _) rfl I.fa.1).out) fun Al V Iv hzV hB Kz kz => ?_
   rintro _ W ⟨rfl, hb⟩
   refine ⟨_, rfl, kz _ _ hb fun I => ?_⟩
   exact zret I fun Al W I => ⟨rfl, I.below⟩


theorem t0g (n way : Int) (a b : Wp) (ba bb : Nat) (w : World) (hn : IsFm n) (hw : 1 ≤ way ∧ way ≤ 5) (oa : Rf w ba a.p a.c (dig B16 a.r.x.m)) (ob : Rf w bb b.p b.c (dig B16 b.r.x.m)) (A1 : VrOk a.r) (B1 : VrOk b.r) :
 Calls Tryz.prog 20 #[.int .i64 n, .agg #[.int .i64 (a.r.cls : Int), .bool a.r.neg, .bool a.r.x.neg, .slice a.p (dig B16 a.r.x.m).length a.c, .int .i64 a.r.x.e], .agg #[.int .i64 (b.r.cls : Int), .bool b.r.neg, .bool b.r.x.neg, .slice b.p (dig B16 b.r.x.m).length b.c, .int .i64 b.r.x.e], .int .i64 way] w (GVf w w.heap.size ((fmt n).mulM a.r b.r way)) := by
 have HY := fun W b0 h1 h2 => Lib.hid (y0n n [a, b] b0 2 W hn h1 rfl (by simp) h2)
 have HN := fun W b0 h1 h2 => Lib.hid (c1u n [a, b] b0 2 W hn h1 rfl (by simp) h2)
 have HL := fun W => Lib.hid (v0d n W hn)
 have hoffm : (fmt n).offM = (⟨(fmt n).nothM.cls, false, vz⟩, (fmt n).offM.2) := rfl
 have hlostm : (fmt n).lostM = (⟨(fmt n).nothM.cls, false, vz⟩, 16) := rfl
 have vza := A1.x0
 have ca := A1.c
 have vzb := B1.x0
 have cb := B1.c
 have HT := fun W h1 h2 => Lib.hid (f1w a.r.x b.r.x a.p b.p a.c b.c W h1 h2 (c1v A1.sm) (c1v B1.sm))
 have st := f1x A1 B1
 generalize ht : e0k a.r.x b.r.x = t at *
 have h1 := st.len
 have h2 := st.lo
 have h3 := st.hi
 have h4 := j0q t.m
 have HF := fun W p c b h1 => Lib.hid (v0c n way t p c b W hn hw h1 (by omega) (by omega))
 have HZ := fun g W => Lib.hid (h0x n g W hn)
 have hM : (fmt n).mulM a.r b.r way = if 4 ≤ a.r.cls ∨ 4 ≤ b.r.cls then (fmt n).offM else if a.r.cls = 3 ∨ b.r.cls = 3 then (if a.r.cls = 1 ∨ b.r.cls = 1 then (fmt n).lostM else (infM (a.r.neg != b.r.neg), 0)) else if a.r.cls = 1 ∨ b.r.cls = 1 then ((fmt n).zeroM (a.r.neg != b.r.neg), 0) else (fmt n).numM t way := by rw [← ht]; rfl
 obtain ⟨rS, flS, hS⟩ : ∃ rS flS, (fmt n).numM t way = (rS, flS) := ⟨_, _, rfl⟩
 rw [hS] at HF hM
 unfold GVf at HF
 simp only at HF
 have hzm : (fmt n).zeroM (a.r.neg != b.r.neg) = ⟨1, (a.r.neg != b.r.neg) && decide ((fmt n).fam = 1), vz⟩ := rfl
 generalize (fmt n).mulM a.r b.r way = R at *
 generalize (fmt n).offM.2 = flo at *
 generalize (fmt n).nothM.cls = kN at *
 generalize hng : (a.r.neg != b.r.neg) = ng at *
 have HNG := Lib.hid hng
 clear hS ht hng
 have I := Inv.start w [rfF ba a.p a.c (dig B16 a.r.x.m), rfF bb b.p b.c (dig B16 b.r.x.m)] ⟨oa, ob, True.intro⟩
 refine a0c [.v (.int .i64 n), .v (.agg #[.int .i64 (a.r.cls : Int), .bool a.r.neg, .bool a.r.x.neg, .slice a.p (dig B16 a.r.x.m).length a.c, .int .i64 a.r.x.e]), .v (.agg #[.int .i64 (b.r.cls : Int), .bool b.r.neg, .bool b.r.x.neg, .slice b.p (dig B16 b.r.x.m).length b.c, .int .i64 b.r.x.e]), .v (.int .i64 way)] I Tryz.func20 ?_
 by_cases hof : 4 ≤ a.r.cls ∨ 4 ≤ b.r.cls
 · refine zg I (fun Al W I => (HY W _ (I.box 3 32 _) (by simpa using hof)).out) fun Al V Iv hzV hB Kz kz => ?_
   rintro _ W ⟨rfl, hb⟩
   refine ⟨_, rfl, kz _ _ hb fun I => ?_⟩
   rw [hM]
   refine zret I (v := fun Al => .tuple #[.agg #[.int .i64 (kN : Int), .bool false, .bool false, .slice none 0 0, .int .i64 0], .int .i64 (flo : Int)]) fun Al W I => ?_
   first | (rw [if_pos hof, hoffm]; exact a0r (fl := flo) rfl I.below) | (rw [if_neg hof, if_pos (by omega), if_neg (by omega)]; exact a0r (k := 3) (fl := 0) rfl I.below)
 refine zg I (fun Al W I => have hzW := I.bel.size; (HN W _ (I.box 3 32 _) (by simp only [List.mem_cons, List.mem_nil_iff, or_false]; rintro x (rfl | rfl) <;> omega)).out) fun Al V Iv hzV hB Kz kz => ?_
 rintro _ W ⟨rfl, hb⟩
 refine ⟨_, rfl, kz _ _ hb fun I => ?_⟩
 refine zb I 30 (a.r.neg != b.r.neg) (ng) (HNG.out) fun Al W I => ?_
 by_cases h3a : a.r.cls = 3
 · by_cases h3b : b.r.cls = 3
   · by_cases h1a : a.r.cls = 1
     · by_cases h1b : b.r.cls = 1
       · refine zb I 33 ((a.r.cls : Int) == 3) (true) (beq_iff_eq.2 (by omega)) fun Al W I => ?_
         refine zb I 41 ((a.r.cls : Int) == 1) (true) (beq_iff_eq.2 (by omega)) fun Al W I => ?_
         refine zg I (fun Al W I => (HL W).out) fun Al V Iv hzV hB Kz kz => ?_
         rintro _ W ⟨rfl, hb⟩
         refine ⟨_, rfl, kz _ _ hb fun I => ?_⟩
         rw [hM, if_neg hof, if_pos (by omega), if_pos (by omega), hlostm]
         exact zret I fun Al W I => a0r (fl := 16) rfl I.below
       refine zb I 33 ((a.r.cls : Int) == 3) (true) (beq_iff_eq.2 (by omega)) fun Al W I => ?_
       refine zb I 41 ((a.r.cls : Int) == 1) (true) (beq_iff_eq.2 (by omega)) fun Al W I => ?_
       refine zg I (fun Al W I => (HL W).out) fun Al V Iv hzV hB Kz kz => ?_
       rintro _ W ⟨rfl, hb⟩
       refine ⟨_, rfl, kz _ _ hb fun I => ?_⟩
       rw [hM, if_neg hof, if_pos (by omega), if_pos (by omega), hlostm]
       exact zret I fun Al W I => a0r (fl := 16) rfl I.below
     by_cases h1b : b.r.cls = 1
     · refine zb I 33 ((a.r.cls : Int) == 3) (true) (beq_iff_eq.2 (by omega)) fun Al W I => ?_
       refine zb I 41 ((a.r.cls : Int) == 1) (false) (bFn (by omega)) fun Al W I => ?_
       refine zb I 45 ((b.r.cls : Int) == 1) (true) (beq_iff_eq.2 (by omega)) fun Al W I => ?_
       refine zg I (fun Al W I => (HL W).out) fun Al V Iv hzV hB Kz kz => ?_
       rintro _ W ⟨rfl, hb⟩
       refine ⟨_, rfl, kz _ _ hb fun I => ?_⟩
       rw [hM, if_neg hof, if_pos (by omega), if_pos (by omega), hlostm]
       exact zret I fun Al W I => a0r (fl := 16) rfl I.below
     refine zb I 33 ((a.r.cls : Int) == 3) (true) (beq_iff_eq.2 (by omega)) fun Al W I => ?_
     refine zb I 41 ((a.r.cls : Int) == 1) (false) (bFn (by omega)) fun Al W I => ?_
     refine zb I 45 ((b.r.cls : Int) == 1) (false) (bFn (by omega)) fun Al W I => ?_
     rw [hM]
     refine zret I (v := fun Al => .tuple #[.agg #[.int .i64 3, .bool ng, .bool false, .slice none 0 0, .int .i64 0], .int .i64 0]) fun Al W I => ?_
     first | (rw [if_pos hof, hoffm]; exact a0r (fl := flo) rfl I.below) | (rw [if_neg hof, if_pos (by omega), if_neg (by omega)]; exact a0r (k := 3) (fl := 0) rfl I.below)
   by_cases h1a : a.r.cls = 1
   · by_cases h1b : b.r.cls = 1
     · refine zb I 33 ((a.r.cls : Int) == 3) (true) (beq_iff_eq.2 (by omega)) fun Al W I => ?_
       refine zb I 41 ((a.r.cls : Int) == 1) (true) (beq_iff_eq.2 (by omega)) fun Al W I => ?_
       refine zg I (fun Al W I => (HL W).out) fun Al V Iv hzV hB Kz kz => ?_
       rintro _ W ⟨rfl, hb⟩
       refine ⟨_, rfl, kz _ _ hb fun I => ?_⟩
       rw [hM, if_neg hof, if_pos (by omega), if_pos (by omega), hlostm]
       exact zret I fun Al W I => a0r (fl := 16) rfl I.below
     refine zb I 33 ((a.r.cls : Int) == 3) (true) (beq_iff_eq.2 (by omega)) fun Al W I => ?_
     refine zb I 41 ((a.r.cls : Int) == 1) (true) (beq_iff_eq.2 (by omega)) fun Al W I => ?_
     refine zg I (fun Al W I => (HL W).out) fun Al V Iv hzV hB Kz kz => ?_
     rintro _ W ⟨rfl, hb⟩
     refine ⟨_, rfl, kz _ _ hb fun I => ?_⟩
     rw [hM, if_neg hof, if_pos (by omega), if_pos (by omega), hlostm]
     exact zret I fun Al W I => a0r (fl := 16) rfl I.below
   by_cases h1b : b.r.cls = 1
   · refine zb I 33 ((a.r.cls : Int) == 3) (true) (beq_iff_eq.2 (by omega)) fun Al W I => ?_
     refine zb I 41 ((a.r.cls : Int) == 1) (false) (bFn (by omega)) fun Al W I => ?_
     refine zb I 45 ((b.r.cls : Int) == 1) (true) (beq_iff_eq.2 (by omega)) fun Al W I => ?_
     refine zg I (fun Al W I => (HL W).out) fun Al V Iv hzV hB Kz kz => ?_
     rintro _ W ⟨rfl, hb⟩
     refine ⟨_, rfl, kz _ _ hb fun I => ?_⟩
     rw [hM, if_neg hof, if_pos (by omega), if_pos (by omega), hlostm]
     exact zret I fun Al W I => a0r (fl := 16) rfl I.below
   refine zb I 33 ((a.r.cls : Int) == 3) (true) (beq_iff_eq.2 (by omega)) fun Al W I => ?_
   refine zb I 41 ((a.r.cls : Int) == 1) (false) (bFn (by omega)) fun Al W I => ?_
   refine zb I 45 ((b.r.cls : Int) == 1) (false) (bFn (by omega)) fun Al W I => ?_
   rw [hM]
   refine zret I (v := fun Al => .tuple #[.agg #[.int .i64 3, .bool ng, .bool false, .slice none 0 0, .int .i64 0], .int .i64 0]) fun Al W I => ?_
   first | (rw [if_pos hof, hoffm]; exact a0r (fl := flo) rfl I.below) | (rw [if_neg hof, if_pos (by omega), if_neg (by omega)]; exact a0r (k := 3) (fl := 0) rfl I.below)
 by_cases h3b : b.r.cls = 3
 · by_cases h1a : a.r.cls = 1
   · by_cases h1b : b.r.cls = 1
     · refine zb I 33 ((a.r.cls : Int) == 3) (false) (bFn (by omega)) fun Al W I => ?_
       refine zb I 37 ((b.r.cls : Int) == 3) (true) (beq_iff_eq.2 (by omega)) fun Al W I => ?_
       refine zb I 41 ((a.r.cls : Int) == 1) (true) (beq_iff_eq.2 (by omega)) fun Al W I => ?_
       refine zg I (fun Al W I => (HL W).out) fun Al V Iv hzV hB Kz kz => ?_
       rintro _ W ⟨rfl, hb⟩
       refine ⟨_, rfl, kz _ _ hb fun I => ?_⟩
       rw [hM, if_neg hof, if_pos (by omega), if_pos (by omega), hlostm]
       exact zret I fun Al W I => a0r (fl := 16) rfl I.below
     refine zb I 33 ((a.r.cls : Int) == 3) (false) (bFn (by omega)) fun Al W I => ?_
     refine zb I 37 ((b.r.cls : Int) == 3) (true) (beq_iff_eq.2 (by omega)) fun Al W I => ?_
     refine zb I 41 ((a.r.cls : Int) == 1) (true) (beq_iff_eq.2 (by omega)) fun Al W I => ?_
     refine zg I (fun Al W I => (HL W).out) fun Al V Iv hzV hB Kz kz => ?_
     rintro _ W ⟨rfl, hb⟩
     refine ⟨_, rfl, kz _ _ hb fun I => ?_⟩
     rw [hM, if_neg hof, if_pos (by omega), if_pos (by omega), hlostm]
     exact zret I fun Al W I => a0r (fl := 16) rfl I.below
   by_cases h1b : b.r.cls = 1
   · refine zb I 33 ((a.r.cls : Int) == 3) (false) (bFn (by omega)) fun Al W I => ?_
     refine zb I 37 ((b.r.cls : Int) == 3) (true) (beq_iff_eq.2 (by omega)) fun Al W I => ?_
     refine zb I 41 ((a.r.cls : Int) == 1) (false) (bFn (by omega)) fun Al W I => ?_
     refine zb I 45 ((b.r.cls : Int) == 1) (true) (beq_iff_eq.2 (by omega)) fun Al W I => ?_
     refine zg I (fun Al W I => (HL W).out) fun Al V Iv hzV hB Kz kz => ?_
     rintro _ W ⟨rfl, hb⟩
     refine ⟨_, rfl, kz _ _ hb fun I => ?_⟩
     rw [hM, if_neg hof, if_pos (by omega), if_pos (by omega), hlostm]
     exact zret I fun Al W I => a0r (fl := 16) rfl I.below
   refine zb I 33 ((a.r.cls : Int) == 3) (false) (bFn (by omega)) fun Al W I => ?_
   refine zb I 37 ((b.r.cls : Int) == 3) (true) (beq_iff_eq.2 (by omega)) fun Al W I => ?_
   refine zb I 41 ((a.r.cls : Int) == 1) (false) (bFn (by omega)) fun Al W I => ?_
   refine zb I 45 ((b.r.cls : Int) == 1) (false) (bFn (by omega)) fun Al W I => ?_
   rw [hM]
   refine zret I (v := fun Al => .tuple #[.agg #[.int .i64 3, .bool ng, .bool false, .slice none 0 0, .int .i64 0], .int .i64 0]) fun Al W I => ?_
   first | (rw [if_pos hof, hoffm]; exact a0r (fl := flo) rfl I.below) | (rw [if_neg hof, if_pos (by omega), if_neg (by omega)]; exact a0r (k := 3) (fl := 0) rfl I.below)
 by_cases h1a : a.r.cls = 1
 · by_cases h1b : b.r.cls = 1
   · refine zb I 33 ((a.r.cls : Int) == 3) (false) (bFn (by omega)) fun Al W I => ?_
     refine zb I 37 ((b.r.cls : Int) == 3) (false) (bFn (by omega)) fun Al W I => ?_
     refine zb I 55 ((a.r.cls : Int) == 1) (true) (beq_iff_eq.2 (by omega)) fun Al W I => ?_
     refine zg I (fun Al W I => (HZ ng W).out) fun Al V Iv hzV hB Kz kz => ?_
     rintro _ W ⟨rfl, hb⟩
     refine ⟨_, rfl, kz _ _ hb fun I => ?_⟩
     rw [hM, if_neg hof, if_neg (by omega), if_pos (by omega), hzm]
     exact zret I fun Al W I => a0r (k := 1) (fl := 0) rfl I.below
   refine zb I 33 ((a.r.cls : Int) == 3) (false) (bFn (by omega)) fun Al W I => ?_
   refine zb I 37 ((b.r.cls : Int) == 3) (false) (bFn (by omega)) fun Al W I => ?_
   refine zb I 55 ((a.r.cls : Int) == 1) (true) (beq_iff_eq.2 (by omega)) fun Al W I => ?_
   refine zg I (fun Al W I => (HZ ng W).out) fun Al V Iv hzV hB Kz kz => ?_
   rintro _ W ⟨rfl, hb⟩
   refine ⟨_, rfl, kz _ _ hb fun I => ?_⟩
   rw [hM, if_neg hof, if_neg (by omega), if_pos (by omega), hzm]
   exact zret I fun Al W I => a0r (k := 1) (fl := 0) rfl I.below
 by_cases h1b : b.r.cls = 1
 · refine zb I 33 ((a.r.cls : Int) == 3) (false) (bFn (by omega)) fun Al W I => ?_
   refine zb I 37 ((b.r.cls : Int) == 3) (false) (bFn (by omega)) fun Al W I => ?_
   refine zb I 55 ((a.r.cls : Int) == 1) (false) (bFn (by omega)) fun Al W I => ?_
   refine zb I 59 ((b.r.cls : Int) == 1) (true) (beq_iff_eq.2 (by omega)) fun Al W I => ?_
   refine zg I (fun Al W I => (HZ ng W).out) fun Al V Iv hzV hB Kz kz => ?_
   rintro _ W ⟨rfl, hb⟩
   refine ⟨_, rfl, kz _ _ hb fun I => ?_⟩
   rw [hM, if_neg hof, if_neg (by omega), if_pos (by omega), hzm]
   exact zret I fun Al W I => a0r (k := 1) (fl := 0) rfl I.below
 refine zb I 33 ((a.r.cls : Int) == 3) (false) (bFn (by omega)) fun Al W I => ?_
 refine zb I 37 ((b.r.cls : Int) == 3) (false) (bFn (by omega)) fun Al W I => ?_
 refine zb I 55 ((a.r.cls : Int) == 1) (false) (bFn (by omega)) fun Al W I => ?_
 refine zb I 59 ((b.r.cls : Int) == 1) (false) (bFn (by omega)) fun Al W I => ?_
 refine zg I (fun Al W I => (HT W I.fa.1.rd I.fa.2.1.rd).out) fun Al V Iv hzV hB Kz kz => ?_
 rintro _ W ⟨p69, c69, rfl, o69, hb⟩
 refine ⟨_, rfl, kz _ _ hb fun I => ?_⟩
 have I := I.rf o69 (hB _) Iv
 refine zg I (fun Al W I => (HF W p69 c69 _ I.fa.1).out) fun Al V Iv hzV hB Kz kz => ?_
 rintro _ W ⟨p71, c71, rfl, o71, hb⟩
 refine ⟨_, rfl, kz _ _ hb fun I => ?_⟩
 have I := I.rf o71 (hB _) Iv
 rw [hM, if_neg hof, if_neg (by omega), if_neg (by omega)]
 exact zret I fun Al W I => ⟨p71, c71, rfl, I.fa.1, I.below⟩


def rflF (b : Nat) (xs : List Wp) : PF :=
 ⟨fun w => ∀ x, x ∈ xs → Rf w b x.p x.c (dig B16 x.r.x.m), fun a => ∃ x, x ∈ xs ∧ 0 < (dig B16 x.r.x.m).length ∧ blk x.p = a, fun _ _ h hb _ x hx => ⟨(h x hx).rd.same fun hp => hb _ ((h x hx).rd.lt hp) ⟨x, hx, hp, rfl⟩, (h x hx).cap, (h x hx).at_⟩, fun _ _ h ⟨x, hx, hp, hf⟩ => hf ▸ (h x hx).rd.lt hp⟩
theorem g1b {w : World} {b : Nat} {xs : List Wp} {r : Vr} {p : Option Addr} {c : Nat} (h : ∀ x, x ∈ xs → Rf w b x.p x.c (dig B16 x.r.x.m)) (o : Rf w b p c (dig B16 r.x.m)) : ∀ x, x ∈ xs ++ [⟨r, p, c⟩] → Rf w b x.p x.c (dig B16 x.r.x.m) := fun x hx => by
 rw [List.mem_append, List.mem_singleton] at hx
 rcases hx with hx | rfl
 · exact h x hx
 · exact o
theorem c1x {b a : Nat} {xs : List Wp} {r : Vr} {p : Option Addr} {c : Nat} (h : (rflF b (xs ++ [⟨r, p, c⟩])).foot a) (h1 : ∀ x, (x ∈ xs ∧ 0 < (dig B16 x.r.x.m).length ∧ blk x.p = a) → False) (h2 : 0 < (dig B16 r.x.m).length → blk p = a → False) : False := by
 obtain ⟨x, hx, h3, h4⟩ := h
 rw [List.mem_append, List.mem_singleton] at hx
 rcases hx with hx | rfl
 · exact h1 x ⟨hx, h3, h4⟩
 · exact h2 h3 h4
def j1w (n : Int) (w : World) (L : List ByteArray) (en : Ending) (w' : World) : Prop :=
 ∃ (xs : List Wp) (vs : List Value) (p : Option Addr) (c : Nat), en = .returned (.tuple #[.slice p L.length c, .int .i64 0]) ∧ xs.map (·.r) = L.map (refD n) ∧ vs = xs.flatMap Wp.cells ∧ OwnS w' w.heap.size 32 5 p c L.length vs ∧ (∀ x, x ∈ xs → Rf w' w.heap.size x.p x.c (dig B16 x.r.x.m)) ∧ Below w.heap.size w w'
theorem c1y (n way : Int) (L : List ByteArray) (b m : Nat) (w : World) (hB0 : Bt w b 9 (L.map Value.string).toArray) (hm : m = L.length) (hl : L.length ≤ 1000) (h0 : errR n way L = 0) :
 Calls Tryz.prog 11 #[.int .i64 n, .int .i64 way, .slice (some ⟨b, 0, none⟩) m m] w (j1w n w L) := by
 subst hm
 obtain ⟨hn, hL, hw⟩ := k0n h0
 have HF := fun W => Lib.hid (b0f n W)
 rw [decide_eq_true hn] at HF
 have HX : ∀ i, i < L.length → ∃ s : ByteArray, L[i]? = some s ∧ a0z n s = 0 ∧ (L.map Value.string).toArray[i]? = some (.string s) ∧ L.take (i + 1) = L.take i ++ [s] := fun i h => ⟨L[i], List.getElem?_eq_getElem h, g0r n hL _ (List.getElem_mem h), by simp [h], by rw [List.take_add_one, List.getElem?_eq_getElem h]; rfl⟩
 have HO := fun s W => Lib.hid (n0w n s W)
 have HD := fun s W h => Lib.hid (h0z n s W hn h)
 have hsz := fun s (h : a0z n s = 0) => (c0y.1 h).2
 have HI := fun W => Lib.hid (stay (l0n way W))
 rw [s0r hw.1 hw.2] at HI
 have hrd : ∀ s, (fmt n).refN (b0a (fmt n) s) = refD n s := fun s => rfl
 simp only [hrd] at HD
 generalize hgs : (fun s => (fmt n).neg (b0a (fmt n) s)) = gs
 have HD2 : ∀ s (W : World), s.size = (fmt n).size → Hid (Calls Tryz.prog 36 #[.int .i64 n, .string s] W (k0j W (refD n s) (gs s))) := by subst hgs; exact HD
 clear hgs HD hrd
 generalize fmt n = f at *
 have I := Inv.start w [btF b 9 (L.map Value.string).toArray] ⟨hB0, True.intro⟩
 refine a0c [.v (.int .i64 n), .v (.int .i64 way), .v (.slice (some ⟨b, 0, none⟩) L.length L.length)] I Tryz.func11 ?_
 refine zg I (fun Al W I => (HF W).out) fun Al V Iv hzV hB Kz kz => ?_
 rintro _ W ⟨rfl, hb⟩
 refine ⟨_, rfl, kz _ _ hb fun I => ?_⟩
 have I := I.add (h0j w.heap.size 32 5 none 0 0 []) (OwnS.nil _ _ _ _) (fun _ _ h => by cases h.1)
 have I := I.add (rflF w.heap.size []) (fun _ h => by cases h) (fun _ _ ⟨_, h, _⟩ => by cases h)
 refine o0l I (fun gk fr bx gs => ∃ (U900 : Nat → Value) (i : Nat) (p8 : Option Addr) (c8 : Nat) (xs : List Wp) (vs : List Value), fr = (.v (.int .i64 n) :: .v (.int .i64 way) :: .v (.slice (some ⟨b, 0, none⟩) L.length L.length) :: su 3 (sw U900 6 2 (.v (.slice p8 i c8) :: .v (U900 9) :: .v (.bool true) :: .v (.int .i64 (i : Int)) :: sw U900 12 9 (.v (.bool false) :: sw U900 22 30 (.v undef :: .v (U900 53) :: [])))) : List SV) ∧ bx = [⟨55, [.v (.int .i64 (f.size : Int)), .v (.int .i64 (f.E : Int)), .v (.int .i64 (f.F : Int)), .v (.int .i64 f.g.rad), .v (.int .i64 f.g.digs), .v (.int .i64 f.g.lo), .v (.int .i64 f.g.hi), .v (.bool f.g.grad), .v (.int .i64 (f.fam : Int))], false⟩] ∧ gs = [rflF w.heap.size xs, h0j w.heap.size 32 5 p8 c8 i vs, btF b 9 (L.map Value.string).toArray] ∧ (gk + i = L.length) ∧ (vs = xs.flatMap Wp.cells) ∧ (xs.map (·.r) = (L.take i).map (refD n)) ∧ (p8.isSome = true → ¬ (rflF w.heap.size xs).foot (blk p8))) L.length (fun Al W U I => ⟨_, ⟨U, 0, none, 0, [], [], rfl, rfl, rfl, (by omega), rfl, rfl, (fun h => by cases h)⟩, I.pick [0, 1, 2]⟩) ?_
 rintro J gk0 _ _ _ ⟨U900, i, p8, c8, xs, vs, rfl, rfl, rfl, hgk, hvs, hxs, hap⟩ hJ Al W I
 rcases Bool.eq_false_or_eq_true (decide ((i : Int) < (L.length : Int))) with f25 | f25
 · refine zb I 25 (decide ((i : Int) < (L.length : Int))) (true) (f25) fun Al W I => ?_
   obtain ⟨s, hs, hse, hsv, hst⟩ := HX i (by have := oTr f25; omega)
   refine zx I 31 (fun _ => .pointer (some (at_ (some ⟨b, 0, none⟩) i))) (fun Al W I => (h0u (m := i) (n := L.length) (c := L.length) y0k (fun _ => ⟨rfl, rfl⟩) (by have := oTr f25; omega))) fun Al W I => ?_
   refine zx I 32 (fun _ => .string s) (fun Al W I => (i0b I.fa.2.2.1 y0l _ hsv)) fun Al W I => ?_
   refine zg I (fun Al W I => (HO s W).out) fun Al V Iv hzV hB Kz kz => ?_
   rintro _ W ⟨rfl, hb⟩
   refine ⟨_, rfl, kz _ _ hb fun I => ?_⟩
   refine zb I 35 ((a0z n s) != 0) (false) (bne_eq_false_iff_eq.2 hse) fun Al W I => ?_
   refine zx I 41 (fun _ => .pointer (some (at_ (some ⟨b, 0, none⟩) i))) (fun Al W I => (h0u (m := i) (n := L.length) (c := L.length) y0k (fun _ => ⟨rfl, rfl⟩) (by have := oTr f25; omega))) fun Al W I => ?_
   refine zx I 42 (fun _ => .string s) (fun Al W I => (i0b I.fa.2.2.1 y0l _ hsv)) fun Al W I => ?_
   refine zg I (fun Al W I => (HD2 s W (hsz s hse)).out) fun Al V Iv hzV hB Kz kz => ?_
   rintro _ W ⟨p43, c43, rfl, o43, hb⟩
   have n43 : p8.isSome = true → ¬ (0 < (dig B16 (refD n s).x.m).length ∧ blk p43 = blk p8) := fun hp h => by have h1 := o43.at_ h.1; have h2 := (Iv.fa.2.1.blk_lt hp).2; omega
   refine ⟨_, rfl, kz _ _ hb fun I => ?_⟩
   have I := I.rf o43 (hB _) Iv
   have I := I.pick [2, 0, 1, 3]
   refine zap I tvV 2 1 (fun Al => [.int .i64 (((refD n s).cls : Nat) : Int), .bool ((refD n s).neg), .bool ((refD n s).x.neg), .slice p43 (dig B16 (refD n s).x.m).length c43, .int .i64 ((refD n s).x.e)]) (fun Al W I => I.box 2 32 _) (by omega) (fun Al W I hp => ⟨n43 hp, hap hp, fun e => I.fa.1.far I.fa.2.2.2.1 (by kernel_rfl) hp (Eq.symm e), True.intro⟩) fun Al W p49 c49 hq_49 I => ?_
   have I := I.add (rflF w.heap.size (xs ++ [(⟨refD n s, p43, c43⟩ : Wp)])) (g1b I.fa.2.2.1 I.fa.2.1) (fun a ha h => c1x h ((fun a ha h0 e => (I.far a ha).2.2.1 ⟨h0, e⟩) a ha) ((fun a ha h0 e => (I.far a ha).2.1 ⟨h0, e⟩) a ha))
   refine zi I 27 .i64 ((i : Int) + 1) (((i + 1 : Nat) : Int)) ((by rw [show ((i : Int) + 1) = ((i + 1 : Nat) : Int) by omega]; exact IntWalk.i64_in _ (by have := oTr f25; omega))) fun Al W I => ?_
   exact p0p 1 I J fun Al W U I => hJ (gk0 - 1) _ _ _ _ _ ((by have := oTr f25; omega)) ⟨U, i + 1, p49, c49, xs ++ [(⟨refD n s, p43, c43⟩ : Wp)], _, rfl, rfl, rfl, (by have := oTr f25; omega), (by rw [hvs, List.flatMap_append]; rfl), (by rw [hst, List.map_append, List.map_append, hxs]; rfl), (fun hp h => c1x h (fun x hx => (hq_49 hp).2.1 ⟨x, hx⟩) (fun h1 h2 => (hq_49 hp).1 ⟨h1, h2⟩))⟩ (I.pick [0, 1, 4])
 refine zb I 25 (decide ((i : Int) < (L.length : Int))) (false) (f25) fun Al W I => ?_
 refine zg I (fun Al W I => (HI W).out) fun Al V Iv hzV hB Kz kz => ?_
 rintro _ W ⟨rfl, hb⟩
 refine ⟨_, rfl, kz _ _ hb fun I => ?_⟩
 have hi : i = L.length := by have := oFa f25; omega
 exact zret I (v := fun Al => .tuple #[.slice p8 i c8, .int .i64 0]) fun Al W I => ⟨xs, vs, p8, c8, by rw [hi], by rw [hxs, hi, List.take_length], hvs, hi ▸ I.fa.2.1, I.fa.1, I.below⟩

theorem y0o (n way : Int) (L : List ByteArray) (b m : Nat) (w : World) (hB0 : Bt w b 9 (L.map Value.string).toArray) (hm : m = L.length) (hl : L.length ≤ 1000) (h0 : errR n way L ≠ 0) :
 Calls Tryz.prog 11 #[.int .i64 n, .int .i64 way, .slice (some ⟨b, 0, none⟩) m m] w fun en w' => en = .returned (.tuple #[.slice none 0 0, .int .i64 (errR n way L)]) ∧ Below w.heap.size w w' := by
 subst hm
 have HF := fun W => Lib.hid (b0f n W)
 by_cases hn : IsFm n
 · rw [decide_eq_true hn] at HF
   have hE : errR n way L = if errL n L = 0 then (if 1 ≤ way ∧ way ≤ 5 then 0 else 6) else errL n L := by unfold errR; rw [if_pos hn]
   have HO := fun s W => Lib.hid (n0w n s W)
   have HD := fun s W h => Lib.hid (h0z n s W hn h)
   have hsz := fun s (h : a0z n s = 0) => (c0y.1 h).2
   have HI := fun W => Lib.hid (stay (l0n way W))
   generalize hgs : (fun s => (fmt n).neg (b0a (fmt n) s)) = gs
   have HD2 : ∀ s (W : World), s.size = (fmt n).size → Hid (Calls Tryz.prog 36 #[.int .i64 n, .string s] W (k0j W (refD n s) (gs s))) := by subst hgs; exact HD
   clear hgs HD
   have HX : ∀ i, i < L.length → ∃ s : ByteArray, L[i]? = some s ∧ (L.map Value.string).toArray[i]? = some (.string s) := fun i h => ⟨L[i], List.getElem?_eq_getElem h, by simp [h]⟩
   have HJ : errL n L ≠ 0 → ∃ (j : Nat) (s : ByteArray), L[j]? = some s ∧ errL n L = a0z n s ∧ a0z n s ≠ 0 ∧ ∀ i t, i < j → L[i]? = some t → a0z n t = 0 := v0b n L
   have HZ : errL n L = 0 → ∀ (i : Nat) (t : ByteArray), L[i]? = some t → a0z n t = 0 := fun h i t ht => g0r n h t (by obtain ⟨h1, h2⟩ := List.getElem?_eq_some_iff.1 ht; rw [← h2]; exact List.getElem_mem h1)
   -- where the first fault is, or behind all
   obtain ⟨j, hjl, hj1, hj2⟩ : ∃ j, j ≤ L.length ∧ (∀ (i : Nat) (t : ByteArray), i < j → L[i]? = some t → a0z n t = 0) ∧ (∀ (s : ByteArray), L[j]? = some s → a0z n s ≠ 0 ∧ errR n way L = a0z n s) := by
    by_cases hL : errL n L = 0
    · exact ⟨L.length, Nat.le_refl _, fun i t _ ht => HZ hL i t ht, fun s hs => by simp at hs⟩
    · obtain ⟨j, s, h1, h2, h3, h4⟩ := HJ hL
      refine ⟨j, by have := (List.getElem?_eq_some_iff.1 h1).1; omega, h4, fun t ht => ?_⟩
      rw [h1] at ht
      cases ht
      exact ⟨h3, by rw [hE, if_neg hL, h2]⟩
   have hend : j = L.length → wayB way = false ∧ errR n way L = 6 := fun h => by
    have hL : errL n L = 0 := by
     by_cases hL : errL n L = 0
     · exact hL
     · obtain ⟨j', s, h1, h2, h3, h4⟩ := HJ hL
       have := (List.getElem?_eq_some_iff.1 h1).1
       exact absurd (hj1 j' s (by omega) h1) h3
    rw [hE, if_pos hL] at h0 ⊢
    have hw : ¬ (1 ≤ way ∧ way ≤ 5) := fun k => h0 (if_pos k)
    exact ⟨l0f (by omega), if_neg hw⟩
   generalize errR n way L = er at *
   generalize fmt n = f at *
   clear HJ HZ hE
   have I := Inv.start w [btF b 9 (L.map Value.string).toArray] ⟨hB0, True.intro⟩
   refine a0c [.v (.int .i64 n), .v (.int .i64 way), .v (.slice (some ⟨b, 0, none⟩) L.length L.length)] I Tryz.func11 ?_
   refine zg I (fun Al W I => (HF W).out) fun Al V Iv hzV hB Kz kz => ?_
   rintro _ W ⟨rfl, hb⟩
   refine ⟨_, rfl, kz _ _ hb fun I => ?_⟩
   have I := I.add (h0j w.heap.size 32 5 none 0 0 []) (OwnS.nil _ _ _ _) (fun _ _ h => by cases h.1)
   refine o0l I (fun gk fr bx gs => ∃ (U900 : Nat → Value) (i : Nat) (p8 : Option Addr) (c8 : Nat) (vs : List Value), fr = (.v (.int .i64 n) :: .v (.int .i64 way) :: .v (.slice (some ⟨b, 0, none⟩) L.length L.length) :: su 3 (sw U900 6 2 (.v (.slice p8 i c8) :: .v (U900 9) :: .v (.bool true) :: .v (.int .i64 (i : Int)) :: sw U900 12 9 (.v (.bool false) :: sw U900 22 30 (.v undef :: .v (U900 53) :: [])))) : List SV) ∧ bx = [⟨55, [.v (.int .i64 (f.size : Int)), .v (.int .i64 (f.E : Int)), .v (.int .i64 (f.F : Int)), .v (.int .i64 f.g.rad), .v (.int .i64 f.g.digs), .v (.int .i64 f.g.lo), .v (.int .i64 f.g.hi), .v (.bool f.g.grad), .v (.int .i64 (f.fam : Int))], false⟩] ∧ gs = [h0j w.heap.size 32 5 p8 c8 i vs, btF b 9 (L.map Value.string).toArray] ∧ (gk + i = L.length) ∧ (i ≤ j)) L.length (fun Al W U I => ⟨_, ⟨U, 0, none, 0, [], rfl, rfl, rfl, (by omega), (by omega)⟩, I.pick [0, 1]⟩) ?_
   rintro J gk0 _ _ _ ⟨U900, i, p8, c8, vs, rfl, rfl, rfl, hgk, hij⟩ hJ Al W I
   rcases Bool.eq_false_or_eq_true (decide ((i : Int) < (L.length : Int))) with f25 | f25
   · refine zb I 25 (decide ((i : Int) < (L.length : Int))) (true) (f25) fun Al W I => ?_
     obtain ⟨s, hs, hsv⟩ := HX i (by have := oTr f25; omega)
     refine zx I 31 (fun _ => .pointer (some (at_ (some ⟨b, 0, none⟩) i))) (fun Al W I => (h0u (m := i) (n := L.length) (c := L.length) y0k (fun _ => ⟨rfl, rfl⟩) (by have := oTr f25; omega))) fun Al W I => ?_
     refine zx I 32 (fun _ => .string s) (fun Al W I => (i0b I.fa.2.1 y0l _ hsv)) fun Al W I => ?_
     refine zg I (fun Al W I => (HO s W).out) fun Al V Iv hzV hB Kz kz => ?_
     rintro _ W ⟨rfl, hb⟩
     refine ⟨_, rfl, kz _ _ hb fun I => ?_⟩
     by_cases hij2 : i = j
     · refine zb I 35 ((a0z n s) != 0) (true) (bne_iff_ne.2 (by subst hij2; exact (hj2 s hs).1)) fun Al W I => ?_
       exact zret I (v := fun Al => .tuple #[.slice none 0 0, .int .i64 (a0z n s)]) fun Al W I => ⟨by rw [(hj2 s (hij2 ▸ hs)).2], I.below⟩
     refine zb I 35 ((a0z n s) != 0) (false) (bne_eq_false_iff_eq.2 (hj1 i s (by omega) hs)) fun Al W I => ?_
     refine zx I 41 (fun _ => .pointer (some (at_ (some ⟨b, 0, none⟩) i))) (fun Al W I => (h0u (m := i) (n := L.length) (c := L.length) y0k (fun _ => ⟨rfl, rfl⟩) (by have := oTr f25; omega))) fun Al W I => ?_
     refine zx I 42 (fun _ => .string s) (fun Al W I => (i0b I.fa.2.1 y0l _ hsv)) fun Al W I => ?_
     refine zg I (fun Al W I => have hzW := I.bel.size; (HD2 s W (hsz s (hj1 i s (by omega) hs))).out) fun Al V Iv hzV hB Kz kz => ?_
     rintro _ W ⟨p43, c43, rfl, -, hb⟩
     refine ⟨_, rfl, kz _ _ hb fun I => ?_⟩
     refine zap I tvV 2 1 (fun Al => [.int .i64 (((refD n s).cls : Nat) : Int), .bool ((refD n s).neg), .bool ((refD n s).x.neg), .slice p43 (dig B16 (refD n s).x.m).length c43, .int .i64 ((refD n s).x.e)]) (fun Al W I => I.box 2 32 _) (by omega) (fun Al W I hp => ⟨fun e => I.fa.1.far I.fa.2.1 (by kernel_rfl) hp (Eq.symm e), True.intro⟩) fun Al W p49 c49 hq_49 I => ?_
     refine zi I 27 .i64 ((i : Int) + 1) (((i + 1 : Nat) : Int)) ((by rw [show ((i : Int) + 1) = ((i + 1 : Nat) : Int) by omega]; exact IntWalk.i64_in _ (by have := oTr f25; omega))) fun Al W I => ?_
     exact p0p 1 I J fun Al W U I => hJ (gk0 - 1) _ _ _ _ _ ((by have := oTr f25; omega)) ⟨U, i + 1, p49, c49, _, rfl, rfl, rfl, (by have := oTr f25; omega), (by omega)⟩ (I.pick [0, 1])
   refine zb I 25 (decide ((i : Int) < (L.length : Int))) (false) (f25) fun Al W I => ?_
   refine zg I (fun Al W I => (HI W).out) fun Al V Iv hzV hB Kz kz => ?_
   rintro _ W ⟨rfl, hb⟩
   refine ⟨_, congrArg (fun b => Ending.returned (.bool b)) (show (wayB way) = false from (hend (by have := oFa f25; omega)).1), kz _ _ hb fun I => ?_⟩
   exact zret I (v := fun Al => .tuple #[.slice none 0 0, .int .i64 6]) fun Al W I => ⟨by rw [(hend (by have := oFa f25; omega)).2], I.below⟩
 · rw [decide_eq_false hn] at HF
   have hE : errR n way L = 6 := by unfold errR; rw [if_neg hn]
   rw [hE]
   generalize fmt n = f at *
   have I := Inv.start w [] True.intro
   refine a0c [.v (.int .i64 n), .v (.int .i64 way), .v (.slice (some ⟨b, 0, none⟩) L.length L.length)] I Tryz.func11 ?_
   refine zg I (fun Al W I => (HF W).out) fun Al V Iv hzV hB Kz kz => ?_
   rintro _ W ⟨rfl, hb⟩
   refine ⟨_, rfl, kz _ _ hb fun I => ?_⟩
   exact zret I fun Al W I => ⟨rfl, I.below⟩

theorem v0e {m k : Nat} (h1 : 2 ^ k ≤ m) (h2 : m < 2 ^ (k + 1)) : blen m = k + 1 := by
 have a := (b0l m (k + 1)).2 h2
 have b : ¬ blen m ≤ k := fun h => by have := (b0l m k).1 h; omega
 omega
def oneS : ByteArray := b0m [63, 128, 0, 0]
def twoS : ByteArray := b0m [64, 0, 0, 0]
theorem j1x : b0a (fmt 1) oneS = 1065353216 := by
 unfold b0a oneS
 rw [r0e (by decide)]
 decide +kernel
theorem j1y : a0z 1 oneS = 0 := c0y.2 ⟨by decide, by unfold oneS; rw [w0x]; rfl⟩
theorem j1z : refD 1 oneS = ⟨2, false, ⟨false, 1, 0⟩⟩ := by
 unfold refD
 rw [j1x]
 have hd : (fmt 1).decN 1065353216 = ⟨2, 8388608, -23⟩ := by kernel_rfl
 have hg : (fmt 1).neg 1065353216 = false := by decide +kernel
 unfold Fm.refN Fm.vr
 rw [hd, hg]
 have ht : tz 8388608 = 23 := m0m 1 23 rfl
 have hw : wid (fmt 1).g = 1 := by decide
 unfold Dc.c bare
 simp [ht, hw]
theorem k1a : k0t ⟨false, 1, 0⟩ ⟨false, 1, 0⟩ = ⟨false, 1, 1⟩ := by
 rw [x0i _ _ (e := 0) (by decide) (by decide)]
 have hz : zOf ⟨false, 1, 0⟩ 0 + zOf ⟨false, 1, 0⟩ 0 = 2 := by decide
 rw [hz]
 have ht : tz 2 = 1 := m0m 1 1 rfl
 unfold norm ofZ bare
 simp [ht]
theorem k1b : (fmt 1).addM ⟨2, false, ⟨false, 1, 0⟩⟩ ⟨2, false, ⟨false, 1, 0⟩⟩ 1 = (⟨2, false, ⟨false, 1, 1⟩⟩, 0) := by
 have hK : theK 1 1 1 1 24 = -22 := by
  have h := t0w (m := 1) (by decide) 1 (w := 1) (D := 24) (by decide) (by decide)
  rw [show blen 1 = 1 from v0e (k := 0) (by decide) (by decide)] at h
  exact h1w (by decide) (by decide) (by decide) (by decide) h
 have hR : a0n false 1 1 1 (fmt 1).g 1 = ⟨false, 8388608, -22, true, false, false⟩ := by
  unfold a0n
  rw [if_neg (by decide), show wid (fmt 1).g = 1 from rfl, show (fmt 1).g.digs.toNat = 24 from rfl, hK]
  kernel_rfl
 have ht : tz 8388608 = 23 := m0m 1 23 rfl
 unfold Fm.addM
 rw [if_neg (by decide), if_neg (by decide)]
 unfold Fm.sumM
 rw [k1a, if_pos (by decide)]
 unfold Fm.numM
 rw [if_neg (by decide), hR]
 unfold Fm.placedM Fm.flP bare
 have hw : wid (fmt 1).g = 1 := by decide
 simp [ht, hw]
theorem k1c : strR 1 ⟨2, false, ⟨false, 1, 1⟩⟩ = twoS := by
 have hb : blen 1 = 1 := v0e (k := 0) (by decide) (by decide)
 have h24 : blen 8388608 = 24 := v0e (k := 23) (by decide) (by decide)
 have hs : c0u ⟨false, 1, 1⟩ (fmt 1).g = -22 := by
  unfold c0u upK topD
  simp only [hb]
  decide
 have hf : (fmt 1).fr ⟨false, 1, 1⟩ = 8388608 := by
  unfold Fm.fr
  rw [hs]
  decide
 have hn : (fmt 1).numP ⟨false, 1, 1⟩ = ⟨false, 128, 0⟩ := by
  unfold Fm.numP
  rw [hf, hs, h24]
  kernel_rfl
 have he : (fmt 1).encP 2 false ⟨false, 1, 1⟩ = ⟨false, 128, 0⟩ := hn
 have h2 : (fmt 1).strP ⟨false, 128, 0⟩ = [64, 0, 0, 0] := by decide +kernel
 unfold strR twoS
 simp only
 rw [he, h2]
theorem g1c : errR 1 1 [oneS, oneS] = 0 := by
 unfold errR errL errL errL
 rw [j1y]
 decide

theorem o0r (w : World) (hT : TabW w) : Calls Tryz.prog 13 #[] w fun en w' => en = .returned (.bool true) ∧ Below w.heap.size w w' := by
 have HA : ∀ W, TabW W → Hid (Calls Tryz.prog 10 #[.int .i64 1, .string oneS, .string oneS, .int .i64 1] W fun en w' => en = .returned (.tuple #[.string twoS, .int .i64 0, .int .i64 0]) ∧ Below W.heap.size W w') := by
  intro W h
  have := f1z 1 1 oneS oneS W h
  unfold f0c at this
  rw [g1c, j1z, k1b] at this
  simp only [k1c, if_true] at this
  exact Lib.hid this
 refine calls_of_wp Tryz.func13 rfl ?_
 refine a0v (a' := ⟨(us 26 []).toArray, []⟩) (by kernel_rfl) ?_
 refine yq ?_
 refine ye ?_
 refine ywv 0 rfl 5 (.slice (some ⟨w.heap.size, 0, none⟩) 4 4) #[.int .u8 63, .int .u8 128, .int .u8 0, .int .u8 0] 5 (fun V1 hbV1 hzV1 b5 => ?_)
 refine yv 0 rfl 6 (.string oneS) ?_ (k0a (p := some ⟨w.heap.size, 0, none⟩) (n := 4) (c := 4) (xs := [63, 128, 0, 0]) p0h x0u uStr (c1k b5) rfl (by kernel_rfl))
 refine yzt 1 ?_
 refine ye ?_
 replace hT := (hT.past hbV1)
 refine yc 2 rfl 10 ((HA V1 hT).out) (fun Gx hGx => ?_)
 rintro eV2 V2 ⟨rfl, hbV2⟩
 have hzV2 := hbV2.size
 refine ⟨_, rfl, hGx _ _ ?_⟩
 clear hGx Gx
 refine yzt 7 ?_
 refine ye ?_
 refine ywv 8 rfl 22 (.slice (some ⟨V2.heap.size, 0, none⟩) 4 4) #[.int .u8 64, .int .u8 0, .int .u8 0, .int .u8 0] 5 (fun V3 hbV3 hzV3 b22 => ?_)
 refine yv 0 rfl 23 (.string twoS) ?_ (k0a (p := some ⟨V2.heap.size, 0, none⟩) (n := 4) (c := 4) (xs := [64, 0, 0, 0]) p0h x0u uStr (c1k b22) rfl (by kernel_rfl))
 refine yv 0 rfl 24 (.bool true) ?_ (f1i (s := twoS) (by kernel_rfl) (by kernel_rfl))
 refine yzt 2 ?_
 refine wp_ret ?_
 repeat (first | with_reducible refine a0u ?_ | with_reducible refine a0q ?_)
 refine yret (.bool true) (res1 Tryz.results13 rvt) ?_
 exact ⟨rfl, (a0a (a0a hbV1 hbV2) hbV3)⟩

theorem t0h (n : Int) (r : Vr) (fl : Nat) (p : Option Addr) (c base : Nat) (w : World) (hn : IsFm n) (hp : Rf w base p c (dig B16 r.x.m)) (R : ResF (fmt n) r) :
 Calls Tryz.prog 14 #[.int .i64 n, .string (strR n r), .int .i64 (fl : Int), .int .i64 0, .int .i64 0, .agg #[.int .i64 (r.cls : Int), .bool r.neg, .bool r.x.neg, .slice p (dig B16 r.x.m).length c, .int .i64 r.x.e], .int .i64 (fl : Int)] w fun en w' => en = .returned (.bool true) ∧ Below w.heap.size w w' := by
 have hg := (c0b hn).g
 have hl : (dig B16 r.x.m).length ≤ 2400 := by
  by_cases h2 : r.cls = 2
  · have := v0r hg (R.c2 h2).1
    have := j0q r.x.m
    omega
  · rw [R.x0 h2]; show (dig B16 0).length ≤ _; rw [a0d]; decide
 have HE := fun W h => Lib.hid (n0y n r p c base W hn h hl (fun h2 => ⟨(R.c2 h2).1, (R.c2 h2).2.2.1, (R.c2 h2).2.1, (R.c2 h2).2.2.2, v0r hg (R.c2 h2).1⟩))
 have hs : b0m ((fmt n).strP ((fmt n).encP r.cls r.neg r.x)) = strR n r := rfl
 rw [hs] at HE
 generalize strR n r = s at *
 have I := Inv.start w [rfF base p c (dig B16 r.x.m)] ⟨hp, True.intro⟩
 refine a0c [.v (.int .i64 n), .v (.string s), .v (.int .i64 (fl : Int)), .v (.int .i64 0), .v (.int .i64 0), .v (.agg #[.int .i64 (r.cls : Int), .bool r.neg, .bool r.x.neg, .slice p (dig B16 r.x.m).length c, .int .i64 r.x.e]), .v (.int .i64 (fl : Int))] I Tryz.func14 ?_
 refine zg I (fun Al W I => (HE W I.fa.1).out) fun Al V Iv hzV hB Kz kz => ?_
 rintro _ W ⟨rfl, hb⟩
 refine ⟨_, rfl, kz _ _ hb fun I => ?_⟩
 refine zbin I 27 _ (fun _ _ _ _ _ => b1h s) fun Al W I => ?_
 refine zb I 32 ((fl : Int) == (fl : Int)) (true) (beq_self_eq_true _) fun Al W I => ?_
 exact zret I fun Al W I => ⟨rfl, I.below⟩
theorem r0k (n er fl : Int) (v : Value) (hv : ∃ k g h q l c e, v = .agg #[.int .i64 k, .bool g, .bool h, .slice q l c, .int .i64 e]) (w : World) (he : er ≠ 0) :
 Calls Tryz.prog 14 #[.int .i64 n, .string (b0m []), .int .i64 0, .int .i64 er, .int .i64 er, v, .int .i64 fl] w fun en w' => en = .returned (.bool true) ∧ Below w.heap.size w w' := by
 obtain ⟨k, g, h, q, l, c, e, rfl⟩ := hv
 have I := Inv.start w [] True.intro
 refine a0c [.v (.int .i64 n), .v (.string (b0m [])), .v (.int .i64 0), .v (.int .i64 er), .v (.int .i64 er), .v (.agg #[.int .i64 k, .bool g, .bool h, .slice q l c, .int .i64 e]), .v (.int .i64 fl)] I Tryz.func14 ?_
 refine zb I 17 (er == 0) (false) (bFn he) fun Al W I => ?_
 refine zb I 23 (er == er) (true) (beq_self_eq_true _) fun Al W I => ?_
 refine zbin I 27 _ (fun _ _ _ _ _ => b1h (b0m [])) fun Al W I => ?_
 exact zret I fun Al W I => ⟨rfl, I.below⟩

theorem m1q {n : Int} {xs : List Wp} {s t : ByteArray} (h : xs.map (·.r) = [s, t].map (refD n)) : ∃ p1 c1 p2 c2, xs = [⟨refD n s, p1, c1⟩, ⟨refD n t, p2, c2⟩] := by
 cases xs with
 | nil => simp at h
 | cons x l =>
  cases l with
  | nil => simp at h
  | cons y l =>
   cases l with
   | nil => simp only [List.map_cons, List.map_nil, List.cons.injEq, and_true] at h; rw [← h.1, ← h.2]; exact ⟨x.p, x.c, y.p, y.c, rfl⟩
   | cons _ _ => simp at h
def k1d (w : World) (r s : Vr) (en : Ending) (w' : World) : Prop :=
 ∃ p1 c1 p2 c2 p c, en = .returned (.tuple #[.slice p 2 c, .int .i64 0]) ∧ OwnS w' w.heap.size 32 5 p c 2 ((⟨r, p1, c1⟩ : Wp).cells ++ (⟨s, p2, c2⟩ : Wp).cells) ∧ Rf w' w.heap.size p1 c1 (dig B16 r.x.m) ∧ Rf w' w.heap.size p2 c2 (dig B16 s.x.m) ∧ Below w.heap.size w w'
theorem y0p (n way : Int) (s t : ByteArray) (b : Nat) (w : World) (hB0 : Bt w b 9 #[.string s, .string t]) (h0 : errR n way [s, t] = 0) :
 Calls Tryz.prog 11 #[.int .i64 n, .int .i64 way, .slice (some ⟨b, 0, none⟩) 2 2] w (k1d w (refD n s) (refD n t)) := by
 refine (c1y n way [s, t] b 2 w hB0 rfl (by simp) h0).mono fun en w' hh => ?_
 obtain ⟨xs, vs, p, c, h1, h2, h3, h4, h5, h6⟩ := hh
 obtain ⟨p1, c1, p2, c2, rfl⟩ := m1q h2
 subst h3
 exact ⟨p1, c1, p2, c2, p, c, h1, h4, h5 ⟨refD n s, p1, c1⟩ (by simp), h5 ⟨refD n t, p2, c2⟩ (by simp), h6⟩
theorem o0s (n way : Int) (s t : ByteArray) (b : Nat) (w : World) (hB0 : Bt w b 9 #[.string s, .string t]) (h0 : errR n way [s, t] ≠ 0) :
 Calls Tryz.prog 11 #[.int .i64 n, .int .i64 way, .slice (some ⟨b, 0, none⟩) 2 2] w fun en w' => en = .returned (.tuple #[.slice none 0 0, .int .i64 (errR n way [s, t])]) ∧ Below w.heap.size w w' :=
 y0o n way [s, t] b 2 w hB0 rfl (by simp) h0
theorem k1e {n way : Int} {s t : ByteArray} {R : Vr × Nat} {w : World} {fn : FuncId} {args : Array Value} (h : Calls Tryz.prog fn args w (f0c n way [s, t] R w)) (h0 : errR n way [s, t] = 0) :
 Calls Tryz.prog fn args w fun en w' => en = .returned (.tuple #[.string (strR n R.1), .int .i64 ((R.2 : Nat) : Int), .int .i64 0]) ∧ Below w.heap.size w w' := by
 unfold f0c at h
 simp only [h0, if_true] at h
 exact h
theorem g1d {n way : Int} {L : List ByteArray} {R : Vr × Nat} {w : World} {fn : FuncId} {args : Array Value} (h : Calls Tryz.prog fn args w (f0c n way L R w)) (h0 : errR n way L ≠ 0) :
 Calls Tryz.prog fn args w fun en w' => en = .returned (.tuple #[.string (b0m []), .int .i64 0, .int .i64 (errR n way L)]) ∧ Below w.heap.size w w' := by
 unfold f0c at h
 simp only [if_neg h0] at h
 exact h

theorem r0l (n : Int) (s t : ByteArray) (way : Int) (w : World) (hT : TabW w) : Calls Tryz.prog 6 #[.int .i64 n, .string s, .string t, .int .i64 way] w fun en w' => en = .returned (.bool true) ∧ Below w.heap.size w w' := by
 have HB0 := fun W h => Lib.hid (o0r W h)
 by_cases h0 : errR n way [s, t] = 0
 · obtain ⟨hn, hL, hw⟩ := k0n h0
   have HR := fun W h => Lib.hid (k1e (w0s n way s t W h) h0)
   have HO := fun W b h => Lib.hid (y0p n way s t b W h h0)
   have A1 := (h0h (s := s) hn).ok
   have B1 := (h0h (s := t) hn).ok
   have HF := fun W p1 c1 p2 c2 b1 b2 h1 h2 => Lib.hid (t0g n way ⟨refD n s, p1, c1⟩ ⟨refD n t, p2, c2⟩ b1 b2 W hn hw h1 h2 A1 B1)
   have RS : ResF (fmt n) ((fmt n).mulM (refD n s) (refD n t) way).1 := h1k (c0b hn) (h0h hn).inf (h0h hn).inf way
   generalize refD n s = r1 at *
   generalize refD n t = r2 at *
   obtain ⟨rS, flS, hS⟩ : ∃ rS flS, (fmt n).mulM r1 r2 way = (rS, flS) := ⟨_, _, rfl⟩
   simp only [hS] at HF HR RS
   unfold GVf at HF
   simp only at HF
   have HP := fun W p c b h => Lib.hid (t0h n rS flS p c b W hn h RS)
   generalize strR n rS = str at *
   clear hS RS A1 B1 h0 hL
   have I := Inv.start w [tabF] ⟨hT, True.intro⟩
   refine a0c [.v (.int .i64 n), .v (.string s), .v (.string t), .v (.int .i64 way)] I Tryz.func6 ?_
   refine zg I (fun Al W I => (HR W I.fa.1).out) fun Al V Iv hzV hB Kz kz => ?_
   rintro _ W ⟨rfl, hb⟩
   refine ⟨_, rfl, kz _ _ hb fun I => ?_⟩
   refine zg I (fun Al W I => (HO W _ (I.box 0 9 _)).out) fun Al V Iv hzV hB Kz kz => ?_
   rintro _ W ⟨p1, c1, p2, c2, p, c, rfl, oS, o1, o2, hb⟩
   refine ⟨_, rfl, kz _ _ hb fun I => ?_⟩
   have I := I.owns oS
   have I := I.rf o1 (hB _) Iv
   have I := I.rf o2 (hB _) Iv
   refine zd [1] I fun Al W I => ?_
   refine zk [0, 1, 4, 7] I fun I => ?_
   refine f0b I [(2, .v (.pointer (some (at_ p (0 * 5))))), (3, .v (.agg #[.int .i64 (r1.cls : Int), .bool r1.neg, .bool r1.x.neg, .slice p1 (dig B16 r1.x.m).length c1, .int .i64 r1.x.e])), (5, .v (.pointer (some (at_ p (1 * 5))))), (6, .v (.agg #[.int .i64 (r2.cls : Int), .bool r2.neg, .bool r2.x.neg, .slice p2 (dig B16 r2.x.m).length c2, .int .i64 r2.x.e]))] (fun Al W I => ?_) (fun KL17 => ?_)
   · refine zo 8 I (fun I => ?_)
     refine zg I (fun Al W I => (HF W p1 c1 p2 c2 _ _ I.fa.2.1 I.fa.1).out) fun Al V Iv hzV hB Kz kz => ?_
     rintro _ W ⟨p45, c45, rfl, o45, hb⟩
     refine ⟨_, rfl, kz _ _ hb fun I => ?_⟩
     have I := I.rf o45 (hB _) Iv
     refine zk [9, 10, 11] I fun I => ?_
     refine zo 12 I (fun I => ?_)
     refine zn I fun Al W I => ?_
     refine zk [13] I fun I => ?_
     refine zg I (fun Al W I => (HB0 W I.fa.2.2.2.2.1).out) fun Al V Iv hzV hB Kz kz => ?_
     rintro _ W ⟨rfl, hb⟩
     refine ⟨_, rfl, kz _ _ hb fun I => ?_⟩
     refine zg I (fun Al W I => (HP W p45 c45 _ I.fa.1).out) fun Al V Iv hzV hB Kz kz => ?_
     rintro _ W ⟨rfl, hb⟩
     refine ⟨_, rfl, kz _ _ hb fun I => ?_⟩
     exact zret I fun Al W I => ⟨rfl, I.below⟩
   refine f0b I [(2, .v (.pointer (some (at_ p (0 * 5))))), (3, .v (.agg #[.int .i64 (r1.cls : Int), .bool r1.neg, .bool r1.x.neg, .slice p1 (dig B16 r1.x.m).length c1, .int .i64 r1.x.e])), (5, .v (.pointer (some (at_ p (1 * 5)))))] (fun Al W I => ?_) (fun KL15 => ?_)
   · refine zo 6 I (fun I => ?_)
     refine zx I 43 (fun _ => .agg #[.int .i64 (r2.cls : Int), .bool r2.neg, .bool r2.x.neg, .slice p2 (dig B16 r2.x.m).length c2, .int .i64 r2.x.e]) (fun Al W I => (d0w (m := 1 * 5) I.fa.2.2.1 agV (⟨r2, p2, c2⟩ : Wp).cells rfl rfl)) fun Al W I => ?_
     exact zuse KL17 I
   refine f0b I [(2, .v (.pointer (some (at_ p (0 * 5))))), (5, .v (.pointer (some (at_ p (1 * 5))))), (6, .v (.agg #[.int .i64 (r2.cls : Int), .bool r2.neg, .bool r2.x.neg, .slice p2 (dig B16 r2.x.m).length c2, .int .i64 r2.x.e]))] (fun Al W I => ?_) (fun KL16 => ?_)
   · refine zo 3 I (fun I => ?_)
     refine zx I 40 (fun _ => .agg #[.int .i64 (r1.cls : Int), .bool r1.neg, .bool r1.x.neg, .slice p1 (dig B16 r1.x.m).length c1, .int .i64 r1.x.e]) (fun Al W I => (d0w (m := 0 * 5) I.fa.2.2.1 agV (⟨r1, p1, c1⟩ : Wp).cells rfl rfl)) fun Al W I => ?_
     exact zuse KL17 I
   refine f0b I [(2, .v (.pointer (some (at_ p (0 * 5))))), (3, .v (.agg #[.int .i64 (r1.cls : Int), .bool r1.neg, .bool r1.x.neg, .slice p1 (dig B16 r1.x.m).length c1, .int .i64 r1.x.e]))] (fun Al W I => ?_) (fun KL12 => ?_)
   · refine zo 5 I (fun I => ?_)
     refine zx I 42 (fun _ => .pointer (some (at_ p (1 * 5)))) (fun Al W I => (d0c (m := 1) (n := 2) (c := c) tvV I.fa.2.2.1.solid (by omega))) fun Al W I => ?_
     exact zuse KL15 I
   refine f0b I [(2, .v (.pointer (some (at_ p (0 * 5))))), (5, .v (.pointer (some (at_ p (1 * 5)))))] (fun Al W I => ?_) (fun KL13 => ?_)
   · refine zo2 3 6 I (fun I => ?_) (fun I => ?_)
     · refine zx I 40 (fun _ => .agg #[.int .i64 (r1.cls : Int), .bool r1.neg, .bool r1.x.neg, .slice p1 (dig B16 r1.x.m).length c1, .int .i64 r1.x.e]) (fun Al W I => (d0w (m := 0 * 5) I.fa.2.2.1 agV (⟨r1, p1, c1⟩ : Wp).cells rfl rfl)) fun Al W I => ?_
       exact zuse KL15 I
     refine zx I 43 (fun _ => .agg #[.int .i64 (r2.cls : Int), .bool r2.neg, .bool r2.x.neg, .slice p2 (dig B16 r2.x.m).length c2, .int .i64 r2.x.e]) (fun Al W I => (d0w (m := 1 * 5) I.fa.2.2.1 agV (⟨r2, p2, c2⟩ : Wp).cells rfl rfl)) fun Al W I => ?_
     exact zuse KL16 I
   refine f0b I [(5, .v (.pointer (some (at_ p (1 * 5))))), (6, .v (.agg #[.int .i64 (r2.cls : Int), .bool r2.neg, .bool r2.x.neg, .slice p2 (dig B16 r2.x.m).length c2, .int .i64 r2.x.e]))] (fun Al W I => ?_) (fun KL14 => ?_)
   · refine zo 2 I (fun I => ?_)
     refine zx I 39 (fun _ => .pointer (some (at_ p (0 * 5)))) (fun Al W I => (d0c (m := 0) (n := 2) (c := c) tvV I.fa.2.2.1.solid (by omega))) fun Al W I => ?_
     exact zuse KL16 I
   refine f0b I [(2, .v (.pointer (some (at_ p (0 * 5)))))] (fun Al W I => ?_) (fun KL10 => ?_)
   · refine zo2 3 5 I (fun I => ?_) (fun I => ?_)
     · refine zx I 40 (fun _ => .agg #[.int .i64 (r1.cls : Int), .bool r1.neg, .bool r1.x.neg, .slice p1 (dig B16 r1.x.m).length c1, .int .i64 r1.x.e]) (fun Al W I => (d0w (m := 0 * 5) I.fa.2.2.1 agV (⟨r1, p1, c1⟩ : Wp).cells rfl rfl)) fun Al W I => ?_
       exact zuse KL12 I
     refine zx I 42 (fun _ => .pointer (some (at_ p (1 * 5)))) (fun Al W I => (d0c (m := 1) (n := 2) (c := c) tvV I.fa.2.2.1.solid (by omega))) fun Al W I => ?_
     exact zuse KL13 I
   refine f0b I [(5, .v (.pointer (some (at_ p (1 * 5)))))] (fun Al W I => ?_) (fun KL11 => ?_)
   · refine zo2 2 6 I (fun I => ?_) (fun I => ?_)
     · refine zx I 39 (fun _ => .pointer (some (at_ p (0 * 5)))) (fun Al W I => (d0c (m := 0) (n := 2) (c := c) tvV I.fa.2.2.1.solid (by omega))) fun Al W I => ?_
       exact zuse KL13 I
     refine zx I 43 (fun _ => .agg #[.int .i64 (r2.cls : Int), .bool r2.neg, .bool r2.x.neg, .slice p2 (dig B16 r2.x.m).length c2, .int .i64 r2.x.e]) (fun Al W I => (d0w (m := 1 * 5) I.fa.2.2.1 agV (⟨r2, p2, c2⟩ : Wp).cells rfl rfl)) fun Al W I => ?_
     exact zuse KL14 I
   refine zo2 2 5 I (fun I => ?_) (fun I => ?_)
   · refine zx I 39 (fun _ => .pointer (some (at_ p (0 * 5)))) (fun Al W I => (d0c (m := 0) (n := 2) (c := c) tvV I.fa.2.2.1.solid (by omega))) fun Al W I => ?_
     exact zuse KL10 I
   refine zx I 42 (fun _ => .pointer (some (at_ p (1 * 5)))) (fun Al W I => (d0c (m := 1) (n := 2) (c := c) tvV I.fa.2.2.1.solid (by omega))) fun Al W I => ?_
   exact zuse KL11 I
 · have HR := fun W h => Lib.hid (g1d (w0s n way s t W h) h0)
   have HO := fun W b h => Lib.hid (o0s n way s t b W h h0)
   generalize errR n way [s, t] = er at *
   have HP := fun fl v hv W => Lib.hid (r0k n er fl v hv W h0)
   have I := Inv.start w [tabF] ⟨hT, True.intro⟩
   refine a0c [.v (.int .i64 n), .v (.string s), .v (.string t), .v (.int .i64 way)] I Tryz.func6 ?_
   refine zg I (fun Al W I => (HR W I.fa.1).out) fun Al V Iv hzV hB Kz kz => ?_
   rintro _ W ⟨rfl, hb⟩
   refine ⟨_, rfl, kz _ _ hb fun I => ?_⟩
   refine zg I (fun Al W I => (HO W _ (I.box 0 9 _)).out) fun Al V Iv hzV hB Kz kz => ?_
   rintro _ W ⟨rfl, hb⟩
   refine ⟨_, rfl, kz _ _ hb fun I => ?_⟩
   refine zb I 35 (er == 0) (false) (bFn h0) fun Al W I => ?_
   refine zg I (fun Al W I => (HB0 W I.fa.1).out) fun Al V Iv hzV hB Kz kz => ?_
   rintro _ W ⟨rfl, hb⟩
   refine ⟨_, rfl, kz _ _ hb fun I => ?_⟩
   refine zg I (fun Al W I => (HP 0 _ ⟨0, false, false, none, 0, 0, 0, rfl⟩ W).out) fun Al V Iv hzV hB Kz kz => ?_
   rintro _ W ⟨rfl, hb⟩
   refine ⟨_, rfl, kz _ _ hb fun I => ?_⟩
   exact zret I fun Al W I => ⟨rfl, I.below⟩

end Go.Proofs.YtlcdfnaaenibgaaGreatDoor
