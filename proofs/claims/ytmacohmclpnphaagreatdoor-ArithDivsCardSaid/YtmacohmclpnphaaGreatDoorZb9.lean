/- arith: decode. -/
import Derived.Test.YtmacohmclpnphaaGreatDoorZb1
import Derived.Test.YtmacohmclpnphaaGreatDoorZb2
import Derived.Test.YtmacohmclpnphaaGreatDoorZb3
import Derived.Test.YtmacohmclpnphaaGreatDoorZb4
import Derived.Test.YtmacohmclpnphaaGreatDoorZb5
import Derived.Test.YtmacohmclpnphaaGreatDoorZb6
import Derived.Test.YtmacohmclpnphaaGreatDoorZb7
import Derived.Test.YtmacohmclpnphaaGreatDoorZb8
set_option maxHeartbeats 8000000
set_option maxRecDepth 100000
namespace Go.Slip
open Go.RowKit
theorem i0b {P : Program} {w : World} {b : Nat} {t : TypeId} {vs : Array Value} (h : Bt w b t vs) {ty : TypeId} (hT : d0g P ty) {m : Nat} (v : Value) (hv : vs[m]? = some v) : (VO.ld ty (.pointer (some (at_ (some ⟨b, 0, none⟩) m)))).sem.run P w = .ok v w := by
 have := u0d h hT m v hv
 show (Instr.loadAt _ _).run P w = _
 unfold at_
 simpa using this
end Go.Slip
namespace Go.Proofs.YtmacohmclpnphaaGreatDoor
open Go.RowKit Go.Slip
def y0h (b : Nat) (xs : List Vp) : PF :=
 ⟨fun w => ∀ x, x ∈ xs → Own w b .u32 141 x.p x.c (dig B32 x.v.d), fun a => ∃ x, x ∈ xs ∧ x.p.isSome = true ∧ blk x.p = a, fun _ _ h hb _ x hx => (h x hx).same fun hp => hb _ ((h x hx).blk_lt hp).2 ⟨x, hx, hp, rfl⟩, fun _ _ h ⟨x, hx, hp, hf⟩ => hf ▸ ((h x hx).blk_lt hp).2⟩
theorem c1r {w : World} {b : Nat} {xs : List Vp} {v : Vl} {p : Option Addr} {c : Nat} (h : ∀ x, x ∈ xs → Own w b .u32 141 x.p x.c (dig B32 x.v.d)) (o : Own w b .u32 141 p c (dig B32 v.d)) : ∀ x, x ∈ xs ++ [⟨v, p, c⟩] → Own w b .u32 141 x.p x.c (dig B32 x.v.d) := fun x hx => by
 rw [List.mem_append, List.mem_singleton] at hx
 rcases hx with hx | rfl
 · exact h x hx
 · exact o
theorem f1q {b a : Nat} {xs : List Vp} {v : Vl} {p : Option Addr} {c : Nat} (h : (y0h b (xs ++ [⟨v, p, c⟩])).foot a) (h1 : ∀ x, (x ∈ xs ∧ x.p.isSome = true ∧ blk x.p = a) → False) (h2 : p.isSome = true → blk p = a → False) : False := by
 obtain ⟨x, hx, h3, h4⟩ := h
 rw [List.mem_append, List.mem_singleton] at hx
 rcases hx with hx | rfl
 · exact h1 x ⟨hx, h3, h4⟩
 · exact h2 h3 h4
theorem y0i : g0m Tryz.prog 96 9 (.string ByteArray.empty) 16 := tyV (by kernel_rfl) (by kernel_rfl) (by omega) rfl rfl
theorem y0j : d0g Tryz.prog 9 := c0i (by kernel_rfl) (by kernel_rfl)
def errL (n : Int) : List ByteArray → Int
 | [] => 0
 | s :: r => if b0d n s = 0 then errL n r else b0d n s
theorem v0c (n : Int) : ∀ (L : List ByteArray), errL n L ≠ 0 → ∃ (j : Nat) (s : ByteArray), L[j]? = some s ∧ errL n L = b0d n s ∧ b0d n s ≠ 0 ∧ ∀ i t, i < j → L[i]? = some t → b0d n t = 0
 | [], h => absurd rfl h
 | s :: r, h => by
  unfold errL at h ⊢
  by_cases hs : b0d n s = 0
  · rw [if_pos hs] at h ⊢
    obtain ⟨j, t, h1, h2, h3, h4⟩ := v0c n r h
    refine ⟨j + 1, t, by simpa using h1, h2, h3, fun i u hi hu => ?_⟩
    cases i with
    | zero => simp only [List.getElem?_cons_zero, Option.some.injEq] at hu; rw [← hu]; exact hs
    | succ i => exact h4 i u (by omega) (by simpa using hu)
  · rw [if_neg hs]
    exact ⟨0, s, rfl, rfl, hs, fun i t hi => by omega⟩
theorem g0t (n : Int) : ∀ {L : List ByteArray}, errL n L = 0 → ∀ s, s ∈ L → b0d n s = 0
 | [], _, s, h => by simp at h
 | t :: r, h, s, hs => by
  unfold errL at h
  by_cases ht : b0d n t = 0
  · rw [if_pos ht] at h
    rcases List.mem_cons.1 hs with rfl | hs
    · exact ht
    · exact g0t n h s hs
  · rw [if_neg ht] at h
    exact absurd h ht
def j1k (n : Int) (w : World) (L : List ByteArray) (en : Ending) (w' : World) : Prop :=
 ∃ (xs : List Vp) (vs : List Value) (p : Option Addr) (c : Nat), en = .returned (.tuple #[.slice p L.length c, .int .i64 0]) ∧ xs.map (·.v) = L.map (decP n) ∧ vs = xs.flatMap Vp.cells ∧ OwnS w' w.heap.size 75 4 p c L.length vs ∧ (∀ x, x ∈ xs → Own w' w.heap.size .u32 141 x.p x.c (dig B32 x.v.d)) ∧ Below w.heap.size w w'
theorem w0n (n way fl : Int) (L : List ByteArray) (b m u : Nat) (w : World) (U : Bt w u 182 #[.int .i64 n, .int .i64 way, .int .i64 (fmt n).g.rad, .int .i64 (fmt n).g.digs, .int .i64 (fmt n).g.lo, .int .i64 (fmt n).g.hi, .bool (fmt n).g.grad, .int .u8 (famB (fmt n)), .int .i64 fl]) (hB0 : Bt w b 9 (L.map Value.string).toArray) (hm : m = L.length) (hl : L.length ≤ 1000) (h0 : errL n L = 0) (hT : TabW w) :
 Calls Tryz.prog 113 #[.pointer (some ⟨u, 0, none⟩), .slice (some ⟨b, 0, none⟩) m m] w (j1k n w L) := by
 subst hm
 have HX : ∀ i, i < L.length → ∃ s : ByteArray, L[i]? = some s ∧ b0d n s = 0 ∧ (L.map Value.string).toArray[i]? = some (.string s) ∧ L.take (i + 1) = L.take i ++ [s] := fun i h => ⟨L[i], List.getElem?_eq_getElem h, g0t n h0 _ (List.getElem_mem h), by simp [h], by rw [List.take_add_one, List.getElem?_eq_getElem h]; rfl⟩
 have HD := fun s W h => hi0 (p0i n s W h)
 generalize fmt n = f at *
 have I := Inv.startW w u 182 (uS f n way fl) [btF b 9 (L.map Value.string).toArray, tabF] U ⟨hB0, hT, True.intro⟩ ⟨fun hf => hB0.far U (by kernel_rfl) hf, fun hf => hT.far U (by kernel_rfl) hf, True.intro⟩
 refine a0e [.p 0 0, .v (.slice (some ⟨b, 0, none⟩) L.length L.length)] I Tryz.func113 ?_
 have I := I.add (h0m w.heap.size 75 4 none 0 0 []) (OwnS.nil _ _ _ _) (fun _ _ h => by cases h.1)
 have I := I.add (y0h w.heap.size []) (fun _ h => by cases h) (fun _ _ ⟨_, h, _⟩ => by cases h)
 refine o0l I (fun gk fr bx gs => ∃ (U900 : Nat → Value) (i : Nat) (p6 : Option Addr) (c6 : Nat) (xs : List Vp) (vs : List Value), fr = (.p 0 0 :: .v (.slice (some ⟨b, 0, none⟩) L.length L.length) :: su 2 (sw U900 4 2 (.v (.slice p6 i c6) :: .v undef :: sw U900 8 3 (.v (.slice (some ⟨b, 0, none⟩) L.length L.length) :: .v (.int .i64 (L.length : Int)) :: .v (.int .i64 (i : Int)) :: sw U900 14 21 []))) : List SV) ∧ bx = [⟨182, (uS f n way fl), false⟩] ∧ gs = [y0h w.heap.size xs, h0m w.heap.size 75 4 p6 c6 i vs, btF b 9 (L.map Value.string).toArray, tabF] ∧ (gk + i = L.length) ∧ (vs = xs.flatMap Vp.cells) ∧ (xs.map (·.v) = (L.take i).map (decP n))) L.length (fun Al W U I => ⟨_, ⟨U, 0, none, 0, [], [], rfl, rfl, rfl, (by omega), rfl, rfl⟩, I.pick [0, 1, 2, 3]⟩) ?_
 rintro J gk0 _ _ _ ⟨U900, i, p6, c6, xs, vs, rfl, rfl, rfl, hgk, hvs, hxs⟩ hJ Al W I
 rcases Bool.eq_false_or_eq_true (decide ((i : Int) < (L.length : Int))) with f14 | f14
 · refine zb I 14 (decide ((i : Int) < (L.length : Int))) (true) (f14) fun Al W I => ?_
   obtain ⟨s, hs, hse, hsv, hst⟩ := HX i (by have := oTr f14; omega)
   refine zx I 15 (fun _ => .pointer (some (at_ (some ⟨b, 0, none⟩) i))) (fun Al W I => (h0x (m := i) (n := L.length) (c := L.length) y0i (fun _ => ⟨rfl, rfl⟩) (by have := oTr f14; omega))) fun Al W I => ?_
   refine zx I 16 (fun _ => .string s) (fun Al W I => (i0b I.fa.2.2.1 y0j _ hsv)) fun Al W I => ?_
   refine zqo I (fun Al W I => (HD s W I.fa.2.2.2.1).out) fun Al W p23 c23 I => ?_
   refine zb I 27 ((b0d n s) != 0) (false) (bne_eq_false_iff_eq.2 hse) fun Al W I => ?_
   have I := I.pick [2, 0, 1, 3, 4]
   refine zap I t0f 2 1 (fun Al => [.int .i64 (((decP n s).cls : Nat) : Int), .bool ((decP n s).neg), .slice p23 (dig B32 (decP n s).d).length c23, .int .i64 ((decP n s).pow)]) (fun Al W I => I.box 2 75 _) (by omega) (fun Al W I hp => ⟨I.fa.1.apart I.fa.2.1 (by kernel_rfl) hp, fun ⟨x, hx, h⟩ => I.fa.1.apart (I.fa.2.2.1 x hx) (by kernel_rfl) hp h, fun e => I.fa.1.far I.fa.2.2.2.1 (by kernel_rfl) hp (Eq.symm e), fun e => by have h1 := (I.fa.1.blk_lt hp).1; have h2 := hT.2; have e : 0 = _ := e; omega, True.intro⟩) fun Al W p32 c32 hq_32 I => ?_
   have I := I.add (y0h w.heap.size (xs ++ [(⟨decP n s, p23, c23⟩ : Vp)])) (c1r I.fa.2.2.1 I.fa.2.1) (fun a ha h => f1q h ((fun a ha h0 e => (I.far a ha).2.2.1 ⟨h0, e⟩) a ha) ((fun a ha h0 e => (I.far a ha).2.1 ⟨h0, e⟩) a ha))
   refine zi I 33 .i64 ((i : Int) + 1) (((i + 1 : Nat) : Int)) ((by rw [show ((i : Int) + 1) = ((i + 1 : Nat) : Int) by omega]; exact IntWalk.i64_in _ (by have := oTr f14; omega))) fun Al W I => ?_
   exact p0o 1 I J fun Al W U I => hJ (gk0 - 1) _ _ _ _ _ ((by have := oTr f14; omega)) ⟨U, i + 1, p32, c32, xs ++ [(⟨decP n s, p23, c23⟩ : Vp)], _, rfl, rfl, rfl, (by have := oTr f14; omega), (by rw [hvs, List.flatMap_append]; rfl), (by rw [hst, List.map_append, List.map_append, hxs]; rfl)⟩ (I.pick [0, 1, 4, 5])
 refine zb I 14 (decide ((i : Int) < (L.length : Int))) (false) (f14) fun Al W I => ?_
 have hi : i = L.length := by have := oFa f14; omega
 exact zret I (v := fun Al => .tuple #[.slice p6 i c6, .int .i64 0]) fun Al W I => ⟨xs, vs, p6, c6, by rw [hi], by rw [hxs, hi, List.take_length], hvs, hi ▸ I.fa.2.1, I.fa.1, I.bel.toBelow U (I.boxE 182 _)⟩
theorem _root_.Go.Slip.Inv.ownl {E : List Nat} {w0 : World} {A : List Nat} {bx : List Box} {fs : List PF} {W : World} (I : Inv E w0 A bx fs W) {b : Nat} {xs : List Vp} (o : ∀ x, x ∈ xs → Own W b .u32 141 x.p x.c (dig B32 x.v.d)) (hb : w0.heap.size ≤ b := by first | exact Nat.le_refl _ | assumption | omega) (hne : q0t 141 bx = true := by kernel_rfl) :
 Inv E w0 A bx (y0h w0.heap.size xs :: fs) W :=
 I.add (y0h w0.heap.size xs) (fun x hx => (o x hx).mono hb) fun a ha ⟨x, hx, hf1, hf2⟩ => by
  obtain ⟨j, hj, _, rfl⟩ := ha
  exact (o x hx).far (I.bt j hj) (g0n hne j hj) hf1 hf2
theorem t0h (n way fl : Int) (L : List ByteArray) (b m u : Nat) (w : World) (U : Bt w u 182 #[.int .i64 n, .int .i64 way, .int .i64 (fmt n).g.rad, .int .i64 (fmt n).g.digs, .int .i64 (fmt n).g.lo, .int .i64 (fmt n).g.hi, .bool (fmt n).g.grad, .int .u8 (famB (fmt n)), .int .i64 fl]) (hB0 : Bt w b 9 (L.map Value.string).toArray) (hm : m = L.length) (hl : L.length ≤ 1000) (h0 : errL n L ≠ 0) (hT : TabW w) :
 Calls Tryz.prog 113 #[.pointer (some ⟨u, 0, none⟩), .slice (some ⟨b, 0, none⟩) m m] w fun en w' => en = .returned (.tuple #[.slice none 0 0, .int .i64 (errL n L)]) ∧ Below w.heap.size w w' := by
 subst hm
 obtain ⟨j, sj, hj, he, hne, hlt⟩ := v0c n L h0
 have hjl : j < L.length := (List.getElem?_eq_some_iff.1 hj).1
 rw [he]
 have HX : ∀ i, i < L.length → ∃ s : ByteArray, (L.map Value.string).toArray[i]? = some (.string s) ∧ (i < j → b0d n s = 0) ∧ (i = j → b0d n s = b0d n sj) := fun i h => ⟨L[i], by simp [h], fun k => hlt i _ k (List.getElem?_eq_getElem h), fun k => by subst k; rw [List.getElem?_eq_getElem h] at hj; cases hj; rfl⟩
 have HD := fun s W h => hi0 (p0i n s W h)
 clear he h0 hlt hj
 generalize b0d n sj = er at *
 generalize fmt n = f at *
 have I := Inv.startW w u 182 (uS f n way fl) [btF b 9 (L.map Value.string).toArray, tabF] U ⟨hB0, hT, True.intro⟩ ⟨fun hf => hB0.far U (by kernel_rfl) hf, fun hf => hT.far U (by kernel_rfl) hf, True.intro⟩
 refine a0e [.p 0 0, .v (.slice (some ⟨b, 0, none⟩) L.length L.length)] I Tryz.func113 ?_
 have I := I.add (h0m w.heap.size 75 4 none 0 0 []) (OwnS.nil _ _ _ _) (fun _ _ h => by cases h.1)
 refine o0l I (fun gk fr bx gs => ∃ (U900 : Nat → Value) (i : Nat) (p6 : Option Addr) (c6 : Nat) (vs : List Value), fr = (.p 0 0 :: .v (.slice (some ⟨b, 0, none⟩) L.length L.length) :: su 2 (sw U900 4 2 (.v (.slice p6 i c6) :: .v undef :: sw U900 8 3 (.v (.slice (some ⟨b, 0, none⟩) L.length L.length) :: .v (.int .i64 (L.length : Int)) :: .v (.int .i64 (i : Int)) :: sw U900 14 21 []))) : List SV) ∧ bx = [⟨182, (uS f n way fl), false⟩] ∧ gs = [h0m w.heap.size 75 4 p6 c6 i vs, btF b 9 (L.map Value.string).toArray, tabF] ∧ (gk + i = L.length) ∧ (i ≤ j)) L.length (fun Al W U I => ⟨_, ⟨U, 0, none, 0, [], rfl, rfl, rfl, (by omega), (by omega)⟩, I.pick [0, 1, 2]⟩) ?_
 rintro J gk0 _ _ _ ⟨U900, i, p6, c6, vs, rfl, rfl, rfl, hgk, hij⟩ hJ Al W I
 rcases Bool.eq_false_or_eq_true (decide ((i : Int) < (L.length : Int))) with f14 | f14
 · refine zb I 14 (decide ((i : Int) < (L.length : Int))) (true) (f14) fun Al W I => ?_
   obtain ⟨s, hsv, hs0, hse⟩ := HX i (by have := oTr f14; omega)
   refine zx I 15 (fun _ => .pointer (some (at_ (some ⟨b, 0, none⟩) i))) (fun Al W I => (h0x (m := i) (n := L.length) (c := L.length) y0i (fun _ => ⟨rfl, rfl⟩) (by have := oTr f14; omega))) fun Al W I => ?_
   refine zx I 16 (fun _ => .string s) (fun Al W I => (i0b I.fa.2.1 y0j _ hsv)) fun Al W I => ?_
   refine zqo I (fun Al W I => (HD s W I.fa.2.2.1).out) fun Al W p23 c23 I => ?_
   by_cases hij2 : i = j
   · refine zb I 27 ((b0d n s) != 0) (true) (bne_iff_ne.2 (by rw [hse hij2]; exact hne)) fun Al W I => ?_
     exact zret I (v := fun Al => .tuple #[.slice none 0 0, .int .i64 (b0d n s)]) fun Al W I => ⟨by rw [hse hij2], I.bel.toBelow U (I.boxE 182 _)⟩
   refine zb I 27 ((b0d n s) != 0) (false) (bne_eq_false_iff_eq.2 (hs0 (by omega))) fun Al W I => ?_
   have I := I.pick [1, 0, 2, 3]
   refine zap I t0f 2 1 (fun Al => [.int .i64 (((decP n s).cls : Nat) : Int), .bool ((decP n s).neg), .slice p23 (dig B32 (decP n s).d).length c23, .int .i64 ((decP n s).pow)]) (fun Al W I => I.box 2 75 _) (by omega) (fun Al W I hp => ⟨I.fa.1.apart I.fa.2.1 (by kernel_rfl) hp, fun e => I.fa.1.far I.fa.2.2.1 (by kernel_rfl) hp (Eq.symm e), fun e => by have h1 := (I.fa.1.blk_lt hp).1; have h2 := hT.2; have e : 0 = _ := e; omega, True.intro⟩) fun Al W p32 c32 hq_32 I => ?_
   refine zi I 33 .i64 ((i : Int) + 1) (((i + 1 : Nat) : Int)) ((by rw [show ((i : Int) + 1) = ((i + 1 : Nat) : Int) by omega]; exact IntWalk.i64_in _ (by have := oTr f14; omega))) fun Al W I => ?_
   exact p0o 1 I J fun Al W U I => hJ (gk0 - 1) _ _ _ _ _ ((by have := oTr f14; omega)) ⟨U, i + 1, p32, c32, _, rfl, rfl, rfl, (by have := oTr f14; omega), (by omega)⟩ (I.pick [0, 2, 3])
 refine zb I 14 (decide ((i : Int) < (L.length : Int))) (false) (f14) fun Al W I => ?_
 exact zret I (v := fun Al => .tuple #[.slice p6 i c6, .int .i64 0]) fun Al W I => absurd (oFa f14) (by rw [Classical.not_not]; omega)
end Go.Proofs.YtmacohmclpnphaaGreatDoor
namespace Go.Slip
open Go.RowKit
theorem Inv.rdN {E : List Nat} {w0 : World} {A : List Nat} {bx bx' : List Box} {fs fs' : List PF} {W V : World} (I : Inv E w0 A bx fs W) {k : IntKind} {p : Option Addr} {xs : List Nat} (o : Rd W k p xs) (hat : 0 < xs.length → V.heap.size ≤ blk p) (hB : ∀ a, Fa A bx a → Fa A bx' a) (J : Inv E w0 A bx' fs' V) : Inv E w0 A bx (rdF k p xs :: fs) W :=
 I.add (rdF k p xs) o fun a ha hf => by
  have h1 := J.lt a (hB a ha)
  have h2 := hat hf.1
  have h3 := hf.2
  omega
theorem w0o {α : Type} {s : Nat} {f : α → List Value} (hf : ∀ x, (f x).length = s) {xs : List α} {i j : Nat} {x : α} {v : Value} (h : xs[i]? = some x) (hv : (f x)[j]? = some v) : (xs.flatMap f).toArray[i * s + j]? = some v := by
 have h1 := r0k hf h
 have hj := (List.getElem?_eq_some_iff.1 hv).1
 rw [← h1, List.getElem?_take, if_pos hj, List.getElem?_drop] at hv
 simpa using hv
end Go.Slip
namespace Go.Proofs.YtmacohmclpnphaaGreatDoor
open Go.RowKit Go.Slip
structure Wp where
 r : Vr
 p : Option Addr
 c : Nat
def Wp.cells (x : Wp) : List Value := [.int .i64 (x.r.cls : Int), .bool x.r.neg, .bool x.r.x.neg, .slice x.p (dig B16 x.r.x.m).length x.c, .int .i64 x.r.x.e]
theorem Wp.len (x : Wp) : x.cells.length = 5 := rfl
theorem tvV : y0f Tryz.prog 25 32 5 56 := w0k (z := .agg #[.int .i64 0, .bool false, .bool false, .slice none 0 0, .int .i64 0]) (by kernel_rfl) (by kernel_rfl) (by kernel_rfl) (by kernel_rfl) (by kernel_rfl)
theorem agV : d0m Tryz.prog 32 5 := c0h (by kernel_rfl) (by kernel_rfl)
theorem m1k : d0g Tryz.prog 3 := c0i (by kernel_rfl) (by kernel_rfl)
theorem f1r {neg : Bool} {num den : Nat} {e way : Int} {f : Fm} (G : c0e f) (hd : 0 < den) (ho : (a0q neg num den e f.g way).over = false) (hz : ¬ ((a0q neg num den e f.g way).under = true ∧ f.fam ≠ 1 ∧ (a0q neg num den e f.g way).pow < f.g.lo)) :
 -20000 ≤ (a0q neg num den e f.g way).pow ∧ (a0q neg num den e f.g way).pow ≤ 20000 := by
 by_cases h0 : (a0q neg num den e f.g way).d = 0
 · have : (a0q neg num den e f.g way).pow = 0 := by
    unfold a0q at *
    by_cases hn : num = 0
    · rw [if_pos hn]
    · rw [if_neg hn] at *
      generalize theK num den e (wid f.g) f.g.digs.toNat = K at *
      have h0 : digP neg num den e (wid f.g) f.g.digs.toNat way (powK f.g K) = 0 := h0
      show (if digP neg num den e (wid f.g) f.g.digs.toNat way (powK f.g K) = 0 then 0 else powP neg num den e (wid f.g) f.g.digs.toNat way (powK f.g K)) = 0
      rw [if_pos h0]
   omega
 · have V := (g0s G (neg := neg) (num := num) (den := den) (e := e) (way := way) hd).2
   have hl := V.lo
   have hh := V.hi
   have e : f.placedV (a0q neg num den e f.g way) way = ⟨2, (a0q neg num den e f.g way).neg, (a0q neg num den e f.g way).d, (a0q neg num den e f.g way).pow⟩ := by
    unfold Fm.placedV
    rw [if_neg (by rw [ho]; simp), if_neg hz, if_neg h0]
   rw [e] at hl hh
   exact ⟨hl, hh⟩
theorem r0m (n way : Int) (ng : Bool) (p q : Option Addr) (c d b1 b2 : Nat) (num den : Nat) (e : Int) (w : World) (hn : IsFm n) (hw : 1 ≤ way ∧ way ≤ 5) (hp : Rf w b1 p c (dig B16 num)) (hq : Rf w b2 q d (dig B16 den))
 (hl : (dig B16 num).length ≤ 20000) (hl2 : (dig B16 den).length ≤ 20000) (hd : 0 < den) (he : -200000 ≤ e ∧ e ≤ 200000) :
 Calls Tryz.prog 53 #[.int .i64 n, .agg #[.bool ng, .slice p (dig B16 num).length c, .slice q (dig B16 den).length d, .int .i64 e], .int .i64 way] w (GVf w w.heap.size ((fmt n).placedM (a0q ng num den e (fmt n).g way) way)) := by
 have HF := fun W => hi0 (b0j n W)
 rw [decide_eq_true hn] at HF
 have G := c0c hn
 have GG := b0s G.g
 have HR := fun W h1 h2 => hi0 (o0p ng p q c d num den e (fmt n).g way W h1 h2 hl hl2 hd he GG hw.1 hw.2)
 have hlen := u0x (neg := ng) (num := num) (e := e) (way := way) hd GG
 have HP := fun W pp cc h1 => hi0 (r0j n way (a0q ng num den e (fmt n).g way) pp cc W hn hw h1 (by have := m0o (a0q ng num den e (fmt n).g way).d; omega) (f1r G hd))
 generalize a0q ng num den e (fmt n).g way = P at *
 obtain ⟨r, fl, hr⟩ : ∃ r fl, (fmt n).placedM P way = (r, fl) := ⟨_, _, rfl⟩
 rw [hr] at HP ⊢
 unfold GVf at HP
 simp only at HP
 clear hr
 generalize fmt n = f at *
 have I := Inv.start w [rfF b1 p c (dig B16 num), rfF b2 q d (dig B16 den)] ⟨hp, hq, True.intro⟩
 refine a0e [.v (.int .i64 n), .v (.agg #[.bool ng, .slice p (dig B16 num).length c, .slice q (dig B16 den).length d, .int .i64 e]), .v (.int .i64 way)] I Tryz.func53 ?_
 refine zq I (fun Al W I => (HF W).out) fun Al W I => ?_
 refine zg I (fun Al W I => (HR W I.fa.1.rd I.fa.2.1.rd).out) fun Al V Iv _ hB _ kz => ?_
 rintro _ W ⟨p20, c20, rfl, o20, a20, hb⟩
 refine ⟨_, rfl, kz _ _ hb fun I => ?_⟩
 have I := I.rdN o20 a20 (hB _) Iv
 refine zqr I (fun Al W I => (HP W p20 c20 I.fa.1).out) fun Al W p22 c22 I => ?_
 exact zret I fun Al W I => ⟨p22, c22, rfl, I.fa.1, I.below⟩
theorem v0d (n : Int) (w : World) (hn : IsFm n) : Calls Tryz.prog 50 #[.int .i64 n] w fun en w' => en = .returned (.tuple #[.agg #[.int .i64 (((fmt n).nothM.cls : Nat) : Int), .bool false, .bool false, .slice none 0 0, .int .i64 0], .int .i64 16]) ∧ Below w.heap.size w w' := by
 have HN := fun W => hi0 (e0i n W hn)
 generalize (fmt n).nothM.cls = k at *
 have I := Inv.start w [] True.intro
 refine a0e [.v (.int .i64 n)] I Tryz.func50 ?_
 refine zq I (fun Al W I => (HN W).out) fun Al W I => ?_
 exact zrb I
def errR (n way : Int) (L : List ByteArray) : Int := if IsFm n then (if errL n L = 0 then (if 1 ≤ way ∧ way ≤ 5 then 0 else 6) else errL n L) else 6
def j1l (n way : Int) (L : List ByteArray) (fn : FuncId) (R : Vr × Nat) : Prop :=
 ∀ (xs : List Vp) (vs : List Value) (p : Option Addr) (c base u : Nat) (W : World), xs.map (·.v) = L.map (decP n) → vs = xs.flatMap Vp.cells → OwnS W base 75 4 p c L.length vs → (∀ x, x ∈ xs → Own W base .u32 141 x.p x.c (dig B32 x.v.d)) →
  Bt W u 182 #[.int .i64 n, .int .i64 way, .int .i64 (fmt n).g.rad, .int .i64 (fmt n).g.digs, .int .i64 (fmt n).g.lo, .int .i64 (fmt n).g.hi, .bool (fmt n).g.grad, .int .u8 (famB (fmt n)), .int .i64 0] → TabW W → base ≤ W.heap.size →
  Calls Tryz.prog fn #[.pointer (some ⟨u, 0, none⟩), .slice p L.length c] W (e0t (fmt n) n way u W base R)
def strR (n : Int) (r : Vr) : ByteArray := b0q ((fmt n).strP ((fmt n).encP r.cls r.neg r.x))
theorem g1z (n way : Int) (L : List ByteArray) (fn : FuncId) (R : Vr × Nat) (b m : Nat) (w : World) (hB0 : Bt w b 9 (L.map Value.string).toArray) (hm : m = L.length) (hl : L.length ≤ 1000) (hT : TabW w)
 (hfn : ∀ args w, (callFunc fn args).run Tryz.prog w = .ok (.enter fn args) w) (h0 : errR n way L = 0) (HD : j1l n way L fn R) (HR : ResF (fmt n) R.1) :
 Calls Tryz.prog 46 #[.int .i64 n, .int .i64 way, .func (.func fn) #[] #[], .slice (some ⟨b, 0, none⟩) m m] w fun en w' => en = .returned (.tuple #[.string (strR n R.1), .int .i64 ((R.2 : Nat) : Int), .int .i64 0]) ∧ Below w.heap.size w w' := by
 subst hm
 have hn : IsFm n := by unfold errR at h0; split at h0; assumption; omega
 unfold errR at h0
 rw [if_pos hn] at h0
 have hL : errL n L = 0 := by split at h0; assumption; contradiction
 rw [if_pos hL] at h0
 have hw : 1 ≤ way ∧ way ≤ 5 := by split at h0; assumption; omega
 clear h0
 obtain ⟨r, fl⟩ := R
 simp only at HR ⊢
 have HO1 := fun W => hi0 (v0b n 1 W hn (by omega))
 have HO2 := fun W => hi0 (v0b n way W hn hw)
 have HDe := fun W u h1 h2 h3 => hi0 (w0n n 1 0 L b L.length u W h1 h2 rfl hl hL h3)
 have HDo := fun xs vs p c base u W h1 h2 h3 h4 h5 h6 h7 => hi0 (HD xs vs p c base u W h1 h2 h3 h4 h5 h6 h7)
 have HT := fun W (v : Vl) p c base u h1 h2 h3 h4 => hi0 (m1j n way (fl : Int) ⟨v, p, c⟩ r base u W h1 h2 hn h3 HR h4)
 have hs : strR n r = b0q ((fmt n).strP ((fmt n).encP r.cls r.neg r.x)) := rfl
 rw [← hs] at HT
 clear hs
 generalize strR n r = s at *
 generalize fmt n = f at *
 have I := Inv.start w [btF b 9 (L.map Value.string).toArray, tabF] ⟨hB0, hT, True.intro⟩
 refine a0e [.v (.int .i64 n), .v (.int .i64 way), .v (.func (.func fn) #[] #[]), .v (.slice (some ⟨b, 0, none⟩) L.length L.length)] I Tryz.func46 ?_
 refine zg I (fun Al W I => (HO1 W).out) fun Al V Iv _ hB _ kz => ?_
 rintro _ W ⟨u16, rfl, hge, hB, hb⟩
 refine ⟨_, rfl, kz _ _ hb fun I => ?_⟩
 refine f1h Iv hb 0 u16 182 [(.int .i64 n), (.int .i64 1), (.int .i64 f.g.rad), (.int .i64 f.g.digs), (.int .i64 f.g.lo), (.int .i64 f.g.hi), (.bool f.g.grad), (.int .u8 (famB f)), (.int .i64 0)] hge hB fun Al hAl_16 I => ?_
 refine f1i I 17 0 u16 hAl_16 fun Al W I => ?_
 refine zg I (fun Al W I => (HDe W _ (I.box 0 182 _) I.fa.1 I.fa.2.1).out) fun Al V Iv _ hB _ kz => ?_
 rintro _ W ⟨xs, vs, p25, c25, rfl, hxs, hvs, oS, oL, hb⟩
 refine ⟨_, rfl, kz _ _ hb fun I => ?_⟩
 have I := I.owns oS
 have I := I.ownl oL
 refine zg I (fun Al W I => (HO2 W).out) fun Al V Iv _ hB _ kz => ?_
 rintro _ W ⟨u34, rfl, hge, hB, hb⟩
 refine ⟨_, rfl, kz _ _ hb fun I => ?_⟩
 refine f1h Iv hb 1 u34 182 [(.int .i64 n), (.int .i64 way), (.int .i64 f.g.rad), (.int .i64 f.g.digs), (.int .i64 f.g.lo), (.int .i64 f.g.hi), (.bool f.g.grad), (.int .u8 (famB f)), (.int .i64 0)] hge hB fun Al hAl_34 I => ?_
 refine f1i I 35 1 u34 hAl_34 fun Al W I => ?_
 refine zgfe (hf := hfn) I 1 182 (fun Al W I => (HDo xs vs p25 c25 _ _ W hxs hvs I.fa.2.1 I.fa.1 (I.box 1 182 _) I.fa.2.2.2.1 I.bel.size).out) fun Al V Iv _ _ kz => ?_
 rintro _ W ⟨v44, hR44, p44, c44, rfl, o44, hO, hB⟩
 refine ⟨_, rfl, kz _ (uS f n way (fl : Int)) _ hO hB fun I => ?_⟩
 have I := I.own o44
 refine zq I (fun Al W I => (HT W v44 p44 c44 _ _ (I.box 1 182 _) I.fa.1 hR44 I.fa.2.2.2.2.1).out) fun Al W I => ?_
 exact zrb I
theorem c1s (n way : Int) (L : List ByteArray) (fn : FuncId) (b m : Nat) (w : World) (hB0 : Bt w b 9 (L.map Value.string).toArray) (hm : m = L.length) (hl : L.length ≤ 1000) (hT : TabW w) (h0 : errR n way L ≠ 0) :
 Calls Tryz.prog 46 #[.int .i64 n, .int .i64 way, .func (.func fn) #[] #[], .slice (some ⟨b, 0, none⟩) m m] w fun en w' => en = .returned (.tuple #[.string (b0q []), .int .i64 0, .int .i64 (errR n way L)]) ∧ Below w.heap.size w w' := by
 subst hm
 unfold errR at h0 ⊢
 by_cases hn : IsFm n
 · rw [if_pos hn] at h0 ⊢
   have HO1 := fun W => hi0 (v0b n 1 W hn (by omega))
   by_cases hL : errL n L = 0
   · rw [if_pos hL] at h0 ⊢
     have hw : ¬ (1 ≤ way ∧ way ≤ 5) := fun h => h0 (if_pos h)
     rw [if_neg hw]
     have HO2 := fun W => hi0 (w0m n way W (fun h => hw h.2))
     have HDe := fun W u h1 h2 h3 => hi0 (w0n n 1 0 L b L.length u W h1 h2 rfl hl hL h3)
     generalize fmt n = f at *
     have I := Inv.start w [btF b 9 (L.map Value.string).toArray, tabF] ⟨hB0, hT, True.intro⟩
     refine a0e [.v (.int .i64 n), .v (.int .i64 way), .v (.func (.func fn) #[] #[]), .v (.slice (some ⟨b, 0, none⟩) L.length L.length)] I Tryz.func46 ?_
     refine zg I (fun Al W I => (HO1 W).out) fun Al V Iv _ hB _ kz => ?_
     rintro _ W ⟨u16, rfl, hge, hB, hb⟩
     refine ⟨_, rfl, kz _ _ hb fun I => ?_⟩
     refine f1h Iv hb 0 u16 182 [(.int .i64 n), (.int .i64 1), (.int .i64 f.g.rad), (.int .i64 f.g.digs), (.int .i64 f.g.lo), (.int .i64 f.g.hi), (.bool f.g.grad), (.int .u8 (famB f)), (.int .i64 0)] hge hB fun Al hAl_16 I => ?_
     refine f1i I 17 0 u16 hAl_16 fun Al W I => ?_
     refine zg I (fun Al W I => (HDe W _ (I.box 0 182 _) I.fa.1 I.fa.2.1).out) fun Al V Iv _ hB _ kz => ?_
     rintro _ W ⟨xs, vs, p25, c25, rfl, hxs, hvs, oS, oL, hb⟩
     refine ⟨_, rfl, kz _ _ hb fun I => ?_⟩
     have I := I.owns oS
     have I := I.ownl oL
     refine zq I (fun Al W I => (HO2 W).out) fun Al W I => ?_
     exact zrb I
   · rw [if_neg hL] at h0 ⊢
     have HDe := fun W u h1 h2 h3 => hi0 (t0h n 1 0 L b L.length u W h1 h2 rfl hl hL h3)
     generalize errL n L = er at *
     generalize fmt n = f at *
     have I := Inv.start w [btF b 9 (L.map Value.string).toArray, tabF] ⟨hB0, hT, True.intro⟩
     refine a0e [.v (.int .i64 n), .v (.int .i64 way), .v (.func (.func fn) #[] #[]), .v (.slice (some ⟨b, 0, none⟩) L.length L.length)] I Tryz.func46 ?_
     refine zg I (fun Al W I => (HO1 W).out) fun Al V Iv _ hB _ kz => ?_
     rintro _ W ⟨u16, rfl, hge, hB, hb⟩
     refine ⟨_, rfl, kz _ _ hb fun I => ?_⟩
     refine f1h Iv hb 0 u16 182 [(.int .i64 n), (.int .i64 1), (.int .i64 f.g.rad), (.int .i64 f.g.digs), (.int .i64 f.g.lo), (.int .i64 f.g.hi), (.bool f.g.grad), (.int .u8 (famB f)), (.int .i64 0)] hge hB fun Al hAl_16 I => ?_
     refine f1i I 17 0 u16 hAl_16 fun Al W I => ?_
     refine zq I (fun Al W I => (HDe W _ (I.box 0 182 _) I.fa.1 I.fa.2.1).out) fun Al W I => ?_
     refine zb I 29 (er != 0) (true) (bne_iff_ne.2 hL) fun Al W I => ?_
     exact zrb I
 · rw [if_neg hn]
   have HO1 := fun W => hi0 (w0m n 1 W (fun h => hn h.1))
   have I := Inv.start w [] True.intro
   refine a0e [.v (.int .i64 n), .v (.int .i64 way), .v (.func (.func fn) #[] #[]), .v (.slice (some ⟨b, 0, none⟩) L.length L.length)] I Tryz.func46 ?_
   refine zq I (fun Al W I => (HO1 W).out) fun Al W I => ?_
   exact zrb I
structure VrF (f : Fm) (r : Vr) : Prop where
 ok : VrOk r
 inf : r.cls = 3 → f.fam = 1
def refD (n : Int) (s : ByteArray) : Vr := (fmt n).refN (b0e (fmt n) s)
theorem m1l {f : Fm} (G : c0e f) (neg : Bool) {e frac : Nat} (h : e < 2 ^ f.E) : (f.dec neg e frac).p = 0 ∨ (f.g.lo ≤ (f.dec neg e frac).p ∧ (f.dec neg e frac).p ≤ f.g.hi + 1) := by
 have h3 := G.hi1
 have h4 := G.hi2
 have h5 := G.hi3
 have h6 := G.fam
 have gg := (b0s G.g).le
 have e1 := G.e1
 have hE1 : (2 : Nat) ^ 7 ≤ 2 ^ f.E := Nat.pow_le_pow_right (by omega) e1
 unfold Fm.dec
 generalize 2 ^ f.E = T at *
 repeat' split
 all_goals first | exact .inl rfl | (right; simp only; omega)
theorem j1m {f : Fm} (neg : Bool) {e frac : Nat} (h : (f.dec neg e frac).c = 3) : f.fam = 1 := by
 have h : (f.dec neg e frac).cls = 3 := by
  unfold Dc.c at h
  split at h <;> omega
 unfold Fm.dec at h
 split at h
 · simp at h
 · split at h
   · rename_i k
     exact k.1
   · split at h
     · split at h <;> simp at h
     · split at h
       · simp at h
       · split at h
         · simp at h
         · split at h <;> simp at h
theorem h0j {n : Int} {s : ByteArray} (hn : IsFm n) : VrF (fmt n) (refD n s) := by
 have G := c0c hn
 have GG := b0s G.g
 obtain ⟨w1, w2, w3⟩ := k0u G.g
 have he : (fmt n).exp (b0e (fmt n) s) < 2 ^ (fmt n).E := Nat.mod_lt _ (Nat.pow_pos (by omega))
 have hx : (fmt n).frac (b0e (fmt n) s) < 2 ^ (fmt n).F := Nat.mod_lt _ (Nat.pow_pos (by omega))
 have hm := h1r (f := fmt n) ((fmt n).neg (b0e (fmt n) s)) (e := (fmt n).exp (b0e (fmt n) s)) hx
 have hp := m1l G ((fmt n).neg (b0e (fmt n) s)) (frac := (fmt n).frac (b0e (fmt n) s)) he
 have hi := fun h => j1m (f := fmt n) ((fmt n).neg (b0e (fmt n) s)) (e := (fmt n).exp (b0e (fmt n) s)) (frac := (fmt n).frac (b0e (fmt n) s)) h
 have hcls := a1c (fmt n) ((fmt n).neg (b0e (fmt n) s)) ((fmt n).exp (b0e (fmt n) s)) ((fmt n).frac (b0e (fmt n) s))
 have z2 := G.f2
 unfold refD Fm.refN Fm.decN
 generalize (fmt n).dec ((fmt n).neg (b0e (fmt n) s)) ((fmt n).exp (b0e (fmt n) s)) ((fmt n).frac (b0e (fmt n) s)) = D at *
 generalize (fmt n).neg (b0e (fmt n) s) = g at *
 generalize fmt n = f at *
 have hc : 1 ≤ D.c ∧ D.c ≤ 5 := by unfold Dc.c; split <;> omega
 have hml : (dig B32 D.m).length ≤ 3 := b0b hm (by omega)
 have wp := b0n f.g
 have hwp : -17010 ≤ (wid f.g : Int) * D.p ∧ (wid f.g : Int) * D.p ≤ 17010 := by
  rcases hp with h | ⟨h1, h2⟩
  · rw [h, Int.mul_zero]; omega
  · have a1 : (wid f.g : Int) * f.g.lo ≤ wid f.g * D.p := Int.mul_le_mul_of_nonneg_left h1 (by omega)
    have a2 : (wid f.g : Int) * D.p ≤ wid f.g * (f.g.hi + 1) := Int.mul_le_mul_of_nonneg_left h2 (by omega)
    rw [Int.mul_add, Int.mul_one] at a2
    omega
 refine ⟨⟨hc, fun h => ?_, fun h => ?_, ?_, ?_, ?_, ?_⟩, hi⟩
 · have h : ¬ D.c = 2 := h
   unfold Fm.vr
   simp only [if_neg h]
   rfl
 · have h : D.c = 2 := h
   have hm0 := g1b h
   unfold Fm.vr
   simp only [h, if_true]
   obtain ⟨b1, b2⟩ := r0h (g := g) (e := (wid f.g : Int) * D.p) hm0
   exact ⟨b2, by rw [b1]; rfl⟩
 · unfold Fm.vr
   simp only
   split
   · exact j0n _
   · exact .inr rfl
 · unfold Fm.vr
   simp only
   split
   · exact Nat.le_trans (p0z a0c _) (by show (dig B32 D.m).length ≤ _; omega)
   · show (dig B32 0).length ≤ _; rw [a0f]; decide
 · unfold Fm.vr
   simp only
   split
   · have := z0j (⟨g, D.m, wid f.g * D.p⟩ : Dv) (n := 3) hml (lo := -17100) (hi := 17100) (by simp only; omega) (by simp only; omega) (by omega) (by omega)
     omega
   · show (-18000 : Int) ≤ 0; decide
 · unfold Fm.vr
   simp only
   split
   · have := z0j (⟨g, D.m, wid f.g * D.p⟩ : Dv) (n := 3) hml (lo := -17100) (hi := 17100) (by simp only; omega) (by simp only; omega) (by omega) (by omega)
     omega
   · show (0 : Int) ≤ 18000; decide
theorem f1s {n : Int} {s : ByteArray} (h0 : b0d n s = 0) : VRep (fmt n) (decP n s) (refD n s) := by
 obtain ⟨hn, hs⟩ := c0z.1 h0
 have G := c0c hn
 have hd : decP n s = (fmt n).valN (b0e (fmt n) s) := by unfold decP; rw [if_pos h0]
 have he : (fmt n).exp (b0e (fmt n) s) < 2 ^ (fmt n).E := Nat.mod_lt _ (Nat.pow_pos (by omega))
 have hx : (fmt n).frac (b0e (fmt n) s) < 2 ^ (fmt n).F := Nat.mod_lt _ (Nat.pow_pos (by omega))
 have hb := m1r G ((fmt n).neg (b0e (fmt n) s)) he hx ((fmt n).neg (b0e (fmt n) s))
 have hk := d1t (fmt n) ((fmt n).neg (b0e (fmt n) s)) ((fmt n).decN (b0e (fmt n) s))
 have ho := d1u (fmt n) ((fmt n).neg (b0e (fmt n) s)) ((fmt n).decN (b0e (fmt n) s))
 rw [hd]
 exact ⟨rfl, rfl, fun _ => hk, fun h => ho h, hb.1, hb.2.1, hb.2.2⟩
theorem w0p {n : Int} {s : ByteArray} (h0 : b0d n s = 0) {x : Vp} (hx : x.v = decP n s) : AtV (fmt n) x (refD n s) := by
 have F := h0j (s := s) (c0z.1 h0).1
 exact ⟨by rw [hx]; exact f1s h0, F.ok, F.inf⟩
/-! ### Results -/
theorem m1m {f : Fm} (G : c0e f) (x : Dv) (way : Int) : ResF f (f.numM x way).1 := by
 unfold Fm.numM
 split
 · exact o0c G _
 · exact (g0s G (by omega)).1
theorem m1n {f : Fm} (G : c0e f) (x y : Dv) (g h : Bool) (way : Int) : ResF f (f.sumM x y g h way).1 := by
 unfold Fm.sumM
 split
 · exact m1m G _ _
 · split <;> exact o0c G _
theorem c1t {f : Fm} {r : Vr} (h : r.cls = 3) (R : VrF f r) : ResF f r :=
 ⟨by omega, fun k => by omega, fun k => by omega, fun _ => R.inf h, fun k => by omega, fun k => by omega, fun _ => R.ok.x0 (by omega)⟩
theorem m1o {f : Fm} (G : c0e f) {a b : Vr} (A : VrF f a) (B : VrF f b) (way : Int) : ResF f (f.addM a b way).1 := by
 unfold Fm.addM
 split
 · exact f0e G
 · split
   · rename_i h
     split
     · exact f0e G
     · split
       · rename_i h3; exact c1t h3 A
       · rename_i h3; exact c1t (show b.cls = 3 by omega) B
   · exact m1n G _ _ _ _ _
theorem j1n {f : Fm} (G : c0e f) (g : Bool) : ResF f (f.poleM g).1 := by
 unfold Fm.poleM
 simp only
 split
 · rename_i h; exact c1k h _
 · split
   · exact r0i G _
   · exact f0e G
theorem h1c {f : Fm} (G : c0e f) {a b : Vr} (A : a.cls = 3 → f.fam = 1) (B : VrOk b) (way : Int) : ResF f (f.divM a b way).1 := by
 unfold Fm.divM
 have hc := B.c
 split
 · exact f0e G
 · split
   · exact f0e G
   · split
     · rename_i h; exact c1k (A h) _
     · split
       · exact o0c G _
       · split
         · exact j1n G _
         · have := (B.x2 (by omega)).1
           exact (g0s G (by omega)).1
theorem c1u (n : Int) (xs : List Wp) (b m : Nat) (w : World) (hn : IsFm n) (hB : Bt w b 32 (xs.flatMap Wp.cells).toArray) (hm : m = xs.length) (hl : xs.length ≤ 1000) (hno : ∀ x ∈ xs, x.r.cls < 4) :
 Calls Tryz.prog 49 #[.int .i64 n, .slice (some ⟨b, 0, none⟩) m m] w fun en w' => en = .returned (.tuple #[.agg #[.int .i64 0, .bool false, .bool false, .slice none 0 0, .int .i64 0], .int .i64 0, .bool false]) ∧ Below w.heap.size w w' := by
 subst hm
 have HF := fun W => hi0 (b0j n W)
 rw [decide_eq_true hn] at HF
 have HX : ∀ i, i < xs.length → ∃ x : Wp, xs[i]? = some x ∧ x.r.cls < 4 := fun i h => ⟨xs[i], List.getElem?_eq_getElem h, hno _ (List.getElem_mem h)⟩
 generalize fmt n = f at *
 have I := Inv.start w [btF b 32 (xs.flatMap Wp.cells).toArray] ⟨hB, True.intro⟩
 refine a0e [.v (.int .i64 n), .v (.slice (some ⟨b, 0, none⟩) xs.length xs.length)] I Tryz.func49 ?_
 refine zq I (fun Al W I => (HF W).out) fun Al W I => ?_
 refine o0l I (fun gk fr bx gs => ∃ (U900 : Nat → Value) (i : Nat), fr = (.v (.int .i64 n) :: .v (.slice (some ⟨b, 0, none⟩) xs.length xs.length) :: su 2 (.p 0 0 :: sw U900 5 2 (.p 1 0 :: .v (U900 8) :: .v (.int .i64 (i : Int)) :: sw U900 10 25 [])) : List SV) ∧ bx = [⟨32, [.v (.int .i64 0), .v (.bool false), .v (.bool false), .v (.slice none 0 0), .v (.int .i64 0)], false⟩, ⟨62, [.v (.int .i64 (f.size : Int)), .v (.int .i64 (f.E : Int)), .v (.int .i64 (f.F : Int)), .v (.int .i64 f.g.rad), .v (.int .i64 f.g.digs), .v (.int .i64 f.g.lo), .v (.int .i64 f.g.hi), .v (.bool f.g.grad), .v (.int .i64 (f.fam : Int))], false⟩] ∧ gs = [btF b 32 (xs.flatMap Wp.cells).toArray] ∧ (gk + i = xs.length)) xs.length (fun Al W U I => ⟨_, ⟨U, 0, rfl, rfl, rfl, (by omega)⟩, I.pick [0]⟩) ?_
 rintro J gk0 _ _ _ ⟨U900, i, rfl, rfl, rfl, hgk⟩ hJ Al W I
 rcases Bool.eq_false_or_eq_true (decide ((i : Int) < (xs.length : Int))) with f18 | f18
 · refine zb I 18 (decide ((i : Int) < (xs.length : Int))) (true) (f18) fun Al W I => ?_
   obtain ⟨x, hx, hx4⟩ := HX i (by have := oTr f18; omega)
   refine zx I 23 (fun _ => .pointer (some (at_ (some ⟨b, 0, none⟩) (i * 5)))) (fun Al W I => (i0s (m := i) (n := xs.length) (c := xs.length) tvV (fun _ => ⟨rfl, rfl⟩) (by have := oTr f18; omega))) fun Al W I => ?_
   refine zx I 25 (fun _ => .int .i64 (x.r.cls : Int)) (fun Al W I => (i0b (m := i * 5) I.fa.1 m1k _ (w0o (j := 0) Wp.len hx rfl))) fun Al W I => ?_
   refine zb I 26 (decide ((x.r.cls : Int) ≥ 4)) (false) (dFa (by omega)) fun Al W I => ?_
   refine zi I 20 .i64 ((i : Int) + 1) (((i + 1 : Nat) : Int)) ((by rw [show ((i : Int) + 1) = ((i + 1 : Nat) : Int) by omega]; exact IntWalk.i64_in _ (by have := oTr f18; omega))) fun Al W I => ?_
   exact a0o I J fun Al W U I => hJ (gk0 - 1) _ _ _ _ _ ((by have := oTr f18; omega)) ⟨U, i + 1, rfl, rfl, rfl, (by have := oTr f18; omega)⟩ (I.pick [0])
 refine zb I 18 (decide ((i : Int) < (xs.length : Int))) (false) (f18) fun Al W I => ?_
 exact zrb I
theorem y0k (n : Int) (xs : List Wp) (b m : Nat) (w : World) (hn : IsFm n) (hB : Bt w b 32 (xs.flatMap Wp.cells).toArray) (hm : m = xs.length) (hl : xs.length ≤ 1000) (hyes : ∃ x ∈ xs, 4 ≤ x.r.cls) :
 Calls Tryz.prog 49 #[.int .i64 n, .slice (some ⟨b, 0, none⟩) m m] w fun en w' => en = .returned (.tuple #[.agg #[.int .i64 (((fmt n).nothM.cls : Nat) : Int), .bool false, .bool false, .slice none 0 0, .int .i64 0], .int .i64 (((fmt n).offM.2 : Nat) : Int), .bool true]) ∧ Below w.heap.size w w' := by
 subst hm
 have HF := fun W => hi0 (b0j n W)
 rw [decide_eq_true hn] at HF
 have HX : ∀ i, i < xs.length → ∃ x : Wp, xs[i]? = some x := fun i h => ⟨xs[i], List.getElem?_eq_getElem h⟩
 obtain ⟨y, hy, hy4⟩ := hyes
 obtain ⟨j, hj, hjy⟩ := List.getElem_of_mem hy
 have hYJ : xs[j]? = some y := by rw [List.getElem?_eq_getElem hj, hjy]
 clear hjy hy
 have HN := fun W => hi0 (e0i n W hn)
 generalize (fmt n).nothM.cls = kN at *
 have e2 : (fmt n).fam = 3 → (((fmt n).offM.2 : Nat) : Int) = 16 := fun h => by unfold Fm.offM; rw [if_pos h]; rfl
 have e3 : (fmt n).fam ≠ 3 → (((fmt n).offM.2 : Nat) : Int) = 0 := fun h => by unfold Fm.offM; rw [if_neg h]; rfl
 generalize (((fmt n).offM.2 : Nat) : Int) = fl at *
 generalize fmt n = f at *
 have I := Inv.start w [btF b 32 (xs.flatMap Wp.cells).toArray] ⟨hB, True.intro⟩
 refine a0e [.v (.int .i64 n), .v (.slice (some ⟨b, 0, none⟩) xs.length xs.length)] I Tryz.func49 ?_
 refine zq I (fun Al W I => (HF W).out) fun Al W I => ?_
 refine o0l I (fun gk fr bx gs => ∃ (U900 : Nat → Value) (i : Nat), fr = (.v (.int .i64 n) :: .v (.slice (some ⟨b, 0, none⟩) xs.length xs.length) :: su 2 (.p 0 0 :: sw U900 5 2 (.p 1 0 :: .v (U900 8) :: .v (.int .i64 (i : Int)) :: sw U900 10 25 [])) : List SV) ∧ bx = [⟨32, [.v (.int .i64 0), .v (.bool false), .v (.bool false), .v (.slice none 0 0), .v (.int .i64 0)], false⟩, ⟨62, [.v (.int .i64 (f.size : Int)), .v (.int .i64 (f.E : Int)), .v (.int .i64 (f.F : Int)), .v (.int .i64 f.g.rad), .v (.int .i64 f.g.digs), .v (.int .i64 f.g.lo), .v (.int .i64 f.g.hi), .v (.bool f.g.grad), .v (.int .i64 (f.fam : Int))], false⟩] ∧ gs = [btF b 32 (xs.flatMap Wp.cells).toArray] ∧ (gk + i = xs.length) ∧ (∀ (j : Nat) (x : Wp), j < i → xs[j]? = some x → x.r.cls < 4)) xs.length (fun Al W U I => ⟨_, ⟨U, 0, rfl, rfl, rfl, (by omega), (fun _ _ h => absurd h (by omega))⟩, I.pick [0]⟩) ?_
 rintro J gk0 _ _ _ ⟨U900, i, rfl, rfl, rfl, hgk, hlt⟩ hJ Al W I
 rcases Bool.eq_false_or_eq_true (decide ((i : Int) < (xs.length : Int))) with f18 | f18
 · refine zb I 18 (decide ((i : Int) < (xs.length : Int))) (true) (f18) fun Al W I => ?_
   obtain ⟨x, hx⟩ := HX i (by have := oTr f18; omega)
   refine zx I 23 (fun _ => .pointer (some (at_ (some ⟨b, 0, none⟩) (i * 5)))) (fun Al W I => (i0s (m := i) (n := xs.length) (c := xs.length) tvV (fun _ => ⟨rfl, rfl⟩) (by have := oTr f18; omega))) fun Al W I => ?_
   refine zx I 25 (fun _ => .int .i64 (x.r.cls : Int)) (fun Al W I => (i0b (m := i * 5) I.fa.1 m1k _ (w0o (j := 0) Wp.len hx rfl))) fun Al W I => ?_
   rcases Bool.eq_false_or_eq_true (decide ((x.r.cls : Int) ≥ 4)) with f26 | f26
   · refine zb I 26 (decide ((x.r.cls : Int) ≥ 4)) (true) (f26) fun Al W I => ?_
     by_cases hf3 : f.fam = 3
     · refine zb I 29 ((f.fam : Int) == 3) (true) (beq_iff_eq.2 (by omega)) fun Al W I => ?_
       refine zq I (fun Al W I => (HN W).out) fun Al W I => ?_
       exact zret I (v := fun Al => .tuple #[.agg #[.int .i64 (kN : Int), .bool false, .bool false, .slice none 0 0, .int .i64 0], .int .i64 16, .bool true]) fun Al W I => ⟨by rw [e2 hf3], I.below⟩
     refine zb I 29 ((f.fam : Int) == 3) (false) (bFn (by omega)) fun Al W I => ?_
     refine zq I (fun Al W I => (HN W).out) fun Al W I => ?_
     exact zret I (v := fun Al => .tuple #[.agg #[.int .i64 (kN : Int), .bool false, .bool false, .slice none 0 0, .int .i64 0], .int .i64 0, .bool true]) fun Al W I => ⟨by rw [e3 hf3], I.below⟩
   refine zb I 26 (decide ((x.r.cls : Int) ≥ 4)) (false) (f26) fun Al W I => ?_
   refine zi I 20 .i64 ((i : Int) + 1) (((i + 1 : Nat) : Int)) ((by rw [show ((i : Int) + 1) = ((i + 1 : Nat) : Int) by omega]; exact IntWalk.i64_in _ (by have := oTr f18; omega))) fun Al W I => ?_
   exact a0o I J fun Al W U I => hJ (gk0 - 1) _ _ _ _ _ ((by have := oTr f18; omega)) ⟨U, i + 1, rfl, rfl, rfl, (by have := oTr f18; omega), (fun j' x' h h' => by rcases (show j' < i ∨ j' = i by omega) with q | rfl; exact hlt j' x' q h'; rw [hx] at h'; cases h'; have := oFa f26; omega)⟩ (I.pick [0])
 refine zb I 18 (decide ((i : Int) < (xs.length : Int))) (false) (f18) fun Al W I => ?_
 exact zret I (v := fun Al => .tuple #[.agg #[.int .i64 0, .bool false, .bool false, .slice none 0 0, .int .i64 0], .int .i64 0, .bool false]) fun Al W I => absurd (hlt j y (by have := oFa f18; omega) hYJ) (by rw [Nat.not_lt]; omega)
theorem VrOk.l16 {r : Vr} (R : VrOk r) : (dig B16 r.x.m).length ≤ 2000 := by have := R.len; have := m0o r.x.m; omega
structure TnD (a : Dv) : Prop where
 len : (dig B32 a.m).length ≤ 40
 lo : -38000 ≤ a.e
 hi : a.e ≤ 38000
theorem VrOk.tn {r : Vr} (R : VrOk r) : TnD r.x := ⟨by have := R.len; omega, by have := R.lo; omega, by have := R.hi; omega⟩
theorem TnD.sm {a : Dv} (h : TnD a) : SmD a := ⟨by have := h.len; omega, by have := h.lo; omega, by have := h.hi; omega⟩
end Go.Proofs.YtmacohmclpnphaaGreatDoor
namespace Go.Slip
open Go.RowKit
def t0i : List (Nat × SV) → Cfg → Cfg
 | [], c => c
 | (i, y) :: l, c => t0i l (j0b i y c)
section
variable {P : Program} {Q : Exit → Act → World → Prop} {E : List Nat} {w0 : World} {A : List Nat} {fs : List PF} {W : World} {c c' : Cfg}
theorem r0n (_ : Inv E w0 A c.bx fs W) (l : List (Nat × SV)) (h1 : ∀ A W, Inv E w0 A (nrm (t0i l c)).bx fs W → G P Q A (nrm (t0i l c)) W)
 (h2 : (∀ A W, Inv E w0 A (nrm (t0i l c)).bx fs W → G P Q A (nrm (t0i l c)) W) → G P Q A c W) : G P Q A c W := h2 h1
theorem zuse (K : ∀ A W, Inv E w0 A c'.bx fs W → G P Q A c' W) (I : Inv E w0 A c.bx fs W) (he : c = c' := by kernel_rfl) : G P Q A c W := by
 subst he
 exact K _ _ I
end
end Go.Slip
namespace Go.Slip
open Go.RowKit
def h1d (i : Nat) (c : Cfg) (A : List Nat) : Option VO :=
 match c.rg with
 | .dr ops _ _ (_ + 1) listed => match ops[i]? with
  | some o => match Region.noSelect ops && Region.free .any ops listed i && (Region.ready .any ops listed).contains i && wnt ops c.fr o with
   | true => match o.op with
    | .indexAddr t x j => some (.ix t (evr A c.fr x) (evr A c.fr j))
    | _ => none
   | false => none
  | none => none
 | _ => none
section
variable {P : Program} {Q : Exit → Act → World → Prop} {E : List Nat} {w0 : World} {A : List Nat} {fs : List PF} {W : World} {c : Cfg}
theorem zkx (i : Nat) (I : Inv E w0 A c.bx fs W) {vo : VO} (v : Value) (hx : ∀ W, vo.sem.run P W = .ok v W) (h : Inv E w0 A (j0b i (.v v) c).bx fs W → G P Q A (j0b i (.v v) c) W)
 (hv : h1d i c A = some vo := by kernel_rfl) (hm : dk1 c.rg c.bx = dk2 c.rg := by kernel_rfl) (hQ : g0a Q := by exact d0t) : G P Q A c W := by
 refine ⟨?_⟩
 have h := (h (by rw [w0a]; exact I)).out
 obtain ⟨cf, cb, rg, ks⟩ := c
 cases rg with
 | off => cases hv
 | pl => cases hv
 | one => cases hv
 | ret => cases hv
 | dr ops A0 m fuel listed =>
  cases fuel with
  | zero => cases hv
  | succ fuel =>
   unfold h1d at hv
   unfold j0b at h
   simp only at hv h
   intro pre
   split at hv
   · rename_i o hi
     rw [hi] at h
     split at hv
     · rename_i h1
       simp only [Bool.and_eq_true] at h1
       obtain ⟨⟨⟨h1, h2⟩, h3⟩, hw⟩ := h1
       split at hv
       · rename_i t x j hop
         simp only [Option.some.injEq] at hv
         subst hv
         have hS : SB A0 m W := a1r I pre hm
         have h : WpH P ops (post P Q ks) (SB A0 m) fuel (listed.setIfInBounds i true) (act A (putO cf o.dst (.v v))) W := h pre
         rw [← d0e] at h
         refine i0z i o.dst v _ hi rfl rfl h1 h2 h3 (fun c a w => f0b (P := P) hQ ks c a o.dst v w) (.inl ⟨by rw [f0m]; exact hw, fun w' _ => ?_⟩) hS h
         rw [c0j]
         unfold execOp
         have := hx w'
         unfold VO.sem at this
         simp only [hop, Sem.run_bind, this, Result.andThen_ok, Sem.run_pure]
       · cases hv
     · cases hv
   · cases hv
end
end Go.Slip
namespace Go.Proofs.YtmacohmclpnphaaGreatDoor
open Go.RowKit Go.Slip
theorem c1v {n : Int} {s t : ByteArray} (h : errL n [s, t] = 0) : b0d n s = 0 ∧ b0d n t = 0 ∧ IsFm n := by
 have h1 := g0t n h s (by simp)
 exact ⟨h1, g0t n h t (by simp), (c0z.1 h1).1⟩
theorem w0q {n : Int} {xs : List Vp} {s t : ByteArray} (h : xs.map (·.v) = [s, t].map (decP n)) : ∃ x y, xs = [x, y] ∧ x.v = decP n s ∧ y.v = decP n t := by
 cases xs with
 | nil => simp at h
 | cons x l =>
  cases l with
  | nil => simp at h
  | cons y l =>
   cases l with
   | nil => simp only [List.map_cons, List.map_nil, List.cons.injEq, and_true] at h; exact ⟨x, y, rfl, h.1, h.2⟩
   | cons _ _ => simp at h
theorem f1t (n way : Int) (s t : ByteArray) (h0 : errL n [s, t] = 0) (hw : 1 ≤ way ∧ way ≤ 5) : j1l n way [s, t] 89 ((fmt n).addM (refD n s) (refD n t) way) := by
 intro xs vs p c base u w hxs hvs oS oL U hT hb
 obtain ⟨hs, ht, hn⟩ := c1v h0
 obtain ⟨x, y, rfl, hx, hy⟩ := w0q hxs
 have ox := oL x (by simp)
 have oy := oL y (by simp)
 have HA := fun W u h1 h2 h3 h4 h5 => hi0 (n1q (fmt n) n way x y (refD n s) (refD n t) base u W h1 h2 h3 h4 (w0p hs hx) (w0p ht hy) (c0c hn) hw h5)
 generalize (fmt n).addM (refD n s) (refD n t) way = R at *
 generalize fmt n = f at *
 subst hvs
 clear oL hx hy hxs h0 hs ht hn
 obtain ⟨r, fl⟩ := R
 have I := Inv.startW w u 182 (uS f n way 0) [h0m base 75 4 p c [s, t].length ([x, y].flatMap Vp.cells), ownF base .u32 141 x.p x.c (dig B32 x.v.d), ownF base .u32 141 y.p y.c (dig B32 y.v.d), tabF] U ⟨oS, ox, oy, hT, True.intro⟩ ⟨fun hf => oS.far U (by kernel_rfl) hf.1 hf.2, fun hf => ox.far U (by kernel_rfl) hf.1 hf.2, fun hf => oy.far U (by kernel_rfl) hf.1 hf.2, fun hf => hT.far U (by kernel_rfl) hf, True.intro⟩
 refine a0e [.p 0 0, .v (.slice p [s, t].length c)] I Tryz.func89 ?_
 refine zd [0, 1] I fun Al W I => ?_
 refine zk [0, 1] I fun I => ?_
 refine zkx 2 I (.pointer (some (at_ p (0 * 4)))) (fun _ => (i0s (m := 0) (n := [s, t].length) (c := c) t0f I.fa.1.solid (by simp))) fun I => ?_
 refine zk [4] I fun I => ?_
 refine zkx 5 I (.pointer (some (at_ p (1 * 4)))) (fun _ => (i0s (m := 1) (n := [s, t].length) (c := c) t0f I.fa.1.solid (by simp))) fun I => ?_
 refine r0n I [(3, .v (.agg #[.int .i64 (x.v.cls : Int), .bool x.v.neg, .slice x.p (dig B32 x.v.d).length x.c, .int .i64 x.v.pow])), (6, .v (.agg #[.int .i64 (y.v.cls : Int), .bool y.v.neg, .slice y.p (dig B32 y.v.d).length y.c, .int .i64 y.v.pow]))] (fun Al W I => ?_) (fun KL7 => ?_)
 · refine zo 7 I fun I => ?_
   refine zge I 0 182 (fun Al W I => have hzW := I.bel.size; (HA W _ (I.box 0 182 _) I.fa.2.1 I.fa.2.2.1 (by omega) I.fa.2.2.2.1).out) fun Al V Iv _ _ kz => ?_
   rintro _ W ⟨v12, hR12, p12, c12, rfl, o12, hO, hB⟩
   refine ⟨_, rfl, kz _ (uS f n way (fl : Int)) _ hO hB fun I => ?_⟩
   have I := I.ownB base o12
   refine zo 8 I fun I => ?_
   refine zn I fun Al W I => ?_
   exact zret I fun Al W I => ⟨v12, hR12, p12, c12, rfl, I.fa.1, I.bel, I.boxE 182 _⟩
 refine r0n I [(3, .v (.agg #[.int .i64 (x.v.cls : Int), .bool x.v.neg, .slice x.p (dig B32 x.v.d).length x.c, .int .i64 x.v.pow]))] (fun Al W I => ?_) (fun KL5 => ?_)
 · refine zo 6 I fun I => ?_
   refine zx I 11 (fun _ => .agg #[.int .i64 (y.v.cls : Int), .bool y.v.neg, .slice y.p (dig B32 y.v.d).length y.c, .int .i64 y.v.pow]) (fun Al W I => (h0k (m := 1 * 4) I.fa.1 o0r y.cells rfl rfl)) fun Al W I => ?_
   exact zuse KL7 I
 refine r0n I [(6, .v (.agg #[.int .i64 (y.v.cls : Int), .bool y.v.neg, .slice y.p (dig B32 y.v.d).length y.c, .int .i64 y.v.pow]))] (fun Al W I => ?_) (fun KL6 => ?_)
 · refine zo 3 I fun I => ?_
   refine zx I 8 (fun _ => .agg #[.int .i64 (x.v.cls : Int), .bool x.v.neg, .slice x.p (dig B32 x.v.d).length x.c, .int .i64 x.v.pow]) (fun Al W I => (h0k (m := 0 * 4) I.fa.1 o0r x.cells rfl rfl)) fun Al W I => ?_
   exact zuse KL7 I
 refine zo2 3 6 I (fun I => ?_) (fun I => ?_)
 · refine zx I 8 (fun _ => .agg #[.int .i64 (x.v.cls : Int), .bool x.v.neg, .slice x.p (dig B32 x.v.d).length x.c, .int .i64 x.v.pow]) (fun Al W I => (h0k (m := 0 * 4) I.fa.1 o0r x.cells rfl rfl)) fun Al W I => ?_
   exact zuse KL5 I
 refine zx I 11 (fun _ => .agg #[.int .i64 (y.v.cls : Int), .bool y.v.neg, .slice y.p (dig B32 y.v.d).length y.c, .int .i64 y.v.pow]) (fun Al W I => (h0k (m := 1 * 4) I.fa.1 o0r y.cells rfl rfl)) fun Al W I => ?_
 exact zuse KL6 I
def e0z (n way : Int) (L : List ByteArray) (R : Vr × Nat) (w : World) (en : Ending) (w' : World) : Prop :=
 (if errR n way L = 0 then en = .returned (.tuple #[.string (strR n R.1), .int .i64 ((R.2 : Nat) : Int), .int .i64 (errR n way L)]) else en = .returned (.tuple #[.string (b0q []), .int .i64 0, .int .i64 (errR n way L)])) ∧ Below w.heap.size w w'
theorem k0l {n way : Int} {L : List ByteArray} (h0 : errR n way L = 0) : IsFm n ∧ errL n L = 0 ∧ 1 ≤ way ∧ way ≤ 5 := by
 have hn : IsFm n := by unfold errR at h0; split at h0; assumption; omega
 unfold errR at h0
 rw [if_pos hn] at h0
 have hL : errL n L = 0 := by split at h0; assumption; contradiction
 rw [if_pos hL] at h0
 exact ⟨hn, hL, by split at h0; assumption; omega⟩
theorem f1u (n way : Int) (s t : ByteArray) (w : World) (hT : TabW w) : Calls Tryz.prog 37 #[.int .i64 n, .string s, .string t, .int .i64 way] w (e0z n way [s, t] ((fmt n).addM (refD n s) (refD n t) way) w) := by
 unfold e0z
 by_cases h0 : errR n way [s, t] = 0
 · obtain ⟨hn, hL, hw⟩ := k0l h0
   have HR := fun b m W h1 h2 h3 => hi0 (g1z n way [s, t] 89 _ b m W h1 h2 (by simp) h3 (fun _ _ => by kernel_rfl) h0 (f1t n way s t hL hw) (m1o (c0c hn) (h0j hn) (h0j hn) way))
   simp only [h0, if_true]
   generalize strR n ((fmt n).addM (refD n s) (refD n t) way).1 = str at *
   generalize ((fmt n).addM (refD n s) (refD n t) way).2 = fl at *
   have I := Inv.start w [tabF] ⟨hT, True.intro⟩
   refine a0e [.v (.int .i64 n), .v (.string s), .v (.string t), .v (.int .i64 way)] I Tryz.func37 ?_
   refine zq I (fun Al W I => (HR _ 2 W (I.box 0 9 _) rfl I.fa.1).out) fun Al W I => ?_
   exact zrb I
 · have HR := fun b m W h1 h2 h3 => hi0 (c1s n way [s, t] 89 b m W h1 h2 (by simp) h3 h0)
   simp only [if_neg h0]
   generalize errR n way [s, t] = er at *
   have I := Inv.start w [tabF] ⟨hT, True.intro⟩
   refine a0e [.v (.int .i64 n), .v (.string s), .v (.string t), .v (.int .i64 way)] I Tryz.func37 ?_
   refine zq I (fun Al W I => (HR _ 2 W (I.box 0 9 _) rfl I.fa.1).out) fun Al W I => ?_
   exact zrb I
theorem f1v (n way : Int) (s t : ByteArray) (h0 : errL n [s, t] = 0) (hw : 1 ≤ way ∧ way ≤ 5) : j1l n way [s, t] 47 ((fmt n).divM (refD n s) (refD n t) way) := by
 intro xs vs p c base u w hxs hvs oS oL U hT hb
 obtain ⟨hs, ht, hn⟩ := c1v h0
 obtain ⟨x, y, rfl, hx, hy⟩ := w0q hxs
 have ox := oL x (by simp)
 have oy := oL y (by simp)
 have HA := fun W u h1 h2 h3 h4 h5 => hi0 (n1r (fmt n) n way x y (refD n s) (refD n t) base u W h1 h2 h3 h4 (w0p hs hx) (w0p ht hy) (c0c hn) hw h5)
 generalize (fmt n).divM (refD n s) (refD n t) way = R at *
 generalize fmt n = f at *
 subst hvs
 clear oL hx hy hxs h0 hs ht hn
 obtain ⟨r, fl⟩ := R
 have I := Inv.startW w u 182 (uS f n way 0) [h0m base 75 4 p c [s, t].length ([x, y].flatMap Vp.cells), ownF base .u32 141 x.p x.c (dig B32 x.v.d), ownF base .u32 141 y.p y.c (dig B32 y.v.d), tabF] U ⟨oS, ox, oy, hT, True.intro⟩ ⟨fun hf => oS.far U (by kernel_rfl) hf.1 hf.2, fun hf => ox.far U (by kernel_rfl) hf.1 hf.2, fun hf => oy.far U (by kernel_rfl) hf.1 hf.2, fun hf => hT.far U (by kernel_rfl) hf, True.intro⟩
 refine a0e [.p 0 0, .v (.slice p [s, t].length c)] I Tryz.func47 ?_
 refine zd [0, 1] I fun Al W I => ?_
 refine zk [0, 1] I fun I => ?_
 refine zkx 2 I (.pointer (some (at_ p (0 * 4)))) (fun _ => (i0s (m := 0) (n := [s, t].length) (c := c) t0f I.fa.1.solid (by simp))) fun I => ?_
 refine zk [4] I fun I => ?_
 refine zkx 5 I (.pointer (some (at_ p (1 * 4)))) (fun _ => (i0s (m := 1) (n := [s, t].length) (c := c) t0f I.fa.1.solid (by simp))) fun I => ?_
 refine r0n I [(3, .v (.agg #[.int .i64 (x.v.cls : Int), .bool x.v.neg, .slice x.p (dig B32 x.v.d).length x.c, .int .i64 x.v.pow])), (6, .v (.agg #[.int .i64 (y.v.cls : Int), .bool y.v.neg, .slice y.p (dig B32 y.v.d).length y.c, .int .i64 y.v.pow]))] (fun Al W I => ?_) (fun KL7 => ?_)
 · refine zo 7 I fun I => ?_
   refine zge I 0 182 (fun Al W I => have hzW := I.bel.size; (HA W _ (I.box 0 182 _) I.fa.2.1 I.fa.2.2.1 (by omega) I.fa.2.2.2.1).out) fun Al V Iv _ _ kz => ?_
   rintro _ W ⟨v12, hR12, p12, c12, rfl, o12, hO, hB⟩
   refine ⟨_, rfl, kz _ (uS f n way (fl : Int)) _ hO hB fun I => ?_⟩
   have I := I.ownB base o12
   refine zo 8 I fun I => ?_
   refine zn I fun Al W I => ?_
   exact zret I fun Al W I => ⟨v12, hR12, p12, c12, rfl, I.fa.1, I.bel, I.boxE 182 _⟩
 refine r0n I [(3, .v (.agg #[.int .i64 (x.v.cls : Int), .bool x.v.neg, .slice x.p (dig B32 x.v.d).length x.c, .int .i64 x.v.pow]))] (fun Al W I => ?_) (fun KL5 => ?_)
 · refine zo 6 I fun I => ?_
   refine zx I 11 (fun _ => .agg #[.int .i64 (y.v.cls : Int), .bool y.v.neg, .slice y.p (dig B32 y.v.d).length y.c, .int .i64 y.v.pow]) (fun Al W I => (h0k (m := 1 * 4) I.fa.1 o0r y.cells rfl rfl)) fun Al W I => ?_
   exact zuse KL7 I
 refine r0n I [(6, .v (.agg #[.int .i64 (y.v.cls : Int), .bool y.v.neg, .slice y.p (dig B32 y.v.d).length y.c, .int .i64 y.v.pow]))] (fun Al W I => ?_) (fun KL6 => ?_)
 · refine zo 3 I fun I => ?_
   refine zx I 8 (fun _ => .agg #[.int .i64 (x.v.cls : Int), .bool x.v.neg, .slice x.p (dig B32 x.v.d).length x.c, .int .i64 x.v.pow]) (fun Al W I => (h0k (m := 0 * 4) I.fa.1 o0r x.cells rfl rfl)) fun Al W I => ?_
   exact zuse KL7 I
 refine zo2 3 6 I (fun I => ?_) (fun I => ?_)
 · refine zx I 8 (fun _ => .agg #[.int .i64 (x.v.cls : Int), .bool x.v.neg, .slice x.p (dig B32 x.v.d).length x.c, .int .i64 x.v.pow]) (fun Al W I => (h0k (m := 0 * 4) I.fa.1 o0r x.cells rfl rfl)) fun Al W I => ?_
   exact zuse KL5 I
 refine zx I 11 (fun _ => .agg #[.int .i64 (y.v.cls : Int), .bool y.v.neg, .slice y.p (dig B32 y.v.d).length y.c, .int .i64 y.v.pow]) (fun Al W I => (h0k (m := 1 * 4) I.fa.1 o0r y.cells rfl rfl)) fun Al W I => ?_
 exact zuse KL6 I
theorem w0r (n way : Int) (s t : ByteArray) (w : World) (hT : TabW w) : Calls Tryz.prog 9 #[.int .i64 n, .string s, .string t, .int .i64 way] w (e0z n way [s, t] ((fmt n).divM (refD n s) (refD n t) way) w) := by
 unfold e0z
 by_cases h0 : errR n way [s, t] = 0
 · obtain ⟨hn, hL, hw⟩ := k0l h0
   have HR := fun b m W h1 h2 h3 => hi0 (g1z n way [s, t] 47 _ b m W h1 h2 (by simp) h3 (fun _ _ => by kernel_rfl) h0 (f1v n way s t hL hw) (h1c (c0c hn) (h0j hn).inf (h0j hn).ok way))
   simp only [h0, if_true]
   generalize strR n ((fmt n).divM (refD n s) (refD n t) way).1 = str at *
   generalize ((fmt n).divM (refD n s) (refD n t) way).2 = fl at *
   have I := Inv.start w [tabF] ⟨hT, True.intro⟩
   refine a0e [.v (.int .i64 n), .v (.string s), .v (.string t), .v (.int .i64 way)] I Tryz.func9 ?_
   refine zq I (fun Al W I => (HR _ 2 W (I.box 0 9 _) rfl I.fa.1).out) fun Al W I => ?_
   exact zrb I
 · have HR := fun b m W h1 h2 h3 => hi0 (c1s n way [s, t] 47 b m W h1 h2 (by simp) h3 h0)
   simp only [if_neg h0]
   generalize errR n way [s, t] = er at *
   have I := Inv.start w [tabF] ⟨hT, True.intro⟩
   refine a0e [.v (.int .i64 n), .v (.string s), .v (.string t), .v (.int .i64 way)] I Tryz.func9 ?_
   refine zq I (fun Al W I => (HR _ 2 W (I.box 0 9 _) rfl I.fa.1).out) fun Al W I => ?_
   exact zrb I
theorem r0o (n : Int) (g : Bool) (w : World) (hn : IsFm n) : Calls Tryz.prog 52 #[.int .i64 n, .bool g] w (GVf w w.heap.size ((fmt n).poleM g)) := by
 have HF := fun W => hi0 (b0j n W)
 rw [decide_eq_true hn] at HF
 have HG := fun W => hi0 (f0n n g W hn)
 have HN := fun W => hi0 (e0i n W hn)
 have G := c0c hn
 have hf := G.fam
 have hnm : (fmt n).nothM = ⟨(fmt n).nothM.cls, false, vz⟩ := rfl
 unfold Fm.poleM
 rw [hnm]
 generalize (fmt n).greatM g = r at *
 generalize (fmt n).nothM.cls = kN at *
 generalize fmt n = f at *
 rcases hf with h | h | h
 · rw [h] at HF
   rw [if_pos h]
   clear h hnm
   have I := Inv.start w [] True.intro
   refine a0e [.v (.int .i64 n), .v (.bool g)] I Tryz.func52 ?_
   refine zq I (fun Al W I => (HF W).out) fun Al W I => ?_
   exact zret I fun Al W I => a0u (k := 3) (fl := 8) rfl I.below
 · rw [h] at HF
   rw [if_neg (by omega), if_pos h]
   clear h hnm
   have I := Inv.start w [] True.intro
   refine a0e [.v (.int .i64 n), .v (.bool g)] I Tryz.func52 ?_
   refine zq I (fun Al W I => (HF W).out) fun Al W I => ?_
   refine zqr I (fun Al W I => (HG W).out) fun Al W p23 c23 I => ?_
   exact zret I fun Al W I => ⟨p23, c23, rfl, I.fa.1, I.below⟩
 · rw [h] at HF
   rw [if_neg (by omega), if_neg (by omega)]
   clear h hnm
   have I := Inv.start w [] True.intro
   refine a0e [.v (.int .i64 n), .v (.bool g)] I Tryz.func52 ?_
   refine zq I (fun Al W I => (HF W).out) fun Al W I => ?_
   refine zq I (fun Al W I => (HN W).out) fun Al W I => ?_
   exact zret I fun Al W I => a0u (fl := 8) rfl I.below
theorem t0j (n way : Int) (a b : Wp) (ba bb : Nat) (w : World) (hn : IsFm n) (hw : 1 ≤ way ∧ way ≤ 5) (oa : Rf w ba a.p a.c (dig B16 a.r.x.m)) (ob : Rf w bb b.p b.c (dig B16 b.r.x.m)) (A1 : VrOk a.r) (B1 : VrOk b.r) :
 Calls Tryz.prog 11 #[.int .i64 n, .agg #[.int .i64 (a.r.cls : Int), .bool a.r.neg, .bool a.r.x.neg, .slice a.p (dig B16 a.r.x.m).length a.c, .int .i64 a.r.x.e], .agg #[.int .i64 (b.r.cls : Int), .bool b.r.neg, .bool b.r.x.neg, .slice b.p (dig B16 b.r.x.m).length b.c, .int .i64 b.r.x.e], .int .i64 way] w (GVf w w.heap.size ((fmt n).divM a.r b.r way)) := by
 have HY := fun W b0 h1 h2 => hi0 (y0k n [a, b] b0 2 W hn h1 rfl (by simp) h2)
 have HN := fun W b0 h1 h2 => hi0 (c1u n [a, b] b0 2 W hn h1 rfl (by simp) h2)
 have HL := fun W => hi0 (v0d n W hn)
 have hoffm : (fmt n).offM = (⟨(fmt n).nothM.cls, false, vz⟩, (fmt n).offM.2) := rfl
 have hlostm : (fmt n).lostM = (⟨(fmt n).nothM.cls, false, vz⟩, 16) := rfl
 have vza := A1.x0
 have ca := A1.c
 have vzb := B1.x0
 have cb := B1.c
 have HZ := fun g W => hi0 (l0o n g W hn)
 have HPo := fun W => hi0 (r0o n (a.r.neg != b.r.neg) W hn)
 have l1 := A1.l16
 have l2 := B1.l16
 have l3 := A1.lo
 have l4 := A1.hi
 have l5 := B1.lo
 have l6 := B1.hi
 have hpb : b.r.cls = 2 → 0 < b.r.x.m := fun h => by have := (B1.x2 h).1; omega
 have HF := fun W h1 h2 h3 => hi0 (r0m n way (a.r.neg != b.r.neg) a.p b.p a.c b.c ba bb a.r.x.m b.r.x.m (a.r.x.e - b.r.x.e) W hn hw h1 h2 (by omega) (by omega) h3 (by omega))
 have hM : (fmt n).divM a.r b.r way = if 4 ≤ a.r.cls ∨ 4 ≤ b.r.cls then (fmt n).offM else if (a.r.cls = 3 ∧ b.r.cls = 3) ∨ (a.r.cls = 1 ∧ b.r.cls = 1) then (fmt n).lostM else if a.r.cls = 3 then (infM (a.r.neg != b.r.neg), 0) else if b.r.cls = 3 ∨ a.r.cls = 1 then ((fmt n).zeroM (a.r.neg != b.r.neg), 0) else if b.r.cls = 1 then (fmt n).poleM (a.r.neg != b.r.neg) else (fmt n).placedM (a0q (a.r.neg != b.r.neg) a.r.x.m b.r.x.m (a.r.x.e - b.r.x.e) (fmt n).g way) way := rfl
 obtain ⟨rS, flS, hS⟩ : ∃ rS flS, (fmt n).placedM (a0q (a.r.neg != b.r.neg) a.r.x.m b.r.x.m (a.r.x.e - b.r.x.e) (fmt n).g way) way = (rS, flS) := ⟨_, _, rfl⟩
 rw [hS] at HF hM
 obtain ⟨rP, flP, hP⟩ : ∃ rP flP, (fmt n).poleM (a.r.neg != b.r.neg) = (rP, flP) := ⟨_, _, rfl⟩
 rw [hP] at HPo hM
 unfold GVf at HF HPo
 simp only at HF HPo
 have hzm : (fmt n).zeroM (a.r.neg != b.r.neg) = ⟨1, (a.r.neg != b.r.neg) && decide ((fmt n).fam = 1), vz⟩ := rfl
 generalize (fmt n).divM a.r b.r way = R at *
 generalize (fmt n).offM.2 = flo at *
 generalize (fmt n).nothM.cls = kN at *
 generalize hng : (a.r.neg != b.r.neg) = ng at *
 have HNG := hi0 hng
 clear hS hP hng
 have I := Inv.start w [rfF ba a.p a.c (dig B16 a.r.x.m), rfF bb b.p b.c (dig B16 b.r.x.m)] ⟨oa, ob, True.intro⟩
 refine a0e [.v (.int .i64 n), .v (.agg #[.int .i64 (a.r.cls : Int), .bool a.r.neg, .bool a.r.x.neg, .slice a.p (dig B16 a.r.x.m).length a.c, .int .i64 a.r.x.e]), .v (.agg #[.int .i64 (b.r.cls : Int), .bool b.r.neg, .bool b.r.x.neg, .slice b.p (dig B16 b.r.x.m).length b.c, .int .i64 b.r.x.e]), .v (.int .i64 way)] I Tryz.func11 ?_
 by_cases hof : 4 ≤ a.r.cls ∨ 4 ≤ b.r.cls
 · refine zq I (fun Al W I => (HY W _ (I.box 3 32 _) (by simpa using hof)).out) fun Al W I => ?_
   rw [hM]
   refine zret I (v := fun Al => .tuple #[.agg #[.int .i64 (kN : Int), .bool false, .bool false, .slice none 0 0, .int .i64 0], .int .i64 (flo : Int)]) fun Al W I => ?_
   first | (rw [if_pos hof, hoffm]; exact a0u (fl := flo) rfl I.below) | (rw [if_neg hof, if_neg (by omega), if_pos h3a]; exact a0u (k := 3) (fl := 0) rfl I.below)
 refine zq I (fun Al W I => have hzW := I.bel.size; (HN W _ (I.box 3 32 _) (by simp only [List.mem_cons, List.mem_nil_iff, or_false]; rintro x (rfl | rfl) <;> omega)).out) fun Al W I => ?_
 refine zb I 30 (a.r.neg != b.r.neg) (ng) (HNG.out) fun Al W I => ?_
 by_cases h3a : a.r.cls = 3
 · by_cases h3b : b.r.cls = 3
   · by_cases h1a : a.r.cls = 1
     · by_cases h1b : b.r.cls = 1
       · refine zb I 34 ((a.r.cls : Int) == 3) (true) (beq_iff_eq.2 (by omega)) fun Al W I => ?_
         refine zb I 38 ((b.r.cls : Int) == 3) (true) (beq_iff_eq.2 (by omega)) fun Al W I => ?_
         refine zq I (fun Al W I => (HL W).out) fun Al W I => ?_
         rw [hM, if_neg hof, if_pos (by omega), hlostm]
         exact zret I fun Al W I => a0u (fl := 16) rfl I.below
       refine zb I 34 ((a.r.cls : Int) == 3) (true) (beq_iff_eq.2 (by omega)) fun Al W I => ?_
       refine zb I 38 ((b.r.cls : Int) == 3) (true) (beq_iff_eq.2 (by omega)) fun Al W I => ?_
       refine zq I (fun Al W I => (HL W).out) fun Al W I => ?_
       rw [hM, if_neg hof, if_pos (by omega), hlostm]
       exact zret I fun Al W I => a0u (fl := 16) rfl I.below
     by_cases h1b : b.r.cls = 1
     · refine zb I 34 ((a.r.cls : Int) == 3) (true) (beq_iff_eq.2 (by omega)) fun Al W I => ?_
       refine zb I 38 ((b.r.cls : Int) == 3) (true) (beq_iff_eq.2 (by omega)) fun Al W I => ?_
       refine zq I (fun Al W I => (HL W).out) fun Al W I => ?_
       rw [hM, if_neg hof, if_pos (by omega), hlostm]
       exact zret I fun Al W I => a0u (fl := 16) rfl I.below
     refine zb I 34 ((a.r.cls : Int) == 3) (true) (beq_iff_eq.2 (by omega)) fun Al W I => ?_
     refine zb I 38 ((b.r.cls : Int) == 3) (true) (beq_iff_eq.2 (by omega)) fun Al W I => ?_
     refine zq I (fun Al W I => (HL W).out) fun Al W I => ?_
     rw [hM, if_neg hof, if_pos (by omega), hlostm]
     exact zret I fun Al W I => a0u (fl := 16) rfl I.below
   by_cases h1a : a.r.cls = 1
   · by_cases h1b : b.r.cls = 1
     · refine zb I 34 ((a.r.cls : Int) == 3) (true) (beq_iff_eq.2 (by omega)) fun Al W I => ?_
       refine zb I 38 ((b.r.cls : Int) == 3) (false) (bFn (by omega)) fun Al W I => ?_
       refine zb I 42 ((a.r.cls : Int) == 1) (true) (beq_iff_eq.2 (by omega)) fun Al W I => ?_
       refine zb I 46 ((b.r.cls : Int) == 1) (true) (beq_iff_eq.2 (by omega)) fun Al W I => ?_
       refine zq I (fun Al W I => (HL W).out) fun Al W I => ?_
       rw [hM, if_neg hof, if_pos (by omega), hlostm]
       exact zret I fun Al W I => a0u (fl := 16) rfl I.below
     refine zb I 34 ((a.r.cls : Int) == 3) (true) (beq_iff_eq.2 (by omega)) fun Al W I => ?_
     refine zb I 38 ((b.r.cls : Int) == 3) (false) (bFn (by omega)) fun Al W I => ?_
     refine zb I 42 ((a.r.cls : Int) == 1) (true) (beq_iff_eq.2 (by omega)) fun Al W I => ?_
     refine zb I 46 ((b.r.cls : Int) == 1) (false) (bFn (by omega)) fun Al W I => ?_
     refine zb I 55 ((a.r.cls : Int) == 3) (true) (beq_iff_eq.2 (by omega)) fun Al W I => ?_
     rw [hM]
     refine zret I (v := fun Al => .tuple #[.agg #[.int .i64 3, .bool ng, .bool false, .slice none 0 0, .int .i64 0], .int .i64 0]) fun Al W I => ?_
     first | (rw [if_pos hof, hoffm]; exact a0u (fl := flo) rfl I.below) | (rw [if_neg hof, if_neg (by omega), if_pos h3a]; exact a0u (k := 3) (fl := 0) rfl I.below)
   by_cases h1b : b.r.cls = 1
   · refine zb I 34 ((a.r.cls : Int) == 3) (true) (beq_iff_eq.2 (by omega)) fun Al W I => ?_
     refine zb I 38 ((b.r.cls : Int) == 3) (false) (bFn (by omega)) fun Al W I => ?_
     refine zb I 42 ((a.r.cls : Int) == 1) (false) (bFn (by omega)) fun Al W I => ?_
     refine zb I 55 ((a.r.cls : Int) == 3) (true) (beq_iff_eq.2 (by omega)) fun Al W I => ?_
     rw [hM]
     refine zret I (v := fun Al => .tuple #[.agg #[.int .i64 3, .bool ng, .bool false, .slice none 0 0, .int .i64 0], .int .i64 0]) fun Al W I => ?_
     first | (rw [if_pos hof, hoffm]; exact a0u (fl := flo) rfl I.below) | (rw [if_neg hof, if_neg (by omega), if_pos h3a]; exact a0u (k := 3) (fl := 0) rfl I.below)
   refine zb I 34 ((a.r.cls : Int) == 3) (true) (beq_iff_eq.2 (by omega)) fun Al W I => ?_
   refine zb I 38 ((b.r.cls : Int) == 3) (false) (bFn (by omega)) fun Al W I => ?_
   refine zb I 42 ((a.r.cls : Int) == 1) (false) (bFn (by omega)) fun Al W I => ?_
   refine zb I 55 ((a.r.cls : Int) == 3) (true) (beq_iff_eq.2 (by omega)) fun Al W I => ?_
   rw [hM]
   refine zret I (v := fun Al => .tuple #[.agg #[.int .i64 3, .bool ng, .bool false, .slice none 0 0, .int .i64 0], .int .i64 0]) fun Al W I => ?_
   first | (rw [if_pos hof, hoffm]; exact a0u (fl := flo) rfl I.below) | (rw [if_neg hof, if_neg (by omega), if_pos h3a]; exact a0u (k := 3) (fl := 0) rfl I.below)
 by_cases h3b : b.r.cls = 3
 · by_cases h1a : a.r.cls = 1
   · by_cases h1b : b.r.cls = 1
     · refine zb I 34 ((a.r.cls : Int) == 3) (false) (bFn (by omega)) fun Al W I => ?_
       refine zb I 42 ((a.r.cls : Int) == 1) (true) (beq_iff_eq.2 (by omega)) fun Al W I => ?_
       refine zb I 46 ((b.r.cls : Int) == 1) (true) (beq_iff_eq.2 (by omega)) fun Al W I => ?_
       refine zq I (fun Al W I => (HL W).out) fun Al W I => ?_
       rw [hM, if_neg hof, if_pos (by omega), hlostm]
       exact zret I fun Al W I => a0u (fl := 16) rfl I.below
     refine zb I 34 ((a.r.cls : Int) == 3) (false) (bFn (by omega)) fun Al W I => ?_
     refine zb I 42 ((a.r.cls : Int) == 1) (true) (beq_iff_eq.2 (by omega)) fun Al W I => ?_
     refine zb I 46 ((b.r.cls : Int) == 1) (false) (bFn (by omega)) fun Al W I => ?_
     refine zb I 55 ((a.r.cls : Int) == 3) (false) (bFn (by omega)) fun Al W I => ?_
     refine zb I 61 ((b.r.cls : Int) == 3) (true) (beq_iff_eq.2 (by omega)) fun Al W I => ?_
     refine zq I (fun Al W I => (HZ ng W).out) fun Al W I => ?_
     rw [hM, if_neg hof, if_neg (by omega), if_neg (by omega), if_pos (by omega), hzm]
     exact zret I fun Al W I => a0u (k := 1) (fl := 0) rfl I.below
   by_cases h1b : b.r.cls = 1
   · refine zb I 34 ((a.r.cls : Int) == 3) (false) (bFn (by omega)) fun Al W I => ?_
     refine zb I 42 ((a.r.cls : Int) == 1) (false) (bFn (by omega)) fun Al W I => ?_
     refine zb I 55 ((a.r.cls : Int) == 3) (false) (bFn (by omega)) fun Al W I => ?_
     refine zb I 61 ((b.r.cls : Int) == 3) (true) (beq_iff_eq.2 (by omega)) fun Al W I => ?_
     refine zq I (fun Al W I => (HZ ng W).out) fun Al W I => ?_
     rw [hM, if_neg hof, if_neg (by omega), if_neg (by omega), if_pos (by omega), hzm]
     exact zret I fun Al W I => a0u (k := 1) (fl := 0) rfl I.below
   refine zb I 34 ((a.r.cls : Int) == 3) (false) (bFn (by omega)) fun Al W I => ?_
   refine zb I 42 ((a.r.cls : Int) == 1) (false) (bFn (by omega)) fun Al W I => ?_
   refine zb I 55 ((a.r.cls : Int) == 3) (false) (bFn (by omega)) fun Al W I => ?_
   refine zb I 61 ((b.r.cls : Int) == 3) (true) (beq_iff_eq.2 (by omega)) fun Al W I => ?_
   refine zq I (fun Al W I => (HZ ng W).out) fun Al W I => ?_
   rw [hM, if_neg hof, if_neg (by omega), if_neg (by omega), if_pos (by omega), hzm]
   exact zret I fun Al W I => a0u (k := 1) (fl := 0) rfl I.below
 by_cases h1a : a.r.cls = 1
 · by_cases h1b : b.r.cls = 1
   · refine zb I 34 ((a.r.cls : Int) == 3) (false) (bFn (by omega)) fun Al W I => ?_
     refine zb I 42 ((a.r.cls : Int) == 1) (true) (beq_iff_eq.2 (by omega)) fun Al W I => ?_
     refine zb I 46 ((b.r.cls : Int) == 1) (true) (beq_iff_eq.2 (by omega)) fun Al W I => ?_
     refine zq I (fun Al W I => (HL W).out) fun Al W I => ?_
     rw [hM, if_neg hof, if_pos (by omega), hlostm]
     exact zret I fun Al W I => a0u (fl := 16) rfl I.below
   refine zb I 34 ((a.r.cls : Int) == 3) (false) (bFn (by omega)) fun Al W I => ?_
   refine zb I 42 ((a.r.cls : Int) == 1) (true) (beq_iff_eq.2 (by omega)) fun Al W I => ?_
   refine zb I 46 ((b.r.cls : Int) == 1) (false) (bFn (by omega)) fun Al W I => ?_
   refine zb I 55 ((a.r.cls : Int) == 3) (false) (bFn (by omega)) fun Al W I => ?_
   refine zb I 61 ((b.r.cls : Int) == 3) (false) (bFn (by omega)) fun Al W I => ?_
   refine zb I 64 ((a.r.cls : Int) == 1) (true) (beq_iff_eq.2 (by omega)) fun Al W I => ?_
   refine zq I (fun Al W I => (HZ ng W).out) fun Al W I => ?_
   rw [hM, if_neg hof, if_neg (by omega), if_neg (by omega), if_pos (by omega), hzm]
   exact zret I fun Al W I => a0u (k := 1) (fl := 0) rfl I.below
 by_cases h1b : b.r.cls = 1
 · refine zb I 34 ((a.r.cls : Int) == 3) (false) (bFn (by omega)) fun Al W I => ?_
   refine zb I 42 ((a.r.cls : Int) == 1) (false) (bFn (by omega)) fun Al W I => ?_
   refine zb I 55 ((a.r.cls : Int) == 3) (false) (bFn (by omega)) fun Al W I => ?_
   refine zb I 61 ((b.r.cls : Int) == 3) (false) (bFn (by omega)) fun Al W I => ?_
   refine zb I 64 ((a.r.cls : Int) == 1) (false) (bFn (by omega)) fun Al W I => ?_
   refine zb I 71 ((b.r.cls : Int) == 1) (true) (beq_iff_eq.2 (by omega)) fun Al W I => ?_
   refine zqr I (fun Al W I => (HPo W).out) fun Al W p74 c74 I => ?_
   rw [hM, if_neg hof, if_neg (by omega), if_neg (by omega), if_neg (by omega), if_pos h1b]
   exact zret I fun Al W I => ⟨p74, c74, rfl, I.fa.1, I.below⟩
 refine zb I 34 ((a.r.cls : Int) == 3) (false) (bFn (by omega)) fun Al W I => ?_
 refine zb I 42 ((a.r.cls : Int) == 1) (false) (bFn (by omega)) fun Al W I => ?_
 refine zb I 55 ((a.r.cls : Int) == 3) (false) (bFn (by omega)) fun Al W I => ?_
 refine zb I 61 ((b.r.cls : Int) == 3) (false) (bFn (by omega)) fun Al W I => ?_
 refine zb I 64 ((a.r.cls : Int) == 1) (false) (bFn (by omega)) fun Al W I => ?_
 refine zb I 71 ((b.r.cls : Int) == 1) (false) (bFn (by omega)) fun Al W I => ?_
 refine zi I 91 .i64 (a.r.x.e - b.r.x.e) ((a.r.x.e - b.r.x.e)) ((by exact iwo)) fun Al W I => ?_
 refine zqr I (fun Al W I => have hzW := I.bel.size; (HF W I.fa.1 I.fa.2.1 (hpb (by omega))).out) fun Al W p94 c94 I => ?_
 rw [hM, if_neg hof, if_neg (by omega), if_neg (by omega), if_neg (by omega), if_neg (by omega)]
 exact zret I fun Al W I => ⟨p94, c94, rfl, I.fa.1, I.below⟩
def rflF (b : Nat) (xs : List Wp) : PF :=
 ⟨fun w => ∀ x, x ∈ xs → Rf w b x.p x.c (dig B16 x.r.x.m), fun a => ∃ x, x ∈ xs ∧ 0 < (dig B16 x.r.x.m).length ∧ blk x.p = a, fun _ _ h hb _ x hx => ⟨(h x hx).rd.same fun hp => hb _ ((h x hx).rd.lt hp) ⟨x, hx, hp, rfl⟩, (h x hx).cap, (h x hx).at_⟩, fun _ _ h ⟨x, hx, hp, hf⟩ => hf ▸ (h x hx).rd.lt hp⟩
theorem f1w {w : World} {b : Nat} {xs : List Wp} {r : Vr} {p : Option Addr} {c : Nat} (h : ∀ x, x ∈ xs → Rf w b x.p x.c (dig B16 x.r.x.m)) (o : Rf w b p c (dig B16 r.x.m)) : ∀ x, x ∈ xs ++ [⟨r, p, c⟩] → Rf w b x.p x.c (dig B16 x.r.x.m) := fun x hx => by
 rw [List.mem_append, List.mem_singleton] at hx
 rcases hx with hx | rfl
 · exact h x hx
 · exact o
theorem c1w {b a : Nat} {xs : List Wp} {r : Vr} {p : Option Addr} {c : Nat} (h : (rflF b (xs ++ [⟨r, p, c⟩])).foot a) (h1 : ∀ x, (x ∈ xs ∧ 0 < (dig B16 x.r.x.m).length ∧ blk x.p = a) → False) (h2 : 0 < (dig B16 r.x.m).length → blk p = a → False) : False := by
 obtain ⟨x, hx, h3, h4⟩ := h
 rw [List.mem_append, List.mem_singleton] at hx
 rcases hx with hx | rfl
 · exact h1 x ⟨hx, h3, h4⟩
 · exact h2 h3 h4
def j1o (n : Int) (w : World) (L : List ByteArray) (en : Ending) (w' : World) : Prop :=
 ∃ (xs : List Wp) (vs : List Value) (p : Option Addr) (c : Nat), en = .returned (.tuple #[.slice p L.length c, .int .i64 0]) ∧ xs.map (·.r) = L.map (refD n) ∧ vs = xs.flatMap Wp.cells ∧ OwnS w' w.heap.size 32 5 p c L.length vs ∧ (∀ x, x ∈ xs → Rf w' w.heap.size x.p x.c (dig B16 x.r.x.m)) ∧ Below w.heap.size w w'
theorem c1x (n way : Int) (L : List ByteArray) (b m : Nat) (w : World) (hB0 : Bt w b 9 (L.map Value.string).toArray) (hm : m = L.length) (hl : L.length ≤ 1000) (h0 : errR n way L = 0) :
 Calls Tryz.prog 10 #[.int .i64 n, .int .i64 way, .slice (some ⟨b, 0, none⟩) m m] w (j1o n w L) := by
 subst hm
 obtain ⟨hn, hL, hw⟩ := k0l h0
 have HF := fun W => hi0 (b0j n W)
 rw [decide_eq_true hn] at HF
 have HX : ∀ i, i < L.length → ∃ s : ByteArray, L[i]? = some s ∧ b0d n s = 0 ∧ (L.map Value.string).toArray[i]? = some (.string s) ∧ L.take (i + 1) = L.take i ++ [s] := fun i h => ⟨L[i], List.getElem?_eq_getElem h, g0t n hL _ (List.getElem_mem h), by simp [h], by rw [List.take_add_one, List.getElem?_eq_getElem h]; rfl⟩
 have HO := fun s W => hi0 (n0v n s W)
 have HD := fun s W h => hi0 (h0z n s W hn h)
 have hsz := fun s (h : b0d n s = 0) => (c0z.1 h).2
 have HI := fun W => hi0 (stay (l0j way W))
 rw [s0u hw.1 hw.2] at HI
 have hrd : ∀ s, (fmt n).refN (b0e (fmt n) s) = refD n s := fun s => rfl
 simp only [hrd] at HD
 generalize hgs : (fun s => (fmt n).neg (b0e (fmt n) s)) = gs
 have HD2 : ∀ s (W : World), s.size = (fmt n).size → Hid (Calls Tryz.prog 32 #[.int .i64 n, .string s] W (k0j W (refD n s) (gs s))) := by subst hgs; exact HD
 clear hgs HD hrd
 generalize fmt n = f at *
 have I := Inv.start w [btF b 9 (L.map Value.string).toArray] ⟨hB0, True.intro⟩
 refine a0e [.v (.int .i64 n), .v (.int .i64 way), .v (.slice (some ⟨b, 0, none⟩) L.length L.length)] I Tryz.func10 ?_
 refine zq I (fun Al W I => (HF W).out) fun Al W I => ?_
 have I := I.add (h0m w.heap.size 32 5 none 0 0 []) (OwnS.nil _ _ _ _) (fun _ _ h => by cases h.1)
 have I := I.add (rflF w.heap.size []) (fun _ h => by cases h) (fun _ _ ⟨_, h, _⟩ => by cases h)
 refine o0l I (fun gk fr bx gs => ∃ (U900 : Nat → Value) (i : Nat) (p8 : Option Addr) (c8 : Nat) (xs : List Wp) (vs : List Value), fr = (.v (.int .i64 n) :: .v (.int .i64 way) :: .v (.slice (some ⟨b, 0, none⟩) L.length L.length) :: su 3 (sw U900 6 2 (.v (.slice p8 i c8) :: .v (U900 9) :: .v (.bool true) :: .v (.int .i64 (i : Int)) :: sw U900 12 9 (.v (.bool false) :: sw U900 22 30 (.v undef :: .v (U900 53) :: [])))) : List SV) ∧ bx = [⟨62, [.v (.int .i64 (f.size : Int)), .v (.int .i64 (f.E : Int)), .v (.int .i64 (f.F : Int)), .v (.int .i64 f.g.rad), .v (.int .i64 f.g.digs), .v (.int .i64 f.g.lo), .v (.int .i64 f.g.hi), .v (.bool f.g.grad), .v (.int .i64 (f.fam : Int))], false⟩] ∧ gs = [rflF w.heap.size xs, h0m w.heap.size 32 5 p8 c8 i vs, btF b 9 (L.map Value.string).toArray] ∧ (gk + i = L.length) ∧ (vs = xs.flatMap Wp.cells) ∧ (xs.map (·.r) = (L.take i).map (refD n)) ∧ (p8.isSome = true → ¬ (rflF w.heap.size xs).foot (blk p8))) L.length (fun Al W U I => ⟨_, ⟨U, 0, none, 0, [], [], rfl, rfl, rfl, (by omega), rfl, rfl, (fun h => by cases h)⟩, I.pick [0, 1, 2]⟩) ?_
 rintro J gk0 _ _ _ ⟨U900, i, p8, c8, xs, vs, rfl, rfl, rfl, hgk, hvs, hxs, hap⟩ hJ Al W I
 rcases Bool.eq_false_or_eq_true (decide ((i : Int) < (L.length : Int))) with f25 | f25
 · refine zb I 25 (decide ((i : Int) < (L.length : Int))) (true) (f25) fun Al W I => ?_
   obtain ⟨s, hs, hse, hsv, hst⟩ := HX i (by have := oTr f25; omega)
   refine zx I 31 (fun _ => .pointer (some (at_ (some ⟨b, 0, none⟩) i))) (fun Al W I => (h0x (m := i) (n := L.length) (c := L.length) y0i (fun _ => ⟨rfl, rfl⟩) (by have := oTr f25; omega))) fun Al W I => ?_
   refine zx I 32 (fun _ => .string s) (fun Al W I => (i0b I.fa.2.2.1 y0j _ hsv)) fun Al W I => ?_
   refine zq I (fun Al W I => (HO s W).out) fun Al W I => ?_
   refine zb I 35 ((b0d n s) != 0) (false) (bne_eq_false_iff_eq.2 hse) fun Al W I => ?_
   refine zx I 41 (fun _ => .pointer (some (at_ (some ⟨b, 0, none⟩) i))) (fun Al W I => (h0x (m := i) (n := L.length) (c := L.length) y0i (fun _ => ⟨rfl, rfl⟩) (by have := oTr f25; omega))) fun Al W I => ?_
   refine zx I 42 (fun _ => .string s) (fun Al W I => (i0b I.fa.2.2.1 y0j _ hsv)) fun Al W I => ?_
   refine zg I (fun Al W I => (HD2 s W (hsz s hse)).out) fun Al V Iv _ hB _ kz => ?_
   rintro _ W ⟨p43, c43, rfl, o43, hb⟩
   have n43 : p8.isSome = true → ¬ (0 < (dig B16 (refD n s).x.m).length ∧ blk p43 = blk p8) := fun hp h => by have h1 := o43.at_ h.1; have h2 := (Iv.fa.2.1.blk_lt hp).2; omega
   refine ⟨_, rfl, kz _ _ hb fun I => ?_⟩
   have I := I.rf o43 (hB _) Iv
   have I := I.pick [2, 0, 1, 3]
   refine zap I tvV 2 1 (fun Al => [.int .i64 (((refD n s).cls : Nat) : Int), .bool ((refD n s).neg), .bool ((refD n s).x.neg), .slice p43 (dig B16 (refD n s).x.m).length c43, .int .i64 ((refD n s).x.e)]) (fun Al W I => I.box 2 32 _) (by omega) (fun Al W I hp => ⟨n43 hp, hap hp, fun e => I.fa.1.far I.fa.2.2.2.1 (by kernel_rfl) hp (Eq.symm e), True.intro⟩) fun Al W p49 c49 hq_49 I => ?_
   have I := I.add (rflF w.heap.size (xs ++ [(⟨refD n s, p43, c43⟩ : Wp)])) (f1w I.fa.2.2.1 I.fa.2.1) (fun a ha h => c1w h ((fun a ha h0 e => (I.far a ha).2.2.1 ⟨h0, e⟩) a ha) ((fun a ha h0 e => (I.far a ha).2.1 ⟨h0, e⟩) a ha))
   refine zi I 27 .i64 ((i : Int) + 1) (((i + 1 : Nat) : Int)) ((by rw [show ((i : Int) + 1) = ((i + 1 : Nat) : Int) by omega]; exact IntWalk.i64_in _ (by have := oTr f25; omega))) fun Al W I => ?_
   exact p0o 1 I J fun Al W U I => hJ (gk0 - 1) _ _ _ _ _ ((by have := oTr f25; omega)) ⟨U, i + 1, p49, c49, xs ++ [(⟨refD n s, p43, c43⟩ : Wp)], _, rfl, rfl, rfl, (by have := oTr f25; omega), (by rw [hvs, List.flatMap_append]; rfl), (by rw [hst, List.map_append, List.map_append, hxs]; rfl), (fun hp h => c1w h (fun x hx => (hq_49 hp).2.1 ⟨x, hx⟩) (fun h1 h2 => (hq_49 hp).1 ⟨h1, h2⟩))⟩ (I.pick [0, 1, 4])
 refine zb I 25 (decide ((i : Int) < (L.length : Int))) (false) (f25) fun Al W I => ?_
 refine zq I (fun Al W I => (HI W).out) fun Al W I => ?_
 have hi : i = L.length := by have := oFa f25; omega
 exact zret I (v := fun Al => .tuple #[.slice p8 i c8, .int .i64 0]) fun Al W I => ⟨xs, vs, p8, c8, by rw [hi], by rw [hxs, hi, List.take_length], hvs, hi ▸ I.fa.2.1, I.fa.1, I.below⟩
theorem y0l (n way : Int) (L : List ByteArray) (b m : Nat) (w : World) (hB0 : Bt w b 9 (L.map Value.string).toArray) (hm : m = L.length) (hl : L.length ≤ 1000) (h0 : errR n way L ≠ 0) :
 Calls Tryz.prog 10 #[.int .i64 n, .int .i64 way, .slice (some ⟨b, 0, none⟩) m m] w fun en w' => en = .returned (.tuple #[.slice none 0 0, .int .i64 (errR n way L)]) ∧ Below w.heap.size w w' := by
 subst hm
 have HF := fun W => hi0 (b0j n W)
 by_cases hn : IsFm n
 · rw [decide_eq_true hn] at HF
   have hE : errR n way L = if errL n L = 0 then (if 1 ≤ way ∧ way ≤ 5 then 0 else 6) else errL n L := by unfold errR; rw [if_pos hn]
   have HO := fun s W => hi0 (n0v n s W)
   have HD := fun s W h => hi0 (h0z n s W hn h)
   have hsz := fun s (h : b0d n s = 0) => (c0z.1 h).2
   have HI := fun W => hi0 (stay (l0j way W))
   generalize hgs : (fun s => (fmt n).neg (b0e (fmt n) s)) = gs
   have HD2 : ∀ s (W : World), s.size = (fmt n).size → Hid (Calls Tryz.prog 32 #[.int .i64 n, .string s] W (k0j W (refD n s) (gs s))) := by subst hgs; exact HD
   clear hgs HD
   have HX : ∀ i, i < L.length → ∃ s : ByteArray, L[i]? = some s ∧ (L.map Value.string).toArray[i]? = some (.string s) := fun i h => ⟨L[i], List.getElem?_eq_getElem h, by simp [h]⟩
   have HJ : errL n L ≠ 0 → ∃ (j : Nat) (s : ByteArray), L[j]? = some s ∧ errL n L = b0d n s ∧ b0d n s ≠ 0 ∧ ∀ i t, i < j → L[i]? = some t → b0d n t = 0 := v0c n L
   have HZ : errL n L = 0 → ∀ (i : Nat) (t : ByteArray), L[i]? = some t → b0d n t = 0 := fun h i t ht => g0t n h t (by obtain ⟨h1, h2⟩ := List.getElem?_eq_some_iff.1 ht; rw [← h2]; exact List.getElem_mem h1)
   -- where the first fault is, or behind all
   obtain ⟨j, hjl, hj1, hj2⟩ : ∃ j, j ≤ L.length ∧ (∀ (i : Nat) (t : ByteArray), i < j → L[i]? = some t → b0d n t = 0) ∧ (∀ (s : ByteArray), L[j]? = some s → b0d n s ≠ 0 ∧ errR n way L = b0d n s) := by
    by_cases hL : errL n L = 0
    · exact ⟨L.length, Nat.le_refl _, fun i t _ ht => HZ hL i t ht, fun s hs => by simp at hs⟩
    · obtain ⟨j, s, h1, h2, h3, h4⟩ := HJ hL
      refine ⟨j, by have := (List.getElem?_eq_some_iff.1 h1).1; omega, h4, fun t ht => ?_⟩
      rw [h1] at ht
      cases ht
      exact ⟨h3, by rw [hE, if_neg hL, h2]⟩
   have hend : j = L.length → wayB way = false ∧ errR n way L = 6 := fun h => by
    have hL : errL n L = 0 := by
     by_cases hL : errL n L = 0
     · exact hL
     · obtain ⟨j', s, h1, h2, h3, h4⟩ := HJ hL
       have := (List.getElem?_eq_some_iff.1 h1).1
       exact absurd (hj1 j' s (by omega) h1) h3
    rw [hE, if_pos hL] at h0 ⊢
    have hw : ¬ (1 ≤ way ∧ way ≤ 5) := fun k => h0 (if_pos k)
    exact ⟨l0d (by omega), if_neg hw⟩
   generalize errR n way L = er at *
   generalize fmt n = f at *
   clear HJ HZ hE
   have I := Inv.start w [btF b 9 (L.map Value.string).toArray] ⟨hB0, True.intro⟩
   refine a0e [.v (.int .i64 n), .v (.int .i64 way), .v (.slice (some ⟨b, 0, none⟩) L.length L.length)] I Tryz.func10 ?_
   refine zq I (fun Al W I => (HF W).out) fun Al W I => ?_
   have I := I.add (h0m w.heap.size 32 5 none 0 0 []) (OwnS.nil _ _ _ _) (fun _ _ h => by cases h.1)
   refine o0l I (fun gk fr bx gs => ∃ (U900 : Nat → Value) (i : Nat) (p8 : Option Addr) (c8 : Nat) (vs : List Value), fr = (.v (.int .i64 n) :: .v (.int .i64 way) :: .v (.slice (some ⟨b, 0, none⟩) L.length L.length) :: su 3 (sw U900 6 2 (.v (.slice p8 i c8) :: .v (U900 9) :: .v (.bool true) :: .v (.int .i64 (i : Int)) :: sw U900 12 9 (.v (.bool false) :: sw U900 22 30 (.v undef :: .v (U900 53) :: [])))) : List SV) ∧ bx = [⟨62, [.v (.int .i64 (f.size : Int)), .v (.int .i64 (f.E : Int)), .v (.int .i64 (f.F : Int)), .v (.int .i64 f.g.rad), .v (.int .i64 f.g.digs), .v (.int .i64 f.g.lo), .v (.int .i64 f.g.hi), .v (.bool f.g.grad), .v (.int .i64 (f.fam : Int))], false⟩] ∧ gs = [h0m w.heap.size 32 5 p8 c8 i vs, btF b 9 (L.map Value.string).toArray] ∧ (gk + i = L.length) ∧ (i ≤ j)) L.length (fun Al W U I => ⟨_, ⟨U, 0, none, 0, [], rfl, rfl, rfl, (by omega), (by omega)⟩, I.pick [0, 1]⟩) ?_
   rintro J gk0 _ _ _ ⟨U900, i, p8, c8, vs, rfl, rfl, rfl, hgk, hij⟩ hJ Al W I
   rcases Bool.eq_false_or_eq_true (decide ((i : Int) < (L.length : Int))) with f25 | f25
   · refine zb I 25 (decide ((i : Int) < (L.length : Int))) (true) (f25) fun Al W I => ?_
     obtain ⟨s, hs, hsv⟩ := HX i (by have := oTr f25; omega)
     refine zx I 31 (fun _ => .pointer (some (at_ (some ⟨b, 0, none⟩) i))) (fun Al W I => (h0x (m := i) (n := L.length) (c := L.length) y0i (fun _ => ⟨rfl, rfl⟩) (by have := oTr f25; omega))) fun Al W I => ?_
     refine zx I 32 (fun _ => .string s) (fun Al W I => (i0b I.fa.2.1 y0j _ hsv)) fun Al W I => ?_
     refine zq I (fun Al W I => (HO s W).out) fun Al W I => ?_
     by_cases hij2 : i = j
     · refine zb I 35 ((b0d n s) != 0) (true) (bne_iff_ne.2 (by subst hij2; exact (hj2 s hs).1)) fun Al W I => ?_
       exact zret I (v := fun Al => .tuple #[.slice none 0 0, .int .i64 (b0d n s)]) fun Al W I => ⟨by rw [(hj2 s (hij2 ▸ hs)).2], I.below⟩
     refine zb I 35 ((b0d n s) != 0) (false) (bne_eq_false_iff_eq.2 (hj1 i s (by omega) hs)) fun Al W I => ?_
     refine zx I 41 (fun _ => .pointer (some (at_ (some ⟨b, 0, none⟩) i))) (fun Al W I => (h0x (m := i) (n := L.length) (c := L.length) y0i (fun _ => ⟨rfl, rfl⟩) (by have := oTr f25; omega))) fun Al W I => ?_
     refine zx I 42 (fun _ => .string s) (fun Al W I => (i0b I.fa.2.1 y0j _ hsv)) fun Al W I => ?_
     refine zg I (fun Al W I => have hzW := I.bel.size; (HD2 s W (hsz s (hj1 i s (by omega) hs))).out) fun Al V Iv _ hB _ kz => ?_
     rintro _ W ⟨p43, c43, rfl, -, hb⟩
     refine ⟨_, rfl, kz _ _ hb fun I => ?_⟩
     refine zap I tvV 2 1 (fun Al => [.int .i64 (((refD n s).cls : Nat) : Int), .bool ((refD n s).neg), .bool ((refD n s).x.neg), .slice p43 (dig B16 (refD n s).x.m).length c43, .int .i64 ((refD n s).x.e)]) (fun Al W I => I.box 2 32 _) (by omega) (fun Al W I hp => ⟨fun e => I.fa.1.far I.fa.2.1 (by kernel_rfl) hp (Eq.symm e), True.intro⟩) fun Al W p49 c49 hq_49 I => ?_
     refine zi I 27 .i64 ((i : Int) + 1) (((i + 1 : Nat) : Int)) ((by rw [show ((i : Int) + 1) = ((i + 1 : Nat) : Int) by omega]; exact IntWalk.i64_in _ (by have := oTr f25; omega))) fun Al W I => ?_
     exact p0o 1 I J fun Al W U I => hJ (gk0 - 1) _ _ _ _ _ ((by have := oTr f25; omega)) ⟨U, i + 1, p49, c49, _, rfl, rfl, rfl, (by have := oTr f25; omega), (by omega)⟩ (I.pick [0, 1])
   refine zb I 25 (decide ((i : Int) < (L.length : Int))) (false) (f25) fun Al W I => ?_
   refine zqd I (fun Al W I => (HI W).out) (show (wayB way) = false from (hend (by have := oFa f25; omega)).1) fun Al W I => ?_
   exact zret I (v := fun Al => .tuple #[.slice none 0 0, .int .i64 6]) fun Al W I => ⟨by rw [(hend (by have := oFa f25; omega)).2], I.below⟩
 · rw [decide_eq_false hn] at HF
   have hE : errR n way L = 6 := by unfold errR; rw [if_neg hn]
   rw [hE]
   generalize fmt n = f at *
   have I := Inv.start w [] True.intro
   refine a0e [.v (.int .i64 n), .v (.int .i64 way), .v (.slice (some ⟨b, 0, none⟩) L.length L.length)] I Tryz.func10 ?_
   refine zq I (fun Al W I => (HF W).out) fun Al W I => ?_
   exact zrb I
theorem v0e {m k : Nat} (h1 : 2 ^ k ≤ m) (h2 : m < 2 ^ (k + 1)) : blen m = k + 1 := by
 have a := (b0p m (k + 1)).2 h2
 have b : ¬ blen m ≤ k := fun h => by have := (b0p m k).1 h; omega
 omega
def oneS : ByteArray := b0q [63, 128, 0, 0]
def twoS : ByteArray := b0q [64, 0, 0, 0]
theorem j1p : b0e (fmt 1) oneS = 1065353216 := by
 unfold b0e oneS
 rw [r0f (by decide)]
 decide +kernel
theorem j1q : b0d 1 oneS = 0 := c0z.2 ⟨by decide, by unfold oneS; rw [w0w]; rfl⟩
theorem j1r : refD 1 oneS = ⟨2, false, ⟨false, 1, 0⟩⟩ := by
 unfold refD
 rw [j1p]
 have hd : (fmt 1).decN 1065353216 = ⟨2, 8388608, -23⟩ := by kernel_rfl
 have hg : (fmt 1).neg 1065353216 = false := by decide +kernel
 unfold Fm.refN Fm.vr
 rw [hd, hg]
 have ht : tz 8388608 = 23 := m0i 1 23 rfl
 have hw : wid (fmt 1).g = 1 := by decide
 unfold Dc.c bare
 simp [ht, hw]
theorem j1s : k0r ⟨false, 1, 0⟩ ⟨false, 1, 0⟩ = ⟨false, 1, 1⟩ := by
 rw [x0g _ _ (e := 0) (by decide) (by decide)]
 have hz : zOf ⟨false, 1, 0⟩ 0 + zOf ⟨false, 1, 0⟩ 0 = 2 := by decide
 rw [hz]
 have ht : tz 2 = 1 := m0i 1 1 rfl
 unfold norm ofZ bare
 simp [ht]
theorem j1t : (fmt 1).addM ⟨2, false, ⟨false, 1, 0⟩⟩ ⟨2, false, ⟨false, 1, 0⟩⟩ 1 = (⟨2, false, ⟨false, 1, 1⟩⟩, 0) := by
 have hK : theK 1 1 1 1 24 = -22 := by
  have h := t0z (m := 1) (by decide) 1 (w := 1) (D := 24) (by decide) (by decide)
  rw [show blen 1 = 1 from v0e (k := 0) (by decide) (by decide)] at h
  exact h1o (by decide) (by decide) (by decide) (by decide) h
 have hR : a0q false 1 1 1 (fmt 1).g 1 = ⟨false, 8388608, -22, true, false, false⟩ := by
  unfold a0q
  rw [if_neg (by decide), show wid (fmt 1).g = 1 from rfl, show (fmt 1).g.digs.toNat = 24 from rfl, hK]
  kernel_rfl
 have ht : tz 8388608 = 23 := m0i 1 23 rfl
 unfold Fm.addM
 rw [if_neg (by decide), if_neg (by decide)]
 unfold Fm.sumM
 rw [j1s, if_pos (by decide)]
 unfold Fm.numM
 rw [if_neg (by decide), hR]
 unfold Fm.placedM Fm.flP bare
 have hw : wid (fmt 1).g = 1 := by decide
 simp [ht, hw]
theorem j1u : strR 1 ⟨2, false, ⟨false, 1, 1⟩⟩ = twoS := by
 have hb : blen 1 = 1 := v0e (k := 0) (by decide) (by decide)
 have h24 : blen 8388608 = 24 := v0e (k := 23) (by decide) (by decide)
 have hs : c0u ⟨false, 1, 1⟩ (fmt 1).g = -22 := by
  unfold c0u upK topD
  simp only [hb]
  decide
 have hf : (fmt 1).fr ⟨false, 1, 1⟩ = 8388608 := by
  unfold Fm.fr
  rw [hs]
  decide
 have hn : (fmt 1).numP ⟨false, 1, 1⟩ = ⟨false, 128, 0⟩ := by
  unfold Fm.numP
  rw [hf, hs, h24]
  kernel_rfl
 have he : (fmt 1).encP 2 false ⟨false, 1, 1⟩ = ⟨false, 128, 0⟩ := hn
 have h2 : (fmt 1).strP ⟨false, 128, 0⟩ = [64, 0, 0, 0] := by decide +kernel
 unfold strR twoS
 simp only
 rw [he, h2]
theorem f1x : errR 1 1 [oneS, oneS] = 0 := by
 unfold errR errL errL errL
 rw [j1q]
 decide
theorem o0s (w : World) (hT : TabW w) : Calls Tryz.prog 12 #[] w fun en w' => en = .returned (.bool true) ∧ Below w.heap.size w w' := by
 have HA : ∀ W, TabW W → Hid (Calls Tryz.prog 37 #[.int .i64 1, .string oneS, .string oneS, .int .i64 1] W fun en w' => en = .returned (.tuple #[.string twoS, .int .i64 0, .int .i64 0]) ∧ Below W.heap.size W w') := by
  intro W h
  have := f1u 1 1 oneS oneS W h
  unfold e0z at this
  rw [f1x, j1r, j1t] at this
  simp only [j1u, if_true] at this
  exact hi0 this
 refine calls_of_wp Tryz.func12 rfl ?_
 refine a0z (a' := ⟨(us 26 []).toArray, []⟩) (by kernel_rfl) ?_
 refine yq ?_
 refine ye ?_
 refine ywv 0 rfl 5 (.slice (some ⟨w.heap.size, 0, none⟩) 4 4) #[.int .u8 63, .int .u8 128, .int .u8 0, .int .u8 0] 5 (fun V1 hbV1 hzV1 b5 => ?_)
 refine yv 0 rfl 6 (.string oneS) ?_ (k0a (p := some ⟨w.heap.size, 0, none⟩) (n := 4) (c := 4) (xs := [63, 128, 0, 0]) p0g x0s uStr (c1j b5) rfl (by kernel_rfl))
 refine yzt 1 ?_
 refine ye ?_
 replace hT := (hT.past hbV1)
 refine yc 2 rfl 10 ((HA V1 hT).out) (fun Gx hGx => ?_)
 rintro eV2 V2 ⟨rfl, hbV2⟩
 have hzV2 := hbV2.size
 refine ⟨_, rfl, hGx _ _ ?_⟩
 clear hGx Gx
 refine yzt 7 ?_
 refine ye ?_
 refine ywv 8 rfl 22 (.slice (some ⟨V2.heap.size, 0, none⟩) 4 4) #[.int .u8 64, .int .u8 0, .int .u8 0, .int .u8 0] 5 (fun V3 hbV3 hzV3 b22 => ?_)
 refine yv 0 rfl 23 (.string twoS) ?_ (k0a (p := some ⟨V2.heap.size, 0, none⟩) (n := 4) (c := 4) (xs := [64, 0, 0, 0]) p0g x0s uStr (c1j b22) rfl (by kernel_rfl))
 refine yv 0 rfl 24 (.bool true) ?_ (f1f (s := twoS) (by kernel_rfl) (by kernel_rfl))
 refine yzt 2 ?_
 refine wp_ret ?_
 repeat (first | with_reducible refine a0x ?_ | with_reducible refine a0t ?_)
 refine yret (.bool true) (res1 Tryz.results12 rvt) ?_
 exact ⟨rfl, (a0b (a0b hbV1 hbV2) hbV3)⟩
theorem t0k (n : Int) (r : Vr) (fl : Nat) (p : Option Addr) (c base : Nat) (w : World) (hn : IsFm n) (hp : Rf w base p c (dig B16 r.x.m)) (R : ResF (fmt n) r) :
 Calls Tryz.prog 13 #[.int .i64 n, .string (strR n r), .int .i64 (fl : Int), .int .i64 0, .int .i64 0, .agg #[.int .i64 (r.cls : Int), .bool r.neg, .bool r.x.neg, .slice p (dig B16 r.x.m).length c, .int .i64 r.x.e], .int .i64 (fl : Int)] w fun en w' => en = .returned (.bool true) ∧ Below w.heap.size w w' := by
 have hg := (c0c hn).g
 have hl : (dig B16 r.x.m).length ≤ 2400 := by
  by_cases h2 : r.cls = 2
  · have := v0r hg (R.c2 h2).1
    have := m0o r.x.m
    omega
  · rw [R.x0 h2]; show (dig B16 0).length ≤ _; rw [a0f]; decide
 have HE := fun W h => hi0 (n0x n r p c base W hn h hl (fun h2 => ⟨(R.c2 h2).1, (R.c2 h2).2.2.1, (R.c2 h2).2.1, (R.c2 h2).2.2.2, v0r hg (R.c2 h2).1⟩))
 have hs : b0q ((fmt n).strP ((fmt n).encP r.cls r.neg r.x)) = strR n r := rfl
 rw [hs] at HE
 generalize strR n r = s at *
 have I := Inv.start w [rfF base p c (dig B16 r.x.m)] ⟨hp, True.intro⟩
 refine a0e [.v (.int .i64 n), .v (.string s), .v (.int .i64 (fl : Int)), .v (.int .i64 0), .v (.int .i64 0), .v (.agg #[.int .i64 (r.cls : Int), .bool r.neg, .bool r.x.neg, .slice p (dig B16 r.x.m).length c, .int .i64 r.x.e]), .v (.int .i64 (fl : Int))] I Tryz.func13 ?_
 refine zq I (fun Al W I => (HE W I.fa.1).out) fun Al W I => ?_
 refine zbin I 27 _ (fun _ _ _ _ _ => b1f s) fun Al W I => ?_
 refine zb I 32 ((fl : Int) == (fl : Int)) (true) (beq_self_eq_true _) fun Al W I => ?_
 exact zrb I
theorem r0p (n er fl : Int) (v : Value) (hv : ∃ k g h q l c e, v = .agg #[.int .i64 k, .bool g, .bool h, .slice q l c, .int .i64 e]) (w : World) (he : er ≠ 0) :
 Calls Tryz.prog 13 #[.int .i64 n, .string (b0q []), .int .i64 0, .int .i64 er, .int .i64 er, v, .int .i64 fl] w fun en w' => en = .returned (.bool true) ∧ Below w.heap.size w w' := by
 obtain ⟨k, g, h, q, l, c, e, rfl⟩ := hv
 have I := Inv.start w [] True.intro
 refine a0e [.v (.int .i64 n), .v (.string (b0q [])), .v (.int .i64 0), .v (.int .i64 er), .v (.int .i64 er), .v (.agg #[.int .i64 k, .bool g, .bool h, .slice q l c, .int .i64 e]), .v (.int .i64 fl)] I Tryz.func13 ?_
 refine zb I 17 (er == 0) (false) (bFn he) fun Al W I => ?_
 refine zb I 23 (er == er) (true) (beq_self_eq_true _) fun Al W I => ?_
 refine zbin I 27 _ (fun _ _ _ _ _ => b1f (b0q [])) fun Al W I => ?_
 exact zrb I
theorem m1p {n : Int} {xs : List Wp} {s t : ByteArray} (h : xs.map (·.r) = [s, t].map (refD n)) : ∃ p1 c1 p2 c2, xs = [⟨refD n s, p1, c1⟩, ⟨refD n t, p2, c2⟩] := by
 cases xs with
 | nil => simp at h
 | cons x l =>
  cases l with
  | nil => simp at h
  | cons y l =>
   cases l with
   | nil => simp only [List.map_cons, List.map_nil, List.cons.injEq, and_true] at h; rw [← h.1, ← h.2]; exact ⟨x.p, x.c, y.p, y.c, rfl⟩
   | cons _ _ => simp at h
def j1v (w : World) (r s : Vr) (en : Ending) (w' : World) : Prop :=
 ∃ p1 c1 p2 c2 p c, en = .returned (.tuple #[.slice p 2 c, .int .i64 0]) ∧ OwnS w' w.heap.size 32 5 p c 2 ((⟨r, p1, c1⟩ : Wp).cells ++ (⟨s, p2, c2⟩ : Wp).cells) ∧ Rf w' w.heap.size p1 c1 (dig B16 r.x.m) ∧ Rf w' w.heap.size p2 c2 (dig B16 s.x.m) ∧ Below w.heap.size w w'
theorem y0m (n way : Int) (s t : ByteArray) (b : Nat) (w : World) (hB0 : Bt w b 9 #[.string s, .string t]) (h0 : errR n way [s, t] = 0) :
 Calls Tryz.prog 10 #[.int .i64 n, .int .i64 way, .slice (some ⟨b, 0, none⟩) 2 2] w (j1v w (refD n s) (refD n t)) := by
 refine (c1x n way [s, t] b 2 w hB0 rfl (by simp) h0).mono fun en w' hh => ?_
 obtain ⟨xs, vs, p, c, h1, h2, h3, h4, h5, h6⟩ := hh
 obtain ⟨p1, c1, p2, c2, rfl⟩ := m1p h2
 subst h3
 exact ⟨p1, c1, p2, c2, p, c, h1, h4, h5 ⟨refD n s, p1, c1⟩ (by simp), h5 ⟨refD n t, p2, c2⟩ (by simp), h6⟩
theorem o0t (n way : Int) (s t : ByteArray) (b : Nat) (w : World) (hB0 : Bt w b 9 #[.string s, .string t]) (h0 : errR n way [s, t] ≠ 0) :
 Calls Tryz.prog 10 #[.int .i64 n, .int .i64 way, .slice (some ⟨b, 0, none⟩) 2 2] w fun en w' => en = .returned (.tuple #[.slice none 0 0, .int .i64 (errR n way [s, t])]) ∧ Below w.heap.size w w' :=
 y0l n way [s, t] b 2 w hB0 rfl (by simp) h0
theorem j1w {n way : Int} {s t : ByteArray} {R : Vr × Nat} {w : World} {fn : FuncId} {args : Array Value} (h : Calls Tryz.prog fn args w (e0z n way [s, t] R w)) (h0 : errR n way [s, t] = 0) :
 Calls Tryz.prog fn args w fun en w' => en = .returned (.tuple #[.string (strR n R.1), .int .i64 ((R.2 : Nat) : Int), .int .i64 0]) ∧ Below w.heap.size w w' := by
 unfold e0z at h
 simp only [h0, if_true] at h
 exact h
theorem f1y {n way : Int} {L : List ByteArray} {R : Vr × Nat} {w : World} {fn : FuncId} {args : Array Value} (h : Calls Tryz.prog fn args w (e0z n way L R w)) (h0 : errR n way L ≠ 0) :
 Calls Tryz.prog fn args w fun en w' => en = .returned (.tuple #[.string (b0q []), .int .i64 0, .int .i64 (errR n way L)]) ∧ Below w.heap.size w w' := by
 unfold e0z at h
 simp only [if_neg h0] at h
 exact h
theorem r0q (n : Int) (s t : ByteArray) (way : Int) (w : World) (hT : TabW w) : Calls Tryz.prog 3 #[.int .i64 n, .string s, .string t, .int .i64 way] w fun en w' => en = .returned (.bool true) ∧ Below w.heap.size w w' := by
 have HB0 := fun W h => hi0 (o0s W h)
 by_cases h0 : errR n way [s, t] = 0
 · obtain ⟨hn, hL, hw⟩ := k0l h0
   have HR := fun W h => hi0 (j1w (w0r n way s t W h) h0)
   have HO := fun W b h => hi0 (y0m n way s t b W h h0)
   have A1 := (h0j (s := s) hn).ok
   have B1 := (h0j (s := t) hn).ok
   have HF := fun W p1 c1 p2 c2 b1 b2 h1 h2 => hi0 (t0j n way ⟨refD n s, p1, c1⟩ ⟨refD n t, p2, c2⟩ b1 b2 W hn hw h1 h2 A1 B1)
   have RS : ResF (fmt n) ((fmt n).divM (refD n s) (refD n t) way).1 := h1c (c0c hn) (h0j hn).inf (h0j hn).ok way
   generalize refD n s = r1 at *
   generalize refD n t = r2 at *
   obtain ⟨rS, flS, hS⟩ : ∃ rS flS, (fmt n).divM r1 r2 way = (rS, flS) := ⟨_, _, rfl⟩
   simp only [hS] at HF HR RS
   unfold GVf at HF
   simp only at HF
   have HP := fun W p c b h => hi0 (t0k n rS flS p c b W hn h RS)
   generalize strR n rS = str at *
   clear hS RS A1 B1 h0 hL
   have I := Inv.start w [tabF] ⟨hT, True.intro⟩
   refine a0e [.v (.int .i64 n), .v (.string s), .v (.string t), .v (.int .i64 way)] I Tryz.func3 ?_
   refine zq I (fun Al W I => (HR W I.fa.1).out) fun Al W I => ?_
   refine zg I (fun Al W I => (HO W _ (I.box 0 9 _)).out) fun Al V Iv _ hB _ kz => ?_
   rintro _ W ⟨p1, c1, p2, c2, p, c, rfl, oS, o1, o2, hb⟩
   refine ⟨_, rfl, kz _ _ hb fun I => ?_⟩
   have I := I.owns oS
   have I := I.rf o1 (hB _) Iv
   have I := I.rf o2 (hB _) Iv
   refine zd [1] I fun Al W I => ?_
   refine zk [0, 1] I fun I => ?_
   refine zkx 2 I (.pointer (some (at_ p (0 * 5)))) (fun _ => (i0s (m := 0) (n := 2) (c := c) tvV I.fa.2.2.1.solid (by omega))) fun I => ?_
   refine zk [4] I fun I => ?_
   refine zkx 5 I (.pointer (some (at_ p (1 * 5)))) (fun _ => (i0s (m := 1) (n := 2) (c := c) tvV I.fa.2.2.1.solid (by omega))) fun I => ?_
   refine zk [7] I fun I => ?_
   refine r0n I [(3, .v (.agg #[.int .i64 (r1.cls : Int), .bool r1.neg, .bool r1.x.neg, .slice p1 (dig B16 r1.x.m).length c1, .int .i64 r1.x.e])), (6, .v (.agg #[.int .i64 (r2.cls : Int), .bool r2.neg, .bool r2.x.neg, .slice p2 (dig B16 r2.x.m).length c2, .int .i64 r2.x.e]))] (fun Al W I => ?_) (fun KL7 => ?_)
   · refine zo 8 I fun I => ?_
     refine zqr I (fun Al W I => (HF W p1 c1 p2 c2 _ _ I.fa.2.1 I.fa.1).out) fun Al W p45 c45 I => ?_
     refine zk [9, 10, 11] I fun I => ?_
     refine zo 12 I fun I => ?_
     refine zn I fun Al W I => ?_
     refine zk [13] I fun I => ?_
     refine zq I (fun Al W I => (HB0 W I.fa.2.2.2.2.1).out) fun Al W I => ?_
     refine zq I (fun Al W I => (HP W p45 c45 _ I.fa.1).out) fun Al W I => ?_
     exact zrb I
   refine r0n I [(3, .v (.agg #[.int .i64 (r1.cls : Int), .bool r1.neg, .bool r1.x.neg, .slice p1 (dig B16 r1.x.m).length c1, .int .i64 r1.x.e]))] (fun Al W I => ?_) (fun KL5 => ?_)
   · refine zo 6 I fun I => ?_
     refine zx I 43 (fun _ => .agg #[.int .i64 (r2.cls : Int), .bool r2.neg, .bool r2.x.neg, .slice p2 (dig B16 r2.x.m).length c2, .int .i64 r2.x.e]) (fun Al W I => (h0k (m := 1 * 5) I.fa.2.2.1 agV (⟨r2, p2, c2⟩ : Wp).cells rfl rfl)) fun Al W I => ?_
     exact zuse KL7 I
   refine r0n I [(6, .v (.agg #[.int .i64 (r2.cls : Int), .bool r2.neg, .bool r2.x.neg, .slice p2 (dig B16 r2.x.m).length c2, .int .i64 r2.x.e]))] (fun Al W I => ?_) (fun KL6 => ?_)
   · refine zo 3 I fun I => ?_
     refine zx I 40 (fun _ => .agg #[.int .i64 (r1.cls : Int), .bool r1.neg, .bool r1.x.neg, .slice p1 (dig B16 r1.x.m).length c1, .int .i64 r1.x.e]) (fun Al W I => (h0k (m := 0 * 5) I.fa.2.2.1 agV (⟨r1, p1, c1⟩ : Wp).cells rfl rfl)) fun Al W I => ?_
     exact zuse KL7 I
   refine zo2 3 6 I (fun I => ?_) (fun I => ?_)
   · refine zx I 40 (fun _ => .agg #[.int .i64 (r1.cls : Int), .bool r1.neg, .bool r1.x.neg, .slice p1 (dig B16 r1.x.m).length c1, .int .i64 r1.x.e]) (fun Al W I => (h0k (m := 0 * 5) I.fa.2.2.1 agV (⟨r1, p1, c1⟩ : Wp).cells rfl rfl)) fun Al W I => ?_
     exact zuse KL5 I
   refine zx I 43 (fun _ => .agg #[.int .i64 (r2.cls : Int), .bool r2.neg, .bool r2.x.neg, .slice p2 (dig B16 r2.x.m).length c2, .int .i64 r2.x.e]) (fun Al W I => (h0k (m := 1 * 5) I.fa.2.2.1 agV (⟨r2, p2, c2⟩ : Wp).cells rfl rfl)) fun Al W I => ?_
   exact zuse KL6 I
 · have HR := fun W h => hi0 (f1y (w0r n way s t W h) h0)
   have HO := fun W b h => hi0 (o0t n way s t b W h h0)
   generalize errR n way [s, t] = er at *
   have HP := fun fl v hv W => hi0 (r0p n er fl v hv W h0)
   have I := Inv.start w [tabF] ⟨hT, True.intro⟩
   refine a0e [.v (.int .i64 n), .v (.string s), .v (.string t), .v (.int .i64 way)] I Tryz.func3 ?_
   refine zq I (fun Al W I => (HR W I.fa.1).out) fun Al W I => ?_
   refine zq I (fun Al W I => (HO W _ (I.box 0 9 _)).out) fun Al W I => ?_
   refine zb I 35 (er == 0) (false) (bFn h0) fun Al W I => ?_
   refine zq I (fun Al W I => (HB0 W I.fa.1).out) fun Al W I => ?_
   refine zq I (fun Al W I => (HP 0 _ ⟨0, false, false, none, 0, 0, 0, rfl⟩ W).out) fun Al W I => ?_
   exact zrb I
end Go.Proofs.YtmacohmclpnphaaGreatDoor
