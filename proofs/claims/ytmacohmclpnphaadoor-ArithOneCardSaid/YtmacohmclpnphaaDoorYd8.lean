/- arith: Add, Mul, Div. -/
import Derived.Deep.LoopGhost
import Derived.Lib.Strings
import Derived.Lib.Slices
import Derived.Lib.Small
import Derived.Lib.Walk
import Derived.Lib.BitFns
import Derived.Deep.RegionHeld3
import Derived.Test.YtmacohmclpnphaaDoorYd1
import Derived.Test.YtmacohmclpnphaaDoorYd2
import Derived.Test.YtmacohmclpnphaaDoorYd3
import Derived.Test.YtmacohmclpnphaaDoorYd4
import Derived.Test.YtmacohmclpnphaaDoorYd5
import Derived.Test.YtmacohmclpnphaaDoorYd6
import Derived.Test.YtmacohmclpnphaaDoorYd7
set_option maxHeartbeats 8000000
set_option maxRecDepth 100000
namespace Go.Proofs.YtmacohmclpnphaaDoor
open Go.RowKit Go.Slip
theorem r0w {n : Int} {s t : ByteArray} (h : errL n [s, t] = 0) : a0z n s = 0 ∧ a0z n t = 0 ∧ IsFm n := by
 have h1 := e0u n h s (by simp)
 exact ⟨h1, e0u n h t (by simp), (c0l.1 h1).1⟩
theorem o0o {n : Int} {xs : List Vp} {s t : ByteArray} (h : xs.map (·.v) = [s, t].map (decP n)) : ∃ x y, xs = [x, y] ∧ x.v = decP n s ∧ y.v = decP n t := by
 cases xs with
 | nil => simp at h
 | cons x l =>
  cases l with
  | nil => simp at h
  | cons y l =>
   cases l with
   | nil => simp only [List.map_cons, List.map_nil, List.cons.injEq, and_true] at h; exact ⟨x, y, rfl, h.1, h.2⟩
   | cons _ _ => simp at h
theorem c1k (n way : Int) (s t : ByteArray) (h0 : errL n [s, t] = 0) (hw : 1 ≤ way ∧ way ≤ 5) : z0k n way [s, t] 57 ((fmt n).addM (refD n s) (refD n t) way) := by
 intro xs vs p c base u w hxs hvs oS oL U hT hb
 obtain ⟨hs, ht, hn⟩ := r0w h0
 obtain ⟨x, y, rfl, hx, hy⟩ := o0o hxs
 have ox := oL x (by simp)
 have oy := oL y (by simp)
 have HA := fun W u h1 h2 h3 h4 h5 => hi0 (i1l (fmt n) n way x y (refD n s) (refD n t) base u W h1 h2 h3 h4 (i0q hs hx) (i0q ht hy) (c0y hn) hw h5)
 generalize (fmt n).addM (refD n s) (refD n t) way = R at *
 generalize fmt n = f at *
 subst hvs
 clear oL hx hy hxs h0 hs ht hn
 obtain ⟨r, fl⟩ := R
 have I := Inv.startW w u 153 (uS f n way 0) [g0z base 29 4 p c [s, t].length ([x, y].flatMap Vp.cells), ownF base .u32 76 x.p x.c (dig B32 x.v.d), ownF base .u32 76 y.p y.c (dig B32 y.v.d), tabF] U ⟨oS, ox, oy, hT, True.intro⟩ ⟨fun hf => oS.far U (by kernel_rfl) hf.1 hf.2, fun hf => ox.far U (by kernel_rfl) hf.1 hf.2, fun hf => oy.far U (by kernel_rfl) hf.1 hf.2, fun hf => hT.far U (by kernel_rfl) hf, True.intro⟩
 refine a0f [.p 0 0, .v (.slice p [s, t].length c)] I Tryd.func57 ?_
 refine zd [0, 1] I fun Al W I => ?_
 refine zk [0, 1] I fun I => ?_
 refine zkx 2 I (.pointer (some (at_ p (0 * 4)))) (fun _ => (g0d (m := 0) (n := [s, t].length) (c := c) j0i I.fa.1.solid (by simp))) fun I => ?_
 refine zk [4] I fun I => ?_
 refine zkx 5 I (.pointer (some (at_ p (1 * 4)))) (fun _ => (g0d (m := 1) (n := [s, t].length) (c := c) j0i I.fa.1.solid (by simp))) fun I => ?_
 refine h0b I [(3, .v (.agg #[.int .i64 (x.v.cls : Int), .bool x.v.neg, .slice x.p (dig B32 x.v.d).length x.c, .int .i64 x.v.pow])), (6, .v (.agg #[.int .i64 (y.v.cls : Int), .bool y.v.neg, .slice y.p (dig B32 y.v.d).length y.c, .int .i64 y.v.pow]))] (fun Al W I => ?_) (fun KL7 => ?_)
 · refine zo 7 I fun I => ?_
   refine zge I 0 153 (fun Al W I => have hzW := I.bel.size; (HA W _ (I.box 0 153 _) I.fa.2.1 I.fa.2.2.1 (by omega) I.fa.2.2.2.1).out) fun Al V Iv _ _ kz => ?_
   rintro _ W ⟨v12, hR12, p12, c12, rfl, o12, hO, hB⟩
   refine ⟨_, rfl, kz _ (uS f n way (fl : Int)) _ hO hB fun I => ?_⟩
   have I := I.ownB base o12
   refine zo 8 I fun I => ?_
   refine zn I fun Al W I => ?_
   exact zret I fun Al W I => ⟨v12, hR12, p12, c12, rfl, I.fa.1, I.bel, I.boxE 153 _⟩
 refine h0b I [(3, .v (.agg #[.int .i64 (x.v.cls : Int), .bool x.v.neg, .slice x.p (dig B32 x.v.d).length x.c, .int .i64 x.v.pow]))] (fun Al W I => ?_) (fun KL5 => ?_)
 · refine zo 6 I fun I => ?_
   refine zx I 11 (fun _ => .agg #[.int .i64 (y.v.cls : Int), .bool y.v.neg, .slice y.p (dig B32 y.v.d).length y.c, .int .i64 y.v.pow]) (fun Al W I => (c0h (m := 1 * 4) I.fa.1 d0y y.cells rfl rfl)) fun Al W I => ?_
   exact zuse KL7 I
 refine h0b I [(6, .v (.agg #[.int .i64 (y.v.cls : Int), .bool y.v.neg, .slice y.p (dig B32 y.v.d).length y.c, .int .i64 y.v.pow]))] (fun Al W I => ?_) (fun KL6 => ?_)
 · refine zo 3 I fun I => ?_
   refine zx I 8 (fun _ => .agg #[.int .i64 (x.v.cls : Int), .bool x.v.neg, .slice x.p (dig B32 x.v.d).length x.c, .int .i64 x.v.pow]) (fun Al W I => (c0h (m := 0 * 4) I.fa.1 d0y x.cells rfl rfl)) fun Al W I => ?_
   exact zuse KL7 I
 refine zo2 3 6 I (fun I => ?_) (fun I => ?_)
 · refine zx I 8 (fun _ => .agg #[.int .i64 (x.v.cls : Int), .bool x.v.neg, .slice x.p (dig B32 x.v.d).length x.c, .int .i64 x.v.pow]) (fun Al W I => (c0h (m := 0 * 4) I.fa.1 d0y x.cells rfl rfl)) fun Al W I => ?_
   exact zuse KL5 I
 refine zx I 11 (fun _ => .agg #[.int .i64 (y.v.cls : Int), .bool y.v.neg, .slice y.p (dig B32 y.v.d).length y.c, .int .i64 y.v.pow]) (fun Al W I => (c0h (m := 1 * 4) I.fa.1 d0y y.cells rfl rfl)) fun Al W I => ?_
 exact zuse KL6 I
def d0r (n way : Int) (L : List ByteArray) (R : Vr × Nat) (w : World) (en : Ending) (w' : World) : Prop :=
 (if errR n way L = 0 then en = .returned (.tuple #[.string (strR n R.1), .int .i64 ((R.2 : Nat) : Int), .int .i64 (errR n way L)]) else en = .returned (.tuple #[.string (b0f []), .int .i64 0, .int .i64 (errR n way L)])) ∧ Below w.heap.size w w'
theorem g0m {n way : Int} {L : List ByteArray} (h0 : errR n way L = 0) : IsFm n ∧ errL n L = 0 ∧ 1 ≤ way ∧ way ≤ 5 := by
 have hn : IsFm n := by unfold errR at h0; split at h0; assumption; omega
 unfold errR at h0
 rw [if_pos hn] at h0
 have hL : errL n L = 0 := by split at h0; assumption; contradiction
 rw [if_pos hL] at h0
 exact ⟨hn, hL, by split at h0; assumption; omega⟩
theorem t0n (n way : Int) (s t : ByteArray) (w : World) (hT : TabW w) : Calls Tryd.prog 18 #[.int .i64 n, .string s, .string t, .int .i64 way] w (d0r n way [s, t] ((fmt n).addM (refD n s) (refD n t) way) w) := by
 unfold d0r
 by_cases h0 : errR n way [s, t] = 0
 · obtain ⟨hn, hL, hw⟩ := g0m h0
   have HR := fun b m W h1 h2 h3 => hi0 (t0m n way [s, t] 57 _ b m W h1 h2 (by simp) h3 (fun _ _ => by kernel_rfl) h0 (c1k n way s t hL hw) (d1w (c0y hn) (e0f hn) (e0f hn) way))
   simp only [h0, if_true]
   generalize strR n ((fmt n).addM (refD n s) (refD n t) way).1 = str at *
   generalize ((fmt n).addM (refD n s) (refD n t) way).2 = fl at *
   have I := Inv.start w [tabF] ⟨hT, True.intro⟩
   refine a0f [.v (.int .i64 n), .v (.string s), .v (.string t), .v (.int .i64 way)] I Tryd.func18 ?_
   refine zq I (fun Al W I => (HR _ 2 W (I.box 0 9 _) rfl I.fa.1).out) fun Al W I => ?_
   exact zrb I
 · have HR := fun b m W h1 h2 h3 => hi0 (o0l n way [s, t] 57 b m W h1 h2 (by simp) h3 h0)
   simp only [if_neg h0]
   generalize errR n way [s, t] = er at *
   have I := Inv.start w [tabF] ⟨hT, True.intro⟩
   refine a0f [.v (.int .i64 n), .v (.string s), .v (.string t), .v (.int .i64 way)] I Tryd.func18 ?_
   refine zq I (fun Al W I => (HR _ 2 W (I.box 0 9 _) rfl I.fa.1).out) fun Al W I => ?_
   exact zrb I
theorem c1l (n way : Int) (s t : ByteArray) (h0 : errL n [s, t] = 0) (hw : 1 ≤ way ∧ way ≤ 5) : z0k n way [s, t] 59 ((fmt n).mulM (refD n s) (refD n t) way) := by
 intro xs vs p c base u w hxs hvs oS oL U hT hb
 obtain ⟨hs, ht, hn⟩ := r0w h0
 obtain ⟨x, y, rfl, hx, hy⟩ := o0o hxs
 have ox := oL x (by simp)
 have oy := oL y (by simp)
 have HA := fun W u h1 h2 h3 h4 h5 => hi0 (j1s (fmt n) n way x y (refD n s) (refD n t) base u W h1 h2 h3 h4 (i0q hs hx) (i0q ht hy) (c0y hn) hw h5)
 generalize (fmt n).mulM (refD n s) (refD n t) way = R at *
 generalize fmt n = f at *
 subst hvs
 clear oL hx hy hxs h0 hs ht hn
 obtain ⟨r, fl⟩ := R
 have I := Inv.startW w u 153 (uS f n way 0) [g0z base 29 4 p c [s, t].length ([x, y].flatMap Vp.cells), ownF base .u32 76 x.p x.c (dig B32 x.v.d), ownF base .u32 76 y.p y.c (dig B32 y.v.d), tabF] U ⟨oS, ox, oy, hT, True.intro⟩ ⟨fun hf => oS.far U (by kernel_rfl) hf.1 hf.2, fun hf => ox.far U (by kernel_rfl) hf.1 hf.2, fun hf => oy.far U (by kernel_rfl) hf.1 hf.2, fun hf => hT.far U (by kernel_rfl) hf, True.intro⟩
 refine a0f [.p 0 0, .v (.slice p [s, t].length c)] I Tryd.func59 ?_
 refine zd [0, 1] I fun Al W I => ?_
 refine zk [0, 1] I fun I => ?_
 refine zkx 2 I (.pointer (some (at_ p (0 * 4)))) (fun _ => (g0d (m := 0) (n := [s, t].length) (c := c) j0i I.fa.1.solid (by simp))) fun I => ?_
 refine zk [4] I fun I => ?_
 refine zkx 5 I (.pointer (some (at_ p (1 * 4)))) (fun _ => (g0d (m := 1) (n := [s, t].length) (c := c) j0i I.fa.1.solid (by simp))) fun I => ?_
 refine h0b I [(3, .v (.agg #[.int .i64 (x.v.cls : Int), .bool x.v.neg, .slice x.p (dig B32 x.v.d).length x.c, .int .i64 x.v.pow])), (6, .v (.agg #[.int .i64 (y.v.cls : Int), .bool y.v.neg, .slice y.p (dig B32 y.v.d).length y.c, .int .i64 y.v.pow]))] (fun Al W I => ?_) (fun KL7 => ?_)
 · refine zo 7 I fun I => ?_
   refine zge I 0 153 (fun Al W I => have hzW := I.bel.size; (HA W _ (I.box 0 153 _) I.fa.2.1 I.fa.2.2.1 (by omega) I.fa.2.2.2.1).out) fun Al V Iv _ _ kz => ?_
   rintro _ W ⟨v12, hR12, p12, c12, rfl, o12, hO, hB⟩
   refine ⟨_, rfl, kz _ (uS f n way (fl : Int)) _ hO hB fun I => ?_⟩
   have I := I.ownB base o12
   refine zo 8 I fun I => ?_
   refine zn I fun Al W I => ?_
   exact zret I fun Al W I => ⟨v12, hR12, p12, c12, rfl, I.fa.1, I.bel, I.boxE 153 _⟩
 refine h0b I [(3, .v (.agg #[.int .i64 (x.v.cls : Int), .bool x.v.neg, .slice x.p (dig B32 x.v.d).length x.c, .int .i64 x.v.pow]))] (fun Al W I => ?_) (fun KL5 => ?_)
 · refine zo 6 I fun I => ?_
   refine zx I 11 (fun _ => .agg #[.int .i64 (y.v.cls : Int), .bool y.v.neg, .slice y.p (dig B32 y.v.d).length y.c, .int .i64 y.v.pow]) (fun Al W I => (c0h (m := 1 * 4) I.fa.1 d0y y.cells rfl rfl)) fun Al W I => ?_
   exact zuse KL7 I
 refine h0b I [(6, .v (.agg #[.int .i64 (y.v.cls : Int), .bool y.v.neg, .slice y.p (dig B32 y.v.d).length y.c, .int .i64 y.v.pow]))] (fun Al W I => ?_) (fun KL6 => ?_)
 · refine zo 3 I fun I => ?_
   refine zx I 8 (fun _ => .agg #[.int .i64 (x.v.cls : Int), .bool x.v.neg, .slice x.p (dig B32 x.v.d).length x.c, .int .i64 x.v.pow]) (fun Al W I => (c0h (m := 0 * 4) I.fa.1 d0y x.cells rfl rfl)) fun Al W I => ?_
   exact zuse KL7 I
 refine zo2 3 6 I (fun I => ?_) (fun I => ?_)
 · refine zx I 8 (fun _ => .agg #[.int .i64 (x.v.cls : Int), .bool x.v.neg, .slice x.p (dig B32 x.v.d).length x.c, .int .i64 x.v.pow]) (fun Al W I => (c0h (m := 0 * 4) I.fa.1 d0y x.cells rfl rfl)) fun Al W I => ?_
   exact zuse KL5 I
 refine zx I 11 (fun _ => .agg #[.int .i64 (y.v.cls : Int), .bool y.v.neg, .slice y.p (dig B32 y.v.d).length y.c, .int .i64 y.v.pow]) (fun Al W I => (c0h (m := 1 * 4) I.fa.1 d0y y.cells rfl rfl)) fun Al W I => ?_
 exact zuse KL6 I
theorem c1m (n way : Int) (s t : ByteArray) (w : World) (hT : TabW w) : Calls Tryd.prog 19 #[.int .i64 n, .string s, .string t, .int .i64 way] w (d0r n way [s, t] ((fmt n).mulM (refD n s) (refD n t) way) w) := by
 unfold d0r
 by_cases h0 : errR n way [s, t] = 0
 · obtain ⟨hn, hL, hw⟩ := g0m h0
   have HR := fun b m W h1 h2 h3 => hi0 (t0m n way [s, t] 59 _ b m W h1 h2 (by simp) h3 (fun _ _ => by kernel_rfl) h0 (c1l n way s t hL hw) (i1v (c0y hn) (e0f hn).inf (e0f hn).inf way))
   simp only [h0, if_true]
   generalize strR n ((fmt n).mulM (refD n s) (refD n t) way).1 = str at *
   generalize ((fmt n).mulM (refD n s) (refD n t) way).2 = fl at *
   have I := Inv.start w [tabF] ⟨hT, True.intro⟩
   refine a0f [.v (.int .i64 n), .v (.string s), .v (.string t), .v (.int .i64 way)] I Tryd.func19 ?_
   refine zq I (fun Al W I => (HR _ 2 W (I.box 0 9 _) rfl I.fa.1).out) fun Al W I => ?_
   exact zrb I
 · have HR := fun b m W h1 h2 h3 => hi0 (o0l n way [s, t] 59 b m W h1 h2 (by simp) h3 h0)
   simp only [if_neg h0]
   generalize errR n way [s, t] = er at *
   have I := Inv.start w [tabF] ⟨hT, True.intro⟩
   refine a0f [.v (.int .i64 n), .v (.string s), .v (.string t), .v (.int .i64 way)] I Tryd.func19 ?_
   refine zq I (fun Al W I => (HR _ 2 W (I.box 0 9 _) rfl I.fa.1).out) fun Al W I => ?_
   exact zrb I
theorem c1n (n way : Int) (s t : ByteArray) (h0 : errL n [s, t] = 0) (hw : 1 ≤ way ∧ way ≤ 5) : z0k n way [s, t] 66 ((fmt n).divM (refD n s) (refD n t) way) := by
 intro xs vs p c base u w hxs hvs oS oL U hT hb
 obtain ⟨hs, ht, hn⟩ := r0w h0
 obtain ⟨x, y, rfl, hx, hy⟩ := o0o hxs
 have ox := oL x (by simp)
 have oy := oL y (by simp)
 have HA := fun W u h1 h2 h3 h4 h5 => hi0 (j1t (fmt n) n way x y (refD n s) (refD n t) base u W h1 h2 h3 h4 (i0q hs hx) (i0q ht hy) (c0y hn) hw h5)
 generalize (fmt n).divM (refD n s) (refD n t) way = R at *
 generalize fmt n = f at *
 subst hvs
 clear oL hx hy hxs h0 hs ht hn
 obtain ⟨r, fl⟩ := R
 have I := Inv.startW w u 153 (uS f n way 0) [g0z base 29 4 p c [s, t].length ([x, y].flatMap Vp.cells), ownF base .u32 76 x.p x.c (dig B32 x.v.d), ownF base .u32 76 y.p y.c (dig B32 y.v.d), tabF] U ⟨oS, ox, oy, hT, True.intro⟩ ⟨fun hf => oS.far U (by kernel_rfl) hf.1 hf.2, fun hf => ox.far U (by kernel_rfl) hf.1 hf.2, fun hf => oy.far U (by kernel_rfl) hf.1 hf.2, fun hf => hT.far U (by kernel_rfl) hf, True.intro⟩
 refine a0f [.p 0 0, .v (.slice p [s, t].length c)] I Tryd.func66 ?_
 refine zd [0, 1] I fun Al W I => ?_
 refine zk [0, 1] I fun I => ?_
 refine zkx 2 I (.pointer (some (at_ p (0 * 4)))) (fun _ => (g0d (m := 0) (n := [s, t].length) (c := c) j0i I.fa.1.solid (by simp))) fun I => ?_
 refine zk [4] I fun I => ?_
 refine zkx 5 I (.pointer (some (at_ p (1 * 4)))) (fun _ => (g0d (m := 1) (n := [s, t].length) (c := c) j0i I.fa.1.solid (by simp))) fun I => ?_
 refine h0b I [(3, .v (.agg #[.int .i64 (x.v.cls : Int), .bool x.v.neg, .slice x.p (dig B32 x.v.d).length x.c, .int .i64 x.v.pow])), (6, .v (.agg #[.int .i64 (y.v.cls : Int), .bool y.v.neg, .slice y.p (dig B32 y.v.d).length y.c, .int .i64 y.v.pow]))] (fun Al W I => ?_) (fun KL7 => ?_)
 · refine zo 7 I fun I => ?_
   refine zge I 0 153 (fun Al W I => have hzW := I.bel.size; (HA W _ (I.box 0 153 _) I.fa.2.1 I.fa.2.2.1 (by omega) I.fa.2.2.2.1).out) fun Al V Iv _ _ kz => ?_
   rintro _ W ⟨v12, hR12, p12, c12, rfl, o12, hO, hB⟩
   refine ⟨_, rfl, kz _ (uS f n way (fl : Int)) _ hO hB fun I => ?_⟩
   have I := I.ownB base o12
   refine zo 8 I fun I => ?_
   refine zn I fun Al W I => ?_
   exact zret I fun Al W I => ⟨v12, hR12, p12, c12, rfl, I.fa.1, I.bel, I.boxE 153 _⟩
 refine h0b I [(3, .v (.agg #[.int .i64 (x.v.cls : Int), .bool x.v.neg, .slice x.p (dig B32 x.v.d).length x.c, .int .i64 x.v.pow]))] (fun Al W I => ?_) (fun KL5 => ?_)
 · refine zo 6 I fun I => ?_
   refine zx I 11 (fun _ => .agg #[.int .i64 (y.v.cls : Int), .bool y.v.neg, .slice y.p (dig B32 y.v.d).length y.c, .int .i64 y.v.pow]) (fun Al W I => (c0h (m := 1 * 4) I.fa.1 d0y y.cells rfl rfl)) fun Al W I => ?_
   exact zuse KL7 I
 refine h0b I [(6, .v (.agg #[.int .i64 (y.v.cls : Int), .bool y.v.neg, .slice y.p (dig B32 y.v.d).length y.c, .int .i64 y.v.pow]))] (fun Al W I => ?_) (fun KL6 => ?_)
 · refine zo 3 I fun I => ?_
   refine zx I 8 (fun _ => .agg #[.int .i64 (x.v.cls : Int), .bool x.v.neg, .slice x.p (dig B32 x.v.d).length x.c, .int .i64 x.v.pow]) (fun Al W I => (c0h (m := 0 * 4) I.fa.1 d0y x.cells rfl rfl)) fun Al W I => ?_
   exact zuse KL7 I
 refine zo2 3 6 I (fun I => ?_) (fun I => ?_)
 · refine zx I 8 (fun _ => .agg #[.int .i64 (x.v.cls : Int), .bool x.v.neg, .slice x.p (dig B32 x.v.d).length x.c, .int .i64 x.v.pow]) (fun Al W I => (c0h (m := 0 * 4) I.fa.1 d0y x.cells rfl rfl)) fun Al W I => ?_
   exact zuse KL5 I
 refine zx I 11 (fun _ => .agg #[.int .i64 (y.v.cls : Int), .bool y.v.neg, .slice y.p (dig B32 y.v.d).length y.c, .int .i64 y.v.pow]) (fun Al W I => (c0h (m := 1 * 4) I.fa.1 d0y y.cells rfl rfl)) fun Al W I => ?_
 exact zuse KL6 I
theorem c1o (n way : Int) (s t : ByteArray) (w : World) (hT : TabW w) : Calls Tryd.prog 23 #[.int .i64 n, .string s, .string t, .int .i64 way] w (d0r n way [s, t] ((fmt n).divM (refD n s) (refD n t) way) w) := by
 unfold d0r
 by_cases h0 : errR n way [s, t] = 0
 · obtain ⟨hn, hL, hw⟩ := g0m h0
   have HR := fun b m W h1 h2 h3 => hi0 (t0m n way [s, t] 66 _ b m W h1 h2 (by simp) h3 (fun _ _ => by kernel_rfl) h0 (c1n n way s t hL hw) (i1w (c0y hn) (e0f hn).inf (e0f hn).ok way))
   simp only [h0, if_true]
   generalize strR n ((fmt n).divM (refD n s) (refD n t) way).1 = str at *
   generalize ((fmt n).divM (refD n s) (refD n t) way).2 = fl at *
   have I := Inv.start w [tabF] ⟨hT, True.intro⟩
   refine a0f [.v (.int .i64 n), .v (.string s), .v (.string t), .v (.int .i64 way)] I Tryd.func23 ?_
   refine zq I (fun Al W I => (HR _ 2 W (I.box 0 9 _) rfl I.fa.1).out) fun Al W I => ?_
   exact zrb I
 · have HR := fun b m W h1 h2 h3 => hi0 (o0l n way [s, t] 66 b m W h1 h2 (by simp) h3 h0)
   simp only [if_neg h0]
   generalize errR n way [s, t] = er at *
   have I := Inv.start w [tabF] ⟨hT, True.intro⟩
   refine a0f [.v (.int .i64 n), .v (.string s), .v (.string t), .v (.int .i64 way)] I Tryd.func23 ?_
   refine zq I (fun Al W I => (HR _ 2 W (I.box 0 9 _) rfl I.fa.1).out) fun Al W I => ?_
   exact zrb I
theorem z0n {n : Int} {s t z : ByteArray} (h : errL n [s, t, z] = 0) : a0z n s = 0 ∧ a0z n t = 0 ∧ a0z n z = 0 ∧ IsFm n := by
 have h1 := e0u n h s (by simp)
 exact ⟨h1, e0u n h t (by simp), e0u n h z (by simp), (c0l.1 h1).1⟩
theorem v0c {n : Int} {xs : List Vp} {s t z : ByteArray} (h : xs.map (·.v) = [s, t, z].map (decP n)) : ∃ x y q, xs = [x, y, q] ∧ x.v = decP n s ∧ y.v = decP n t ∧ q.v = decP n z := by
 cases xs with
 | nil => simp at h
 | cons x l =>
  cases l with
  | nil => simp at h
  | cons y l =>
   cases l with
   | nil => simp at h
   | cons q l =>
    cases l with
    | nil => simp only [List.map_cons, List.map_nil, List.cons.injEq, and_true] at h; exact ⟨x, y, q, rfl, h.1, h.2.1, h.2.2⟩
    | cons _ _ => simp at h
theorem v0d (n way : Int) (s t z : ByteArray) (h0 : errL n [s, t, z] = 0) (hw : 1 ≤ way ∧ way ≤ 5) : z0k n way [s, t, z] 61 ((fmt n).fusedM (refD n s) (refD n t) (refD n z) way) := by
 intro xs vs p c base u w hxs hvs oS oL U hT hb
 obtain ⟨hs, ht, hz, hn⟩ := z0n h0
 obtain ⟨x, y, q, rfl, hx, hy, hq⟩ := v0c hxs
 have ox := oL x (by simp)
 have oy := oL y (by simp)
 have oq := oL q (by simp)
 have HA := fun W u h1 h2 h3 h4 h5 h6 => hi0 (g1d (fmt n) n way x y q (refD n s) (refD n t) (refD n z) base u W h1 h2 h3 h4 h5 (i0q hs hx) (i0q ht hy) (i0q hz hq) (c0y hn) hw h6)
 generalize (fmt n).fusedM (refD n s) (refD n t) (refD n z) way = R at *
 generalize fmt n = f at *
 subst hvs
 clear oL hx hy hq hxs h0 hs ht hz hn
 obtain ⟨r, fl⟩ := R
 have I := Inv.startW w u 153 (uS f n way 0) [g0z base 29 4 p c [s, t, z].length ([x, y, q].flatMap Vp.cells), ownF base .u32 76 x.p x.c (dig B32 x.v.d), ownF base .u32 76 y.p y.c (dig B32 y.v.d), ownF base .u32 76 q.p q.c (dig B32 q.v.d), tabF] U ⟨oS, ox, oy, oq, hT, True.intro⟩ ⟨fun hf => oS.far U (by kernel_rfl) hf.1 hf.2, fun hf => ox.far U (by kernel_rfl) hf.1 hf.2, fun hf => oy.far U (by kernel_rfl) hf.1 hf.2, fun hf => oq.far U (by kernel_rfl) hf.1 hf.2, fun hf => hT.far U (by kernel_rfl) hf, True.intro⟩
 refine a0f [.p 0 0, .v (.slice p [s, t, z].length c)] I Tryd.func61 ?_
 refine zd [0, 1] I fun Al W I => ?_
 refine zk [0, 1] I fun I => ?_
 refine zkx 2 I (.pointer (some (at_ p (0 * 4)))) (fun _ => (g0d (m := 0) (n := [s, t, z].length) (c := c) j0i I.fa.1.solid (by simp))) fun I => ?_
 refine zk [4] I fun I => ?_
 refine zkx 5 I (.pointer (some (at_ p (1 * 4)))) (fun _ => (g0d (m := 1) (n := [s, t, z].length) (c := c) j0i I.fa.1.solid (by simp))) fun I => ?_
 refine zk [7] I fun I => ?_
 refine zkx 8 I (.pointer (some (at_ p (2 * 4)))) (fun _ => (g0d (m := 2) (n := [s, t, z].length) (c := c) j0i I.fa.1.solid (by simp))) fun I => ?_
 refine h0b I [(3, .v (.agg #[.int .i64 (x.v.cls : Int), .bool x.v.neg, .slice x.p (dig B32 x.v.d).length x.c, .int .i64 x.v.pow])), (6, .v (.agg #[.int .i64 (y.v.cls : Int), .bool y.v.neg, .slice y.p (dig B32 y.v.d).length y.c, .int .i64 y.v.pow])), (9, .v (.agg #[.int .i64 (q.v.cls : Int), .bool q.v.neg, .slice q.p (dig B32 q.v.d).length q.c, .int .i64 q.v.pow]))] (fun Al W I => ?_) (fun KL15 => ?_)
 · refine zo 10 I fun I => ?_
   refine zge I 0 153 (fun Al W I => have hzW := I.bel.size; (HA W _ (I.box 0 153 _) I.fa.2.1 I.fa.2.2.1 I.fa.2.2.2.1 (by omega) I.fa.2.2.2.2.1).out) fun Al V Iv _ _ kz => ?_
   rintro _ W ⟨v12, hR12, p12, c12, rfl, o12, hO, hB⟩
   refine ⟨_, rfl, kz _ (uS f n way (fl : Int)) _ hO hB fun I => ?_⟩
   have I := I.ownB base o12
   refine zo 11 I fun I => ?_
   refine zn I fun Al W I => ?_
   exact zret I fun Al W I => ⟨v12, hR12, p12, c12, rfl, I.fa.1, I.bel, I.boxE 153 _⟩
 refine h0b I [(3, .v (.agg #[.int .i64 (x.v.cls : Int), .bool x.v.neg, .slice x.p (dig B32 x.v.d).length x.c, .int .i64 x.v.pow])), (6, .v (.agg #[.int .i64 (y.v.cls : Int), .bool y.v.neg, .slice y.p (dig B32 y.v.d).length y.c, .int .i64 y.v.pow]))] (fun Al W I => ?_) (fun KL12 => ?_)
 · refine zo 9 I fun I => ?_
   refine zx I 14 (fun _ => .agg #[.int .i64 (q.v.cls : Int), .bool q.v.neg, .slice q.p (dig B32 q.v.d).length q.c, .int .i64 q.v.pow]) (fun Al W I => (c0h (m := 2 * 4) I.fa.1 d0y q.cells rfl rfl)) fun Al W I => ?_
   exact zuse KL15 I
 refine h0b I [(3, .v (.agg #[.int .i64 (x.v.cls : Int), .bool x.v.neg, .slice x.p (dig B32 x.v.d).length x.c, .int .i64 x.v.pow])), (9, .v (.agg #[.int .i64 (q.v.cls : Int), .bool q.v.neg, .slice q.p (dig B32 q.v.d).length q.c, .int .i64 q.v.pow]))] (fun Al W I => ?_) (fun KL13 => ?_)
 · refine zo 6 I fun I => ?_
   refine zx I 11 (fun _ => .agg #[.int .i64 (y.v.cls : Int), .bool y.v.neg, .slice y.p (dig B32 y.v.d).length y.c, .int .i64 y.v.pow]) (fun Al W I => (c0h (m := 1 * 4) I.fa.1 d0y y.cells rfl rfl)) fun Al W I => ?_
   exact zuse KL15 I
 refine h0b I [(6, .v (.agg #[.int .i64 (y.v.cls : Int), .bool y.v.neg, .slice y.p (dig B32 y.v.d).length y.c, .int .i64 y.v.pow])), (9, .v (.agg #[.int .i64 (q.v.cls : Int), .bool q.v.neg, .slice q.p (dig B32 q.v.d).length q.c, .int .i64 q.v.pow]))] (fun Al W I => ?_) (fun KL14 => ?_)
 · refine zo 3 I fun I => ?_
   refine zx I 8 (fun _ => .agg #[.int .i64 (x.v.cls : Int), .bool x.v.neg, .slice x.p (dig B32 x.v.d).length x.c, .int .i64 x.v.pow]) (fun Al W I => (c0h (m := 0 * 4) I.fa.1 d0y x.cells rfl rfl)) fun Al W I => ?_
   exact zuse KL15 I
 refine h0b I [(3, .v (.agg #[.int .i64 (x.v.cls : Int), .bool x.v.neg, .slice x.p (dig B32 x.v.d).length x.c, .int .i64 x.v.pow]))] (fun Al W I => ?_) (fun KL9 => ?_)
 · refine zo2 6 9 I (fun I => ?_) (fun I => ?_)
   · refine zx I 11 (fun _ => .agg #[.int .i64 (y.v.cls : Int), .bool y.v.neg, .slice y.p (dig B32 y.v.d).length y.c, .int .i64 y.v.pow]) (fun Al W I => (c0h (m := 1 * 4) I.fa.1 d0y y.cells rfl rfl)) fun Al W I => ?_
     exact zuse KL12 I
   refine zx I 14 (fun _ => .agg #[.int .i64 (q.v.cls : Int), .bool q.v.neg, .slice q.p (dig B32 q.v.d).length q.c, .int .i64 q.v.pow]) (fun Al W I => (c0h (m := 2 * 4) I.fa.1 d0y q.cells rfl rfl)) fun Al W I => ?_
   exact zuse KL13 I
 refine h0b I [(6, .v (.agg #[.int .i64 (y.v.cls : Int), .bool y.v.neg, .slice y.p (dig B32 y.v.d).length y.c, .int .i64 y.v.pow]))] (fun Al W I => ?_) (fun KL10 => ?_)
 · refine zo2 3 9 I (fun I => ?_) (fun I => ?_)
   · refine zx I 8 (fun _ => .agg #[.int .i64 (x.v.cls : Int), .bool x.v.neg, .slice x.p (dig B32 x.v.d).length x.c, .int .i64 x.v.pow]) (fun Al W I => (c0h (m := 0 * 4) I.fa.1 d0y x.cells rfl rfl)) fun Al W I => ?_
     exact zuse KL12 I
   refine zx I 14 (fun _ => .agg #[.int .i64 (q.v.cls : Int), .bool q.v.neg, .slice q.p (dig B32 q.v.d).length q.c, .int .i64 q.v.pow]) (fun Al W I => (c0h (m := 2 * 4) I.fa.1 d0y q.cells rfl rfl)) fun Al W I => ?_
   exact zuse KL14 I
 refine h0b I [(9, .v (.agg #[.int .i64 (q.v.cls : Int), .bool q.v.neg, .slice q.p (dig B32 q.v.d).length q.c, .int .i64 q.v.pow]))] (fun Al W I => ?_) (fun KL11 => ?_)
 · refine zo2 3 6 I (fun I => ?_) (fun I => ?_)
   · refine zx I 8 (fun _ => .agg #[.int .i64 (x.v.cls : Int), .bool x.v.neg, .slice x.p (dig B32 x.v.d).length x.c, .int .i64 x.v.pow]) (fun Al W I => (c0h (m := 0 * 4) I.fa.1 d0y x.cells rfl rfl)) fun Al W I => ?_
     exact zuse KL13 I
   refine zx I 11 (fun _ => .agg #[.int .i64 (y.v.cls : Int), .bool y.v.neg, .slice y.p (dig B32 y.v.d).length y.c, .int .i64 y.v.pow]) (fun Al W I => (c0h (m := 1 * 4) I.fa.1 d0y y.cells rfl rfl)) fun Al W I => ?_
   exact zuse KL14 I
 refine zo3 3 6 9 I (fun I => ?_) (fun I => ?_) (fun I => ?_)
 · refine zx I 8 (fun _ => .agg #[.int .i64 (x.v.cls : Int), .bool x.v.neg, .slice x.p (dig B32 x.v.d).length x.c, .int .i64 x.v.pow]) (fun Al W I => (c0h (m := 0 * 4) I.fa.1 d0y x.cells rfl rfl)) fun Al W I => ?_
   exact zuse KL9 I
 · refine zx I 11 (fun _ => .agg #[.int .i64 (y.v.cls : Int), .bool y.v.neg, .slice y.p (dig B32 y.v.d).length y.c, .int .i64 y.v.pow]) (fun Al W I => (c0h (m := 1 * 4) I.fa.1 d0y y.cells rfl rfl)) fun Al W I => ?_
   exact zuse KL10 I
 refine zx I 14 (fun _ => .agg #[.int .i64 (q.v.cls : Int), .bool q.v.neg, .slice q.p (dig B32 q.v.d).length q.c, .int .i64 q.v.pow]) (fun Al W I => (c0h (m := 2 * 4) I.fa.1 d0y q.cells rfl rfl)) fun Al W I => ?_
 exact zuse KL11 I
theorem v0e (n way : Int) (s t z : ByteArray) (w : World) (hT : TabW w) : Calls Tryd.prog 20 #[.int .i64 n, .string s, .string t, .string z, .int .i64 way] w (d0r n way [s, t, z] ((fmt n).fusedM (refD n s) (refD n t) (refD n z) way) w) := by
 unfold d0r
 by_cases h0 : errR n way [s, t, z] = 0
 · obtain ⟨hn, hL, hw⟩ := g0m h0
   have HR := fun b m W h1 h2 h3 => hi0 (t0m n way [s, t, z] 61 _ b m W h1 h2 (by simp) h3 (fun _ _ => by kernel_rfl) h0 (v0d n way s t z hL hw) (c1h (c0y hn) (e0f hn).inf (e0f hn).inf (e0f hn) way))
   simp only [h0, if_true]
   generalize strR n ((fmt n).fusedM (refD n s) (refD n t) (refD n z) way).1 = str at *
   generalize ((fmt n).fusedM (refD n s) (refD n t) (refD n z) way).2 = fl at *
   have I := Inv.start w [tabF] ⟨hT, True.intro⟩
   refine a0f [.v (.int .i64 n), .v (.string s), .v (.string t), .v (.string z), .v (.int .i64 way)] I Tryd.func20 ?_
   refine zq I (fun Al W I => (HR _ 3 W (I.box 0 9 _) rfl I.fa.1).out) fun Al W I => ?_
   exact zrb I
 · have HR := fun b m W h1 h2 h3 => hi0 (o0l n way [s, t, z] 61 b m W h1 h2 (by simp) h3 h0)
   simp only [if_neg h0]
   generalize errR n way [s, t, z] = er at *
   have I := Inv.start w [tabF] ⟨hT, True.intro⟩
   refine a0f [.v (.int .i64 n), .v (.string s), .v (.string t), .v (.string z), .v (.int .i64 way)] I Tryd.func20 ?_
   refine zq I (fun Al W I => (HR _ 3 W (I.box 0 9 _) rfl I.fa.1).out) fun Al W I => ?_
   exact zrb I
theorem o0p {n way : Int} {L : List ByteArray} {R : Vr × Nat} {w : World} {fn : FuncId} {args : Array Value} (h : Calls Tryd.prog fn args w (d0r n way L R w)) :
 Calls Tryd.prog fn args w fun en w' => en = .returned (.tuple #[.string (outS n way L R), .int .i64 ((outF n way L R : Nat) : Int), .int .i64 (errR n way L)]) ∧ Below w.heap.size w w' := by
 refine h.mono fun en w' hh => ⟨?_, hh.2⟩
 unfold outS outF
 have := hh.1
 by_cases h0 : errR n way L = 0
 · rw [if_pos h0] at this ⊢; rw [if_pos h0]; exact this
 · rw [if_neg h0] at this ⊢; rw [if_neg h0]; exact this
end Go.Proofs.YtmacohmclpnphaaDoor
namespace Go.Slip
open Go.RowKit
end Go.Slip
namespace Go.Proofs.YtmacohmclpnphaaDoor
open Go.RowKit Go.Slip
structure Wp where
 r : Vr
 p : Option Addr
 c : Nat
def Wp.cells (x : Wp) : List Value := [.int .i64 (x.r.cls : Int), .bool x.r.neg, .bool x.r.x.neg, .slice x.p (dig B16 x.r.x.m).length x.c, .int .i64 x.r.x.e]
theorem Wp.len (x : Wp) : x.cells.length = 5 := rfl
structure TnD (a : Dv) : Prop where
 len : (dig B32 a.m).length ≤ 40
 lo : -38000 ≤ a.e
 hi : a.e ≤ 38000
theorem VrOk.tn {r : Vr} (R : VrOk r) : TnD r.x := ⟨by have := R.len; omega, by have := R.lo; omega, by have := R.hi; omega⟩
theorem TnD.sm {a : Dv} (h : TnD a) : SmD a := ⟨by have := h.len; omega, by have := h.lo; omega, by have := h.hi; omega⟩
theorem r0x {m k : Nat} (h1 : 2 ^ k ≤ m) (h2 : m < 2 ^ (k + 1)) : blen m = k + 1 := by
 have a := (b0h m (k + 1)).2 h2
 have b : ¬ blen m ≤ k := fun h => by have := (b0h m k).1 h; omega
 omega
def oneS : ByteArray := b0f [63, 128, 0, 0]
def twoS : ByteArray := b0f [64, 0, 0, 0]
theorem g1j : a0o (fmt 1) oneS = 1065353216 := by
 unfold a0o oneS
 rw [i0p (by decide)]
 decide +kernel
theorem g1k : a0z 1 oneS = 0 := c0l.2 ⟨by decide, by unfold oneS; rw [l0y]; rfl⟩
theorem g1l : refD 1 oneS = ⟨2, false, ⟨false, 1, 0⟩⟩ := by
 unfold refD
 rw [g1j]
 have hd : (fmt 1).decN 1065353216 = ⟨2, 8388608, -23⟩ := by kernel_rfl
 have hg : (fmt 1).neg 1065353216 = false := by decide +kernel
 unfold Fm.refN Fm.vr
 rw [hd, hg]
 have ht : tz 8388608 = 23 := k0d 1 23 rfl
 have hw : wid (fmt 1).g = 1 := by decide
 unfold Dc.c bare
 simp [ht, hw]
theorem g1m : g0y ⟨false, 1, 0⟩ ⟨false, 1, 0⟩ = ⟨false, 1, 1⟩ := by
 rw [i0y _ _ (e := 0) (by decide) (by decide)]
 have hz : zOf ⟨false, 1, 0⟩ 0 + zOf ⟨false, 1, 0⟩ 0 = 2 := by decide
 rw [hz]
 have ht : tz 2 = 1 := k0d 1 1 rfl
 unfold norm ofZ bare
 simp [ht]
theorem g1n : (fmt 1).addM ⟨2, false, ⟨false, 1, 0⟩⟩ ⟨2, false, ⟨false, 1, 0⟩⟩ 1 = (⟨2, false, ⟨false, 1, 1⟩⟩, 0) := by
 have hK : theK 1 1 1 1 24 = -22 := by
  have h := n0s (m := 1) (by decide) 1 (w := 1) (D := 24) (by decide) (by decide)
  rw [show blen 1 = 1 from r0x (k := 0) (by decide) (by decide)] at h
  exact x0o (by decide) (by decide) (by decide) (by decide) h
 have hR : a0r false 1 1 1 (fmt 1).g 1 = ⟨false, 8388608, -22, true, false, false⟩ := by
  unfold a0r
  rw [if_neg (by decide), show wid (fmt 1).g = 1 from rfl, show (fmt 1).g.digs.toNat = 24 from rfl, hK]
  kernel_rfl
 have ht : tz 8388608 = 23 := k0d 1 23 rfl
 unfold Fm.addM
 rw [if_neg (by decide), if_neg (by decide)]
 unfold Fm.sumM
 rw [g1m, if_pos (by decide)]
 unfold Fm.numM
 rw [if_neg (by decide), hR]
 unfold Fm.placedM Fm.flP bare
 have hw : wid (fmt 1).g = 1 := by decide
 simp [ht, hw]
theorem g1o : strR 1 ⟨2, false, ⟨false, 1, 1⟩⟩ = twoS := by
 have hb : blen 1 = 1 := r0x (k := 0) (by decide) (by decide)
 have h24 : blen 8388608 = 24 := r0x (k := 23) (by decide) (by decide)
 have hs : b0r ⟨false, 1, 1⟩ (fmt 1).g = -22 := by
  unfold b0r upK topD
  simp only [hb]
  decide
 have hf : (fmt 1).fr ⟨false, 1, 1⟩ = 8388608 := by
  unfold Fm.fr
  rw [hs]
  decide
 have hn : (fmt 1).numP ⟨false, 1, 1⟩ = ⟨false, 128, 0⟩ := by
  unfold Fm.numP
  rw [hf, hs, h24]
  kernel_rfl
 have he : (fmt 1).encP 2 false ⟨false, 1, 1⟩ = ⟨false, 128, 0⟩ := hn
 have h2 : (fmt 1).strP ⟨false, 128, 0⟩ = [64, 0, 0, 0] := by decide +kernel
 unfold strR twoS
 simp only
 rw [he, h2]
theorem c1p : errR 1 1 [oneS, oneS] = 0 := by
 unfold errR errL errL errL
 rw [g1k]
 decide
theorem l0v (w : World) (hT : TabW w) : Calls Tryd.prog 17 #[] w fun en w' => en = .returned (.bool true) ∧ Below w.heap.size w w' := by
 have HA : ∀ W, TabW W → Hid (Calls Tryd.prog 18 #[.int .i64 1, .string oneS, .string oneS, .int .i64 1] W fun en w' => en = .returned (.tuple #[.string twoS, .int .i64 0, .int .i64 0]) ∧ Below W.heap.size W w') := by
  intro W h
  have := t0n 1 1 oneS oneS W h
  unfold d0r at this
  rw [c1p, g1l, g1n] at this
  simp only [g1o, if_true] at this
  exact hi0 this
 refine calls_of_wp Tryd.func17 rfl ?_
 refine b0g (a' := ⟨(us 26 []).toArray, []⟩) (by kernel_rfl) ?_
 refine yq ?_
 refine ye ?_
 refine ywv 0 rfl 5 (.slice (some ⟨w.heap.size, 0, none⟩) 4 4) #[.int .u8 63, .int .u8 128, .int .u8 0, .int .u8 0] 5 (fun V1 hbV1 hzV1 b5 => ?_)
 refine yv 0 rfl 6 (.string oneS) ?_ (j0v (p := some ⟨w.heap.size, 0, none⟩) (n := 4) (c := 4) (xs := [63, 128, 0, 0]) p0s y0f uStr (y0w b5) rfl (by kernel_rfl))
 refine yzt 1 ?_
 refine ye ?_
 replace hT := (hT.past hbV1)
 refine yc 2 rfl 10 ((HA V1 hT).out) (fun Gx hGx => ?_)
 rintro eV2 V2 ⟨rfl, hbV2⟩
 have hzV2 := hbV2.size
 refine ⟨_, rfl, hGx _ _ ?_⟩
 clear hGx Gx
 refine yzt 7 ?_
 refine ye ?_
 refine ywv 8 rfl 22 (.slice (some ⟨V2.heap.size, 0, none⟩) 4 4) #[.int .u8 64, .int .u8 0, .int .u8 0, .int .u8 0] 5 (fun V3 hbV3 hzV3 b22 => ?_)
 refine yv 0 rfl 23 (.string twoS) ?_ (j0v (p := some ⟨V2.heap.size, 0, none⟩) (n := 4) (c := 4) (xs := [64, 0, 0, 0]) p0s y0f uStr (y0w b22) rfl (by kernel_rfl))
 refine yv 0 rfl 24 (.bool true) ?_ (c1a (s := twoS) (by kernel_rfl) (by kernel_rfl))
 refine yzt 2 ?_
 refine wp_ret ?_
 repeat (first | with_reducible refine a0w ?_ | with_reducible refine a0u ?_)
 refine yret (.bool true) (res1 Tryd.results17 rvt) ?_
 exact ⟨rfl, (a0g (a0g hbV1 hbV2) hbV3)⟩
theorem t0o {n : Int} {s : ByteArray} (h : a0z n s = 0) : (decP n s).cls = (refD n s).cls := (o0m h).cls
def oneT (n : Int) : ByteArray := if IsFm n then strR n oneV else b0f []
theorem g1p {n : Int} (hn : IsFm n) (p : Option Addr) (c : Nat) : d0i n 2 ⟨false, p, c, [1], 0⟩ = 0 ∧ g0l (fmt n) 2 ⟨false, p, c, [1], 0⟩ = strR n oneV := by
 have h1 : dig B32 1 = [1] := p0t a0b (by omega) (by unfold B32; omega)
 obtain ⟨k1, k2⟩ := d1s (z0l hn) (v := ⟨2, false, 1, 0⟩) ⟨rfl, rfl, fun _ => by simp only [Int.mul_zero]; exact f0p (.inl rfl), fun h => absurd rfl h, by simp only [h1]; decide, by decide, by decide⟩ p c
 unfold dinV at k1 k2
 simp only [h1] at k1 k2
 unfold d0i
 rw [if_pos hn]
 exact ⟨k1, k2⟩
theorem c1q (n : Int) (p : Option Addr) (w : World) (h1 : InD w ⟨false, p, 1, [1], 0⟩) (h2 : TabW w) : Calls Tryd.prog 26 #[.int .i64 n, .agg #[.int .i64 2, .bool false, .slice p 1 1, .int .i64 0]] w fun en w' => en = .returned (.tuple #[.string (oneT n), .int .i64 (if IsFm n then 0 else 6)]) ∧ Below w.heap.size w w' := by
 have h := j0h n 2 ⟨false, p, 1, [1], 0⟩ w h1 h2
 unfold m0p at h
 unfold oneT
 by_cases hn : IsFm n
 · obtain ⟨k1, k2⟩ := g1p hn p 1
   rw [k1, if_pos rfl, k2] at h
   rw [if_pos hn, if_pos hn]; exact h
 · have : d0i n 2 ⟨false, p, 1, [1], 0⟩ = 6 := by unfold d0i; rw [if_neg hn]
   rw [this, if_neg (by decide)] at h
   rw [if_neg hn, if_neg hn]; exact h
theorem z0o (n : Int) (w : World) (hT : TabW w) : Calls Tryd.prog 24 #[.int .i64 n] w fun en w' => en = .returned (.tuple #[.string (oneT n), .int .i64 (if IsFm n then 0 else 6)]) ∧ Below w.heap.size w w' := by
 have HE := fun W p h1 h2 => hi0 (c1q n p W h1 h2)
 generalize oneT n = s at *
 generalize (if IsFm n then (0 : Int) else 6) = er at *
 have I := Inv.start w [tabF] ⟨hT, True.intro⟩
 refine a0f [.v (.int .i64 n)] I Tryd.func24 ?_
 refine zq I (fun Al W I => (HE W (some ⟨(lk 0 Al 0), 0, none⟩) ⟨f1z (I.box 0 76 _), by simp, by simp, by simp [B32]⟩ I.fa.1).out) fun Al W I => ?_
 exact zrb I
theorem v0f {f : Fm} {cls : Int} {a : Din} (hc : cls = 2) (h : a0m f cls a = 0) : b0b (numD f a) f.g = true := by
 subst hc
 unfold a0m at h
 split at h
 · omega
 · split at h
   · contradiction
   · split at h
     · omega
     · rw [if_pos rfl] at h
       split at h
       · omega
       · split at h
         · omega
         · rename_i k
           cases q : b0b (numD f a) f.g
           · exact absurd (.inr q) k
           · rfl
theorem c1r {n : Int} {s : ByteArray} (hp : a0z n s = 0) (p : Option Addr) (c : Nat) (h : d0i n ((decP n s).cls : Nat) (dinV (decP n s) p c) = 0) :
 g0l (fmt n) ((decP n s).cls : Nat) (dinV (decP n s) p c) = strR n (refD n s) ∧ ((refD n s).cls = 2 → b0b (refD n s).x (fmt n).g = true) := by
 have V := o0m hp
 have hn := (c0l.1 hp).1
 unfold d0i at h
 rw [if_pos hn] at h
 have hx : (refD n s).cls = 2 → numD (fmt n) (dinV (decP n s) p c) = (refD n s).x := fun h2 => by
  rw [← V.num h2]
  unfold numD dinV
  simp only [b0k a0b]
 refine ⟨?_, fun h2 => ?_⟩
 · unfold g0l strR
   rw [Int.toNat_natCast, V.cls, show (dinV (decP n s) p c).g = (refD n s).neg from V.neg]
   by_cases h2 : (refD n s).cls = 2
   · rw [hx h2]
   · rw [m0q (fmt n) h2 _ _ (refD n s).x]
 · rw [← hx h2]
   exact v0f (by rw [V.cls, h2]; rfl) h
theorem c1s {n : Int} (hn : IsFm n) (l : List ByteArray) : errL n (strR n oneV :: l) = errL n l := by
 rw [errL, (o0n hn (z0l hn)).1, if_pos rfl]
theorem t0p {n : Int} (hn : IsFm n) (way : Int) (s t : ByteArray) : errR n way [s, strR n oneV, t] = errR n way [s, t] := by
 unfold errR
 rw [if_pos hn, if_pos hn]
 have : errL n [s, strR n oneV, t] = errL n [s, t] := by
  rw [errL, c1s hn, errL.eq_def n [s, t]]
 rw [this]
theorem q0g (n : Int) (s t : ByteArray) (way : Int) (w : World) (hT : TabW w) : Calls Tryd.prog 6 #[.int .i64 n, .string s, .string t, .int .i64 way] w fun en w' => en = .returned (.bool true) ∧ Below w.heap.size w w' := by
 have HB0 := fun W h => hi0 (l0v W h)
 have HO := fun W h => hi0 (z0o n W h)
 by_cases hn : IsFm n
 · have h1 : oneT n = strR n oneV := if_pos hn
   rw [h1, if_pos hn] at HO
   have G := c0y hn
   obtain ⟨o1, o2⟩ := o0n hn (z0l hn)
   have HF := fun W h => hi0 (o0p (v0e n way s (strR n oneV) t W h))
   have HA := fun W h => hi0 (o0p (t0n n way s t W h))
   obtain ⟨f1, f2⟩ := c1i (t0p hn way s t) (R := (fmt n).fusedM (refD n s) (refD n (strR n oneV)) (refD n t) way) (T := (fmt n).addM (refD n s) (refD n t) way) fun _ => by rw [o2]; exact z0m (e0f hn).ok way
   rw [f1, f2, t0p hn way s t] at HF
   clear f1 f2
   generalize outS n way [s, t] ((fmt n).addM (refD n s) (refD n t) way) = sf at *
   generalize outF n way [s, t] ((fmt n).addM (refD n s) (refD n t) way) = ff at *
   have HI := fun W => hi0 (stay (p0w way W))
   by_cases hw : 1 ≤ way ∧ way ≤ 5
   · rw [p0v hw.1 hw.2] at HI
     have HD := fun W h => hi0 (f0j n s W h)
     have hl : (dig B32 (decP n s).d).length ≤ 1000 := by
      unfold decP
      by_cases h0 : a0z n s = 0
      · rw [if_pos h0]; exact (g1a G s).vlen
      · rw [if_neg h0]; show (dig B32 0).length ≤ _; rw [a0h]; decide
     have HE : ∀ W p c b, Own W b .u32 76 p c (dig B32 (decP n s).d) → TabW W → Hid (Calls Tryd.prog 26 #[.int .i64 n, .agg #[.int .i64 (((decP n s).cls : Nat) : Int), .bool (decP n s).neg, .slice p (dig B32 (decP n s).d).length c, .int .i64 (decP n s).pow]] W fun en w' => en = .returned (.tuple #[.string (if d0i n ((decP n s).cls : Nat) (dinV (decP n s) none 0) = 0 then g0l (fmt n) ((decP n s).cls : Nat) (dinV (decP n s) none 0) else b0f []), .int .i64 (d0i n ((decP n s).cls : Nat) (dinV (decP n s) none 0))]) ∧ Below W.heap.size W w') := fun W p c b ho h => hi0 (j0h n ((decP n s).cls : Nat) (dinV (decP n s) p c) W (y0x ho hl) h)
     by_cases hq : a0z n s = 0 ∧ d0i n ((decP n s).cls : Nat) (dinV (decP n s) none 0) = 0 ∧ (decP n s).cls ≤ 3
     · obtain ⟨hp, he, hc3⟩ := hq
       obtain ⟨e1, e2⟩ := c1r hp none 0 he
       rw [if_pos he, he, e1] at HE
       rw [hp] at HD
       have R := (e0f (s := s) hn).ok
       have h0 : errR n way [s, strR n oneV] = 0 := by
        unfold errR
        have : errL n [s, strR n oneV] = 0 := by unfold errL errL errL; simp [hp, o1]
        rw [if_pos hn, if_pos this, if_pos hw]
       have HM := fun W h => hi0 (o0p (c1m n way s (strR n oneV) W h))
       have HV := fun W h => hi0 (o0p (c1o n way s (strR n oneV) W h))
       rw [o2, h0] at HM HV
       unfold outS outF at HM HV
       rw [if_pos h0, if_pos h0] at HM HV
       have hr1 := R.c
       have hcl := t0o hp
       by_cases hc : (decP n s).cls = 1
       · rw [(j0n (f := fmt n) (by omega) way).1] at HM
         rw [(j0n (f := fmt n) (by omega) way).2] at HV
         obtain ⟨z1, z2⟩ := o0n hn (h0v G (refD n s).neg)
         have HD2 := fun W h => hi0 (f0j n (strR n ((fmt n).zeroM (refD n s).neg)) W h)
         have hz : (decP n (strR n ((fmt n).zeroM (refD n s).neg))).cls = 1 := by rw [t0o z1, z2]; rfl
         rw [z1] at HD2
         simp only at HM HV
         generalize strR n ((fmt n).zeroM (refD n s).neg) = sz at *
         generalize strR n (refD n s) = tt at *
         generalize strR n oneV = o at *
         generalize decP n s = v at *
         generalize decP n sz = v2 at *
         generalize errR n way [s, t] = er at *
         clear h0 z1 z2 R e1 e2 he hp o1 o2 G h1 hr1 hcl
         have I := Inv.start w [tabF] ⟨hT, True.intro⟩
         refine a0f [.v (.int .i64 n), .v (.string s), .v (.string t), .v (.int .i64 way)] I Tryd.func6 ?_
         refine zq I (fun Al W I => (HB0 W I.fa.1).out) fun Al W I => ?_
         refine zq I (fun Al W I => (HO W I.fa.1).out) fun Al W I => ?_
         refine zq I (fun Al W I => (HF W I.fa.1).out) fun Al W I => ?_
         refine zq I (fun Al W I => (HA W I.fa.1).out) fun Al W I => ?_
         refine zb I 50 (er != er) (false) (bne_self_eq_false _) fun Al W I => ?_
         refine zbin I 54 _ (fun _ _ _ _ _ => n0r sf) fun Al W I => ?_
         refine zb I 59 ((ff : Int) != (ff : Int)) (false) (bne_self_eq_false _) fun Al W I => ?_
         refine zq I (fun Al W I => (HI W).out) fun Al W I => ?_
         refine zqo I (fun Al W I => (HD W I.fa.1).out) fun Al W p69 c69 I => ?_
         refine zq I (fun Al W I => (HE W p69 c69 _ I.fa.1 I.fa.2.1).out) fun Al W I => ?_
         refine zb I 87 (decide ((v.cls : Int) > 3)) (false) (dFa (by omega)) fun Al W I => ?_
         refine zq I (fun Al W I => (HM W I.fa.2.1).out) fun Al W I => ?_
         refine zq I (fun Al W I => (HV W I.fa.2.1).out) fun Al W I => ?_
         refine zqo I (fun Al W I => (HD2 W I.fa.2.1).out) fun Al W p110 c110 I => ?_
         refine zb I 115 ((v.cls : Int) == 1) (true) (dTr (by omega)) fun Al W I => ?_
         refine zb I 131 ((v2.cls : Int) == (v.cls : Int)) (true) (dTr (by omega)) fun Al W I => ?_
         refine zb I 135 (((0 : Nat) : Int) == 0) (true) (rfl) fun Al W I => ?_
         refine zb I 139 (((0 : Nat) : Int) == 0) (true) (rfl) fun Al W I => ?_
         refine zbin I 144 _ (fun _ _ _ _ _ => r0h sz) fun Al W I => ?_
         exact zrb I
       · rw [(m0s G R e2 (by omega) way).1] at HM
         rw [(m0s G R e2 (by omega) way).2] at HV
         have HD2 := fun W h => hi0 (f0j n (strR n (refD n s)) W h)
         simp only at HM HV
         generalize strR n (refD n s) = tt at *
         generalize strR n oneV = o at *
         generalize decP n s = v at *
         generalize decP n tt = v2 at *
         generalize a0z n tt = ep at *
         generalize errR n way [s, t] = er at *
         clear h0 R e1 e2 he hp o1 o2 G h1 hr1 hcl
         have I := Inv.start w [tabF] ⟨hT, True.intro⟩
         refine a0f [.v (.int .i64 n), .v (.string s), .v (.string t), .v (.int .i64 way)] I Tryd.func6 ?_
         refine zq I (fun Al W I => (HB0 W I.fa.1).out) fun Al W I => ?_
         refine zq I (fun Al W I => (HO W I.fa.1).out) fun Al W I => ?_
         refine zq I (fun Al W I => (HF W I.fa.1).out) fun Al W I => ?_
         refine zq I (fun Al W I => (HA W I.fa.1).out) fun Al W I => ?_
         refine zb I 50 (er != er) (false) (bne_self_eq_false _) fun Al W I => ?_
         refine zbin I 54 _ (fun _ _ _ _ _ => n0r sf) fun Al W I => ?_
         refine zb I 59 ((ff : Int) != (ff : Int)) (false) (bne_self_eq_false _) fun Al W I => ?_
         refine zq I (fun Al W I => (HI W).out) fun Al W I => ?_
         refine zqo I (fun Al W I => (HD W I.fa.1).out) fun Al W p69 c69 I => ?_
         refine zq I (fun Al W I => (HE W p69 c69 _ I.fa.1 I.fa.2.1).out) fun Al W I => ?_
         refine zb I 87 (decide ((v.cls : Int) > 3)) (false) (dFa (by omega)) fun Al W I => ?_
         refine zq I (fun Al W I => (HM W I.fa.2.1).out) fun Al W I => ?_
         refine zq I (fun Al W I => (HV W I.fa.2.1).out) fun Al W I => ?_
         refine zqo I (fun Al W I => (HD2 W I.fa.2.1).out) fun Al W p110 c110 I => ?_
         refine zb I 115 ((v.cls : Int) == 1) (false) (dFa (by omega)) fun Al W I => ?_
         refine zbin I 155 _ (fun _ _ _ _ _ => r0h tt) fun Al W I => ?_
         refine zbin I 160 _ (fun _ _ _ _ _ => r0h tt) fun Al W I => ?_
         refine zb I 164 (((0 : Nat) : Int) == 0) (true) (rfl) fun Al W I => ?_
         refine zb I 168 (((0 : Nat) : Int) == 0) (true) (rfl) fun Al W I => ?_
         exact zrb I
     · generalize (if d0i n ((decP n s).cls : Nat) (dinV (decP n s) none 0) = 0 then g0l (fmt n) ((decP n s).cls : Nat) (dinV (decP n s) none 0) else b0f []) = tt at *
       generalize strR n oneV = o at *
       generalize d0i n ((decP n s).cls : Nat) (dinV (decP n s) none 0) = ee at *
       generalize a0z n s = ep at *
       generalize decP n s = v at *
       generalize errR n way [s, t] = er at *
       have I := Inv.start w [tabF] ⟨hT, True.intro⟩
       refine a0f [.v (.int .i64 n), .v (.string s), .v (.string t), .v (.int .i64 way)] I Tryd.func6 ?_
       refine zq I (fun Al W I => (HB0 W I.fa.1).out) fun Al W I => ?_
       refine zq I (fun Al W I => (HO W I.fa.1).out) fun Al W I => ?_
       refine zq I (fun Al W I => (HF W I.fa.1).out) fun Al W I => ?_
       refine zq I (fun Al W I => (HA W I.fa.1).out) fun Al W I => ?_
       refine zb I 50 (er != er) (false) (bne_self_eq_false _) fun Al W I => ?_
       refine zbin I 54 _ (fun _ _ _ _ _ => n0r sf) fun Al W I => ?_
       refine zb I 59 ((ff : Int) != (ff : Int)) (false) (bne_self_eq_false _) fun Al W I => ?_
       refine zq I (fun Al W I => (HI W).out) fun Al W I => ?_
       refine zqo I (fun Al W I => (HD W I.fa.1).out) fun Al W p69 c69 I => ?_
       refine zq I (fun Al W I => (HE W p69 c69 _ I.fa.1 I.fa.2.1).out) fun Al W I => ?_
       rcases Bool.eq_false_or_eq_true (ep != 0) with f79 | f79
       · refine zb I 79 (ep != 0) (true) (f79) fun Al W I => ?_
         exact zrb I
       refine zb I 79 (ep != 0) (false) (f79) fun Al W I => ?_
       rcases Bool.eq_false_or_eq_true (ee != 0) with f82 | f82
       · refine zb I 82 (ee != 0) (true) (f82) fun Al W I => ?_
         exact zrb I
       refine zb I 82 (ee != 0) (false) (f82) fun Al W I => ?_
       refine zb I 87 (decide ((v.cls : Int) > 3)) (true) (dTr (by have h1 := bne_eq_false_iff_eq.1 f79; have h2 := bne_eq_false_iff_eq.1 f82; omega)) fun Al W I => ?_
       exact zrb I
   · have hw2 : wayB way = false := by
      unfold wayB
      by_cases h : 1 ≤ way
      · rw [decide_eq_false (fun k => hw ⟨h, k⟩), Bool.and_false]
      · rw [decide_eq_false h, Bool.false_and]
     rw [hw2] at HI
     have he : errR n way [s, t] ≠ 0 := fun h => hw (g0m h).2.2
     generalize strR n oneV = o at *
     generalize errR n way [s, t] = er at *
     have I := Inv.start w [tabF] ⟨hT, True.intro⟩
     refine a0f [.v (.int .i64 n), .v (.string s), .v (.string t), .v (.int .i64 way)] I Tryd.func6 ?_
     refine zq I (fun Al W I => (HB0 W I.fa.1).out) fun Al W I => ?_
     refine zq I (fun Al W I => (HO W I.fa.1).out) fun Al W I => ?_
     refine zq I (fun Al W I => (HF W I.fa.1).out) fun Al W I => ?_
     refine zq I (fun Al W I => (HA W I.fa.1).out) fun Al W I => ?_
     refine zb I 50 (er != er) (false) (bne_self_eq_false _) fun Al W I => ?_
     refine zbin I 54 _ (fun _ _ _ _ _ => n0r sf) fun Al W I => ?_
     refine zb I 59 ((ff : Int) != (ff : Int)) (false) (bne_self_eq_false _) fun Al W I => ?_
     refine zq I (fun Al W I => (HI W).out) fun Al W I => ?_
     exact zret I (v := fun Al => .bool (er != 0)) fun Al W I => ⟨by rw [bne_iff_ne.2 he], I.below⟩
 · rw [if_neg hn] at HO
   generalize oneT n = o at *
   have I := Inv.start w [tabF] ⟨hT, True.intro⟩
   refine a0f [.v (.int .i64 n), .v (.string s), .v (.string t), .v (.int .i64 way)] I Tryd.func6 ?_
   refine zq I (fun Al W I => (HB0 W I.fa.1).out) fun Al W I => ?_
   refine zq I (fun Al W I => (HO W I.fa.1).out) fun Al W I => ?_
   exact zrb I
end Go.Proofs.YtmacohmclpnphaaDoor
