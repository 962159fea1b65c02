/- arith: Sub, Fused, Compare. -/
import Derived.Carry
import Derived.Test.YtlcdfnaaenibgaaGreatDoorZg1
import Derived.Test.YtlcdfnaaenibgaaGreatDoorZg2
import Derived.Test.YtlcdfnaaenibgaaGreatDoorZg3
import Derived.Test.YtlcdfnaaenibgaaGreatDoorZg4
import Derived.Test.YtlcdfnaaenibgaaGreatDoorZg5
import Derived.Test.YtlcdfnaaenibgaaGreatDoorZg6
import Derived.Test.YtlcdfnaaenibgaaGreatDoorZg7
import Derived.Test.YtlcdfnaaenibgaaGreatDoorZg8
set_option maxHeartbeats 8000000
set_option maxRecDepth 100000
namespace Go.Proofs.YtlcdfnaaenibgaaGreatDoor
open Go.RowKit Go.Slip
theorem d1l {n : Int} {s t z : ByteArray} (h : errL n [s, t, z] = 0) : a0w n s = 0 ∧ a0w n t = 0 ∧ a0w n z = 0 ∧ IsFm n := by
 have h1 := d0w n h s (by simp)
 exact ⟨h1, d0w n h t (by simp), d0w n h z (by simp), (c0q.1 h1).1⟩
theorem y0z {n : Int} {xs : List Vp} {s t z : ByteArray} (h : xs.map (·.v) = [s, t, z].map (decP n)) : ∃ x y q, xs = [x, y, q] ∧ x.v = decP n s ∧ y.v = decP n t ∧ q.v = decP n z := by
 cases xs with
 | nil => simp at h
 | cons x l =>
  cases l with
  | nil => simp at h
  | cons y l =>
   cases l with
   | nil => simp at h
   | cons q l =>
    cases l with
    | nil => simp only [List.map_cons, List.map_nil, List.cons.injEq, and_true] at h; exact ⟨x, y, q, rfl, h.1, h.2.1, h.2.2⟩
    | cons _ _ => simp at h
theorem z0a (n way : Int) (s t z : ByteArray) (h0 : errL n [s, t, z] = 0) (hw : 1 ≤ way ∧ way ≤ 5) : k1k n way [s, t, z] 56 ((fmt n).fusedM (refD n s) (refD n t) (refD n z) way) := by
 intro xs vs p c base u w hxs hvs oS oL U hT hb
 obtain ⟨hs, ht, hz, hn⟩ := d1l h0
 obtain ⟨x, y, q, rfl, hx, hy, hq⟩ := y0z hxs
 have ox := oL x (by simp)
 have oy := oL y (by simp)
 have oq := oL q (by simp)
 have HA := fun W u h1 h2 h3 h4 h5 h6 => hi0 (k1i (fmt n) n way x y q (refD n s) (refD n t) (refD n z) base u W h1 h2 h3 h4 h5 (t0t hs hx) (t0t ht hy) (t0t hz hq) (c0a hn) hw h6)
 generalize (fmt n).fusedM (refD n s) (refD n t) (refD n z) way = R at *
 generalize fmt n = f at *
 subst hvs
 clear oL hx hy hq hxs h0 hs ht hz hn
 obtain ⟨r, fl⟩ := R
 have I := Inv.startW w u 139 (uS f n way 0) [h0q base 70 4 p c [s, t, z].length ([x, y, q].flatMap Vp.cells), ownF base .u32 160 x.p x.c (dig B32 x.v.d), ownF base .u32 160 y.p y.c (dig B32 y.v.d), ownF base .u32 160 q.p q.c (dig B32 q.v.d), tabF] U ⟨oS, ox, oy, oq, hT, True.intro⟩ ⟨fun hf => oS.far U (by kernel_rfl) hf.1 hf.2, fun hf => ox.far U (by kernel_rfl) hf.1 hf.2, fun hf => oy.far U (by kernel_rfl) hf.1 hf.2, fun hf => oq.far U (by kernel_rfl) hf.1 hf.2, fun hf => hT.far U (by kernel_rfl) hf, True.intro⟩
 refine a0d [.p 0 0, .v (.slice p [s, t, z].length c)] I Tryz.func56 ?_
 refine zd [0, 1] I fun Al W I => ?_
 refine zk [0, 1] I fun I => ?_
 refine zkx 2 I (.pointer (some (at_ p (0 * 4)))) (fun _ => (h0p (m := 0) (n := [s, t, z].length) (c := c) r0v I.fa.1.solid (by simp))) fun I => ?_
 refine zk [4] I fun I => ?_
 refine zkx 5 I (.pointer (some (at_ p (1 * 4)))) (fun _ => (h0p (m := 1) (n := [s, t, z].length) (c := c) r0v I.fa.1.solid (by simp))) fun I => ?_
 refine zk [7] I fun I => ?_
 refine zkx 8 I (.pointer (some (at_ p (2 * 4)))) (fun _ => (h0p (m := 2) (n := [s, t, z].length) (c := c) r0v I.fa.1.solid (by simp))) fun I => ?_
 refine i0n I [(3, .v (.agg #[.int .i64 (x.v.cls : Int), .bool x.v.neg, .slice x.p (dig B32 x.v.d).length x.c, .int .i64 x.v.pow])), (6, .v (.agg #[.int .i64 (y.v.cls : Int), .bool y.v.neg, .slice y.p (dig B32 y.v.d).length y.c, .int .i64 y.v.pow])), (9, .v (.agg #[.int .i64 (q.v.cls : Int), .bool q.v.neg, .slice q.p (dig B32 q.v.d).length q.c, .int .i64 q.v.pow]))] (fun Al W I => ?_) (fun KL15 => ?_)
 · refine zo 10 I fun I => ?_
   refine zge I 0 139 (fun Al W I => have hzW := I.bel.size; (HA W _ (I.box 0 139 _) I.fa.2.1 I.fa.2.2.1 I.fa.2.2.2.1 (by omega) I.fa.2.2.2.2.1).out) fun Al V Iv _ _ kz => ?_
   rintro _ W ⟨v12, hR12, p12, c12, rfl, o12, hO, hB⟩
   refine ⟨_, rfl, kz _ (uS f n way (fl : Int)) _ hO hB fun I => ?_⟩
   have I := I.ownB base o12
   refine zo 11 I fun I => ?_
   refine zn I fun Al W I => ?_
   exact zret I fun Al W I => ⟨v12, hR12, p12, c12, rfl, I.fa.1, I.bel, I.boxE 139 _⟩
 refine i0n I [(3, .v (.agg #[.int .i64 (x.v.cls : Int), .bool x.v.neg, .slice x.p (dig B32 x.v.d).length x.c, .int .i64 x.v.pow])), (6, .v (.agg #[.int .i64 (y.v.cls : Int), .bool y.v.neg, .slice y.p (dig B32 y.v.d).length y.c, .int .i64 y.v.pow]))] (fun Al W I => ?_) (fun KL12 => ?_)
 · refine zo 9 I fun I => ?_
   refine zx I 14 (fun _ => .agg #[.int .i64 (q.v.cls : Int), .bool q.v.neg, .slice q.p (dig B32 q.v.d).length q.c, .int .i64 q.v.pow]) (fun Al W I => (c0k (m := 2 * 4) I.fa.1 h0r q.cells rfl rfl)) fun Al W I => ?_
   exact zuse KL15 I
 refine i0n I [(3, .v (.agg #[.int .i64 (x.v.cls : Int), .bool x.v.neg, .slice x.p (dig B32 x.v.d).length x.c, .int .i64 x.v.pow])), (9, .v (.agg #[.int .i64 (q.v.cls : Int), .bool q.v.neg, .slice q.p (dig B32 q.v.d).length q.c, .int .i64 q.v.pow]))] (fun Al W I => ?_) (fun KL13 => ?_)
 · refine zo 6 I fun I => ?_
   refine zx I 11 (fun _ => .agg #[.int .i64 (y.v.cls : Int), .bool y.v.neg, .slice y.p (dig B32 y.v.d).length y.c, .int .i64 y.v.pow]) (fun Al W I => (c0k (m := 1 * 4) I.fa.1 h0r y.cells rfl rfl)) fun Al W I => ?_
   exact zuse KL15 I
 refine i0n I [(6, .v (.agg #[.int .i64 (y.v.cls : Int), .bool y.v.neg, .slice y.p (dig B32 y.v.d).length y.c, .int .i64 y.v.pow])), (9, .v (.agg #[.int .i64 (q.v.cls : Int), .bool q.v.neg, .slice q.p (dig B32 q.v.d).length q.c, .int .i64 q.v.pow]))] (fun Al W I => ?_) (fun KL14 => ?_)
 · refine zo 3 I fun I => ?_
   refine zx I 8 (fun _ => .agg #[.int .i64 (x.v.cls : Int), .bool x.v.neg, .slice x.p (dig B32 x.v.d).length x.c, .int .i64 x.v.pow]) (fun Al W I => (c0k (m := 0 * 4) I.fa.1 h0r x.cells rfl rfl)) fun Al W I => ?_
   exact zuse KL15 I
 refine i0n I [(3, .v (.agg #[.int .i64 (x.v.cls : Int), .bool x.v.neg, .slice x.p (dig B32 x.v.d).length x.c, .int .i64 x.v.pow]))] (fun Al W I => ?_) (fun KL9 => ?_)
 · refine zo2 6 9 I (fun I => ?_) (fun I => ?_)
   · refine zx I 11 (fun _ => .agg #[.int .i64 (y.v.cls : Int), .bool y.v.neg, .slice y.p (dig B32 y.v.d).length y.c, .int .i64 y.v.pow]) (fun Al W I => (c0k (m := 1 * 4) I.fa.1 h0r y.cells rfl rfl)) fun Al W I => ?_
     exact zuse KL12 I
   refine zx I 14 (fun _ => .agg #[.int .i64 (q.v.cls : Int), .bool q.v.neg, .slice q.p (dig B32 q.v.d).length q.c, .int .i64 q.v.pow]) (fun Al W I => (c0k (m := 2 * 4) I.fa.1 h0r q.cells rfl rfl)) fun Al W I => ?_
   exact zuse KL13 I
 refine i0n I [(6, .v (.agg #[.int .i64 (y.v.cls : Int), .bool y.v.neg, .slice y.p (dig B32 y.v.d).length y.c, .int .i64 y.v.pow]))] (fun Al W I => ?_) (fun KL10 => ?_)
 · refine zo2 3 9 I (fun I => ?_) (fun I => ?_)
   · refine zx I 8 (fun _ => .agg #[.int .i64 (x.v.cls : Int), .bool x.v.neg, .slice x.p (dig B32 x.v.d).length x.c, .int .i64 x.v.pow]) (fun Al W I => (c0k (m := 0 * 4) I.fa.1 h0r x.cells rfl rfl)) fun Al W I => ?_
     exact zuse KL12 I
   refine zx I 14 (fun _ => .agg #[.int .i64 (q.v.cls : Int), .bool q.v.neg, .slice q.p (dig B32 q.v.d).length q.c, .int .i64 q.v.pow]) (fun Al W I => (c0k (m := 2 * 4) I.fa.1 h0r q.cells rfl rfl)) fun Al W I => ?_
   exact zuse KL14 I
 refine i0n I [(9, .v (.agg #[.int .i64 (q.v.cls : Int), .bool q.v.neg, .slice q.p (dig B32 q.v.d).length q.c, .int .i64 q.v.pow]))] (fun Al W I => ?_) (fun KL11 => ?_)
 · refine zo2 3 6 I (fun I => ?_) (fun I => ?_)
   · refine zx I 8 (fun _ => .agg #[.int .i64 (x.v.cls : Int), .bool x.v.neg, .slice x.p (dig B32 x.v.d).length x.c, .int .i64 x.v.pow]) (fun Al W I => (c0k (m := 0 * 4) I.fa.1 h0r x.cells rfl rfl)) fun Al W I => ?_
     exact zuse KL13 I
   refine zx I 11 (fun _ => .agg #[.int .i64 (y.v.cls : Int), .bool y.v.neg, .slice y.p (dig B32 y.v.d).length y.c, .int .i64 y.v.pow]) (fun Al W I => (c0k (m := 1 * 4) I.fa.1 h0r y.cells rfl rfl)) fun Al W I => ?_
   exact zuse KL14 I
 refine zo3 3 6 9 I (fun I => ?_) (fun I => ?_) (fun I => ?_)
 · refine zx I 8 (fun _ => .agg #[.int .i64 (x.v.cls : Int), .bool x.v.neg, .slice x.p (dig B32 x.v.d).length x.c, .int .i64 x.v.pow]) (fun Al W I => (c0k (m := 0 * 4) I.fa.1 h0r x.cells rfl rfl)) fun Al W I => ?_
   exact zuse KL9 I
 · refine zx I 11 (fun _ => .agg #[.int .i64 (y.v.cls : Int), .bool y.v.neg, .slice y.p (dig B32 y.v.d).length y.c, .int .i64 y.v.pow]) (fun Al W I => (c0k (m := 1 * 4) I.fa.1 h0r y.cells rfl rfl)) fun Al W I => ?_
   exact zuse KL10 I
 refine zx I 14 (fun _ => .agg #[.int .i64 (q.v.cls : Int), .bool q.v.neg, .slice q.p (dig B32 q.v.d).length q.c, .int .i64 q.v.pow]) (fun Al W I => (c0k (m := 2 * 4) I.fa.1 h0r q.cells rfl rfl)) fun Al W I => ?_
 exact zuse KL11 I
theorem p0y (n way : Int) (s t z : ByteArray) (w : World) (hT : TabW w) : Calls Tryz.prog 23 #[.int .i64 n, .string s, .string t, .string z, .int .i64 way] w (f0g n way [s, t, z] ((fmt n).fusedM (refD n s) (refD n t) (refD n z) way) w) := by
 unfold f0g
 by_cases h0 : errR n way [s, t, z] = 0
 · obtain ⟨hn, hL, hw⟩ := k0z h0
   have HR := fun b m W h1 h2 h3 => hi0 (h1w n way [s, t, z] 56 _ b m W h1 h2 (by simp) h3 (fun _ _ => by kernel_rfl) h0 (z0a n way s t z hL hw) (x0f (c0a hn) (f0a hn).inf (f0a hn).inf (f0a hn) way))
   simp only [h0, if_true]
   generalize strR n ((fmt n).fusedM (refD n s) (refD n t) (refD n z) way).1 = str at *
   generalize ((fmt n).fusedM (refD n s) (refD n t) (refD n z) way).2 = fl at *
   have I := Inv.start w [tabF] ⟨hT, True.intro⟩
   refine a0d [.v (.int .i64 n), .v (.string s), .v (.string t), .v (.string z), .v (.int .i64 way)] I Tryz.func23 ?_
   refine zg I (fun Al W I => (HR _ 3 W (I.box 0 9 _) rfl I.fa.1).out) fun Al V Iv _ hB _ kz => ?_
   rintro _ W ⟨rfl, hb⟩
   refine ⟨_, rfl, kz _ _ hb fun I => ?_⟩
   exact zret I fun Al W I => ⟨rfl, I.below⟩
 · have HR := fun b m W h1 h2 h3 => hi0 (d1j n way [s, t, z] 56 b m W h1 h2 (by simp) h3 h0)
   simp only [if_neg h0]
   generalize errR n way [s, t, z] = er at *
   have I := Inv.start w [tabF] ⟨hT, True.intro⟩
   refine a0d [.v (.int .i64 n), .v (.string s), .v (.string t), .v (.string z), .v (.int .i64 way)] I Tryz.func23 ?_
   refine zg I (fun Al W I => (HR _ 3 W (I.box 0 9 _) rfl I.fa.1).out) fun Al V Iv _ hB _ kz => ?_
   rintro _ W ⟨rfl, hb⟩
   refine ⟨_, rfl, kz _ _ hb fun I => ?_⟩
   exact zret I fun Al W I => ⟨rfl, I.below⟩
theorem f0t {w : World} {b : Nat} {p : Option Addr} {c : Nat} {r : Vr} (h : r.x = vz) : Rf w b p c (dig B16 r.x.m) := by
 rw [h]
 show Rf _ _ _ _ (dig B16 0)
 rw [a0c]
 exact ⟨Rd.nil _ _ _, Nat.zero_le _, fun h => by simp at h⟩
theorem t0w (n way : Int) (a b : Wp) (ba bb : Nat) (w : World) (hn : IsFm n) (hw : 1 ≤ way ∧ way ≤ 5) (oa : Rf w ba a.p a.c (dig B16 a.r.x.m)) (ob : Rf w bb b.p b.c (dig B16 b.r.x.m)) (A1 : VrOk a.r) (B1 : VrOk b.r) :
 Calls Tryz.prog 12 #[.int .i64 n, .agg #[.int .i64 (a.r.cls : Int), .bool a.r.neg, .bool a.r.x.neg, .slice a.p (dig B16 a.r.x.m).length a.c, .int .i64 a.r.x.e], .agg #[.int .i64 (b.r.cls : Int), .bool b.r.neg, .bool b.r.x.neg, .slice b.p (dig B16 b.r.x.m).length b.c, .int .i64 b.r.x.e], .int .i64 way] w (GVf w w.heap.size ((fmt n).addM a.r b.r way)) := by
 have HY := fun W b0 h1 h2 => hi0 (p0x n [a, b] b0 2 W hn h1 rfl (by simp) h2)
 have HN := fun W b0 h1 h2 => hi0 (t0u n [a, b] b0 2 W hn h1 rfl (by simp) h2)
 have HL := fun W => hi0 (o0m n W hn)
 have hoffm : (fmt n).offM = (⟨(fmt n).nothM.cls, false, vz⟩, (fmt n).offM.2) := rfl
 have hlostm : (fmt n).lostM = (⟨(fmt n).nothM.cls, false, vz⟩, 16) := rfl
 have vza := A1.x0
 have ca := A1.c
 have vzb := B1.x0
 have cb := B1.c
 have HS := fun W h1 h2 => hi0 (m0d n way a.r.x b.r.x a.r.neg b.r.neg a.p b.p a.c b.c ba bb W hn hw h1 h2 A1.bare B1.bare A1.tn B1.tn)
 have hM : (fmt n).addM a.r b.r way = if 4 ≤ a.r.cls ∨ 4 ≤ b.r.cls then (fmt n).offM else if a.r.cls = 3 ∨ b.r.cls = 3 then (if a.r.cls = b.r.cls ∧ a.r.neg ≠ b.r.neg then (fmt n).lostM else if a.r.cls = 3 then (a.r, 0) else (b.r, 0)) else (fmt n).sumM a.r.x b.r.x a.r.neg b.r.neg way := rfl
 obtain ⟨rS, flS, hS⟩ : ∃ rS flS, (fmt n).sumM a.r.x b.r.x a.r.neg b.r.neg way = (rS, flS) := ⟨_, _, rfl⟩
 rw [hS] at HS hM
 unfold GVf at HS
 simp only at HS
 generalize (fmt n).addM a.r b.r way = R at *
 generalize (fmt n).offM.2 = flo at *
 generalize (fmt n).nothM.cls = kN at *
 clear hS
 have I := Inv.start w [rfF ba a.p a.c (dig B16 a.r.x.m), rfF bb b.p b.c (dig B16 b.r.x.m)] ⟨oa, ob, True.intro⟩
 refine a0d [.v (.int .i64 n), .v (.agg #[.int .i64 (a.r.cls : Int), .bool a.r.neg, .bool a.r.x.neg, .slice a.p (dig B16 a.r.x.m).length a.c, .int .i64 a.r.x.e]), .v (.agg #[.int .i64 (b.r.cls : Int), .bool b.r.neg, .bool b.r.x.neg, .slice b.p (dig B16 b.r.x.m).length b.c, .int .i64 b.r.x.e]), .v (.int .i64 way)] I Tryz.func12 ?_
 by_cases hof : 4 ≤ a.r.cls ∨ 4 ≤ b.r.cls
 · refine zg I (fun Al W I => (HY W _ (I.box 3 32 _) (by simpa using hof)).out) fun Al V Iv _ hB _ kz => ?_
   rintro _ W ⟨rfl, hb⟩
   refine ⟨_, rfl, kz _ _ hb fun I => ?_⟩
   rw [hM]
   refine zret I (v := fun Al => .tuple #[.agg #[.int .i64 (kN : Int), .bool false, .bool false, .slice none 0 0, .int .i64 0], .int .i64 (flo : Int)]) fun Al W I => ?_
   first | (rw [if_pos hof, hoffm]; exact a0m (fl := flo) rfl I.below) | (rw [if_neg hof, if_pos (by omega), if_neg (fun h => by first | exact h.2 hng | exact heq h.1), if_pos h3a]; exact ⟨a.p, a.c, rfl, f0t (vza (by omega)), I.below⟩) | (rw [if_neg hof, if_pos (by omega), if_neg (fun h => by have := h.1; omega), if_neg h3a]; exact ⟨b.p, b.c, rfl, f0t (vzb (by omega)), I.below⟩)
 refine zg I (fun Al W I => have hzW := I.bel.size; (HN W _ (I.box 3 32 _) (by simp only [List.mem_cons, List.mem_nil_iff, or_false]; rintro x (rfl | rfl) <;> omega)).out) fun Al V Iv _ hB _ kz => ?_
 rintro _ W ⟨rfl, hb⟩
 refine ⟨_, rfl, kz _ _ hb fun I => ?_⟩
 by_cases h3a : a.r.cls = 3
 · by_cases h3b : b.r.cls = 3
   · refine zb I 27 ((a.r.cls : Int) == 3) (true) (beq_iff_eq.2 (by omega)) fun Al W I => ?_
     by_cases heq : a.r.cls = b.r.cls
     · by_cases hng : a.r.neg = b.r.neg
       · refine zb I 37 ((a.r.cls : Int) == (b.r.cls : Int)) (true) (beq_iff_eq.2 (by omega)) fun Al W I => ?_
         refine zb I 43 (a.r.neg != b.r.neg) (false) (bne_eq_false_iff_eq.2 hng) fun Al W I => ?_
         refine zb I 51 ((a.r.cls : Int) == 3) (true) (beq_iff_eq.2 (by omega)) fun Al W I => ?_
         rw [hM]
         refine zret I (v := fun Al => .tuple #[.agg #[.int .i64 (a.r.cls : Int), .bool a.r.neg, .bool a.r.x.neg, .slice a.p (dig B16 a.r.x.m).length a.c, .int .i64 a.r.x.e], .int .i64 0]) fun Al W I => ?_
         first | (rw [if_pos hof, hoffm]; exact a0m (fl := flo) rfl I.below) | (rw [if_neg hof, if_pos (by omega), if_neg (fun h => by first | exact h.2 hng | exact heq h.1), if_pos h3a]; exact ⟨a.p, a.c, rfl, f0t (vza (by omega)), I.below⟩) | (rw [if_neg hof, if_pos (by omega), if_neg (fun h => by have := h.1; omega), if_neg h3a]; exact ⟨b.p, b.c, rfl, f0t (vzb (by omega)), I.below⟩)
       refine zb I 37 ((a.r.cls : Int) == (b.r.cls : Int)) (true) (beq_iff_eq.2 (by omega)) fun Al W I => ?_
       refine zb I 43 (a.r.neg != b.r.neg) (true) (bne_iff_ne.2 hng) fun Al W I => ?_
       refine zg I (fun Al W I => (HL W).out) fun Al V Iv _ hB _ kz => ?_
       rintro _ W ⟨rfl, hb⟩
       refine ⟨_, rfl, kz _ _ hb fun I => ?_⟩
       rw [hM, if_neg hof, if_pos (by omega), if_pos ⟨heq, hng⟩, hlostm]
       exact zret I fun Al W I => a0m (fl := 16) rfl I.below
     by_cases hng : a.r.neg = b.r.neg
     · refine zb I 37 ((a.r.cls : Int) == (b.r.cls : Int)) (false) (bFn (by omega)) fun Al W I => ?_
       refine zb I 51 ((a.r.cls : Int) == 3) (true) (beq_iff_eq.2 (by omega)) fun Al W I => ?_
       rw [hM]
       refine zret I (v := fun Al => .tuple #[.agg #[.int .i64 (a.r.cls : Int), .bool a.r.neg, .bool a.r.x.neg, .slice a.p (dig B16 a.r.x.m).length a.c, .int .i64 a.r.x.e], .int .i64 0]) fun Al W I => ?_
       first | (rw [if_pos hof, hoffm]; exact a0m (fl := flo) rfl I.below) | (rw [if_neg hof, if_pos (by omega), if_neg (fun h => by first | exact h.2 hng | exact heq h.1), if_pos h3a]; exact ⟨a.p, a.c, rfl, f0t (vza (by omega)), I.below⟩) | (rw [if_neg hof, if_pos (by omega), if_neg (fun h => by have := h.1; omega), if_neg h3a]; exact ⟨b.p, b.c, rfl, f0t (vzb (by omega)), I.below⟩)
     refine zb I 37 ((a.r.cls : Int) == (b.r.cls : Int)) (false) (bFn (by omega)) fun Al W I => ?_
     refine zb I 51 ((a.r.cls : Int) == 3) (true) (beq_iff_eq.2 (by omega)) fun Al W I => ?_
     rw [hM]
     refine zret I (v := fun Al => .tuple #[.agg #[.int .i64 (a.r.cls : Int), .bool a.r.neg, .bool a.r.x.neg, .slice a.p (dig B16 a.r.x.m).length a.c, .int .i64 a.r.x.e], .int .i64 0]) fun Al W I => ?_
     first | (rw [if_pos hof, hoffm]; exact a0m (fl := flo) rfl I.below) | (rw [if_neg hof, if_pos (by omega), if_neg (fun h => by first | exact h.2 hng | exact heq h.1), if_pos h3a]; exact ⟨a.p, a.c, rfl, f0t (vza (by omega)), I.below⟩) | (rw [if_neg hof, if_pos (by omega), if_neg (fun h => by have := h.1; omega), if_neg h3a]; exact ⟨b.p, b.c, rfl, f0t (vzb (by omega)), I.below⟩)
   refine zb I 27 ((a.r.cls : Int) == 3) (true) (beq_iff_eq.2 (by omega)) fun Al W I => ?_
   by_cases heq : a.r.cls = b.r.cls
   · by_cases hng : a.r.neg = b.r.neg
     · refine zb I 37 ((a.r.cls : Int) == (b.r.cls : Int)) (true) (beq_iff_eq.2 (by omega)) fun Al W I => ?_
       refine zb I 43 (a.r.neg != b.r.neg) (false) (bne_eq_false_iff_eq.2 hng) fun Al W I => ?_
       refine zb I 51 ((a.r.cls : Int) == 3) (true) (beq_iff_eq.2 (by omega)) fun Al W I => ?_
       rw [hM]
       refine zret I (v := fun Al => .tuple #[.agg #[.int .i64 (a.r.cls : Int), .bool a.r.neg, .bool a.r.x.neg, .slice a.p (dig B16 a.r.x.m).length a.c, .int .i64 a.r.x.e], .int .i64 0]) fun Al W I => ?_
       first | (rw [if_pos hof, hoffm]; exact a0m (fl := flo) rfl I.below) | (rw [if_neg hof, if_pos (by omega), if_neg (fun h => by first | exact h.2 hng | exact heq h.1), if_pos h3a]; exact ⟨a.p, a.c, rfl, f0t (vza (by omega)), I.below⟩) | (rw [if_neg hof, if_pos (by omega), if_neg (fun h => by have := h.1; omega), if_neg h3a]; exact ⟨b.p, b.c, rfl, f0t (vzb (by omega)), I.below⟩)
     refine zb I 37 ((a.r.cls : Int) == (b.r.cls : Int)) (true) (beq_iff_eq.2 (by omega)) fun Al W I => ?_
     refine zb I 43 (a.r.neg != b.r.neg) (true) (bne_iff_ne.2 hng) fun Al W I => ?_
     refine zg I (fun Al W I => (HL W).out) fun Al V Iv _ hB _ kz => ?_
     rintro _ W ⟨rfl, hb⟩
     refine ⟨_, rfl, kz _ _ hb fun I => ?_⟩
     rw [hM, if_neg hof, if_pos (by omega), if_pos ⟨heq, hng⟩, hlostm]
     exact zret I fun Al W I => a0m (fl := 16) rfl I.below
   by_cases hng : a.r.neg = b.r.neg
   · refine zb I 37 ((a.r.cls : Int) == (b.r.cls : Int)) (false) (bFn (by omega)) fun Al W I => ?_
     refine zb I 51 ((a.r.cls : Int) == 3) (true) (beq_iff_eq.2 (by omega)) fun Al W I => ?_
     rw [hM]
     refine zret I (v := fun Al => .tuple #[.agg #[.int .i64 (a.r.cls : Int), .bool a.r.neg, .bool a.r.x.neg, .slice a.p (dig B16 a.r.x.m).length a.c, .int .i64 a.r.x.e], .int .i64 0]) fun Al W I => ?_
     first | (rw [if_pos hof, hoffm]; exact a0m (fl := flo) rfl I.below) | (rw [if_neg hof, if_pos (by omega), if_neg (fun h => by first | exact h.2 hng | exact heq h.1), if_pos h3a]; exact ⟨a.p, a.c, rfl, f0t (vza (by omega)), I.below⟩) | (rw [if_neg hof, if_pos (by omega), if_neg (fun h => by have := h.1; omega), if_neg h3a]; exact ⟨b.p, b.c, rfl, f0t (vzb (by omega)), I.below⟩)
   refine zb I 37 ((a.r.cls : Int) == (b.r.cls : Int)) (false) (bFn (by omega)) fun Al W I => ?_
   refine zb I 51 ((a.r.cls : Int) == 3) (true) (beq_iff_eq.2 (by omega)) fun Al W I => ?_
   rw [hM]
   refine zret I (v := fun Al => .tuple #[.agg #[.int .i64 (a.r.cls : Int), .bool a.r.neg, .bool a.r.x.neg, .slice a.p (dig B16 a.r.x.m).length a.c, .int .i64 a.r.x.e], .int .i64 0]) fun Al W I => ?_
   first | (rw [if_pos hof, hoffm]; exact a0m (fl := flo) rfl I.below) | (rw [if_neg hof, if_pos (by omega), if_neg (fun h => by first | exact h.2 hng | exact heq h.1), if_pos h3a]; exact ⟨a.p, a.c, rfl, f0t (vza (by omega)), I.below⟩) | (rw [if_neg hof, if_pos (by omega), if_neg (fun h => by have := h.1; omega), if_neg h3a]; exact ⟨b.p, b.c, rfl, f0t (vzb (by omega)), I.below⟩)
 by_cases h3b : b.r.cls = 3
 · refine zb I 27 ((a.r.cls : Int) == 3) (false) (bFn (by omega)) fun Al W I => ?_
   refine zb I 31 ((b.r.cls : Int) == 3) (true) (beq_iff_eq.2 (by omega)) fun Al W I => ?_
   by_cases heq : a.r.cls = b.r.cls
   · by_cases hng : a.r.neg = b.r.neg
     · refine zb I 37 ((a.r.cls : Int) == (b.r.cls : Int)) (true) (beq_iff_eq.2 (by omega)) fun Al W I => ?_
       refine zb I 43 (a.r.neg != b.r.neg) (false) (bne_eq_false_iff_eq.2 hng) fun Al W I => ?_
       refine zb I 51 ((a.r.cls : Int) == 3) (false) (bFn (by omega)) fun Al W I => ?_
       rw [hM]
       refine zret I (v := fun Al => .tuple #[.agg #[.int .i64 (b.r.cls : Int), .bool b.r.neg, .bool b.r.x.neg, .slice b.p (dig B16 b.r.x.m).length b.c, .int .i64 b.r.x.e], .int .i64 0]) fun Al W I => ?_
       first | (rw [if_pos hof, hoffm]; exact a0m (fl := flo) rfl I.below) | (rw [if_neg hof, if_pos (by omega), if_neg (fun h => by first | exact h.2 hng | exact heq h.1), if_pos h3a]; exact ⟨a.p, a.c, rfl, f0t (vza (by omega)), I.below⟩) | (rw [if_neg hof, if_pos (by omega), if_neg (fun h => by have := h.1; omega), if_neg h3a]; exact ⟨b.p, b.c, rfl, f0t (vzb (by omega)), I.below⟩)
     refine zb I 37 ((a.r.cls : Int) == (b.r.cls : Int)) (true) (beq_iff_eq.2 (by omega)) fun Al W I => ?_
     refine zb I 43 (a.r.neg != b.r.neg) (true) (bne_iff_ne.2 hng) fun Al W I => ?_
     refine zg I (fun Al W I => (HL W).out) fun Al V Iv _ hB _ kz => ?_
     rintro _ W ⟨rfl, hb⟩
     refine ⟨_, rfl, kz _ _ hb fun I => ?_⟩
     rw [hM, if_neg hof, if_pos (by omega), if_pos ⟨heq, hng⟩, hlostm]
     exact zret I fun Al W I => a0m (fl := 16) rfl I.below
   by_cases hng : a.r.neg = b.r.neg
   · refine zb I 37 ((a.r.cls : Int) == (b.r.cls : Int)) (false) (bFn (by omega)) fun Al W I => ?_
     refine zb I 51 ((a.r.cls : Int) == 3) (false) (bFn (by omega)) fun Al W I => ?_
     rw [hM]
     refine zret I (v := fun Al => .tuple #[.agg #[.int .i64 (b.r.cls : Int), .bool b.r.neg, .bool b.r.x.neg, .slice b.p (dig B16 b.r.x.m).length b.c, .int .i64 b.r.x.e], .int .i64 0]) fun Al W I => ?_
     first | (rw [if_pos hof, hoffm]; exact a0m (fl := flo) rfl I.below) | (rw [if_neg hof, if_pos (by omega), if_neg (fun h => by first | exact h.2 hng | exact heq h.1), if_pos h3a]; exact ⟨a.p, a.c, rfl, f0t (vza (by omega)), I.below⟩) | (rw [if_neg hof, if_pos (by omega), if_neg (fun h => by have := h.1; omega), if_neg h3a]; exact ⟨b.p, b.c, rfl, f0t (vzb (by omega)), I.below⟩)
   refine zb I 37 ((a.r.cls : Int) == (b.r.cls : Int)) (false) (bFn (by omega)) fun Al W I => ?_
   refine zb I 51 ((a.r.cls : Int) == 3) (false) (bFn (by omega)) fun Al W I => ?_
   rw [hM]
   refine zret I (v := fun Al => .tuple #[.agg #[.int .i64 (b.r.cls : Int), .bool b.r.neg, .bool b.r.x.neg, .slice b.p (dig B16 b.r.x.m).length b.c, .int .i64 b.r.x.e], .int .i64 0]) fun Al W I => ?_
   first | (rw [if_pos hof, hoffm]; exact a0m (fl := flo) rfl I.below) | (rw [if_neg hof, if_pos (by omega), if_neg (fun h => by first | exact h.2 hng | exact heq h.1), if_pos h3a]; exact ⟨a.p, a.c, rfl, f0t (vza (by omega)), I.below⟩) | (rw [if_neg hof, if_pos (by omega), if_neg (fun h => by have := h.1; omega), if_neg h3a]; exact ⟨b.p, b.c, rfl, f0t (vzb (by omega)), I.below⟩)
 refine zb I 27 ((a.r.cls : Int) == 3) (false) (bFn (by omega)) fun Al W I => ?_
 refine zb I 31 ((b.r.cls : Int) == 3) (false) (bFn (by omega)) fun Al W I => ?_
 refine zg I (fun Al W I => (HS W I.fa.1 I.fa.2.1).out) fun Al V Iv _ hB _ kz => ?_
 rintro _ W ⟨p64, c64, rfl, o64, hb⟩
 refine ⟨_, rfl, kz _ _ hb fun I => ?_⟩
 have I := I.rf o64 (hB _) Iv
 rw [hM, if_neg hof, if_neg (by omega)]
 exact zret I fun Al W I => ⟨p64, c64, rfl, I.fa.1, I.below⟩
theorem v0t (n way : Int) (g : Bool) (b : Wp) (bb : Nat) (w : World) (hn : IsFm n) (hw : 1 ≤ way ∧ way ≤ 5) (ob : Rf w bb b.p b.c (dig B16 b.r.x.m)) (B1 : VrOk b.r) :
 Calls Tryz.prog 12 #[.int .i64 n, .agg #[.int .i64 3, .bool g, .bool false, .slice none 0 0, .int .i64 0], .agg #[.int .i64 (b.r.cls : Int), .bool b.r.neg, .bool b.r.x.neg, .slice b.p (dig B16 b.r.x.m).length b.c, .int .i64 b.r.x.e], .int .i64 way] w (GVf w w.heap.size ((fmt n).addM (infM g) b.r way)) := by
 have := t0w n way ⟨infM g, none, 0⟩ b 0 bb w hn hw (f0t rfl) ob (d1k g) B1
 have e : (dig B16 (infM g).x.m).length = 0 := by show (dig B16 0).length = 0; rw [a0c]; rfl
 simp only [e] at this
 exact this
theorem o0w (n way : Int) (a b c : Wp) (ba bb bc : Nat) (w : World) (hn : IsFm n) (hw : 1 ≤ way ∧ way ≤ 5) (oa : Rf w ba a.p a.c (dig B16 a.r.x.m)) (ob : Rf w bb b.p b.c (dig B16 b.r.x.m)) (oc : Rf w bc c.p c.c (dig B16 c.r.x.m)) (A1 : VrOk a.r) (B1 : VrOk b.r) (C1 : VrOk c.r) :
 Calls Tryz.prog 24 #[.int .i64 n, .agg #[.int .i64 (a.r.cls : Int), .bool a.r.neg, .bool a.r.x.neg, .slice a.p (dig B16 a.r.x.m).length a.c, .int .i64 a.r.x.e], .agg #[.int .i64 (b.r.cls : Int), .bool b.r.neg, .bool b.r.x.neg, .slice b.p (dig B16 b.r.x.m).length b.c, .int .i64 b.r.x.e], .agg #[.int .i64 (c.r.cls : Int), .bool c.r.neg, .bool c.r.x.neg, .slice c.p (dig B16 c.r.x.m).length c.c, .int .i64 c.r.x.e], .int .i64 way] w (GVf w w.heap.size ((fmt n).fusedM a.r b.r c.r way)) := by
 have HY := fun W b0 h1 h2 => hi0 (p0x n [a, b, c] b0 3 W hn h1 rfl (by simp) h2)
 have HN := fun W b0 h1 h2 => hi0 (t0u n [a, b, c] b0 3 W hn h1 rfl (by simp) h2)
 have HL := fun W => hi0 (o0m n W hn)
 have hoffm : (fmt n).offM = (⟨(fmt n).nothM.cls, false, vz⟩, (fmt n).offM.2) := rfl
 have hlostm : (fmt n).lostM = (⟨(fmt n).nothM.cls, false, vz⟩, 16) := rfl
 have vza := A1.x0
 have ca := A1.c
 have vzb := B1.x0
 have cb := B1.c
 have vzc := C1.x0
 have cc := C1.c
 have HT := fun W h1 h2 => hi0 (g1l a.r.x b.r.x a.p b.p a.c b.c W h1 h2 (r0x A1.sm) (r0x B1.sm))
 have st := g1m A1 B1
 have bt := m0w a.r.x b.r.x
 have HAD := fun W h => hi0 (v0t n way (a.r.neg != b.r.neg) c bc W hn hw h C1)
 generalize ht : d0x a.r.x b.r.x = t at *
 have HS := fun W p cc b0 h1 h2 => hi0 (m0d n way t c.r.x (a.r.neg != b.r.neg) c.r.neg p c.p cc c.c b0 bc W hn hw h1 h2 bt C1.bare st C1.tn)
 have hM : (fmt n).fusedM a.r b.r c.r way = if 4 ≤ a.r.cls ∨ 4 ≤ b.r.cls ∨ 4 ≤ c.r.cls then (fmt n).offM else if a.r.cls = 3 ∨ b.r.cls = 3 then (if a.r.cls = 1 ∨ b.r.cls = 1 then (fmt n).lostM else (fmt n).addM (infM (a.r.neg != b.r.neg)) c.r way) else if c.r.cls = 3 then (c.r, 0) else (fmt n).sumM t c.r.x (a.r.neg != b.r.neg) c.r.neg way := by rw [← ht]; rfl
 obtain ⟨rS, flS, hS⟩ : ∃ rS flS, (fmt n).sumM t c.r.x (a.r.neg != b.r.neg) c.r.neg way = (rS, flS) := ⟨_, _, rfl⟩
 rw [hS] at HS hM
 obtain ⟨rD, flD, hD⟩ : ∃ rD flD, (fmt n).addM (infM (a.r.neg != b.r.neg)) c.r way = (rD, flD) := ⟨_, _, rfl⟩
 rw [hD] at HAD hM
 unfold GVf at HS HAD
 simp only at HS HAD
 generalize (fmt n).fusedM a.r b.r c.r way = R at *
 generalize (fmt n).offM.2 = flo at *
 generalize (fmt n).nothM.cls = kN at *
 generalize hng : (a.r.neg != b.r.neg) = ng at *
 have HNG := hi0 hng
 clear hS hD ht hng st bt
 have I := Inv.start w [rfF ba a.p a.c (dig B16 a.r.x.m), rfF bb b.p b.c (dig B16 b.r.x.m), rfF bc c.p c.c (dig B16 c.r.x.m)] ⟨oa, ob, oc, True.intro⟩
 refine a0d [.v (.int .i64 n), .v (.agg #[.int .i64 (a.r.cls : Int), .bool a.r.neg, .bool a.r.x.neg, .slice a.p (dig B16 a.r.x.m).length a.c, .int .i64 a.r.x.e]), .v (.agg #[.int .i64 (b.r.cls : Int), .bool b.r.neg, .bool b.r.x.neg, .slice b.p (dig B16 b.r.x.m).length b.c, .int .i64 b.r.x.e]), .v (.agg #[.int .i64 (c.r.cls : Int), .bool c.r.neg, .bool c.r.x.neg, .slice c.p (dig B16 c.r.x.m).length c.c, .int .i64 c.r.x.e]), .v (.int .i64 way)] I Tryz.func24 ?_
 by_cases hof : 4 ≤ a.r.cls ∨ 4 ≤ b.r.cls ∨ 4 ≤ c.r.cls
 · refine zg I (fun Al W I => (HY W _ (I.box 4 32 _) (by simpa using hof)).out) fun Al V Iv _ hB _ kz => ?_
   rintro _ W ⟨rfl, hb⟩
   refine ⟨_, rfl, kz _ _ hb fun I => ?_⟩
   rw [hM]
   refine zret I (v := fun Al => .tuple #[.agg #[.int .i64 (kN : Int), .bool false, .bool false, .slice none 0 0, .int .i64 0], .int .i64 (flo : Int)]) fun Al W I => ?_
   first | (rw [if_pos hof, hoffm]; exact a0m (fl := flo) rfl I.below) | (rw [if_neg hof, if_neg (by omega), if_pos h3c]; exact ⟨c.p, c.c, rfl, f0t (vzc (by omega)), I.below⟩)
 refine zg I (fun Al W I => have hzW := I.bel.size; (HN W _ (I.box 4 32 _) (by simp only [List.mem_cons, List.mem_nil_iff, or_false]; rintro x (rfl | rfl | rfl) <;> omega)).out) fun Al V Iv _ hB _ kz => ?_
 rintro _ W ⟨rfl, hb⟩
 refine ⟨_, rfl, kz _ _ hb fun I => ?_⟩
 refine zb I 33 (a.r.neg != b.r.neg) (ng) (HNG.out) fun Al W I => ?_
 by_cases h3a : a.r.cls = 3
 · by_cases h3b : b.r.cls = 3
   · refine zb I 36 ((a.r.cls : Int) == 3) (true) (beq_iff_eq.2 (by omega)) fun Al W I => ?_
     by_cases h1a : a.r.cls = 1
     · by_cases h1b : b.r.cls = 1
       · refine zb I 44 ((a.r.cls : Int) == 1) (true) (beq_iff_eq.2 (by omega)) fun Al W I => ?_
         refine zg I (fun Al W I => (HL W).out) fun Al V Iv _ hB _ kz => ?_
         rintro _ W ⟨rfl, hb⟩
         refine ⟨_, rfl, kz _ _ hb fun I => ?_⟩
         rw [hM, if_neg hof, if_pos (by omega), if_pos (by omega), hlostm]
         exact zret I fun Al W I => a0m (fl := 16) rfl I.below
       refine zb I 44 ((a.r.cls : Int) == 1) (true) (beq_iff_eq.2 (by omega)) fun Al W I => ?_
       refine zg I (fun Al W I => (HL W).out) fun Al V Iv _ hB _ kz => ?_
       rintro _ W ⟨rfl, hb⟩
       refine ⟨_, rfl, kz _ _ hb fun I => ?_⟩
       rw [hM, if_neg hof, if_pos (by omega), if_pos (by omega), hlostm]
       exact zret I fun Al W I => a0m (fl := 16) rfl I.below
     by_cases h1b : b.r.cls = 1
     · refine zb I 44 ((a.r.cls : Int) == 1) (false) (bFn (by omega)) fun Al W I => ?_
       refine zb I 48 ((b.r.cls : Int) == 1) (true) (beq_iff_eq.2 (by omega)) fun Al W I => ?_
       refine zg I (fun Al W I => (HL W).out) fun Al V Iv _ hB _ kz => ?_
       rintro _ W ⟨rfl, hb⟩
       refine ⟨_, rfl, kz _ _ hb fun I => ?_⟩
       rw [hM, if_neg hof, if_pos (by omega), if_pos (by omega), hlostm]
       exact zret I fun Al W I => a0m (fl := 16) rfl I.below
     refine zb I 44 ((a.r.cls : Int) == 1) (false) (bFn (by omega)) fun Al W I => ?_
     refine zb I 48 ((b.r.cls : Int) == 1) (false) (bFn (by omega)) fun Al W I => ?_
     refine zg I (fun Al W I => (HAD W I.fa.2.2.1).out) fun Al V Iv _ hB _ kz => ?_
     rintro _ W ⟨p59, c59, rfl, o59, hb⟩
     refine ⟨_, rfl, kz _ _ hb fun I => ?_⟩
     have I := I.rf o59 (hB _) Iv
     rw [hM, if_neg hof, if_pos (by omega), if_neg (by omega)]
     exact zret I fun Al W I => ⟨p59, c59, rfl, I.fa.1, I.below⟩
   refine zb I 36 ((a.r.cls : Int) == 3) (true) (beq_iff_eq.2 (by omega)) fun Al W I => ?_
   by_cases h1a : a.r.cls = 1
   · by_cases h1b : b.r.cls = 1
     · refine zb I 44 ((a.r.cls : Int) == 1) (true) (beq_iff_eq.2 (by omega)) fun Al W I => ?_
       refine zg I (fun Al W I => (HL W).out) fun Al V Iv _ hB _ kz => ?_
       rintro _ W ⟨rfl, hb⟩
       refine ⟨_, rfl, kz _ _ hb fun I => ?_⟩
       rw [hM, if_neg hof, if_pos (by omega), if_pos (by omega), hlostm]
       exact zret I fun Al W I => a0m (fl := 16) rfl I.below
     refine zb I 44 ((a.r.cls : Int) == 1) (true) (beq_iff_eq.2 (by omega)) fun Al W I => ?_
     refine zg I (fun Al W I => (HL W).out) fun Al V Iv _ hB _ kz => ?_
     rintro _ W ⟨rfl, hb⟩
     refine ⟨_, rfl, kz _ _ hb fun I => ?_⟩
     rw [hM, if_neg hof, if_pos (by omega), if_pos (by omega), hlostm]
     exact zret I fun Al W I => a0m (fl := 16) rfl I.below
   by_cases h1b : b.r.cls = 1
   · refine zb I 44 ((a.r.cls : Int) == 1) (false) (bFn (by omega)) fun Al W I => ?_
     refine zb I 48 ((b.r.cls : Int) == 1) (true) (beq_iff_eq.2 (by omega)) fun Al W I => ?_
     refine zg I (fun Al W I => (HL W).out) fun Al V Iv _ hB _ kz => ?_
     rintro _ W ⟨rfl, hb⟩
     refine ⟨_, rfl, kz _ _ hb fun I => ?_⟩
     rw [hM, if_neg hof, if_pos (by omega), if_pos (by omega), hlostm]
     exact zret I fun Al W I => a0m (fl := 16) rfl I.below
   refine zb I 44 ((a.r.cls : Int) == 1) (false) (bFn (by omega)) fun Al W I => ?_
   refine zb I 48 ((b.r.cls : Int) == 1) (false) (bFn (by omega)) fun Al W I => ?_
   refine zg I (fun Al W I => (HAD W I.fa.2.2.1).out) fun Al V Iv _ hB _ kz => ?_
   rintro _ W ⟨p59, c59, rfl, o59, hb⟩
   refine ⟨_, rfl, kz _ _ hb fun I => ?_⟩
   have I := I.rf o59 (hB _) Iv
   rw [hM, if_neg hof, if_pos (by omega), if_neg (by omega)]
   exact zret I fun Al W I => ⟨p59, c59, rfl, I.fa.1, I.below⟩
 by_cases h3b : b.r.cls = 3
 · refine zb I 36 ((a.r.cls : Int) == 3) (false) (bFn (by omega)) fun Al W I => ?_
   refine zb I 40 ((b.r.cls : Int) == 3) (true) (beq_iff_eq.2 (by omega)) fun Al W I => ?_
   by_cases h1a : a.r.cls = 1
   · by_cases h1b : b.r.cls = 1
     · refine zb I 44 ((a.r.cls : Int) == 1) (true) (beq_iff_eq.2 (by omega)) fun Al W I => ?_
       refine zg I (fun Al W I => (HL W).out) fun Al V Iv _ hB _ kz => ?_
       rintro _ W ⟨rfl, hb⟩
       refine ⟨_, rfl, kz _ _ hb fun I => ?_⟩
       rw [hM, if_neg hof, if_pos (by omega), if_pos (by omega), hlostm]
       exact zret I fun Al W I => a0m (fl := 16) rfl I.below
     refine zb I 44 ((a.r.cls : Int) == 1) (true) (beq_iff_eq.2 (by omega)) fun Al W I => ?_
     refine zg I (fun Al W I => (HL W).out) fun Al V Iv _ hB _ kz => ?_
     rintro _ W ⟨rfl, hb⟩
     refine ⟨_, rfl, kz _ _ hb fun I => ?_⟩
     rw [hM, if_neg hof, if_pos (by omega), if_pos (by omega), hlostm]
     exact zret I fun Al W I => a0m (fl := 16) rfl I.below
   by_cases h1b : b.r.cls = 1
   · refine zb I 44 ((a.r.cls : Int) == 1) (false) (bFn (by omega)) fun Al W I => ?_
     refine zb I 48 ((b.r.cls : Int) == 1) (true) (beq_iff_eq.2 (by omega)) fun Al W I => ?_
     refine zg I (fun Al W I => (HL W).out) fun Al V Iv _ hB _ kz => ?_
     rintro _ W ⟨rfl, hb⟩
     refine ⟨_, rfl, kz _ _ hb fun I => ?_⟩
     rw [hM, if_neg hof, if_pos (by omega), if_pos (by omega), hlostm]
     exact zret I fun Al W I => a0m (fl := 16) rfl I.below
   refine zb I 44 ((a.r.cls : Int) == 1) (false) (bFn (by omega)) fun Al W I => ?_
   refine zb I 48 ((b.r.cls : Int) == 1) (false) (bFn (by omega)) fun Al W I => ?_
   refine zg I (fun Al W I => (HAD W I.fa.2.2.1).out) fun Al V Iv _ hB _ kz => ?_
   rintro _ W ⟨p59, c59, rfl, o59, hb⟩
   refine ⟨_, rfl, kz _ _ hb fun I => ?_⟩
   have I := I.rf o59 (hB _) Iv
   rw [hM, if_neg hof, if_pos (by omega), if_neg (by omega)]
   exact zret I fun Al W I => ⟨p59, c59, rfl, I.fa.1, I.below⟩
 refine zb I 36 ((a.r.cls : Int) == 3) (false) (bFn (by omega)) fun Al W I => ?_
 refine zb I 40 ((b.r.cls : Int) == 3) (false) (bFn (by omega)) fun Al W I => ?_
 by_cases h3c : c.r.cls = 3
 · refine zb I 64 ((c.r.cls : Int) == 3) (true) (beq_iff_eq.2 (by omega)) fun Al W I => ?_
   rw [hM]
   refine zret I (v := fun Al => .tuple #[.agg #[.int .i64 (c.r.cls : Int), .bool c.r.neg, .bool c.r.x.neg, .slice c.p (dig B16 c.r.x.m).length c.c, .int .i64 c.r.x.e], .int .i64 0]) fun Al W I => ?_
   first | (rw [if_pos hof, hoffm]; exact a0m (fl := flo) rfl I.below) | (rw [if_neg hof, if_neg (by omega), if_pos h3c]; exact ⟨c.p, c.c, rfl, f0t (vzc (by omega)), I.below⟩)
 refine zb I 64 ((c.r.cls : Int) == 3) (false) (bFn (by omega)) fun Al W I => ?_
 refine zd [3] I fun Al W I => ?_
 refine zk [0, 1, 2, 3, 4, 6, 7, 8, 9, 10, 11] I fun I => ?_
 refine zo 5 I fun I => ?_
 refine zg I (fun Al W I => (HT W I.fa.1.rd I.fa.2.1.rd).out) fun Al V Iv _ hB _ kz => ?_
 rintro _ W ⟨p71, c71, rfl, o71, hb⟩
 refine ⟨_, rfl, kz _ _ hb fun I => ?_⟩
 have I := I.rf o71 (hB _) Iv
 refine zo 12 I fun I => ?_
 refine zg I (fun Al W I => (HS W p71 c71 _ I.fa.1 I.fa.2.2.2.1).out) fun Al V Iv _ hB _ kz => ?_
 rintro _ W ⟨p78, c78, rfl, o78, hb⟩
 refine ⟨_, rfl, kz _ _ hb fun I => ?_⟩
 have I := I.rf o78 (hB _) Iv
 refine zk [13, 14] I fun I => ?_
 refine zo 15 I fun I => ?_
 refine zn I fun Al W I => ?_
 refine zk [16] I fun I => ?_
 rw [hM, if_neg hof, if_neg (by omega), if_neg h3c]
 exact zret I fun Al W I => ⟨p78, c78, rfl, I.fa.1, I.below⟩
def rflF (b : Nat) (xs : List Wp) : PF :=
 ⟨fun w => ∀ x, x ∈ xs → Rf w b x.p x.c (dig B16 x.r.x.m), fun a => ∃ x, x ∈ xs ∧ 0 < (dig B16 x.r.x.m).length ∧ blk x.p = a, fun _ _ h hb _ x hx => ⟨(h x hx).rd.same fun hp => hb _ ((h x hx).rd.lt hp) ⟨x, hx, hp, rfl⟩, (h x hx).cap, (h x hx).at_⟩, fun _ _ h ⟨x, hx, hp, hf⟩ => hf ▸ (h x hx).rd.lt hp⟩
theorem g1q {w : World} {b : Nat} {xs : List Wp} {r : Vr} {p : Option Addr} {c : Nat} (h : ∀ x, x ∈ xs → Rf w b x.p x.c (dig B16 x.r.x.m)) (o : Rf w b p c (dig B16 r.x.m)) : ∀ x, x ∈ xs ++ [⟨r, p, c⟩] → Rf w b x.p x.c (dig B16 x.r.x.m) := fun x hx => by
 rw [List.mem_append, List.mem_singleton] at hx
 rcases hx with hx | rfl
 · exact h x hx
 · exact o
theorem d1m {b a : Nat} {xs : List Wp} {r : Vr} {p : Option Addr} {c : Nat} (h : (rflF b (xs ++ [⟨r, p, c⟩])).foot a) (h1 : ∀ x, (x ∈ xs ∧ 0 < (dig B16 x.r.x.m).length ∧ blk x.p = a) → False) (h2 : 0 < (dig B16 r.x.m).length → blk p = a → False) : False := by
 obtain ⟨x, hx, h3, h4⟩ := h
 rw [List.mem_append, List.mem_singleton] at hx
 rcases hx with hx | rfl
 · exact h1 x ⟨hx, h3, h4⟩
 · exact h2 h3 h4
def k1o (n : Int) (w : World) (L : List ByteArray) (en : Ending) (w' : World) : Prop :=
 ∃ (xs : List Wp) (vs : List Value) (p : Option Addr) (c : Nat), en = .returned (.tuple #[.slice p L.length c, .int .i64 0]) ∧ xs.map (·.r) = L.map (refD n) ∧ vs = xs.flatMap Wp.cells ∧ OwnS w' w.heap.size 32 5 p c L.length vs ∧ (∀ x, x ∈ xs → Rf w' w.heap.size x.p x.c (dig B16 x.r.x.m)) ∧ Below w.heap.size w w'
theorem d1n (n way : Int) (L : List ByteArray) (b m : Nat) (w : World) (hB0 : Bt w b 9 (L.map Value.string).toArray) (hm : m = L.length) (hl : L.length ≤ 1000) (h0 : errR n way L = 0) :
 Calls Tryz.prog 11 #[.int .i64 n, .int .i64 way, .slice (some ⟨b, 0, none⟩) m m] w (k1o n w L) := by
 subst hm
 obtain ⟨hn, hL, hw⟩ := k0z h0
 have HF := fun W => hi0 (b0g n W)
 rw [decide_eq_true hn] at HF
 have HX : ∀ i, i < L.length → ∃ s : ByteArray, L[i]? = some s ∧ a0w n s = 0 ∧ (L.map Value.string).toArray[i]? = some (.string s) ∧ L.take (i + 1) = L.take i ++ [s] := fun i h => ⟨L[i], List.getElem?_eq_getElem h, d0w n hL _ (List.getElem_mem h), by simp [h], by rw [List.take_add_one, List.getElem?_eq_getElem h]; rfl⟩
 have HO := fun s W => hi0 (o0c n s W)
 have HD := fun s W h => hi0 (i0j n s W hn h)
 have hsz := fun s (h : a0w n s = 0) => (c0q.1 h).2
 have HI := fun W => hi0 (stay (l0x way W))
 rw [t0d hw.1 hw.2] at HI
 have hrd : ∀ s, (fmt n).refN (b0a (fmt n) s) = refD n s := fun s => rfl
 simp only [hrd] at HD
 generalize hgs : (fun s => (fmt n).neg (b0a (fmt n) s)) = gs
 have HD2 : ∀ s (W : World), s.size = (fmt n).size → Hid (Calls Tryz.prog 36 #[.int .i64 n, .string s] W (k0x W (refD n s) (gs s))) := by subst hgs; exact HD
 clear hgs HD hrd
 generalize fmt n = f at *
 have I := Inv.start w [btF b 9 (L.map Value.string).toArray] ⟨hB0, True.intro⟩
 refine a0d [.v (.int .i64 n), .v (.int .i64 way), .v (.slice (some ⟨b, 0, none⟩) L.length L.length)] I Tryz.func11 ?_
 refine zg I (fun Al W I => (HF W).out) fun Al V Iv _ hB _ kz => ?_
 rintro _ W ⟨rfl, hb⟩
 refine ⟨_, rfl, kz _ _ hb fun I => ?_⟩
 have I := I.add (h0q w.heap.size 32 5 none 0 0 []) (OwnS.nil _ _ _ _) (fun _ _ h => by cases h.1)
 have I := I.add (rflF w.heap.size []) (fun _ h => by cases h) (fun _ _ ⟨_, h, _⟩ => by cases h)
 refine o0q I (fun gk fr bx gs => ∃ (U900 : Nat → Value) (i : Nat) (p8 : Option Addr) (c8 : Nat) (xs : List Wp) (vs : List Value), fr = (.v (.int .i64 n) :: .v (.int .i64 way) :: .v (.slice (some ⟨b, 0, none⟩) L.length L.length) :: su 3 (sw U900 6 2 (.v (.slice p8 i c8) :: .v (U900 9) :: .v (.bool true) :: .v (.int .i64 (i : Int)) :: sw U900 12 9 (.v (.bool false) :: sw U900 22 30 (.v undef :: .v (U900 53) :: [])))) : List SV) ∧ bx = [⟨55, [.v (.int .i64 (f.size : Int)), .v (.int .i64 (f.E : Int)), .v (.int .i64 (f.F : Int)), .v (.int .i64 f.g.rad), .v (.int .i64 f.g.digs), .v (.int .i64 f.g.lo), .v (.int .i64 f.g.hi), .v (.bool f.g.grad), .v (.int .i64 (f.fam : Int))], false⟩] ∧ gs = [rflF w.heap.size xs, h0q w.heap.size 32 5 p8 c8 i vs, btF b 9 (L.map Value.string).toArray] ∧ (gk + i = L.length) ∧ (vs = xs.flatMap Wp.cells) ∧ (xs.map (·.r) = (L.take i).map (refD n)) ∧ (p8.isSome = true → ¬ (rflF w.heap.size xs).foot (blk p8))) L.length (fun Al W U I => ⟨_, ⟨U, 0, none, 0, [], [], rfl, rfl, rfl, (by omega), rfl, rfl, (fun h => by cases h)⟩, I.pick [0, 1, 2]⟩) ?_
 rintro J gk0 _ _ _ ⟨U900, i, p8, c8, xs, vs, rfl, rfl, rfl, hgk, hvs, hxs, hap⟩ hJ Al W I
 rcases Bool.eq_false_or_eq_true (decide ((i : Int) < (L.length : Int))) with f25 | f25
 · refine zb I 25 (decide ((i : Int) < (L.length : Int))) (true) (f25) fun Al W I => ?_
   obtain ⟨s, hs, hse, hsv, hst⟩ := HX i (by have := oTr f25; omega)
   refine zx I 31 (fun _ => .pointer (some (at_ (some ⟨b, 0, none⟩) i))) (fun Al W I => (i0d (m := i) (n := L.length) (c := L.length) y0w (fun _ => ⟨rfl, rfl⟩) (by have := oTr f25; omega))) fun Al W I => ?_
   refine zx I 32 (fun _ => .string s) (fun Al W I => (i0m I.fa.2.2.1 y0x _ hsv)) fun Al W I => ?_
   refine zg I (fun Al W I => (HO s W).out) fun Al V Iv _ hB _ kz => ?_
   rintro _ W ⟨rfl, hb⟩
   refine ⟨_, rfl, kz _ _ hb fun I => ?_⟩
   refine zb I 35 ((a0w n s) != 0) (false) (bne_eq_false_iff_eq.2 hse) fun Al W I => ?_
   refine zx I 41 (fun _ => .pointer (some (at_ (some ⟨b, 0, none⟩) i))) (fun Al W I => (i0d (m := i) (n := L.length) (c := L.length) y0w (fun _ => ⟨rfl, rfl⟩) (by have := oTr f25; omega))) fun Al W I => ?_
   refine zx I 42 (fun _ => .string s) (fun Al W I => (i0m I.fa.2.2.1 y0x _ hsv)) fun Al W I => ?_
   refine zg I (fun Al W I => (HD2 s W (hsz s hse)).out) fun Al V Iv _ hB _ kz => ?_
   rintro _ W ⟨p43, c43, rfl, o43, hb⟩
   have n43 : p8.isSome = true → ¬ (0 < (dig B16 (refD n s).x.m).length ∧ blk p43 = blk p8) := fun hp h => by have h1 := o43.at_ h.1; have h2 := (Iv.fa.2.1.blk_lt hp).2; omega
   refine ⟨_, rfl, kz _ _ hb fun I => ?_⟩
   have I := I.rf o43 (hB _) Iv
   have I := I.pick [2, 0, 1, 3]
   refine zap I tvV 2 1 (fun Al => [.int .i64 (((refD n s).cls : Nat) : Int), .bool ((refD n s).neg), .bool ((refD n s).x.neg), .slice p43 (dig B16 (refD n s).x.m).length c43, .int .i64 ((refD n s).x.e)]) (fun Al W I => I.box 2 32 _) (by omega) (fun Al W I hp => ⟨n43 hp, hap hp, fun e => I.fa.1.far I.fa.2.2.2.1 (by kernel_rfl) hp (Eq.symm e), True.intro⟩) fun Al W p49 c49 hq_49 I => ?_
   have I := I.add (rflF w.heap.size (xs ++ [(⟨refD n s, p43, c43⟩ : Wp)])) (g1q I.fa.2.2.1 I.fa.2.1) (fun a ha h => d1m h ((fun a ha h0 e => (I.far a ha).2.2.1 ⟨h0, e⟩) a ha) ((fun a ha h0 e => (I.far a ha).2.1 ⟨h0, e⟩) a ha))
   refine zi I 27 .i64 ((i : Int) + 1) (((i + 1 : Nat) : Int)) ((by rw [show ((i : Int) + 1) = ((i + 1 : Nat) : Int) by omega]; exact IntWalk.i64_in _ (by have := oTr f25; omega))) fun Al W I => ?_
   exact p0w 1 I J fun Al W U I => hJ (gk0 - 1) _ _ _ _ _ ((by have := oTr f25; omega)) ⟨U, i + 1, p49, c49, xs ++ [(⟨refD n s, p43, c43⟩ : Wp)], _, rfl, rfl, rfl, (by have := oTr f25; omega), (by rw [hvs, List.flatMap_append]; rfl), (by rw [hst, List.map_append, List.map_append, hxs]; rfl), (fun hp h => d1m h (fun x hx => (hq_49 hp).2.1 ⟨x, hx⟩) (fun h1 h2 => (hq_49 hp).1 ⟨h1, h2⟩))⟩ (I.pick [0, 1, 4])
 refine zb I 25 (decide ((i : Int) < (L.length : Int))) (false) (f25) fun Al W I => ?_
 refine zg I (fun Al W I => (HI W).out) fun Al V Iv _ hB _ kz => ?_
 rintro _ W ⟨rfl, hb⟩
 refine ⟨_, rfl, kz _ _ hb fun I => ?_⟩
 have hi : i = L.length := by have := oFa f25; omega
 exact zret I (v := fun Al => .tuple #[.slice p8 i c8, .int .i64 0]) fun Al W I => ⟨xs, vs, p8, c8, by rw [hi], by rw [hxs, hi, List.take_length], hvs, hi ▸ I.fa.2.1, I.fa.1, I.below⟩
theorem z0b (n way : Int) (L : List ByteArray) (b m : Nat) (w : World) (hB0 : Bt w b 9 (L.map Value.string).toArray) (hm : m = L.length) (hl : L.length ≤ 1000) (h0 : errR n way L ≠ 0) :
 Calls Tryz.prog 11 #[.int .i64 n, .int .i64 way, .slice (some ⟨b, 0, none⟩) m m] w fun en w' => en = .returned (.tuple #[.slice none 0 0, .int .i64 (errR n way L)]) ∧ Below w.heap.size w w' := by
 subst hm
 have HF := fun W => hi0 (b0g n W)
 by_cases hn : IsFm n
 · rw [decide_eq_true hn] at HF
   have hE : errR n way L = if errL n L = 0 then (if 1 ≤ way ∧ way ≤ 5 then 0 else 6) else errL n L := by unfold errR; rw [if_pos hn]
   have HO := fun s W => hi0 (o0c n s W)
   have HD := fun s W h => hi0 (i0j n s W hn h)
   have hsz := fun s (h : a0w n s = 0) => (c0q.1 h).2
   have HI := fun W => hi0 (stay (l0x way W))
   generalize hgs : (fun s => (fmt n).neg (b0a (fmt n) s)) = gs
   have HD2 : ∀ s (W : World), s.size = (fmt n).size → Hid (Calls Tryz.prog 36 #[.int .i64 n, .string s] W (k0x W (refD n s) (gs s))) := by subst hgs; exact HD
   clear hgs HD
   have HX : ∀ i, i < L.length → ∃ s : ByteArray, L[i]? = some s ∧ (L.map Value.string).toArray[i]? = some (.string s) := fun i h => ⟨L[i], List.getElem?_eq_getElem h, by simp [h]⟩
   have HJ : errL n L ≠ 0 → ∃ (j : Nat) (s : ByteArray), L[j]? = some s ∧ errL n L = a0w n s ∧ a0w n s ≠ 0 ∧ ∀ i t, i < j → L[i]? = some t → a0w n t = 0 := v0q n L
   have HZ : errL n L = 0 → ∀ (i : Nat) (t : ByteArray), L[i]? = some t → a0w n t = 0 := fun h i t ht => d0w n h t (by obtain ⟨h1, h2⟩ := List.getElem?_eq_some_iff.1 ht; rw [← h2]; exact List.getElem_mem h1)
   -- where the first fault is, or behind all
   obtain ⟨j, hjl, hj1, hj2⟩ : ∃ j, j ≤ L.length ∧ (∀ (i : Nat) (t : ByteArray), i < j → L[i]? = some t → a0w n t = 0) ∧ (∀ (s : ByteArray), L[j]? = some s → a0w n s ≠ 0 ∧ errR n way L = a0w n s) := by
    by_cases hL : errL n L = 0
    · exact ⟨L.length, Nat.le_refl _, fun i t _ ht => HZ hL i t ht, fun s hs => by simp at hs⟩
    · obtain ⟨j, s, h1, h2, h3, h4⟩ := HJ hL
      refine ⟨j, by have := (List.getElem?_eq_some_iff.1 h1).1; omega, h4, fun t ht => ?_⟩
      rw [h1] at ht
      cases ht
      exact ⟨h3, by rw [hE, if_neg hL, h2]⟩
   have hend : j = L.length → wayB way = false ∧ errR n way L = 6 := fun h => by
    have hL : errL n L = 0 := by
     by_cases hL : errL n L = 0
     · exact hL
     · obtain ⟨j', s, h1, h2, h3, h4⟩ := HJ hL
       have := (List.getElem?_eq_some_iff.1 h1).1
       exact absurd (hj1 j' s (by omega) h1) h3
    rw [hE, if_pos hL] at h0 ⊢
    have hw : ¬ (1 ≤ way ∧ way ≤ 5) := fun k => h0 (if_pos k)
    exact ⟨l0q (by omega), if_neg hw⟩
   generalize errR n way L = er at *
   generalize fmt n = f at *
   clear HJ HZ hE
   have I := Inv.start w [btF b 9 (L.map Value.string).toArray] ⟨hB0, True.intro⟩
   refine a0d [.v (.int .i64 n), .v (.int .i64 way), .v (.slice (some ⟨b, 0, none⟩) L.length L.length)] I Tryz.func11 ?_
   refine zg I (fun Al W I => (HF W).out) fun Al V Iv _ hB _ kz => ?_
   rintro _ W ⟨rfl, hb⟩
   refine ⟨_, rfl, kz _ _ hb fun I => ?_⟩
   have I := I.add (h0q w.heap.size 32 5 none 0 0 []) (OwnS.nil _ _ _ _) (fun _ _ h => by cases h.1)
   refine o0q I (fun gk fr bx gs => ∃ (U900 : Nat → Value) (i : Nat) (p8 : Option Addr) (c8 : Nat) (vs : List Value), fr = (.v (.int .i64 n) :: .v (.int .i64 way) :: .v (.slice (some ⟨b, 0, none⟩) L.length L.length) :: su 3 (sw U900 6 2 (.v (.slice p8 i c8) :: .v (U900 9) :: .v (.bool true) :: .v (.int .i64 (i : Int)) :: sw U900 12 9 (.v (.bool false) :: sw U900 22 30 (.v undef :: .v (U900 53) :: [])))) : List SV) ∧ bx = [⟨55, [.v (.int .i64 (f.size : Int)), .v (.int .i64 (f.E : Int)), .v (.int .i64 (f.F : Int)), .v (.int .i64 f.g.rad), .v (.int .i64 f.g.digs), .v (.int .i64 f.g.lo), .v (.int .i64 f.g.hi), .v (.bool f.g.grad), .v (.int .i64 (f.fam : Int))], false⟩] ∧ gs = [h0q w.heap.size 32 5 p8 c8 i vs, btF b 9 (L.map Value.string).toArray] ∧ (gk + i = L.length) ∧ (i ≤ j)) L.length (fun Al W U I => ⟨_, ⟨U, 0, none, 0, [], rfl, rfl, rfl, (by omega), (by omega)⟩, I.pick [0, 1]⟩) ?_
   rintro J gk0 _ _ _ ⟨U900, i, p8, c8, vs, rfl, rfl, rfl, hgk, hij⟩ hJ Al W I
   rcases Bool.eq_false_or_eq_true (decide ((i : Int) < (L.length : Int))) with f25 | f25
   · refine zb I 25 (decide ((i : Int) < (L.length : Int))) (true) (f25) fun Al W I => ?_
     obtain ⟨s, hs, hsv⟩ := HX i (by have := oTr f25; omega)
     refine zx I 31 (fun _ => .pointer (some (at_ (some ⟨b, 0, none⟩) i))) (fun Al W I => (i0d (m := i) (n := L.length) (c := L.length) y0w (fun _ => ⟨rfl, rfl⟩) (by have := oTr f25; omega))) fun Al W I => ?_
     refine zx I 32 (fun _ => .string s) (fun Al W I => (i0m I.fa.2.1 y0x _ hsv)) fun Al W I => ?_
     refine zg I (fun Al W I => (HO s W).out) fun Al V Iv _ hB _ kz => ?_
     rintro _ W ⟨rfl, hb⟩
     refine ⟨_, rfl, kz _ _ hb fun I => ?_⟩
     by_cases hij2 : i = j
     · refine zb I 35 ((a0w n s) != 0) (true) (bne_iff_ne.2 (by subst hij2; exact (hj2 s hs).1)) fun Al W I => ?_
       exact zret I (v := fun Al => .tuple #[.slice none 0 0, .int .i64 (a0w n s)]) fun Al W I => ⟨by rw [(hj2 s (hij2 ▸ hs)).2], I.below⟩
     refine zb I 35 ((a0w n s) != 0) (false) (bne_eq_false_iff_eq.2 (hj1 i s (by omega) hs)) fun Al W I => ?_
     refine zx I 41 (fun _ => .pointer (some (at_ (some ⟨b, 0, none⟩) i))) (fun Al W I => (i0d (m := i) (n := L.length) (c := L.length) y0w (fun _ => ⟨rfl, rfl⟩) (by have := oTr f25; omega))) fun Al W I => ?_
     refine zx I 42 (fun _ => .string s) (fun Al W I => (i0m I.fa.2.1 y0x _ hsv)) fun Al W I => ?_
     refine zg I (fun Al W I => have hzW := I.bel.size; (HD2 s W (hsz s (hj1 i s (by omega) hs))).out) fun Al V Iv _ hB _ kz => ?_
     rintro _ W ⟨p43, c43, rfl, -, hb⟩
     refine ⟨_, rfl, kz _ _ hb fun I => ?_⟩
     refine zap I tvV 2 1 (fun Al => [.int .i64 (((refD n s).cls : Nat) : Int), .bool ((refD n s).neg), .bool ((refD n s).x.neg), .slice p43 (dig B16 (refD n s).x.m).length c43, .int .i64 ((refD n s).x.e)]) (fun Al W I => I.box 2 32 _) (by omega) (fun Al W I hp => ⟨fun e => I.fa.1.far I.fa.2.1 (by kernel_rfl) hp (Eq.symm e), True.intro⟩) fun Al W p49 c49 hq_49 I => ?_
     refine zi I 27 .i64 ((i : Int) + 1) (((i + 1 : Nat) : Int)) ((by rw [show ((i : Int) + 1) = ((i + 1 : Nat) : Int) by omega]; exact IntWalk.i64_in _ (by have := oTr f25; omega))) fun Al W I => ?_
     exact p0w 1 I J fun Al W U I => hJ (gk0 - 1) _ _ _ _ _ ((by have := oTr f25; omega)) ⟨U, i + 1, p49, c49, _, rfl, rfl, rfl, (by have := oTr f25; omega), (by omega)⟩ (I.pick [0, 1])
   refine zb I 25 (decide ((i : Int) < (L.length : Int))) (false) (f25) fun Al W I => ?_
   refine zg I (fun Al W I => (HI W).out) fun Al V Iv _ hB _ kz => ?_
   rintro _ W ⟨rfl, hb⟩
   refine ⟨_, congrArg (fun b => Ending.returned (.bool b)) (show (wayB way) = false from (hend (by have := oFa f25; omega)).1), kz _ _ hb fun I => ?_⟩
   exact zret I (v := fun Al => .tuple #[.slice none 0 0, .int .i64 6]) fun Al W I => ⟨by rw [(hend (by have := oFa f25; omega)).2], I.below⟩
 · rw [decide_eq_false hn] at HF
   have hE : errR n way L = 6 := by unfold errR; rw [if_neg hn]
   rw [hE]
   generalize fmt n = f at *
   have I := Inv.start w [] True.intro
   refine a0d [.v (.int .i64 n), .v (.int .i64 way), .v (.slice (some ⟨b, 0, none⟩) L.length L.length)] I Tryz.func11 ?_
   refine zg I (fun Al W I => (HF W).out) fun Al V Iv _ hB _ kz => ?_
   rintro _ W ⟨rfl, hb⟩
   refine ⟨_, rfl, kz _ _ hb fun I => ?_⟩
   exact zret I fun Al W I => ⟨rfl, I.below⟩
theorem v0u {m k : Nat} (h1 : 2 ^ k ≤ m) (h2 : m < 2 ^ (k + 1)) : blen m = k + 1 := by
 have a := (b0l m (k + 1)).2 h2
 have b : ¬ blen m ≤ k := fun h => by have := (b0l m k).1 h; omega
 omega
def oneS : ByteArray := b0m [63, 128, 0, 0]
def twoS : ByteArray := b0m [64, 0, 0, 0]
theorem k1p : b0a (fmt 1) oneS = 1065353216 := by
 unfold b0a oneS
 rw [r0p (by decide)]
 decide +kernel
theorem k1q : a0w 1 oneS = 0 := c0q.2 ⟨by decide, by unfold oneS; rw [x0k]; rfl⟩
theorem k1r : refD 1 oneS = ⟨2, false, ⟨false, 1, 0⟩⟩ := by
 unfold refD
 rw [k1p]
 have hd : (fmt 1).decN 1065353216 = ⟨2, 8388608, -23⟩ := by kernel_rfl
 have hg : (fmt 1).neg 1065353216 = false := by decide +kernel
 unfold Fm.refN Fm.vr
 rw [hd, hg]
 have ht : tz 8388608 = 23 := m0u 1 23 rfl
 have hw : wid (fmt 1).g = 1 := by decide
 unfold Dc.c bare
 simp [ht, hw]
theorem k1s : e0x ⟨false, 1, 0⟩ ⟨false, 1, 0⟩ = ⟨false, 1, 1⟩ := by
 rw [x0u _ _ (e := 0) (by decide) (by decide)]
 have hz : zOf ⟨false, 1, 0⟩ 0 + zOf ⟨false, 1, 0⟩ 0 = 2 := by decide
 rw [hz]
 have ht : tz 2 = 1 := m0u 1 1 rfl
 unfold norm ofZ bare
 simp [ht]
theorem k1t : (fmt 1).addM ⟨2, false, ⟨false, 1, 0⟩⟩ ⟨2, false, ⟨false, 1, 0⟩⟩ 1 = (⟨2, false, ⟨false, 1, 1⟩⟩, 0) := by
 have hK : theK 1 1 1 1 24 = -22 := by
  have h := u0n (m := 1) (by decide) 1 (w := 1) (D := 24) (by decide) (by decide)
  rw [show blen 1 = 1 from v0u (k := 0) (by decide) (by decide)] at h
  exact i1l (by decide) (by decide) (by decide) (by decide) h
 have hR : a0n false 1 1 1 (fmt 1).g 1 = ⟨false, 8388608, -22, true, false, false⟩ := by
  unfold a0n
  rw [if_neg (by decide), show wid (fmt 1).g = 1 from rfl, show (fmt 1).g.digs.toNat = 24 from rfl, hK]
  kernel_rfl
 have ht : tz 8388608 = 23 := m0u 1 23 rfl
 unfold Fm.addM
 rw [if_neg (by decide), if_neg (by decide)]
 unfold Fm.sumM
 rw [k1s, if_pos (by decide)]
 unfold Fm.numM
 rw [if_neg (by decide), hR]
 unfold Fm.placedM Fm.flP bare
 have hw : wid (fmt 1).g = 1 := by decide
 simp [ht, hw]
theorem k1u : strR 1 ⟨2, false, ⟨false, 1, 1⟩⟩ = twoS := by
 have hb : blen 1 = 1 := v0u (k := 0) (by decide) (by decide)
 have h24 : blen 8388608 = 24 := v0u (k := 23) (by decide) (by decide)
 have hs : c0u ⟨false, 1, 1⟩ (fmt 1).g = -22 := by
  unfold c0u upK topD
  simp only [hb]
  decide
 have hf : (fmt 1).fr ⟨false, 1, 1⟩ = 8388608 := by
  unfold Fm.fr
  rw [hs]
  decide
 have hn : (fmt 1).numP ⟨false, 1, 1⟩ = ⟨false, 128, 0⟩ := by
  unfold Fm.numP
  rw [hf, hs, h24]
  kernel_rfl
 have he : (fmt 1).encP 2 false ⟨false, 1, 1⟩ = ⟨false, 128, 0⟩ := hn
 have h2 : (fmt 1).strP ⟨false, 128, 0⟩ = [64, 0, 0, 0] := by decide +kernel
 unfold strR twoS
 simp only
 rw [he, h2]
theorem g1r : errR 1 1 [oneS, oneS] = 0 := by
 unfold errR errL errL errL
 rw [k1q]
 decide
theorem o0x (w : World) (hT : TabW w) : Calls Tryz.prog 13 #[] w fun en w' => en = .returned (.bool true) ∧ Below w.heap.size w w' := by
 have HA : ∀ W, TabW W → Hid (Calls Tryz.prog 10 #[.int .i64 1, .string oneS, .string oneS, .int .i64 1] W fun en w' => en = .returned (.tuple #[.string twoS, .int .i64 0, .int .i64 0]) ∧ Below W.heap.size W w') := by
  intro W h
  have := g1p 1 1 oneS oneS W h
  unfold f0g at this
  rw [g1r, k1r, k1t] at this
  simp only [k1u, if_true] at this
  exact hi0 this
 refine calls_of_wp Tryz.func13 rfl ?_
 refine a0v (a' := ⟨(us 26 []).toArray, []⟩) (by kernel_rfl) ?_
 refine yq ?_
 refine ye ?_
 refine ywv 0 rfl 5 (.slice (some ⟨w.heap.size, 0, none⟩) 4 4) #[.int .u8 63, .int .u8 128, .int .u8 0, .int .u8 0] 5 (fun V1 hbV1 hzV1 b5 => ?_)
 refine yv 0 rfl 6 (.string oneS) ?_ (k0o (p := some ⟨w.heap.size, 0, none⟩) (n := 4) (c := 4) (xs := [63, 128, 0, 0]) p0o y0g uStr (c1z b5) rfl (by kernel_rfl))
 refine yzt 1 ?_
 refine ye ?_
 replace hT := (hT.past hbV1)
 refine yc 2 rfl 10 ((HA V1 hT).out) (fun Gx hGx => ?_)
 rintro eV2 V2 ⟨rfl, hbV2⟩
 have hzV2 := hbV2.size
 refine ⟨_, rfl, hGx _ _ ?_⟩
 clear hGx Gx
 refine yzt 7 ?_
 refine ye ?_
 refine ywv 8 rfl 22 (.slice (some ⟨V2.heap.size, 0, none⟩) 4 4) #[.int .u8 64, .int .u8 0, .int .u8 0, .int .u8 0] 5 (fun V3 hbV3 hzV3 b22 => ?_)
 refine yv 0 rfl 23 (.string twoS) ?_ (k0o (p := some ⟨V2.heap.size, 0, none⟩) (n := 4) (c := 4) (xs := [64, 0, 0, 0]) p0o y0g uStr (c1z b22) rfl (by kernel_rfl))
 refine yv 0 rfl 24 (.bool true) ?_ (f1x (s := twoS) (by kernel_rfl) (by kernel_rfl))
 refine yzt 2 ?_
 refine wp_ret ?_
 repeat (first | with_reducible refine a0u ?_ | with_reducible refine a0q ?_)
 refine yret (.bool true) (res1 Tryz.results13 rvt) ?_
 exact ⟨rfl, (a0a (a0a hbV1 hbV2) hbV3)⟩
theorem t0x (n : Int) (r : Vr) (fl : Nat) (p : Option Addr) (c base : Nat) (w : World) (hn : IsFm n) (hp : Rf w base p c (dig B16 r.x.m)) (R : ResF (fmt n) r) :
 Calls Tryz.prog 14 #[.int .i64 n, .string (strR n r), .int .i64 (fl : Int), .int .i64 0, .int .i64 0, .agg #[.int .i64 (r.cls : Int), .bool r.neg, .bool r.x.neg, .slice p (dig B16 r.x.m).length c, .int .i64 r.x.e], .int .i64 (fl : Int)] w fun en w' => en = .returned (.bool true) ∧ Below w.heap.size w w' := by
 have hg := (c0a hn).g
 have hl : (dig B16 r.x.m).length ≤ 2400 := by
  by_cases h2 : r.cls = 2
  · have := w0g hg (R.c2 h2).1
    have := k0e r.x.m
    omega
  · rw [R.x0 h2]; show (dig B16 0).length ≤ _; rw [a0c]; decide
 have HE := fun W h => hi0 (o0e n r p c base W hn h hl (fun h2 => ⟨(R.c2 h2).1, (R.c2 h2).2.2.1, (R.c2 h2).2.1, (R.c2 h2).2.2.2, w0g hg (R.c2 h2).1⟩))
 have hs : b0m ((fmt n).strP ((fmt n).encP r.cls r.neg r.x)) = strR n r := rfl
 rw [hs] at HE
 generalize strR n r = s at *
 have I := Inv.start w [rfF base p c (dig B16 r.x.m)] ⟨hp, True.intro⟩
 refine a0d [.v (.int .i64 n), .v (.string s), .v (.int .i64 (fl : Int)), .v (.int .i64 0), .v (.int .i64 0), .v (.agg #[.int .i64 (r.cls : Int), .bool r.neg, .bool r.x.neg, .slice p (dig B16 r.x.m).length c, .int .i64 r.x.e]), .v (.int .i64 (fl : Int))] I Tryz.func14 ?_
 refine zg I (fun Al W I => (HE W I.fa.1).out) fun Al V Iv _ hB _ kz => ?_
 rintro _ W ⟨rfl, hb⟩
 refine ⟨_, rfl, kz _ _ hb fun I => ?_⟩
 refine zbin I 27 _ (fun _ _ _ _ _ => b1u s) fun Al W I => ?_
 refine zb I 32 ((fl : Int) == (fl : Int)) (true) (beq_self_eq_true _) fun Al W I => ?_
 exact zret I fun Al W I => ⟨rfl, I.below⟩
theorem r0y (n er fl : Int) (v : Value) (hv : ∃ k g h q l c e, v = .agg #[.int .i64 k, .bool g, .bool h, .slice q l c, .int .i64 e]) (w : World) (he : er ≠ 0) :
 Calls Tryz.prog 14 #[.int .i64 n, .string (b0m []), .int .i64 0, .int .i64 er, .int .i64 er, v, .int .i64 fl] w fun en w' => en = .returned (.bool true) ∧ Below w.heap.size w w' := by
 obtain ⟨k, g, h, q, l, c, e, rfl⟩ := hv
 have I := Inv.start w [] True.intro
 refine a0d [.v (.int .i64 n), .v (.string (b0m [])), .v (.int .i64 0), .v (.int .i64 er), .v (.int .i64 er), .v (.agg #[.int .i64 k, .bool g, .bool h, .slice q l c, .int .i64 e]), .v (.int .i64 fl)] I Tryz.func14 ?_
 refine zb I 17 (er == 0) (false) (bFn he) fun Al W I => ?_
 refine zb I 23 (er == er) (true) (beq_self_eq_true _) fun Al W I => ?_
 refine zbin I 27 _ (fun _ _ _ _ _ => b1u (b0m [])) fun Al W I => ?_
 exact zret I fun Al W I => ⟨rfl, I.below⟩
theorem g1s {n way : Int} {L : List ByteArray} {R : Vr × Nat} {w : World} {fn : FuncId} {args : Array Value} (h : Calls Tryz.prog fn args w (f0g n way L R w)) (h0 : errR n way L ≠ 0) :
 Calls Tryz.prog fn args w fun en w' => en = .returned (.tuple #[.string (b0m []), .int .i64 0, .int .i64 (errR n way L)]) ∧ Below w.heap.size w w' := by
 unfold f0g at h
 simp only [if_neg h0] at h
 exact h
theorem g1t {n : Int} {xs : List Wp} {s t z : ByteArray} (h : xs.map (·.r) = [s, t, z].map (refD n)) : ∃ p1 c1 p2 c2 p3 c3, xs = [⟨refD n s, p1, c1⟩, ⟨refD n t, p2, c2⟩, ⟨refD n z, p3, c3⟩] := by
 cases xs with
 | nil => simp at h
 | cons x l =>
  cases l with
  | nil => simp at h
  | cons y l =>
   cases l with
   | nil => simp at h
   | cons q l =>
    cases l with
    | nil => simp only [List.map_cons, List.map_nil, List.cons.injEq, and_true] at h; rw [← h.1, ← h.2.1, ← h.2.2]; exact ⟨x.p, x.c, y.p, y.c, q.p, q.c, rfl⟩
    | cons _ _ => simp at h
def k1v (w : World) (r s q : Vr) (en : Ending) (w' : World) : Prop :=
 ∃ p1 c1 p2 c2 p3 c3 p c, en = .returned (.tuple #[.slice p 3 c, .int .i64 0]) ∧ OwnS w' w.heap.size 32 5 p c 3 ((⟨r, p1, c1⟩ : Wp).cells ++ (⟨s, p2, c2⟩ : Wp).cells ++ (⟨q, p3, c3⟩ : Wp).cells) ∧ Rf w' w.heap.size p1 c1 (dig B16 r.x.m) ∧ Rf w' w.heap.size p2 c2 (dig B16 s.x.m) ∧ Rf w' w.heap.size p3 c3 (dig B16 q.x.m) ∧ Below w.heap.size w w'
theorem t0y (n way : Int) (s t z : ByteArray) (b : Nat) (w : World) (hB0 : Bt w b 9 #[.string s, .string t, .string z]) (h0 : errR n way [s, t, z] = 0) :
 Calls Tryz.prog 11 #[.int .i64 n, .int .i64 way, .slice (some ⟨b, 0, none⟩) 3 3] w (k1v w (refD n s) (refD n t) (refD n z)) := by
 refine (d1n n way [s, t, z] b 3 w hB0 rfl (by simp) h0).mono fun en w' hh => ?_
 obtain ⟨xs, vs, p, c, h1, h2, h3, h4, h5, h6⟩ := hh
 obtain ⟨p1, c1, p2, c2, p3, c3, rfl⟩ := g1t h2
 subst h3
 exact ⟨p1, c1, p2, c2, p3, c3, p, c, h1, h4, h5 ⟨refD n s, p1, c1⟩ (by simp), h5 ⟨refD n t, p2, c2⟩ (by simp), h5 ⟨refD n z, p3, c3⟩ (by simp), h6⟩
theorem m0g (n way : Int) (s t z : ByteArray) (b : Nat) (w : World) (hB0 : Bt w b 9 #[.string s, .string t, .string z]) (h0 : errR n way [s, t, z] ≠ 0) :
 Calls Tryz.prog 11 #[.int .i64 n, .int .i64 way, .slice (some ⟨b, 0, none⟩) 3 3] w fun en w' => en = .returned (.tuple #[.slice none 0 0, .int .i64 (errR n way [s, t, z])]) ∧ Below w.heap.size w w' :=
 z0b n way [s, t, z] b 3 w hB0 rfl (by simp) h0
theorem d1o {n way : Int} {L : List ByteArray} {R : Vr × Nat} {w : World} {fn : FuncId} {args : Array Value} (h : Calls Tryz.prog fn args w (f0g n way L R w)) (h0 : errR n way L = 0) :
 Calls Tryz.prog fn args w fun en w' => en = .returned (.tuple #[.string (strR n R.1), .int .i64 ((R.2 : Nat) : Int), .int .i64 0]) ∧ Below w.heap.size w w' := by
 unfold f0g at h
 simp only [h0, if_true] at h
 exact h
theorem o0y (n : Int) (s t z : ByteArray) (way : Int) (w : World) (hT : TabW w) : Calls Tryz.prog 8 #[.int .i64 n, .string s, .string t, .string z, .int .i64 way] w fun en w' => en = .returned (.bool true) ∧ Below w.heap.size w w' := by
 have HB0 := fun W h => hi0 (o0x W h)
 by_cases h0 : errR n way [s, t, z] = 0
 · obtain ⟨hn, hL, hw⟩ := k0z h0
   have HR := fun W h => hi0 (d1o (p0y n way s t z W h) h0)
   have HO := fun W b h => hi0 (t0y n way s t z b W h h0)
   have A1 := (f0a (s := s) hn).ok
   have B1 := (f0a (s := t) hn).ok
   have C1 := (f0a (s := z) hn).ok
   have HF := fun W p1 c1 p2 c2 p3 c3 b1 b2 b3 h1 h2 h3 => hi0 (o0w n way ⟨refD n s, p1, c1⟩ ⟨refD n t, p2, c2⟩ ⟨refD n z, p3, c3⟩ b1 b2 b3 W hn hw h1 h2 h3 A1 B1 C1)
   have RS : ResF (fmt n) ((fmt n).fusedM (refD n s) (refD n t) (refD n z) way).1 := x0f (c0a hn) (f0a hn).inf (f0a hn).inf (f0a hn) way
   generalize refD n s = r1 at *
   generalize refD n t = r2 at *
   generalize refD n z = r3 at *
   obtain ⟨rS, flS, hS⟩ : ∃ rS flS, (fmt n).fusedM r1 r2 r3 way = (rS, flS) := ⟨_, _, rfl⟩
   simp only [hS] at HF HR RS
   unfold GVf at HF
   simp only at HF
   have HP := fun W p c b h => hi0 (t0x n rS flS p c b W hn h RS)
   generalize strR n rS = str at *
   clear hS RS A1 B1 C1 h0 hL
   have I := Inv.start w [tabF] ⟨hT, True.intro⟩
   refine a0d [.v (.int .i64 n), .v (.string s), .v (.string t), .v (.string z), .v (.int .i64 way)] I Tryz.func8 ?_
   refine zg I (fun Al W I => (HR W I.fa.1).out) fun Al V Iv _ hB _ kz => ?_
   rintro _ W ⟨rfl, hb⟩
   refine ⟨_, rfl, kz _ _ hb fun I => ?_⟩
   refine zg I (fun Al W I => (HO W _ (I.box 0 9 _)).out) fun Al V Iv _ hB _ kz => ?_
   rintro _ W ⟨p1, c1, p2, c2, p3, c3, p, c, rfl, oS, o1, o2, o3, hb⟩
   refine ⟨_, rfl, kz _ _ hb fun I => ?_⟩
   have I := I.owns oS
   have I := I.rf o1 (hB _) Iv
   have I := I.rf o2 (hB _) Iv
   have I := I.rf o3 (hB _) Iv
   refine zd [1] I fun Al W I => ?_
   refine zk [0, 1] I fun I => ?_
   refine zkx 2 I (.pointer (some (at_ p (0 * 5)))) (fun _ => (h0p (m := 0) (n := 3) (c := c) tvV I.fa.2.2.2.1.solid (by omega))) fun I => ?_
   refine zk [4] I fun I => ?_
   refine zkx 5 I (.pointer (some (at_ p (1 * 5)))) (fun _ => (h0p (m := 1) (n := 3) (c := c) tvV I.fa.2.2.2.1.solid (by omega))) fun I => ?_
   refine zk [7] I fun I => ?_
   refine zkx 8 I (.pointer (some (at_ p (2 * 5)))) (fun _ => (h0p (m := 2) (n := 3) (c := c) tvV I.fa.2.2.2.1.solid (by omega))) fun I => ?_
   refine zk [10] I fun I => ?_
   refine i0n I [(3, .v (.agg #[.int .i64 (r1.cls : Int), .bool r1.neg, .bool r1.x.neg, .slice p1 (dig B16 r1.x.m).length c1, .int .i64 r1.x.e])), (6, .v (.agg #[.int .i64 (r2.cls : Int), .bool r2.neg, .bool r2.x.neg, .slice p2 (dig B16 r2.x.m).length c2, .int .i64 r2.x.e])), (9, .v (.agg #[.int .i64 (r3.cls : Int), .bool r3.neg, .bool r3.x.neg, .slice p3 (dig B16 r3.x.m).length c3, .int .i64 r3.x.e]))] (fun Al W I => ?_) (fun KL15 => ?_)
   · refine zo 11 I fun I => ?_
     refine zg I (fun Al W I => (HF W p1 c1 p2 c2 p3 c3 _ _ _ I.fa.2.2.1 I.fa.2.1 I.fa.1).out) fun Al V Iv _ hB _ kz => ?_
     rintro _ W ⟨p52, c52, rfl, o52, hb⟩
     refine ⟨_, rfl, kz _ _ hb fun I => ?_⟩
     have I := I.rf o52 (hB _) Iv
     refine zk [12, 13, 14] I fun I => ?_
     refine zo 15 I fun I => ?_
     refine zn I fun Al W I => ?_
     refine zk [16] I fun I => ?_
     refine zg I (fun Al W I => (HB0 W I.fa.2.2.2.2.2.1).out) fun Al V Iv _ hB _ kz => ?_
     rintro _ W ⟨rfl, hb⟩
     refine ⟨_, rfl, kz _ _ hb fun I => ?_⟩
     refine zg I (fun Al W I => (HP W p52 c52 _ I.fa.1).out) fun Al V Iv _ hB _ kz => ?_
     rintro _ W ⟨rfl, hb⟩
     refine ⟨_, rfl, kz _ _ hb fun I => ?_⟩
     exact zret I fun Al W I => ⟨rfl, I.below⟩
   refine i0n I [(3, .v (.agg #[.int .i64 (r1.cls : Int), .bool r1.neg, .bool r1.x.neg, .slice p1 (dig B16 r1.x.m).length c1, .int .i64 r1.x.e])), (6, .v (.agg #[.int .i64 (r2.cls : Int), .bool r2.neg, .bool r2.x.neg, .slice p2 (dig B16 r2.x.m).length c2, .int .i64 r2.x.e]))] (fun Al W I => ?_) (fun KL12 => ?_)
   · refine zo 9 I fun I => ?_
     refine zx I 50 (fun _ => .agg #[.int .i64 (r3.cls : Int), .bool r3.neg, .bool r3.x.neg, .slice p3 (dig B16 r3.x.m).length c3, .int .i64 r3.x.e]) (fun Al W I => (c0k (m := 2 * 5) I.fa.2.2.2.1 agV (⟨r3, p3, c3⟩ : Wp).cells rfl rfl)) fun Al W I => ?_
     exact zuse KL15 I
   refine i0n I [(3, .v (.agg #[.int .i64 (r1.cls : Int), .bool r1.neg, .bool r1.x.neg, .slice p1 (dig B16 r1.x.m).length c1, .int .i64 r1.x.e])), (9, .v (.agg #[.int .i64 (r3.cls : Int), .bool r3.neg, .bool r3.x.neg, .slice p3 (dig B16 r3.x.m).length c3, .int .i64 r3.x.e]))] (fun Al W I => ?_) (fun KL13 => ?_)
   · refine zo 6 I fun I => ?_
     refine zx I 47 (fun _ => .agg #[.int .i64 (r2.cls : Int), .bool r2.neg, .bool r2.x.neg, .slice p2 (dig B16 r2.x.m).length c2, .int .i64 r2.x.e]) (fun Al W I => (c0k (m := 1 * 5) I.fa.2.2.2.1 agV (⟨r2, p2, c2⟩ : Wp).cells rfl rfl)) fun Al W I => ?_
     exact zuse KL15 I
   refine i0n I [(6, .v (.agg #[.int .i64 (r2.cls : Int), .bool r2.neg, .bool r2.x.neg, .slice p2 (dig B16 r2.x.m).length c2, .int .i64 r2.x.e])), (9, .v (.agg #[.int .i64 (r3.cls : Int), .bool r3.neg, .bool r3.x.neg, .slice p3 (dig B16 r3.x.m).length c3, .int .i64 r3.x.e]))] (fun Al W I => ?_) (fun KL14 => ?_)
   · refine zo 3 I fun I => ?_
     refine zx I 44 (fun _ => .agg #[.int .i64 (r1.cls : Int), .bool r1.neg, .bool r1.x.neg, .slice p1 (dig B16 r1.x.m).length c1, .int .i64 r1.x.e]) (fun Al W I => (c0k (m := 0 * 5) I.fa.2.2.2.1 agV (⟨r1, p1, c1⟩ : Wp).cells rfl rfl)) fun Al W I => ?_
     exact zuse KL15 I
   refine i0n I [(3, .v (.agg #[.int .i64 (r1.cls : Int), .bool r1.neg, .bool r1.x.neg, .slice p1 (dig B16 r1.x.m).length c1, .int .i64 r1.x.e]))] (fun Al W I => ?_) (fun KL9 => ?_)
   · refine zo2 6 9 I (fun I => ?_) (fun I => ?_)
     · refine zx I 47 (fun _ => .agg #[.int .i64 (r2.cls : Int), .bool r2.neg, .bool r2.x.neg, .slice p2 (dig B16 r2.x.m).length c2, .int .i64 r2.x.e]) (fun Al W I => (c0k (m := 1 * 5) I.fa.2.2.2.1 agV (⟨r2, p2, c2⟩ : Wp).cells rfl rfl)) fun Al W I => ?_
       exact zuse KL12 I
     refine zx I 50 (fun _ => .agg #[.int .i64 (r3.cls : Int), .bool r3.neg, .bool r3.x.neg, .slice p3 (dig B16 r3.x.m).length c3, .int .i64 r3.x.e]) (fun Al W I => (c0k (m := 2 * 5) I.fa.2.2.2.1 agV (⟨r3, p3, c3⟩ : Wp).cells rfl rfl)) fun Al W I => ?_
     exact zuse KL13 I
   refine i0n I [(6, .v (.agg #[.int .i64 (r2.cls : Int), .bool r2.neg, .bool r2.x.neg, .slice p2 (dig B16 r2.x.m).length c2, .int .i64 r2.x.e]))] (fun Al W I => ?_) (fun KL10 => ?_)
   · refine zo2 3 9 I (fun I => ?_) (fun I => ?_)
     · refine zx I 44 (fun _ => .agg #[.int .i64 (r1.cls : Int), .bool r1.neg, .bool r1.x.neg, .slice p1 (dig B16 r1.x.m).length c1, .int .i64 r1.x.e]) (fun Al W I => (c0k (m := 0 * 5) I.fa.2.2.2.1 agV (⟨r1, p1, c1⟩ : Wp).cells rfl rfl)) fun Al W I => ?_
       exact zuse KL12 I
     refine zx I 50 (fun _ => .agg #[.int .i64 (r3.cls : Int), .bool r3.neg, .bool r3.x.neg, .slice p3 (dig B16 r3.x.m).length c3, .int .i64 r3.x.e]) (fun Al W I => (c0k (m := 2 * 5) I.fa.2.2.2.1 agV (⟨r3, p3, c3⟩ : Wp).cells rfl rfl)) fun Al W I => ?_
     exact zuse KL14 I
   refine i0n I [(9, .v (.agg #[.int .i64 (r3.cls : Int), .bool r3.neg, .bool r3.x.neg, .slice p3 (dig B16 r3.x.m).length c3, .int .i64 r3.x.e]))] (fun Al W I => ?_) (fun KL11 => ?_)
   · refine zo2 3 6 I (fun I => ?_) (fun I => ?_)
     · refine zx I 44 (fun _ => .agg #[.int .i64 (r1.cls : Int), .bool r1.neg, .bool r1.x.neg, .slice p1 (dig B16 r1.x.m).length c1, .int .i64 r1.x.e]) (fun Al W I => (c0k (m := 0 * 5) I.fa.2.2.2.1 agV (⟨r1, p1, c1⟩ : Wp).cells rfl rfl)) fun Al W I => ?_
       exact zuse KL13 I
     refine zx I 47 (fun _ => .agg #[.int .i64 (r2.cls : Int), .bool r2.neg, .bool r2.x.neg, .slice p2 (dig B16 r2.x.m).length c2, .int .i64 r2.x.e]) (fun Al W I => (c0k (m := 1 * 5) I.fa.2.2.2.1 agV (⟨r2, p2, c2⟩ : Wp).cells rfl rfl)) fun Al W I => ?_
     exact zuse KL14 I
   refine zo3 3 6 9 I (fun I => ?_) (fun I => ?_) (fun I => ?_)
   · refine zx I 44 (fun _ => .agg #[.int .i64 (r1.cls : Int), .bool r1.neg, .bool r1.x.neg, .slice p1 (dig B16 r1.x.m).length c1, .int .i64 r1.x.e]) (fun Al W I => (c0k (m := 0 * 5) I.fa.2.2.2.1 agV (⟨r1, p1, c1⟩ : Wp).cells rfl rfl)) fun Al W I => ?_
     exact zuse KL9 I
   · refine zx I 47 (fun _ => .agg #[.int .i64 (r2.cls : Int), .bool r2.neg, .bool r2.x.neg, .slice p2 (dig B16 r2.x.m).length c2, .int .i64 r2.x.e]) (fun Al W I => (c0k (m := 1 * 5) I.fa.2.2.2.1 agV (⟨r2, p2, c2⟩ : Wp).cells rfl rfl)) fun Al W I => ?_
     exact zuse KL10 I
   refine zx I 50 (fun _ => .agg #[.int .i64 (r3.cls : Int), .bool r3.neg, .bool r3.x.neg, .slice p3 (dig B16 r3.x.m).length c3, .int .i64 r3.x.e]) (fun Al W I => (c0k (m := 2 * 5) I.fa.2.2.2.1 agV (⟨r3, p3, c3⟩ : Wp).cells rfl rfl)) fun Al W I => ?_
   exact zuse KL11 I
 · have HR := fun W h => hi0 (g1s (p0y n way s t z W h) h0)
   have HO := fun W b h => hi0 (m0g n way s t z b W h h0)
   generalize errR n way [s, t, z] = er at *
   have HP := fun fl v hv W => hi0 (r0y n er fl v hv W h0)
   have I := Inv.start w [tabF] ⟨hT, True.intro⟩
   refine a0d [.v (.int .i64 n), .v (.string s), .v (.string t), .v (.string z), .v (.int .i64 way)] I Tryz.func8 ?_
   refine zg I (fun Al W I => (HR W I.fa.1).out) fun Al V Iv _ hB _ kz => ?_
   rintro _ W ⟨rfl, hb⟩
   refine ⟨_, rfl, kz _ _ hb fun I => ?_⟩
   refine zg I (fun Al W I => (HO W _ (I.box 0 9 _)).out) fun Al V Iv _ hB _ kz => ?_
   rintro _ W ⟨rfl, hb⟩
   refine ⟨_, rfl, kz _ _ hb fun I => ?_⟩
   refine zb I 39 (er == 0) (false) (bFn h0) fun Al W I => ?_
   refine zg I (fun Al W I => (HB0 W I.fa.1).out) fun Al V Iv _ hB _ kz => ?_
   rintro _ W ⟨rfl, hb⟩
   refine ⟨_, rfl, kz _ _ hb fun I => ?_⟩
   refine zg I (fun Al W I => (HP 0 _ ⟨0, false, false, none, 0, 0, 0, rfl⟩ W).out) fun Al V Iv _ hB _ kz => ?_
   rintro _ W ⟨rfl, hb⟩
   refine ⟨_, rfl, kz _ _ hb fun I => ?_⟩
   exact zret I fun Al W I => ⟨rfl, I.below⟩
end Go.Proofs.YtlcdfnaaenibgaaGreatDoor
