/- ball: Over. -/
import Derived.Test.YtkooikgplpamlaaDoorZH
namespace Go.Slip

end Go.Slip
namespace Go.Proofs.YtkooikgplpamlaaDoor
open Go.RowKit Go.Slip

/-- Quotients of one by some; of some by some. -/
def ovRow (b : Nat) (up : Bool) (x : Rw) (l : List Rw) : List Dv := l.map fun y => pOver x.v y.v b up
def ovAll (b : Nat) (up : Bool) (l m : List Rw) : List Dv := l.flatMap fun x => ovRow b up x m

theorem ovRow_take {b : Nat} {up : Bool} {x : Rw} {m : List Rw} {j : Nat} (h : j < m.length) : ovRow b up x (m.take (j + 1)) = ovRow b up x (m.take j) ++ [pOver x.v m[j].v b up] := by
  unfold ovRow
  rw [List.take_succ_eq_append_getElem h, List.map_append]
  rfl

theorem ovAll_take {b : Nat} {up : Bool} {l m : List Rw} {i : Nat} (h : i < l.length) : ovAll b up (l.take (i + 1)) m = ovAll b up (l.take i) m ++ ovRow b up l[i] m := by
  unfold ovAll
  rw [List.take_succ_eq_append_getElem h, List.flatMap_append]
  simp

theorem ovAll_len (b : Nat) (up : Bool) (l m : List Rw) : (ovAll b up l m).length = l.length * m.length := by
  induction l with
  | nil => simp [ovAll]
  | cons x l ih =>
    have : ovAll b up (x :: l) m = ovRow b up x m ++ ovAll b up l m := rfl
    rw [this, List.length_append, ih, List.length_cons, Nat.add_mul, Nat.one_mul]
    simp only [ovRow, List.length_map]
    omega

theorem ov_len (b : Nat) (up : Bool) (x : Rw) (l m : List Rw) (i j : Nat) (hl : l.length = 2) (hm : m.length = 2) : (ovAll b up (l.take i) m ++ ovRow b up x (m.take j)).length ≤ 1000 := by
  rw [List.length_append, ovAll_len, hm]
  simp only [ovRow, List.length_map, List.length_take]
  omega

/-- Small enough to be divided. -/
structure Sm (x : Rw) : Prop where
  len : (dig B32 x.m).length ≤ 1300
  lo : -100000 ≤ x.e
  hi : x.e ≤ 100000

theorem over_inW {w : World} {base : Nat} {x y : Rw} {b : Nat} {up : Bool} {p : Option Addr} {c : Nat} (hx : Sm x) (hy : Sm y) (hb : b ≤ 5000) (ho : Own w base .u32 77 p c (dig B32 (pOver x.v y.v b up).m)) :
    InW w base ⟨(pOver x.v y.v b up).neg, p, c, (pOver x.v y.v b up).m, (pOver x.v y.v b up).e⟩ := by
  obtain ⟨h1, h2, h3⟩ := pOver_bd (a := x.v) (c := y.v) b up hb hx.len hy.len hx.lo hx.hi hy.lo hy.hi
  exact ⟨ho, by simp only; omega, by simp only; omega, by simp only; omega⟩

/-- A quotient, ready to be laid in a row. -/
theorem quotW_any (x y : Rw) (b base : Nat) (up : Bool) (w : World) (hx : InW w base x) (hy : InW w base y) (hy0 : 0 < y.m) (hb : b ≤ 5000) (sx : Sm x) (sy : Sm y) (hT : TabW w) (hbase : base ≤ w.heap.size) :
    Calls Tryd.prog 93 #[.agg #[.bool x.g, .slice x.p (dig B32 x.m).length x.c, .int .i64 x.e], .agg #[.bool y.g, .slice y.p (dig B32 y.m).length y.c, .int .i64 y.e], .int .i64 b, .bool up] w fun en w' => ∃ r : Rw, r.v = pOver x.v y.v b up ∧ en = .returned (.agg #[.bool r.g, .slice r.p (dig B32 r.m).length r.c, .int .i64 r.e]) ∧ InW w' base r ∧ Below w.heap.size w w' :=
  (quot_any x y b base base up w hx hy hy0 hb (by have := sx.len; omega) (by have := sy.len; omega) ⟨by have := sx.lo; omega, by have := sx.hi; omega⟩ ⟨by have := sy.lo; omega, by have := sy.hi; omega⟩ hT hbase).mono
    fun en w' h => by
      obtain ⟨p, c, he, ho, hb2⟩ := h
      exact ⟨⟨(pOver x.v y.v b up).neg, p, c, (pOver x.v y.v b up).m, (pOver x.v y.v b up).e⟩, rfl, he, over_inW sx sy hb ho, hb2⟩

theorem tb_new (w : World) (vs : Array Value) (t : TypeId) : Tb (w.alloc (.cells vs t)) w.heap.size t := ⟨vs, (0, 0), by show (w.heap.push _)[_]? = _; simp⟩

theorem wp_layT4 {P : Program} {c : Code} {Q : Exit → Act → World → Prop} {a : Act} {w : World} {v1 v2 v3 v4 : Array Value} {t1 t2 t3 t4 : TypeId} (h : ∀ W, Below w.heap.size w W → w.heap.size + 1 + 1 + 1 < W.heap.size → Bx W w.heap.size v1 → Bx W (w.heap.size + 1) v2 → Bx W (w.heap.size + 1 + 1) v3 → Bx W (w.heap.size + 1 + 1 + 1) v4 → Tb W (w.heap.size + 1 + 1) t3 → c.wp P Q a W) :
    c.wp P Q a ((((w.alloc (.cells v1 t1)).alloc (.cells v2 t2)).alloc (.cells v3 t3)).alloc (.cells v4 t4)) := by
  obtain ⟨W, rfl, k1, k2, k3, k4, k5, k6⟩ := lay4 w v1 t1 v2 t2 v3 t3 v4 t4
  refine h _ k1 k2 k3 k4 k5 k6 ?_
  have h1 := tb_new ((w.alloc (.cells v1 t1)).alloc (.cells v2 t2)) v3 t3
  rw [show ((w.alloc (.cells v1 t1)).alloc (.cells v2 t2)).heap.size = w.heap.size + 1 + 1 by simp] at h1
  exact h1.past (below_lay1 _ _)

theorem Tb.grown {w w' : World} {b : Nat} {t : TypeId} {v : Value} (h : Tb w b t) (hg : w.grownBy w' v.ownBlock) (hne : Off v b) : Tb w' b t := by
  have hl := h.lt
  obtain ⟨vs, fz, h⟩ := h
  exact ⟨vs, fz, (hg.block _ hl fun he => hne he.symm).trans h⟩

theorem two_el {P : Nat → Rw → Prop} {x y : Rw} {L : List Rw} (hL : L = [x, y]) (h0 : P 0 x) (h1 : P 1 y) : ∀ i (h : i < L.length), P i (L[i]) := by
  subst hL
  intro i h
  match i, h with
  | 0, _ => exact h0
  | 1, _ => exact h1

theorem ap_symm {a b : Option Nat} (h : a = none ∨ a ≠ b) : b = none ∨ b ≠ a := by
  by_cases hb : b = none
  · exact .inl hb
  · right
    rintro rfl
    rcases h with h | h
    · exact hb h
    · exact h rfl
theorem ap_next {w : World} {v v' u : Value} (h : v.ownBlock = none ∨ v.ownBlock ≠ u.ownBlock) (ha : v'.ownBlock = v.ownBlock ∨ v'.ownBlock = some w.heap.size) (hu : ∀ k, u.ownBlock = some k → k < w.heap.size) : v'.ownBlock = none ∨ v'.ownBlock ≠ u.ownBlock := by
  rcases ha with ha | ha
  · rw [ha]; exact h
  · right
    rw [ha]
    intro he
    have := hu _ he.symm
    omega

theorem El.new (w : World) (r : Rw) (t : TypeId) : El (w.alloc (.cells #[.bool r.g, .slice r.p (dig B32 r.m).length r.c, .int .i64 r.e] t)) w.heap.size 0 r :=
  have h := bx_new w #[.bool r.g, .slice r.p (dig B32 r.m).length r.c, .int .i64 r.e] t
  ⟨h.c 0 rfl, h.c 1 rfl, h.c 2 rfl, h.lt⟩

theorem underB : ∃ f0 f1 : Field, Tryd.prog.underlying 86 = some (.struct #[f0, f1]) ∧ f0.type = 80 ∧ f0.offset = 0 ∧ f1.type = 80 ∧ f1.offset = 3 := by
  have h := Tryd.underlying86
  exact ⟨_, _, h, rfl, rfl, rfl, rfl⟩

theorem run_fieldB0 (v0 v1 v2 v3 v4 v5 : Value) (W : World) : (Instr.field 86 (.agg #[v0, v1, v2, v3, v4, v5]) 0).run Tryd.prog W = .ok (.agg #[v0, v1, v2]) W := by
  obtain ⟨f0, f1, h, h0, h1, h2, h3⟩ := underB
  obtain ⟨i, z, hi, hz, k1, k2, k3⟩ := tyRaw
  obtain ⟨d, hd⟩ : ∃ d, Tryd.prog.underlying 80 = some (.struct d) := ⟨_, Tryd.underlying80⟩
  simp [Instr.field, run_underlying h, h0, h1, part, isAgg, asAgg, sizeOf, typeInfo, hi, k1, run_underlying hd]
theorem run_fieldB1 (v0 v1 v2 v3 v4 v5 : Value) (W : World) : (Instr.field 86 (.agg #[v0, v1, v2, v3, v4, v5]) 1).run Tryd.prog W = .ok (.agg #[v3, v4, v5]) W := by
  obtain ⟨f0, f1, h, h0, h1, h2, h3⟩ := underB
  obtain ⟨i, z, hi, hz, k1, k2, k3⟩ := tyRaw
  obtain ⟨d, hd⟩ : ∃ d, Tryd.prog.underlying 80 = some (.struct d) := ⟨_, Tryd.underlying80⟩
  simp [Instr.field, run_underlying h, h2, h3, part, isAgg, asAgg, sizeOf, typeInfo, hi, k1, run_underlying hd]

/-- around, of a row. -/
theorem around_ov (b base0 base : Nat) (v : Value) (d : Dv) (D : List Dv) (w : World) (O : Ov w base0 base v (d :: D)) (h1 : 1 ≤ D.length) (h2 : D.length ≤ 900) (hb : b ≤ 1000000) (hT : TabW w) (hbase : base ≤ w.heap.size) :
    Calls Tryd.prog 94 #[.int .i64 b, v] w (GivesB w base (pCut (lowD d D) b false) (pCut (highD d D) b true)) := by
  obtain ⟨L, k1, k2, k3⟩ := O
  match L, k1, k2, k3 with
  | a :: L, k1, k2, k3 =>
    simp only [List.map_cons, List.cons.injEq] at k2
    obtain ⟨k4, k5⟩ := k2
    have hl : L.length = D.length := by rw [← k5, List.length_map]
    obtain ⟨g, c, hv, hc, hel⟩ := k1.el (by simp)
    rw [hv]
    have h := around_any b g c base (a :: L) w _ rfl (by simp; omega) hc (by simp; omega) (fun j hj => (hel j hj).e3) (fun j hj => k3 _ (List.getElem_mem hj)) (hel 0 (by simp)).lt hb hT hbase
    simp only [List.getElem_cons_zero, List.tail_cons] at h
    rw [lowR_v, highR_v, k4, k5] at h
    exact h

set_option maxHeartbeats 8000000 in
set_option maxRecDepth 100000 in
theorem over_any (al ah bl bh : Rw) (b base : Nat) (w : World) (ha : InW w base al) (hah : InW w base ah) (hbl : InW w base bl) (hbh : InW w base bh) (sa : Sm al) (sah : Sm ah) (sb : Sm bl) (sbh : Sm bh) (b0 : 0 < bl.m) (b1 : 0 < bh.m) (hb : b ≤ 5000) (hT : TabW w) (hbase : base ≤ w.heap.size) :
    Calls Tryd.prog 55 #[.agg #[.bool al.g, .slice al.p (dig B32 al.m).length al.c, .int .i64 al.e, .bool ah.g, .slice ah.p (dig B32 ah.m).length ah.c, .int .i64 ah.e], .agg #[.bool bl.g, .slice bl.p (dig B32 bl.m).length bl.c, .int .i64 bl.e, .bool bh.g, .slice bh.p (dig B32 bh.m).length bh.c, .int .i64 bh.e], .int .i64 b] w
      (GivesB w base (pCut (lowD (pOver al.v bl.v b false) [pOver al.v bh.v b false, pOver ah.v bl.v b false, pOver ah.v bh.v b false]) b false) (pCut (highD (pOver al.v bl.v b true) [pOver al.v bh.v b true, pOver ah.v bl.v b true, pOver ah.v bh.v b true]) b true)) := by
  obtain ⟨LX, hLX⟩ : ∃ LX, LX = [al, ah] := ⟨_, rfl⟩
  obtain ⟨LY, hLY⟩ : ∃ LY, LY = [bl, bh] := ⟨_, rfl⟩
  have HX := Lib.hid (two_el (P := fun _ x => InW w base x ∧ Sm x) hLX ⟨ha, sa⟩ ⟨hah, sah⟩)
  have HY := Lib.hid (two_el (P := fun _ x => InW w base x ∧ Sm x ∧ 0 < x.m) hLY ⟨hbl, sb, b0⟩ ⟨hbh, sbh, b1⟩)
  have HDF := Lib.hid (show ovAll b false LX LY = [pOver al.v bl.v b false, pOver al.v bh.v b false, pOver ah.v bl.v b false, pOver ah.v bh.v b false] by rw [hLX, hLY]; rfl)
  have HDT := Lib.hid (show ovAll b true LX LY = [pOver al.v bl.v b true, pOver al.v bh.v b true, pOver ah.v bl.v b true, pOver ah.v bh.v b true] by rw [hLX, hLY]; rfl)
  have HEX : ∀ (W : World) (k : Nat), Hid (Bx W k #[.bool al.g, .slice al.p (dig B32 al.m).length al.c, .int .i64 al.e, .bool ah.g, .slice ah.p (dig B32 ah.m).length ah.c, .int .i64 ah.e] → ∀ i (h : i < LX.length), El W k (i * 3) (LX[i])) := fun W k h => two_el hLX ⟨h.c 0 rfl, h.c 1 rfl, h.c 2 rfl, h.lt⟩ ⟨h.c 3 rfl, h.c 4 rfl, h.c 5 rfl, h.lt⟩
  have HEY : ∀ (W : World) (k : Nat), Hid (Bx W k #[.bool bl.g, .slice bl.p (dig B32 bl.m).length bl.c, .int .i64 bl.e, .bool bh.g, .slice bh.p (dig B32 bh.m).length bh.c, .int .i64 bh.e] → ∀ i (h : i < LY.length), El W k (i * 3) (LY[i])) := fun W k h => two_el hLY ⟨h.c 0 rfl, h.c 1 rfl, h.c 2 rfl, h.lt⟩ ⟨h.c 3 rfl, h.c 4 rfl, h.c 5 rfl, h.lt⟩
  have HLX : Hid (LX.length = 2) := by rw [hLX]; exact rfl
  have HLY : Hid (LY.length = 2) := by rw [hLY]; exact rfl
  clear hLX hLY ha hah hbl hbh sa sah sb sbh b0 b1
  go_enter Tryd.func55, Tryd.ntmps55
  go_wp2_with fail
  refine wp_layT4 (fun W1 hs1 hz1 A B R XS RT => ?_)
  go_loopg [7, 8, 19] 2 (fun gk v7 v8 iv wr => ∃ (i : Nat), iv = .int .i64 i ∧ gk + i = 2 ∧ Below w.heap.size w wr ∧ Bx wr w.heap.size #[.bool al.g, .slice al.p (dig B32 al.m).length al.c, .int .i64 al.e, .bool ah.g, .slice ah.p (dig B32 ah.m).length ah.c, .int .i64 ah.e] ∧ Bx wr (w.heap.size + 1) #[.bool bl.g, .slice bl.p (dig B32 bl.m).length bl.c, .int .i64 bl.e, .bool bh.g, .slice bh.p (dig B32 bh.m).length bh.c, .int .i64 bh.e] ∧
    Bx wr (w.heap.size + 1 + 1) #[.bool false, .slice none 0 0, .int .i64 0, .bool false, .slice none 0 0, .int .i64 0] ∧ Bx wr (w.heap.size + 1 + 1 + 1) #[.bool al.g, .slice al.p (dig B32 al.m).length al.c, .int .i64 al.e, .bool ah.g, .slice ah.p (dig B32 ah.m).length ah.c, .int .i64 ah.e] ∧ Tb wr (w.heap.size + 1 + 1) 86 ∧
    Ov wr W1.heap.size base v7 (ovAll b false (LX.take i) LY) ∧ Ov wr W1.heap.size base v8 (ovAll b true (LX.take i) LY) ∧ (v7.ownBlock = none ∨ v7.ownBlock ≠ v8.ownBlock) ∧ W1.heap.size ≤ wr.heap.size)
  case atStart => exact ⟨0, rfl, rfl, hs1, A, B, R, XS, RT, Ov.nil _ _ _, Ov.nil _ _ _, .inl rfl, Nat.le_refl _⟩
  case round =>
    obtain ⟨i, rfl, hgk, hb2, A, B, R, XS, RT, O7, O8, hne, hzr⟩ := hrel
    obtain ⟨wo, hwo⟩ : ∃ wo, wo = wr := ⟨_, rfl⟩
    subst hwo
    obtain ⟨go, hgo⟩ : ∃ go, go = gk := ⟨_, rfl⟩
    subst hgo
    by_cases hlt : i < 2
    · have hi : i < LX.length := by rw [HLX.out]; exact hlt
      have HEXi := (HEX wo _).out XS i hi
      obtain ⟨hXw, hXs⟩ := HX.out i hi
      have HOA := Lib.hid (ovAll_take (b := b) (up := false) (m := LY) hi)
      have HOB := Lib.hid (ovAll_take (b := b) (up := true) (m := LY) hi)
      obtain ⟨x, hx⟩ : ∃ x, x = LX[i] := ⟨_, rfl⟩
      rw [← hx] at HEXi hXw hXs HOA HOB
      clear hx
      obtain ⟨k0, k1, k2⟩ := HEXi.e3
      have ti : decide ((i : Int) < 2) = true := decide_eq_true (by omega)
      go_upto_region 5 with (fail)
      clear k0 k1 k2
      have hAl := A.lt
      have hBl := B.lt
      have hRl := R.lt
      have hXSl := XS.lt
      have f7o := O7.off (k := wo.heap.size) (.inr (Nat.le_refl _))
      have f8o := O8.off (k := wo.heap.size) (.inr (Nat.le_refl _))
      refine wp_lay1 (fun W3 hb3 hz3 X => ?_)
      replace A := A.past hb3
      replace B := B.past hb3
      replace R := R.past hb3
      replace XS := XS.past hb3
      replace RT := RT.past hb3
      replace O7 := O7.past hb3
      replace O8 := O8.past hb3
      have hs3 := hb2.trans (hb3.mono hb2.size)
      have hXl := X.lt
      have f7y := O7.off (k := W3.heap.size) (.inr (Nat.le_refl _))
      have f8y := O8.off (k := W3.heap.size) (.inr (Nat.le_refl _))
      obtain ⟨B_0, B_1, B_2, B_3, B_4, B_5⟩ := B.e6
      go_upto_region 6 with (fail)
      clear B_0 B_1 B_2 B_3 B_4 B_5
      refine wp_lay1 (fun W5 hb5 hz5 YS => ?_)
      replace A := A.past hb5
      replace B := B.past hb5
      replace R := R.past hb5
      replace XS := XS.past hb5
      replace X := X.past hb5
      replace RT := RT.past hb5
      replace O7 := O7.past hb5
      replace O8 := O8.past hb5
      have hs5 := hs3.trans (hb5.mono hs3.size)
      have hYSl := YS.lt
      have h35 := hb5.size
      go_loopg [7, 8, 29] 2 (fun gj v7 v8 jv wr => ∃ (j : Nat), jv = .int .i64 j ∧ gj + j = 2 ∧ Below w.heap.size w wr ∧ Bx wr w.heap.size #[.bool al.g, .slice al.p (dig B32 al.m).length al.c, .int .i64 al.e, .bool ah.g, .slice ah.p (dig B32 ah.m).length ah.c, .int .i64 ah.e] ∧ Bx wr (w.heap.size + 1) #[.bool bl.g, .slice bl.p (dig B32 bl.m).length bl.c, .int .i64 bl.e, .bool bh.g, .slice bh.p (dig B32 bh.m).length bh.c, .int .i64 bh.e] ∧
        Bx wr (w.heap.size + 1 + 1) #[.bool false, .slice none 0 0, .int .i64 0, .bool false, .slice none 0 0, .int .i64 0] ∧ Bx wr (w.heap.size + 1 + 1 + 1) #[.bool al.g, .slice al.p (dig B32 al.m).length al.c, .int .i64 al.e, .bool ah.g, .slice ah.p (dig B32 ah.m).length ah.c, .int .i64 ah.e] ∧ Tb wr (w.heap.size + 1 + 1) 86 ∧
        Bx wr wo.heap.size #[.bool x.g, .slice x.p (dig B32 x.m).length x.c, .int .i64 x.e] ∧ Bx wr W3.heap.size #[.bool bl.g, .slice bl.p (dig B32 bl.m).length bl.c, .int .i64 bl.e, .bool bh.g, .slice bh.p (dig B32 bh.m).length bh.c, .int .i64 bh.e] ∧ Off v7 wo.heap.size ∧ Off v8 wo.heap.size ∧ Off v7 W3.heap.size ∧ Off v8 W3.heap.size ∧
        Ov wr W1.heap.size base v7 (ovAll b false (LX.take i) LY ++ ovRow b false x (LY.take j)) ∧ Ov wr W1.heap.size base v8 (ovAll b true (LX.take i) LY ++ ovRow b true x (LY.take j)) ∧ (v7.ownBlock = none ∨ v7.ownBlock ≠ v8.ownBlock) ∧ W1.heap.size ≤ wr.heap.size)
      case atStart => exact ⟨0, rfl, rfl, hs5, A, B, R, XS, RT, X, YS, f7o, f8o, f7y, f8y, by simpa [ovRow] using O7, by simpa [ovRow] using O8, hne, by omega⟩
      case round =>
        obtain ⟨j, rfl, hgk, hb6, A, B, R, XS, RT, X, YS, f7x, f8x, f7y, f8y, O7, O8, hne, hzq⟩ := hrel
        by_cases hlj : j < 2
        · have hj : j < LY.length := by rw [HLY.out]; exact hlj
          have HEYj := (HEY wr _).out YS j hj
          obtain ⟨hYw, hYs, hY0⟩ := HY.out j hj
          have HQA := Lib.hid (ovRow_take (b := b) (up := false) (x := x) hj)
          have HQB := Lib.hid (ovRow_take (b := b) (up := true) (x := x) hj)
          obtain ⟨y, hy⟩ : ∃ y, y = LY[j] := ⟨_, rfl⟩
          rw [← hy] at HEYj hYw hYs hY0 HQA HQB
          clear hy
          obtain ⟨k0, k1, k2⟩ := HEYj.e3
          go_upto_region 8 with (fail)
          clear k0 k1 k2
          have hAl := A.lt
          have hBl := B.lt
          have hRl := R.lt
          have hXSl := XS.lt
          have hXl := X.lt
          have hYSl := YS.lt
          have f7z := O7.off (k := wr.heap.size) (.inr (Nat.le_refl _))
          have f8z := O8.off (k := wr.heap.size) (.inr (Nat.le_refl _))
          refine wp_lay1 (fun W7 hb7 hz7 Y => ?_)
          replace A := A.past hb7
          replace B := B.past hb7
          replace R := R.past hb7
          replace XS := XS.past hb7
          replace X := X.past hb7
          replace YS := YS.past hb7
          replace RT := RT.past hb7
          replace O7 := O7.past hb7
          replace O8 := O8.past hb7
          have hs7 := hb6.trans (hb7.mono hb6.size)
          have hYl := Y.lt
          obtain ⟨X_0, X_1, X_2⟩ := X.e3
          obtain ⟨Y_0, Y_1, Y_2⟩ := Y.e3
          go_wp2_with fail
          clear X_0 X_1 X_2 Y_0 Y_1 Y_2
          ((with_reducible refine (quotW_any x y b base false _ (hXw.past hs7) (hYw.past hs7) hY0 hb hXs hYs (hT.past hs7) (Nat.le_trans hbase hs7.size)).mono ?_))
          rintro e8 w8 ⟨r, hrv, rfl, hr, hb8⟩
          have hs8 := hs7.trans (hb8.mono hs7.size)
          replace A := A.past hb8
          replace B := B.past hb8
          replace R := R.past hb8
          replace XS := XS.past hb8
          replace X := X.past hb8
          replace YS := YS.past hb8
          replace Y := Y.past hb8
          replace RT := RT.past hb8
          replace O7 := O7.past hb8
          replace O8 := O8.past hb8
          have HRV := Lib.hid hrv
          clear hrv
          have hz78 := hb7.size
          have hz88 := hb8.size
          have hl8 := below_lay1 w8 (.cells #[.bool r.g, .slice r.p (dig B32 r.m).length r.c, .int .i64 r.e] 80)
          have hz8 : (w8.alloc (.cells #[.bool r.g, .slice r.p (dig B32 r.m).length r.c, .int .i64 r.e] 80)).heap.size = w8.heap.size + 1 := by simp
          have HZ8 := Lib.hid hz8
          have HL7 := Lib.hid (ov_len b false x LX LY i j HLX.out HLY.out)
          have HL8 := Lib.hid (ov_len b true x LX LY i j HLX.out HLY.out)
          clear hz8
          go_wp2_with (at_builtin; refine wpl_appendW rfl _ _ rfl W1.heap.size base _ _ rfl (O7.past hl8) w8.heap.size _ r rfl (El.new _ _ _) (hr.past hl8) HL7.out (by rw [HZ8.out]; omega) ?_; intro v7 w9 P7 hg9 hat9; have X9 := (X.past hl8).grown hg9 f7x; have Y9 := (Y.past hl8).grown hg9 f7z; obtain ⟨X_0, X_1, X_2⟩ := X9.e3; obtain ⟨Y_0, Y_1, Y_2⟩ := Y9.e3)
          clear X_0 X_1 X_2 Y_0 Y_1 Y_2
          have L7 := (O7.past hl8).lt
          have L8 := (O8.past hl8).lt
          have hs9 := (hs8.trans (hl8.mono hs8.size)).trans (below_of_grown hg9 (B := w.heap.size) (Nat.le_trans hs8.size hl8.size) (fun k hk => Nat.le_trans hs1.size (L7 k hk).1))
          replace A := (A.past hl8).grown hg9 ((O7.past hl8).off (.inl (by omega)))
          replace B := (B.past hl8).grown hg9 ((O7.past hl8).off (.inl (by omega)))
          replace R := (R.past hl8).grown hg9 ((O7.past hl8).off (.inl (by omega)))
          replace XS := (XS.past hl8).grown hg9 ((O7.past hl8).off (.inl (by omega)))
          replace YS := (YS.past hl8).grown hg9 f7y
          replace RT := (RT.past hl8).grown hg9 ((O7.past hl8).off (.inl (by omega)))
          have P8 := (O8.past hl8).grown hg9 (O7.past hl8) (ap_symm hne)
          have hne9 := ap_symm (ap_next hne hat9 (fun k hk => (L8 k hk).2))
          have hz8 := HZ8.out
          have hz9 : w8.heap.size + 1 ≤ w9.heap.size := by rw [← hz8]; exact hg9.size
          have g7x := f7x.app hat9 (by omega)
          have g7y := f7y.app hat9 (by omega)
          clear hz8 X Y O7 O8 L7 L8 hs8 hl8 hg9 hat9 hr hb8 hne f7x f7y f7z
          ((with_reducible refine (quotW_any x y b base true _ (hXw.past hs9) (hYw.past hs9) hY0 hb hXs hYs (hT.past hs9) (Nat.le_trans hbase hs9.size)).mono ?_))
          rintro e10 w10 ⟨r2, hrv2, rfl, hr2, hb10⟩
          have hs10 := hs9.trans (hb10.mono hs9.size)
          replace A := A.past hb10
          replace B := B.past hb10
          replace R := R.past hb10
          replace XS := XS.past hb10
          replace YS := YS.past hb10
          replace RT := RT.past hb10
          replace X9 := X9.past hb10
          replace P7 := P7.past hb10
          replace P8 := P8.past hb10
          have HRV2 := Lib.hid hrv2
          clear hrv2 hYw
          have hz10 := hb10.size
          have hl10 := below_lay1 w10 (.cells #[.bool r2.g, .slice r2.p (dig B32 r2.m).length r2.c, .int .i64 r2.e] 80)
          have hzl : (w10.alloc (.cells #[.bool r2.g, .slice r2.p (dig B32 r2.m).length r2.c, .int .i64 r2.e] 80)).heap.size = w10.heap.size + 1 := by simp
          have HZL := Lib.hid hzl
          clear hzl
          go_wp2_with (at_builtin; refine wpl_appendW rfl _ _ rfl W1.heap.size base _ _ rfl (P8.past hl10) w10.heap.size _ r2 rfl (El.new _ _ _) (hr2.past hl10) HL8.out (by rw [HZL.out]; omega) ?_; intro v8 w11 Q8 hg11 hat11)
          have L7 := (P7.past hl10).lt
          have L8 := (P8.past hl10).lt
          have hs11 := (hs10.trans (hl10.mono hs10.size)).trans (below_of_grown hg11 (B := w.heap.size) (Nat.le_trans hs10.size hl10.size) (fun k hk => Nat.le_trans hs1.size (L8 k hk).1))
          replace A := (A.past hl10).grown hg11 ((P8.past hl10).off (.inl (by omega)))
          replace B := (B.past hl10).grown hg11 ((P8.past hl10).off (.inl (by omega)))
          replace R := (R.past hl10).grown hg11 ((P8.past hl10).off (.inl (by omega)))
          replace XS := (XS.past hl10).grown hg11 ((P8.past hl10).off (.inl (by omega)))
          replace YS := (YS.past hl10).grown hg11 f8y
          replace X9 := (X9.past hl10).grown hg11 f8x
          replace RT := (RT.past hl10).grown hg11 ((P8.past hl10).off (.inl (by omega)))
          have Q7 := (P7.past hl10).grown hg11 (P8.past hl10) (ap_symm hne9)
          have hneB := ap_symm (ap_next hne9 hat11 (fun k hk => (L7 k hk).2))
          have hzl := HZL.out
          have h11 : w10.heap.size + 1 ≤ w11.heap.size := by rw [← hzl]; exact hg11.size
          have g8x := f8x.app hat11 (by omega)
          have g8y := f8y.app hat11 (by omega)
          have hzB : W1.heap.size ≤ w11.heap.size := by omega
          clear hzl P7 P8 L7 L8 hs10 hs9 hl10 hg11 hat11 hr2 hb10 hne9 f8x f8y f8z
          go_roundg (gk - 1)
          case measure => omega
          case rel =>
            refine ⟨j + 1, by go_num, by omega, hs11, A, B, R, XS, RT, X9, YS, g7x, g8x, g7y, g8y, ?_, ?_, hneB, hzB⟩
            · rw [HQA.out, ← HRV.out, ← List.append_assoc]; exact Q7
            · rw [HQB.out, ← HRV2.out, ← List.append_assoc]; exact Q8
        · have hjj : j = 2 := by omega
          have HJ := Lib.hid (show LY.take j = LY by rw [hjj, ← HLY.out, List.take_length])
          rw [HJ.out] at O7 O8
          have hjn : ¬ j < 2 := hlj
          clear hjj
          go_wp2_with fail
          go_roundg (go - 1)
          case measure => omega
          case rel => exact ⟨i + 1, by go_num, by omega, hb6, A, B, R, XS, RT, by rw [HOA.out]; exact O7, by rw [HOB.out]; exact O8, hne, hzq⟩
    · have hii : i = 2 := by omega
      have HJ := Lib.hid (show LX.take i = LX by rw [hii, ← HLX.out, List.take_length])
      rw [HJ.out, HDF.out] at O7
      rw [HJ.out, HDT.out] at O8
      have hin : ¬ i < 2 := hlt
      clear hii HDF HDT HEX HEY HX HY
      have hTo := hT.past hb2
      have HAL := fun W v h1 h2 h3 => Lib.hid (around_ov b W1.heap.size base v (pOver al.v bl.v b false) [pOver al.v bh.v b false, pOver ah.v bl.v b false, pOver ah.v bh.v b false] W h1 (by simp) (by simp) (by omega) h2 h3)
      have HAH := fun W v h1 h2 h3 => Lib.hid (around_ov b W1.heap.size base v (pOver al.v bl.v b true) [pOver al.v bh.v b true, pOver ah.v bl.v b true, pOver ah.v bh.v b true] W h1 (by simp) (by simp) (by omega) h2 h3)
      generalize pOver al.v bl.v b false = d0 at *
      generalize pOver al.v bh.v b false = d1 at *
      generalize pOver ah.v bl.v b false = d2 at *
      generalize pOver ah.v bh.v b false = d3 at *
      generalize pOver al.v bl.v b true = e0 at *
      generalize pOver al.v bh.v b true = e1 at *
      generalize pOver ah.v bl.v b true = e2 at *
      generalize pOver ah.v bh.v b true = e3 at *
      generalize pCut (lowD d0 [d1, d2, d3]) b false = rl at *
      generalize pCut (highD d0 [d1, d2, d3]) b true = xl at *
      generalize pCut (lowD e0 [e1, e2, e3]) b false = xh at *
      generalize pCut (highD e0 [e1, e2, e3]) b true = rh at *
      go_wp2_with fail
      have rf0 := run_fieldB0
      have rf1 := run_fieldB1
      ((with_reducible refine (HAL _ _ O7 hTo (Nat.le_trans hbase hb2.size)).out.mono ?_))
      rintro ex wx ⟨px, cx, qx, dx, rfl, hox, hoxx, hbx⟩
      have hs3 := hb2.trans (hbx.mono hb2.size)
      replace R := R.past hbx
      replace RT := RT.past hbx
      replace O8 := O8.past hbx
      replace hTo := hTo.past hbx
      go_wp2_with fail
      ((with_reducible refine (HAH _ _ O8 hTo (Nat.le_trans hbase hs3.size)).out.mono ?_))
      rintro ey wy ⟨py, cy, qy, dy, rfl, hoy, hoyy, hby⟩
      have hs4 := hs3.trans (hby.mono hs3.size)
      replace R := R.past hby
      replace RT := RT.past hby
      replace hox := hox.past hby
      obtain ⟨R_0, R_1, R_2, R_3, R_4, R_5⟩ := (R).e6
      have R_f0 := (R).f 0
      have R_f1 := (R).f 1
      have R_f2 := (R).f 2
      have R_f3 := (R).f 3
      have R_f4 := (R).f 4
      have R_f5 := (R).f 5
      go_wp2_with fail
      refine bodyPost_ret (v := .agg #[.bool rl.neg, .slice px (dig B32 rl.m).length cx, .int .i64 rl.e, .bool rh.neg, .slice qy (dig B32 rh.m).length dy, .int .i64 rh.e]) (by simp [results, Tryd.results55, go_sem, R_0, R_1, R_2, R_3, R_4, R_5]) rfl ?_
      exact givesB_close hs4 hox hoyy (Nat.le_refl _) (by omega) (hox.ne_tb RT (by decide)) (hoyy.ne_tb RT (by decide))

end Go.Proofs.YtkooikgplpamlaaDoor
