/- ball: Done; Plus, Times, Join, Opposite.
   ball: Plus, Times, Join, Opposite.
   ball: Join, Plus, Times, Opposite.
   ball: Opposite, what Sub does; two. -/
import Derived.Test.YtehodhanojgkgaaDoorZBall7
import Derived.Test.YtehodhanojgkgaaDoorZF
import Derived.Test.YtehodhanojgkgaaDoorZG
namespace Go.Proofs.YtehodhanojgkgaaDoor
open Go.RowKit Go.Slip

/-- A ball that a call tells, with what is wrong. -/
def GivesBE (w : World) (base : Nat) (l h : Dv) (er : Int) (en : Ending) (w' : World) : Prop :=
  ∃ p c q d, en = .returned (.tuple #[.agg #[.bool l.neg, .slice p (dig B32 l.m).length c, .int .i64 l.e, .bool h.neg, .slice q (dig B32 h.m).length d, .int .i64 h.e], .int .i64 er]) ∧
    Own w' base .u32 58 p c (dig B32 l.m) ∧ Own w' base .u32 58 q d (dig B32 h.m) ∧ Below w.heap.size w w'

theorem givesBE_put {w wk : World} {base b : Nat} {l h : Dv} {er : Int} {p q : Option Addr} {c d : Nat} {v0 v1 v2 v3 v4 v5 : Value} (hs : Below w.heap.size w wk) (ho : Own wk base .u32 58 p c (dig B32 l.m)) (hq : Own wk base .u32 58 q d (dig B32 h.m))
    (hB : w.heap.size ≤ b) (hT : Tb wk b 27) :
    GivesBE w base l h er (.returned (.tuple #[.agg #[.bool l.neg, .slice p (dig B32 l.m).length c, .int .i64 l.e, .bool h.neg, .slice q (dig B32 h.m).length d, .int .i64 h.e], .int .i64 er]))
      ((((((wk.setCell ⟨b, 0, none⟩ v0).setCell ⟨b, 1, none⟩ v1).setCell ⟨b, 2, none⟩ v2).setCell ⟨b, 3, none⟩ v3).setCell ⟨b, 4, none⟩ v4).setCell ⟨b, 5, none⟩ v5) :=
  have hO := only6 wk b v0 v1 v2 v3 v4 v5
  ⟨p, c, q, d, rfl, ho.only hO (ho.ne_tb hT (by decide)), hq.only hO (hq.ne_tb hT (by decide)), hs.trans (hO.below hB)⟩

theorem givesBE_zero {w wk : World} {base b : Nat} {er : Int} {v0 v1 v2 v3 v4 v5 : Value} (hs : Below w.heap.size w wk) (hB : w.heap.size ≤ b) :
    GivesBE w base zeroD zeroD er (.returned (.tuple #[.agg #[.bool false, .slice none 0 0, .int .i64 0, .bool false, .slice none 0 0, .int .i64 0], .int .i64 er]))
      ((((((wk.setCell ⟨b, 0, none⟩ v0).setCell ⟨b, 1, none⟩ v1).setCell ⟨b, 2, none⟩ v2).setCell ⟨b, 3, none⟩ v3).setCell ⟨b, 4, none⟩ v4).setCell ⟨b, 5, none⟩ v5) :=
  have hO := only6 wk b v0 v1 v2 v3 v4 v5
  have hd : dig B32 zeroD.m = [] := dig_zero _
  ⟨none, 0, none, 0, by rw [hd]; rfl, by rw [hd]; exact Own.nil _ _ _ _, by rw [hd]; exact Own.nil _ _ _ _, hs.trans (hO.below hB)⟩

theorem calls_layT2 {P : Program} {f : FuncId} {args : Array Value} {R : Ending → World → Prop} {w : World} {v1 v2 : Array Value} {t1 t2 : TypeId} (h : ∀ W, Below w.heap.size w W → w.heap.size + 1 < W.heap.size → Bx W w.heap.size v1 → Bx W (w.heap.size + 1) v2 → Tb W (w.heap.size + 1) t2 → Calls P f args W R) :
    Calls P f args ((w.alloc (.cells v1 t1)).alloc (.cells v2 t2)) R := by
  obtain ⟨W, rfl, k1, k2, k3, k4⟩ := lay2 w v1 t1 v2 t2
  refine h _ k1 k2 k3 k4 ?_
  have h1 := tb_new (w.alloc (.cells v1 t1)) v2 t2
  rw [show (w.alloc (.cells v1 t1)).heap.size = w.heap.size + 1 by simp] at h1
  exact h1

/-- Where it lies, and how long it is; its exponent may be any. -/
structure InL (w : World) (base : Nat) (a : Rw) : Prop where
  ow : Own w base .u32 58 a.p a.c (dig B32 a.m)
  len : (dig B32 a.m).length ≤ 1000000
theorem InL.past {w w' : World} {base : Nat} {a : Rw} (h : InL w base a) (hb : Below w.heap.size w w') : InL w' base a := ⟨h.ow.past hb, h.len⟩

theorem doneW_any (x : Rw) (base : Nat) (w : World) (h : InL w base x) :
    Calls Tryd.prog 62 #[.agg #[.bool x.g, .slice x.p (dig B32 x.m).length x.c, .int .i64 x.e]] w (GivesDE w base (doneD x.v) (errD x.v)) :=
  doneR_any x.g x.p _ x.c base x.e x.m w h.ow rfl (by have := h.len; omega)

theorem doneD_zero {d : Dv} (h : errD d = 0) : doneD d = d := by unfold doneD; rw [if_pos h]

set_option maxHeartbeats 4000000 in
set_option maxRecDepth 100000 in
theorem rawDone_any (l h : Rw) (base : Nat) (w : World) (hl : InL w base l) (hh : InL w base h) :
    Calls Tryd.prog 35 #[.agg #[.bool l.g, .slice l.p (dig B32 l.m).length l.c, .int .i64 l.e, .bool h.g, .slice h.p (dig B32 h.m).length h.c, .int .i64 h.e]] w (GivesBE w base (doneL l.v h.v) (doneH l.v h.v) (errB l.v h.v)) := by
  have HDL := fun W h1 => Lib.hid (doneW_any l base W h1)
  have HDH := fun W h1 => Lib.hid (doneW_any h base W h1)
  have HE := Lib.hid (show errB l.v h.v = if errD l.v = 0 then errD h.v else errD l.v from rfl)
  have HP := Lib.hid (show doneL l.v h.v = if errB l.v h.v = 0 then l.v else zeroD from rfl)
  have HQ := Lib.hid (show doneH l.v h.v = if errB l.v h.v = 0 then h.v else zeroD from rfl)
  have HXL := Lib.hid (fun k : errD l.v = 0 => doneD_zero k)
  have HXH := Lib.hid (fun k : errD h.v = 0 => doneD_zero k)
  obtain ⟨e, he⟩ : ∃ e, errD l.v = e := ⟨_, rfl⟩
  obtain ⟨f, hf⟩ : ∃ f, errD h.v = f := ⟨_, rfl⟩
  obtain ⟨dl, hdl⟩ : ∃ dl, doneD l.v = dl := ⟨_, rfl⟩
  obtain ⟨dh, hdh⟩ : ∃ dh, doneD h.v = dh := ⟨_, rfl⟩
  rw [he] at HDL HE HXL
  rw [hf] at HDH HE HXH
  rw [hdl] at HDL HXL
  rw [hdh] at HDH HXH
  clear he hf hdl hdh
  go_enter Tryd.func35, Tryd.ntmps35
  go_wp2_with fail
  refine calls_layT2 (fun W1 hb1 hz1 A R RT => ?_)
  have hs1 := hb1
  replace hl := hl.past hb1
  replace hh := hh.past hb1
  obtain ⟨A_0, A_1, A_2, A_3, A_4, A_5⟩ := A.e6
  go_wp2_with fail
  clear A_0 A_1 A_2 A_3 A_4 A_5
  ((with_reducible refine ((HDL _ hl).out).mono ?_))
  rintro e2 w2 ⟨p2, c2, rfl, ho2, hb2⟩
  replace A := A.past hb2
  replace R := R.past hb2
  replace hl := hl.past hb2
  replace hh := hh.past hb2
  replace RT := RT.past hb2
  have hs2 := hs1.trans (hb2.mono hs1.size)
  go_upto_region 2 with (fail)
  refine wp_lay1 (fun W3 hb3 hz3 LO => ?_)
  replace A := A.past hb3
  replace R := R.past hb3
  replace hl := hl.past hb3
  replace hh := hh.past hb3
  replace RT := RT.past hb3
  replace ho2 := ho2.past hb3
  have hs3 := hs2.trans (hb3.mono hs2.size)
  obtain ⟨A_0, A_1, A_2, A_3, A_4, A_5⟩ := A.e6
  go_wp2_with fail
  clear A_0 A_1 A_2 A_3 A_4 A_5
  ((with_reducible refine ((HDH _ hh).out).mono ?_))
  rintro e4 w4 ⟨p4, c4, rfl, ho4, hb4⟩
  replace A := A.past hb4
  replace R := R.past hb4
  replace LO := LO.past hb4
  replace hl := hl.past hb4
  replace hh := hh.past hb4
  replace RT := RT.past hb4
  replace ho2 := ho2.past hb4
  have hs4 := hs3.trans (hb4.mono hs3.size)
  go_upto_region 4 with (fail)
  refine wp_lay2 (fun W5 hb5 hz5 HI ES => ?_)
  replace A := A.past hb5
  replace R := R.past hb5
  replace LO := LO.past hb5
  replace hl := hl.past hb5
  replace hh := hh.past hb5
  replace RT := RT.past hb5
  replace ho2 := ho2.past hb5
  replace ho4 := ho4.past hb5
  have hs5 := hs4.trans (hb5.mono hs4.size)
  have hzw1 := hs1.size
  go_loopg [26] 2 (fun gk iv wr => ∃ (i : Nat), iv = .int .i64 i ∧ gk + i = 2 ∧ wr = W5 ∧ Hid ((1 ≤ i → e = 0) ∧ (2 ≤ i → f = 0)))
  case atStart => exact ⟨0, rfl, rfl, rfl, ⟨fun h => by omega, fun h => by omega⟩⟩
  case round =>
    obtain ⟨i, rfl, hgk, rfl, HF⟩ := hrel
    obtain ⟨ES_0, ES_1⟩ := ES.e2
    by_cases hi0 : i = 0
    · subst hi0
      obtain rfl : gk = 2 := by omega
      by_cases h0 : e = 0
      · have t1 : (e == 0) = true := by simpa using h0
        have t2 : (e != 0) = false := by simpa using h0
        have H0 := Lib.hid h0
        clear h0
        go_wp2_with fail
        go_roundg 1
        case measure => omega
        case rel => exact ⟨1, by go_num, rfl, rfl, ⟨fun _ => H0.out, fun h => by omega⟩⟩
      · have t1 : (e == 0) = false := beq_eq_false_iff_ne.2 h0
        have t2 : (e != 0) = true := by rw [bne, t1]; rfl
        have HEE := Lib.hid (HE.out.trans (if_neg h0))
        have HPP := Lib.hid (HP.out.trans (if_neg (by rw [HEE.out]; exact h0)))
        have HQQ := Lib.hid (HQ.out.trans (if_neg (by rw [HEE.out]; exact h0)))
        clear h0
        obtain ⟨R_0, R_1, R_2, R_3, R_4, R_5⟩ := (R).e6
        have R_f0 := (R).f 0
        have R_f1 := (R).f 1
        have R_f2 := (R).f 2
        have R_f3 := (R).f 3
        have R_f4 := (R).f 4
        have R_f5 := (R).f 5
        go_wp2_with fail
        refine bodyPost_ret (v := .tuple #[.agg #[.bool false, .slice none 0 0, .int .i64 0, .bool false, .slice none 0 0, .int .i64 0], .int .i64 e]) (by simp [results, Tryd.results35, go_sem, R_0, R_1, R_2, R_3, R_4, R_5]) rfl ?_
        rw [HPP.out, HQQ.out, HEE.out]
        exact givesBE_zero hs5 (by omega)
    · by_cases hi1 : i = 1
      · subst hi1
        obtain rfl : gk = 1 := by omega
        have H0 := Lib.hid (HF.out.1 (Nat.le_refl _))
        by_cases h0 : f = 0
        · have t1 : (f == 0) = true := by simpa using h0
          have t2 : (f != 0) = false := by simpa using h0
          have H1 := Lib.hid h0
          clear h0
          go_wp2_with fail
          go_roundg 0
          case measure => omega
          case rel => exact ⟨2, by go_num, rfl, rfl, ⟨fun _ => H0.out, fun _ => H1.out⟩⟩
        · have t1 : (f == 0) = false := beq_eq_false_iff_ne.2 h0
          have t2 : (f != 0) = true := by rw [bne, t1]; rfl
          have HEE := Lib.hid (HE.out.trans (if_pos H0.out))
          have HPP := Lib.hid (HP.out.trans (if_neg (by rw [HEE.out]; exact h0)))
          have HQQ := Lib.hid (HQ.out.trans (if_neg (by rw [HEE.out]; exact h0)))
          clear h0
          obtain ⟨R_0, R_1, R_2, R_3, R_4, R_5⟩ := (R).e6
          have R_f0 := (R).f 0
          have R_f1 := (R).f 1
          have R_f2 := (R).f 2
          have R_f3 := (R).f 3
          have R_f4 := (R).f 4
          have R_f5 := (R).f 5
          go_wp2_with fail
          refine bodyPost_ret (v := .tuple #[.agg #[.bool false, .slice none 0 0, .int .i64 0, .bool false, .slice none 0 0, .int .i64 0], .int .i64 f]) (by simp [results, Tryd.results35, go_sem, R_0, R_1, R_2, R_3, R_4, R_5]) rfl ?_
          rw [HPP.out, HQQ.out, HEE.out]
          exact givesBE_zero hs5 (by omega)
      · obtain rfl : i = 2 := by omega
        obtain rfl : gk = 0 := by omega
        have H0 := Lib.hid (HF.out.1 (by omega))
        have H1 := Lib.hid (HF.out.2 (Nat.le_refl _))
        have HEE := Lib.hid (HE.out.trans ((if_pos H0.out).trans H1.out))
        have HPP := Lib.hid ((HP.out.trans (if_pos HEE.out)).trans (HXL.out H0.out).symm)
        have HQQ := Lib.hid ((HQ.out.trans (if_pos HEE.out)).trans (HXH.out H1.out).symm)
        obtain ⟨R_0, R_1, R_2, R_3, R_4, R_5⟩ := (R).e6
        have R_f0 := (R).f 0
        have R_f1 := (R).f 1
        have R_f2 := (R).f 2
        have R_f3 := (R).f 3
        have R_f4 := (R).f 4
        have R_f5 := (R).f 5
        obtain ⟨LO_0, LO_1, LO_2⟩ := LO.e3
        obtain ⟨HI_0, HI_1, HI_2⟩ := HI.e3
        go_wp2_with fail
        refine bodyPost_ret (v := .tuple #[.agg #[.bool dl.neg, .slice p2 (dig B32 dl.m).length c2, .int .i64 dl.e, .bool dh.neg, .slice p4 (dig B32 dh.m).length c4, .int .i64 dh.e], .int .i64 0]) (by simp [results, Tryd.results35, go_sem, R_0, R_1, R_2, R_3, R_4, R_5]) rfl ?_
        rw [HPP.out, HQQ.out, HEE.out]
        exact givesBE_put hs5 ho2 ho4 (by omega) RT

end Go.Proofs.YtehodhanojgkgaaDoor

namespace Go.Slip

theorem pPlus_bd {a b : Dv} (hal : (dig B32 a.m).length ≤ 1300) (hbl : (dig B32 b.m).length ≤ 1300) (ha1 : -100000 ≤ a.e) (ha2 : a.e ≤ 100000) (hb1 : -100000 ≤ b.e) (hb2 : b.e ≤ 100000) :
    (dig B32 (pPlus a b).m).length ≤ 16000 ∧ -100000 ≤ (pPlus a b).e ∧ (pPlus a b).e ≤ 700000 := by
  unfold pPlus
  split
  · omega
  · split
    · omega
    · have h1 := len_shl a.m (a.e - min a.e b.e).toNat
      have h2 := len_shl b.m (b.e - min a.e b.e).toNat
      have hj := joinD_m_le a.neg b.neg (a.m * 2 ^ (a.e - min a.e b.e).toNat) (b.m * 2 ^ (b.e - min a.e b.e).toNat) (min a.e b.e)
      have h3 := Nat.le_trans (dig_len_mono B32_two hj.1) (dig_len_add B32_two _ _)
      have h4 : (dig B32 (joinD a.neg b.neg (a.m * 2 ^ (a.e - min a.e b.e).toNat) (b.m * 2 ^ (b.e - min a.e b.e).toNat) (min a.e b.e)).m).length ≤ 15200 := by omega
      have h5 := bare_e _ (n := 15200) h4 (lo := -100000) (hi := 100000) (by rw [hj.2]; omega) (by rw [hj.2]; omega) (by omega) (by omega)
      have h6 := bare_len B32_two (joinD a.neg b.neg (a.m * 2 ^ (a.e - min a.e b.e).toNat) (b.m * 2 ^ (b.e - min a.e b.e).toNat) (min a.e b.e))
      omega

theorem dTimes_bd {a b : Dv} (hal : (dig B32 a.m).length ≤ 1300) (hbl : (dig B32 b.m).length ≤ 1300) (ha1 : -100000 ≤ a.e) (ha2 : a.e ≤ 100000) (hb1 : -100000 ≤ b.e) (hb2 : b.e ≤ 100000) :
    (dig B32 (dTimes a b).m).length ≤ 2600 ∧ -200000 ≤ (dTimes a b).e ∧ (dTimes a b).e ≤ 300000 := by
  have h1 := dTimes_len a b
  unfold dTimes at *
  have h4 : (dig B32 (a.m * b.m)).length ≤ 2600 := Nat.le_trans (dig_len_mul B32_two _ _) (by omega)
  have h5 := bare_e ⟨xor a.neg b.neg, a.m * b.m, a.e + b.e⟩ (n := 2600) h4 (lo := -200000) (hi := 200000) (by simp only; omega) (by simp only; omega) (by omega) (by omega)
  omega

end Go.Slip
namespace Go.Proofs.YtehodhanojgkgaaDoor
open Go.RowKit Go.Slip

theorem Own.toW {w : World} {base : Nat} {d : Dv} {p : Option Addr} {c : Nat} (ho : Own w base .u32 58 p c (dig B32 d.m)) (hl : (dig B32 d.m).length ≤ 1000000) (h1 : -1000000 ≤ d.e) (h2 : d.e ≤ 1000000) : InW w base ⟨d.neg, p, c, d.m, d.e⟩ := ⟨ho, hl, h1, h2⟩

/-- What a call leaves, as a number in memory. -/
def GivesW (w : World) (base : Nat) (d : Dv) (en : Ending) (w' : World) : Prop := ∃ r : Rw, r.v = d ∧ en = .returned (.agg #[.bool r.g, .slice r.p (dig B32 r.m).length r.c, .int .i64 r.e]) ∧ InW w' base r ∧ Below w.heap.size w w'

theorem GivesD.toW {w w' : World} {base : Nat} {d : Dv} {en : Ending} (h : GivesD w base d en w') (hl : (dig B32 d.m).length ≤ 1000000) (h1 : -1000000 ≤ d.e) (h2 : d.e ≤ 1000000) : GivesW w base d en w' := by
  obtain ⟨p, c, he, ho, hb⟩ := h
  exact ⟨⟨d.neg, p, c, d.m, d.e⟩, rfl, he, Own.toW ho hl h1 h2, hb⟩

theorem plusW_any (x y : Rw) (base : Nat) (w : World) (hx : InW w base x) (hy : InW w base y) (sx : Sm x) (sy : Sm y) (hT : TabW w) (hbase : base ≤ w.heap.size) :
    Calls Tryd.prog 84 #[.agg #[.bool x.g, .slice x.p (dig B32 x.m).length x.c, .int .i64 x.e], .agg #[.bool y.g, .slice y.p (dig B32 y.m).length y.c, .int .i64 y.e]] w (GivesW w base (pPlus x.v y.v)) :=
  (plusD_any x.g y.g x.p y.p _ x.c _ y.c base x.e y.e x.m y.m w hx.ow hy.ow rfl rfl hx.len hy.len ⟨hx.lo, hx.hi⟩ ⟨hy.lo, hy.hi⟩ hT hbase).mono fun _ _ h => by
    obtain ⟨h1, h2, h3⟩ := pPlus_bd (a := x.v) (b := y.v) sx.len sy.len sx.lo sx.hi sy.lo sy.hi
    exact GivesD.toW h (by omega) (by omega) (by omega)

theorem timesW_any (x y : Rw) (base : Nat) (w : World) (hx : InW w base x) (hy : InW w base y) (sx : Sm x) (sy : Sm y) (hT : TabW w) :
    Calls Tryd.prog 83 #[.agg #[.bool x.g, .slice x.p (dig B32 x.m).length x.c, .int .i64 x.e], .agg #[.bool y.g, .slice y.p (dig B32 y.m).length y.c, .int .i64 y.e]] w (GivesW w w.heap.size (dTimes x.v y.v)) :=
  (timesD_any x.g y.g x.p y.p _ x.c _ y.c base x.e y.e x.m y.m w hx.ow hy.ow rfl rfl hx.len hy.len ⟨hx.lo, hx.hi⟩ ⟨hy.lo, hy.hi⟩ hT).mono fun _ _ h => by
    obtain ⟨h1, h2, h3⟩ := dTimes_bd (a := x.v) (b := y.v) sx.len sy.len sx.lo sx.hi sy.lo sy.hi
    exact GivesD.toW h (by omega) (by omega) (by omega)

theorem rowW_new (w : World) (L : List Rw) (base0 : Nat) (vs : Array Value) (hvs : vs = (rowCells L).toArray) (hb : base0 ≤ w.heap.size) (hl : L.length ≤ 1000) : RowW (w.alloc (.cells vs 62)) base0 (.slice (some ⟨w.heap.size, 0, none⟩) L.length L.length) L := by
  subst hvs
  refine ⟨rowCells_len L, .inr ⟨w.heap.size, L.length, (rowCells L).toArray, rfl, hb, heap_alloc_new w _, Nat.le_refl _, by unfold maxLen; omega, ?_, ?_⟩⟩
  · simp only [List.size_toArray]; exact rowCells_len L
  · show (rowCells L).take (L.length * 3) = rowCells L
    rw [← rowCells_len, List.take_length]

/-- around, of two, or four, that lie in a new block. -/
theorem around2_any (b base : Nat) (x y : Rw) (w : World) (hx : InW w base x) (hy : InW w base y) (hb : b ≤ 1000000) (hT : TabW w) (hbase : base ≤ w.heap.size) :
    Calls Tryd.prog 82 #[.int .i64 b, .slice (some ⟨w.heap.size, 0, none⟩) 2 2] (w.alloc (.cells #[.bool x.g, .slice x.p (dig B32 x.m).length x.c, .int .i64 x.e, .bool y.g, .slice y.p (dig B32 y.m).length y.c, .int .i64 y.e] 62))
      (GivesB w base (pCut (lowD x.v [y.v]) b false) (pCut (highD x.v [y.v]) b true)) := by
  have hl := below_lay1 w (.cells #[.bool x.g, .slice x.p (dig B32 x.m).length x.c, .int .i64 x.e, .bool y.g, .slice y.p (dig B32 y.m).length y.c, .int .i64 y.e] 62)
  refine (around_ov b base base _ x.v [y.v] _ ⟨[x, y], rowW_new w [x, y] base _ rfl hbase (by simp), rfl, ?_⟩ (by simp) (by simp) hb (hT.past hl) (Nat.le_trans hbase hl.size)).mono ?_
  · intro z hz
    simp only [List.mem_cons, List.not_mem_nil, or_false] at hz
    rcases hz with rfl | rfl
    · exact hx.past hl
    · exact hy.past hl
  · rintro en w' ⟨p, c, q, d, he, h1, h2, h3⟩
    exact ⟨p, c, q, d, he, h1, h2, hl.trans (h3.mono hl.size)⟩

theorem around4_any (b base : Nat) (x y z t : Rw) (w : World) (hx : InW w base x) (hy : InW w base y) (hz : InW w base z) (ht : InW w base t) (hb : b ≤ 1000000) (hT : TabW w) (hbase : base ≤ w.heap.size) :
    Calls Tryd.prog 82 #[.int .i64 b, .slice (some ⟨w.heap.size, 0, none⟩) 4 4] (w.alloc (.cells #[.bool x.g, .slice x.p (dig B32 x.m).length x.c, .int .i64 x.e, .bool y.g, .slice y.p (dig B32 y.m).length y.c, .int .i64 y.e, .bool z.g, .slice z.p (dig B32 z.m).length z.c, .int .i64 z.e, .bool t.g, .slice t.p (dig B32 t.m).length t.c, .int .i64 t.e] 62))
      (GivesB w base (pCut (lowD x.v [y.v, z.v, t.v]) b false) (pCut (highD x.v [y.v, z.v, t.v]) b true)) := by
  have hl := below_lay1 w (.cells #[.bool x.g, .slice x.p (dig B32 x.m).length x.c, .int .i64 x.e, .bool y.g, .slice y.p (dig B32 y.m).length y.c, .int .i64 y.e, .bool z.g, .slice z.p (dig B32 z.m).length z.c, .int .i64 z.e, .bool t.g, .slice t.p (dig B32 t.m).length t.c, .int .i64 t.e] 62)
  refine (around_ov b base base _ x.v [y.v, z.v, t.v] _ ⟨[x, y, z, t], rowW_new w [x, y, z, t] base _ rfl hbase (by simp), rfl, ?_⟩ (by simp) (by simp) hb (hT.past hl) (Nat.le_trans hbase hl.size)).mono ?_
  · intro u hu
    simp only [List.mem_cons, List.not_mem_nil, or_false] at hu
    rcases hu with rfl | rfl | rfl | rfl
    · exact hx.past hl
    · exact hy.past hl
    · exact hz.past hl
    · exact ht.past hl
  · rintro en w' ⟨p, c, q, d, he, h1, h2, h3⟩
    exact ⟨p, c, q, d, he, h1, h2, hl.trans (h3.mono hl.size)⟩

theorem wp_layT3 {P : Program} {c : Code} {Q : Exit → Act → World → Prop} {a : Act} {w : World} {v1 v2 v3 : Array Value} {t1 t2 t3 : TypeId} (h : ∀ W, Below w.heap.size w W → w.heap.size + 1 + 1 < W.heap.size → Bx W w.heap.size v1 → Bx W (w.heap.size + 1) v2 → Bx W (w.heap.size + 1 + 1) v3 → Tb W (w.heap.size + 1 + 1) t3 → c.wp P Q a W) :
    c.wp P Q a (((w.alloc (.cells v1 t1)).alloc (.cells v2 t2)).alloc (.cells v3 t3)) := by
  obtain ⟨W, rfl, k1, k2, k3, k4, k5⟩ := lay3 w v1 t1 v2 t2 v3 t3
  refine h _ k1 k2 k3 k4 k5 ?_
  have h1 := tb_new ((w.alloc (.cells v1 t1)).alloc (.cells v2 t2)) v3 t3
  rw [show ((w.alloc (.cells v1 t1)).alloc (.cells v2 t2)).heap.size = w.heap.size + 1 + 1 by simp] at h1
  exact h1

end Go.Proofs.YtehodhanojgkgaaDoor

namespace Go.Proofs.YtehodhanojgkgaaDoor
open Go.RowKit Go.Slip

set_option maxHeartbeats 4000000 in
set_option maxRecDepth 100000 in
theorem plusB_any (al ah bl bh : Rw) (b base : Nat) (w : World) (h1 : InW w base al) (h2 : InW w base ah) (h3 : InW w base bl) (h4 : InW w base bh) (s1 : Sm al) (s2 : Sm ah) (s3 : Sm bl) (s4 : Sm bh) (hb : b ≤ 5000) (hT : TabW w) (hbase : base ≤ w.heap.size) :
    Calls Tryd.prog 59 #[.agg #[.bool al.g, .slice al.p (dig B32 al.m).length al.c, .int .i64 al.e, .bool ah.g, .slice ah.p (dig B32 ah.m).length ah.c, .int .i64 ah.e], .agg #[.bool bl.g, .slice bl.p (dig B32 bl.m).length bl.c, .int .i64 bl.e, .bool bh.g, .slice bh.p (dig B32 bh.m).length bh.c, .int .i64 bh.e], .int .i64 b] w (GivesB w base (pCut (lowD (pPlus al.v bl.v) [pPlus ah.v bh.v]) b false) (pCut (highD (pPlus al.v bl.v) [pPlus ah.v bh.v]) b true)) := by
  have HL := fun W k1 k2 k3 k4 => Lib.hid (plusW_any al bl base W k1 k2 s1 s3 k3 k4)
  have HH := fun W k1 k2 k3 k4 => Lib.hid (plusW_any ah bh base W k1 k2 s2 s4 k3 k4)
  generalize pPlus al.v bl.v = dl at *
  generalize pPlus ah.v bh.v = dh at *
  have HA := fun (x y : Rw) (k0 : x.v = dl) (k : y.v = dh) W k1 k2 k5 k6 => Lib.hid (show Calls _ _ _ _ (GivesB W base (pCut (lowD dl [dh]) b false) (pCut (highD dl [dh]) b true)) by have h := around2_any b base x y W k1 k2 (by omega) k5 k6; rw [k0, k] at h; exact h)
  generalize pCut (lowD dl [dh]) b false = rl at *
  generalize pCut (highD dl [dh]) b true = rh at *
  go_enter Tryd.func59, Tryd.ntmps59
  go_upto_region 1 with (fail)
  refine wp_layT3 (fun W1 hs1 hz1 A B R RT => ?_)
  have hzd : base ≤ W1.drew.heap.size := Nat.le_trans hbase hs1.size
  go_region_held3 (fun w' => (w'.cell? ⟨w.heap.size, 0, none⟩ = some (.bool al.g) ∧ w'.cell? ⟨w.heap.size, 1, none⟩ = some (.slice al.p (dig B32 al.m).length al.c) ∧ w'.cell? ⟨w.heap.size, 2, none⟩ = some (.int .i64 al.e) ∧ w'.cell? ⟨w.heap.size, 3, none⟩ = some (.bool ah.g) ∧ w'.cell? ⟨w.heap.size, 4, none⟩ = some (.slice ah.p (dig B32 ah.m).length ah.c) ∧ w'.cell? ⟨w.heap.size, 5, none⟩ = some (.int .i64 ah.e)) ∧
      (w'.cell? ⟨w.heap.size + 1, 0, none⟩ = some (.bool bl.g) ∧ w'.cell? ⟨w.heap.size + 1, 1, none⟩ = some (.slice bl.p (dig B32 bl.m).length bl.c) ∧ w'.cell? ⟨w.heap.size + 1, 2, none⟩ = some (.int .i64 bl.e) ∧ w'.cell? ⟨w.heap.size + 1, 3, none⟩ = some (.bool bh.g) ∧ w'.cell? ⟨w.heap.size + 1, 4, none⟩ = some (.slice bh.p (dig B32 bh.m).length bh.c) ∧ w'.cell? ⟨w.heap.size + 1, 5, none⟩ = some (.int .i64 bh.e)))
    (first
      | with_reducible exact ⟨A.e6, B.e6⟩
      | with_reducible exact ⟨A.drew.e6, B.drew.e6⟩
      | with_reducible exact ⟨(A.drew.past hbx).e6, (B.drew.past hbx).e6⟩
      | with_reducible exact ⟨((A.drew.past hbx).past hby).e6, ((B.drew.past hbx).past hby).e6⟩
      | with_reducible exact ⟨(((A.drew.past hbx).past hby).laid _).e6, (((B.drew.past hbx).past hby).laid _).e6⟩
      | with_reducible exact ⟨(((A.drew.past hbx).past hby).past hbz).e6, (((B.drew.past hbx).past hby).past hbz).e6⟩
      | with_reducible exact ⟨((((A.drew.past hbx).past hby).past hbz).only (only6 _ _ _ _ _ _ _ _) (by omega)).e6, ((((B.drew.past hbx).past hby).past hbz).only (only6 _ _ _ _ _ _ _ _) (by omega)).e6⟩)
    (first
      | (go_at_call_of 84 (Value.agg #[.bool al.g, .slice al.p (dig B32 al.m).length al.c, .int .i64 al.e]); ((with_reducible refine (HL _ (h1.past hs1).drew (h3.past hs1).drew (hT.past hs1).drew hzd).out.mono ?_)); rintro ex wx ⟨rx, hrx, rfl, hwx, hbx⟩; have HRX := Lib.hid hrx; clear hrx)
      | (go_at_call_of 84 (Value.agg #[.bool ah.g, .slice ah.p (dig B32 ah.m).length ah.c, .int .i64 ah.e]); ((with_reducible refine (HH _ ((h2.past hs1).drew.past hbx) ((h4.past hs1).drew.past hbx) ((hT.past hs1).drew.past hbx) (Nat.le_trans hzd hbx.size)).out.mono ?_)); rintro ey wy ⟨ry, hry, rfl, hwy, hby⟩; have HRY := Lib.hid hry; clear hry)
      | (go_at_call 82; ((with_reducible refine (HA rx ry HRX.out HRY.out _ (hwx.past hby) hwy (((hT.past hs1).drew.past hbx).past hby) (Nat.le_trans (Nat.le_trans hzd hbx.size) hby.size)).out.mono ?_)); rintro ez wz ⟨pz, cz, qz, dz, rfl, hoz, hqz, hbz⟩; (have RR := ((R.drew.past hbx).past hby).past hbz); obtain ⟨R_0, R_1, R_2, R_3, R_4, R_5⟩ := RR.e6; (have R_f0 := RR.f 0); (have R_f1 := RR.f 1); (have R_f2 := RR.f 2); (have R_f3 := RR.f 3); (have R_f4 := RR.f 4); have R_f5 := RR.f 5))
  all_goals (go_wp2_with fail)
  all_goals (refine bodyPost_ret (v := .agg #[.bool rl.neg, .slice pz (dig B32 rl.m).length cz, .int .i64 rl.e, .bool rh.neg, .slice qz (dig B32 rh.m).length dz, .int .i64 rh.e]) (by simp [results, Tryd.results59, go_sem, R_0, R_1, R_2, R_3, R_4, R_5]) rfl ?_)
  have RT2 := ((RT.drew.past hbx).past hby).past hbz
  have hzx := Nat.le_trans hs1.size hbx.size
  exact givesB_close (((hs1.drew.trans (hbx.mono hs1.size)).trans (hby.mono hzx)).trans (hbz.mono (Nat.le_trans hzx hby.size))) hoz hqz (Nat.le_refl _) (by omega) (hoz.ne_tb RT2 (by decide)) (hqz.ne_tb RT2 (by decide))

set_option maxHeartbeats 8000000 in
set_option maxRecDepth 100000 in
theorem timesB_any (al ah bl bh : Rw) (b base : Nat) (w : World) (h1 : InW w base al) (h2 : InW w base ah) (h3 : InW w base bl) (h4 : InW w base bh) (s1 : Sm al) (s2 : Sm ah) (s3 : Sm bl) (s4 : Sm bh) (hb : b ≤ 5000) (hT : TabW w) (hbase : base ≤ w.heap.size) :
    Calls Tryd.prog 58 #[.agg #[.bool al.g, .slice al.p (dig B32 al.m).length al.c, .int .i64 al.e, .bool ah.g, .slice ah.p (dig B32 ah.m).length ah.c, .int .i64 ah.e], .agg #[.bool bl.g, .slice bl.p (dig B32 bl.m).length bl.c, .int .i64 bl.e, .bool bh.g, .slice bh.p (dig B32 bh.m).length bh.c, .int .i64 bh.e], .int .i64 b] w (GivesB w base (pCut (lowD (dTimes al.v bl.v) [dTimes al.v bh.v, dTimes ah.v bl.v, dTimes ah.v bh.v]) b false) (pCut (highD (dTimes al.v bl.v) [dTimes al.v bh.v, dTimes ah.v bl.v, dTimes ah.v bh.v]) b true)) := by
  have H11 := fun W k1 k2 k3 => Lib.hid (timesW_any al bl base W k1 k2 s1 s3 k3)
  have H12 := fun W k1 k2 k3 => Lib.hid (timesW_any al bh base W k1 k2 s1 s4 k3)
  have H21 := fun W k1 k2 k3 => Lib.hid (timesW_any ah bl base W k1 k2 s2 s3 k3)
  have H22 := fun W k1 k2 k3 => Lib.hid (timesW_any ah bh base W k1 k2 s2 s4 k3)
  generalize dTimes al.v bl.v = d0 at *
  generalize dTimes al.v bh.v = d1 at *
  generalize dTimes ah.v bl.v = d2 at *
  generalize dTimes ah.v bh.v = d3 at *
  have HA := fun (x y z t : Rw) (k0 : x.v = d0) (k1 : y.v = d1) (k2 : z.v = d2) (k3 : t.v = d3) B W m1 m2 m3 m4 k5 k6 => Lib.hid (show Calls _ _ _ _ (GivesB W B (pCut (lowD d0 [d1, d2, d3]) b false) (pCut (highD d0 [d1, d2, d3]) b true)) by have h := around4_any b B x y z t W m1 m2 m3 m4 (by omega) k5 k6; rw [k0, k1, k2, k3] at h; exact h)
  generalize pCut (lowD d0 [d1, d2, d3]) b false = rl at *
  generalize pCut (highD d0 [d1, d2, d3]) b true = rh at *
  go_enter Tryd.func58, Tryd.ntmps58
  go_upto_region 1 with (fail)
  refine wp_layT3 (fun W1 hs1 hz1 A B R RT => ?_)
  have hzd : base ≤ W1.drew.heap.size := Nat.le_trans hbase hs1.size
  have hzw : w.heap.size + 1 + 1 < W1.drew.heap.size := hz1
  have g1 := (h1.past hs1).drew
  have g2 := (h2.past hs1).drew
  have g3 := (h3.past hs1).drew
  have g4 := (h4.past hs1).drew
  have gT := (hT.past hs1).drew
  go_region_held3 (fun w' => (w'.cell? ⟨w.heap.size, 0, none⟩ = some (.bool al.g) ∧ w'.cell? ⟨w.heap.size, 1, none⟩ = some (.slice al.p (dig B32 al.m).length al.c) ∧ w'.cell? ⟨w.heap.size, 2, none⟩ = some (.int .i64 al.e) ∧ w'.cell? ⟨w.heap.size, 3, none⟩ = some (.bool ah.g) ∧ w'.cell? ⟨w.heap.size, 4, none⟩ = some (.slice ah.p (dig B32 ah.m).length ah.c) ∧ w'.cell? ⟨w.heap.size, 5, none⟩ = some (.int .i64 ah.e)) ∧
      (w'.cell? ⟨w.heap.size + 1, 0, none⟩ = some (.bool bl.g) ∧ w'.cell? ⟨w.heap.size + 1, 1, none⟩ = some (.slice bl.p (dig B32 bl.m).length bl.c) ∧ w'.cell? ⟨w.heap.size + 1, 2, none⟩ = some (.int .i64 bl.e) ∧ w'.cell? ⟨w.heap.size + 1, 3, none⟩ = some (.bool bh.g) ∧ w'.cell? ⟨w.heap.size + 1, 4, none⟩ = some (.slice bh.p (dig B32 bh.m).length bh.c) ∧ w'.cell? ⟨w.heap.size + 1, 5, none⟩ = some (.int .i64 bh.e)))
    (first
      | with_reducible exact ⟨A.e6, B.e6⟩
      | with_reducible exact ⟨A.drew.e6, B.drew.e6⟩
      | with_reducible exact ⟨(A.drew.past hb2).e6, (B.drew.past hb2).e6⟩
      | with_reducible exact ⟨((A.drew.past hb2).past hb3).e6, ((B.drew.past hb2).past hb3).e6⟩
      | with_reducible exact ⟨(((A.drew.past hb2).past hb3).past hb4).e6, (((B.drew.past hb2).past hb3).past hb4).e6⟩
      | with_reducible exact ⟨((((A.drew.past hb2).past hb3).past hb4).past hb5).e6, ((((B.drew.past hb2).past hb3).past hb4).past hb5).e6⟩
      | with_reducible exact ⟨(((((A.drew.past hb2).past hb3).past hb4).past hb5).laid _).e6, (((((B.drew.past hb2).past hb3).past hb4).past hb5).laid _).e6⟩
      | with_reducible exact ⟨(((((A.drew.past hb2).past hb3).past hb4).past hb5).past hbz).e6, (((((B.drew.past hb2).past hb3).past hb4).past hb5).past hbz).e6⟩
      | with_reducible exact ⟨((((((A.drew.past hb2).past hb3).past hb4).past hb5).past hbz).only (only6 _ _ _ _ _ _ _ _) (by omega)).e6, ((((((B.drew.past hb2).past hb3).past hb4).past hb5).past hbz).only (only6 _ _ _ _ _ _ _ _) (by omega)).e6⟩)
    (first
      | (go_at_call_of 83 (Value.agg #[.bool al.g, .slice al.p (dig B32 al.m).length al.c, .int .i64 al.e]); ((with_reducible refine (H11 _ g1 g3 gT).out.mono ?_)); rintro e2 w2 ⟨r2, hr2, rfl, hw2, hb2⟩; (have HR2 := Lib.hid hr2); clear hr2)
      | (go_at_call_of 83 (Value.agg #[.bool al.g, .slice al.p (dig B32 al.m).length al.c, .int .i64 al.e]); ((with_reducible refine (H12 _ (g1.past hb2) (g4.past hb2) (gT.past hb2)).out.mono ?_)); rintro e3 w3 ⟨r3, hr3, rfl, hw3, hb3⟩; (have HR3 := Lib.hid hr3); clear hr3)
      | (go_at_call_of 83 (Value.agg #[.bool ah.g, .slice ah.p (dig B32 ah.m).length ah.c, .int .i64 ah.e]); ((with_reducible refine (H21 _ ((g2.past hb2).past hb3) ((g3.past hb2).past hb3) ((gT.past hb2).past hb3)).out.mono ?_)); rintro e4 w4 ⟨r4, hr4, rfl, hw4, hb4⟩; (have HR4 := Lib.hid hr4); clear hr4)
      | (go_at_call_of 83 (Value.agg #[.bool ah.g, .slice ah.p (dig B32 ah.m).length ah.c, .int .i64 ah.e]); ((with_reducible refine (H22 _ (((g2.past hb2).past hb3).past hb4) (((g4.past hb2).past hb3).past hb4) (((gT.past hb2).past hb3).past hb4)).out.mono ?_)); rintro e5 w5 ⟨r5, hr5, rfl, hw5, hb5⟩; (have HR5 := Lib.hid hr5); clear hr5)
      | (go_at_call 82; (have z2 := hb2.size); (have z3 := hb3.size); (have z4 := hb4.size); (have z5 := hb5.size); ((with_reducible refine (HA r2 r3 r4 r5 HR2.out HR3.out HR4.out HR5.out W1.drew.heap.size _ (((hw2.past hb3).past hb4).past hb5) (((hw3.mono z2).past hb4).past hb5) ((hw4.mono (Nat.le_trans z2 z3)).past hb5) (hw5.mono (Nat.le_trans (Nat.le_trans z2 z3) z4)) ((((gT.past hb2).past hb3).past hb4).past hb5) (Nat.le_trans (Nat.le_trans (Nat.le_trans z2 z3) z4) z5)).out.mono ?_)); rintro ez wz ⟨pz, cz, qz, dz, rfl, hoz, hqz, hbz⟩; (have RR := ((((R.drew.past hb2).past hb3).past hb4).past hb5).past hbz); obtain ⟨R_0, R_1, R_2, R_3, R_4, R_5⟩ := RR.e6; (have R_f0 := RR.f 0); (have R_f1 := RR.f 1); (have R_f2 := RR.f 2); (have R_f3 := RR.f 3); (have R_f4 := RR.f 4); have R_f5 := RR.f 5))
  all_goals (go_wp2_with fail)
  all_goals (refine bodyPost_ret (v := .agg #[.bool rl.neg, .slice pz (dig B32 rl.m).length cz, .int .i64 rl.e, .bool rh.neg, .slice qz (dig B32 rh.m).length dz, .int .i64 rh.e]) (by simp [results, Tryd.results58, go_sem, R_0, R_1, R_2, R_3, R_4, R_5]) rfl ?_)
  have y2 := Nat.le_trans hs1.size hb2.size
  have y3 := Nat.le_trans y2 hb3.size
  have y4 := Nat.le_trans y3 hb4.size
  have y5 := Nat.le_trans y4 hb5.size
  exact givesB_close (((((hs1.drew.trans (hb2.mono hs1.size)).trans (hb3.mono y2)).trans (hb4.mono y3)).trans (hb5.mono y4)).trans (hbz.mono y5)) hoz hqz hzd (by omega) (fun h => by have := (hoz.blk_lt h).1; omega) (fun h => by have := (hqz.blk_lt h).1; omega)

end Go.Proofs.YtehodhanojgkgaaDoor

namespace Go.Proofs.YtehodhanojgkgaaDoor
open Go.RowKit Go.Slip

end Go.Proofs.YtehodhanojgkgaaDoor
