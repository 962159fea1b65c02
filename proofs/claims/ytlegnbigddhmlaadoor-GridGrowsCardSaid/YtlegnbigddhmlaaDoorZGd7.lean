/- dyad.Whole, Opposite; grid.Number. -/
import Derived.Test.YtlegnbigddhmlaaDoorZGd6
import Derived.Test.YtlegnbigddhmlaaDoorZB
import Derived.Test.YtlegnbigddhmlaaDoorZF
namespace Go.Proofs.YtlegnbigddhmlaaDoor
open Go.RowKit Go.Slip

theorem _root_.Go.Slip.Bx.b3 {w : World} {b : Nat} {v0 v1 v2 : Value} (h : Bx w b #[v0, v1, v2]) : Box3 w b v0 v1 v2 :=
  ⟨h.e3.1, h.e3.2.1, h.e3.2.2, h.f 0, h.f 1, h.f 2, h.lt⟩

set_option maxHeartbeats 1000000 in
theorem wholeD_any (p : Option Addr) (n c : Nat) (e : Int) (m : Nat) (w : World) (hp : Rd w .u32 p (dig B32 m)) (hn : n = (dig B32 m).length) (hc : n ≤ c) (hl : (dig B32 m).length ≤ 10000000)
    (he : -1000000000 ≤ e ∧ e ≤ 1000000000) (hT : TabW w) :
    Calls Tryd.prog 50 #[.slice p n c, .int .i64 e] w (GivesD w w.heap.size (bare ⟨false, m, e⟩)) := by
  subst hn
  go_enter Tryd.func50, Tryd.ntmps50
  go_wp2_with fail
  refine calls_lay1 (fun W1 hb1 hz1 R => ?_)
  replace hp := hp.past hb1
  replace hT := hT.past hb1
  have hs1 := hb1
  ((with_reducible refine (bareRaw_any false p _ c e m _ hp rfl hc hl he hT).mono ?_))
  generalize bare ⟨false, m, e⟩ = r at *
  rintro e2 w2 ⟨p2, c2, rfl, ho2, hb2⟩
  replace R := R.past hb2
  obtain ⟨R_0, R_1, R_2⟩ := R.e3
  have R_f0 := R.f 0
  have R_f1 := R.f 1
  have R_f2 := R.f 2
  go_wp2_with fail
  clear R_0 R_1 R_2 R_f0 R_f1 R_f2
  obtain ⟨R_0, R_1, R_2⟩ := R.e3
  refine bodyPost_ret (v := .agg #[.bool r.neg, .slice p2 (dig B32 r.m).length c2, .int .i64 r.e]) (by simp [results, Tryd.results50, go_sem, R_0, R_1, R_2]) rfl ?_
  have hz := hs1.size
  exact givesD_close (hs1.trans (hb2.mono hs1.size)) ho2 hz (Nat.le_refl _) (fun h => by have := (ho2.blk_lt h).1; omega)


set_option maxHeartbeats 1000000 in
theorem oppD_any (g : Bool) (p : Option Addr) (n c : Nat) (e : Int) (m : Nat) (w : World) (hn : n = (dig B32 m).length) :
    Calls Tryd.prog 38 #[.agg #[.bool g, .slice p n c, .int .i64 e]] w fun en w' => en = .returned (.agg #[.bool (dMinus ⟨g, m, e⟩).neg, .slice p (dig B32 m).length c, .int .i64 e]) ∧ Below w.heap.size w w' := by
  subst hn
  have hz := dig_len_zero B32_two m
  have A := (bx_new w #[.bool g, .slice p (dig B32 m).length c, .int .i64 e] 72).b3
  cases g
  · by_cases h0 : 0 < (dig B32 m).length
    · have t1 : decide ((0 : Int) < ((dig B32 m).length : Int)) = true := decide_eq_true (by omega)
      have hd : (dMinus ⟨false, m, e⟩).neg = true := by unfold dMinus; simp; (try omega)
      rw [hd]
      clear hd hz
      obtain ⟨A_0, A_1, A_2, A_f0, A_f1, A_f2, A_lt⟩ := A
      go_enter Tryd.func38, Tryd.ntmps38
      go_wp2_with fail
      refine bodyPost_ret (v := .agg #[.bool true, .slice p (dig B32 m).length c, .int .i64 e]) (by simp [results, Tryd.results38, go_sem]) rfl ?_
      exact ⟨rfl, below_lay2 _ _ _⟩
    · have t1 : decide ((0 : Int) < ((dig B32 m).length : Int)) = false := decide_eq_false (by omega)
      have hd : (dMinus ⟨false, m, e⟩).neg = false := by unfold dMinus; simp; (try omega)
      rw [hd]
      clear hd hz
      obtain ⟨A_0, A_1, A_2, A_f0, A_f1, A_f2, A_lt⟩ := A
      go_enter Tryd.func38, Tryd.ntmps38
      go_wp2_with fail
      refine bodyPost_ret (v := .agg #[.bool false, .slice p (dig B32 m).length c, .int .i64 e]) (by simp [results, Tryd.results38, go_sem]) rfl ?_
      exact ⟨rfl, below_lay2 _ _ _⟩
  · have t1 := True.intro
    have hd : (dMinus ⟨true, m, e⟩).neg = false := by unfold dMinus; simp; (try omega)
    rw [hd]
    clear hd hz
    obtain ⟨A_0, A_1, A_2, A_f0, A_f1, A_f2, A_lt⟩ := A
    go_enter Tryd.func38, Tryd.ntmps38
    go_wp2_with fail
    refine bodyPost_ret (v := .agg #[.bool false, .slice p (dig B32 m).length c, .int .i64 e]) (by simp [results, Tryd.results38, go_sem]) rfl ?_
    exact ⟨rfl, below_lay2 _ _ _⟩

/-- A place as it came. -/
structure Pin where
  g : Bool
  p : Option Addr
  c : Nat
  xs : List Nat
  k : Int
  x : Bool
  o : Bool
  u : Bool

structure InP (w : World) (a : Pin) : Prop where
  rd : Rd w .u32 a.p a.xs
  cap : a.xs.length ≤ a.c
  len : a.xs.length ≤ 9223372036854775807
  lt : ∀ x ∈ a.xs, x < B32

theorem InP.past {w w' : World} {a : Pin} (h : InP w a) (hb : Below w.heap.size w w') : InP w' a := ⟨h.rd.past hb, h.cap, h.len, h.lt⟩

/-- What is wrong ahead. -/
def errNum (a : Pin) (g : Gd) : Int := if errNat a.xs ≠ 0 then errNat a.xs else if errG g ≠ 0 then errG g else if a.k < -20000 ∨ 20000 < a.k then 3 else 0
def numV (a : Pin) (g : Gd) : Dv := bare ⟨a.g, val B32 a.xs, wid g * a.k⟩

theorem minus_bare (m : Nat) (e : Int) : dMinus (bare ⟨false, m, e⟩) = bare ⟨true, m, e⟩ := by
  unfold bare dMinus
  by_cases h : m = 0
  · simp [h]
  · have := (tz_spec m (by omega)).2
    simp only [if_neg h]
    have h2 : 0 < m / 2 ^ tz m := by
      generalize m / 2 ^ tz m = q at *
      omega
    simp [h2]


set_option maxHeartbeats 8000000 in
set_option maxRecDepth 100000 in
theorem number_any (a : Pin) (g : Gd) (w : World) (ha : InP w a) (hT : TabW w) :
    Calls Tryd.prog 27 #[.agg #[.bool a.g, .slice a.p a.xs.length a.c, .int .i64 a.k, .bool a.x, .bool a.o, .bool a.u], .agg #[.int .i64 g.rad, .int .i64 g.digs, .int .i64 g.lo, .int .i64 g.hi, .bool g.grad]] w (GivesDE w w.heap.size (doneOne (errNum a g) (numV a g)) (errOne (errNum a g) (numV a g))) := by
  have HCG := fun W => Lib.hid (gridCheck_any g W)
  have HWD := fun W => Lib.hid (width_any g W)
  have HCX := fun W (h : Rd W .u32 a.p a.xs) => Lib.hid (natCheck1_any a.p a.xs.length a.c a.xs W h rfl ha.len)
  unfold doneOne errOne
  by_cases h0 : errNum a g = 0
  · rw [if_pos h0, if_pos h0]
    unfold errNum at h0
    have hx0 : errNat a.xs = 0 := by
      by_cases h : errNat a.xs = 0
      · exact h
      · rw [if_pos h] at h0; exact absurd h0 h
    rw [hx0, if_neg (by simp)] at h0
    have hg0 : errG g = 0 := by
      by_cases h : errG g = 0
      · exact h
      · rw [if_pos h] at h0; exact absurd h0 h
    rw [hg0, if_neg (by simp)] at h0
    have hk0 : -20000 ≤ a.k ∧ a.k ≤ 20000 := by
      by_cases h : a.k < -20000 ∨ 20000 < a.k
      · rw [if_pos h] at h0; simp at h0
      · omega
    obtain ⟨hk1, hk2⟩ := hk0
    have t2 := wiB_true (n := a.k) (m := 20000) (by omega) (by omega)
    obtain ⟨ex, lx⟩ := errNat_ok ha.lt hx0
    have wp := wid_pos g
    have hm := mul_bd (k := a.k) wp.2 (B := 20000) ⟨by omega, by omega⟩
    obtain ⟨r, hr⟩ : ∃ r, numV a g = r := ⟨_, rfl⟩
    have HRV := Lib.hid hr
    rw [hr]
    have lr : (dig B32 r.m).length ≤ 1200 := by
      rw [← hr]; unfold numV
      refine Nat.le_trans (bare_len B32_two _) ?_
      simp only
      rw [← ex]; exact lx
    rw [hx0] at HCX
    rw [hg0] at HCG
    unfold numV at hr
    generalize wid g = wd at *
    generalize val B32 a.xs = m at *
    have HX := Lib.hid ex
    have hca := ha.cap
    have HR := Lib.hid hr
    clear hx0 hg0 h0 ex hr
    go_enter Tryd.func27, Tryd.ntmps27
    go_wp2_with fail
    refine calls_lay3 (fun W1 hb1 hz1 P G R => ?_)
    replace ha := ha.past hb1
    replace hT := hT.past hb1
    have hs1 := hb1
    obtain ⟨P_0, P_1, P_2, P_3, P_4, P_5⟩ := P.e6
    go_wp2_with fail
    clear P_0 P_1 P_2 P_3 P_4 P_5
    ((with_reducible refine ((HCX _ ha.rd).out).mono ?_))
    rintro e2 w2 ⟨rfl, hb2⟩
    replace P := P.past hb2
    replace G := G.past hb2
    replace R := R.past hb2
    replace ha := ha.past hb2
    replace hT := hT.past hb2
    have hs2 := hs1.trans (hb2.mono hs1.size)
    obtain ⟨G_0, G_1, G_2, G_3, G_4⟩ := G.e5
    go_wp2_with fail
    clear G_0 G_1 G_2 G_3 G_4
    ((with_reducible refine ((HCG _).out).mono ?_))
    rintro e3 w3 ⟨rfl, hb3⟩
    replace P := P.past hb3
    replace G := G.past hb3
    replace R := R.past hb3
    replace ha := ha.past hb3
    replace hT := hT.past hb3
    have hs3 := hs2.trans (hb3.mono hs2.size)
    obtain ⟨P_0, P_1, P_2, P_3, P_4, P_5⟩ := P.e6
    go_wp2_with fail
    clear P_0 P_1 P_2 P_3 P_4 P_5
    ((with_reducible refine ((within_any a.k 20000 _ (by omega))).mono ?_))
    rintro _ _ ⟨rfl, rfl⟩
    go_wp2_with fail
    have e0 : IntKind.i64.wrap ((wd : Int) * a.k) = (wd : Int) * a.k := IntWalk.i64_in _ (by omega)
    have lx2 : (dig B32 m).length ≤ 10000000 := by rw [← HX.out]; omega
    have hx3 : Rd w3 .u32 a.p (dig B32 m) := by rw [← HX.out]; exact ha.rd
    have HLX := Lib.hid (show a.xs.length = (dig B32 m).length by rw [← HX.out])
    have hmb : -1000000000 ≤ (wd : Int) * a.k ∧ (wd : Int) * a.k ≤ 1000000000 := ⟨by omega, by omega⟩
    obtain ⟨r0, hr0⟩ : ∃ r0, bare ⟨false, m, (wd : Int) * a.k⟩ = r0 := ⟨_, rfl⟩
    have HR0 := Lib.hid hr0
    clear hr0
    have hRl := R.lt
    have hzd : w3.drew.heap.size = w3.heap.size := rfl
    have HZD := Lib.hid hzd
    clear hzd
    go_cut [8] (fun s8 wx => ∃ (kx : Nat) (px : Option Addr) (cx : Nat), s8 = .pointer (some ⟨kx, 0, none⟩) ∧ Bx wx kx #[.bool r0.neg, .slice px (dig B32 r0.m).length cx, .int .i64 r0.e] ∧ w3.heap.size ≤ kx ∧ Own wx w3.heap.size .u32 46 px cx (dig B32 r0.m) ∧ (px.isSome = true → blk px ≠ kx) ∧ Below w3.heap.size w3 wx)
    case first =>
      go_region_held3 (fun w' => (w'.cell? ⟨w.heap.size, 0, none⟩ = some (.bool a.g) ∧ w'.cell? ⟨w.heap.size, 1, none⟩ = some (.slice a.p a.xs.length a.c) ∧ w'.cell? ⟨w.heap.size, 2, none⟩ = some (.int .i64 a.k) ∧ w'.cell? ⟨w.heap.size, 3, none⟩ = some (.bool a.x) ∧ w'.cell? ⟨w.heap.size, 4, none⟩ = some (.bool a.o) ∧ w'.cell? ⟨w.heap.size, 5, none⟩ = some (.bool a.u)) ∧
        (w'.cell? ⟨w.heap.size + 1, 0, none⟩ = some (.int .i64 g.rad) ∧ w'.cell? ⟨w.heap.size + 1, 1, none⟩ = some (.int .i64 g.digs) ∧ w'.cell? ⟨w.heap.size + 1, 2, none⟩ = some (.int .i64 g.lo) ∧ w'.cell? ⟨w.heap.size + 1, 3, none⟩ = some (.int .i64 g.hi) ∧ w'.cell? ⟨w.heap.size + 1, 4, none⟩ = some (.bool g.grad)))
        (first
        | with_reducible exact ⟨P.e6, G.e5⟩
        | with_reducible exact ⟨(P.drew).e6, (G.drew).e5⟩
        | with_reducible exact ⟨((P.laid _).drew).e6, ((G.laid _).drew).e5⟩
        | with_reducible exact ⟨(((P.laid _).drew).past hbx).e6, (((G.laid _).drew).past hbx).e5⟩
        | with_reducible exact ⟨((P.drew).past hbx).e6, ((G.drew).past hbx).e5⟩
        | with_reducible exact ⟨(((P.drew).past hbx).laid _).e6, (((G.drew).past hbx).laid _).e5⟩
        | with_reducible exact ⟨((((P.laid _).drew).past hbx).past hby).e6, ((((G.laid _).drew).past hbx).past hby).e5⟩
        | with_reducible exact ⟨((((P.drew).past hbx).laid _).past hby).e6, ((((G.drew).past hbx).laid _).past hby).e5⟩
        | with_reducible exact ⟨(((P.drew).past hbx).past hby).e6, (((G.drew).past hbx).past hby).e5⟩
        | with_reducible exact ⟨((((P.drew).past hbx).past hby).laid _).e6, ((((G.drew).past hbx).past hby).laid _).e5⟩
        | with_reducible exact ⟨(((((P.laid _).drew).past hbx).past hby).only (only3 _ _ _ _ _) (by omega)).e6, (((((G.laid _).drew).past hbx).past hby).only (only3 _ _ _ _ _) (by omega)).e5⟩
        | with_reducible exact ⟨(((((P.drew).past hbx).laid _).past hby).only (only3 _ _ _ _ _) (by omega)).e6, (((((G.drew).past hbx).laid _).past hby).only (only3 _ _ _ _ _) (by omega)).e5⟩)
        (first
          | (go_at_call 51; ((with_reducible refine (HWD _).out.mono ?_)); rintro ex wx ⟨rfl, hbx⟩; (have hzx : w3.heap.size ≤ wx.heap.size := by have := hbx.size; simp at this; omega))
          | (go_at_call 50; (first
              | with_reducible refine (wholeD_any a.p _ a.c _ m _ (hx3.drew.past hbx) HLX.out hca lx2 hmb (hT.drew.past hbx)).mono ?_
              | with_reducible refine (wholeD_any a.p _ a.c _ m _ ((hx3.laid _).drew.past hbx) HLX.out hca lx2 hmb ((hT.laid _).drew.past hbx)).mono ?_
              | with_reducible refine (wholeD_any a.p _ a.c _ m _ ((hx3.drew.past hbx).laid _) HLX.out hca lx2 hmb ((hT.drew.past hbx).laid _)).mono ?_); rw [HR0.out]; rintro ey wy ⟨py, cy, rfl, hoy, hby⟩; (first
              | (have XX := (bx_new w3 #[.bool false, .slice none 0 0, .int .i64 0] 72).drew.past hbx |>.past hby; obtain ⟨X_0, X_1, X_2⟩ := XX.e3; have X_f0 := XX.f 0; have X_f1 := XX.f 1; have X_f2 := XX.f 2)
              | (have XX := (bx_new wx #[.bool false, .slice none 0 0, .int .i64 0] 72).past hby; obtain ⟨X_0, X_1, X_2⟩ := XX.e3; have X_f0 := XX.f 0; have X_f1 := XX.f 1; have X_f2 := XX.f 2)
              | skip)))
      all_goals (clear e0)
      all_goals (go_wp2_with fail)
      all_goals go_meet
      · have hzy := hby.size
        exact ⟨wy.heap.size, py, cy, rfl, bx_new wy _ _, by omega, (hoy.laid _).mono hzx, fun h => by have := (hoy.blk_lt h).2; omega,
          (((Below.refl w3.heap.size w3).drew.trans hbx).trans (hby.mono hzx)).trans ((below_lay1 wy _).mono (by omega))⟩
      · have hzy := hby.size
        rw [World.size_alloc] at hzy
        have hO := only3 wy wx.heap.size (.bool r0.neg) (.slice py (dig B32 r0.m).length cy) (.int .i64 r0.e)
        exact ⟨wx.heap.size, py, cy, rfl, XX.put3 _ _ _, hzx, (hoy.only hO (fun h => by have := (hoy.blk_lt h).1; rw [World.size_alloc] at this; omega)).mono (by rw [World.size_alloc]; omega), fun h => by have := (hoy.blk_lt h).1; rw [World.size_alloc] at this; omega,
          ((((Below.refl w3.heap.size w3).drew.trans hbx).trans ((below_lay1 wx _).mono hzx)).trans (hby.mono (by rw [World.size_alloc]; omega))).trans (hO.below hzx)⟩
      · have hzy := hby.size
        have hzl : w3.heap.size < wx.heap.size := by have := hbx.size; simp at this; omega
        have hO := only3 wy w3.heap.size (.bool r0.neg) (.slice py (dig B32 r0.m).length cy) (.int .i64 r0.e)
        exact ⟨w3.heap.size, py, cy, rfl, XX.put3 _ _ _, Nat.le_refl _, (hoy.only hO (fun h => by have := (hoy.blk_lt h).1; omega)).mono hzx, fun h => by have := (hoy.blk_lt h).1; omega,
          ((((below_lay1 w3 _).drew).trans (hbx.mono (by simp))).trans (hby.mono hzx)).trans (hO.below (Nat.le_refl _))⟩
    case rest =>
      clear e0
      obtain ⟨kx, px, cx, rfl, X, hkx, hox, hnx, hbc⟩ := hcut
      have hs4 := hs3.trans (hbc.mono hs3.size)
      have hz3 := hs3.size
      replace P := P.past hbc
      replace G := G.past hbc
      replace R := R.past hbc
      replace hT := hT.past hbc
      have hXl := X.lt
      have hbz := hbc.size
      by_cases hg : a.g = true
      · have er : r = dMinus r0 := by
          rw [← HR.out, ← HR0.out, minus_bare, hg]
        have lr0 : (dig B32 r0.m).length ≤ 1200 := by
          have : r0.m = r.m := by rw [er]; rfl
          rw [this]; exact lr
        clear er
        have HER : Hid (r = dMinus r0) := by
          show r = dMinus r0
          rw [← HR.out, ← HR0.out, minus_bare, hg]
        have HOP : Hid (Calls Tryd.prog 38 #[.agg #[.bool r0.neg, .slice px (dig B32 r0.m).length cx, .int .i64 r0.e]] wc fun en w' => en = .returned (.agg #[.bool r.neg, .slice px (dig B32 r.m).length cx, .int .i64 r.e]) ∧ Below wc.heap.size wc w') := by
          have h := oppD_any r0.neg px _ cx r0.e r0.m wc rfl
          rw [HER.out]
          exact h
        have hox2 : Own wc w3.heap.size .u32 46 px cx (dig B32 r.m) := by rw [HER.out]; exact hox
        clear HER
        obtain ⟨P_0, P_1, P_2, P_3, P_4, P_5⟩ := P.e6
        obtain ⟨X_0, X_1, X_2⟩ := X.e3
        go_wp2_with fail
        clear P_0 P_1 P_2 P_3 P_4 P_5 X_0 X_1 X_2
        ((with_reducible refine HOP.out.mono ?_))
        rintro e12 w12 ⟨rfl, hb12⟩
        have ho12 := hox2.past hb12
        have hs12 := hs4.trans (hb12.mono hs4.size)
        replace R := R.past hb12
        replace X := X.past hb12
        obtain ⟨X_0, X_1, X_2⟩ := X.e3
        have X_f0 := X.f 0
        have X_f1 := X.f 1
        have X_f2 := X.f 2
        go_wp2_with fail
        clear X_0 X_1 X_2 X_f0 X_f1 X_f2
        refine calls_put3 X (fun W13 hO13 X => ?_)
        replace R := R.only hO13 (by omega)
        replace ho12 := ho12.only hO13 hnx
        have hs13 := hs12.trans (hO13.below (B := w.heap.size) (by omega))
        ((with_reducible refine (doneR_any r.neg px _ cx _ r.e r.m _ ho12 rfl (by omega)).mono ?_))
        rintro e14 w14 ⟨p14, c14, rfl, ho14, hb14⟩
        have hs14 := hs13.trans (hb14.mono hs13.size)
        replace R := R.past hb14
        obtain ⟨R_0, R_1, R_2⟩ := R.e3
        have R_f0 := R.f 0
        have R_f1 := R.f 1
        have R_f2 := R.f 2
        go_wp2_with fail
        clear R_0 R_1 R_2 R_f0 R_f1 R_f2
        obtain ⟨R_0, R_1, R_2⟩ := R.e3
        refine bodyPost_ret (v := .tuple #[.agg #[.bool (doneD r).neg, .slice p14 (dig B32 (doneD r).m).length c14, .int .i64 (doneD r).e], .int .i64 (errD r)]) (by simp [results, Tryd.results27, go_sem, R_0, R_1, R_2]) rfl ?_
        exact givesDE_close hs14 ho14 hz3 (by omega) (fun h => by have := (ho14.blk_lt h).1; omega)
      · have hg2 : a.g = false := by simpa using hg
        clear hg
        have er : r0 = r := by rw [← HR.out, ← HR0.out, hg2]
        subst er
        obtain ⟨P_0, P_1, P_2, P_3, P_4, P_5⟩ := P.e6
        obtain ⟨X_0, X_1, X_2⟩ := X.e3
        go_wp2_with fail
        clear P_0 P_1 P_2 P_3 P_4 P_5 X_0 X_1 X_2
        ((with_reducible refine (doneR_any r0.neg px _ cx _ r0.e r0.m _ hox rfl (by omega)).mono ?_))
        rintro e14 w14 ⟨p14, c14, rfl, ho14, hb14⟩
        have hs14 := hs4.trans (hb14.mono hs4.size)
        replace R := R.past hb14
        obtain ⟨R_0, R_1, R_2⟩ := R.e3
        have R_f0 := R.f 0
        have R_f1 := R.f 1
        have R_f2 := R.f 2
        go_wp2_with fail
        clear R_0 R_1 R_2 R_f0 R_f1 R_f2
        obtain ⟨R_0, R_1, R_2⟩ := R.e3
        refine bodyPost_ret (v := .tuple #[.agg #[.bool (doneD r0).neg, .slice p14 (dig B32 (doneD r0).m).length c14, .int .i64 (doneD r0).e], .int .i64 (errD r0)]) (by simp [results, Tryd.results27, go_sem, R_0, R_1, R_2]) rfl ?_
        exact givesDE_close hs14 ho14 hz3 (by omega) (fun h => by have := (ho14.blk_lt h).1; omega)
  · rw [if_neg h0, if_neg h0]
    obtain ⟨e1, he1⟩ : ∃ e1, errNat a.xs = e1 := ⟨_, rfl⟩
    obtain ⟨e2, he2⟩ : ∃ e2, errG g = e2 := ⟨_, rfl⟩
    rw [he1] at HCX
    rw [he2] at HCG
    by_cases h1 : e1 = 0
    · by_cases h2 : e2 = 0
      · have hk : a.k < -20000 ∨ 20000 < a.k := by
          unfold errNum at h0
          rw [he1, h1, he2, h2, if_neg (by simp), if_neg (by simp)] at h0
          by_cases h : a.k < -20000 ∨ 20000 < a.k
          · exact h
          · rw [if_neg h] at h0; simp at h0
        have he : errNum a g = 3 := by unfold errNum; rw [he1, h1, he2, h2, if_neg (by simp), if_neg (by simp), if_pos hk]
        have t2 := wiB_false hk
        subst h1 h2
        rw [he]
        clear h0 he1 he2 hk he
        go_enter Tryd.func27, Tryd.ntmps27
        go_wp2_with fail
        refine calls_lay3 (fun W1 hb1 hz1 P G R => ?_)
        replace ha := ha.past hb1
        replace hT := hT.past hb1
        have hs1 := hb1
        obtain ⟨P_0, P_1, P_2, P_3, P_4, P_5⟩ := P.e6
        go_wp2_with fail
        clear P_0 P_1 P_2 P_3 P_4 P_5
        ((with_reducible refine ((HCX _ ha.rd).out).mono ?_))
        rintro e2 w2 ⟨rfl, hb2⟩
        replace P := P.past hb2
        replace G := G.past hb2
        replace R := R.past hb2
        replace ha := ha.past hb2
        replace hT := hT.past hb2
        have hs2 := hs1.trans (hb2.mono hs1.size)
        obtain ⟨G_0, G_1, G_2, G_3, G_4⟩ := G.e5
        go_wp2_with fail
        clear G_0 G_1 G_2 G_3 G_4
        ((with_reducible refine ((HCG _).out).mono ?_))
        rintro e3 w3 ⟨rfl, hb3⟩
        replace P := P.past hb3
        replace G := G.past hb3
        replace R := R.past hb3
        replace ha := ha.past hb3
        replace hT := hT.past hb3
        have hs3 := hs2.trans (hb3.mono hs2.size)
        obtain ⟨P_0, P_1, P_2, P_3, P_4, P_5⟩ := P.e6
        go_wp2_with fail
        clear P_0 P_1 P_2 P_3 P_4 P_5
        ((with_reducible refine ((within_any a.k 20000 _ (by omega))).mono ?_))
        rintro _ _ ⟨rfl, rfl⟩
        obtain ⟨R_0, R_1, R_2⟩ := R.e3
        have R_f0 := R.f 0
        have R_f1 := R.f 1
        have R_f2 := R.f 2
        go_wp2_with fail
        clear R_0 R_1 R_2 R_f0 R_f1 R_f2
        obtain ⟨R_0, R_1, R_2⟩ := R.e3
        refine bodyPost_ret (v := .tuple #[.agg #[.bool false, .slice none 0 0, .int .i64 0], .int .i64 3]) (by simp [results, Tryd.results27, go_sem, R_0, R_1, R_2]) rfl ?_
        exact givesDE_put0 hs3 (by omega)
      · have he : errNum a g = e2 := by unfold errNum; rw [he1, h1, he2, if_neg (by simp), if_pos h2]
        have t1 : (e2 == 0) = false := beq_eq_false_iff_ne.2 h2
        have t2 : (e2 != 0) = true := by rw [bne, t1]; rfl
        subst h1
        rw [he]
        clear h0 he1 he2 he h2
        go_enter Tryd.func27, Tryd.ntmps27
        go_wp2_with fail
        refine calls_lay3 (fun W1 hb1 hz1 P G R => ?_)
        replace ha := ha.past hb1
        replace hT := hT.past hb1
        have hs1 := hb1
        obtain ⟨P_0, P_1, P_2, P_3, P_4, P_5⟩ := P.e6
        go_wp2_with fail
        clear P_0 P_1 P_2 P_3 P_4 P_5
        ((with_reducible refine ((HCX _ ha.rd).out).mono ?_))
        rintro e2 w2 ⟨rfl, hb2⟩
        replace P := P.past hb2
        replace G := G.past hb2
        replace R := R.past hb2
        replace ha := ha.past hb2
        replace hT := hT.past hb2
        have hs2 := hs1.trans (hb2.mono hs1.size)
        obtain ⟨G_0, G_1, G_2, G_3, G_4⟩ := G.e5
        go_wp2_with fail
        clear G_0 G_1 G_2 G_3 G_4
        ((with_reducible refine ((HCG _).out).mono ?_))
        rintro e3 w3 ⟨rfl, hb3⟩
        replace P := P.past hb3
        replace G := G.past hb3
        replace R := R.past hb3
        replace ha := ha.past hb3
        replace hT := hT.past hb3
        have hs3 := hs2.trans (hb3.mono hs2.size)
        obtain ⟨R_0, R_1, R_2⟩ := R.e3
        have R_f0 := R.f 0
        have R_f1 := R.f 1
        have R_f2 := R.f 2
        go_wp2_with fail
        clear R_0 R_1 R_2 R_f0 R_f1 R_f2
        obtain ⟨R_0, R_1, R_2⟩ := R.e3
        refine bodyPost_ret (v := .tuple #[.agg #[.bool false, .slice none 0 0, .int .i64 0], .int .i64 e2]) (by simp [results, Tryd.results27, go_sem, R_0, R_1, R_2]) rfl ?_
        exact givesDE_put0 hs3 (by omega)
    · have he : errNum a g = e1 := by unfold errNum; rw [he1, if_pos h1]
      have t1 : (e1 == 0) = false := beq_eq_false_iff_ne.2 h1
      have t2 : (e1 != 0) = true := by rw [bne, t1]; rfl
      rw [he]
      clear h0 he1 he2 he h1
      go_enter Tryd.func27, Tryd.ntmps27
      go_wp2_with fail
      refine calls_lay3 (fun W1 hb1 hz1 P G R => ?_)
      replace ha := ha.past hb1
      replace hT := hT.past hb1
      have hs1 := hb1
      obtain ⟨P_0, P_1, P_2, P_3, P_4, P_5⟩ := P.e6
      go_wp2_with fail
      clear P_0 P_1 P_2 P_3 P_4 P_5
      ((with_reducible refine ((HCX _ ha.rd).out).mono ?_))
      rintro e2 w2 ⟨rfl, hb2⟩
      replace P := P.past hb2
      replace G := G.past hb2
      replace R := R.past hb2
      replace ha := ha.past hb2
      replace hT := hT.past hb2
      have hs2 := hs1.trans (hb2.mono hs1.size)
      obtain ⟨R_0, R_1, R_2⟩ := R.e3
      have R_f0 := R.f 0
      have R_f1 := R.f 1
      have R_f2 := R.f 2
      go_wp2_with fail
      clear R_0 R_1 R_2 R_f0 R_f1 R_f2
      obtain ⟨R_0, R_1, R_2⟩ := R.e3
      refine bodyPost_ret (v := .tuple #[.agg #[.bool false, .slice none 0 0, .int .i64 0], .int .i64 e1]) (by simp [results, Tryd.results27, go_sem, R_0, R_1, R_2]) rfl ?_
      exact givesDE_put0 hs2 (by omega)

end Go.Proofs.YtlegnbigddhmlaaDoor
