/- grid: Round.
   dyad.Whole, Opposite; grid.Number.
   grid: ratio, Keeps, check, Holds.
   grid: least.
   grid: After.
   references: CheckGrid, Width, Away, IsWay, CheckRatio.
   The references' sum.
   The references' comparison, length in bits, difference.
   Noughts behind a list of digits to the base of 65536. Plain arithmetic. No program is in sight here.
   references: InGrid.
   The references' powers of 2 and shifts.
   The references' Bared, OfDyad.
   The references' difference.
   The references' DPlus.
   The references' DTimes, Minus, DCmp, FloorOf.
   The references' DCmp.
   references: StepOf.
   codec: width, raw, number.
   codec: value, bare: what parts are worth.
   codec: decode, open, Decode, Class, Size, Grid. -/
import Derived.Deep.LoopGhost
import Derived.Lib.Strings
import Derived.Lib.Slices
import Derived.Lib.Small
import Derived.Lib.Walk
import Derived.Lib.BitFns
import Derived.Test.YtcipdimogodndaaDoorZv1
import Derived.Test.YtcipdimogodndaaDoorZv2
import Derived.Test.YtcipdimogodndaaDoorZv3
import Derived.Test.YtcipdimogodndaaDoorZv4
import Derived.Test.YtcipdimogodndaaDoorZv5
namespace Go.Proofs.YtcipdimogodndaaDoor
open Go.RowKit Go.Slip

structure Rin where
  g : Bool
  p : Option Addr
  c : Nat
  xs : List Nat
  q : Option Addr
  d : Nat
  ys : List Nat
  e : Int

structure InR (w : World) (a : Rin) : Prop where
  r1 : Rd w .u32 a.p a.xs
  l1 : a.xs.length ≤ 9223372036854775807
  b1 : ∀ x ∈ a.xs, x < B32
  r2 : Rd w .u32 a.q a.ys
  l2 : a.ys.length ≤ 9223372036854775807
  b2 : ∀ x ∈ a.ys, x < B32

theorem InR.past {w w' : World} {a : Rin} (h : InR w a) (hb : Below w.heap.size w w') : InR w' a := ⟨h.r1.past hb, h.l1, h.b1, h.r2.past hb, h.l2, h.b2⟩

end Go.Proofs.YtcipdimogodndaaDoor

namespace Go.Proofs.YtcipdimogodndaaDoor
open Go.RowKit Go.Slip

theorem _root_.Go.Slip.Bx.b3 {w : World} {b : Nat} {v0 v1 v2 : Value} (h : Bx w b #[v0, v1, v2]) : Box3 w b v0 v1 v2 :=
  ⟨h.e3.1, h.e3.2.1, h.e3.2.2, h.f 0, h.f 1, h.f 2, h.lt⟩

set_option maxHeartbeats 1000000 in
theorem wholeD_any (p : Option Addr) (n c : Nat) (e : Int) (m : Nat) (w : World) (hp : Rd w .u32 p (dig B32 m)) (hn : n = (dig B32 m).length) (hc : n ≤ c) (hl : (dig B32 m).length ≤ 10000000)
    (he : -1000000000 ≤ e ∧ e ≤ 1000000000) (hT : TabW w) :
    Calls Tryd.prog 117 #[.slice p n c, .int .i64 e] w (GivesD w w.heap.size (bare ⟨false, m, e⟩)) := by
  subst hn
  go_enter Tryd.func117, Tryd.ntmps117
  go_wp2_with fail
  refine calls_lay1 (fun W1 hb1 hz1 R => ?_)
  replace hp := hp.past hb1
  replace hT := hT.past hb1
  have hs1 := hb1
  ((with_reducible refine (bareRaw_any false p _ c e m _ hp rfl hc hl he hT).mono ?_))
  generalize bare ⟨false, m, e⟩ = r at *
  rintro e2 w2 ⟨p2, c2, rfl, ho2, hb2⟩
  replace R := R.past hb2
  obtain ⟨R_0, R_1, R_2⟩ := R.e3
  have R_f0 := R.f 0
  have R_f1 := R.f 1
  have R_f2 := R.f 2
  go_wp2_with fail
  clear R_0 R_1 R_2 R_f0 R_f1 R_f2
  obtain ⟨R_0, R_1, R_2⟩ := R.e3
  refine bodyPost_ret (v := .agg #[.bool r.neg, .slice p2 (dig B32 r.m).length c2, .int .i64 r.e]) (by simp [results, Tryd.results117, go_sem, R_0, R_1, R_2]) rfl ?_
  have hz := hs1.size
  exact givesD_close (hs1.trans (hb2.mono hs1.size)) ho2 hz (Nat.le_refl _) (fun h => by have := (ho2.blk_lt h).1; omega)

structure Pin where
  g : Bool
  p : Option Addr
  c : Nat
  xs : List Nat
  k : Int
  x : Bool
  o : Bool
  u : Bool

structure InP (w : World) (a : Pin) : Prop where
  rd : Rd w .u32 a.p a.xs
  cap : a.xs.length ≤ a.c
  len : a.xs.length ≤ 9223372036854775807
  lt : ∀ x ∈ a.xs, x < B32

theorem InP.past {w w' : World} {a : Pin} (h : InP w a) (hb : Below w.heap.size w w') : InP w' a := ⟨h.rd.past hb, h.cap, h.len, h.lt⟩

end Go.Proofs.YtcipdimogodndaaDoor

namespace Go.Proofs.YtcipdimogodndaaDoor
open Go.RowKit Go.Slip

set_option maxHeartbeats 2000000 in
set_option maxRecDepth 100000 in
theorem gratio_any (g : Bool) (p : Option Addr) (n c : Nat) (e : Int) (w : World) :
    Calls Tryd.prog 116 #[.agg #[.bool g, .slice p n c, .int .i64 e]] w fun en w' => ∃ q d, en = .returned (.agg #[.bool g, .slice p n c, .slice q (dig B32 1).length d, .int .i64 e]) ∧ Own w' w.heap.size .u32 91 q d (dig B32 1) ∧ Below w.heap.size w w' := by
  go_enter Tryd.func116, Tryd.ntmps116
  go_wp2_with fail
  refine wp_lay2 (fun W1 hb1 hz1 A R => ?_)
  have hs1 := hb1
  have hzd : W1.drew.heap.size = W1.heap.size := rfl
  have HZD := Lib.hid hzd
  clear hzd
  go_region_held3 (fun w' => w'.cell? ⟨w.heap.size, 0, none⟩ = some (.bool g) ∧ w'.cell? ⟨w.heap.size, 1, none⟩ = some (.slice p n c) ∧ w'.cell? ⟨w.heap.size, 2, none⟩ = some (.int .i64 e))
    (first
      | with_reducible exact A.e3
      | with_reducible exact A.drew.e3
      | with_reducible exact (A.drew.past hbx).e3
      | with_reducible exact ((A.drew.past hbx).only (only4 _ _ _ _ _ _) (by omega)).e3)
    (first
      | (go_at_call 96; ((with_reducible refine (gof_one _).mono ?_)); rintro ex wx ⟨px, cx, rfl, hox, hbx⟩; (have RR := R.drew.past hbx); obtain ⟨R_0, R_1, R_2, R_3⟩ := RR.e4; (have R_f0 := RR.f 0); (have R_f1 := RR.f 1); (have R_f2 := RR.f 2); (have R_f3 := RR.f 3)))
  all_goals (go_wp2_with fail)
  refine bodyPost_ret (v := .agg #[.bool g, .slice p n c, .slice px (dig B32 1).length cx, .int .i64 e]) (by simp [results, Tryd.results116, go_sem, R_0, R_1, R_2, R_3]) rfl ?_
  have hzd := HZD.out
  have hO := only4 wx (w.heap.size + 1) (.bool g) (.slice p n c) (.slice px (dig B32 1).length cx) (.int .i64 e)
  have hz := hs1.size
  exact ⟨px, cx, rfl, (hox.only hO (fun h => by have := (hox.blk_lt h).1; omega)).mono (by omega), (hs1.drew.trans (hbx.mono hz)).trans (hO.below (by omega))⟩

set_option maxHeartbeats 8000000 in
set_option maxRecDepth 100000 in
theorem gkeeps_any (s : Bool) (p : Option Addr) (c : Nat) (e : Int) (m : Nat) (g : Gd) (w : World) (hp : Rd w .u32 p (dig B32 m)) (hl : (dig B32 m).length ≤ 100000) (he : -1000000 ≤ e ∧ e ≤ 1000000) (G : GoodG g) :
    Calls Tryd.prog 70 #[.agg #[.bool s, .slice p (dig B32 m).length c, .int .i64 e], .agg #[.int .i64 g.rad, .int .i64 g.digs, .int .i64 g.lo, .int .i64 g.hi, .bool g.grad]] w fun en w' => en = .returned (.bool (keepsD ⟨s, m, e⟩ g)) ∧ Below w.heap.size w w' := by
  by_cases h0 : m = 0
  · have hk : keepsD ⟨s, m, e⟩ g = true := by unfold keepsD; rw [if_pos h0]
    have HS := Lib.hid (show dSign ⟨s, m, e⟩ = 0 by unfold dSign; rw [if_pos h0])
    rw [hk]
    clear hk h0
    go_enter Tryd.func70, Tryd.ntmps70
    go_wp2_with fail
    refine calls_lay2 (fun W1 hb1 hz1 A B => ?_)
    have hs1 := hb1
    ((with_reducible refine (signD_any s p _ c e m _ rfl).mono ?_))
    rintro e2 w2 ⟨rfl, hb2⟩
    rw [HS.out]
    go_wp2
    go_ret
    exact ⟨rfl, hs1.trans (hb2.mono hs1.size)⟩
  · have hsg := dSign_pos (g := s) (e := e) (show 0 < m by omega)
    have wp := wid_pos g
    have hd1 := G.d1
    have hK := isK_one (show 0 < m by omega) e (w := wid g) (D := g.digs.toNat) wp.1 (by omega)
    have hl1 : (dig B32 1).length ≤ 1 := by rw [dig_len_le B32_two]; unfold B32; omega
    have HF := fun W q d (h1 : Rd W .u32 p (dig B32 m)) (h2 : Rd W .u32 q (dig B32 1)) => Lib.hid (fit_any s p q c d m 1 e g 3 _ W h1 h2 hl (by omega) (by omega) (by omega) he G (by omega) (by omega) hK)
    have hkk : keepsD ⟨s, m, e⟩ g = ((fitK s m 1 e g 3 ((e + blen m - 1) / wid g - g.digs.toNat + 1)).exact && !(fitK s m 1 e g 3 ((e + blen m - 1) / wid g - g.digs.toNat + 1)).over && (!(fitK s m 1 e g 3 ((e + blen m - 1) / wid g - g.digs.toNat + 1)).under || g.grad)) := by
      unfold keepsD
      rw [if_neg h0]
      rfl
    rw [hkk]
    generalize fitK s m 1 e g 3 ((e + blen m - 1) / wid g - g.digs.toNat + 1) = pf at *
    clear hkk h0 hK hd1 wp
    generalize hds : dSign ⟨s, m, e⟩ = sg0 at *
    have HSG := Lib.hid hds
    clear hds
    go_enter Tryd.func70, Tryd.ntmps70
    go_wp2_with fail
    refine calls_lay2 (fun W1 hb1 hz1 A B => ?_)
    replace hp := hp.past hb1
    have hs1 := hb1
    ((with_reducible refine (signD_any s p _ c e m _ rfl).mono ?_))
    rintro e2 w2 ⟨rfl, hb2⟩
    rw [HSG.out]
    replace A := A.past hb2
    replace B := B.past hb2
    replace hp := hp.past hb2
    have hs2 := hs1.trans (hb2.mono hs1.size)
    go_wp2_with fail
    have hAl := A.lt
    have hBl := B.lt
    have hzd : w2.drew.heap.size = w2.heap.size := rfl
    have HZD := Lib.hid hzd
    clear hzd
    go_cut [5] (fun s5 wx => ∃ (kx : Nat) (px : Option Addr) (cx : Nat), s5 = .pointer (some ⟨kx, 0, none⟩) ∧ Bx wx kx #[.bool pf.neg, .slice px (dig B32 pf.d).length cx, .int .i64 pf.pow, .bool pf.exact, .bool pf.over, .bool pf.under] ∧ w2.heap.size ≤ kx ∧ Below w2.heap.size w2 wx)
    case first =>
      go_region_held3 (fun w' => (w'.cell? ⟨w.heap.size, 0, none⟩ = some (.bool s) ∧ w'.cell? ⟨w.heap.size, 1, none⟩ = some (.slice p (dig B32 m).length c) ∧ w'.cell? ⟨w.heap.size, 2, none⟩ = some (.int .i64 e)) ∧
          (w'.cell? ⟨w.heap.size + 1, 0, none⟩ = some (.int .i64 g.rad) ∧ w'.cell? ⟨w.heap.size + 1, 1, none⟩ = some (.int .i64 g.digs) ∧ w'.cell? ⟨w.heap.size + 1, 2, none⟩ = some (.int .i64 g.lo) ∧ w'.cell? ⟨w.heap.size + 1, 3, none⟩ = some (.int .i64 g.hi) ∧ w'.cell? ⟨w.heap.size + 1, 4, none⟩ = some (.bool g.grad)))
        (first
        | with_reducible exact ⟨A.e3, B.e5⟩
        | with_reducible exact ⟨(A.drew).e3, (B.drew).e5⟩
        | with_reducible exact ⟨((A.laid _).drew).e3, ((B.laid _).drew).e5⟩
        | with_reducible exact ⟨(((A.laid _).drew).past hbx).e3, (((B.laid _).drew).past hbx).e5⟩
        | with_reducible exact ⟨((A.drew).past hbx).e3, ((B.drew).past hbx).e5⟩
        | with_reducible exact ⟨(((A.drew).past hbx).laid _).e3, (((B.drew).past hbx).laid _).e5⟩
        | with_reducible exact ⟨((((A.laid _).drew).past hbx).past hby).e3, ((((B.laid _).drew).past hbx).past hby).e5⟩
        | with_reducible exact ⟨((((A.drew).past hbx).laid _).past hby).e3, ((((B.drew).past hbx).laid _).past hby).e5⟩
        | with_reducible exact ⟨(((A.drew).past hbx).past hby).e3, (((B.drew).past hbx).past hby).e5⟩
        | with_reducible exact ⟨((((A.drew).past hbx).past hby).laid _).e3, ((((B.drew).past hbx).past hby).laid _).e5⟩
        | with_reducible exact ⟨(((((A.laid _).drew).past hbx).past hby).only (only6 _ _ _ _ _ _ _ _) (by omega)).e3, (((((B.laid _).drew).past hbx).past hby).only (only6 _ _ _ _ _ _ _ _) (by omega)).e5⟩
        | with_reducible exact ⟨(((((A.drew).past hbx).laid _).past hby).only (only6 _ _ _ _ _ _ _ _) (by omega)).e3, (((((B.drew).past hbx).laid _).past hby).only (only6 _ _ _ _ _ _ _ _) (by omega)).e5⟩)
        (first
          | (go_at_call 116; ((with_reducible refine (gratio_any s p _ c e _).mono ?_)); rintro ex wx ⟨qx, dx, rfl, hox, hbx⟩; (have hzx : w2.heap.size ≤ wx.heap.size := by have := hbx.size; simp at this; omega))
          | (go_at_call 57; (first
              | with_reducible refine (HF _ qx dx (hp.drew.past hbx) hox.rd).out.mono ?_
              | with_reducible refine (HF _ qx dx ((hp.laid _).drew.past hbx) hox.rd).out.mono ?_
              | with_reducible refine (HF _ qx dx ((hp.drew.past hbx).laid _) (hox.rd.laid _)).out.mono ?_); rintro ey wy ⟨py, cy, rfl, hoy, hby⟩; (first
              | (have XX := (bx_new w2 #[.bool false, .slice none 0 0, .int .i64 0, .bool false, .bool false, .bool false] 50).drew.past hbx |>.past hby; obtain ⟨X_0, X_1, X_2, X_3, X_4, X_5⟩ := XX.e6; have X_f0 := XX.f 0; have X_f1 := XX.f 1; have X_f2 := XX.f 2; have X_f3 := XX.f 3; have X_f4 := XX.f 4; have X_f5 := XX.f 5)
              | (have XX := (bx_new wx #[.bool false, .slice none 0 0, .int .i64 0, .bool false, .bool false, .bool false] 50).past hby; obtain ⟨X_0, X_1, X_2, X_3, X_4, X_5⟩ := XX.e6; have X_f0 := XX.f 0; have X_f1 := XX.f 1; have X_f2 := XX.f 2; have X_f3 := XX.f 3; have X_f4 := XX.f 4; have X_f5 := XX.f 5)
              | skip)))
      all_goals (go_wp2_with fail)
      all_goals go_meet
      · have hzy := hby.size
        exact ⟨wy.heap.size, py, cy, rfl, bx_new wy _ _, by omega, (((Below.refl w2.heap.size w2).drew.trans hbx).trans (hby.mono hzx)).trans ((below_lay1 wy _).mono (by omega))⟩
      · have hzy := hby.size
        rw [World.size_alloc] at hzy
        have hO := only6 wy wx.heap.size (.bool pf.neg) (.slice py (dig B32 pf.d).length cy) (.int .i64 pf.pow) (.bool pf.exact) (.bool pf.over) (.bool pf.under)
        exact ⟨wx.heap.size, py, cy, rfl, XX.put6 _ _ _ _ _ _, hzx, ((((Below.refl w2.heap.size w2).drew.trans hbx).trans ((below_lay1 wx _).mono hzx)).trans (hby.mono (by rw [World.size_alloc]; omega))).trans (hO.below hzx)⟩
      · have hzy := hby.size
        have hO := only6 wy w2.heap.size (.bool pf.neg) (.slice py (dig B32 pf.d).length cy) (.int .i64 pf.pow) (.bool pf.exact) (.bool pf.over) (.bool pf.under)
        exact ⟨w2.heap.size, py, cy, rfl, XX.put6 _ _ _ _ _ _, Nat.le_refl _, ((((below_lay1 w2 _).drew).trans (hbx.mono (by simp))).trans (hby.mono hzx)).trans (hO.below (Nat.le_refl _))⟩
    case rest =>
      obtain ⟨kx, px, cx, rfl, X, hkx, hbc⟩ := hcut
      have hs4 := hs2.trans (hbc.mono hs2.size)
      replace B := B.past hbc
      clear hbc
      obtain ⟨png, pd, ppw, pex, pov, pun⟩ := pf
      obtain ⟨X_0, X_1, X_2, X_3, X_4, X_5⟩ := X.e6
      obtain ⟨B_0, B_1, B_2, B_3, B_4⟩ := B.e5
      simp only at X_3 X_4 X_5 ⊢
      clear HF
      generalize hgr : g.grad = gr at *
      have HGR := Lib.hid hgr
      clear hgr
      cases pex <;> cases pov <;> cases pun <;> cases gr <;> (go_wp2; go_ret; exact ⟨by first | rfl | (rw [HGR.out]; rfl), hs4⟩)

end Go.Proofs.YtcipdimogodndaaDoor

namespace Go.Proofs.YtcipdimogodndaaDoor
open Go.RowKit Go.Slip

theorem bare_one (g : Bool) (e : Int) : bare ⟨g, 1, e⟩ = ⟨g, 1, e⟩ := by
  unfold bare
  rw [if_neg (show ¬ (1 : Nat) = 0 by omega), tz_odd (show 1 % 2 = 1 by omega)]
  simp

theorem whole_one (p : Option Addr) (c base : Nat) (e : Int) (w : World) (hp : Own w base .u32 91 p c (dig B32 1)) (he : -1000000000 ≤ e ∧ e ≤ 1000000000) (hT : TabW w) :
    Calls Tryd.prog 117 #[.slice p (dig B32 1).length c, .int .i64 e] w (GivesD w w.heap.size (oneD e)) := by
  have h := wholeD_any p _ c e 1 w hp.rd rfl hp.le_cap (by rw [dig_len_le B32_two]; unfold B32; omega) he hT
  rw [bare_one] at h
  exact h

set_option maxHeartbeats 4000000 in
set_option maxRecDepth 100000 in
theorem gleast_any (g : Gd) (w : World) (G : GoodG g) (hT : TabW w) :
    Calls Tryd.prog 122 #[.agg #[.int .i64 g.rad, .int .i64 g.digs, .int .i64 g.lo, .int .i64 g.hi, .bool g.grad]] w (GivesD w w.heap.size (leastD g)) := by
  obtain ⟨_, gd1, gd2, gl1, gl2, gh1, gh2, gle⟩ := G
  have wp := wid_pos g
  have HWD := fun W => Lib.hid (width_any g W)
  unfold leastD
  obtain ⟨rad, digs, lo, hi, grad⟩ := g
  simp only at *
  generalize wid ⟨rad, digs, lo, hi, grad⟩ = wd at *
  have hlo := mul_bd (k := lo) wp.2 (B := 17000) ⟨by omega, by omega⟩
  have hdg := mul_bd (k := digs - 1) wp.2 (B := 200) ⟨by omega, by omega⟩
  have hes : (wd : Int) * (lo + (digs - 1)) = wd * lo + wd * (digs - 1) := Int.mul_add _ _ _
  have e0 : IntKind.i64.wrap ((wd : Int) * lo) = (wd : Int) * lo := IntWalk.i64_in _ (by omega)
  have HES := Lib.hid hes
  clear hes
  obtain ⟨E, hE0⟩ : ∃ E, (wd : Int) * (lo + if grad = true then 0 else digs - 1) = E := ⟨_, rfl⟩
  rw [hE0]
  have HE := Lib.hid hE0
  clear hE0
  go_enter Tryd.func122, Tryd.ntmps122
  go_wp2_with fail
  refine wp_lay2 (fun W1 hb1 hz1 G R => ?_)
  replace hT := hT.past hb1
  have hs1 := hb1
  have hGlt := G.lt
  go_region_held3 (fun w' => (w'.cell? ⟨w.heap.size, 0, none⟩ = some (.int .i64 rad) ∧ w'.cell? ⟨w.heap.size, 1, none⟩ = some (.int .i64 digs) ∧ w'.cell? ⟨w.heap.size, 2, none⟩ = some (.int .i64 lo) ∧ w'.cell? ⟨w.heap.size, 3, none⟩ = some (.int .i64 hi) ∧ w'.cell? ⟨w.heap.size, 4, none⟩ = some (.bool grad)))
    (first
    | with_reducible exact G.e5
    | with_reducible exact G.drew.e5
    | with_reducible exact (G.drew.past hbx).e5)
    (first
      | (go_at_call 103; ((with_reducible refine (HWD _).out.mono ?_)); rintro ex wx ⟨rfl, hbx⟩))
  have hs2 := hs1.drew.trans (hbx.mono hs1.size)
  replace G := G.drew.past hbx
  replace R := R.drew.past hbx
  replace hT := hT.drew.past hbx
  clear e0
  cases grad
  · have e1 : IntKind.i64.wrap (digs - 1) = digs - 1 := IntWalk.i64_in _ (by omega)
    have e2 : IntKind.i64.wrap ((wd : Int) * (digs - 1)) = (wd : Int) * (digs - 1) := IntWalk.i64_in _ (by omega)
    have e3 : IntKind.i64.wrap ((wd : Int) * lo + (wd : Int) * (digs - 1)) = E := by rw [← HE.out, if_neg (by simp), HES.out]; exact IntWalk.i64_in _ (by omega)
    have hEb : -1000000000 ≤ E ∧ E ≤ 1000000000 := by rw [← HE.out, if_neg (by simp), HES.out]; omega
    obtain ⟨G_0, G_1, G_2, G_3, G_4⟩ := G.e5
    go_wp2_with fail
    clear G_0 G_1 G_2 G_3 G_4
    go_region_held3 (fun w' => (w'.cell? ⟨w.heap.size, 0, none⟩ = some (.int .i64 rad) ∧ w'.cell? ⟨w.heap.size, 1, none⟩ = some (.int .i64 digs) ∧ w'.cell? ⟨w.heap.size, 2, none⟩ = some (.int .i64 lo) ∧ w'.cell? ⟨w.heap.size, 3, none⟩ = some (.int .i64 hi) ∧ w'.cell? ⟨w.heap.size, 4, none⟩ = some (.bool false)))
      (first
      | with_reducible exact G.e5
      | with_reducible exact G.drew.e5
      | with_reducible exact (G.drew.past hby).e5)
      (first
        | (go_at_call 103; ((with_reducible refine (HWD _).out.mono ?_)); rintro ey wy ⟨rfl, hby⟩))
    have hsz := hs2.drew.trans (hby.mono hs2.size)
    replace R := R.drew.past hby
    replace hT := hT.drew.past hby
    clear e1 e2 e3
    have HRL : Hid (w.heap.size + 1 < wy.heap.size) := R.lt
    go_wp2_with fail
    ((with_reducible refine (gof_one _).mono ?_))
    rintro e7 w7 ⟨p7, c7, rfl, ho7, hb7⟩
    have hs7 := hsz.trans (hb7.mono hsz.size)
    replace R := R.past hb7
    replace hT := hT.past hb7
    go_wp2_with fail
    ((with_reducible refine (whole_one p7 c7 _ E _ ho7 (by omega) hT).mono ?_))
    unfold oneD
    rintro e8 w8 ⟨p8, c8, rfl, ho8, hb8⟩
    have hs8 := hs7.trans (hb8.mono hs7.size)
    replace R := R.past hb8
    obtain ⟨R_0, R_1, R_2⟩ := R.e3
    have R_f0 := R.f 0
    have R_f1 := R.f 1
    have R_f2 := R.f 2
    go_wp2_with fail
    clear R_0 R_1 R_2 R_f0 R_f1 R_f2
    obtain ⟨R_0, R_1, R_2⟩ := R.e3
    have hz := hs1.size
    refine bodyPost_ret (v := .agg #[.bool false, .slice p8 (dig B32 1).length c8, .int .i64 (E)]) (by simp [results, Tryd.results122, go_sem, R_0, R_1, R_2]) rfl ?_
    exact givesD_close (d := ⟨false, 1, E⟩) hs8 ho8 (by have := hs7.size; omega) (by omega) (fun h => by have := (ho8.blk_lt h).1; have := hb7.size; have := HRL.out; omega)
  · have hsz := hs2
    have HRL : Hid (w.heap.size + 1 < wx.heap.size) := R.lt
    have e4 : (wd : Int) * lo = E := by rw [← HE.out, if_pos rfl, Int.add_zero]
    have hEb : -1000000000 ≤ E ∧ E ≤ 1000000000 := by rw [← e4]; omega
    rw [e4]
    clear e4
    obtain ⟨G_0, G_1, G_2, G_3, G_4⟩ := G.e5
    go_wp2_with fail
    clear G_0 G_1 G_2 G_3 G_4
    ((with_reducible refine (gof_one _).mono ?_))
    rintro e7 w7 ⟨p7, c7, rfl, ho7, hb7⟩
    have hs7 := hsz.trans (hb7.mono hsz.size)
    replace R := R.past hb7
    replace hT := hT.past hb7
    go_wp2_with fail
    ((with_reducible refine (whole_one p7 c7 _ E _ ho7 (by omega) hT).mono ?_))
    unfold oneD
    rintro e8 w8 ⟨p8, c8, rfl, ho8, hb8⟩
    have hs8 := hs7.trans (hb8.mono hs7.size)
    replace R := R.past hb8
    obtain ⟨R_0, R_1, R_2⟩ := R.e3
    have R_f0 := R.f 0
    have R_f1 := R.f 1
    have R_f2 := R.f 2
    go_wp2_with fail
    clear R_0 R_1 R_2 R_f0 R_f1 R_f2
    obtain ⟨R_0, R_1, R_2⟩ := R.e3
    have hz := hs1.size
    refine bodyPost_ret (v := .agg #[.bool false, .slice p8 (dig B32 1).length c8, .int .i64 (E)]) (by simp [results, Tryd.results122, go_sem, R_0, R_1, R_2]) rfl ?_
    exact givesD_close (d := ⟨false, 1, E⟩) hs8 ho8 (by have := hs7.size; omega) (by omega) (fun h => by have := (ho8.blk_lt h).1; have := hb7.size; have := HRL.out; omega)

end Go.Proofs.YtcipdimogodndaaDoor

namespace Go.Slip

theorem fit_step {s : Bool} {m : Nat} {e : Int} {g : Gd} (G : GoodG g) (hin : inGridD ⟨s, m, e⟩ g = true) (h0 : m ≠ 0) :
    (fitK s m 1 e g 3 ((e + blen m - 1) / wid g - g.digs.toNat + 1)).d = qP m 1 (e - wid g * stepK ⟨s, m, e⟩ g) ∧
    ((fitK s m 1 e g 3 ((e + blen m - 1) / wid g - g.digs.toNat + 1)).d ≠ 0 → (fitK s m 1 e g 3 ((e + blen m - 1) / wid g - g.digs.toNat + 1)).pow = stepK ⟨s, m, e⟩ g) ∧
    (fitK s m 1 e g 3 ((e + blen m - 1) / wid g - g.digs.toNat + 1)).d ≠ 0 := by
  have hb := step_bd G hin h0
  simp only at hb
  have hp : powK g ((e + blen m - 1) / wid g - g.digs.toNat + 1) = stepK ⟨s, m, e⟩ g := by
    have eK : stepK ⟨s, m, e⟩ g = max g.lo ((e + blen m - 1) / wid g - g.digs.toNat + 1) := rfl
    rw [eK]
    unfold powK
    by_cases h1 : (e + blen m - 1) / wid g - g.digs.toNat + 1 < g.lo
    · by_cases h2 : g.grad = true
      · rw [if_pos ⟨h1, h2⟩]; omega
      · exfalso
        unfold inGridD at hin
        rw [if_neg h0] at hin
        have eU : upK ⟨s, m, e⟩ (wid g) g.digs.toNat = (e + blen m - 1) / wid g - g.digs.toNat + 1 := rfl
        rw [eU] at hin
        rw [if_pos h1, if_neg h2] at hin
        simp at hin
    · rw [if_neg (fun h => h1 h.1)]; omega
  unfold fitK
  simp only
  rw [hp, digP_zero, powP_zero]
  have hq : qP m 1 (e - wid g * stepK ⟨s, m, e⟩ g) ≠ 0 := by
    unfold qP numP denP
    rw [show (-(e - wid g * stepK ⟨s, m, e⟩ g)).toNat = 0 by omega, Nat.pow_zero, Nat.mul_one, Nat.div_one]
    have := Nat.mul_pos (show 0 < m by omega) (Nat.pow_pos (n := (e - wid g * stepK ⟨s, m, e⟩ g).toNat) (show 0 < 2 by omega))
    omega
  exact ⟨rfl, fun h => by rw [if_neg h], hq⟩

end Go.Slip
namespace Go.Proofs.YtcipdimogodndaaDoor
open Go.RowKit Go.Slip

set_option maxHeartbeats 4000000 in
set_option maxRecDepth 100000 in
theorem gafter_any (s : Bool) (p : Option Addr) (c base m : Nat) (e : Int) (g : Gd) (w : World) (hp : Own w base .u32 91 p c (dig B32 m)) (hB : Bare ⟨s, m, e⟩) (hl : (dig B32 m).length ≤ 1200) (he : -60000 ≤ e ∧ e ≤ 60000) (G : GoodG g)
    (hin : inGridD ⟨s, m, e⟩ g = true) (hT : TabW w) (hbase : base ≤ w.heap.size) :
    Calls Tryd.prog 84 #[.agg #[.bool s, .slice p (dig B32 m).length c, .int .i64 e], .agg #[.int .i64 g.rad, .int .i64 g.digs, .int .i64 g.lo, .int .i64 g.hi, .bool g.grad]] w (GivesDB w base (pStep ⟨s, m, e⟩ g).1 (pStep ⟨s, m, e⟩ g).2) := by
  have hS0 : dSign ⟨s, m, e⟩ = 0 ↔ m = 0 := by unfold dSign; by_cases h : m = 0 <;> cases s <;> simp [h]
  have HS := fun W => Lib.hid (signD_any s p _ c e m W rfl)
  generalize dSign ⟨s, m, e⟩ = S at *
  by_cases h0 : m = 0
  · have hk : pStep ⟨s, m, e⟩ g = (leastD g, true) := by unfold pStep; rw [if_pos h0]
    rw [hk]
    clear hin hB
    have I := Inv.start w [ownF base .u32 91 p c (dig B32 m), tabF] ⟨hp, hT, True.intro⟩
    refine zstart [.v (.agg #[.bool s, .slice p (dig B32 m).length c, .int .i64 e]), .v (.agg #[.int .i64 g.rad, .int .i64 g.digs, .int .i64 g.lo, .int .i64 g.hi, .bool g.grad])] I Tryd.func84 ?_
    refine zg I (fun Al W I => width_any g _) fun Al V Iv hz hB K k => ?_
    rintro _ W ⟨rfl, hb⟩
    refine ⟨_, rfl, k _ _ hb fun I => ?_⟩
    clear k K
    refine zg I (fun Al W I => (HS _).out) fun Al V Iv hz hB K k => ?_
    rintro _ W ⟨rfl, hb⟩
    refine ⟨_, rfl, k _ _ hb fun I => ?_⟩
    clear k K
    refine zb I 13 (S == 0) (true) (by simpa using hS0.2 h0) fun Al W I => ?_
    refine zg I (fun Al W I => gleast_any g _ G I.fa.2.1) fun Al V Iv hz hB K k => ?_
    rintro _ W ⟨p15, c15, rfl, ho15, hb⟩
    refine ⟨_, rfl, k _ _ hb fun I => ?_⟩
    clear k K
    have I := I.ownB base ho15
    exact zret I fun Al W I => ⟨p15, c15, rfl, I.fa.1.mono (by omega), I.below⟩
  · have hb := step_bd G hin h0
    obtain ⟨f1, f2, f3⟩ := fit_step G hin h0
    have f4 := f2 f3
    rw [← f4] at f1
    have hd2 := G.d2
    have hgl1 := G.l1
    have hgh2 := G.h2
    have fdl := fun K hK => fit_d_lt (neg := s) (num := m) (den := 1) (e := e) (g := g) (way := 3) (K := K) (by omega) G hK
    have wp := wid_pos g
    have hd1 := G.d1
    have hK := isK_one (show 0 < m by omega) e (w := wid g) (D := g.digs.toNat) wp.1 (by omega)
    have hl1 : (dig B32 1).length ≤ 1 := by rw [dig_len_le B32_two]; unfold B32; omega
    have hS1 : (S == 0) = false := beq_eq_false_iff_ne.2 (fun h => h0 (hS0.1 h))
    have hbd := sum_bd hB h0 (E := wid g * stepK ⟨s, m, e⟩ g) hl he ⟨by simp only at hb ⊢; omega, by simp only at hb ⊢; omega⟩
    replace fdl := fdl _ hK
    have ldp : (dig B32 (fitK s m 1 e g 3 ((e + blen m - 1) / wid g - g.digs.toNat + 1)).d).length ≤ 16 := Nat.le_trans (dig_len_mono B32_two (Nat.le_of_lt fdl)) (pow_small_len (Nat.mul_le_mul (show wid g ≤ 4 from wp.2) (show g.digs.toNat ≤ 120 by omega)))
    clear fdl
    have hmu := mul_bd (k := stepK ⟨s, m, e⟩ g) wp.2 (B := 17000) ⟨by have := G.l1; omega, by have := G.h2; omega⟩
    have HF := fun W q d (h1 : Rd W .u32 p (dig B32 m)) (h2 : Rd W .u32 q (dig B32 1)) => Lib.hid (fit_any s p q c d m 1 e g 3 _ W h1 h2 (by omega) (by omega) (by omega) (by omega) (by omega) G (by omega) (by omega) hK)
    rw [← f4] at hbd hmu
    generalize fitK s m 1 e g 3 ((e + blen m - 1) / wid g - g.digs.toNat + 1) = pf at *
    have hq := sum_bd hB h0 (E := wid g * (pf.pow - 1)) hl he ⟨by rw [Int.mul_sub]; simp only at hb ⊢; rw [f4]; omega, by rw [Int.mul_sub]; simp only at hb ⊢; rw [f4]; omega⟩
    have hmu2 := mul_bd (k := pf.pow - 1) wp.2 (B := 17001) ⟨by have := G.l1; omega, by have := G.h2; omega⟩
    have hlow : g.lo ≤ pf.pow := by have := hb.2.2.1; rw [f4]; exact this
    obtain ⟨N, hN⟩ : ∃ N : Nat, wid g * (g.digs.toNat - 1) = N := ⟨_, rfl⟩
    have hk : pStep ⟨s, m, e⟩ g = if s = false then (rPlus ⟨s, m, e⟩ (oneD (wid g * pf.pow)), keepsD (rPlus ⟨s, m, e⟩ (oneD (wid g * pf.pow))) g) else
        if pf.d = 2 ^ N ∧ (g.lo < pf.pow ∨ g.grad = false) then
        (if pf.pow = g.lo then (⟨false, 0, 0⟩, true) else (rPlus ⟨s, m, e⟩ (oneD (wid g * (pf.pow - 1))), keepsD (rPlus ⟨s, m, e⟩ (oneD (wid g * (pf.pow - 1)))) g))
        else (rPlus ⟨s, m, e⟩ (oneD (wid g * pf.pow)), keepsD (rPlus ⟨s, m, e⟩ (oneD (wid g * pf.pow))) g) := by
      unfold pStep; rw [if_neg h0, ← f4]; simp only; rw [← f1, keeps_eq hbd.2.1 G, keeps_eq hq.2.1 G, hN]
    have hNi : (wid g : Int) * (g.digs - 1) = N := by
      rw [← hN, Int.natCast_mul]
      congr 1
      have := G.d1
      omega
    have hNb : N ≤ 480 := by rw [← hN]; exact Nat.mul_le_mul (show wid g ≤ 4 from wp.2) (show g.digs.toNat - 1 ≤ 120 by have := G.d2; omega)
    have eN : IntKind.i64.wrap ((wid g : Int) * (g.digs - 1)) = (N : Int) := by rw [hNi]; exact IntWalk.i64_in _ (by omega)
    have l2N : (dig B32 (1 * 2 ^ N)).length ≤ 100 := by have := len_shl 1 N; omega
    have HC := fun W p1 c1 q1 d1 h1 h2 => Lib.hid (cmp_any p1 q1 _ _ c1 d1 pf.d (1 * 2 ^ N) W h1 h2 rfl rfl (by omega) (by omega))
    have hC0 : cmpN pf.d (1 * 2 ^ N) = 0 ↔ pf.d = 2 ^ N := by rw [Nat.one_mul]; unfold cmpN; split <;> (try split) <;> omega
    generalize cmpN pf.d (1 * 2 ^ N) = C at *
    clear hN
    obtain ⟨b1, b2, b3, b4, b5⟩ := hbd
    obtain ⟨k1, k2, k3, k4, k5⟩ := hq
    have HP := fun W p25 c25 h1 h2 hT k => Lib.hid (plusD_any s false p p25 _ c _ c25 base e (wid g * pf.pow) m 1 W h1 h2 rfl rfl (by omega) (by omega) (by omega) (by omega) hT k)
    rw [show pPlus ⟨s, m, e⟩ ⟨false, 1, wid g * pf.pow⟩ = rPlus ⟨s, m, e⟩ (oneD (wid g * pf.pow)) from b1] at HP
    have HP2 := fun W p25 c25 h1 h2 hT k => Lib.hid (plusD_any s false p p25 _ c _ c25 base e (wid g * (pf.pow - 1)) m 1 W h1 h2 rfl rfl (by omega) (by omega) (by omega) (by omega) hT k)
    rw [show pPlus ⟨s, m, e⟩ ⟨false, 1, wid g * (pf.pow - 1)⟩ = rPlus ⟨s, m, e⟩ (oneD (wid g * (pf.pow - 1))) from k1] at HP2
    have ek : ∀ r : Dv, keepsD r g = keepsD ⟨r.neg, r.m, r.e⟩ g := fun _ => rfl
    rw [ek, ek (rPlus ⟨s, m, e⟩ (oneD (wid g * (pf.pow - 1))))] at hk
    clear ek
    generalize rPlus ⟨s, m, e⟩ (oneD (wid g * pf.pow)) = r at *
    generalize rPlus ⟨s, m, e⟩ (oneD (wid g * (pf.pow - 1))) = r2 at *
    generalize pStep ⟨s, m, e⟩ g = R at *
    have I := Inv.start w [ownF base .u32 91 p c (dig B32 m), tabF] ⟨hp, hT, True.intro⟩
    refine zstart [.v (.agg #[.bool s, .slice p (dig B32 m).length c, .int .i64 e]), .v (.agg #[.int .i64 g.rad, .int .i64 g.digs, .int .i64 g.lo, .int .i64 g.hi, .bool g.grad])] I Tryd.func84 ?_
    refine zg I (fun Al W I => width_any g _) fun Al V Iv hz hB K k => ?_
    rintro _ W ⟨rfl, hb⟩
    refine ⟨_, rfl, k _ _ hb fun I => ?_⟩
    clear k K
    refine zg I (fun Al W I => (HS _).out) fun Al V Iv hz hB K k => ?_
    rintro _ W ⟨rfl, hb⟩
    refine ⟨_, rfl, k _ _ hb fun I => ?_⟩
    clear k K
    refine zb I 13 (S == 0) (false) (hS1) fun Al W I => ?_
    refine zcut I none (fun fr bx gs => ∃ (U1 : Nat → Value) (q17 : Option Addr) (d17 : Nat) (p19 : Option Addr) (c19 : Nat), fr = (.v (.agg #[.bool s, .slice p (dig B32 m).length c, .int .i64 e]) :: .v (.agg #[.int .i64 g.rad, .int .i64 g.digs, .int .i64 g.lo, .int .i64 g.hi, .bool g.grad]) :: .p 0 0 :: .p 1 0 :: .p 2 0 :: .v (.bool false) :: .v (.int .i64 ((wid g : Nat) : Int)) :: .p 3 0 :: .v undef :: sw U1 9 4 (.v (.bool false) :: sw U1 14 15 (.v undef :: sw U1 30 25 (.v undef :: sw U1 56 4 (.v undef :: sw U1 61 15 [])))) : List SV) ∧ bx = [⟨97, [.v (.bool s), .v (.slice p (dig B32 m).length c), .v (.int .i64 e)], false⟩, ⟨29, [.v (.int .i64 g.rad), .v (.int .i64 g.digs), .v (.int .i64 g.lo), .v (.int .i64 g.hi), .v (.bool g.grad)], false⟩, ⟨97, [.v (.bool false), .v (.slice none 0 0), .v (.int .i64 0)], false⟩, ⟨50, [.v (.bool pf.neg), .v (.slice p19 (dig B32 pf.d).length c19), .v (.int .i64 pf.pow), .v (.bool pf.exact), .v (.bool pf.over), .v (.bool pf.under)], false⟩] ∧ gs = [ownF base .u32 91 p19 c19 (dig B32 pf.d), ownF base .u32 91 q17 d17 (dig B32 1), ownF base .u32 91 p c (dig B32 m), tabF]) ?_ ?_
    · intro J hJ Al W I
      refine zd [] I fun Al W I => ?_
      refine zk [0, 2] I fun I => ?_
      refine zo2 1 4 I (fun I => ?_) (fun I => ?_)
      · skip
        refine zg (args := fun Al W => #[.agg #[.bool s, .slice p (dig B32 m).length c, .int .i64 e]]) I (fun Al W I => gratio_any s p _ c e _) fun Al V Iv hz hB K k => ?_
        rintro _ W ⟨q17, d17, rfl, ho17, hb⟩
        refine ⟨_, rfl, k _ _ hb fun I => ?_⟩
        clear k K
        have I := I.ownB base ho17
        refine zo2 3 4 I (fun I => ?_) (fun I => ?_)
        · skip
          refine zg I (fun Al W I => (HF _ q17 d17 I.fa.2.1.rd I.fa.1.rd).out) fun Al V Iv hz hB K k => ?_
          rintro _ W ⟨p19, c19, rfl, ho19, hb⟩
          refine ⟨_, rfl, k _ _ hb fun I => ?_⟩
          clear k K
          have I := I.ownB base ho19
          refine zo 4 I (fun I => ?_)
          refine zn I fun Al W I => ?_
          refine zo 5 I (fun I => ?_)
          refine zn I fun Al W I => ?_
          exact zback I J fun Al W U I => hJ _ _ _ _ _ ⟨U, q17, d17, p19, c19, rfl, rfl, rfl⟩ (I.pick [0, 1, 2, 3])
        refine zn I fun Al W I => ?_
        refine zo 3 I (fun I => ?_)
        refine zg I (fun Al W I => (HF _ q17 d17 I.fa.2.1.rd I.fa.1.rd).out) fun Al V Iv hz hB K k => ?_
        rintro _ W ⟨p19, c19, rfl, ho19, hb⟩
        refine ⟨_, rfl, k _ _ hb fun I => ?_⟩
        clear k K
        have I := I.ownB base ho19
        refine zo 5 I (fun I => ?_)
        refine zn I fun Al W I => ?_
        exact zback I J fun Al W U I => hJ _ _ _ _ _ ⟨U, q17, d17, p19, c19, rfl, rfl, rfl⟩ (I.pick [0, 1, 2, 3])
      refine zn I fun Al W I => ?_
      refine zo 1 I (fun I => ?_)
      refine zg (args := fun Al W => #[.agg #[.bool s, .slice p (dig B32 m).length c, .int .i64 e]]) I (fun Al W I => gratio_any s p _ c e _) fun Al V Iv hz hB K k => ?_
      rintro _ W ⟨q17, d17, rfl, ho17, hb⟩
      refine ⟨_, rfl, k _ _ hb fun I => ?_⟩
      clear k K
      have I := I.ownB base ho17
      refine zo 3 I (fun I => ?_)
      refine zg I (fun Al W I => (HF _ q17 d17 I.fa.2.1.rd I.fa.1.rd).out) fun Al V Iv hz hB K k => ?_
      rintro _ W ⟨p19, c19, rfl, ho19, hb⟩
      refine ⟨_, rfl, k _ _ hb fun I => ?_⟩
      clear k K
      have I := I.ownB base ho19
      refine zo 5 I (fun I => ?_)
      refine zn I fun Al W I => ?_
      exact zback I J fun Al W U I => hJ _ _ _ _ _ ⟨U, q17, d17, p19, c19, rfl, rfl, rfl⟩ (I.pick [0, 1, 2, 3])
    rintro _ _ _ ⟨U1, q17, d17, p19, c19, rfl, rfl, rfl⟩ Al W I
    refine zcut I none (fun fr bx gs => ∃ (U2 : Nat → Value) (q20 : Option Addr) (d20 : Nat) (p25 : Option Addr) (c25 : Nat), fr = (.v (.agg #[.bool s, .slice p (dig B32 m).length c, .int .i64 e]) :: .v (.agg #[.int .i64 g.rad, .int .i64 g.digs, .int .i64 g.lo, .int .i64 g.hi, .bool g.grad]) :: .p 0 0 :: .p 1 0 :: .p 2 0 :: .v (.bool false) :: .v (.int .i64 ((wid g : Nat) : Int)) :: .p 3 0 :: .p 4 0 :: sw U2 9 4 (.v (.bool false) :: sw U2 14 15 (.v undef :: sw U2 30 25 (.v undef :: sw U2 56 4 (.v undef :: sw U2 61 15 [])))) : List SV) ∧ bx = [⟨97, [.v (.bool s), .v (.slice p (dig B32 m).length c), .v (.int .i64 e)], false⟩, ⟨29, [.v (.int .i64 g.rad), .v (.int .i64 g.digs), .v (.int .i64 g.lo), .v (.int .i64 g.hi), .v (.bool g.grad)], false⟩, ⟨97, [.v (.bool false), .v (.slice none 0 0), .v (.int .i64 0)], false⟩, ⟨50, [.v (.bool pf.neg), .v (.slice p19 (dig B32 pf.d).length c19), .v (.int .i64 pf.pow), .v (.bool pf.exact), .v (.bool pf.over), .v (.bool pf.under)], false⟩, ⟨97, [.v (.bool false), .v (.slice p25 (dig B32 1).length c25), .v (.int .i64 ((wid g : Int) * pf.pow))], false⟩] ∧ gs = [ownF base .u32 91 p25 c25 (dig B32 1), ownF base .u32 91 q20 d20 (dig B32 1), ownF base .u32 91 p19 c19 (dig B32 pf.d), ownF base .u32 91 q17 d17 (dig B32 1), ownF base .u32 91 p c (dig B32 m), tabF]) ?_ ?_
    · intro J hJ Al W I
      refine zd [] I fun Al W I => ?_
      refine zk [1, 2, 3] I fun I => ?_
      refine zki 4 I .i64 (((wid g : Nat) : Int) * pf.pow) (((wid g : Nat) : Int) * pf.pow) (IntWalk.i64_in _ (by omega)) fun I => ?_
      refine zo2 0 6 I (fun I => ?_) (fun I => ?_)
      · skip
        refine zg I (fun Al W I => gof_one _) fun Al V Iv hz hB K k => ?_
        rintro _ W ⟨q20, d20, rfl, ho20, hb⟩
        refine ⟨_, rfl, k _ _ hb fun I => ?_⟩
        clear k K
        have I := I.ownB base ho20
        refine zo2 5 6 I (fun I => ?_) (fun I => ?_)
        · skip
          refine zg (args := fun Al W => #[.slice q20 (dig B32 1).length d20, .int .i64 (((wid g : Nat) : Int) * pf.pow)]) I (fun Al W I => have hz := I.bel.size; whole_one q20 d20 _ _ _ I.fa.1 (by omega) I.fa.2.2.2.2.1) fun Al V Iv hz hB K k => ?_
          rintro _ W ⟨p25, c25, rfl, ho25, hb⟩
          refine ⟨_, rfl, k _ _ hb fun I => ?_⟩
          clear k K
          have I := I.ownB base ho25
          refine zo 6 I (fun I => ?_)
          refine zn I fun Al W I => ?_
          refine zo 7 I (fun I => ?_)
          refine zn I fun Al W I => ?_
          exact zback I J fun Al W U I => hJ _ _ _ _ _ ⟨U, q20, d20, p25, c25, rfl, rfl, rfl⟩ (I.pick [0, 1, 2, 3, 4, 5])
        refine zn I fun Al W I => ?_
        refine zo 5 I (fun I => ?_)
        refine zg (args := fun Al W => #[.slice q20 (dig B32 1).length d20, .int .i64 (((wid g : Nat) : Int) * pf.pow)]) I (fun Al W I => have hz := I.bel.size; whole_one q20 d20 _ _ _ I.fa.1 (by omega) I.fa.2.2.2.2.1) fun Al V Iv hz hB K k => ?_
        rintro _ W ⟨p25, c25, rfl, ho25, hb⟩
        refine ⟨_, rfl, k _ _ hb fun I => ?_⟩
        clear k K
        have I := I.ownB base ho25
        refine zo 7 I (fun I => ?_)
        refine zn I fun Al W I => ?_
        exact zback I J fun Al W U I => hJ _ _ _ _ _ ⟨U, q20, d20, p25, c25, rfl, rfl, rfl⟩ (I.pick [0, 1, 2, 3, 4, 5])
      refine zn I fun Al W I => ?_
      refine zo 0 I (fun I => ?_)
      refine zg I (fun Al W I => gof_one _) fun Al V Iv hz hB K k => ?_
      rintro _ W ⟨q20, d20, rfl, ho20, hb⟩
      refine ⟨_, rfl, k _ _ hb fun I => ?_⟩
      clear k K
      have I := I.ownB base ho20
      refine zo 5 I (fun I => ?_)
      refine zg (args := fun Al W => #[.slice q20 (dig B32 1).length d20, .int .i64 (((wid g : Nat) : Int) * pf.pow)]) I (fun Al W I => have hz := I.bel.size; whole_one q20 d20 _ _ _ I.fa.1 (by omega) I.fa.2.2.2.2.1) fun Al V Iv hz hB K k => ?_
      rintro _ W ⟨p25, c25, rfl, ho25, hb⟩
      refine ⟨_, rfl, k _ _ hb fun I => ?_⟩
      clear k K
      have I := I.ownB base ho25
      refine zo 7 I (fun I => ?_)
      refine zn I fun Al W I => ?_
      exact zback I J fun Al W U I => hJ _ _ _ _ _ ⟨U, q20, d20, p25, c25, rfl, rfl, rfl⟩ (I.pick [0, 1, 2, 3, 4, 5])
    rintro _ _ _ ⟨U2, q20, d20, p25, c25, rfl, rfl, rfl⟩ Al W I
    rcases Bool.eq_false_or_eq_true (!s) with f29 | f29
    · skip
      refine zb I 29 (!s) (true) (f29) fun Al W I => ?_
      refine zg I (fun Al W I => have hz := I.bel.size; (HP _ p25 c25 I.fa.2.2.2.2.1 (I.fa.1.mono (by omega)) I.fa.2.2.2.2.2.1 (by omega)).out) fun Al V Iv hz hB K k => ?_
      rintro _ W ⟨p32, c32, rfl, ho32, hb⟩
      refine ⟨_, rfl, k _ _ hb fun I => ?_⟩
      clear k K
      have I := I.ownB base ho32
      refine zd [2] I fun Al W I => ?_
      refine zk [0, 1, 2] I fun I => ?_
      refine zo 3 I (fun I => ?_)
      refine zg I (fun Al W I => have hz := I.bel.size; gkeeps_any r.neg p32 c32 r.e r.m g _ I.fa.1.rd (by omega) (by omega) G) fun Al V Iv hz hB K k => ?_
      rintro _ W ⟨rfl, hb⟩
      refine ⟨_, rfl, k _ _ hb fun I => ?_⟩
      clear k K
      refine zo 4 I (fun I => ?_)
      refine zn I fun Al W I => ?_
      refine zk [5] I fun I => ?_
      rw [hk, if_pos (by simpa using f29)]
      exact zret I fun Al W I => ⟨p32, c32, rfl, I.fa.1, I.below⟩
    refine zb I 29 (!s) (false) (f29) fun Al W I => ?_
    by_cases hc : pf.d = 2 ^ N
    · skip
      by_cases hg : g.lo < pf.pow
      · skip
        refine zd [] I fun Al W I => ?_
        refine zk [0, 1, 3, 4, 5] I fun I => ?_
        refine zki 6 I .i64 (g.digs - 1) (g.digs - 1) (IntWalk.i64_in _ (by omega)) fun I => ?_
        refine zki 7 I .i64 (((wid g : Nat) : Int) * (g.digs - 1)) (((N : Nat) : Int)) (eN) fun I => ?_
        refine zo 2 I (fun I => ?_)
        refine zg I (fun Al W I => gof_one _) fun Al V Iv hz hB K k => ?_
        rintro _ W ⟨q35, d35, rfl, ho35, hb⟩
        refine ⟨_, rfl, k _ _ hb fun I => ?_⟩
        clear k K
        have I := I.ownB base ho35
        refine zo 8 I (fun I => ?_)
        refine zg I (fun Al W I => have hz := I.bel.size; shl_any q35 _ d35 1 N _ I.fa.1.rd rfl (by omega) (by omega)) fun Al V Iv hz hB K k => ?_
        rintro _ W ⟨q41, d41, rfl, ho41, hb⟩
        refine ⟨_, rfl, k _ _ hb fun I => ?_⟩
        clear k K
        have I := I.ownB base ho41
        refine zo 9 I (fun I => ?_)
        refine zg I (fun Al W I => (HC _ p19 c19 q41 d41 I.fa.2.2.2.2.1.rd I.fa.1.rd).out) fun Al V Iv hz hB K k => ?_
        rintro _ W ⟨rfl, hb⟩
        refine ⟨_, rfl, k _ _ hb fun I => ?_⟩
        clear k K
        refine zkb 10 I (C == 0) (true) (by simpa using hC0.2 hc) fun I => ?_
        refine zk [11, 12, 13, 14, 15] I fun I => ?_
        refine zkb 16 I (decide (pf.pow > g.lo)) (true) (decide_eq_true hg) fun I => ?_
        refine zk [17, 18, 19, 20, 21, 22] I fun I => ?_
        refine zb I 60 (pf.pow == g.lo) (false) (beq_eq_false_iff_ne.2 (by omega)) fun Al W I => ?_
        refine zd [4] I fun Al W I => ?_
        refine zk [1, 2, 3] I fun I => ?_
        refine zki 4 I .i64 (pf.pow - 1) (pf.pow - 1) (IntWalk.i64_in _ (by omega)) fun I => ?_
        refine zki 5 I .i64 (((wid g : Nat) : Int) * (pf.pow - 1)) (((wid g : Nat) : Int) * (pf.pow - 1)) (IntWalk.i64_in _ (by omega)) fun I => ?_
        refine zo 0 I (fun I => ?_)
        refine zg I (fun Al W I => gof_one _) fun Al V Iv hz hB K k => ?_
        rintro _ W ⟨q62, d62, rfl, ho62, hb⟩
        refine ⟨_, rfl, k _ _ hb fun I => ?_⟩
        clear k K
        have I := I.ownB base ho62
        refine zo 6 I (fun I => ?_)
        refine zg (args := fun Al W => #[.slice q62 (dig B32 1).length d62, .int .i64 (((wid g : Nat) : Int) * (pf.pow - 1))]) I (fun Al W I => have hz := I.bel.size; whole_one q62 d62 _ _ _ I.fa.1 (by omega) I.fa.2.2.2.2.2.2.2.2.1) fun Al V Iv hz hB K k => ?_
        rintro _ W ⟨p68, c68, rfl, ho68, hb⟩
        refine ⟨_, rfl, k _ _ hb fun I => ?_⟩
        clear k K
        have I := I.ownB base ho68
        refine zo 7 I (fun I => ?_)
        refine zn I fun Al W I => ?_
        refine zg I (fun Al W I => have hz := I.bel.size; (HP2 _ p68 c68 I.fa.2.2.2.2.2.2.2.2.1 (I.fa.1.mono (by omega)) I.fa.2.2.2.2.2.2.2.2.2.1 (by omega)).out) fun Al V Iv hz hB K k => ?_
        rintro _ W ⟨p32, c32, rfl, ho32, hb⟩
        refine ⟨_, rfl, k _ _ hb fun I => ?_⟩
        clear k K
        have I := I.ownB base ho32
        refine zd [2] I fun Al W I => ?_
        refine zk [0, 1, 2] I fun I => ?_
        refine zo 3 I (fun I => ?_)
        refine zg I (fun Al W I => have hz := I.bel.size; gkeeps_any r2.neg p32 c32 r2.e r2.m g _ I.fa.1.rd (by omega) (by omega) G) fun Al V Iv hz hB K k => ?_
        rintro _ W ⟨rfl, hb⟩
        refine ⟨_, rfl, k _ _ hb fun I => ?_⟩
        clear k K
        refine zo 4 I (fun I => ?_)
        refine zn I fun Al W I => ?_
        refine zk [5] I fun I => ?_
        rw [hk, if_neg (by simpa using f29), if_pos ⟨hc, .inl hg⟩, if_neg (by omega)]
        exact zret I fun Al W I => ⟨p32, c32, rfl, I.fa.1, I.below⟩
      by_cases hgr : g.grad = true
      · skip
        refine zd [] I fun Al W I => ?_
        refine zk [0, 1, 3, 4, 5] I fun I => ?_
        refine zki 6 I .i64 (g.digs - 1) (g.digs - 1) (IntWalk.i64_in _ (by omega)) fun I => ?_
        refine zki 7 I .i64 (((wid g : Nat) : Int) * (g.digs - 1)) (((N : Nat) : Int)) (eN) fun I => ?_
        refine zo 2 I (fun I => ?_)
        refine zg I (fun Al W I => gof_one _) fun Al V Iv hz hB K k => ?_
        rintro _ W ⟨q35, d35, rfl, ho35, hb⟩
        refine ⟨_, rfl, k _ _ hb fun I => ?_⟩
        clear k K
        have I := I.ownB base ho35
        refine zo 8 I (fun I => ?_)
        refine zg I (fun Al W I => have hz := I.bel.size; shl_any q35 _ d35 1 N _ I.fa.1.rd rfl (by omega) (by omega)) fun Al V Iv hz hB K k => ?_
        rintro _ W ⟨q41, d41, rfl, ho41, hb⟩
        refine ⟨_, rfl, k _ _ hb fun I => ?_⟩
        clear k K
        have I := I.ownB base ho41
        refine zo 9 I (fun I => ?_)
        refine zg I (fun Al W I => (HC _ p19 c19 q41 d41 I.fa.2.2.2.2.1.rd I.fa.1.rd).out) fun Al V Iv hz hB K k => ?_
        rintro _ W ⟨rfl, hb⟩
        refine ⟨_, rfl, k _ _ hb fun I => ?_⟩
        clear k K
        refine zkb 10 I (C == 0) (true) (by simpa using hC0.2 hc) fun I => ?_
        refine zk [11, 12, 13, 14, 15] I fun I => ?_
        refine zkb 16 I (decide (pf.pow > g.lo)) (false) (decide_eq_false hg) fun I => ?_
        refine zk [17, 18, 19] I fun I => ?_
        refine zkb 20 I (!g.grad) (false) (by rw [hgr]; rfl) fun I => ?_
        refine zk [21, 22] I fun I => ?_
        refine zg I (fun Al W I => have hz := I.bel.size; (HP _ p25 c25 I.fa.2.2.2.2.2.2.1 (I.fa.2.2.1.mono (by omega)) I.fa.2.2.2.2.2.2.2.1 (by omega)).out) fun Al V Iv hz hB K k => ?_
        rintro _ W ⟨p32, c32, rfl, ho32, hb⟩
        refine ⟨_, rfl, k _ _ hb fun I => ?_⟩
        clear k K
        have I := I.ownB base ho32
        refine zd [2] I fun Al W I => ?_
        refine zk [0, 1, 2] I fun I => ?_
        refine zo 3 I (fun I => ?_)
        refine zg I (fun Al W I => have hz := I.bel.size; gkeeps_any r.neg p32 c32 r.e r.m g _ I.fa.1.rd (by omega) (by omega) G) fun Al V Iv hz hB K k => ?_
        rintro _ W ⟨rfl, hb⟩
        refine ⟨_, rfl, k _ _ hb fun I => ?_⟩
        clear k K
        refine zo 4 I (fun I => ?_)
        refine zn I fun Al W I => ?_
        refine zk [5] I fun I => ?_
        rw [hk, if_neg (by simpa using f29), if_neg (fun h => by first | exact hc h.1 | (rcases h.2 with h | h <;> first | exact hg h | (rw [hgr] at h; cases h; done)))]
        exact zret I fun Al W I => ⟨p32, c32, rfl, I.fa.1, I.below⟩
      refine zd [] I fun Al W I => ?_
      refine zk [0, 1, 3, 4, 5] I fun I => ?_
      refine zki 6 I .i64 (g.digs - 1) (g.digs - 1) (IntWalk.i64_in _ (by omega)) fun I => ?_
      refine zki 7 I .i64 (((wid g : Nat) : Int) * (g.digs - 1)) (((N : Nat) : Int)) (eN) fun I => ?_
      refine zo 2 I (fun I => ?_)
      refine zg I (fun Al W I => gof_one _) fun Al V Iv hz hB K k => ?_
      rintro _ W ⟨q35, d35, rfl, ho35, hb⟩
      refine ⟨_, rfl, k _ _ hb fun I => ?_⟩
      clear k K
      have I := I.ownB base ho35
      refine zo 8 I (fun I => ?_)
      refine zg I (fun Al W I => have hz := I.bel.size; shl_any q35 _ d35 1 N _ I.fa.1.rd rfl (by omega) (by omega)) fun Al V Iv hz hB K k => ?_
      rintro _ W ⟨q41, d41, rfl, ho41, hb⟩
      refine ⟨_, rfl, k _ _ hb fun I => ?_⟩
      clear k K
      have I := I.ownB base ho41
      refine zo 9 I (fun I => ?_)
      refine zg I (fun Al W I => (HC _ p19 c19 q41 d41 I.fa.2.2.2.2.1.rd I.fa.1.rd).out) fun Al V Iv hz hB K k => ?_
      rintro _ W ⟨rfl, hb⟩
      refine ⟨_, rfl, k _ _ hb fun I => ?_⟩
      clear k K
      refine zkb 10 I (C == 0) (true) (by simpa using hC0.2 hc) fun I => ?_
      refine zk [11, 12, 13, 14, 15] I fun I => ?_
      refine zkb 16 I (decide (pf.pow > g.lo)) (false) (decide_eq_false hg) fun I => ?_
      refine zk [17, 18, 19] I fun I => ?_
      refine zkb 20 I (!g.grad) (true) (by simpa using hgr) fun I => ?_
      refine zk [21, 22] I fun I => ?_
      refine zb I 60 (pf.pow == g.lo) (true) (beq_iff_eq.2 (by omega)) fun Al W I => ?_
      rw [hk, if_neg (by simpa using f29), if_pos ⟨hc, .inr (by simpa using hgr)⟩, if_pos (by omega)]
      exact zret I (v := fun Al => .tuple #[.agg #[.bool false, .slice none 0 0, .int .i64 0], .bool true]) fun Al W I => ⟨none, 0, by simp [dig_zero], by rw [dig_zero]; exact Own.nil _ _ _ _, I.below⟩
    refine zd [] I fun Al W I => ?_
    refine zk [0, 1, 3, 4, 5] I fun I => ?_
    refine zki 6 I .i64 (g.digs - 1) (g.digs - 1) (IntWalk.i64_in _ (by omega)) fun I => ?_
    refine zki 7 I .i64 (((wid g : Nat) : Int) * (g.digs - 1)) (((N : Nat) : Int)) (eN) fun I => ?_
    refine zo 2 I (fun I => ?_)
    refine zg I (fun Al W I => gof_one _) fun Al V Iv hz hB K k => ?_
    rintro _ W ⟨q35, d35, rfl, ho35, hb⟩
    refine ⟨_, rfl, k _ _ hb fun I => ?_⟩
    clear k K
    have I := I.ownB base ho35
    refine zo 8 I (fun I => ?_)
    refine zg I (fun Al W I => have hz := I.bel.size; shl_any q35 _ d35 1 N _ I.fa.1.rd rfl (by omega) (by omega)) fun Al V Iv hz hB K k => ?_
    rintro _ W ⟨q41, d41, rfl, ho41, hb⟩
    refine ⟨_, rfl, k _ _ hb fun I => ?_⟩
    clear k K
    have I := I.ownB base ho41
    refine zo 9 I (fun I => ?_)
    refine zg I (fun Al W I => (HC _ p19 c19 q41 d41 I.fa.2.2.2.2.1.rd I.fa.1.rd).out) fun Al V Iv hz hB K k => ?_
    rintro _ W ⟨rfl, hb⟩
    refine ⟨_, rfl, k _ _ hb fun I => ?_⟩
    clear k K
    refine zkb 10 I (C == 0) (false) (beq_eq_false_iff_ne.2 (fun h => hc (hC0.1 h))) fun I => ?_
    refine zk [11, 12, 13, 14, 15, 16, 17, 18, 19, 20, 21, 22] I fun I => ?_
    refine zg I (fun Al W I => have hz := I.bel.size; (HP _ p25 c25 I.fa.2.2.2.2.2.2.1 (I.fa.2.2.1.mono (by omega)) I.fa.2.2.2.2.2.2.2.1 (by omega)).out) fun Al V Iv hz hB K k => ?_
    rintro _ W ⟨p32, c32, rfl, ho32, hb⟩
    refine ⟨_, rfl, k _ _ hb fun I => ?_⟩
    clear k K
    have I := I.ownB base ho32
    refine zd [2] I fun Al W I => ?_
    refine zk [0, 1, 2] I fun I => ?_
    refine zo 3 I (fun I => ?_)
    refine zg I (fun Al W I => have hz := I.bel.size; gkeeps_any r.neg p32 c32 r.e r.m g _ I.fa.1.rd (by omega) (by omega) G) fun Al V Iv hz hB K k => ?_
    rintro _ W ⟨rfl, hb⟩
    refine ⟨_, rfl, k _ _ hb fun I => ?_⟩
    clear k K
    refine zo 4 I (fun I => ?_)
    refine zn I fun Al W I => ?_
    refine zk [5] I fun I => ?_
    rw [hk, if_neg (by simpa using f29), if_neg (fun h => by first | exact hc h.1 | (rcases h.2 with h | h <;> first | exact hg h | (rw [hgr] at h; cases h; done)))]
    exact zret I fun Al W I => ⟨p32, c32, rfl, I.fa.1, I.below⟩

end Go.Proofs.YtcipdimogodndaaDoor

namespace Go.Proofs.YtcipdimogodndaaDoor
open Go.RowKit Go.Slip

set_option maxHeartbeats 1000000 in
theorem refWidth_any (g : Gd) (w : World) :
    Calls Tryd.prog 64 #[.agg #[.int .i64 g.rad, .int .i64 g.digs, .int .i64 g.lo, .int .i64 g.hi, .bool g.grad]] w fun e w' => e = .returned (.int .i64 (wid g : Nat)) ∧ Below w.heap.size w w' := by
  obtain ⟨rad, digs, lo, hi, grad⟩ := g
  simp only
  unfold wid
  simp only
  have hb : Below w.heap.size w (w.alloc (.cells #[.int .i64 rad, .int .i64 digs, .int .i64 lo, .int .i64 hi, .bool grad] 29)) := below_lay1 _ _
  by_cases h : rad = 16
  · subst h
    go_enter Tryd.func64, Tryd.ntmps64
    go_wp2
    go_ret
    exact ⟨by simp, hb⟩
  · have h1 : (rad == 16) = false := beq_eq_false_iff_ne.2 h
    rw [if_neg h]
    clear h
    go_enter Tryd.func64, Tryd.ntmps64
    go_wp2
    go_ret
    exact ⟨rfl, hb⟩

end Go.Proofs.YtcipdimogodndaaDoor

namespace Go.Proofs.YtcipdimogodndaaDoor
open Go.RowKit Go.Slip

set_option maxHeartbeats 1000000 in
set_option maxRecDepth 100000 in
theorem refPlus_any (p q : Option Addr) (n m c d : Nat) (a b : Nat) (w : World) (hp : Rd w .i64 p (dig B16 a)) (hq : Rd w .i64 q (dig B16 b)) (hn : n = (dig B16 a).length) (hm : m = (dig B16 b).length)
    (hl : (dig B16 a).length + (dig B16 b).length ≤ 1000000000) :
    Calls Tryd.prog 65 #[.slice p n c, .slice q m d] w (GivesR w .i64 (dig B16 (a + b))) := by
  subst hn hm
  have HXL := Lib.hid (dig_lt B16_two a)
  have HYL := Lib.hid (dig_lt B16_two b)
  obtain ⟨xs, hxs⟩ : ∃ xs, xs = dig B16 a := ⟨_, rfl⟩
  obtain ⟨ys, hys⟩ : ∃ ys, ys = dig B16 b := ⟨_, rfl⟩
  rw [← hxs] at hp hl HXL ⊢
  rw [← hys] at hq hl HYL ⊢
  have HA := Lib.hid hxs
  have HB := Lib.hid hys
  clear hxs hys
  have hsx := hp.solid
  have hsy := hq.solid
  go_enter Tryd.func65, Tryd.ntmps65
  go_wp2
  go_loopg [5, 6, 7] (xs.length + ys.length + 2) (fun g ov cv iv wr => ∃ (i cr : Nat) (t : Option Addr) (e : Nat) (O : List Nat), iv = .int .i64 i ∧ cv = .int .i64 cr ∧ ov = .slice t O.length e ∧ g + i = xs.length + ys.length + 2 ∧ cr ≤ 1 ∧ i ≤ xs.length + ys.length + 1 ∧ Hid (O.length = i) ∧
      Own wr w.heap.size .i64 3 t e O ∧ Below w.heap.size w wr ∧ Hid (PlusRel O xs ys i cr))
  case atStart => exact ⟨0, 0, none, 0, [], rfl, rfl, rfl, rfl, by omega, by omega, rfl, Own.nil _ _ _ _, Below.refl _ _, PlusRel.start xs ys⟩
  case round =>
    obtain ⟨i, cr, t, e, O, rfl, rfl, rfl, hg, hcr, hi, hO, hoq, hb, HR⟩ := hrel
    have hpL := hp.past hb
    have hqL := hq.past hb
    have hxd := getD_lt (B := 65536) (by omega) xs HXL.out i
    have hyd := getD_lt (B := 65536) (by omega) ys HYL.out i
    have hi2 : 0 < i → cr = 1 → i ≤ xs.length ∨ i ≤ ys.length := fun h1 h2 => by have := HR.out.2.2.2.2; omega
    by_cases h1 : i < xs.length
    · have hc1 := hpL.cells i h1
      have HS := HR.out.step hxd hyd (.inl h1)
      by_cases h2 : i < ys.length
      · have hc2 := hqL.cells i h2
        have HS := Lib.hid HS
        clear hi2
        go_wp2_with (first
          | (refine wpl_build1 rfl _ _ rfl tyN _ ?_ rfl ?_; omega; intro p2 w2 ho2 hb2 hz2 hp2)
          | (at_builtin; refine wpl_append rfl _ _ _ rfl tyN _ _ _ _ _ (hoq.past hb2) rfl _ _ _ _ ho2.rd rfl rfl rfl ?_ ?_ ?_; (have := hO.out; simp; omega); (have := hb2.size; have := hb.size; omega); intro p3 c3 w3 ho3 hg3 hb3 hn3))
        have hb4 := hb.trans ((hb2.mono hb.size).trans hb3)
        have e4 : (((cr : Int) + dg xs i + dg ys i : Int) % 65536).toNat = (cr + dg xs i + dg ys i) % B16 := by unfold B16; omega
        rw [e4] at ho3
        go_roundg (xs.length + ys.length + 1 - i)
        case measure => omega
        case rel => exact ⟨i + 1, (cr + dg xs i + dg ys i) / B16, p3, c3, _, by go_num, (by unfold B16; go_num), by simp, by omega, HS.out.2.2.1, by omega, (by show (O ++ _).length = i + 1; have := hO.out; simp; omega), ho3, hb4, HS⟩
      · have ez : dg ys i = 0 := dg_of_ge (by omega)
        rw [ez] at HS
        have HS := Lib.hid HS
        clear ez hyd hi2
        go_wp2_with (first
          | (refine wpl_build1 rfl _ _ rfl tyN _ ?_ rfl ?_; omega; intro p2 w2 ho2 hb2 hz2 hp2)
          | (at_builtin; refine wpl_append rfl _ _ _ rfl tyN _ _ _ _ _ (hoq.past hb2) rfl _ _ _ _ ho2.rd rfl rfl rfl ?_ ?_ ?_; (have := hO.out; simp; omega); (have := hb2.size; have := hb.size; omega); intro p3 c3 w3 ho3 hg3 hb3 hn3))
        have hb4 := hb.trans ((hb2.mono hb.size).trans hb3)
        have e4 : (((cr : Int) + dg xs i : Int) % 65536).toNat = (cr + dg xs i + 0) % B16 := by unfold B16; omega
        rw [e4] at ho3
        go_roundg (xs.length + ys.length + 1 - i)
        case measure => omega
        case rel => exact ⟨i + 1, (cr + dg xs i + 0) / B16, p3, c3, _, by go_num, (by unfold B16; go_num), by simp, by omega, HS.out.2.2.1, by omega, (by show (O ++ _).length = i + 1; have := hO.out; simp; omega), ho3, hb4, HS⟩
    · have ex : dg xs i = 0 := dg_of_ge (by omega)
      by_cases h2 : i < ys.length
      · have hc2 := hqL.cells i h2
        have HS := HR.out.step hxd hyd (.inr (.inl h2))
        rw [ex] at HS
        have HS := Lib.hid HS
        clear ex hxd hi2
        go_wp2_with (first
          | (refine wpl_build1 rfl _ _ rfl tyN _ ?_ rfl ?_; omega; intro p2 w2 ho2 hb2 hz2 hp2)
          | (at_builtin; refine wpl_append rfl _ _ _ rfl tyN _ _ _ _ _ (hoq.past hb2) rfl _ _ _ _ ho2.rd rfl rfl rfl ?_ ?_ ?_; (have := hO.out; simp; omega); (have := hb2.size; have := hb.size; omega); intro p3 c3 w3 ho3 hg3 hb3 hn3))
        have hb4 := hb.trans ((hb2.mono hb.size).trans hb3)
        have e4 : (((cr : Int) + dg ys i : Int) % 65536).toNat = (cr + 0 + dg ys i) % B16 := by unfold B16; omega
        rw [e4] at ho3
        go_roundg (xs.length + ys.length + 1 - i)
        case measure => omega
        case rel => exact ⟨i + 1, (cr + 0 + dg ys i) / B16, p3, c3, _, by go_num, (by unfold B16; go_num), by simp, by omega, HS.out.2.2.1, by omega, (by show (O ++ _).length = i + 1; have := hO.out; simp; omega), ho3, hb4, HS⟩
      · have ey : dg ys i = 0 := dg_of_ge (by omega)
        by_cases h3 : 0 < cr
        · have HS := HR.out.step hxd hyd (.inr (.inr h3))
          rw [ex, ey] at HS
          have HS := Lib.hid HS
          have hi3 : i ≤ xs.length + ys.length := by
            by_cases h0 : 0 < i
            · have := hi2 h0 (by omega); omega
            · omega
          clear ex ey hxd hyd hi2
          go_wp2_with (first
            | (refine wpl_build1 rfl _ _ rfl tyN _ ?_ rfl ?_; omega; intro p2 w2 ho2 hb2 hz2 hp2)
            | (at_builtin; refine wpl_append rfl _ _ _ rfl tyN _ _ _ _ _ (hoq.past hb2) rfl _ _ _ _ ho2.rd rfl rfl rfl ?_ ?_ ?_; (have := hO.out; simp; omega); (have := hb2.size; have := hb.size; omega); intro p3 c3 w3 ho3 hg3 hb3 hn3))
          have hb4 := hb.trans ((hb2.mono hb.size).trans hb3)
          have e4 : (((cr : Int) : Int) % 65536).toNat = (cr + 0 + 0) % B16 := by unfold B16; omega
          rw [e4] at ho3
          go_roundg (xs.length + ys.length + 1 - i)
          case measure => omega
          case rel => exact ⟨i + 1, (cr + 0 + 0) / B16, p3, c3, _, by go_num, (by unfold B16; go_num), by simp, by omega, HS.out.2.2.1, by omega, (by show (O ++ _).length = i + 1; have := hO.out; simp; omega), ho3, hb4, HS⟩
        · obtain rfl : cr = 0 := by omega
          have HD := Lib.hid (HR.out.done (by omega) (by omega) HA.out HB.out)
          clear ex ey hxd hyd hi2
          go_wp2
          go_ret
          exact givesR_of HD.out rfl hoq hb

end Go.Proofs.YtcipdimogodndaaDoor

namespace Go.Proofs.YtcipdimogodndaaDoor
open Go.RowKit Go.Slip

set_option maxHeartbeats 1000000 in
set_option maxRecDepth 100000 in
theorem refCmp_any (p q : Option Addr) (n m c d : Nat) (a b : Nat) (w : World) (hp : Rd w .i64 p (dig B16 a)) (hq : Rd w .i64 q (dig B16 b)) (hn : n = (dig B16 a).length) (hm : m = (dig B16 b).length)
    (hl : (dig B16 a).length ≤ 1000000000) (hl2 : (dig B16 b).length ≤ 1000000000) :
    Calls Tryd.prog 66 #[.slice p n c, .slice q m d] w fun e w' => e = .returned (.int .i64 (cmpN a b)) ∧ Below w.heap.size w w' := by
  subst hn hm
  by_cases hlt : (dig B16 a).length < (dig B16 b).length
  · have H := Lib.hid (cmpN_lt (dig_len_lt B16_two hlt))
    go_enter Tryd.func66, Tryd.ntmps66
    go_wp2
    go_ret
    exact ⟨ret_cmp H.out, Below.refl _ _⟩
  · by_cases hgt : (dig B16 b).length < (dig B16 a).length
    · have H := Lib.hid (cmpN_gt (dig_len_lt B16_two hgt))
      go_enter Tryd.func66, Tryd.ntmps66
      go_wp2
      go_ret
      exact ⟨ret_cmp H.out, Below.refl _ _⟩
    · have hle : (dig B16 b).length = (dig B16 a).length := by omega
      have HXL := Lib.hid (dig_lt B16_two a)
      have HYL := Lib.hid (dig_lt B16_two b)
      have HA := Lib.hid (val_dig B16_two a)
      have HB := Lib.hid (val_dig B16_two b)
      rw [hle]
      have HL := Lib.hid hle
      have hly := Nat.le_of_eq hle.symm
      clear hlt hgt hle
      generalize dig B16 a = xs at *
      generalize dig B16 b = ys at *
      have hsx := hp.solid
      have hsy := hq.solid
      rw [HL.out] at hsy
      go_enter Tryd.func66, Tryd.ntmps66
      go_wp2
      go_loopw [5] (fun iv wr => ∃ (k : Nat), iv = .int .i64 ((k : Int) - 1) ∧ k ≤ xs.length ∧ Below w.heap.size w wr ∧ Hid (xs.drop k = ys.drop k)) (fun iv _ => (intOf iv + 1).toNat)
      case atStart => exact ⟨xs.length, rfl, Nat.le_refl _, Below.refl _ _, (show xs.drop _ = ys.drop _ by rw [List.drop_length, List.drop_of_length_le (by have := HL.out; omega)])⟩
      case round =>
        obtain ⟨k, rfl, hk, hb, HD⟩ := hrel
        by_cases h0 : 0 < k
        · obtain ⟨k, rfl⟩ : ∃ j, k = j + 1 := ⟨k - 1, by omega⟩
          have ej : ((k + 1 : Nat) : Int) - 1 = k := by omega
          rw [ej]
          have hxd := getD_lt (B := 65536) (by omega) xs HXL.out k
          have hyd := getD_lt (B := 65536) (by omega) ys HYL.out k
          have hc1 := (hp.past hb).cells k (by omega)
          have hc2 := (hq.past hb).cells k (by omega)
          have i1 : (k : Int) < (xs.length : Int) := by omega
          have i0 : (0 : Int) ≤ (k : Int) := by omega
          clear ej
          by_cases h1 : dg xs k < dg ys k
          · have H := Lib.hid (cmpN_lt (by have := val_cmp xs ys HXL.out k (by omega) HL.out.symm HD.out h1; rwa [HA.out, HB.out] at this))
            go_wp2_with fail
            go_quiet (fail)
            go_wp2
            go_ret
            exact ⟨ret_cmp H.out, hb.trans (by first | exact below_drewN (Below.refl _ _) _ | exact below_drewN (below_drewN (Below.refl _ _) _) _)⟩
          · by_cases h2 : dg ys k < dg xs k
            · have H := Lib.hid (cmpN_gt (by have := val_cmp ys xs HYL.out k (by have := HL.out; omega) HL.out HD.out.symm h2; rwa [HA.out, HB.out] at this))
              go_wp2_with fail
              go_quiet (fail)
              go_wp2_with fail
              go_quiet (fail)
              go_wp2
              go_ret
              exact ⟨ret_cmp H.out, hb.trans (by first | exact below_drewN (Below.refl _ _) _ | exact below_drewN (below_drewN (Below.refl _ _) _) _)⟩
            · have h3 : dg xs k = dg ys k := by omega
              have HE := Lib.hid (drop_eq_of (by omega) HL.out.symm HD.out h3)
              rw [← h3] at hc2
              clear h3 h1 h2
              go_wp2_with fail
              go_quiet (fail)
              go_wp2_with fail
              go_quiet (fail)
              go_wp2
              go_roundw
              case rel => exact ⟨k, rfl, by omega, hb.trans (by first | exact below_drewN (Below.refl _ _) _ | exact below_drewN (below_drewN (Below.refl _ _) _) _), HE⟩
              case measure => first | (simp [intOf]; done) | (simp [intOf]; omega)
        · obtain rfl : k = 0 := by omega
          have H : cmpN a b = 0 := by
            have := HD.out
            simp only [List.drop_zero] at this
            rw [← HA.out, ← HB.out, this]; exact cmpN_eq _
          have H := Lib.hid H
          go_wp2
          go_ret
          exact ⟨ret_cmp H.out, hb⟩

set_option maxHeartbeats 400000 in
theorem refLen_any (p : Option Addr) (n c : Nat) (a : Nat) (w : World) (hp : Rd w .i64 p (dig B16 a)) (hn : n = (dig B16 a).length) (hl : (dig B16 a).length ≤ 1000000000) :
    Calls Tryd.prog 77 #[.slice p n c] w fun e w' => e = .returned (.int .i64 (blen a : Nat)) ∧ w = w' := by
  subst hn
  by_cases h0 : 0 < a
  · obtain ⟨hb, ht⟩ := blen_dig (B := B16) (s := 16) (by decide) B16_two a h0
    have hl0 : 0 < (dig B16 a).length := List.length_pos_iff.2 ((dig_spec B16_two a).2.2.2 h0)
    have HB := Lib.hid hb
    have hd := getD_lt (B := 65536) (by omega) _ (dig_lt B16_two a) ((dig B16 a).length - 1)
    clear hb
    generalize dig B16 a = xs at *
    have hs := hp.solid
    have hc := hp.cells (xs.length - 1) (by omega)
    have hbd : blen (dg xs (xs.length - 1)) ≤ 16 := (blen_le _ 16).2 (by omega)
    generalize dg xs (xs.length - 1) = d at *
    go_enter Tryd.func77, Tryd.ntmps77
    go_wp2
    go_loop [3, 4] (fun nv dv => ∃ (m t : Nat), nv = .int .i64 m ∧ dv = .int .i64 t ∧ t ≤ d ∧ m + blen t = 16 * (xs.length - 1) + blen d) (fun _ dv => (intOf dv).toNat)
    case atStart => exact ⟨16 * (xs.length - 1), d, by go_num, rfl, Nat.le_refl _, rfl⟩
    case round =>
      obtain ⟨m, t, rfl, rfl, htd, hm⟩ := hrel
      by_cases h1 : 0 < t
      · have hh := blen_half t h1
        have hh2 : m + 1 + blen (t / 2) = 16 * (xs.length - 1) + blen d := by omega
        clear hh
        go_wp2
        go_round
        case rel => exact ⟨m + 1, t / 2, by go_num, by go_num, by omega, hh2⟩
        case measure => simp [intOf]; omega
      · obtain rfl : t = 0 := by omega
        rw [blen_zero] at hm
        have HM := Lib.hid (show blen a = m by rw [HB.out]; exact hm.symm)
        go_wp2
        go_ret
        rw [HM.out]
        exact ⟨rfl, rfl⟩
  · obtain rfl : a = 0 := by omega
    rw [blen_zero]
    rw [dig_zero] at *
    go_enter Tryd.func77, Tryd.ntmps77
    go_wp2
    go_ret
    exact ⟨rfl, rfl⟩

end Go.Proofs.YtcipdimogodndaaDoor

namespace Go.Slip

theorem tz_low16 {d r : Nat} (h0 : 0 < d) (h : d < 65536) : tz (d + 65536 * r) = tz d := by
  obtain ⟨h1, h2⟩ := tz_spec d h0
  have hle : tz d < 16 := by
    rcases Nat.lt_or_ge (tz d) 16 with h3 | h3
    · exact h3
    · have h4 : 2 ^ 16 ≤ 2 ^ tz d := Nat.pow_le_pow_right (by omega) h3
      have h5 : 0 < d / 2 ^ tz d := by
        rcases Nat.eq_zero_or_pos (d / 2 ^ tz d) with h | h
        · rw [h] at h2; simp at h2
        · exact h
      have h6 := Nat.mul_le_mul_left (2 ^ tz d) h5
      simp only [Nat.succ_eq_add_one, Nat.zero_add, Nat.mul_one] at h6
      omega
  obtain ⟨t, ht⟩ : ∃ t, t = tz d := ⟨_, rfl⟩
  rw [← ht] at h1 h2 hle ⊢
  obtain ⟨s, hs⟩ : ∃ s, 16 = t + (s + 1) := ⟨15 - t, by omega⟩
  have e : d + 65536 * r = (d / 2 ^ t + 2 * (2 ^ s * r)) * 2 ^ t := by
    have e1 : (65536 : Nat) = 2 ^ t * (2 ^ s * 2) := by
      rw [show (65536 : Nat) = 2 ^ 16 by decide, hs, Nat.pow_add, Nat.pow_succ]
    rw [e1, Nat.add_mul]
    conv => lhs; rw [← h1]
    grind
  rw [e]
  exact tz_mul _ _ (by omega)

theorem tz_dig16 {xs : List Nat} {a i : Nat} (ha : val B16 xs = a) (hz : ∀ j, j < i → dg xs j = 0) (hd : 0 < dg xs i) (hl : dg xs i < 65536) : tz a = 16 * i + tz (dg xs i) := by
  have h1 := val_take_drop0 B16 xs i
  have h2 : val B16 (xs.take i) = 0 := by
    have : xs.take i = List.replicate (xs.take i).length 0 := by
      apply list_ext_dg
      · simp
      · intro t ht
        simp only [List.length_take] at ht
        rw [dg_take (by omega), dg_replicate, hz t (by omega)]
    rw [this, val_replicate]
  rw [h2, val_drop0, Nat.zero_add] at h1
  have e : a = (dg xs i + 65536 * val B16 (xs.drop (i + 1))) * 2 ^ (16 * i) := by
    rw [← ha, h1, Nat.pow_mul, show (2 : Nat) ^ 16 = B16 by decide, Nat.mul_comm]
    rfl
  rw [e, tz_shift (by omega), tz_low16 hd hl]
  omega

def BareOut (xs : List Nat) (j n : Nat) : Prop := n = 16 * j ∧ ∀ i, i < j → dg xs i = 0

theorem BareOut.start (xs : List Nat) : BareOut xs 0 0 := ⟨rfl, fun i hi => by omega⟩
theorem BareOut.step {xs : List Nat} {j n : Nat} (h : BareOut xs j n) (hz : dg xs j = 0) : BareOut xs (j + 1) (n + 16) :=
  ⟨by have := h.1; omega, fun i hi => by
    by_cases he : i = j
    · subst he; exact hz
    · exact h.2 i (by omega)⟩
theorem BareOut.lt {xs : List Nat} {j n m : Nat} (h : BareOut xs j n) (hv : val B16 xs = m) (h0 : 0 < m) : j < xs.length := by
  rcases Nat.lt_or_ge j xs.length with h1 | h1
  · exact h1
  · have := val_zero_of (B := B16) (xs := xs) (fun i hi => h.2 i (by omega))
    omega

def BareIn (m d n : Nat) : Prop := ∃ t, n + tz d = t ∧ t = tz m ∧ 0 < d
theorem BareIn.start {xs : List Nat} {j n m : Nat} (h : BareOut xs j n) (hv : val B16 xs = m) (h0 : 0 < dg xs j) (hl : dg xs j < 65536) : BareIn m (dg xs j) n :=
  ⟨_, rfl, by rw [tz_dig16 hv h.2 h0 hl, h.1], h0⟩
theorem BareIn.step {m d n : Nat} (h : BareIn m d n) (he : d % 2 = 0) : BareIn m (d / 2) (n + 1) := by
  obtain ⟨t, h1, h2, h3⟩ := h
  rw [tz_even h3 he] at h1
  exact ⟨t, by omega, h2, by omega⟩
theorem BareIn.done {m d n : Nat} (h : BareIn m d n) (he : d % 2 = 1) : n = tz m := by
  obtain ⟨t, h1, h2, h3⟩ := h
  rw [tz_odd he] at h1
  omega

theorem blen_len16 (a : Nat) : blen a ≤ 16 * (dig B16 a).length := by
  rw [blen_le, Nat.pow_mul]
  exact (dig_len_le B16_two a _).1 (Nat.le_refl _)

end Go.Slip

namespace Go.Proofs.YtcipdimogodndaaDoor
open Go.RowKit Go.Slip

theorem wid_two (g : Gd) : wid g = 1 ∨ wid g = 4 := by unfold wid; split <;> simp

theorem far_div8 {x : Int} {wd : Nat} (h : wd = 1 ∨ wd = 4) (hx : -80000 ≤ x) : (x + 80000).tdiv wd = (x + 80000) / wd ∧ (80000 : Int).tdiv wd = 80000 / wd ∧ (x + 80000) / wd - 80000 / wd = x / wd := by
  refine ⟨Int.tdiv_eq_ediv_of_nonneg (by omega), Int.tdiv_eq_ediv_of_nonneg (by omega), ?_⟩
  rcases h with rfl | rfl <;> omega

set_option maxHeartbeats 8000000 in
set_option maxRecDepth 100000 in
theorem refInGrid_any (s : Bool) (p : Option Addr) (n c : Nat) (e : Int) (m : Nat) (g : Gd) (w : World) (hp : Rd w .i64 p (dig B16 m)) (hn : n = (dig B16 m).length) (hl : (dig B16 m).length ≤ 100000) (he : -1000000 ≤ e ∧ e ≤ 1000000) (G : GoodG g) :
    Calls Tryd.prog 37 #[.agg #[.bool s, .slice p n c, .int .i64 e], .agg #[.int .i64 g.rad, .int .i64 g.digs, .int .i64 g.lo, .int .i64 g.hi, .bool g.grad]] w fun en w' => en = .returned (.bool (inGridD ⟨s, m, e⟩ g)) ∧ Below w.heap.size w w' := by
  subst hn
  have hz := dig_len_zero B16_two m
  by_cases h0 : m = 0
  · have hk : inGridD ⟨s, m, e⟩ g = true := by unfold inGridD; rw [if_pos h0]
    have t0 : (((dig B16 m).length : Int) == 0) = true := by rw [hz.2 h0]; rfl
    rw [hk]
    clear hk h0 hz
    go_enter Tryd.func37, Tryd.ntmps37
    go_wp2
    go_ret
    exact ⟨rfl, below_lay2 _ _ _⟩
  · have t0 : (((dig B16 m).length : Int) == 0) = false := beq_eq_false_iff_ne.2 (by omega)
    have HWD := fun W => Lib.hid (refWidth_any g W)
    have wp := wid_pos g
    have wt := wid_two g
    obtain ⟨_, gd1, gd2, gl1, gl2, gh1, gh2, gle⟩ := G
    obtain ⟨D, hD⟩ : ∃ D : Nat, g.digs = D := ⟨g.digs.toNat, by omega⟩
    have hDt : g.digs.toNat = D := by omega
    have bm := blen_len16 m
    have b0 := (blen_pos m).2 (by omega)
    have hig : inGridD ⟨s, m, e⟩ g = if e < wid g * g.lo ∨ wid g * (g.hi + D) < e + blen m then false else
        if (e + blen m - 1) / wid g - D + 1 < g.lo then (if g.grad then decide (wid g * g.lo ≤ e) else false) else decide (wid g * ((e + blen m - 1) / wid g - D + 1) ≤ e) := by
      unfold inGridD
      rw [if_neg h0, hDt, hD]
      rfl
    rw [hig]
    obtain ⟨rad, digs, lo, hi, grad⟩ := g
    simp only at *
    subst hD
    obtain ⟨wd, hwd⟩ : ∃ wd, wid ⟨rad, D, lo, hi, grad⟩ = wd := ⟨_, rfl⟩
    rw [hwd] at wp wt HWD ⊢
    have HWT := Lib.hid wt
    obtain ⟨L, hL⟩ : ∃ L, blen m = L := ⟨_, rfl⟩
    have HL := Lib.hid hL
    have hlo := mul_bd (k := lo) wp.2 (B := 17000) ⟨gl1, gl2⟩
    have hhi := mul_bd (k := hi + (D : Int)) wp.2 (B := 17200) ⟨by omega, by omega⟩
    have e0 : IntKind.i64.wrap (e + ((blen m : Nat) : Int)) = e + (L : Int) := by rw [IntWalk.i64_in _ (by omega), hL]
    rw [hL] at bm b0 ⊢
    clear hz h0 hig hDt wt hwd hL
    by_cases h1 : e < wd * lo
    · rw [if_pos (.inl h1)]
      go_enter Tryd.func37, Tryd.ntmps37
      go_wp2_with fail
      refine calls_lay2 (fun W1 hb1 hz1 A B => ?_)
      replace hp := hp.past hb1
      have hs1 := hb1
      ((with_reducible refine ((HWD _).out).mono ?_))
      rintro e2 w2 ⟨rfl, hb2⟩
      replace A := A.past hb2
      replace B := B.past hb2
      replace hp := hp.past hb2
      have hs2 := hs1.trans (hb2.mono hs1.size)
      obtain ⟨A_0, A_1, A_2⟩ := A.e3
      obtain ⟨B_0, B_1, B_2, B_3, B_4⟩ := B.e5
      go_wp2_with fail
      clear A_0 A_1 A_2 B_0 B_1 B_2 B_3 B_4
      obtain ⟨A_0, A_1, A_2⟩ := A.e3
      go_quiet ((go_at_call 77; exact Calls.quiet_of_same ((refLen_any p _ c m _ (hp.drewN _) rfl (by clear e0; omega)).mono fun _ _ h => ⟨h.1, h.2.symm⟩)))
      clear A_0 A_1 A_2
      have hb3 := below_drewN (Below.refl (w2).heap.size (w2)) nq
      replace A := A.past hb3
      replace B := B.past hb3
      replace hp := hp.past hb3
      have hs3 := hs2.trans (hb3.mono hs2.size)
      generalize (w2).drewN nq = w3 at *
      clear e0
      obtain ⟨A_0, A_1, A_2⟩ := A.e3
      go_wp2_with fail
      clear A_0 A_1 A_2
      go_ret
      exact ⟨rfl, hs3⟩
    · by_cases h2 : wd * (hi + D) < e + L
      · rw [if_pos (.inr h2)]
        go_enter Tryd.func37, Tryd.ntmps37
        go_wp2_with fail
        refine calls_lay2 (fun W1 hb1 hz1 A B => ?_)
        replace hp := hp.past hb1
        have hs1 := hb1
        ((with_reducible refine ((HWD _).out).mono ?_))
        rintro e2 w2 ⟨rfl, hb2⟩
        replace A := A.past hb2
        replace B := B.past hb2
        replace hp := hp.past hb2
        have hs2 := hs1.trans (hb2.mono hs1.size)
        obtain ⟨A_0, A_1, A_2⟩ := A.e3
        obtain ⟨B_0, B_1, B_2, B_3, B_4⟩ := B.e5
        go_wp2_with fail
        clear A_0 A_1 A_2 B_0 B_1 B_2 B_3 B_4
        obtain ⟨A_0, A_1, A_2⟩ := A.e3
        go_quiet ((go_at_call 77; exact Calls.quiet_of_same ((refLen_any p _ c m _ (hp.drewN _) rfl (by clear e0; omega)).mono fun _ _ h => ⟨h.1, h.2.symm⟩)))
        clear A_0 A_1 A_2
        have hb3 := below_drewN (Below.refl (w2).heap.size (w2)) nq
        replace A := A.past hb3
        replace B := B.past hb3
        replace hp := hp.past hb3
        have hs3 := hs2.trans (hb3.mono hs2.size)
        generalize (w2).drewN nq = w3 at *
        clear e0
        obtain ⟨A_0, A_1, A_2⟩ := A.e3
        go_wp2_with fail
        clear A_0 A_1 A_2
        go_ret
        exact ⟨rfl, hs3⟩
      · rw [if_neg (by omega)]
        have hxb : -80000 ≤ e + (L : Int) - 1 ∧ e + (L : Int) - 1 ≤ 3000000 := by omega
        obtain ⟨f1, f2, f3⟩ := far_div8 HWT.out hxb.1
        have q1 := ediv_abs (wd := wd) (x := e + (L : Int) - 1 + 80000) (B := 4000000) wp.1 (by omega)
        have q2 := ediv_abs (wd := wd) (x := 80000) (B := 80000) wp.1 (by omega)
        have q3 := ediv_abs (wd := wd) (x := e + (L : Int) - 1) (B := 4000000) wp.1 (by omega)
        have hb := ediv_bd (e + (L : Int) - 1) wd wp.1
        have y0 : IntKind.i64.wrap (e + (L : Int) - 1) = e + (L : Int) - 1 := IntWalk.i64_in _ (by omega)
        have y1 : IntKind.i64.wrap (e + (L : Int) - 1 + 80000) = e + (L : Int) - 1 + 80000 := IntWalk.i64_in _ (by omega)
        have y2 : IntKind.i64.wrap ((e + (L : Int) - 1 + 80000).tdiv (wd : Int)) = (e + (L : Int) - 1 + 80000) / (wd : Int) := by rw [f1, IntWalk.i64_in _ (by omega)]
        have y3 : IntKind.i64.wrap ((80000 : Int).tdiv (wd : Int)) = 80000 / (wd : Int) := by rw [f2, IntWalk.i64_in _ (by omega)]
        have y4 : IntKind.i64.wrap ((e + (L : Int) - 1 + 80000) / (wd : Int) - 80000 / (wd : Int)) = (e + (L : Int) - 1) / (wd : Int) := by rw [f3, IntWalk.i64_in _ (by omega)]
        have y5 : IntKind.i64.wrap ((e + (L : Int) - 1) / (wd : Int) - (D : Int)) = (e + (L : Int) - 1) / (wd : Int) - D := IntWalk.i64_in _ (by omega)
        obtain ⟨K, hK⟩ : ∃ K, (e + (L : Int) - 1) / (wd : Int) - D + 1 = K := ⟨_, rfl⟩
        have y6 : IntKind.i64.wrap ((e + (L : Int) - 1) / (wd : Int) - (D : Int) + 1) = K := by rw [IntWalk.i64_in _ (by omega), hK]
        have t1 : ((wd : Int) == 0) = false := beq_eq_false_iff_ne.2 (by omega)
        have hKm : -20000000 ≤ (wd : Int) * K ∧ (wd : Int) * K ≤ 20000000 := mul_bd (k := K) wp.2 (B := 5000000) ⟨by omega, by omega⟩
        rw [hK]
        have Y0 := Lib.hid y0
        have Y1 := Lib.hid y1
        have Y2 := Lib.hid y2
        have Y3 := Lib.hid y3
        have Y4 := Lib.hid y4
        have Y5 := Lib.hid y5
        have Y6 := Lib.hid y6
        have T1 := Lib.hid t1
        clear f1 f2 f3 hK y0 y1 y2 y3 y4 y5 y6 t1
        go_enter Tryd.func37, Tryd.ntmps37
        go_wp2_with fail
        refine calls_lay2 (fun W1 hb1 hz1 A B => ?_)
        replace hp := hp.past hb1
        have hs1 := hb1
        ((with_reducible refine ((HWD _).out).mono ?_))
        rintro e2 w2 ⟨rfl, hb2⟩
        replace A := A.past hb2
        replace B := B.past hb2
        replace hp := hp.past hb2
        have hs2 := hs1.trans (hb2.mono hs1.size)
        obtain ⟨A_0, A_1, A_2⟩ := A.e3
        obtain ⟨B_0, B_1, B_2, B_3, B_4⟩ := B.e5
        go_wp2_with fail
        clear A_0 A_1 A_2 B_0 B_1 B_2 B_3 B_4
        obtain ⟨A_0, A_1, A_2⟩ := A.e3
        go_quiet ((go_at_call 77; exact Calls.quiet_of_same ((refLen_any p _ c m _ (hp.drewN _) rfl (by clear e0; omega)).mono fun _ _ h => ⟨h.1, h.2.symm⟩)))
        clear A_0 A_1 A_2
        have hb3 := below_drewN (Below.refl (w2).heap.size (w2)) nq
        replace A := A.past hb3
        replace B := B.past hb3
        replace hp := hp.past hb3
        have hs3 := hs2.trans (hb3.mono hs2.size)
        generalize (w2).drewN nq = w3 at *
        clear e0
        obtain ⟨A_0, A_1, A_2⟩ := A.e3
        obtain ⟨B_0, B_1, B_2, B_3, B_4⟩ := B.e5
        go_wp2_with fail
        clear A_0 A_1 A_2 B_0 B_1 B_2 B_3 B_4
        have y0 := Y0.out
        have y1 := Y1.out
        have y2 := Y2.out
        have y3 := Y3.out
        have y4 := Y4.out
        have y5 := Y5.out
        have y6 := Y6.out
        have t1 := T1.out
        obtain ⟨B_0, B_1, B_2, B_3, B_4⟩ := B.e5
        go_quiet (fail)
        clear B_0 B_1 B_2 B_3 B_4
        have hb4 := below_drewN (Below.refl (w3).heap.size (w3)) nq
        replace A := A.past hb4
        replace B := B.past hb4
        replace hp := hp.past hb4
        have hs4 := hs3.trans (hb4.mono hs3.size)
        generalize (w3).drewN nq = w4 at *
        clear y0 y1 y2 y3 y4 y5 y6 t1
        by_cases h3 : K < lo
        · cases grad
          · have t5 := True.intro
            obtain ⟨A_0, A_1, A_2⟩ := A.e3
            obtain ⟨B_0, B_1, B_2, B_3, B_4⟩ := B.e5
            go_wp2_with fail
            clear A_0 A_1 A_2 B_0 B_1 B_2 B_3 B_4
            go_ret
            exact ⟨by simp, hs4⟩
          · by_cases h4 : wd * lo ≤ e
            · have t5 := True.intro
              obtain ⟨A_0, A_1, A_2⟩ := A.e3
              obtain ⟨B_0, B_1, B_2, B_3, B_4⟩ := B.e5
              go_wp2_with fail
              clear A_0 A_1 A_2 B_0 B_1 B_2 B_3 B_4
              go_ret
              exact ⟨by simp, hs4⟩
            · exact absurd (by omega) h4
        · by_cases h4 : wd * K ≤ e
          · have t5 := True.intro
            obtain ⟨A_0, A_1, A_2⟩ := A.e3
            obtain ⟨B_0, B_1, B_2, B_3, B_4⟩ := B.e5
            go_wp2_with fail
            clear A_0 A_1 A_2 B_0 B_1 B_2 B_3 B_4
            go_ret
            exact ⟨by simp [h3], hs4⟩
          · have t5 := True.intro
            obtain ⟨A_0, A_1, A_2⟩ := A.e3
            obtain ⟨B_0, B_1, B_2, B_3, B_4⟩ := B.e5
            go_wp2_with fail
            clear A_0 A_1 A_2 B_0 B_1 B_2 B_3 B_4
            go_ret
            exact ⟨by simp [h4], hs4⟩

end Go.Proofs.YtcipdimogodndaaDoor

namespace Go.Proofs.YtcipdimogodndaaDoor
open Go.RowKit Go.Slip

set_option maxHeartbeats 1000000 in
theorem refPow2_any (N : Nat) (w : World) (hN : N ≤ 1000000000) :
    Calls Tryd.prog 62 #[.int .i64 N] w (GivesR w .i64 (dig B16 (2 ^ N))) := by
  have hs : N % 16 < 16 := Nat.mod_lt _ (by omega)
  have HD := Lib.hid (pow2_dig (B := B16) (w := 16) (by decide) (by omega) N)
  go_enter Tryd.func62, Tryd.ntmps62
  go_wp2_with (refine wpl_make rfl _ _ _ rfl tyN .i64 .i64 (N / 16 + 1) _ _ rfl rfl ?_ ?_ ?_ ?_; omega; omega; omega; intro p1 c1 w1 ho1 hb1 hz1)
  go_loop [4, 5] (fun dv iv => ∃ (i t : Nat), iv = .int .i64 i ∧ dv = .int .i64 t ∧ i ≤ N % 16 ∧ t ≤ 65536 ∧ Hid (t = 2 ^ i)) (fun _ iv => N % 16 - (intOf iv).toNat)
  case atStart => exact ⟨0, 1, rfl, rfl, Nat.zero_le _, by omega, rfl⟩
  case round =>
    obtain ⟨i, t, rfl, rfl, hi, ht, HT⟩ := hrel
    by_cases h1 : i < N % 16
    · have HS : Hid (2 * t = 2 ^ (i + 1)) := by show 2 * t = 2 ^ (i + 1); rw [HT.out, Nat.pow_succ]; omega
      have hb : 2 * t ≤ 65536 := by
        rw [HS.out]; exact Nat.pow_le_pow_right (show 0 < 2 by omega) (show i + 1 ≤ 16 by omega)
      go_wp2
      go_round
      case rel => exact ⟨i + 1, 2 * t, by go_num, by go_num, by omega, hb, HS⟩
      case measure => simp [intOf]; omega
    · obtain rfl : i = N % 16 := by omega
      have hso := ho1.solid
      rw [List.length_replicate] at hso
      have hsm := hso
      go_wp2_with (refine wpl_store rfl _ _ _ rfl 3 tyN _ _ _ _ ho1 (N / 16) (by simp) _ ?_ rfl rfl ?_; omega; intro w3 ho3 hg3 hb3)
      go_ret
      rw [Int.toNat_natCast, HT.out, HD.out] at ho3
      refine ⟨p1, c1, ?_, ho3.rd, ho3.le_cap, own_blk ho3, hb1.trans hb3⟩
      rw [← HD.out]; simp

theorem dig_len_pow2 (N : Nat) : (dig B16 (2 ^ N)).length = N / 16 + 1 := by
  rw [← pow2_dig (B := B16) (w := 16) (by decide) (by omega) N]; simp

set_option maxHeartbeats 1000000 in
theorem refUp_any (p : Option Addr) (n c : Nat) (a N : Nat) (w : World) (hp : Rd w .i64 p (dig B16 a)) (hn : n = (dig B16 a).length) (hl : (dig B16 a).length ≤ 100000000) (hN : N ≤ 1000000000) :
    Calls Tryd.prog 99 #[.slice p n c, .int .i64 N] w (GivesR w .i64 (dig B16 (a * 2 ^ N))) := by
  subst hn
  by_cases h0 : (dig B16 a).length = 0
  · have : a = 0 := (dig_len_zero B16_two a).1 h0
    subst this
    rw [Nat.zero_mul]
    rw [dig_zero] at *
    go_enter Tryd.func99, Tryd.ntmps99
    go_wp2
    go_ret
    exact ⟨none, 0, rfl, Rd.nil _ _ _, by simp, by simp, Below.refl _ _⟩
  · have hlp := Nat.le_of_eq (dig_len_pow2 N)
    have h1 : 1 ≤ (dig B16 a).length := by omega
    clear h0
    go_enter Tryd.func99, Tryd.ntmps99
    go_wp2_with fail
    refine (refPow2_any N _ hN).mono ?_
    rintro e w1 ⟨p1, c1, rfl, ho1, -, -, hb1⟩
    go_wp2_with fail
    refine (refTimes_any p p1 _ _ c c1 a (2 ^ N) _ (hp.past hb1) ho1 rfl rfl (by omega)).mono ?_
    rintro e w2 ⟨p2, c2, rfl, ho2, hc2, hn2, hb2⟩
    go_wp2_with fail
    go_ret
    exact ⟨p2, c2, rfl, ho2, hc2, fun h => Nat.le_trans hb1.size (hn2 h), hb1.trans (hb2.mono hb1.size)⟩

theorem down_done {O Y : List Nat} {N a : Nat} (h : DownRel B16 (2 ^ (N % 16)) O Y Y.length) (hY : val B16 Y = a / B16 ^ (N / 16)) : val B16 O = a / 2 ^ N := by
  rw [h.done, hY, shift_split (B := B16) (w := 16) (by decide)]

set_option maxHeartbeats 1000000 in
set_option maxRecDepth 100000 in
theorem refDown_any (p : Option Addr) (n c : Nat) (a N : Nat) (w : World) (hp : Rd w .i64 p (dig B16 a)) (hn : n = (dig B16 a).length) (hl : (dig B16 a).length ≤ 1000000000) (hN : N ≤ 9223372036854775807) :
    Calls Tryd.prog 97 #[.slice p n c, .int .i64 N] w (GivesR w .i64 (dig B16 (a / 2 ^ N))) := by
  subst hn
  by_cases h0 : (dig B16 a).length ≤ N / 16
  · rw [div_of_big (w := 16) (by decide) B16_two a N h0]
    rw [dig_zero]
    go_enter Tryd.func97, Tryd.ntmps97
    go_wp2
    go_ret
    exact ⟨none, 0, rfl, Rd.nil _ _ _, by simp, by simp, Below.refl _ _⟩
  · have HXL := Lib.hid (dig_lt B16_two a)
    have HV := Lib.hid (val_drop_div (B := B16) B16_pos _ (dig_lt B16_two a) (N / 16))
    rw [val_dig B16_two] at HV
    generalize dig B16 a = xs at *
    have hsx := hp.solid
    have hk : N / 16 < xs.length := by omega
    have HY := Lib.hid (show ∀ x ∈ xs.drop (N / 16), x < B16 from fun x h => HXL.out x (List.mem_of_mem_drop h))
    have hyl : (xs.drop (N / 16)).length = xs.length - N / 16 := List.length_drop
    have hylp : (xs.drop (N / 16)).length + N / 16 ≤ xs.length := by omega
    have hylq : xs.length ≤ (xs.drop (N / 16)).length + N / 16 := by omega
    have HG := Lib.hid (show ∀ j, dg (xs.drop (N / 16)) j = dg xs (N / 16 + j) from fun j => dg_drop)
    clear h0 hyl
    have hs : N % 16 < 16 := Nat.mod_lt _ (by omega)
    generalize xs.drop (N / 16) = ys at *
    have H0 := Lib.hid (DownRel.start B16 (2 ^ (N % 16)) ys)
    have hpm : B16 % 2 ^ (N % 16) = 0 := pow_mod_zero (w := 16) (by omega)
    have hpm := Lib.hid hpm
    go_enter Tryd.func97, Tryd.ntmps97
    go_wp2
    go_loop [5, 6] (fun dv iv => ∃ (i t : Nat), iv = .int .i64 i ∧ dv = .int .i64 t ∧ i ≤ N % 16 ∧ t ≤ 65536 ∧ Hid (t = 2 ^ i)) (fun _ iv => N % 16 - (intOf iv).toNat)
    case atStart => exact ⟨0, 1, rfl, rfl, Nat.zero_le _, by omega, rfl⟩
    case round =>
      obtain ⟨i, t, rfl, rfl, hi, ht, HT⟩ := hrel
      by_cases h1 : i < N % 16
      · have HS : Hid (2 * t = 2 ^ (i + 1)) := by show 2 * t = 2 ^ (i + 1); rw [HT.out, Nat.pow_succ]; omega
        have hb : 2 * t ≤ 65536 := by
          rw [HS.out]; exact Nat.pow_le_pow_right (show 0 < 2 by omega) (show i + 1 ≤ 16 by omega)
        go_wp2
        go_round
        case rel => exact ⟨i + 1, 2 * t, by go_num, by go_num, by omega, hb, HS⟩
        case measure => simp [intOf]; omega
      · obtain rfl : i = N % 16 := by omega
        have htp : 1 ≤ t := by rw [HT.out]; exact Nat.pow_pos (by omega)
        go_wp2
        rw [← HT.out] at H0 hpm
        go_loopg [7, 8] (ys.length) (fun g ov iv wr => ∃ (i : Nat) (q : Option Addr) (e : Nat) (O : List Nat), iv = .int .i64 ((N / 16 + i : Nat) : Int) ∧ ov = .slice q O.length e ∧ g + i = ys.length ∧ i ≤ ys.length ∧ Hid (O.length = i) ∧
            Own wr w.heap.size .i64 3 q e O ∧ Below w.heap.size w wr ∧ Hid (DownRel B16 t O ys i))
        case atStart => exact ⟨0, none, 0, [], by go_num, rfl, by omega, by omega, rfl, Own.nil _ _ _ _, Below.refl _ _, H0⟩
        case round =>
          obtain ⟨i, q, e, O, rfl, rfl, hg, hi, hO, hoq, hb, HR⟩ := hrel
          have hpL := hp.past hb
          have hyd := getD_lt (B := 65536) (by omega) ys HY.out i
          have hyd2 := getD_lt (B := 65536) (by omega) ys HY.out (i + 1)
          by_cases hlt : i < ys.length
          · have hc1 := hpL.cells (N / 16 + i) (by omega)
            rw [← HG.out] at hc1
            obtain ⟨v, hv⟩ : ∃ v, v = dg ys i / t := ⟨_, rfl⟩
            have ev : ((dg ys i : Nat) : Int) / (t : Int) = (v : Nat) := by rw [hv]; rfl
            have hvd : v < 65536 := by rw [hv]; exact Nat.lt_of_le_of_lt (Nat.div_le_self _ _) hyd
            by_cases h2 : i + 1 < ys.length
            · have hc2 := hpL.cells (N / 16 + (i + 1)) (by omega)
              rw [← HG.out] at hc2
              obtain ⟨m, hm⟩ : ∃ m, m = dg ys (i + 1) % t := ⟨_, rfl⟩
              obtain ⟨k, hk2⟩ : ∃ k, k = 65536 / t := ⟨_, rfl⟩
              obtain ⟨r, hr⟩ : ∃ r, r = m * k := ⟨_, rfl⟩
              obtain ⟨u, hu⟩ : ∃ u, u = v + r := ⟨_, rfl⟩
              have hue : u = dg ys i / t + dg ys (i + 1) % t * (B16 / t) := by rw [hu, hr, hm, hk2, hv]; rfl
              have hub : u < 65536 := by rw [hue]; exact shr_lt htp hpm.out hyd
              have HS := Lib.hid (HR.out.step htp hpm.out HY.out hlt u hue)
              have hkb : k ≤ 65536 := by rw [hk2]; exact Nat.div_le_self _ _
              have i0 : (0 : Int) ≤ (N : Int) / 16 + i + 1 := by omega
              have i1 : (N : Int) / 16 + i + 1 < (xs.length : Int) := by omega
              have e1 : IntKind.i64.wrap ((N : Int) / 16 + i + 1) = (N : Int) / 16 + i + 1 := IntWalk.i64_in _ (by omega)
              have e2 : ((dg ys (i + 1) : Nat) : Int).tmod (t : Int) = (m : Nat) := by rw [Int.tmod_eq_emod_of_nonneg (by omega), hm]; rfl
              have e3 : IntKind.i64.wrap ((65536 : Int) / (t : Int)) = (k : Nat) := by rw [hk2]; exact IntWalk.i64_in _ (by have : ((65536 / t : Nat) : Int) = 65536 / (t : Int) := rfl; omega)
              have e4 : IntKind.i64.wrap ((m : Int) * (k : Int)) = (r : Nat) := by
                have : (m : Int) * (k : Int) = (r : Nat) := by rw [hr]; simp
                rw [this]; exact IntWalk.i64_in _ (by omega)
              have e5 : IntKind.i64.wrap ((v : Int) + (r : Int)) = (u : Nat) := by rw [hu]; exact IntWalk.i64_in _ (by omega)
              have e6 : ((N : Int) / 16 + i + 1).toNat = N / 16 + (i + 1) := by omega
              have e7 : ¬ t = 0 := by omega
              have e8 : (65536 : Int).tdiv (t : Int) = (65536 : Int) / (t : Int) := Int.tdiv_eq_ediv_of_nonneg (by omega)
              clear hu hr hm hk2 hv hue
              go_wp2_with fail
              go_quiet (fail)
              have hoq := hoq.drewN nq
              have hb := hb.trans (below_drewN (Below.refl _ wr) nq)
              clear e1 e2 e3 e4 e5 e6 e7 e8 i0 i1 hc1 hc2 hpL
              go_wp2_with (first
                | (refine wpl_build1 rfl _ _ rfl tyN _ ?_ rfl ?_; omega; intro p2 w2 ho2 hb2 hz2 hp2)
                | (at_builtin; refine wpl_append rfl _ _ _ rfl tyN _ _ _ _ _ (hoq.past hb2) rfl _ _ _ _ ho2.rd rfl rfl rfl ?_ ?_ ?_; (have := hO.out; simp; omega); (have := hb2.size; have := hb.size; omega); intro p3 c3 w3 ho3 hg3 hb3 hn3))
              have hb4 := hb.trans ((hb2.mono hb.size).trans hb3)
              rw [Int.toNat_natCast] at ho3
              go_roundg (ys.length - 1 - i)
              case measure => omega
              case rel => exact ⟨i + 1, p3, c3, _, by go_num, by simp, by omega, by omega, (by show (O ++ _).length = _; have := hO.out; rw [List.length_append, List.length_singleton]; omega), ho3, hb4, HS⟩
            · have HS := Lib.hid (HR.out.step htp hpm.out HY.out hlt v (by rw [hv, dg_of_ge (show ys.length ≤ i + 1 by omega), Nat.zero_mod, Nat.zero_mul]; rfl))
              clear hv
              go_wp2_with (first
                | (refine wpl_build1 rfl _ _ rfl tyN _ ?_ rfl ?_; omega; intro p2 w2 ho2 hb2 hz2 hp2)
                | (at_builtin; refine wpl_append rfl _ _ _ rfl tyN _ _ _ _ _ (hoq.past hb2) rfl _ _ _ _ ho2.rd rfl rfl rfl ?_ ?_ ?_; (have := hO.out; simp; omega); (have := hb2.size; have := hb.size; omega); intro p3 c3 w3 ho3 hg3 hb3 hn3))
              have hb4 := hb.trans ((hb2.mono hb.size).trans hb3)
              rw [Int.toNat_natCast] at ho3
              go_roundg (ys.length - 1 - i)
              case measure => omega
              case rel => exact ⟨i + 1, p3, c3, _, by go_num, by simp, by omega, by omega, (by show (O ++ _).length = _; have := hO.out; rw [List.length_append, List.length_singleton]; omega), ho3, hb4, HS⟩
          · obtain rfl : i = ys.length := by omega
            have HD := Lib.hid (down_done (by rw [← HT.out]; exact HR.out) HV.out)
            have HX := Lib.hid HR.out.1
            go_wp2_with (go_at_call 98; refine (refTrim_any _ _ _ O _ hoq.rd rfl hoq.le_cap HX.out (by rw [hO.out]; omega)).mono ?_; rintro e w3 ⟨rfl, rfl⟩)
            go_ret
            have ht := take_dig_len B16_two O HX.out
            have ho2 := hoq.take (dig B16 (val B16 O)).length
            rw [ht, HD.out] at ho2
            rw [HD.out]
            exact ⟨q, _, rfl, ho2.rd, Nat.le_refl _, own_blk ho2, hb⟩

end Go.Proofs.YtcipdimogodndaaDoor

namespace Go.Proofs.YtcipdimogodndaaDoor
open Go.RowKit Go.Slip

set_option maxHeartbeats 1000000 in
theorem refBared_zero (g : Bool) (p : Option Addr) (c : Nat) (e : Int) (w : World) :
    Calls Tryd.prog 48 #[.agg #[.bool g, .slice p 0 c, .int .i64 e]] w (GivesF w (fun _ => False) ⟨false, 0, 0⟩) := by
  go_enter Tryd.func48, Tryd.ntmps48
  go_wp2
  refine bodyPost_ret (v := .agg #[.bool false, .slice none 0 0, .int .i64 0]) (by simp [results, Tryd.results48, go_sem]) rfl ?_
  exact ⟨none, 0, by rw [dig_zero]; rfl, by rw [dig_zero]; exact Rd.nil _ _ _, by rw [dig_zero]; simp, by rw [dig_zero]; simp, ((Below.refl _ _).alloc (Nat.le_refl _) _).alloc (by simp) _⟩

set_option maxHeartbeats 2000000 in
set_option maxRecDepth 100000 in
theorem refBared_pos (g : Bool) (p : Option Addr) (n c : Nat) (e : Int) (m : Nat) (w : World) (hp : Rd w .i64 p (dig B16 m)) (hn : n = (dig B16 m).length) (hl : (dig B16 m).length ≤ 10000000) (h0 : 0 < m)
    (he : -1000000000 ≤ e ∧ e ≤ 1000000000) :
    Calls Tryd.prog 48 #[.agg #[.bool g, .slice p n c, .int .i64 e]] w (GivesF w (fun _ => False) (bare ⟨g, m, e⟩)) := by
  subst hn
  have hl0 : 0 < (dig B16 m).length := by
    have := dig_len_zero B16_two m
    omega
  have t1 : (((dig B16 m).length : Int) == 0) = false := beq_eq_false_iff_ne.2 (by omega)
  obtain ⟨W1, hW1, hs1, A1, R1, hz1⟩ := box2s w (.bool g) (.slice p (dig B16 m).length c) (.int .i64 e) (.bool false) (.slice none 0 0) (.int .i64 0) 34 34
  have hp1 := hp.past hs1
  have HB := Lib.hid (bare_pos (g := g) (e := e) h0)
  have htz : tz m ≤ 1000000000 := by have := tz_lt_blen h0; have := blen_len16 m; omega
  have HV := Lib.hid (val_dig B16_two m)
  have HX := Lib.hid (dig_lt B16_two m)
  have HW1 := Lib.hid hW1
  obtain ⟨xs, hxs⟩ : ∃ xs, xs = dig B16 m := ⟨_, rfl⟩
  have HXS := Lib.hid hxs
  rw [← hxs] at hp hl hl0 t1 A1 hp1 HV HX HW1 ⊢
  have hsx := hp1.solid
  have a1 := A1.c1
  clear hW1 hxs
  go_enter Tryd.func48, Tryd.ntmps48
  go_wp2_with fail
  rw [← HW1.out]
  clear HW1
  go_wp2
  go_loopg [3] xs.length (fun gk nv wr => ∃ (j n : Nat), nv = .int .i64 n ∧ gk + j = xs.length ∧ wr = W1 ∧ Hid (BareOut xs j n))
  case atStart => exact ⟨0, 0, rfl, rfl, rfl, BareOut.start xs⟩
  case round =>
    obtain ⟨j, n, rfl, hgk, rfl, HO⟩ := hrel
    have hlt := HO.out.lt HV.out h0
    have hd := getD_lt (B := 65536) (by omega) xs HX.out j
    have hn1 : (n : Int) ≤ 160000000 := by have := HO.out.1; omega
    have e1 : (n : Int) / 16 = (j : Int) := by have := HO.out.1; omega
    have hcell := hp1.cells j hlt
    by_cases hz : dg xs j = 0
    · have HS := Lib.hid (HO.out.step hz)
      rw [hz] at hcell
      have hgi : 0 < gk := by omega
      clear hz
      go_wp2
      go_roundg (gk - 1)
      case measure => omega
      case rel => exact ⟨j + 1, n + 16, by go_num, by omega, rfl, HS⟩
    · have h0d : 0 < dg xs j := by omega
      have HI := Lib.hid (BareIn.start HO.out HV.out h0d hd)
      have t2 : (((dg xs j : Nat) : Int) == 0) = false := beq_eq_false_iff_ne.2 (by omega)
      clear hz
      go_wp2
      have hjn : n ≤ 160000000 := by omega
      clear e1 hcell t2 hn1
      obtain ⟨d0, hd0⟩ : ∃ d0, dg xs j = d0 := ⟨_, rfl⟩
      rw [hd0] at HI hd h0d ⊢
      clear hd0
      go_loopg [3, 4] d0 (fun gk nv dv wx => ∃ (n2 : Nat), nv = .int .i64 n2 ∧ dv = .int .i64 gk ∧ gk < 65536 ∧ wx = wr ∧ Hid (BareIn m gk n2))
      case atStart => exact ⟨n, rfl, rfl, hd, rfl, HI⟩
      case round =>
        obtain ⟨n2, rfl, rfl, hgl, rfl, HN⟩ := hrel
        have hn2 : n2 ≤ 1000000000 := by obtain ⟨t, h1, h2, h3⟩ := HN.out; omega
        have hg0 : 0 < gk := by obtain ⟨t, h1, h2, h3⟩ := HN.out; omega
        by_cases hev : gk % 2 = 0
        · have HS := Lib.hid (HN.out.step hev)
          have t3 : (gk : Int) % 2 = 0 := by omega
          clear hev
          go_wp2
          go_roundg (gk / 2)
          case measure => omega
          case rel => exact ⟨n2 + 1, by go_num, by go_num, by omega, rfl, HS⟩
        · have HD := HN.out.done (by omega)
          have t3 : (gk : Int) % 2 = 1 := by omega
          subst HD
          obtain ⟨t, ht⟩ : ∃ t, tz m = t := ⟨_, rfl⟩
          have HT := Lib.hid ht
          rw [ht] at htz HB hn2 HN ⊢
          clear ht hev
          go_wp2_with fail
          clear t3
          have e1 : IntKind.i64.wrap (e + (t : Int)) = e + (t : Int) := IntWalk.i64_in _ (by omega)
          have hpm : Rd wr .i64 p (dig B16 m) := by rw [← HXS.out]; exact hp1
          go_region_held3 (fun w' => w'.cell? ⟨w.heap.size, 0, none⟩ = some (.bool g) ∧ w'.cell? ⟨w.heap.size, 1, none⟩ = some (.slice p xs.length c) ∧ w'.cell? ⟨w.heap.size, 2, none⟩ = some (.int .i64 e))
            (first | exact ⟨A1.c0, A1.c1, A1.c2⟩
                   | (have D1 := A1.drew; exact ⟨D1.c0, D1.c1, D1.c2⟩)
                   | (have D1 := A1.drew.past hb2; exact ⟨D1.c0, D1.c1, D1.c2⟩)
                   | (have D1 := A1.drew.past hb2; exact ⟨(((D1.set (by omega)).set (by omega)).set (by omega)).c0, (((D1.set (by omega)).set (by omega)).set (by omega)).c1, (((D1.set (by omega)).set (by omega)).set (by omega)).c2⟩))
            (first | (go_at_call 97; refine (refDown_any p _ c m t _ hpm.drew (by rw [HXS.out]) (by rw [← HXS.out]; clear e1; omega) (by clear e1; omega)).mono ?_; rintro e2 w2 ⟨p2, c2, rfl, hr2, hc2, hf2, hb2⟩; obtain ⟨d0, d1, d2, f0, f1, f2, dlt⟩ := R1.drew.past hb2))
          all_goals (go_wp2_with fail)
          refine bodyPost_ret (v := .agg #[.bool g, .slice p2 (dig B16 (m / 2 ^ t)).length c2, .int .i64 (e + (t : Int))]) (by simp [results, Tryd.results48, go_sem, d0, d1, d2]) rfl ?_
          rw [HB.out]
          clear e1
          have hzd : wr.drew.heap.size = wr.heap.size := rfl
          exact givesF_close (d := ⟨g, m / 2 ^ t, e + t⟩) (hs1.drew.trans (hb2.mono hs1.size)) hr2 hc2 (fun h => .inr (by have := hf2 h; simp only at *; omega)) (by omega) (fun h => by have := hf2 h; simp only at *; omega)

theorem refBared_any (g : Bool) (p : Option Addr) (n c : Nat) (e : Int) (m : Nat) (w : World) (hp : Rd w .i64 p (dig B16 m)) (hn : n = (dig B16 m).length) (hl : (dig B16 m).length ≤ 10000000)
    (he : -1000000000 ≤ e ∧ e ≤ 1000000000) :
    Calls Tryd.prog 48 #[.agg #[.bool g, .slice p n c, .int .i64 e]] w (GivesF w (fun _ => False) (bare ⟨g, m, e⟩)) := by
  by_cases h0 : m = 0
  · subst h0
    rw [dig_zero] at hn
    subst hn
    exact refBared_zero g p c e w
  · exact refBared_pos g p n c e m w hp hn hl (by omega) he

end Go.Proofs.YtcipdimogodndaaDoor

namespace Go.Proofs.YtcipdimogodndaaDoor
open Go.RowKit Go.Slip

set_option maxHeartbeats 1000000 in
set_option maxRecDepth 100000 in
theorem refLess_any (p q : Option Addr) (n m c d : Nat) (a b : Nat) (w : World) (hp : Rd w .i64 p (dig B16 a)) (hq : Rd w .i64 q (dig B16 b)) (hn : n = (dig B16 a).length) (hm : m = (dig B16 b).length)
    (hl : (dig B16 a).length ≤ 1000000000) (hab : b ≤ a) :
    Calls Tryd.prog 78 #[.slice p n c, .slice q m d] w (GivesR w .i64 (dig B16 (a - b))) := by
  subst hn hm
  have hge := dig_len_mono B16_two hab
  have HXL := Lib.hid (dig_lt B16_two a)
  have HYL := Lib.hid (dig_lt B16_two b)
  have HA := Lib.hid (val_dig B16_two a)
  have HB := Lib.hid (val_dig B16_two b)
  generalize dig B16 a = xs at *
  generalize dig B16 b = ys at *
  have hsx := hp.solid
  have hsy := hq.solid
  go_enter Tryd.func78, Tryd.ntmps78
  go_wp2
  go_loopg [5, 6, 7] (xs.length) (fun g ov cv iv wr => ∃ (i cr : Nat) (t : Option Addr) (e : Nat) (O : List Nat), iv = .int .i64 i ∧ cv = .int .i64 cr ∧ ov = .slice t O.length e ∧ g + i = xs.length ∧ cr ≤ 1 ∧ i ≤ xs.length ∧ Hid (O.length = i) ∧
      Own wr w.heap.size .i64 3 t e O ∧ Below w.heap.size w wr ∧ Hid (LessRel O xs ys i cr))
  case atStart => exact ⟨0, 0, none, 0, [], rfl, rfl, rfl, by omega, by omega, by omega, rfl, Own.nil _ _ _ _, Below.refl _ _, LessRel.start xs ys⟩
  case round =>
    obtain ⟨i, cr, t, e, O, rfl, rfl, rfl, hg, hcr, hi, hO, hoq, hb, HR⟩ := hrel
    have hpL := hp.past hb
    have hqL := hq.past hb
    have hxd := getD_lt (B := 65536) (by omega) xs HXL.out i
    have hyd := getD_lt (B := 65536) (by omega) ys HYL.out i
    by_cases h1 : i < xs.length
    · have hc1 := hpL.cells i h1
      by_cases h2 : i < ys.length
      · have hc2 := hqL.cells i h2
        by_cases h3 : dg xs i < dg ys i + cr
        · have HS := Lib.hid (HR.out.step (dg xs i + 65536 - dg ys i - cr) 1 (by unfold B16; omega) (by omega) (by unfold B16; omega))
          go_wp2_with (first
            | (refine wpl_build1 rfl _ _ rfl tyN _ ?_ rfl ?_; omega; intro p2 w2 ho2 hb2 hz2 hp2)
            | (at_builtin; refine wpl_append rfl _ _ _ rfl tyN _ _ _ _ _ (hoq.past hb2) rfl _ _ _ _ ho2.rd rfl rfl rfl ?_ ?_ ?_; (have := hO.out; simp; omega); (have := hb2.size; have := hb.size; omega); intro p3 c3 w3 ho3 hg3 hb3 hn3))
          have hb4 := hb.trans ((hb2.mono hb.size).trans hb3)
          have e4 : ((dg xs i : Int) - cr - dg ys i + 65536).toNat = dg xs i + 65536 - dg ys i - cr := by omega
          rw [e4] at ho3
          go_roundg (xs.length - 1 - i)
          case measure => omega
          case rel => exact ⟨i + 1, 1, p3, c3, _, by go_num, rfl, by simp, by omega, by omega, by omega, (by show (O ++ _).length = i + 1; have := hO.out; simp; omega), ho3, hb4, HS⟩
        · have HS := Lib.hid (HR.out.step (dg xs i - dg ys i - cr) 0 (by unfold B16; omega) (by omega) (by unfold B16; omega))
          go_wp2_with (first
            | (refine wpl_build1 rfl _ _ rfl tyN _ ?_ rfl ?_; omega; intro p2 w2 ho2 hb2 hz2 hp2)
            | (at_builtin; refine wpl_append rfl _ _ _ rfl tyN _ _ _ _ _ (hoq.past hb2) rfl _ _ _ _ ho2.rd rfl rfl rfl ?_ ?_ ?_; (have := hO.out; simp; omega); (have := hb2.size; have := hb.size; omega); intro p3 c3 w3 ho3 hg3 hb3 hn3))
          have hb4 := hb.trans ((hb2.mono hb.size).trans hb3)
          have e4 : ((dg xs i : Int) - cr - dg ys i).toNat = dg xs i - dg ys i - cr := by omega
          rw [e4] at ho3
          go_roundg (xs.length - 1 - i)
          case measure => omega
          case rel => exact ⟨i + 1, 0, p3, c3, _, by go_num, rfl, by simp, by omega, by omega, by omega, (by show (O ++ _).length = i + 1; have := hO.out; simp; omega), ho3, hb4, HS⟩
      · have ez : dg ys i = 0 := dg_of_ge (by omega)
        by_cases h3 : dg xs i < cr
        · have HS := Lib.hid (HR.out.step (dg xs i + 65536 - cr) 1 (by unfold B16; omega) (by omega) (by unfold B16; omega))
          clear ez hyd
          go_wp2_with (first
            | (refine wpl_build1 rfl _ _ rfl tyN _ ?_ rfl ?_; omega; intro p2 w2 ho2 hb2 hz2 hp2)
            | (at_builtin; refine wpl_append rfl _ _ _ rfl tyN _ _ _ _ _ (hoq.past hb2) rfl _ _ _ _ ho2.rd rfl rfl rfl ?_ ?_ ?_; (have := hO.out; simp; omega); (have := hb2.size; have := hb.size; omega); intro p3 c3 w3 ho3 hg3 hb3 hn3))
          have hb4 := hb.trans ((hb2.mono hb.size).trans hb3)
          have e4 : ((dg xs i : Int) - cr + 65536).toNat = dg xs i + 65536 - cr := by omega
          rw [e4] at ho3
          go_roundg (xs.length - 1 - i)
          case measure => omega
          case rel => exact ⟨i + 1, 1, p3, c3, _, by go_num, rfl, by simp, by omega, by omega, by omega, (by show (O ++ _).length = i + 1; have := hO.out; simp; omega), ho3, hb4, HS⟩
        · have HS := Lib.hid (HR.out.step (dg xs i - cr) 0 (by unfold B16; omega) (by omega) (by unfold B16; omega))
          clear ez hyd
          go_wp2_with (first
            | (refine wpl_build1 rfl _ _ rfl tyN _ ?_ rfl ?_; omega; intro p2 w2 ho2 hb2 hz2 hp2)
            | (at_builtin; refine wpl_append rfl _ _ _ rfl tyN _ _ _ _ _ (hoq.past hb2) rfl _ _ _ _ ho2.rd rfl rfl rfl ?_ ?_ ?_; (have := hO.out; simp; omega); (have := hb2.size; have := hb.size; omega); intro p3 c3 w3 ho3 hg3 hb3 hn3))
          have hb4 := hb.trans ((hb2.mono hb.size).trans hb3)
          have e4 : ((dg xs i : Int) - cr).toNat = dg xs i - cr := by omega
          rw [e4] at ho3
          go_roundg (xs.length - 1 - i)
          case measure => omega
          case rel => exact ⟨i + 1, 0, p3, c3, _, by go_num, rfl, by simp, by omega, by omega, by omega, (by show (O ++ _).length = i + 1; have := hO.out; simp; omega), ho3, hb4, HS⟩
    · obtain rfl : i = xs.length := by omega
      have HD := Lib.hid (HR.out.done HA.out HB.out hge hab)
      go_wp2_with (go_at_call 98; refine (refTrim_any _ _ _ O _ hoq.rd rfl hoq.le_cap HR.out.1 (by rw [hO.out]; omega)).mono ?_; rintro e w3 ⟨rfl, rfl⟩)
      go_ret
      have ht := take_dig_len B16_two O HR.out.1
      have ho2 := hoq.take (dig B16 (val B16 O)).length
      rw [ht, HD.out] at ho2
      rw [HD.out]
      exact ⟨t, _, rfl, ho2.rd, Nat.le_refl _, own_blk ho2, hb⟩

end Go.Proofs.YtcipdimogodndaaDoor

namespace Go.Proofs.YtcipdimogodndaaDoor
open Go.RowKit Go.Slip

theorem len_shl16 (a N : Nat) : (dig B16 (a * 2 ^ N)).length ≤ (dig B16 a).length + (N / 16 + 1) := by
  refine Nat.le_trans (dig_len_mul B16_two _ _) ?_
  have : (dig B16 (2 ^ N)).length = N / 16 + 1 := by rw [← pow2_dig (B := B16) (w := 16) (by decide) (by omega) N]; simp
  omega

def plusE0 (a : Nat) (e f : Int) : Int := if a = 0 then f else min e f

theorem plusE_eq (g h : Bool) (a b : Nat) (e f : Int) : plusE ⟨g, a, e⟩ ⟨h, b, f⟩ = if b = 0 then e else plusE0 a e f := rfl

theorem len_eq_zero (a : Nat) : (((dig B16 a).length : Int) == 0) = decide (a = 0) := by
  have := dig_len_zero B16_two a
  by_cases h : a = 0
  · subst h; rw [dig_zero]; rfl
  · rw [decide_eq_false h]; exact beq_eq_false_iff_ne.2 (by omega)

set_option maxHeartbeats 4000000 in
set_option maxRecDepth 100000 in
theorem refDPlus_any (g h : Bool) (p q : Option Addr) (n c m d : Nat) (e f : Int) (a b : Nat) (w : World) (hp : Rd w .i64 p (dig B16 a)) (hq : Rd w .i64 q (dig B16 b)) (hn : n = (dig B16 a).length) (hm : m = (dig B16 b).length)
    (hl : (dig B16 a).length ≤ 1000000) (hl2 : (dig B16 b).length ≤ 1000000) (he : -1000000 ≤ e ∧ e ≤ 1000000) (hf : -1000000 ≤ f ∧ f ≤ 1000000) :
    Calls Tryd.prog 50 #[.agg #[.bool g, .slice p n c, .int .i64 e], .agg #[.bool h, .slice q m d, .int .i64 f]] w (GivesF w (fun _ => False) (rPlus ⟨g, a, e⟩ ⟨h, b, f⟩)) := by
  subst hn hm
  obtain ⟨W1, hW1, hs1, A1, B1, R1, hz1⟩ := box3s w (.bool g) (.slice p (dig B16 a).length c) (.int .i64 e) (.bool h) (.slice q (dig B16 b).length d) (.int .i64 f) (.bool false) (.slice none 0 0) (.int .i64 0) 34 34 34
  have hp1 := hp.past hs1
  have hq1 := hq.past hs1
  have a1 := A1.c1
  have a2 := A1.c2
  have b1 := B1.c1
  have b2 := B1.c2
  have HW1 := Lib.hid hW1
  clear hW1
  have za := len_eq_zero a
  have zb := len_eq_zero b
  go_enter Tryd.func50, Tryd.ntmps50
  go_upto_if 16 with (fail)
  rw [← HW1.out]
  clear HW1
  go_cut [5] (fun s5 wx => s5 = .int .i64 (plusE0 a e f) ∧ wx = W1)
  case first =>
    go_wp2_with fail
    all_goals go_meet
    all_goals (refine ⟨?_, rfl⟩; unfold plusE0; simp [*])
  case rest =>
    obtain ⟨rfl, rfl⟩ := hcut
    go_upto_if 22 with (fail)
    go_cut [5] (fun s5 wx => s5 = .int .i64 (plusE ⟨g, a, e⟩ ⟨h, b, f⟩) ∧ wx = wc)
    case first =>
      go_wp2_with fail
      all_goals go_meet
      all_goals (refine ⟨?_, rfl⟩; rw [plusE_eq]; simp [*])
    case rest =>
      obtain ⟨rfl, rfl⟩ := hcut
      clear za zb
      go_wp2_with fail
      clear a1 a2 b1 b2
      obtain ⟨w1, hw1⟩ : ∃ w1, w1 = wc := ⟨_, rfl⟩
      subst hw1
      have HJ := Lib.hid (show rPlus ⟨g, a, e⟩ ⟨h, b, f⟩ = bare (joinD g h (a * 2 ^ (e - plusE ⟨g, a, e⟩ ⟨h, b, f⟩).toNat) (b * 2 ^ (f - plusE ⟨g, a, e⟩ ⟨h, b, f⟩).toNat) (plusE ⟨g, a, e⟩ ⟨h, b, f⟩)) from rfl)
      have hk1 : -1000000 ≤ plusE ⟨g, a, e⟩ ⟨h, b, f⟩ ∧ plusE ⟨g, a, e⟩ ⟨h, b, f⟩ ≤ 1000000 := by unfold plusE; simp only; split; omega; split; omega; omega
      generalize plusE ⟨g, a, e⟩ ⟨h, b, f⟩ = k at *
      obtain ⟨N1, hN1⟩ : ∃ N1, N1 = (e - k).toNat := ⟨_, rfl⟩
      obtain ⟨N2, hN2⟩ : ∃ N2, N2 = (f - k).toNat := ⟨_, rfl⟩
      rw [← hN1, ← hN2] at HJ
      have n1 : N1 ≤ 2000000 := by omega
      have n2 : N2 ≤ 2000000 := by omega
      have e1 : IntKind.i64.wrap (e - k) = e - k := IntWalk.i64_in _ (by omega)
      have e2 : IntKind.i64.wrap (f - k) = f - k := IntWalk.i64_in _ (by omega)
      have m1 : max 0 (e - k) = (N1 : Int) := by omega
      have m2 : max 0 (f - k) = (N2 : Int) := by omega
      clear hN1 hN2
      go_cut [6, 7] (fun s6 s7 wx => ∃ (px : Option Addr) (cx : Nat) (py : Option Addr) (cy : Nat), s6 = .slice px (dig B16 (a * 2 ^ N1)).length cx ∧ s7 = .slice py (dig B16 (b * 2 ^ N2)).length cy ∧
        Rd wx .i64 px (dig B16 (a * 2 ^ N1)) ∧ Rd wx .i64 py (dig B16 (b * 2 ^ N2)) ∧ Below w1.heap.size w1 wx)
      case first =>
        go_region_held3 (fun w' => (w'.cell? ⟨w.heap.size, 1, none⟩ = some (.slice p (dig B16 a).length c) ∧ w'.cell? ⟨w.heap.size, 2, none⟩ = some (.int .i64 e)) ∧
            (w'.cell? ⟨w.heap.size + 1, 1, none⟩ = some (.slice q (dig B16 b).length d) ∧ w'.cell? ⟨w.heap.size + 1, 2, none⟩ = some (.int .i64 f)))
          (first | exact ⟨⟨A1.c1, A1.c2⟩, B1.c1, B1.c2⟩
                 | (have D1 := A1.drew; have D2 := B1.drew; exact ⟨⟨D1.c1, D1.c2⟩, D2.c1, D2.c2⟩)
                 | (have D1 := (A1.drew.past hbx).past hby; have D2 := (B1.drew.past hbx).past hby; exact ⟨⟨D1.c1, D1.c2⟩, D2.c1, D2.c2⟩)
                 | (have D1 := (A1.drew.past hby).past hbx; have D2 := (B1.drew.past hby).past hbx; exact ⟨⟨D1.c1, D1.c2⟩, D2.c1, D2.c2⟩)
                 | (have D1 := A1.drew.past hbx; have D2 := B1.drew.past hbx; exact ⟨⟨D1.c1, D1.c2⟩, D2.c1, D2.c2⟩)
                 | (have D1 := A1.drew.past hby; have D2 := B1.drew.past hby; exact ⟨⟨D1.c1, D1.c2⟩, D2.c1, D2.c2⟩))
          (first
            | (go_at_call_of 99 (Value.slice p (dig B16 a).length c); refine (refUp_any p _ c a N1 _ ?_ rfl (by clear e1 e2 m1 m2; omega) (by clear e1 e2 m1 m2; omega)).mono ?_; (first | exact hp1.drew | exact hp1.drew.past hby); rintro ex wx ⟨px, cx, rfl, hrx, hcx, hfx, hbx⟩)
            | (go_at_call_of 99 (Value.slice q (dig B16 b).length d); refine (refUp_any q _ d b N2 _ ?_ rfl (by clear e1 e2 m1 m2; omega) (by clear e1 e2 m1 m2; omega)).mono ?_; (first | exact hq1.drew | exact hq1.drew.past hbx); rintro ey wy ⟨py, cy, rfl, hry, hcy, hfy, hby⟩))
        all_goals (clear e1 e2 m1 m2)
        all_goals (go_wp2_with fail)
        all_goals go_meet
        all_goals (first
          | exact ⟨px, cx, py, cy, rfl, rfl, hrx.past hby, hry, ((Below.refl _ _).drew.trans hbx).trans (hby.mono hbx.size)⟩
          | exact ⟨px, cx, py, cy, rfl, rfl, hrx, hry.past hbx, ((Below.refl _ _).drew.trans hby).trans (hbx.mono hby.size)⟩)
      case rest =>
        obtain ⟨px, cx, py, cy, rfl, rfl, hrx, hry, hb4⟩ := hcut
        clear e1 e2 m1 m2
        have lX : (dig B16 (a * 2 ^ N1)).length ≤ 2000000 := by have := len_shl16 a N1; omega
        have lY : (dig B16 (b * 2 ^ N2)).length ≤ 2000000 := by have := len_shl16 b N2; omega
        generalize a * 2 ^ N1 = x at *
        generalize b * 2 ^ N2 = y at *
        have hs4 := hs1.trans (hb4.mono hs1.size)
        have A4 := A1.past hb4
        have B4 := B1.past hb4
        have R4 := R1.past hb4
        have a0 := A4.c0
        have b0 := B4.c0
        have hzc := hb4.size
        clear a0 b0
        have hxy0 : 0 ≤ k + 1000000 := by omega
        by_cases hgh : g = h
        · subst hgh
          have HK := Lib.hid (HJ.out.trans (congrArg bare (show joinD g g x y k = ⟨g, x + y, k⟩ by unfold joinD; rw [if_pos rfl])))
          have hgg : (g == g) = true := by simp
          have lm : (dig B16 (x + y)).length ≤ 5000000 := by have := dig_len_add B16_two x y; omega
          have a0 := A4.c0
          have b0 := B4.c0
          go_wp2_with fail
          clear a0 b0
          obtain ⟨m, hm⟩ : ∃ m, x + y = m := ⟨_, rfl⟩
          have HM := Lib.hid hm
          rw [hm] at HK lm
          clear hm
          go_region_held3 (fun w' => w'.cell? ⟨w.heap.size, 0, none⟩ = some (.bool g))
            (first | exact A4.c0 | exact A4.drew.c0 | exact (A4.drew.past hb6).c0 | exact ((A4.drew.past hb6).past hb7).c0 | exact (((((A4.drew.past hb6).past hb7).set (by omega)).set (by omega)).set (by omega)).c0)
            (first | (go_at_call 65; refine (refPlus_any px py _ _ cx cy x y _ hrx.drew hry.drew rfl rfl (by omega)).mono ?_; rw [HM.out]; rintro e6 w6 ⟨p6, c6, rfl, hr6, hc6, hf6, hb6⟩)
                   | (go_at_call 48; refine (refBared_any g p6 _ c6 k m _ hr6 rfl (by omega) (by omega)).mono ?_; generalize bare ⟨g, m, k⟩ = rr at *; rintro e7 w7 ⟨p7, c7, rfl, hr7, hc7, hf7, hb7⟩; obtain ⟨d0, d1, d2, f0, f1, f2, dlt⟩ := (R4.drew.past hb6).past hb7))
          all_goals (go_wp2_with fail)
          refine bodyPost_ret (v := .agg #[.bool rr.neg, .slice p7 (dig B16 rr.m).length c7, .int .i64 rr.e]) (by simp [results, Tryd.results50, go_sem, d0, d1, d2]) rfl ?_
          rw [HK.out]
          have hzd : wc.drew.heap.size = wc.heap.size := rfl
          have hs6 := hs4.drew.trans (hb6.mono hs4.size)
          have hz6 := hb6.size
          have hzR := R4.lt
          have hzS := hs4.size
          have hf : 0 < (dig B16 rr.m).length → w6.heap.size ≤ blk p7 := fun h => by rcases hf7 h with h | h; exact h.elim; exact h
          exact givesF_close (hs6.trans (hb7.mono hs6.size)) hr7 hc7 (fun h => .inr (by have := hf h; omega)) (by omega) (fun h => by have := hf h; omega)
        · by_cases hxy : y ≤ x
          · have HK := Lib.hid (HJ.out.trans (congrArg bare (show joinD g h x y k = ⟨g, x - y, k⟩ by unfold joinD; rw [if_neg hgh, if_pos hxy])))
            have hgg : (g == h) = false := by simpa using hgh
            have hC : 0 ≤ cmpN x y := by unfold cmpN; rw [if_neg (by omega)]; split <;> omega
            have HXY := Lib.hid hxy
            have lm : (dig B16 (x - y)).length ≤ 5000000 := by have := dig_len_mono B16_two (Nat.sub_le x y); omega
            clear hxy hgh
            have a0 := A4.c0
            have b0 := B4.c0
            go_wp2_with fail
            ((with_reducible refine (refCmp_any px py _ _ cx cy x y _ hrx hry rfl rfl (by omega) (by omega)).mono ?_))
            rintro e9 w9 ⟨rfl, hb9⟩
            clear a0 b0
            have hs9 := hs4.trans (hb9.mono hs4.size)
            have hz9 := hb9.size
            replace A4 := A4.past hb9
            replace B4 := B4.past hb9
            replace R4 := R4.past hb9
            replace hrx := hrx.past hb9
            replace hry := hry.past hb9
            go_wp2_with fail
            obtain ⟨m, hm⟩ : ∃ m, x - y = m := ⟨_, rfl⟩
            have HM := Lib.hid hm
            rw [hm] at HK lm
            clear hm
            go_region_held3 (fun w' => w'.cell? ⟨w.heap.size, 0, none⟩ = some (.bool g))
              (first | exact A4.c0 | exact A4.drew.c0 | exact (A4.drew.past hb6).c0 | exact ((A4.drew.past hb6).past hb7).c0 | exact (((((A4.drew.past hb6).past hb7).set (by omega)).set (by omega)).set (by omega)).c0)
              (first | (go_at_call 78; refine (refLess_any px py _ _ cx cy x y _ hrx.drew hry.drew rfl rfl (by omega) HXY.out).mono ?_; rw [HM.out]; rintro e6 w6 ⟨p6, c6, rfl, hr6, hc6, hf6, hb6⟩)
                     | (go_at_call 48; refine (refBared_any g p6 _ c6 k m _ hr6 rfl (by omega) (by omega)).mono ?_; generalize bare ⟨g, m, k⟩ = rr at *; rintro e7 w7 ⟨p7, c7, rfl, hr7, hc7, hf7, hb7⟩; obtain ⟨d0, d1, d2, f0, f1, f2, dlt⟩ := (R4.drew.past hb6).past hb7))
            all_goals (go_wp2_with fail)
            refine bodyPost_ret (v := .agg #[.bool rr.neg, .slice p7 (dig B16 rr.m).length c7, .int .i64 rr.e]) (by simp [results, Tryd.results50, go_sem, d0, d1, d2]) rfl ?_
            rw [HK.out]
            have hzd : w9.drew.heap.size = w9.heap.size := rfl
            have hs6 := hs9.drew.trans (hb6.mono hs9.size)
            have hz6 := hb6.size
            have hzR := R4.lt
            have hzS := hs9.size
            have hf : 0 < (dig B16 rr.m).length → w6.heap.size ≤ blk p7 := fun h => by rcases hf7 h with h | h; exact h.elim; exact h
            exact givesF_close (hs6.trans (hb7.mono hs6.size)) hr7 hc7 (fun h => .inr (by have := hf h; omega)) (by omega) (fun h => by have := hf h; omega)
          · have HK := Lib.hid (HJ.out.trans (congrArg bare (show joinD g h x y k = ⟨h, y - x, k⟩ by unfold joinD; rw [if_neg hgh, if_neg hxy])))
            have hgg : (g == h) = false := by simpa using hgh
            have hC : cmpN x y ≤ -1 := by rw [cmpN_lt (by omega)]; omega
            have HXY := Lib.hid (show x ≤ y by omega)
            have lm : (dig B16 (y - x)).length ≤ 5000000 := by have := dig_len_mono B16_two (Nat.sub_le y x); omega
            clear hxy hgh
            have a0 := A4.c0
            have b0 := B4.c0
            go_wp2_with fail
            ((with_reducible refine (refCmp_any px py _ _ cx cy x y _ hrx hry rfl rfl (by omega) (by omega)).mono ?_))
            rintro e9 w9 ⟨rfl, hb9⟩
            clear a0 b0
            have hs9 := hs4.trans (hb9.mono hs4.size)
            have hz9 := hb9.size
            replace A4 := A4.past hb9
            replace B4 := B4.past hb9
            replace R4 := R4.past hb9
            replace hrx := hrx.past hb9
            replace hry := hry.past hb9
            go_wp2_with fail
            obtain ⟨m, hm⟩ : ∃ m, y - x = m := ⟨_, rfl⟩
            have HM := Lib.hid hm
            rw [hm] at HK lm
            clear hm
            go_region_held3 (fun w' => w'.cell? ⟨w.heap.size + 1, 0, none⟩ = some (.bool h))
              (first | exact B4.c0 | exact B4.drew.c0 | exact (B4.drew.past hb6).c0 | exact ((B4.drew.past hb6).past hb7).c0 | exact (((((B4.drew.past hb6).past hb7).set (by omega)).set (by omega)).set (by omega)).c0)
              (first | (go_at_call 78; refine (refLess_any py px _ _ cy cx y x _ hry.drew hrx.drew rfl rfl (by omega) HXY.out).mono ?_; rw [HM.out]; rintro e6 w6 ⟨p6, c6, rfl, hr6, hc6, hf6, hb6⟩)
                     | (go_at_call 48; refine (refBared_any h p6 _ c6 k m _ hr6 rfl (by omega) (by omega)).mono ?_; generalize bare ⟨h, m, k⟩ = rr at *; rintro e7 w7 ⟨p7, c7, rfl, hr7, hc7, hf7, hb7⟩; obtain ⟨d0, d1, d2, f0, f1, f2, dlt⟩ := (R4.drew.past hb6).past hb7))
            all_goals (go_wp2_with fail)
            refine bodyPost_ret (v := .agg #[.bool rr.neg, .slice p7 (dig B16 rr.m).length c7, .int .i64 rr.e]) (by simp [results, Tryd.results50, go_sem, d0, d1, d2]) rfl ?_
            rw [HK.out]
            have hzd : w9.drew.heap.size = w9.heap.size := rfl
            have hs6 := hs9.drew.trans (hb6.mono hs9.size)
            have hz6 := hb6.size
            have hzR := R4.lt
            have hzS := hs9.size
            have hf : 0 < (dig B16 rr.m).length → w6.heap.size ≤ blk p7 := fun h => by rcases hf7 h with h | h; exact h.elim; exact h
            exact givesF_close (hs6.trans (hb7.mono hs6.size)) hr7 hc7 (fun h => .inr (by have := hf h; omega)) (by omega) (fun h => by have := hf h; omega)

end Go.Proofs.YtcipdimogodndaaDoor

namespace Go.Proofs.YtcipdimogodndaaDoor
open Go.RowKit Go.Slip

set_option maxHeartbeats 1000000 in
theorem refMinus_any (P : Nat → Prop) (g : Bool) (p : Option Addr) (n c : Nat) (e : Int) (a : Nat) (w : World) (hp : Rd w .i64 p (dig B16 a)) (hn : n = (dig B16 a).length) (hc : n ≤ c) (hP : 0 < (dig B16 a).length → P (blk p)) :
    Calls Tryd.prog 38 #[.agg #[.bool g, .slice p n c, .int .i64 e]] w (GivesF w P (dMinus ⟨g, a, e⟩)) := by
  subst hn
  have hz := dig_len_zero B16_two a
  cases g
  · by_cases h0 : 0 < (dig B16 a).length
    · have t1 : decide ((0 : Int) < ((dig B16 a).length : Int)) = true := decide_eq_true (by omega)
      have hd : dMinus ⟨false, a, e⟩ = ⟨true, a, e⟩ := by unfold dMinus; simp; (try omega)
      rw [hd]
      clear hd hz
      go_enter Tryd.func38, Tryd.ntmps38
      go_wp2
      refine bodyPost_ret (v := .agg #[.bool true, .slice p (dig B16 a).length c, .int .i64 e]) (by simp [results, Tryd.results38, go_sem]) rfl ?_
      exact ⟨p, c, rfl, (hp.laid _).laid _, hc, fun h => .inl (hP h), two_laid _ _ _⟩
    · have t1 : decide ((0 : Int) < ((dig B16 a).length : Int)) = false := decide_eq_false (by omega)
      have hd : dMinus ⟨false, a, e⟩ = ⟨false, a, e⟩ := by unfold dMinus; simp; (try omega)
      rw [hd]
      clear hd hz
      go_enter Tryd.func38, Tryd.ntmps38
      go_wp2
      refine bodyPost_ret (v := .agg #[.bool false, .slice p (dig B16 a).length c, .int .i64 e]) (by simp [results, Tryd.results38, go_sem]) rfl ?_
      exact ⟨p, c, rfl, (hp.laid _).laid _, hc, fun h => .inl (hP h), two_laid _ _ _⟩
  · have t0 := True.intro
    have hd : dMinus ⟨true, a, e⟩ = ⟨false, a, e⟩ := by unfold dMinus; simp; (try omega)
    rw [hd]
    clear hd hz
    go_enter Tryd.func38, Tryd.ntmps38
    go_wp2
    refine bodyPost_ret (v := .agg #[.bool false, .slice p (dig B16 a).length c, .int .i64 e]) (by simp [results, Tryd.results38, go_sem]) rfl ?_
    exact ⟨p, c, rfl, (hp.laid _).laid _, hc, fun h => .inl (hP h), two_laid _ _ _⟩

set_option maxHeartbeats 1000000 in
theorem refFloorOf_any (g : Bool) (p : Option Addr) (n c : Nat) (e : Int) (a : Nat) (w : World) (hp : Rd w .i64 p (dig B16 a)) (hn : n = (dig B16 a).length) (hl : (dig B16 a).length ≤ 1000000) (he : -1000000 ≤ e ∧ e ≤ 1000000) :
    Calls Tryd.prog 68 #[.agg #[.bool g, .slice p n c, .int .i64 e]] w (GivesR w .i64 (dig B16 (dFloor ⟨g, a, e⟩))) := by
  subst hn
  have hs1 : Below w.heap.size w (w.alloc (.cells #[.bool g, .slice p (dig B16 a).length c, .int .i64 e] 34)) := (Below.refl _ _).alloc (Nat.le_refl _) _
  by_cases h0 : 0 ≤ e
  · obtain ⟨N, rfl⟩ : ∃ N : Nat, e = (N : Int) := ⟨e.toNat, by omega⟩
    have hd : dFloor ⟨g, a, (N : Int)⟩ = a * 2 ^ N := by unfold dFloor; simp
    rw [hd]
    clear hd
    go_enter Tryd.func68, Tryd.ntmps68
    go_wp2_with fail
    ((with_reducible refine (refUp_any p _ c a N _ (hp.past hs1) rfl (by omega) (by omega)).mono ?_))
    rintro e2 w2 ⟨p2, c2, rfl, hr2, hc2, hf2, hb2⟩
    go_wp2_with fail
    go_ret
    exact ⟨p2, c2, rfl, hr2, hc2, fun h => Nat.le_trans (by simp) (hf2 h), hs1.trans (hb2.mono hs1.size)⟩
  · obtain ⟨N, hN⟩ : ∃ N : Nat, -e = (N : Int) := ⟨(-e).toNat, by omega⟩
    have hd : dFloor ⟨g, a, e⟩ = a / 2 ^ N := by unfold dFloor; rw [if_neg h0, hN]; simp
    rw [hd]
    have e1 : IntKind.i64.wrap (-e) = (N : Int) := by rw [IntWalk.i64_in _ (by omega)]; exact hN
    have t1 : e < 0 := by omega
    clear hd h0
    go_enter Tryd.func68, Tryd.ntmps68
    go_wp2_with fail
    ((with_reducible refine (refDown_any p _ c a N _ (hp.past hs1) rfl (by omega) (by omega)).mono ?_))
    rintro e2 w2 ⟨p2, c2, rfl, hr2, hc2, hf2, hb2⟩
    go_wp2_with fail
    go_ret
    exact ⟨p2, c2, rfl, hr2, hc2, fun h => Nat.le_trans (by simp) (hf2 h), hs1.trans (hb2.mono hs1.size)⟩

end Go.Proofs.YtcipdimogodndaaDoor

namespace Go.Proofs.YtcipdimogodndaaDoor
open Go.RowKit Go.Slip

theorem rCmp_cases (a b : Dv) : rCmp a b = if (rPlus a (dMinus b)).m = 0 then 0 else if (rPlus a (dMinus b)).neg then -1 else 1 := rfl

set_option maxHeartbeats 4000000 in
set_option maxRecDepth 100000 in
theorem refDCmp_any (g h : Bool) (p q : Option Addr) (n c m d : Nat) (e f : Int) (a b : Nat) (w : World) (hp : Rd w .i64 p (dig B16 a)) (hq : Rd w .i64 q (dig B16 b)) (hn : n = (dig B16 a).length) (hm : m = (dig B16 b).length) (hcm : m ≤ d)
    (hl : (dig B16 a).length ≤ 1000000) (hl2 : (dig B16 b).length ≤ 1000000) (he : -1000000 ≤ e ∧ e ≤ 1000000) (hf : -1000000 ≤ f ∧ f ≤ 1000000) :
    Calls Tryd.prog 18 #[.agg #[.bool g, .slice p n c, .int .i64 e], .agg #[.bool h, .slice q m d, .int .i64 f]] w fun en w' => en = .returned (.int .i64 (rCmp ⟨g, a, e⟩ ⟨h, b, f⟩)) ∧ Below w.heap.size w w' := by
  subst hn hm
  have hs1 := two_laid w (.cells #[.bool g, .slice p (dig B16 a).length c, .int .i64 e] 34) (.cells #[.bool h, .slice q (dig B16 b).length d, .int .i64 f] 34)
  have A1 := (box3_new w (.bool g) (.slice p (dig B16 a).length c) (.int .i64 e) 34).laid (.cells #[.bool h, .slice q (dig B16 b).length d, .int .i64 f] 34)
  have B1 := box3_new (w.alloc (.cells #[.bool g, .slice p (dig B16 a).length c, .int .i64 e] 34)) (.bool h) (.slice q (dig B16 b).length d) (.int .i64 f) 34
  simp only [World.size_alloc] at B1
  have hp1 := hp.past hs1
  have hq1 := hq.past hs1
  have HC := Lib.hid (rCmp_cases ⟨g, a, e⟩ ⟨h, b, f⟩)
  obtain ⟨mi, hmi⟩ : ∃ mi, dMinus ⟨h, b, f⟩ = mi := ⟨_, rfl⟩
  have hmm : mi.m = b ∧ mi.e = f := by rw [← hmi]; exact ⟨rfl, rfl⟩
  have HMI := Lib.hid hmi
  rw [hmi] at HC
  clear hmi
  obtain ⟨h', b', f'⟩ := mi
  simp only at hmm
  obtain ⟨rfl, rfl⟩ := hmm
  obtain ⟨⟨gr, mr, xr⟩, hr⟩ : ∃ r, rPlus ⟨g, a, e⟩ ⟨h', b', f'⟩ = r := ⟨_, rfl⟩
  rw [hr] at HC
  have HR := Lib.hid hr
  clear hr
  have hz := dig_len_zero B16_two mr
  obtain ⟨W1, hW1⟩ : ∃ W1, W1 = (w.alloc (.cells #[.bool g, .slice p (dig B16 a).length c, .int .i64 e] 34)).alloc (.cells #[.bool h, .slice q (dig B16 b').length d, .int .i64 f'] 34) := ⟨_, rfl⟩
  have hz1 : W1.heap.size = w.heap.size + 1 + 1 := by rw [hW1]; simp
  rw [← hW1] at hs1 A1 B1 hp1 hq1
  have HW1 := Lib.hid hW1
  clear hW1
  have HZ := Lib.hid hz
  clear hz
  go_enter Tryd.func18, Tryd.ntmps18
  go_wp2_with fail
  rw [← HW1.out]
  clear HW1
  go_cut [5] (fun s5 wx => ∃ (k : Nat) (pr : Option Addr) (cr : Nat), s5 = .pointer (some ⟨k, 0, none⟩) ∧ wx.cell? ⟨k, 0, none⟩ = some (.bool gr) ∧ wx.cell? ⟨k, 1, none⟩ = some (.slice pr (dig B16 mr).length cr) ∧ Below w.heap.size w wx)
  case first =>
    go_region_held3 (fun w' => (w'.cell? ⟨w.heap.size, 0, none⟩ = some (.bool g) ∧ w'.cell? ⟨w.heap.size, 1, none⟩ = some (.slice p (dig B16 a).length c) ∧ w'.cell? ⟨w.heap.size, 2, none⟩ = some (.int .i64 e)) ∧
        (w'.cell? ⟨w.heap.size + 1, 0, none⟩ = some (.bool h) ∧ w'.cell? ⟨w.heap.size + 1, 1, none⟩ = some (.slice q (dig B16 b').length d) ∧ w'.cell? ⟨w.heap.size + 1, 2, none⟩ = some (.int .i64 f')))
      (first | exact ⟨⟨(((A6.set hkA).set hkA).set hkA).c0, (((A6.set hkA).set hkA).set hkA).c1, (((A6.set hkA).set hkA).set hkA).c2⟩, (((B6.set hkB).set hkB).set hkB).c0, (((B6.set hkB).set hkB).set hkB).c1, (((B6.set hkB).set hkB).set hkB).c2⟩
             | exact ⟨⟨(A6.laid _).c0, (A6.laid _).c1, (A6.laid _).c2⟩, (B6.laid _).c0, (B6.laid _).c1, (B6.laid _).c2⟩
             | exact ⟨⟨(A6).c0, (A6).c1, (A6).c2⟩, (B6).c0, (B6).c1, (B6).c2⟩
             | exact ⟨⟨((A1.drew.laid _).past hb2).c0, ((A1.drew.laid _).past hb2).c1, ((A1.drew.laid _).past hb2).c2⟩, ((B1.drew.laid _).past hb2).c0, ((B1.drew.laid _).past hb2).c1, ((B1.drew.laid _).past hb2).c2⟩
             | exact ⟨⟨((A1.drew.past hb2).laid _).c0, ((A1.drew.past hb2).laid _).c1, ((A1.drew.past hb2).laid _).c2⟩, ((B1.drew.past hb2).laid _).c0, ((B1.drew.past hb2).laid _).c1, ((B1.drew.past hb2).laid _).c2⟩
             | exact ⟨⟨(A1.drew.past hb2).c0, (A1.drew.past hb2).c1, (A1.drew.past hb2).c2⟩, (B1.drew.past hb2).c0, (B1.drew.past hb2).c1, (B1.drew.past hb2).c2⟩
             | exact ⟨⟨(A1.drew.laid _).c0, (A1.drew.laid _).c1, (A1.drew.laid _).c2⟩, (B1.drew.laid _).c0, (B1.drew.laid _).c1, (B1.drew.laid _).c2⟩
             | exact ⟨⟨(A1.drew).c0, (A1.drew).c1, (A1.drew).c2⟩, (B1.drew).c0, (B1.drew).c1, (B1.drew).c2⟩
             | exact ⟨⟨(A1).c0, (A1).c1, (A1).c2⟩, (B1).c0, (B1).c1, (B1).c2⟩)
      (first
        | (go_at_call 38; refine (refMinus_any (fun _ => True) h q _ d f' b' _ ?_ rfl hcm (fun _ => trivial)).mono ?_; (first | exact hq1.drew | exact hq1.drew.laid _); rw [HMI.out]; rintro e2 w2 ⟨p2, c2, rfl, hr2, hc2, hf2, hb2⟩)
        | (go_at_call 50; refine (refDPlus_any g h' p p2 _ c _ c2 e f' a b' _ ?_ ?_ rfl rfl hl hl2 he hf).mono ?_; (first | exact hp1.drew.past hb2 | exact (hp1.drew.laid _).past hb2 | exact (hp1.drew.past hb2).laid _); (first | exact hr2 | exact hr2.laid _); rw [HR.out]; rintro e3 w3 ⟨p3, c3, rfl, hr3, hc3, hf3, hb3⟩; (first
            | (have K3 := ((box3_new W1.drew (.bool false) (.slice none 0 0) (.int .i64 0) 34).past hb2).past hb3; have hK3 : W1.drew.heap.size = W1.heap.size := rfl; rw [hK3, hz1] at K3; clear hK3; have KP := K3.put (.bool gr) (.slice p3 (dig B16 mr).length c3) (.int .i64 xr); obtain ⟨k0, k1, k2, k3, k4, k5, k6⟩ := K3; have hsA := (hs1.alloc hs1.size (.cells #[.bool false, .slice none 0 0, .int .i64 0] 34)).drew; have hs2 := hsA.trans (hb2.mono hsA.size); have hs3 := hs2.trans (hb3.mono hs2.size); have hkK : w.heap.size ≤ w.heap.size + 1 + 1 := Nat.le_succ_of_le (Nat.le_succ _); have A6 := ((A1.drew.laid _).past hb2).past hb3; have B6 := ((B1.drew.laid _).past hb2).past hb3; have hkA : w.heap.size < w.heap.size + 1 + 1 := Nat.lt_succ_of_lt (Nat.lt_succ_self _); have hkB : w.heap.size + 1 < w.heap.size + 1 + 1 := Nat.lt_succ_self _)
            | (have K3 := (box3_new w2 (.bool false) (.slice none 0 0) (.int .i64 0) 34).past hb3; have KP := K3.put (.bool gr) (.slice p3 (dig B16 mr).length c3) (.int .i64 xr); obtain ⟨k0, k1, k2, k3, k4, k5, k6⟩ := K3; have hs2 := hs1.drew.trans (hb2.mono hs1.size); have hkK : w.heap.size ≤ w2.heap.size := hs2.size; have hsA := hs2.alloc hs2.size (.cells #[.bool false, .slice none 0 0, .int .i64 0] 34); have hs3 := hsA.trans (hb3.mono hsA.size); have A6 := ((A1.drew.past hb2).laid _).past hb3; have B6 := ((B1.drew.past hb2).laid _).past hb3; have hkA : w.heap.size < w2.heap.size := (A1.drew.past hb2).lt; have hkB : w.heap.size + 1 < w2.heap.size := (B1.drew.past hb2).lt)
            | (have hs2 := hs1.drew.trans (hb2.mono hs1.size); have hs3 := hs2.trans (hb3.mono hs2.size); have A6 := (A1.drew.past hb2).past hb3; have B6 := (B1.drew.past hb2).past hb3))))
    all_goals (go_wp2_with fail)
    all_goals go_meet
    all_goals (first
      | exact ⟨_, p3, c3, rfl, KP.c0, KP.c1, ((hs3.setCell hkK _).setCell hkK _).setCell hkK _⟩
      | exact ⟨w3.heap.size, p3, c3, rfl, (box3_new w3 _ _ _ _).c0, (box3_new w3 _ _ _ _).c1, hs3.alloc hs3.size _⟩)
  case rest =>
    obtain ⟨k, pr, cr, rfl, k0, k1, hs9⟩ := hcut
    by_cases h0 : mr = 0
    · have hl0 : (dig B16 mr).length = 0 := HZ.out.2 h0
      have HK := Lib.hid (HC.out.trans (by rw [if_pos h0]))
      rw [hl0] at k1
      clear hl0 h0
      go_wp2
      go_ret
      exact ⟨ret_int HK.out.symm, hs9⟩
    · have t1 : (((dig B16 mr).length : Int) == 0) = false := beq_eq_false_iff_ne.2 (fun h => h0 (HZ.out.1 (by omega)))
      cases gr
      · have HK := Lib.hid (HC.out.trans (by rw [if_neg h0]))
        clear h0
        go_wp2
        go_ret
        exact ⟨ret_int HK.out.symm, hs9⟩
      · have HK := Lib.hid (HC.out.trans (by rw [if_neg h0]))
        clear h0
        go_wp2
        go_ret
        exact ⟨ret_int HK.out.symm, hs9⟩

end Go.Proofs.YtcipdimogodndaaDoor

namespace Go.Slip
theorem sum_lo {a : Dv} (ha : Bare a) (h0 : a.m ≠ 0) {E : Int} (hl : (dig B32 a.m).length ≤ 1200) (he : -40000 ≤ a.e ∧ a.e ≤ 60000) (hE : E ≤ a.e ∧ a.e ≤ E + 1000) : -41000 ≤ (rPlus a (oneD E)).e := by
  have hb1 : Bare (oneD E) := .inl (by unfold oneD; rfl)
  have hp := pPlus_eq ha hb1
  have h1 : (dig B32 1).length ≤ 1 := by rw [dig_len_le B32_two]; unfold B32; omega
  rw [← hp]
  unfold pPlus
  rw [if_neg h0, if_neg (by unfold oneD; simp)]
  simp only [oneD]
  have hj := joinD_m_le a.neg false (a.m * 2 ^ (a.e - min a.e E).toNat) (1 * 2 ^ (E - min a.e E).toNat) (min a.e E)
  have s1 := len_shl a.m (a.e - min a.e E).toNat
  have s2 := len_shl 1 (E - min a.e E).toNat
  have s3 := dig_len_add B32_two (a.m * 2 ^ (a.e - min a.e E).toNat) (1 * 2 ^ (E - min a.e E).toNat)
  have s4 := dig_len_mono B32_two hj.1
  generalize joinD a.neg false (a.m * 2 ^ (a.e - min a.e E).toNat) (1 * 2 ^ (E - min a.e E).toNat) (min a.e E) = d at *
  have hd : (dig B32 d.m).length ≤ 8000 := by omega
  exact (bare_e d hd (lo := -41000) (hi := 60000) (by omega) (by omega) (by omega) (by omega)).1
end Go.Slip
namespace Go.Proofs.YtcipdimogodndaaDoor
open Go.RowKit Go.Slip

def GivesFB2 (w : World) (d : Dv) (b : Bool) (en : Ending) (w' : World) : Prop :=
  ∃ p c, en = .returned (.tuple #[.agg #[.bool d.neg, .slice p (dig B16 d.m).length c, .int .i64 d.e], .bool b]) ∧ Rf w' w.heap.size p c (dig B16 d.m) ∧ Below w.heap.size w w'

theorem dig16_one : dig B16 1 = [1] := by rw [dig_pos B16_two (by omega), show 1 / B16 = 0 by unfold B16; omega, dig_zero, show 1 % B16 = 1 by unfold B16; omega]
theorem max_is (x y : Int) : (if y > x then y else x) = max x y := by split <;> omega

theorem rf_one {w : World} {b : Nat} {t : TypeId} (h : Bt w b t #[.int .i64 1]) : Rf w b (some ⟨b, 0, none⟩) 1 (dig B16 1) := by rw [dig16_one]; exact rf_lit (k := 1) h
theorem len16_one : 1 = (dig B16 1).length := by rw [dig16_one]; rfl
theorem stay {P : Program} {f : FuncId} {args : Array Value} {w : World} {E : Ending} (h : Calls P f args w fun e w' => e = E ∧ w = w') : Calls P f args w fun e w' => e = E ∧ Below w.heap.size w w' :=
  h.mono fun e w' ⟨h1, h2⟩ => ⟨h1, by subst h2; exact Below.refl _ _⟩

set_option maxHeartbeats 4000000 in
set_option maxRecDepth 100000 in
theorem refStepOf_any (s : Bool) (p : Option Addr) (c : Nat) (e : Int) (m : Nat) (g : Gd) (w : World) (hp0 : Rd w .i64 p (dig B16 m)) (hB : Bare ⟨s, m, e⟩) (hl : (dig B32 m).length ≤ 1200) (he : -60000 ≤ e ∧ e ≤ 60000) (hg : errG g = 0)
    (hin : inGridD ⟨s, m, e⟩ g = true) (hc : (dig B16 m).length ≤ c) :
    Calls Tryd.prog 39 #[.agg #[.bool s, .slice p (dig B16 m).length c, .int .i64 e], .agg #[.int .i64 g.rad, .int .i64 g.digs, .int .i64 g.lo, .int .i64 g.hi, .bool g.grad]] w (GivesFB2 w (rStep ⟨s, m, e⟩ g).1 (rStep ⟨s, m, e⟩ g).2) := by
  have hp : Rf w 0 p c (dig B16 m) := ⟨hp0, hc, fun _ => Nat.zero_le _⟩
  have G := goodG_of hg
  have HWD := fun W => Lib.hid (refWidth_any g W)
  have wp := wid_pos g
  have wt := Lib.hid (wid_two g)
  have gd1 := G.d1
  have gd2 := G.d2
  have gl1 := G.l1
  have gh2 := G.h2
  have gle := G.le
  have l16 := B16_len32 m
  have hlo := mul_bd (k := g.lo) wp.2 (B := 17000) ⟨by omega, by omega⟩
  have hlo2 := mul_bd (k := g.lo + g.digs - 1) wp.2 (B := 17200) ⟨by omega, by omega⟩
  have hz := dig_len_zero B16_two m
  by_cases h0 : m = 0
  · have hk : rStep ⟨s, m, e⟩ g = (leastD g, true) := by unfold rStep; rw [if_pos h0]
    rw [hk]
    unfold leastD
    have t35 : (((dig B16 m).length : Int) == 0) = true := by rw [hz.2 h0]; rfl
    generalize wid g = wd at *
    clear hk hin hB h0
    have I := Inv.start w [rfF 0 p c (dig B16 m)] ⟨hp, True.intro⟩
    refine zstart [.v (.agg #[.bool s, .slice p (dig B16 m).length c, .int .i64 e]), .v (.agg #[.int .i64 g.rad, .int .i64 g.digs, .int .i64 g.lo, .int .i64 g.hi, .bool g.grad])] I Tryd.func39 ?_
    refine zg I (fun Al W I => (HWD _).out) fun Al V Iv hz hB K k => ?_
    rintro _ W ⟨rfl, hb⟩
    refine ⟨_, rfl, k _ _ hb fun I => ?_⟩
    clear k K
    refine zi I 18 .i64 (((wd : Nat) : Int) * g.lo) (((wd : Nat) : Int) * g.lo) (IntWalk.i64_in _ (by omega)) fun Al W I => ?_
    rcases Bool.eq_false_or_eq_true (!g.grad) with f22 | f22
    · skip
      refine zb I 22 (!g.grad) (true) (f22) fun Al W I => ?_
      refine zi I 28 .i64 (g.lo + g.digs) (g.lo + g.digs) (IntWalk.i64_in _ (by omega)) fun Al W I => ?_
      refine zi I 29 .i64 ((g.lo + g.digs) - 1) ((g.lo + g.digs) - 1) (IntWalk.i64_in _ (by omega)) fun Al W I => ?_
      refine zi I 30 .i64 (((wd : Nat) : Int) * ((g.lo + g.digs) - 1)) (((wd : Int) * (g.lo + g.digs - 1))) (IntWalk.i64_in _ (by omega)) fun Al W I => ?_
      refine zb I 35 ((((dig B16 m).length : Nat) : Int) == 0) (true) (t35) fun Al W I => ?_
      refine zret I (v := fun Al => .tuple #[.agg #[.bool false, .slice (some ⟨(lk 0 Al 3), 0, none⟩) 1 1, .int .i64 ((wd : Int) * (g.lo + g.digs - 1))], .bool true]) fun Al W I => ?_
      have y := rf_one (I.box 3 3 #[.int .i64 1])
      first | (rw [if_pos (show g.grad = true by simpa using f22), Int.add_zero]; exact ⟨_, _, by rw [← len16_one], y.mono (I.geB 3), I.below⟩) | (rw [if_neg (show ¬ g.grad = true by simpa using f22), show g.lo + (g.digs - 1) = g.lo + g.digs - 1 by omega]; exact ⟨_, _, by rw [← len16_one], y.mono (I.geB 3), I.below⟩)
    refine zb I 22 (!g.grad) (false) (f22) fun Al W I => ?_
    refine zb I 35 ((((dig B16 m).length : Nat) : Int) == 0) (true) (t35) fun Al W I => ?_
    refine zret I (v := fun Al => .tuple #[.agg #[.bool false, .slice (some ⟨(lk 0 Al 3), 0, none⟩) 1 1, .int .i64 (((wd : Nat) : Int) * g.lo)], .bool true]) fun Al W I => ?_
    have y := rf_one (I.box 3 3 #[.int .i64 1])
    first | (rw [if_pos (show g.grad = true by simpa using f22), Int.add_zero]; exact ⟨_, _, by rw [← len16_one], y.mono (I.geB 3), I.below⟩) | (rw [if_neg (show ¬ g.grad = true by simpa using f22), show g.lo + (g.digs - 1) = g.lo + g.digs - 1 by omega]; exact ⟨_, _, by rw [← len16_one], y.mono (I.geB 3), I.below⟩)
  · have t35 : (((dig B16 m).length : Int) == 0) = false := beq_eq_false_iff_ne.2 (by omega)
    obtain ⟨hb1, hb2, hb3, hb4⟩ := step_bd G hin h0
    simp only at hb1 hb2
    have bm := blen_len16 m
    have b0 := (blen_pos m).2 (by omega)
    have hK0 : stepK ⟨s, m, e⟩ g = max g.lo ((e + blen m - 1) / wid g - g.digs + 1) := by
      show max g.lo ((e + blen m - 1) / wid g - (g.digs.toNat : Int) + 1) = _
      rw [show (g.digs.toNat : Int) = g.digs by omega]
    have s1 := sum_bd hB h0 (E := wid g * stepK ⟨s, m, e⟩ g) hl he ⟨hb1, by simp only; omega⟩
    have s2 := sum_bd hB h0 (E := wid g * (stepK ⟨s, m, e⟩ g - 1)) hl he ⟨by rw [Int.mul_sub]; simp only; omega, by rw [Int.mul_sub]; simp only; omega⟩
    obtain ⟨he1, he2⟩ := inGrid_e hg hB hin
    simp only at he1 he2
    have q6 := sum_lo hB h0 (E := wid g * stepK ⟨s, m, e⟩ g) hl ⟨by simp only; omega, by simp only; omega⟩ ⟨hb1, by simp only; omega⟩
    have u6 := sum_lo hB h0 (E := wid g * (stepK ⟨s, m, e⟩ g - 1)) hl ⟨by simp only; omega, by simp only; omega⟩ ⟨by rw [Int.mul_sub]; simp only; omega, by rw [Int.mul_sub]; simp only; omega⟩
    have l161 : (dig B16 1).length ≤ 1 := by rw [← len16_one]; exact Nat.le_refl _
    have hmk := mul_bd (k := stepK ⟨s, m, e⟩ g) wp.2 (B := 17000) ⟨by omega, by omega⟩
    have hmk1 := mul_bd (k := stepK ⟨s, m, e⟩ g - 1) wp.2 (B := 17001) ⟨by omega, by omega⟩
    obtain ⟨q1, q2, q3, q4, q5⟩ := s1
    obtain ⟨u1, u2, u3, u4, u5⟩ := s2
    have lq := B16_len32 (rPlus ⟨s, m, e⟩ (oneD (wid g * stepK ⟨s, m, e⟩ g))).m
    have lu := B16_len32 (rPlus ⟨s, m, e⟩ (oneD (wid g * (stepK ⟨s, m, e⟩ g - 1)))).m
    have hxb : -80000 ≤ e + (blen m : Int) - 1 ∧ e + (blen m : Int) - 1 ≤ 3000000 := by omega
    obtain ⟨f1, f2, f3⟩ := far_div8 wt.out hxb.1
    have v1 := ediv_abs (wd := wid g) (x := e + (blen m : Int) - 1 + 80000) (B := 4000000) wp.1 (by omega)
    have v2 := ediv_abs (wd := wid g) (x := 80000) (B := 80000) wp.1 (by omega)
    have v3 := ediv_abs (wd := wid g) (x := e + (blen m : Int) - 1) (B := 4000000) wp.1 (by omega)
    have hL := blen_len16 m
    have hrs : rStep ⟨s, m, e⟩ g = if s = false then (rPlus ⟨s, m, e⟩ (oneD (wid g * stepK ⟨s, m, e⟩ g)), inGridD (rPlus ⟨s, m, e⟩ (oneD (wid g * stepK ⟨s, m, e⟩ g))) g) else
        if inGridD (rPlus ⟨s, m, e⟩ (oneD (wid g * (stepK ⟨s, m, e⟩ g - 1)))) g = true ∧ rCmp ⟨s, m, e⟩ (rPlus ⟨s, m, e⟩ (oneD (wid g * (stepK ⟨s, m, e⟩ g - 1)))) < 0 then (rPlus ⟨s, m, e⟩ (oneD (wid g * (stepK ⟨s, m, e⟩ g - 1))), true) else
        if inGridD (rPlus ⟨s, m, e⟩ (oneD (wid g * stepK ⟨s, m, e⟩ g))) g = true then (rPlus ⟨s, m, e⟩ (oneD (wid g * stepK ⟨s, m, e⟩ g)), true) else (⟨false, 0, 0⟩, true) := by
      show (if m = 0 then _ else _) = _
      rw [if_neg h0]
    rw [hrs]
    clear hrs hz q1 q2 u1 u2
    generalize stepK ⟨s, m, e⟩ g = K at *
    generalize wid g = wd at *
    have HRL : ∀ W (h : Rd W .i64 p (dig B16 m)), Hid (Calls Tryd.prog 77 #[.slice p (dig B16 m).length c] W fun e w' => e = .returned (.int .i64 (blen m : Nat)) ∧ Below W.heap.size W w') :=
      fun W h => Lib.hid (stay (refLen_any p _ c m W h rfl (by omega)))
    generalize blen m = L at *
    obtain ⟨K0, hk0⟩ : ∃ K0, (e + (L : Int) - 1) / (wd : Int) - g.digs + 1 = K0 := ⟨_, rfl⟩
    rw [hk0] at hK0
    have Y2 := Lib.hid (show IntKind.i64.wrap ((e + (L : Int) - 1 + 80000).tdiv (wd : Int)) = (e + (L : Int) - 1 + 80000) / (wd : Int) by rw [f1, IntWalk.i64_in _ (by omega)])
    have Y3 := Lib.hid (show IntKind.i64.wrap ((80000 : Int).tdiv (wd : Int)) = 80000 / (wd : Int) by rw [f2, IntWalk.i64_in _ (by omega)])
    have Y4 := Lib.hid (show IntKind.i64.wrap ((e + (L : Int) - 1 + 80000) / (wd : Int) - 80000 / (wd : Int)) = (e + (L : Int) - 1) / (wd : Int) by rw [f3, IntWalk.i64_in _ (by omega)])
    have Y6 := Lib.hid (show IntKind.i64.wrap ((e + (L : Int) - 1) / (wd : Int) - g.digs + 1) = K0 by rw [IntWalk.i64_in _ (by omega), hk0])
    have Y7 := Lib.hid (show (if K0 > g.lo then K0 else g.lo) = K by rw [max_is, hK0])
    clear f1 f2 f3 hk0 hK0 h0
    have HPL := fun W p79 c79 (h1 : Rd W .i64 p (dig B16 m)) (h2 : Rd W .i64 p79 (dig B16 1)) => Lib.hid (refDPlus_any s false p p79 _ c 1 c79 e (wd * K) m 1 W h1 h2 rfl len16_one (by omega) (by omega) (by omega) (by omega))
    have HPL1 := fun W p79 c79 (h1 : Rd W .i64 p (dig B16 m)) (h2 : Rd W .i64 p79 (dig B16 1)) => Lib.hid (refDPlus_any s false p p79 _ c 1 c79 e (wd * (K - 1)) m 1 W h1 h2 rfl len16_one (by omega) (by omega) (by omega) (by omega))
    rw [show rPlus ⟨s, m, e⟩ ⟨false, 1, wd * K⟩ = rPlus ⟨s, m, e⟩ (oneD (wd * K)) from rfl] at HPL
    rw [show rPlus ⟨s, m, e⟩ ⟨false, 1, wd * (K - 1)⟩ = rPlus ⟨s, m, e⟩ (oneD (wd * (K - 1))) from rfl] at HPL1
    generalize rPlus ⟨s, m, e⟩ (oneD (wd * K)) = r2 at *
    generalize rPlus ⟨s, m, e⟩ (oneD (wd * (K - 1))) = r1 at *
    have HI2 := fun W p c (h : Rd W .i64 p (dig B16 r2.m)) => Lib.hid (refInGrid_any r2.neg p _ c r2.e r2.m g W h rfl (by omega) (by omega) G)
    have HI1 := fun W p c (h : Rd W .i64 p (dig B16 r1.m)) => Lib.hid (refInGrid_any r1.neg p _ c r1.e r1.m g W h rfl (by omega) (by omega) G)
    have HCM := fun W q d (h1 : Rd W .i64 p (dig B16 m)) (h2 : Rd W .i64 q (dig B16 r1.m)) h3 => Lib.hid (refDCmp_any s r1.neg p q _ c _ d e r1.e m r1.m W h1 h2 rfl rfl h3 (by omega) (by omega) (by omega) (by omega))
    rw [show (⟨r2.neg, r2.m, r2.e⟩ : Dv) = r2 from rfl] at HI2
    rw [show (⟨r1.neg, r1.m, r1.e⟩ : Dv) = r1 from rfl] at HI1 HCM
    generalize inGridD r2 g = i2 at *
    generalize inGridD r1 g = i1 at *
    generalize rCmp ⟨s, m, e⟩ r1 = cm at *
    obtain ⟨R, hR⟩ : ∃ R, (if s = false then (r2, i2) else if i1 = true ∧ cm < 0 then (r1, true) else if i2 = true then (r2, true) else ((⟨false, 0, 0⟩ : Dv), true)) = R := ⟨_, rfl⟩
    rw [hR]
    have R1 : s = false → R = (r2, i2) := fun h => by rw [← hR, if_pos h]
    have R2 : ¬ s = false → i1 = true → cm < 0 → R = (r1, true) := fun h h1 h2 => by rw [← hR, if_neg h, if_pos ⟨h1, h2⟩]
    have R3 : ¬ s = false → ¬ (i1 = true ∧ cm < 0) → i2 = true → R = (r2, true) := fun h h1 h2 => by rw [← hR, if_neg h, if_neg h1, if_pos h2]
    have R4 : ¬ s = false → ¬ (i1 = true ∧ cm < 0) → i2 = false → R = (⟨false, 0, 0⟩, true) := fun h h1 h2 => by rw [← hR, if_neg h, if_neg h1, if_neg (by rw [h2]; simp)]
    clear hR
    have I := Inv.start w [rfF 0 p c (dig B16 m)] ⟨hp, True.intro⟩
    refine zstart [.v (.agg #[.bool s, .slice p (dig B16 m).length c, .int .i64 e]), .v (.agg #[.int .i64 g.rad, .int .i64 g.digs, .int .i64 g.lo, .int .i64 g.hi, .bool g.grad])] I Tryd.func39 ?_
    refine zg I (fun Al W I => (HWD _).out) fun Al V Iv hz hB K k => ?_
    rintro _ W ⟨rfl, hb⟩
    refine ⟨_, rfl, k _ _ hb fun I => ?_⟩
    clear k K
    refine zi I 18 .i64 (((wd : Nat) : Int) * g.lo) (((wd : Nat) : Int) * g.lo) (IntWalk.i64_in _ (by omega)) fun Al W I => ?_
    rcases Bool.eq_false_or_eq_true (!g.grad) with f22 | f22
    · skip
      refine zb I 22 (!g.grad) (true) (f22) fun Al W I => ?_
      refine zi I 28 .i64 (g.lo + g.digs) (g.lo + g.digs) (IntWalk.i64_in _ (by omega)) fun Al W I => ?_
      refine zi I 29 .i64 ((g.lo + g.digs) - 1) ((g.lo + g.digs) - 1) (IntWalk.i64_in _ (by omega)) fun Al W I => ?_
      refine zi I 30 .i64 (((wd : Nat) : Int) * ((g.lo + g.digs) - 1)) (((wd : Int) * (g.lo + g.digs - 1))) (IntWalk.i64_in _ (by omega)) fun Al W I => ?_
      refine zb I 35 ((((dig B16 m).length : Nat) : Int) == 0) (false) (t35) fun Al W I => ?_
      refine zd [] I fun Al W I => ?_
      refine zk [0, 1, 2, 3] I fun I => ?_
      refine zo 4 I (fun I => ?_)
      refine zg I (fun Al W I => (HRL _ I.fa.1.rd).out) fun Al V Iv hz hB K k => ?_
      rintro _ W ⟨rfl, hb⟩
      refine ⟨_, rfl, k _ _ hb fun I => ?_⟩
      clear k K
      refine zki 5 I .i64 (e + ((L : Nat) : Int)) ((e + (L : Int))) (IntWalk.i64_in _ (by omega)) fun I => ?_
      refine zk [6] I fun I => ?_
      refine zd [] I fun Al W I => ?_
      refine zk [0, 1, 2] I fun I => ?_
      refine zki 3 I .i64 ((e + (L : Int)) - 1) ((e + (L : Int) - 1)) (IntWalk.i64_in _ (by omega)) fun I => ?_
      refine zki 4 I .i64 ((e + (L : Int) - 1) + 80000) ((e + (L : Int) - 1 + 80000)) (IntWalk.i64_in _ (by omega)) fun I => ?_
      refine zk [5] I fun I => ?_
      refine zkbin 6 I _ (fun _ _ _ _ => bin_quo .i64 ((e + (L : Int) - 1 + 80000)) ((wd : Nat) : Int) (((e + (L : Int) - 1 + 80000) / (wd : Int))) (by omega) (Y2.out)) fun I => ?_
      refine zk [7] I fun I => ?_
      refine zkbin 8 I _ (fun _ _ _ _ => bin_quo .i64 (80000) ((wd : Nat) : Int) ((80000 / (wd : Int))) (by omega) (Y3.out)) fun I => ?_
      refine zki 9 I .i64 (((e + (L : Int) - 1 + 80000) / (wd : Int)) - (80000 / (wd : Int))) (((e + (L : Int) - 1) / (wd : Int))) (Y4.out) fun I => ?_
      refine zk [10, 11] I fun I => ?_
      refine zki 12 I .i64 (((e + (L : Int) - 1) / (wd : Int)) - g.digs) (((e + (L : Int) - 1) / (wd : Int) - g.digs)) (IntWalk.i64_in _ (by omega)) fun I => ?_
      refine zki 13 I .i64 (((e + (L : Int) - 1) / (wd : Int) - g.digs) + 1) (K0) (Y6.out) fun I => ?_
      refine zkm 14 I .i64 (if (K0 : Int) > g.lo then K0 else g.lo) (K) (Y7.out) fun I => ?_
      refine zk [15] I fun I => ?_
      rcases Bool.eq_false_or_eq_true (!s) with f60 | f60
      · skip
        refine zb I 60 (!s) (true) (f60) fun Al W I => ?_
        refine zi I 65 .i64 (((wd : Nat) : Int) * K) (((wd : Nat) : Int) * K) (IntWalk.i64_in _ (by omega)) fun Al W I => ?_
        refine zg (args := fun Al W => #[.agg #[.bool s, .slice p (dig B16 m).length c, .int .i64 e], .agg #[.bool false, .slice (some ⟨(lk 0 Al 5), 0, none⟩) 1 1, .int .i64 (((wd : Nat) : Int) * K)]]) I (fun Al W I => (HPL _ _ 1 I.fa.1.rd (rf_one (I.box 5 3 #[.int .i64 1])).rd).out) fun Al V Iv hz hB K k => ?_
        rintro _ W ⟨p67, c67, rfl, hr_x67, hc_x67, hf_x67, hb⟩
        have x67 := rf_of hr_x67 hc_x67 hf_x67
        refine ⟨_, rfl, k _ _ hb fun I => ?_⟩
        clear k K
        have I := I.rf x67 (hB _) Iv
        refine zd [2] I fun Al W I => ?_
        refine zk [0, 1, 2] I fun I => ?_
        refine zo 3 I (fun I => ?_)
        refine zg I (fun Al W I => (HI2 _ p67 c67 I.fa.1.rd).out) fun Al V Iv hz hB K k => ?_
        rintro _ W ⟨rfl, hb⟩
        refine ⟨_, rfl, k _ _ hb fun I => ?_⟩
        clear k K
        refine zo 4 I (fun I => ?_)
        refine zn I fun Al W I => ?_
        refine zk [5] I fun I => ?_
        rw [R1 (by simpa using f60)]
        exact zret I fun Al W I => ⟨_, _, rfl, I.fa.1.mono (by omega), I.below⟩
      refine zb I 60 (!s) (false) (f60) fun Al W I => ?_
      refine zi I 76 .i64 (K - 1) (K - 1) (IntWalk.i64_in _ (by omega)) fun Al W I => ?_
      refine zi I 77 .i64 (((wd : Nat) : Int) * (K - 1)) (((wd : Nat) : Int) * (K - 1)) (IntWalk.i64_in _ (by omega)) fun Al W I => ?_
      refine zg (args := fun Al W => #[.agg #[.bool s, .slice p (dig B16 m).length c, .int .i64 e], .agg #[.bool false, .slice (some ⟨(lk 0 Al 5), 0, none⟩) 1 1, .int .i64 (((wd : Nat) : Int) * (K - 1))]]) I (fun Al W I => (HPL1 _ _ 1 I.fa.1.rd (rf_one (I.box 5 3 #[.int .i64 1])).rd).out) fun Al V Iv hz hB K k => ?_
      rintro _ W ⟨p79, c79, rfl, hr_x79, hc_x79, hf_x79, hb⟩
      have x79 := rf_of hr_x79 hc_x79 hf_x79
      refine ⟨_, rfl, k _ _ hb fun I => ?_⟩
      clear k K
      have I := I.rf x79 (hB _) Iv
      by_cases f82 : i1 = true
      · skip
        refine zg I (fun Al W I => (HI1 _ p79 c79 I.fa.1.rd).out) fun Al V Iv hz hB K k => ?_
        rintro _ W ⟨rfl, hb⟩
        refine ⟨_, congrArg (fun b => Ending.returned (.bool b)) (show (i1) = true from f82), k _ _ hb fun I => ?_⟩
        clear k K
        refine zg I (fun Al W I => (HCM _ p79 c79 I.fa.2.1.rd I.fa.1.rd I.fa.1.cap).out) fun Al V Iv hz hB K k => ?_
        rintro _ W ⟨rfl, hb⟩
        refine ⟨_, rfl, k _ _ hb fun I => ?_⟩
        clear k K
        rcases Bool.eq_false_or_eq_true (decide (cm < 0)) with f87 | f87
        · skip
          refine zb I 87 (decide (cm < 0)) (true) (f87) fun Al W I => ?_
          rw [R2 (by simpa using f60) f82 (of_decide_eq_true f87)]
          exact zret I fun Al W I => ⟨_, _, rfl, I.fa.1.mono (by omega), I.below⟩
        refine zb I 87 (decide (cm < 0)) (false) (f87) fun Al W I => ?_
        refine zi I 94 .i64 (((wd : Nat) : Int) * K) (((wd : Nat) : Int) * K) (IntWalk.i64_in _ (by omega)) fun Al W I => ?_
        refine zg (args := fun Al W => #[.agg #[.bool s, .slice p (dig B16 m).length c, .int .i64 e], .agg #[.bool false, .slice (some ⟨(lk 0 Al 7), 0, none⟩) 1 1, .int .i64 (((wd : Nat) : Int) * K)]]) I (fun Al W I => (HPL _ _ 1 I.fa.2.1.rd (rf_one (I.box 7 3 #[.int .i64 1])).rd).out) fun Al V Iv hz hB K k => ?_
        rintro _ W ⟨p96, c96, rfl, hr_x96, hc_x96, hf_x96, hb⟩
        have x96 := rf_of hr_x96 hc_x96 hf_x96
        refine ⟨_, rfl, k _ _ hb fun I => ?_⟩
        clear k K
        have I := I.rf x96 (hB _) Iv
        by_cases f99 : i2 = true
        · skip
          refine zg I (fun Al W I => (HI2 _ p96 c96 I.fa.1.rd).out) fun Al V Iv hz hB K k => ?_
          rintro _ W ⟨rfl, hb⟩
          refine ⟨_, congrArg (fun b => Ending.returned (.bool b)) (show (i2) = true from f99), k _ _ hb fun I => ?_⟩
          clear k K
          rw [R3 (by simpa using f60) (fun h => by first | (exact f82 h.1) | (exact absurd h.2 (of_decide_eq_false f87))) f99]
          exact zret I fun Al W I => ⟨_, _, rfl, I.fa.1.mono (by omega), I.below⟩
        refine zg I (fun Al W I => (HI2 _ p96 c96 I.fa.1.rd).out) fun Al V Iv hz hB K k => ?_
        rintro _ W ⟨rfl, hb⟩
        refine ⟨_, congrArg (fun b => Ending.returned (.bool b)) (show (i2) = false from (by simpa using f99)), k _ _ hb fun I => ?_⟩
        clear k K
        rw [R4 (by simpa using f60) (fun h => by first | (exact f82 h.1) | (exact absurd h.2 (of_decide_eq_false f87))) (by simpa using f99)]
        exact zret I (v := fun Al => .tuple #[.agg #[.bool false, .slice none 0 0, .int .i64 0], .bool true]) fun Al W I => ⟨none, 0, by simp only [dig_zero]; rfl, by simp only [dig_zero]; exact rf_nil _ _ _, I.below⟩
      refine zg I (fun Al W I => (HI1 _ p79 c79 I.fa.1.rd).out) fun Al V Iv hz hB K k => ?_
      rintro _ W ⟨rfl, hb⟩
      refine ⟨_, congrArg (fun b => Ending.returned (.bool b)) (show (i1) = false from (by simpa using f82)), k _ _ hb fun I => ?_⟩
      clear k K
      refine zi I 94 .i64 (((wd : Nat) : Int) * K) (((wd : Nat) : Int) * K) (IntWalk.i64_in _ (by omega)) fun Al W I => ?_
      refine zg (args := fun Al W => #[.agg #[.bool s, .slice p (dig B16 m).length c, .int .i64 e], .agg #[.bool false, .slice (some ⟨(lk 0 Al 7), 0, none⟩) 1 1, .int .i64 (((wd : Nat) : Int) * K)]]) I (fun Al W I => (HPL _ _ 1 I.fa.2.1.rd (rf_one (I.box 7 3 #[.int .i64 1])).rd).out) fun Al V Iv hz hB K k => ?_
      rintro _ W ⟨p96, c96, rfl, hr_x96, hc_x96, hf_x96, hb⟩
      have x96 := rf_of hr_x96 hc_x96 hf_x96
      refine ⟨_, rfl, k _ _ hb fun I => ?_⟩
      clear k K
      have I := I.rf x96 (hB _) Iv
      by_cases f99 : i2 = true
      · skip
        refine zg I (fun Al W I => (HI2 _ p96 c96 I.fa.1.rd).out) fun Al V Iv hz hB K k => ?_
        rintro _ W ⟨rfl, hb⟩
        refine ⟨_, congrArg (fun b => Ending.returned (.bool b)) (show (i2) = true from f99), k _ _ hb fun I => ?_⟩
        clear k K
        rw [R3 (by simpa using f60) (fun h => by first | (exact f82 h.1) | (exact absurd h.2 (of_decide_eq_false f87))) f99]
        exact zret I fun Al W I => ⟨_, _, rfl, I.fa.1.mono (by omega), I.below⟩
      refine zg I (fun Al W I => (HI2 _ p96 c96 I.fa.1.rd).out) fun Al V Iv hz hB K k => ?_
      rintro _ W ⟨rfl, hb⟩
      refine ⟨_, congrArg (fun b => Ending.returned (.bool b)) (show (i2) = false from (by simpa using f99)), k _ _ hb fun I => ?_⟩
      clear k K
      rw [R4 (by simpa using f60) (fun h => by first | (exact f82 h.1) | (exact absurd h.2 (of_decide_eq_false f87))) (by simpa using f99)]
      exact zret I (v := fun Al => .tuple #[.agg #[.bool false, .slice none 0 0, .int .i64 0], .bool true]) fun Al W I => ⟨none, 0, by simp only [dig_zero]; rfl, by simp only [dig_zero]; exact rf_nil _ _ _, I.below⟩
    refine zb I 22 (!g.grad) (false) (f22) fun Al W I => ?_
    refine zb I 35 ((((dig B16 m).length : Nat) : Int) == 0) (false) (t35) fun Al W I => ?_
    refine zd [] I fun Al W I => ?_
    refine zk [0, 1, 2, 3] I fun I => ?_
    refine zo 4 I (fun I => ?_)
    refine zg I (fun Al W I => (HRL _ I.fa.1.rd).out) fun Al V Iv hz hB K k => ?_
    rintro _ W ⟨rfl, hb⟩
    refine ⟨_, rfl, k _ _ hb fun I => ?_⟩
    clear k K
    refine zki 5 I .i64 (e + ((L : Nat) : Int)) ((e + (L : Int))) (IntWalk.i64_in _ (by omega)) fun I => ?_
    refine zk [6] I fun I => ?_
    refine zd [] I fun Al W I => ?_
    refine zk [0, 1, 2] I fun I => ?_
    refine zki 3 I .i64 ((e + (L : Int)) - 1) ((e + (L : Int) - 1)) (IntWalk.i64_in _ (by omega)) fun I => ?_
    refine zki 4 I .i64 ((e + (L : Int) - 1) + 80000) ((e + (L : Int) - 1 + 80000)) (IntWalk.i64_in _ (by omega)) fun I => ?_
    refine zk [5] I fun I => ?_
    refine zkbin 6 I _ (fun _ _ _ _ => bin_quo .i64 ((e + (L : Int) - 1 + 80000)) ((wd : Nat) : Int) (((e + (L : Int) - 1 + 80000) / (wd : Int))) (by omega) (Y2.out)) fun I => ?_
    refine zk [7] I fun I => ?_
    refine zkbin 8 I _ (fun _ _ _ _ => bin_quo .i64 (80000) ((wd : Nat) : Int) ((80000 / (wd : Int))) (by omega) (Y3.out)) fun I => ?_
    refine zki 9 I .i64 (((e + (L : Int) - 1 + 80000) / (wd : Int)) - (80000 / (wd : Int))) (((e + (L : Int) - 1) / (wd : Int))) (Y4.out) fun I => ?_
    refine zk [10, 11] I fun I => ?_
    refine zki 12 I .i64 (((e + (L : Int) - 1) / (wd : Int)) - g.digs) (((e + (L : Int) - 1) / (wd : Int) - g.digs)) (IntWalk.i64_in _ (by omega)) fun I => ?_
    refine zki 13 I .i64 (((e + (L : Int) - 1) / (wd : Int) - g.digs) + 1) (K0) (Y6.out) fun I => ?_
    refine zkm 14 I .i64 (if (K0 : Int) > g.lo then K0 else g.lo) (K) (Y7.out) fun I => ?_
    refine zk [15] I fun I => ?_
    rcases Bool.eq_false_or_eq_true (!s) with f60 | f60
    · skip
      refine zb I 60 (!s) (true) (f60) fun Al W I => ?_
      refine zi I 65 .i64 (((wd : Nat) : Int) * K) (((wd : Nat) : Int) * K) (IntWalk.i64_in _ (by omega)) fun Al W I => ?_
      refine zg (args := fun Al W => #[.agg #[.bool s, .slice p (dig B16 m).length c, .int .i64 e], .agg #[.bool false, .slice (some ⟨(lk 0 Al 5), 0, none⟩) 1 1, .int .i64 (((wd : Nat) : Int) * K)]]) I (fun Al W I => (HPL _ _ 1 I.fa.1.rd (rf_one (I.box 5 3 #[.int .i64 1])).rd).out) fun Al V Iv hz hB K k => ?_
      rintro _ W ⟨p67, c67, rfl, hr_x67, hc_x67, hf_x67, hb⟩
      have x67 := rf_of hr_x67 hc_x67 hf_x67
      refine ⟨_, rfl, k _ _ hb fun I => ?_⟩
      clear k K
      have I := I.rf x67 (hB _) Iv
      refine zd [2] I fun Al W I => ?_
      refine zk [0, 1, 2] I fun I => ?_
      refine zo 3 I (fun I => ?_)
      refine zg I (fun Al W I => (HI2 _ p67 c67 I.fa.1.rd).out) fun Al V Iv hz hB K k => ?_
      rintro _ W ⟨rfl, hb⟩
      refine ⟨_, rfl, k _ _ hb fun I => ?_⟩
      clear k K
      refine zo 4 I (fun I => ?_)
      refine zn I fun Al W I => ?_
      refine zk [5] I fun I => ?_
      rw [R1 (by simpa using f60)]
      exact zret I fun Al W I => ⟨_, _, rfl, I.fa.1.mono (by omega), I.below⟩
    refine zb I 60 (!s) (false) (f60) fun Al W I => ?_
    refine zi I 76 .i64 (K - 1) (K - 1) (IntWalk.i64_in _ (by omega)) fun Al W I => ?_
    refine zi I 77 .i64 (((wd : Nat) : Int) * (K - 1)) (((wd : Nat) : Int) * (K - 1)) (IntWalk.i64_in _ (by omega)) fun Al W I => ?_
    refine zg (args := fun Al W => #[.agg #[.bool s, .slice p (dig B16 m).length c, .int .i64 e], .agg #[.bool false, .slice (some ⟨(lk 0 Al 5), 0, none⟩) 1 1, .int .i64 (((wd : Nat) : Int) * (K - 1))]]) I (fun Al W I => (HPL1 _ _ 1 I.fa.1.rd (rf_one (I.box 5 3 #[.int .i64 1])).rd).out) fun Al V Iv hz hB K k => ?_
    rintro _ W ⟨p79, c79, rfl, hr_x79, hc_x79, hf_x79, hb⟩
    have x79 := rf_of hr_x79 hc_x79 hf_x79
    refine ⟨_, rfl, k _ _ hb fun I => ?_⟩
    clear k K
    have I := I.rf x79 (hB _) Iv
    by_cases f82 : i1 = true
    · skip
      refine zg I (fun Al W I => (HI1 _ p79 c79 I.fa.1.rd).out) fun Al V Iv hz hB K k => ?_
      rintro _ W ⟨rfl, hb⟩
      refine ⟨_, congrArg (fun b => Ending.returned (.bool b)) (show (i1) = true from f82), k _ _ hb fun I => ?_⟩
      clear k K
      refine zg I (fun Al W I => (HCM _ p79 c79 I.fa.2.1.rd I.fa.1.rd I.fa.1.cap).out) fun Al V Iv hz hB K k => ?_
      rintro _ W ⟨rfl, hb⟩
      refine ⟨_, rfl, k _ _ hb fun I => ?_⟩
      clear k K
      rcases Bool.eq_false_or_eq_true (decide (cm < 0)) with f87 | f87
      · skip
        refine zb I 87 (decide (cm < 0)) (true) (f87) fun Al W I => ?_
        rw [R2 (by simpa using f60) f82 (of_decide_eq_true f87)]
        exact zret I fun Al W I => ⟨_, _, rfl, I.fa.1.mono (by omega), I.below⟩
      refine zb I 87 (decide (cm < 0)) (false) (f87) fun Al W I => ?_
      refine zi I 94 .i64 (((wd : Nat) : Int) * K) (((wd : Nat) : Int) * K) (IntWalk.i64_in _ (by omega)) fun Al W I => ?_
      refine zg (args := fun Al W => #[.agg #[.bool s, .slice p (dig B16 m).length c, .int .i64 e], .agg #[.bool false, .slice (some ⟨(lk 0 Al 7), 0, none⟩) 1 1, .int .i64 (((wd : Nat) : Int) * K)]]) I (fun Al W I => (HPL _ _ 1 I.fa.2.1.rd (rf_one (I.box 7 3 #[.int .i64 1])).rd).out) fun Al V Iv hz hB K k => ?_
      rintro _ W ⟨p96, c96, rfl, hr_x96, hc_x96, hf_x96, hb⟩
      have x96 := rf_of hr_x96 hc_x96 hf_x96
      refine ⟨_, rfl, k _ _ hb fun I => ?_⟩
      clear k K
      have I := I.rf x96 (hB _) Iv
      by_cases f99 : i2 = true
      · skip
        refine zg I (fun Al W I => (HI2 _ p96 c96 I.fa.1.rd).out) fun Al V Iv hz hB K k => ?_
        rintro _ W ⟨rfl, hb⟩
        refine ⟨_, congrArg (fun b => Ending.returned (.bool b)) (show (i2) = true from f99), k _ _ hb fun I => ?_⟩
        clear k K
        rw [R3 (by simpa using f60) (fun h => by first | (exact f82 h.1) | (exact absurd h.2 (of_decide_eq_false f87))) f99]
        exact zret I fun Al W I => ⟨_, _, rfl, I.fa.1.mono (by omega), I.below⟩
      refine zg I (fun Al W I => (HI2 _ p96 c96 I.fa.1.rd).out) fun Al V Iv hz hB K k => ?_
      rintro _ W ⟨rfl, hb⟩
      refine ⟨_, congrArg (fun b => Ending.returned (.bool b)) (show (i2) = false from (by simpa using f99)), k _ _ hb fun I => ?_⟩
      clear k K
      rw [R4 (by simpa using f60) (fun h => by first | (exact f82 h.1) | (exact absurd h.2 (of_decide_eq_false f87))) (by simpa using f99)]
      exact zret I (v := fun Al => .tuple #[.agg #[.bool false, .slice none 0 0, .int .i64 0], .bool true]) fun Al W I => ⟨none, 0, by simp only [dig_zero]; rfl, by simp only [dig_zero]; exact rf_nil _ _ _, I.below⟩
    refine zg I (fun Al W I => (HI1 _ p79 c79 I.fa.1.rd).out) fun Al V Iv hz hB K k => ?_
    rintro _ W ⟨rfl, hb⟩
    refine ⟨_, congrArg (fun b => Ending.returned (.bool b)) (show (i1) = false from (by simpa using f82)), k _ _ hb fun I => ?_⟩
    clear k K
    refine zi I 94 .i64 (((wd : Nat) : Int) * K) (((wd : Nat) : Int) * K) (IntWalk.i64_in _ (by omega)) fun Al W I => ?_
    refine zg (args := fun Al W => #[.agg #[.bool s, .slice p (dig B16 m).length c, .int .i64 e], .agg #[.bool false, .slice (some ⟨(lk 0 Al 7), 0, none⟩) 1 1, .int .i64 (((wd : Nat) : Int) * K)]]) I (fun Al W I => (HPL _ _ 1 I.fa.2.1.rd (rf_one (I.box 7 3 #[.int .i64 1])).rd).out) fun Al V Iv hz hB K k => ?_
    rintro _ W ⟨p96, c96, rfl, hr_x96, hc_x96, hf_x96, hb⟩
    have x96 := rf_of hr_x96 hc_x96 hf_x96
    refine ⟨_, rfl, k _ _ hb fun I => ?_⟩
    clear k K
    have I := I.rf x96 (hB _) Iv
    by_cases f99 : i2 = true
    · skip
      refine zg I (fun Al W I => (HI2 _ p96 c96 I.fa.1.rd).out) fun Al V Iv hz hB K k => ?_
      rintro _ W ⟨rfl, hb⟩
      refine ⟨_, congrArg (fun b => Ending.returned (.bool b)) (show (i2) = true from f99), k _ _ hb fun I => ?_⟩
      clear k K
      rw [R3 (by simpa using f60) (fun h => by first | (exact f82 h.1) | (exact absurd h.2 (of_decide_eq_false f87))) f99]
      exact zret I fun Al W I => ⟨_, _, rfl, I.fa.1.mono (by omega), I.below⟩
    refine zg I (fun Al W I => (HI2 _ p96 c96 I.fa.1.rd).out) fun Al V Iv hz hB K k => ?_
    rintro _ W ⟨rfl, hb⟩
    refine ⟨_, congrArg (fun b => Ending.returned (.bool b)) (show (i2) = false from (by simpa using f99)), k _ _ hb fun I => ?_⟩
    clear k K
    rw [R4 (by simpa using f60) (fun h => by first | (exact f82 h.1) | (exact absurd h.2 (of_decide_eq_false f87))) (by simpa using f99)]
    exact zret I (v := fun Al => .tuple #[.agg #[.bool false, .slice none 0 0, .int .i64 0], .bool true]) fun Al W I => ⟨none, 0, by simp only [dig_zero]; rfl, by simp only [dig_zero]; exact rf_nil _ _ _, I.below⟩

end Go.Proofs.YtcipdimogodndaaDoor

namespace Go.Proofs.YtcipdimogodndaaDoor
open Go.RowKit Go.Slip

theorem cwidth_any (f : Fm) (w : World) : Calls Tryd.prog 118 #[.agg #[.int .i64 ((f.size : Nat) : Int), .int .i64 ((f.E : Nat) : Int), .int .i64 ((f.F : Nat) : Int), .int .i64 f.g.rad, .int .i64 f.g.digs, .int .i64 f.g.lo, .int .i64 f.g.hi, .bool f.g.grad, .bool f.hid, .bool f.inf, .bool f.res, .func (.func (ordF f)) #[] #[]]] w fun en w' => en = .returned (.int .i64 ((wid f.g : Nat) : Int)) ∧ Below w.heap.size w w' := by
  by_cases h : f.g.rad = 16
  · have hw : wid f.g = 4 := by unfold wid; rw [if_pos h]
    rw [hw]
    have I := Inv.start w [] True.intro
    refine zstart [.v (.agg #[.int .i64 ((f.size : Nat) : Int), .int .i64 ((f.E : Nat) : Int), .int .i64 ((f.F : Nat) : Int), .int .i64 f.g.rad, .int .i64 f.g.digs, .int .i64 f.g.lo, .int .i64 f.g.hi, .bool f.g.grad, .bool f.hid, .bool f.inf, .bool f.res, .func (.func (ordF f)) #[] #[]])] I Tryd.func118 ?_
    refine zb I 6 (f.g.rad == 16) (true) (beq_iff_eq.2 h) fun Al W I => ?_
    exact zret I fun Al W I => ⟨rfl, I.below⟩
  · have hw : wid f.g = 1 := by unfold wid; rw [if_neg h]
    rw [hw]
    have I := Inv.start w [] True.intro
    refine zstart [.v (.agg #[.int .i64 ((f.size : Nat) : Int), .int .i64 ((f.E : Nat) : Int), .int .i64 ((f.F : Nat) : Int), .int .i64 f.g.rad, .int .i64 f.g.digs, .int .i64 f.g.lo, .int .i64 f.g.hi, .bool f.g.grad, .bool f.hid, .bool f.inf, .bool f.res, .func (.func (ordF f)) #[] #[]])] I Tryd.func118 ?_
    refine zb I 6 (f.g.rad == 16) (false) (beq_eq_false_iff_ne.2 h) fun Al W I => ?_
    exact zret I fun Al W I => ⟨rfl, I.below⟩

set_option maxHeartbeats 1000000 in
set_option maxRecDepth 100000 in
theorem raw_any (f : Fm) (g : Bool) (m : Nat) (pw k : Int) (p : Option Addr) (c : Nat) (w : World) (hp : Rd w .u32 p (dig B32 m)) (hc : (dig B32 m).length ≤ c) (hl : (dig B32 m).length ≤ 1000000) (hpw : -100000 ≤ pw ∧ pw ≤ 100000) (hT : TabW w) :
    Calls Tryd.prog 71 #[.agg #[.int .i64 ((f.size : Nat) : Int), .int .i64 ((f.E : Nat) : Int), .int .i64 ((f.F : Nat) : Int), .int .i64 f.g.rad, .int .i64 f.g.digs, .int .i64 f.g.lo, .int .i64 f.g.hi, .bool f.g.grad, .bool f.hid, .bool f.inf, .bool f.res, .func (.func (ordF f)) #[] #[]], .agg #[.int .i64 k, .bool g, .slice p (dig B32 m).length c, .int .i64 pw]] w (GivesD w w.heap.size (bare ⟨g, m, wid f.g * pw⟩)) := by
  have wp := wid_pos f.g
  have hmu := mul_bd (wd := wid f.g) (k := pw) (B := 100000) wp.2 hpw
  rw [← bare_sign]
  generalize hmw : (wid f.g : Int) * pw = mw at *
  have HMW := Lib.hid hmw
  have HW := fun W h1 h2 => Lib.hid (whole_any p _ c mw m W h1 rfl hc (by omega) (by omega) h2)
  clear hmw
  generalize hd : bare ⟨false, m, mw⟩ = d at *
  clear hd
  cases g with
  | false =>
    rw [if_neg (by simp)]
    have I := Inv.start w [rdF .u32 p (dig B32 m), tabF] ⟨hp, hT, True.intro⟩
    refine zstart [.v (.agg #[.int .i64 ((f.size : Nat) : Int), .int .i64 ((f.E : Nat) : Int), .int .i64 ((f.F : Nat) : Int), .int .i64 f.g.rad, .int .i64 f.g.digs, .int .i64 f.g.lo, .int .i64 f.g.hi, .bool f.g.grad, .bool f.hid, .bool f.inf, .bool f.res, .func (.func (ordF f)) #[] #[]]), .v (.agg #[.int .i64 k, .bool false, .slice p (dig B32 m).length c, .int .i64 pw])] I Tryd.func71 ?_
    refine zcut I none (fun fr bx gs => ∃ (U1 : Nat → Value) (p13 : Option Addr) (c13 : Nat), fr = (.v (.agg #[.int .i64 ((f.size : Nat) : Int), .int .i64 ((f.E : Nat) : Int), .int .i64 ((f.F : Nat) : Int), .int .i64 f.g.rad, .int .i64 f.g.digs, .int .i64 f.g.lo, .int .i64 f.g.hi, .bool f.g.grad, .bool f.hid, .bool f.inf, .bool f.res, .func (.func (ordF f)) #[] #[]]) :: .v (.agg #[.int .i64 k, .bool false, .slice p (dig B32 m).length c, .int .i64 pw]) :: .p 0 0 :: .p 1 0 :: .p 2 0 :: .p 3 0 :: sw U1 6 9 (.v undef :: sw U1 16 3 []) : List SV) ∧ bx = [⟨116, [.v (.int .i64 ((f.size : Nat) : Int)), .v (.int .i64 ((f.E : Nat) : Int)), .v (.int .i64 ((f.F : Nat) : Int)), .v (.int .i64 f.g.rad), .v (.int .i64 f.g.digs), .v (.int .i64 f.g.lo), .v (.int .i64 f.g.hi), .v (.bool f.g.grad), .v (.bool f.hid), .v (.bool f.inf), .v (.bool f.res), .v (.func (.func (ordF f)) #[] #[])], false⟩, ⟨56, [.v (.int .i64 k), .v (.bool false), .v (.slice p (dig B32 m).length c), .v (.int .i64 pw)], false⟩, ⟨97, [.v (.bool false), .v (.slice none 0 0), .v (.int .i64 0)], false⟩, ⟨97, [.v (.bool d.neg), .v (.slice p13 (dig B32 d.m).length c13), .v (.int .i64 d.e)], false⟩] ∧ gs = [ownF w.heap.size .u32 91 p13 c13 (dig B32 d.m), rdF .u32 p (dig B32 m), tabF]) ?_ ?_
    · intro J hJ Al W I
      refine zd [] I fun Al W I => ?_
      refine zk [0, 1, 2, 4, 5] I fun I => ?_
      refine zo2 3 8 I (fun I => ?_) (fun I => ?_)
      · skip
        refine zg I (fun Al W I => cwidth_any f W) fun Al V Iv hz hB K k => ?_
        rintro _ W ⟨rfl, hb⟩
        refine ⟨_, rfl, k _ _ hb fun I => ?_⟩
        clear k K
        refine zki 6 I .i64 (((wid f.g : Nat) : Int) * pw) (mw) ((by rw [HMW.out]; exact IntWalk.i64_in _ (by omega))) fun I => ?_
        refine zo2 7 8 I (fun I => ?_) (fun I => ?_)
        · skip
          refine zg I (fun Al W I => (HW W I.fa.1 I.fa.2.1).out) fun Al V Iv hz hB K k => ?_
          rintro _ W ⟨p13, c13, rfl, o13, hb⟩
          refine ⟨_, rfl, k _ _ hb fun I => ?_⟩
          clear k K
          have I := I.own o13
          refine zo 8 I (fun I => ?_)
          refine zn I fun Al W I => ?_
          refine zo 9 I (fun I => ?_)
          refine zn I fun Al W I => ?_
          exact zback I J fun Al W U I => hJ _ _ _ _ _ ⟨U, p13, c13, rfl, rfl, rfl⟩ (I.pick [0, 1, 2])
        refine zn I fun Al W I => ?_
        refine zo 7 I (fun I => ?_)
        refine zg I (fun Al W I => (HW W I.fa.1 I.fa.2.1).out) fun Al V Iv hz hB K k => ?_
        rintro _ W ⟨p13, c13, rfl, o13, hb⟩
        refine ⟨_, rfl, k _ _ hb fun I => ?_⟩
        clear k K
        have I := I.own o13
        refine zo 9 I (fun I => ?_)
        refine zn I fun Al W I => ?_
        exact zback I J fun Al W U I => hJ _ _ _ _ _ ⟨U, p13, c13, rfl, rfl, rfl⟩ (I.pick [0, 1, 2])
      refine zn I fun Al W I => ?_
      refine zo 3 I (fun I => ?_)
      refine zg I (fun Al W I => cwidth_any f W) fun Al V Iv hz hB K k => ?_
      rintro _ W ⟨rfl, hb⟩
      refine ⟨_, rfl, k _ _ hb fun I => ?_⟩
      clear k K
      refine zki 6 I .i64 (((wid f.g : Nat) : Int) * pw) (mw) ((by rw [HMW.out]; exact IntWalk.i64_in _ (by omega))) fun I => ?_
      refine zo 7 I (fun I => ?_)
      refine zg I (fun Al W I => (HW W I.fa.1 I.fa.2.1).out) fun Al V Iv hz hB K k => ?_
      rintro _ W ⟨p13, c13, rfl, o13, hb⟩
      refine ⟨_, rfl, k _ _ hb fun I => ?_⟩
      clear k K
      have I := I.own o13
      refine zo 9 I (fun I => ?_)
      refine zn I fun Al W I => ?_
      exact zback I J fun Al W U I => hJ _ _ _ _ _ ⟨U, p13, c13, rfl, rfl, rfl⟩ (I.pick [0, 1, 2])
    rintro _ _ _ ⟨U1, p13, c13, rfl, rfl, rfl⟩ Al W I
    exact zret I fun Al W I => ⟨p13, c13, rfl, I.fa.1.mono (by omega), I.below⟩
  | true =>
    rw [if_pos rfl]
    have I := Inv.start w [rdF .u32 p (dig B32 m), tabF] ⟨hp, hT, True.intro⟩
    refine zstart [.v (.agg #[.int .i64 ((f.size : Nat) : Int), .int .i64 ((f.E : Nat) : Int), .int .i64 ((f.F : Nat) : Int), .int .i64 f.g.rad, .int .i64 f.g.digs, .int .i64 f.g.lo, .int .i64 f.g.hi, .bool f.g.grad, .bool f.hid, .bool f.inf, .bool f.res, .func (.func (ordF f)) #[] #[]]), .v (.agg #[.int .i64 k, .bool true, .slice p (dig B32 m).length c, .int .i64 pw])] I Tryd.func71 ?_
    refine zcut I none (fun fr bx gs => ∃ (U1 : Nat → Value) (p13 : Option Addr) (c13 : Nat), fr = (.v (.agg #[.int .i64 ((f.size : Nat) : Int), .int .i64 ((f.E : Nat) : Int), .int .i64 ((f.F : Nat) : Int), .int .i64 f.g.rad, .int .i64 f.g.digs, .int .i64 f.g.lo, .int .i64 f.g.hi, .bool f.g.grad, .bool f.hid, .bool f.inf, .bool f.res, .func (.func (ordF f)) #[] #[]]) :: .v (.agg #[.int .i64 k, .bool true, .slice p (dig B32 m).length c, .int .i64 pw]) :: .p 0 0 :: .p 1 0 :: .p 2 0 :: .p 3 0 :: sw U1 6 9 (.v undef :: sw U1 16 3 []) : List SV) ∧ bx = [⟨116, [.v (.int .i64 ((f.size : Nat) : Int)), .v (.int .i64 ((f.E : Nat) : Int)), .v (.int .i64 ((f.F : Nat) : Int)), .v (.int .i64 f.g.rad), .v (.int .i64 f.g.digs), .v (.int .i64 f.g.lo), .v (.int .i64 f.g.hi), .v (.bool f.g.grad), .v (.bool f.hid), .v (.bool f.inf), .v (.bool f.res), .v (.func (.func (ordF f)) #[] #[])], false⟩, ⟨56, [.v (.int .i64 k), .v (.bool true), .v (.slice p (dig B32 m).length c), .v (.int .i64 pw)], false⟩, ⟨97, [.v (.bool false), .v (.slice none 0 0), .v (.int .i64 0)], false⟩, ⟨97, [.v (.bool d.neg), .v (.slice p13 (dig B32 d.m).length c13), .v (.int .i64 d.e)], false⟩] ∧ gs = [ownF w.heap.size .u32 91 p13 c13 (dig B32 d.m), rdF .u32 p (dig B32 m), tabF]) ?_ ?_
    · intro J hJ Al W I
      refine zd [] I fun Al W I => ?_
      refine zk [0, 1, 2, 4, 5] I fun I => ?_
      refine zo2 3 8 I (fun I => ?_) (fun I => ?_)
      · skip
        refine zg I (fun Al W I => cwidth_any f W) fun Al V Iv hz hB K k => ?_
        rintro _ W ⟨rfl, hb⟩
        refine ⟨_, rfl, k _ _ hb fun I => ?_⟩
        clear k K
        refine zki 6 I .i64 (((wid f.g : Nat) : Int) * pw) (mw) ((by rw [HMW.out]; exact IntWalk.i64_in _ (by omega))) fun I => ?_
        refine zo2 7 8 I (fun I => ?_) (fun I => ?_)
        · skip
          refine zg I (fun Al W I => (HW W I.fa.1 I.fa.2.1).out) fun Al V Iv hz hB K k => ?_
          rintro _ W ⟨p13, c13, rfl, o13, hb⟩
          refine ⟨_, rfl, k _ _ hb fun I => ?_⟩
          clear k K
          have I := I.own o13
          refine zo 8 I (fun I => ?_)
          refine zn I fun Al W I => ?_
          refine zo 9 I (fun I => ?_)
          refine zn I fun Al W I => ?_
          exact zback I J fun Al W U I => hJ _ _ _ _ _ ⟨U, p13, c13, rfl, rfl, rfl⟩ (I.pick [0, 1, 2])
        refine zn I fun Al W I => ?_
        refine zo 7 I (fun I => ?_)
        refine zg I (fun Al W I => (HW W I.fa.1 I.fa.2.1).out) fun Al V Iv hz hB K k => ?_
        rintro _ W ⟨p13, c13, rfl, o13, hb⟩
        refine ⟨_, rfl, k _ _ hb fun I => ?_⟩
        clear k K
        have I := I.own o13
        refine zo 9 I (fun I => ?_)
        refine zn I fun Al W I => ?_
        exact zback I J fun Al W U I => hJ _ _ _ _ _ ⟨U, p13, c13, rfl, rfl, rfl⟩ (I.pick [0, 1, 2])
      refine zn I fun Al W I => ?_
      refine zo 3 I (fun I => ?_)
      refine zg I (fun Al W I => cwidth_any f W) fun Al V Iv hz hB K k => ?_
      rintro _ W ⟨rfl, hb⟩
      refine ⟨_, rfl, k _ _ hb fun I => ?_⟩
      clear k K
      refine zki 6 I .i64 (((wid f.g : Nat) : Int) * pw) (mw) ((by rw [HMW.out]; exact IntWalk.i64_in _ (by omega))) fun I => ?_
      refine zo 7 I (fun I => ?_)
      refine zg I (fun Al W I => (HW W I.fa.1 I.fa.2.1).out) fun Al V Iv hz hB K k => ?_
      rintro _ W ⟨p13, c13, rfl, o13, hb⟩
      refine ⟨_, rfl, k _ _ hb fun I => ?_⟩
      clear k K
      have I := I.own o13
      refine zo 9 I (fun I => ?_)
      refine zn I fun Al W I => ?_
      exact zback I J fun Al W U I => hJ _ _ _ _ _ ⟨U, p13, c13, rfl, rfl, rfl⟩ (I.pick [0, 1, 2])
    rintro _ _ _ ⟨U1, p13, c13, rfl, rfl, rfl⟩ Al W I
    refine zg I (fun Al W I => opp_any d.neg p13 _ c13 d.e d.m W rfl) fun Al V Iv hz hB K k => ?_
    rintro _ W ⟨rfl, hb⟩
    refine ⟨_, rfl, k _ _ hb fun I => ?_⟩
    clear k K
    exact zret I fun Al W I => ⟨p13, c13, rfl, I.fa.1.mono (by omega), I.below⟩

theorem join_int (f : Fm) (g : Bool) (E : Int) (e x : Nat) (hE : E = e) (p : Option Addr) (c : Nat) (w : World) (G : GoodF f) (hp : Rd w .u32 p (dig B32 x)) (he : e < 2 ^ f.E) (hx : x < 2 ^ f.F) :
    Calls Tryd.prog 75 #[.agg #[.int .i64 ((f.size : Nat) : Int), .int .i64 ((f.E : Nat) : Int), .int .i64 ((f.F : Nat) : Int), .int .i64 f.g.rad, .int .i64 f.g.digs, .int .i64 f.g.lo, .int .i64 f.g.hi, .bool f.g.grad, .bool f.hid, .bool f.inf, .bool f.res, .func (.func (ordF f)) #[] #[]], .agg #[.bool g, .int .i64 E, .slice p (dig B32 x).length c]] w fun en w' => en = .returned (.string (strOf (f.str g e x))) ∧ Below w.heap.size w w' := by
  subst hE
  exact join_any f g e x p c w G hp he hx
theorem two_len {F : Nat} (h : F ≤ 64) : (dig B32 (2 ^ F)).length ≤ 3 := dig_le_pow (n := F + 1) (Nat.pow_lt_pow_right (by omega) (by omega)) (by omega)

set_option maxHeartbeats 1000000 in
set_option maxRecDepth 100000 in
theorem number_any (f : Fm) (d : Dv) (p : Option Addr) (c : Nat) (w : World) (G : GoodF f) (hp : Rd w .u32 p (dig B32 d.m)) (hl : (dig B32 d.m).length ≤ 1200) (he : -60000 ≤ d.e ∧ d.e ≤ 60000) (hin : inGridD d f.g = true) (h0 : d.m ≠ 0) :
    Calls Tryd.prog 72 #[.agg #[.int .i64 ((f.size : Nat) : Int), .int .i64 ((f.E : Nat) : Int), .int .i64 ((f.F : Nat) : Int), .int .i64 f.g.rad, .int .i64 f.g.digs, .int .i64 f.g.lo, .int .i64 f.g.hi, .bool f.g.grad, .bool f.hid, .bool f.inf, .bool f.res, .func (.func (ordF f)) #[] #[]], .agg #[.bool d.neg, .slice p (dig B32 d.m).length c, .int .i64 d.e]] w fun en w' => en = .returned (.string (strOf (f.strP (f.numP d)))) ∧ Below w.heap.size w w' := by
  have hg := goodG_of G.g
  have N := numF_of G hin h0
  have hlt := numP_lt G N
  obtain ⟨s, m, e⟩ := d
  simp only at h0 hl he hp
  have hd1 := hg.d1
  have hd2 := hg.d2
  have hl1 : (dig B32 1).length ≤ 1 := by rw [dig_len_le B32_two]; unfold B32; omega
  obtain ⟨f1, f2, f3⟩ := fit_step hg hin h0
  have f4 := f2 f3
  have hq : qP m 1 (e - wid f.g * stepK ⟨s, m, e⟩ f.g) = f.fr ⟨s, m, e⟩ := by
    have := N.e0
    simp only at this
    unfold qP numP denP Fm.fr
    rw [show (-(e - wid f.g * stepK ⟨s, m, e⟩ f.g)).toNat = 0 by omega, Nat.pow_zero, Nat.mul_one, Nat.div_one]
  rw [hq] at f1
  have hK := isK_one (show 0 < m by omega) e (w := wid f.g) (D := f.g.digs.toNat) (wid_pos f.g).1 (by omega)
  have HF := fun W q d (h1 : Rd W .u32 p (dig B32 m)) (h2 : Rd W .u32 q (dig B32 1)) => Lib.hid (fit_any s p q c d m 1 e f.g 3 _ W h1 h2 (by omega) (by omega) (by omega) (by omega) (by omega) hg (by omega) (by omega) hK)
  have hlow := N.low
  have hbl := N.bl
  have hk1 := N.k1
  have hk2 := N.k2
  have hfl : (dig B32 (f.fr ⟨s, m, e⟩)).length ≤ 16 := dig_le_pow N.lt (k := 16) (by have := Nat.mul_le_mul (wid_pos f.g).2 (show f.g.digs.toNat ≤ 120 by omega); omega)
  have hnp : f.numP ⟨s, m, e⟩ = if f.fam = 2 then ⟨s, (stepK ⟨s, m, e⟩ f.g - f.g.lo).toNat, f.fr ⟨s, m, e⟩⟩
    else if (blen (f.fr ⟨s, m, e⟩) : Int) = f.g.digs then ⟨s, (stepK ⟨s, m, e⟩ f.g - f.g.lo).toNat + 1, if f.ext then f.fr ⟨s, m, e⟩ else f.fr ⟨s, m, e⟩ - 2 ^ f.F⟩
    else ⟨s, (stepK ⟨s, m, e⟩ f.g - f.g.lo).toNat, f.fr ⟨s, m, e⟩⟩ := rfl
  rw [hnp] at hlt ⊢
  clear hnp N
  generalize f.fr ⟨s, m, e⟩ = X at *
  generalize stepK ⟨s, m, e⟩ f.g = K at *
  generalize fitK s m 1 e f.g 3 ((e + blen m - 1) / wid f.g - f.g.digs.toNat + 1) = pf at *
  obtain ⟨pn, pd, pp, pex, pov, pun⟩ := pf
  simp only at f1 f4
  subst f1 f4
  clear hK f2 f3 hq
  have z5 := G.lo
  have z6 := G.hi
  have hr := G.rad
  have hw := G.w
  have HJ := fun (W : World) (g : Bool) (e x : Nat) (p : Option Addr) (c : Nat) h h1 h2 => Lib.hid (join_any f g e x p c W G h h1 h2)
  unfold Fm.strP
  by_cases hf : f.fam = 2
  · rw [if_pos hf] at hr hw hlt ⊢
    simp only at hlt ⊢
    have hei : ((pp - f.g.lo).toNat : Int) = pp - f.g.lo := by omega
    generalize (pp - f.g.lo).toNat = e1 at *
    have I := Inv.start w [rdF .u32 p (dig B32 m)] ⟨hp, True.intro⟩
    refine zstart [.v (.agg #[.int .i64 ((f.size : Nat) : Int), .int .i64 ((f.E : Nat) : Int), .int .i64 ((f.F : Nat) : Int), .int .i64 f.g.rad, .int .i64 f.g.digs, .int .i64 f.g.lo, .int .i64 f.g.hi, .bool f.g.grad, .bool f.hid, .bool f.inf, .bool f.res, .func (.func (ordF f)) #[] #[]]), .v (.agg #[.bool s, .slice p (dig B32 m).length c, .int .i64 e])] I Tryd.func72 ?_
    refine zcut I none (fun fr bx gs => ∃ (U1 : Nat → Value) (p14 : Option Addr) (c14 : Nat) (p21 : Option Addr) (c21 : Nat), fr = (.v (.agg #[.int .i64 ((f.size : Nat) : Int), .int .i64 ((f.E : Nat) : Int), .int .i64 ((f.F : Nat) : Int), .int .i64 f.g.rad, .int .i64 f.g.digs, .int .i64 f.g.lo, .int .i64 f.g.hi, .bool f.g.grad, .bool f.hid, .bool f.inf, .bool f.res, .func (.func (ordF f)) #[] #[]]) :: .v (.agg #[.bool s, .slice p (dig B32 m).length c, .int .i64 e]) :: .p 0 0 :: .p 1 0 :: .v (Go.Value.string (ByteArray.mk #[])) :: .p 2 0 :: su 2 (sw U1 8 25 (.v undef :: sw U1 34 7 (.v undef :: .v (U1 42) :: .v undef :: sw U1 44 13 []))) : List SV) ∧ bx = [⟨116, [.v (.int .i64 ((f.size : Nat) : Int)), .v (.int .i64 ((f.E : Nat) : Int)), .v (.int .i64 ((f.F : Nat) : Int)), .v (.int .i64 f.g.rad), .v (.int .i64 f.g.digs), .v (.int .i64 f.g.lo), .v (.int .i64 f.g.hi), .v (.bool f.g.grad), .v (.bool f.hid), .v (.bool f.inf), .v (.bool f.res), .v (.func (.func (ordF f)) #[] #[])], false⟩, ⟨97, [.v (.bool s), .v (.slice p (dig B32 m).length c), .v (.int .i64 e)], false⟩, ⟨50, [.v (.bool pn), .v (.slice p21 (dig B32 pd).length c21), .v (.int .i64 pp), .v (.bool pex), .v (.bool pov), .v (.bool pun)], false⟩] ∧ gs = [ownF w.heap.size .u32 91 p21 c21 (dig B32 pd), ownF w.heap.size .u32 91 p14 c14 (dig B32 1), rdF .u32 p (dig B32 m)]) ?_ ?_
    · intro J hJ Al W I
      refine zd [] I fun Al W I => ?_
      refine zk [0, 1, 2, 3, 4, 5, 7, 8, 9, 11, 12] I fun I => ?_
      refine zo2 6 14 I (fun I => ?_) (fun I => ?_)
      · skip
        refine zg I (fun Al W I => have hz := I.bel.size; sof 1 1 rfl (by omega) W) fun Al V Iv hz hB K k => ?_
        rintro _ W ⟨p14, c14, rfl, o14, hb⟩
        refine ⟨_, rfl, k _ _ hb fun I => ?_⟩
        clear k K
        have I := I.own o14
        refine zk [10] I fun I => ?_
        refine zo2 13 14 I (fun I => ?_) (fun I => ?_)
        · skip
          refine zg I (fun Al W I => (HF W p14 c14 I.fa.2.1 I.fa.1.rd).out) fun Al V Iv hz hB K k => ?_
          rintro _ W ⟨p21, c21, rfl, o21, hb⟩
          refine ⟨_, rfl, k _ _ hb fun I => ?_⟩
          clear k K
          have I := I.own o21
          refine zo 14 I (fun I => ?_)
          refine zn I fun Al W I => ?_
          refine zo 15 I (fun I => ?_)
          refine zn I fun Al W I => ?_
          exact zback I J fun Al W U I => hJ _ _ _ _ _ ⟨U, p14, c14, p21, c21, rfl, rfl, rfl⟩ (I.pick [0, 1, 2])
        refine zn I fun Al W I => ?_
        refine zo 13 I (fun I => ?_)
        refine zg I (fun Al W I => (HF W p14 c14 I.fa.2.1 I.fa.1.rd).out) fun Al V Iv hz hB K k => ?_
        rintro _ W ⟨p21, c21, rfl, o21, hb⟩
        refine ⟨_, rfl, k _ _ hb fun I => ?_⟩
        clear k K
        have I := I.own o21
        refine zo 15 I (fun I => ?_)
        refine zn I fun Al W I => ?_
        exact zback I J fun Al W U I => hJ _ _ _ _ _ ⟨U, p14, c14, p21, c21, rfl, rfl, rfl⟩ (I.pick [0, 1, 2])
      refine zn I fun Al W I => ?_
      refine zo 6 I (fun I => ?_)
      refine zg I (fun Al W I => have hz := I.bel.size; sof 1 1 rfl (by omega) W) fun Al V Iv hz hB K k => ?_
      rintro _ W ⟨p14, c14, rfl, o14, hb⟩
      refine ⟨_, rfl, k _ _ hb fun I => ?_⟩
      clear k K
      have I := I.own o14
      refine zk [10] I fun I => ?_
      refine zo 13 I (fun I => ?_)
      refine zg I (fun Al W I => (HF W p14 c14 I.fa.2.1 I.fa.1.rd).out) fun Al V Iv hz hB K k => ?_
      rintro _ W ⟨p21, c21, rfl, o21, hb⟩
      refine ⟨_, rfl, k _ _ hb fun I => ?_⟩
      clear k K
      have I := I.own o21
      refine zo 15 I (fun I => ?_)
      refine zn I fun Al W I => ?_
      exact zback I J fun Al W U I => hJ _ _ _ _ _ ⟨U, p14, c14, p21, c21, rfl, rfl, rfl⟩ (I.pick [0, 1, 2])
    rintro _ _ _ ⟨U1, p14, c14, p21, c21, rfl, rfl, rfl⟩ Al W I
    refine zi I 27 .i64 (pp - f.g.lo) (((e1 : Nat) : Int)) ((by rw [hei]; exact IntWalk.i64_in _ (by omega))) fun Al W I => ?_
    refine zb I 33 (f.g.rad == 2) (false) (by rw [hr]; rfl) fun Al W I => ?_
    refine zg I (fun Al W I => (HJ W s e1 pd p21 c21 I.fa.1.rd hlt.1 hlt.2).out) fun Al V Iv hz hB K k => ?_
    rintro _ W ⟨rfl, hb⟩
    refine ⟨_, rfl, k _ _ hb fun I => ?_⟩
    clear k K
    exact zret I fun Al W I => ⟨rfl, I.below⟩
  · rw [if_neg hf] at hr hw hlt ⊢
    rw [hw] at hbl
    by_cases hb : (blen pd : Int) = f.g.digs
    · rw [if_pos hb] at hlt ⊢
      simp only at hlt ⊢
      have hei : (((pp - f.g.lo).toNat + 1 : Nat) : Int) = pp - f.g.lo + 1 := by omega
      generalize (pp - f.g.lo).toNat + 1 = e1 at *
      by_cases hx : f.ext = true
      · rw [if_pos hx] at hlt ⊢
        have hh : f.hid = false := by unfold Fm.hid; rw [hx]; simp
        have I := Inv.start w [rdF .u32 p (dig B32 m)] ⟨hp, True.intro⟩
        refine zstart [.v (.agg #[.int .i64 ((f.size : Nat) : Int), .int .i64 ((f.E : Nat) : Int), .int .i64 ((f.F : Nat) : Int), .int .i64 f.g.rad, .int .i64 f.g.digs, .int .i64 f.g.lo, .int .i64 f.g.hi, .bool f.g.grad, .bool f.hid, .bool f.inf, .bool f.res, .func (.func (ordF f)) #[] #[]]), .v (.agg #[.bool s, .slice p (dig B32 m).length c, .int .i64 e])] I Tryd.func72 ?_
        refine zcut I none (fun fr bx gs => ∃ (U1 : Nat → Value) (p14 : Option Addr) (c14 : Nat) (p21 : Option Addr) (c21 : Nat), fr = (.v (.agg #[.int .i64 ((f.size : Nat) : Int), .int .i64 ((f.E : Nat) : Int), .int .i64 ((f.F : Nat) : Int), .int .i64 f.g.rad, .int .i64 f.g.digs, .int .i64 f.g.lo, .int .i64 f.g.hi, .bool f.g.grad, .bool f.hid, .bool f.inf, .bool f.res, .func (.func (ordF f)) #[] #[]]) :: .v (.agg #[.bool s, .slice p (dig B32 m).length c, .int .i64 e]) :: .p 0 0 :: .p 1 0 :: .v (Go.Value.string (ByteArray.mk #[])) :: .p 2 0 :: su 2 (sw U1 8 25 (.v undef :: sw U1 34 7 (.v undef :: .v (U1 42) :: .v undef :: sw U1 44 13 []))) : List SV) ∧ bx = [⟨116, [.v (.int .i64 ((f.size : Nat) : Int)), .v (.int .i64 ((f.E : Nat) : Int)), .v (.int .i64 ((f.F : Nat) : Int)), .v (.int .i64 f.g.rad), .v (.int .i64 f.g.digs), .v (.int .i64 f.g.lo), .v (.int .i64 f.g.hi), .v (.bool f.g.grad), .v (.bool f.hid), .v (.bool f.inf), .v (.bool f.res), .v (.func (.func (ordF f)) #[] #[])], false⟩, ⟨97, [.v (.bool s), .v (.slice p (dig B32 m).length c), .v (.int .i64 e)], false⟩, ⟨50, [.v (.bool pn), .v (.slice p21 (dig B32 pd).length c21), .v (.int .i64 pp), .v (.bool pex), .v (.bool pov), .v (.bool pun)], false⟩] ∧ gs = [ownF w.heap.size .u32 91 p21 c21 (dig B32 pd), ownF w.heap.size .u32 91 p14 c14 (dig B32 1), rdF .u32 p (dig B32 m)]) ?_ ?_
        · intro J hJ Al W I
          refine zd [] I fun Al W I => ?_
          refine zk [0, 1, 2, 3, 4, 5, 7, 8, 9, 11, 12] I fun I => ?_
          refine zo2 6 14 I (fun I => ?_) (fun I => ?_)
          · skip
            refine zg I (fun Al W I => have hz := I.bel.size; sof 1 1 rfl (by omega) W) fun Al V Iv hz hB K k => ?_
            rintro _ W ⟨p14, c14, rfl, o14, hb⟩
            refine ⟨_, rfl, k _ _ hb fun I => ?_⟩
            clear k K
            have I := I.own o14
            refine zk [10] I fun I => ?_
            refine zo2 13 14 I (fun I => ?_) (fun I => ?_)
            · skip
              refine zg I (fun Al W I => (HF W p14 c14 I.fa.2.1 I.fa.1.rd).out) fun Al V Iv hz hB K k => ?_
              rintro _ W ⟨p21, c21, rfl, o21, hb⟩
              refine ⟨_, rfl, k _ _ hb fun I => ?_⟩
              clear k K
              have I := I.own o21
              refine zo 14 I (fun I => ?_)
              refine zn I fun Al W I => ?_
              refine zo 15 I (fun I => ?_)
              refine zn I fun Al W I => ?_
              exact zback I J fun Al W U I => hJ _ _ _ _ _ ⟨U, p14, c14, p21, c21, rfl, rfl, rfl⟩ (I.pick [0, 1, 2])
            refine zn I fun Al W I => ?_
            refine zo 13 I (fun I => ?_)
            refine zg I (fun Al W I => (HF W p14 c14 I.fa.2.1 I.fa.1.rd).out) fun Al V Iv hz hB K k => ?_
            rintro _ W ⟨p21, c21, rfl, o21, hb⟩
            refine ⟨_, rfl, k _ _ hb fun I => ?_⟩
            clear k K
            have I := I.own o21
            refine zo 15 I (fun I => ?_)
            refine zn I fun Al W I => ?_
            exact zback I J fun Al W U I => hJ _ _ _ _ _ ⟨U, p14, c14, p21, c21, rfl, rfl, rfl⟩ (I.pick [0, 1, 2])
          refine zn I fun Al W I => ?_
          refine zo 6 I (fun I => ?_)
          refine zg I (fun Al W I => have hz := I.bel.size; sof 1 1 rfl (by omega) W) fun Al V Iv hz hB K k => ?_
          rintro _ W ⟨p14, c14, rfl, o14, hb⟩
          refine ⟨_, rfl, k _ _ hb fun I => ?_⟩
          clear k K
          have I := I.own o14
          refine zk [10] I fun I => ?_
          refine zo 13 I (fun I => ?_)
          refine zg I (fun Al W I => (HF W p14 c14 I.fa.2.1 I.fa.1.rd).out) fun Al V Iv hz hB K k => ?_
          rintro _ W ⟨p21, c21, rfl, o21, hb⟩
          refine ⟨_, rfl, k _ _ hb fun I => ?_⟩
          clear k K
          have I := I.own o21
          refine zo 15 I (fun I => ?_)
          refine zn I fun Al W I => ?_
          exact zback I J fun Al W U I => hJ _ _ _ _ _ ⟨U, p14, c14, p21, c21, rfl, rfl, rfl⟩ (I.pick [0, 1, 2])
        rintro _ _ _ ⟨U1, p14, c14, p21, c21, rfl, rfl, rfl⟩ Al W I
        refine zi I 27 .i64 (pp - f.g.lo) (pp - f.g.lo) (IntWalk.i64_in _ (by omega)) fun Al W I => ?_
        refine zb I 33 (f.g.rad == 2) (true) (by rw [hr]; rfl) fun Al W I => ?_
        refine zi I 35 .i64 ((pp - f.g.lo) + 1) (((e1 : Nat) : Int)) ((by rw [hei]; exact IntWalk.i64_in _ (by omega))) fun Al W I => ?_
        refine zd [] I fun Al W I => ?_
        refine zk [0, 2, 3, 4] I fun I => ?_
        refine zo 1 I (fun I => ?_)
        refine zg I (fun Al W I => have hz := I.bel.size; stay (len_any p21 _ c21 pd W I.fa.1.rd rfl (by omega))) fun Al V Iv hz hB K k => ?_
        rintro _ W ⟨rfl, hb⟩
        refine ⟨_, rfl, k _ _ hb fun I => ?_⟩
        clear k K
        refine zkb 5 I (decide (((blen pd : Nat) : Int) < f.g.digs)) (false) (decide_eq_false (by omega)) fun I => ?_
        refine zb I 43 (f.hid) (false) (hh) fun Al W I => ?_
        refine zg I (fun Al W I => (HJ W s e1 pd p21 c21 I.fa.1.rd hlt.1 hlt.2).out) fun Al V Iv hz hB K k => ?_
        rintro _ W ⟨rfl, hb⟩
        refine ⟨_, rfl, k _ _ hb fun I => ?_⟩
        clear k K
        exact zret I fun Al W I => ⟨rfl, I.below⟩
      · rw [if_neg hx] at hlt ⊢
        have hx' : f.ext = false := by simpa using hx
        have hh : f.hid = true := by unfold Fm.hid; rw [hx']; simp [hf]
        have hFF := G.d1 hf hx'
        have hge : 2 ^ f.F ≤ pd := by
          have h1 := blen_pow pd ((blen_pos pd).1 (by omega))
          rw [show blen pd - 1 = f.F by omega] at h1
          exact h1
        have ht := two_len G.f2
        have I := Inv.start w [rdF .u32 p (dig B32 m)] ⟨hp, True.intro⟩
        refine zstart [.v (.agg #[.int .i64 ((f.size : Nat) : Int), .int .i64 ((f.E : Nat) : Int), .int .i64 ((f.F : Nat) : Int), .int .i64 f.g.rad, .int .i64 f.g.digs, .int .i64 f.g.lo, .int .i64 f.g.hi, .bool f.g.grad, .bool f.hid, .bool f.inf, .bool f.res, .func (.func (ordF f)) #[] #[]]), .v (.agg #[.bool s, .slice p (dig B32 m).length c, .int .i64 e])] I Tryd.func72 ?_
        refine zcut I none (fun fr bx gs => ∃ (U1 : Nat → Value) (p14 : Option Addr) (c14 : Nat) (p21 : Option Addr) (c21 : Nat), fr = (.v (.agg #[.int .i64 ((f.size : Nat) : Int), .int .i64 ((f.E : Nat) : Int), .int .i64 ((f.F : Nat) : Int), .int .i64 f.g.rad, .int .i64 f.g.digs, .int .i64 f.g.lo, .int .i64 f.g.hi, .bool f.g.grad, .bool f.hid, .bool f.inf, .bool f.res, .func (.func (ordF f)) #[] #[]]) :: .v (.agg #[.bool s, .slice p (dig B32 m).length c, .int .i64 e]) :: .p 0 0 :: .p 1 0 :: .v (Go.Value.string (ByteArray.mk #[])) :: .p 2 0 :: su 2 (sw U1 8 25 (.v undef :: sw U1 34 7 (.v undef :: .v (U1 42) :: .v undef :: sw U1 44 13 []))) : List SV) ∧ bx = [⟨116, [.v (.int .i64 ((f.size : Nat) : Int)), .v (.int .i64 ((f.E : Nat) : Int)), .v (.int .i64 ((f.F : Nat) : Int)), .v (.int .i64 f.g.rad), .v (.int .i64 f.g.digs), .v (.int .i64 f.g.lo), .v (.int .i64 f.g.hi), .v (.bool f.g.grad), .v (.bool f.hid), .v (.bool f.inf), .v (.bool f.res), .v (.func (.func (ordF f)) #[] #[])], false⟩, ⟨97, [.v (.bool s), .v (.slice p (dig B32 m).length c), .v (.int .i64 e)], false⟩, ⟨50, [.v (.bool pn), .v (.slice p21 (dig B32 pd).length c21), .v (.int .i64 pp), .v (.bool pex), .v (.bool pov), .v (.bool pun)], false⟩] ∧ gs = [ownF w.heap.size .u32 91 p21 c21 (dig B32 pd), ownF w.heap.size .u32 91 p14 c14 (dig B32 1), rdF .u32 p (dig B32 m)]) ?_ ?_
        · intro J hJ Al W I
          refine zd [] I fun Al W I => ?_
          refine zk [0, 1, 2, 3, 4, 5, 7, 8, 9, 11, 12] I fun I => ?_
          refine zo2 6 14 I (fun I => ?_) (fun I => ?_)
          · skip
            refine zg I (fun Al W I => have hz := I.bel.size; sof 1 1 rfl (by omega) W) fun Al V Iv hz hB K k => ?_
            rintro _ W ⟨p14, c14, rfl, o14, hb⟩
            refine ⟨_, rfl, k _ _ hb fun I => ?_⟩
            clear k K
            have I := I.own o14
            refine zk [10] I fun I => ?_
            refine zo2 13 14 I (fun I => ?_) (fun I => ?_)
            · skip
              refine zg I (fun Al W I => (HF W p14 c14 I.fa.2.1 I.fa.1.rd).out) fun Al V Iv hz hB K k => ?_
              rintro _ W ⟨p21, c21, rfl, o21, hb⟩
              refine ⟨_, rfl, k _ _ hb fun I => ?_⟩
              clear k K
              have I := I.own o21
              refine zo 14 I (fun I => ?_)
              refine zn I fun Al W I => ?_
              refine zo 15 I (fun I => ?_)
              refine zn I fun Al W I => ?_
              exact zback I J fun Al W U I => hJ _ _ _ _ _ ⟨U, p14, c14, p21, c21, rfl, rfl, rfl⟩ (I.pick [0, 1, 2])
            refine zn I fun Al W I => ?_
            refine zo 13 I (fun I => ?_)
            refine zg I (fun Al W I => (HF W p14 c14 I.fa.2.1 I.fa.1.rd).out) fun Al V Iv hz hB K k => ?_
            rintro _ W ⟨p21, c21, rfl, o21, hb⟩
            refine ⟨_, rfl, k _ _ hb fun I => ?_⟩
            clear k K
            have I := I.own o21
            refine zo 15 I (fun I => ?_)
            refine zn I fun Al W I => ?_
            exact zback I J fun Al W U I => hJ _ _ _ _ _ ⟨U, p14, c14, p21, c21, rfl, rfl, rfl⟩ (I.pick [0, 1, 2])
          refine zn I fun Al W I => ?_
          refine zo 6 I (fun I => ?_)
          refine zg I (fun Al W I => have hz := I.bel.size; sof 1 1 rfl (by omega) W) fun Al V Iv hz hB K k => ?_
          rintro _ W ⟨p14, c14, rfl, o14, hb⟩
          refine ⟨_, rfl, k _ _ hb fun I => ?_⟩
          clear k K
          have I := I.own o14
          refine zk [10] I fun I => ?_
          refine zo 13 I (fun I => ?_)
          refine zg I (fun Al W I => (HF W p14 c14 I.fa.2.1 I.fa.1.rd).out) fun Al V Iv hz hB K k => ?_
          rintro _ W ⟨p21, c21, rfl, o21, hb⟩
          refine ⟨_, rfl, k _ _ hb fun I => ?_⟩
          clear k K
          have I := I.own o21
          refine zo 15 I (fun I => ?_)
          refine zn I fun Al W I => ?_
          exact zback I J fun Al W U I => hJ _ _ _ _ _ ⟨U, p14, c14, p21, c21, rfl, rfl, rfl⟩ (I.pick [0, 1, 2])
        rintro _ _ _ ⟨U1, p14, c14, p21, c21, rfl, rfl, rfl⟩ Al W I
        refine zi I 27 .i64 (pp - f.g.lo) (pp - f.g.lo) (IntWalk.i64_in _ (by omega)) fun Al W I => ?_
        refine zb I 33 (f.g.rad == 2) (true) (by rw [hr]; rfl) fun Al W I => ?_
        refine zi I 35 .i64 ((pp - f.g.lo) + 1) (((e1 : Nat) : Int)) ((by rw [hei]; exact IntWalk.i64_in _ (by omega))) fun Al W I => ?_
        refine zd [] I fun Al W I => ?_
        refine zk [0, 2, 3, 4] I fun I => ?_
        refine zo 1 I (fun I => ?_)
        refine zg I (fun Al W I => have hz := I.bel.size; stay (len_any p21 _ c21 pd W I.fa.1.rd rfl (by omega))) fun Al V Iv hz hB K k => ?_
        rintro _ W ⟨rfl, hb⟩
        refine ⟨_, rfl, k _ _ hb fun I => ?_⟩
        clear k K
        refine zkb 5 I (decide (((blen pd : Nat) : Int) < f.g.digs)) (false) (decide_eq_false (by omega)) fun I => ?_
        refine zb I 43 (f.hid) (true) (hh) fun Al W I => ?_
        refine zg I (fun Al W I => have hz := I.bel.size; two_any f.F (2 ^ f.F) _ W (by have := G.f2; omega) rfl rfl) fun Al V Iv hz hB K k => ?_
        rintro _ W ⟨p47, c47, rfl, o47, hb⟩
        refine ⟨_, rfl, k _ _ hb fun I => ?_⟩
        clear k K
        have I := I.own o47
        refine zg I (fun Al W I => have hz := I.bel.size; ssub p21 p47 _ _ c21 c47 pd (2 ^ f.F) (pd - 2 ^ f.F) W I.fa.2.1.rd I.fa.1.rd rfl rfl (by omega) hge rfl) fun Al V Iv hz hB K k => ?_
        rintro _ W ⟨p48, c48, rfl, o48, hb⟩
        refine ⟨_, rfl, k _ _ hb fun I => ?_⟩
        clear k K
        have I := I.own o48
        refine zg I (fun Al W I => (HJ W s e1 (pd - 2 ^ f.F) p48 c48 I.fa.1.rd hlt.1 hlt.2).out) fun Al V Iv hz hB K k => ?_
        rintro _ W ⟨rfl, hb⟩
        refine ⟨_, rfl, k _ _ hb fun I => ?_⟩
        clear k K
        exact zret I fun Al W I => ⟨rfl, I.below⟩
    · rw [if_neg hb] at hlt ⊢
      simp only at hlt ⊢
      have hlo := (hlow hf hb).1
      have h0e : (pp - f.g.lo).toNat = 0 := by omega
      rw [h0e] at hlt ⊢
      have I := Inv.start w [rdF .u32 p (dig B32 m)] ⟨hp, True.intro⟩
      refine zstart [.v (.agg #[.int .i64 ((f.size : Nat) : Int), .int .i64 ((f.E : Nat) : Int), .int .i64 ((f.F : Nat) : Int), .int .i64 f.g.rad, .int .i64 f.g.digs, .int .i64 f.g.lo, .int .i64 f.g.hi, .bool f.g.grad, .bool f.hid, .bool f.inf, .bool f.res, .func (.func (ordF f)) #[] #[]]), .v (.agg #[.bool s, .slice p (dig B32 m).length c, .int .i64 e])] I Tryd.func72 ?_
      refine zcut I none (fun fr bx gs => ∃ (U1 : Nat → Value) (p14 : Option Addr) (c14 : Nat) (p21 : Option Addr) (c21 : Nat), fr = (.v (.agg #[.int .i64 ((f.size : Nat) : Int), .int .i64 ((f.E : Nat) : Int), .int .i64 ((f.F : Nat) : Int), .int .i64 f.g.rad, .int .i64 f.g.digs, .int .i64 f.g.lo, .int .i64 f.g.hi, .bool f.g.grad, .bool f.hid, .bool f.inf, .bool f.res, .func (.func (ordF f)) #[] #[]]) :: .v (.agg #[.bool s, .slice p (dig B32 m).length c, .int .i64 e]) :: .p 0 0 :: .p 1 0 :: .v (Go.Value.string (ByteArray.mk #[])) :: .p 2 0 :: su 2 (sw U1 8 25 (.v undef :: sw U1 34 7 (.v undef :: .v (U1 42) :: .v undef :: sw U1 44 13 []))) : List SV) ∧ bx = [⟨116, [.v (.int .i64 ((f.size : Nat) : Int)), .v (.int .i64 ((f.E : Nat) : Int)), .v (.int .i64 ((f.F : Nat) : Int)), .v (.int .i64 f.g.rad), .v (.int .i64 f.g.digs), .v (.int .i64 f.g.lo), .v (.int .i64 f.g.hi), .v (.bool f.g.grad), .v (.bool f.hid), .v (.bool f.inf), .v (.bool f.res), .v (.func (.func (ordF f)) #[] #[])], false⟩, ⟨97, [.v (.bool s), .v (.slice p (dig B32 m).length c), .v (.int .i64 e)], false⟩, ⟨50, [.v (.bool pn), .v (.slice p21 (dig B32 pd).length c21), .v (.int .i64 pp), .v (.bool pex), .v (.bool pov), .v (.bool pun)], false⟩] ∧ gs = [ownF w.heap.size .u32 91 p21 c21 (dig B32 pd), ownF w.heap.size .u32 91 p14 c14 (dig B32 1), rdF .u32 p (dig B32 m)]) ?_ ?_
      · intro J hJ Al W I
        refine zd [] I fun Al W I => ?_
        refine zk [0, 1, 2, 3, 4, 5, 7, 8, 9, 11, 12] I fun I => ?_
        refine zo2 6 14 I (fun I => ?_) (fun I => ?_)
        · skip
          refine zg I (fun Al W I => have hz := I.bel.size; sof 1 1 rfl (by omega) W) fun Al V Iv hz hB K k => ?_
          rintro _ W ⟨p14, c14, rfl, o14, hb⟩
          refine ⟨_, rfl, k _ _ hb fun I => ?_⟩
          clear k K
          have I := I.own o14
          refine zk [10] I fun I => ?_
          refine zo2 13 14 I (fun I => ?_) (fun I => ?_)
          · skip
            refine zg I (fun Al W I => (HF W p14 c14 I.fa.2.1 I.fa.1.rd).out) fun Al V Iv hz hB K k => ?_
            rintro _ W ⟨p21, c21, rfl, o21, hb⟩
            refine ⟨_, rfl, k _ _ hb fun I => ?_⟩
            clear k K
            have I := I.own o21
            refine zo 14 I (fun I => ?_)
            refine zn I fun Al W I => ?_
            refine zo 15 I (fun I => ?_)
            refine zn I fun Al W I => ?_
            exact zback I J fun Al W U I => hJ _ _ _ _ _ ⟨U, p14, c14, p21, c21, rfl, rfl, rfl⟩ (I.pick [0, 1, 2])
          refine zn I fun Al W I => ?_
          refine zo 13 I (fun I => ?_)
          refine zg I (fun Al W I => (HF W p14 c14 I.fa.2.1 I.fa.1.rd).out) fun Al V Iv hz hB K k => ?_
          rintro _ W ⟨p21, c21, rfl, o21, hb⟩
          refine ⟨_, rfl, k _ _ hb fun I => ?_⟩
          clear k K
          have I := I.own o21
          refine zo 15 I (fun I => ?_)
          refine zn I fun Al W I => ?_
          exact zback I J fun Al W U I => hJ _ _ _ _ _ ⟨U, p14, c14, p21, c21, rfl, rfl, rfl⟩ (I.pick [0, 1, 2])
        refine zn I fun Al W I => ?_
        refine zo 6 I (fun I => ?_)
        refine zg I (fun Al W I => have hz := I.bel.size; sof 1 1 rfl (by omega) W) fun Al V Iv hz hB K k => ?_
        rintro _ W ⟨p14, c14, rfl, o14, hb⟩
        refine ⟨_, rfl, k _ _ hb fun I => ?_⟩
        clear k K
        have I := I.own o14
        refine zk [10] I fun I => ?_
        refine zo 13 I (fun I => ?_)
        refine zg I (fun Al W I => (HF W p14 c14 I.fa.2.1 I.fa.1.rd).out) fun Al V Iv hz hB K k => ?_
        rintro _ W ⟨p21, c21, rfl, o21, hb⟩
        refine ⟨_, rfl, k _ _ hb fun I => ?_⟩
        clear k K
        have I := I.own o21
        refine zo 15 I (fun I => ?_)
        refine zn I fun Al W I => ?_
        exact zback I J fun Al W U I => hJ _ _ _ _ _ ⟨U, p14, c14, p21, c21, rfl, rfl, rfl⟩ (I.pick [0, 1, 2])
      rintro _ _ _ ⟨U1, p14, c14, p21, c21, rfl, rfl, rfl⟩ Al W I
      refine zi I 27 .i64 (pp - f.g.lo) (pp - f.g.lo) (IntWalk.i64_in _ (by omega)) fun Al W I => ?_
      refine zb I 33 (f.g.rad == 2) (true) (by rw [hr]; rfl) fun Al W I => ?_
      refine zi I 35 .i64 ((pp - f.g.lo) + 1) ((pp - f.g.lo) + 1) (IntWalk.i64_in _ (by omega)) fun Al W I => ?_
      refine zd [] I fun Al W I => ?_
      refine zk [0, 2, 3, 4] I fun I => ?_
      refine zo 1 I (fun I => ?_)
      refine zg I (fun Al W I => have hz := I.bel.size; stay (len_any p21 _ c21 pd W I.fa.1.rd rfl (by omega))) fun Al V Iv hz hB K k => ?_
      rintro _ W ⟨rfl, hb⟩
      refine ⟨_, rfl, k _ _ hb fun I => ?_⟩
      clear k K
      refine zkb 5 I (decide (((blen pd : Nat) : Int) < f.g.digs)) (true) (decide_eq_true (by omega)) fun I => ?_
      refine zg I (fun Al W I => join_int f s 0 0 pd rfl p21 c21 W G I.fa.1.rd hlt.1 hlt.2) fun Al V Iv hz hB K k => ?_
      rintro _ W ⟨rfl, hb⟩
      refine ⟨_, rfl, k _ _ hb fun I => ?_⟩
      clear k K
      exact zret I fun Al W I => ⟨rfl, I.below⟩
end Go.Proofs.YtcipdimogodndaaDoor

namespace Go.Proofs.YtcipdimogodndaaDoor
open Go.RowKit Go.Slip

theorem cmpN_zero {a b : Nat} (h : cmpN a b = 0) : a = b := by
  unfold cmpN at h
  split at h
  · omega
  · split at h <;> omega
theorem tz_bdn {n : Nat} (x : Nat) (hl : (dig B32 x).length ≤ n) : tz x ≤ 32 * n := by
  rcases Nat.eq_zero_or_pos x with h | h
  · rw [h, tz_zero]; omega
  · have h1 := (tz_spec x h).1
    have h2 := (dig_len_le B32_two x n).1 hl
    have h3 : 2 ^ tz x ≤ x := by
      have : 0 < x / 2 ^ tz x := by
        rcases Nat.eq_zero_or_pos (x / 2 ^ tz x) with h4 | h4
        · rw [h4, Nat.mul_zero] at h1; omega
        · exact h4
      have h5 := Nat.mul_le_mul_left (2 ^ tz x) this
      omega
    rw [show B32 = 2 ^ 32 from rfl, ← Nat.pow_mul] at h2
    have h6 := (Nat.pow_lt_pow_iff_right (a := 2) (by omega)).1 (Nat.lt_of_le_of_lt h3 h2)
    omega
theorem tz_bd (x : Nat) (hl : (dig B32 x).length ≤ 1000) : tz x ≤ 32000 := tz_bdn x hl

def GivesC (w : World) (base : Nat) (d : Dc) (en : Ending) (w' : World) : Prop :=
  ∃ p c, en = .returned (.tuple #[.int .i64 ((d.cls : Nat) : Int), .slice p (dig B32 d.m).length c, .int .i64 d.p]) ∧ Own w' base .u32 91 p c (dig B32 d.m) ∧ Below w.heap.size w w'

theorem givesC_none {w w' : World} {base : Nat} {k : Nat} {en : Ending} (h : en = .returned (.tuple #[.int .i64 ((k : Nat) : Int), .slice none 0 0, .int .i64 0])) (hb : Below w.heap.size w w') : GivesC w base ⟨k, 0, 0⟩ en w' := by
  refine ⟨none, 0, ?_, ?_, hb⟩
  · rw [h, dig_zero]; rfl
  · rw [dig_zero]; exact Own.nil _ _ _ _

set_option maxRecDepth 100000 in
theorem value_any (f : Fm) (g : Bool) (e x : Nat) (p : Option Addr) (c base : Nat) (w : World) (G : GoodF f) (hp : Own w base .u32 91 p c (dig B32 x)) (hb : base ≤ w.heap.size) (he : e < 2 ^ f.E) (hx : x < 2 ^ f.F) :
    Calls Tryd.prog 107 #[.agg #[.int .i64 ((f.size : Nat) : Int), .int .i64 ((f.E : Nat) : Int), .int .i64 ((f.F : Nat) : Int), .int .i64 f.g.rad, .int .i64 f.g.digs, .int .i64 f.g.lo, .int .i64 f.g.hi, .bool f.g.grad, .bool f.hid, .bool f.inf, .bool f.res, .func (.func (ordF f)) #[] #[]], .agg #[.bool g, .int .i64 ((e : Nat) : Int), .slice p (dig B32 x).length c]] w (GivesC w base (f.dec g e x)) := by
  have z2 := G.e2
  have z3 := G.f2
  have z4 := G.lo
  have hxl := dig_le_pow hx (k := 2) (by omega)
  have hx0 := dig_len_zero B32_two x
  have h0T : 0 < 2 ^ f.E := Nat.pow_pos (by omega)
  have h0T2 : 2 ^ f.E ≤ 2 ^ 15 := Nat.pow_le_pow_right (by omega) (by omega)
  have HSH := Lib.hid (shl_one (E := f.E) (by omega))
  by_cases f2 : f.fam = 2
  · have hD : f.dec g e x = ⟨2, x, f.g.lo + e⟩ := by unfold Fm.dec; rw [if_pos f2]
    rw [hD]
    generalize 2 ^ f.E = P at *
    have r1 := G.rad
    rw [if_pos f2] at r1
    have I := Inv.start w [ownF base .u32 91 p c (dig B32 x)] ⟨hp, True.intro⟩
    refine zstart [.v (.agg #[.int .i64 ((f.size : Nat) : Int), .int .i64 ((f.E : Nat) : Int), .int .i64 ((f.F : Nat) : Int), .int .i64 f.g.rad, .int .i64 f.g.digs, .int .i64 f.g.lo, .int .i64 f.g.hi, .bool f.g.grad, .bool f.hid, .bool f.inf, .bool f.res, .func (.func (ordF f)) #[] #[]]), .v (.agg #[.bool g, .int .i64 ((e : Nat) : Int), .slice p (dig B32 x).length c])] I Tryd.func107 ?_
    refine zbin I 11 _ (fun _ _ _ _ _ => bin_shl .i64 (1) .i64 ((f.E : Nat) : Int) (((P : Nat) : Int)) (by omega) ((HSH.out))) fun Al W I => ?_
    refine zi I 12 .i64 (((P : Nat) : Int) - 1) (((P - 1 : Nat) : Int)) ((by rw [show (((P : Nat) : Int) - 1) = ((P - 1 : Nat) : Int) by omega]; exact IntWalk.i64_in _ (by omega))) fun Al W I => ?_
    refine zb I 20 (f.g.rad == 16) (true) (beq_iff_eq.2 r1) fun Al W I => ?_
    refine zd [] I fun Al W I => ?_
    refine zk [0, 1, 2, 3, 4] I fun I => ?_
    refine zki 5 I .i64 (f.g.lo + ((e : Nat) : Int)) (f.g.lo + ((e : Nat) : Int)) (IntWalk.i64_in _ (by omega)) fun I => ?_
    refine zk [6, 7, 8] I fun I => ?_
    exact zret I fun Al W I => ⟨p, c, rfl, I.fa.1, I.below⟩
  · have r1 := G.rad
    rw [if_neg f2] at r1
    have hr : (f.g.rad == 16) = false := by rw [r1]; rfl
    by_cases f1 : f.fam = 1
    · have hinf : f.inf = true := by unfold Fm.inf; rw [f1]; rfl
      have hres : f.res = false := by unfold Fm.res; rw [f1]; rfl
      by_cases hl : e = 2 ^ f.E - 1
      · by_cases hex : f.ext = false
        · have hhid : f.hid = true := by unfold Fm.hid; rw [f1, hex]; rfl
          by_cases h0 : x = 0
          · have hD : f.dec g e x = ⟨3, 0, 0⟩ := by unfold Fm.dec; rw [if_neg f2, if_pos ⟨f1, hl⟩, if_pos (.inl ⟨hex, h0⟩)]
            rw [hD]
            generalize 2 ^ f.E = P at *
            have I := Inv.start w [ownF base .u32 91 p c (dig B32 x)] ⟨hp, True.intro⟩
            refine zstart [.v (.agg #[.int .i64 ((f.size : Nat) : Int), .int .i64 ((f.E : Nat) : Int), .int .i64 ((f.F : Nat) : Int), .int .i64 f.g.rad, .int .i64 f.g.digs, .int .i64 f.g.lo, .int .i64 f.g.hi, .bool f.g.grad, .bool f.hid, .bool f.inf, .bool f.res, .func (.func (ordF f)) #[] #[]]), .v (.agg #[.bool g, .int .i64 ((e : Nat) : Int), .slice p (dig B32 x).length c])] I Tryd.func107 ?_
            refine zbin I 11 _ (fun _ _ _ _ _ => bin_shl .i64 (1) .i64 ((f.E : Nat) : Int) (((P : Nat) : Int)) (by omega) ((HSH.out))) fun Al W I => ?_
            refine zi I 12 .i64 (((P : Nat) : Int) - 1) (((P - 1 : Nat) : Int)) ((by rw [show (((P : Nat) : Int) - 1) = ((P - 1 : Nat) : Int) by omega]; exact IntWalk.i64_in _ (by omega))) fun Al W I => ?_
            refine zb I 20 (f.g.rad == 16) (false) (hr) fun Al W I => ?_
            refine zb I 29 (f.inf) (true) (hinf) fun Al W I => ?_
            refine zb I 34 (((e : Nat) : Int) == ((P - 1 : Nat) : Int)) (true) (beq_iff_eq.2 (by omega)) fun Al W I => ?_
            refine zd [] I fun Al W I => ?_
            refine zk [0] I fun I => ?_
            refine zkb 1 I (f.hid) (true) (hhid) fun I => ?_
            refine zk [2, 3, 4, 5] I fun I => ?_
            refine zkb 6 I ((((dig B32 x).length : Nat) : Int) == 0) (true) (beq_iff_eq.2 (by omega)) fun I => ?_
            refine zk [7, 8, 9, 10, 11, 12, 13, 14, 15, 16, 17, 18, 19] I fun I => ?_
            exact zret I fun Al W I => givesC_none (k := 3) rfl I.below
          · have hD : f.dec g e x = ⟨4, 0, 0⟩ := by unfold Fm.dec; rw [if_neg f2, if_pos ⟨f1, hl⟩, if_neg (by simp [hex, h0])]
            rw [hD]
            generalize 2 ^ f.E = P at *
            have I := Inv.start w [ownF base .u32 91 p c (dig B32 x)] ⟨hp, True.intro⟩
            refine zstart [.v (.agg #[.int .i64 ((f.size : Nat) : Int), .int .i64 ((f.E : Nat) : Int), .int .i64 ((f.F : Nat) : Int), .int .i64 f.g.rad, .int .i64 f.g.digs, .int .i64 f.g.lo, .int .i64 f.g.hi, .bool f.g.grad, .bool f.hid, .bool f.inf, .bool f.res, .func (.func (ordF f)) #[] #[]]), .v (.agg #[.bool g, .int .i64 ((e : Nat) : Int), .slice p (dig B32 x).length c])] I Tryd.func107 ?_
            refine zbin I 11 _ (fun _ _ _ _ _ => bin_shl .i64 (1) .i64 ((f.E : Nat) : Int) (((P : Nat) : Int)) (by omega) ((HSH.out))) fun Al W I => ?_
            refine zi I 12 .i64 (((P : Nat) : Int) - 1) (((P - 1 : Nat) : Int)) ((by rw [show (((P : Nat) : Int) - 1) = ((P - 1 : Nat) : Int) by omega]; exact IntWalk.i64_in _ (by omega))) fun Al W I => ?_
            refine zb I 20 (f.g.rad == 16) (false) (hr) fun Al W I => ?_
            refine zb I 29 (f.inf) (true) (hinf) fun Al W I => ?_
            refine zb I 34 (((e : Nat) : Int) == ((P - 1 : Nat) : Int)) (true) (beq_iff_eq.2 (by omega)) fun Al W I => ?_
            refine zd [] I fun Al W I => ?_
            refine zk [0] I fun I => ?_
            refine zkb 1 I (f.hid) (true) (hhid) fun I => ?_
            refine zk [2, 3, 4, 5] I fun I => ?_
            refine zkb 6 I ((((dig B32 x).length : Nat) : Int) == 0) (false) (beq_eq_false_iff_ne.2 (by omega)) fun I => ?_
            refine zk [7, 8, 9] I fun I => ?_
            refine zkb 10 I (f.hid) (true) (hhid) fun I => ?_
            refine zk [11, 12, 13, 14, 15, 16, 17, 18, 19] I fun I => ?_
            exact zret I fun Al W I => givesC_none (k := 4) rfl I.below
        · have hex : f.ext = true := by simpa using hex
          have hhid : f.hid = false := by unfold Fm.hid; rw [f1, hex]; rfl
          have hl63 : (dig B32 (2 ^ 63)).length ≤ 2 := dig_le_pow (n := 64) (by omega) (by omega)
          by_cases h0 : x = 2 ^ 63
          · have hD : f.dec g e x = ⟨3, 0, 0⟩ := by unfold Fm.dec; rw [if_neg f2, if_pos ⟨f1, hl⟩, if_pos (.inr ⟨hex, h0⟩)]
            have hcm : cmpN x (2 ^ 63) = 0 := by rw [h0]; unfold cmpN; simp
            rw [hD]
            generalize 2 ^ f.E = P at *
            have I := Inv.start w [ownF base .u32 91 p c (dig B32 x)] ⟨hp, True.intro⟩
            refine zstart [.v (.agg #[.int .i64 ((f.size : Nat) : Int), .int .i64 ((f.E : Nat) : Int), .int .i64 ((f.F : Nat) : Int), .int .i64 f.g.rad, .int .i64 f.g.digs, .int .i64 f.g.lo, .int .i64 f.g.hi, .bool f.g.grad, .bool f.hid, .bool f.inf, .bool f.res, .func (.func (ordF f)) #[] #[]]), .v (.agg #[.bool g, .int .i64 ((e : Nat) : Int), .slice p (dig B32 x).length c])] I Tryd.func107 ?_
            refine zbin I 11 _ (fun _ _ _ _ _ => bin_shl .i64 (1) .i64 ((f.E : Nat) : Int) (((P : Nat) : Int)) (by omega) ((HSH.out))) fun Al W I => ?_
            refine zi I 12 .i64 (((P : Nat) : Int) - 1) (((P - 1 : Nat) : Int)) ((by rw [show (((P : Nat) : Int) - 1) = ((P - 1 : Nat) : Int) by omega]; exact IntWalk.i64_in _ (by omega))) fun Al W I => ?_
            refine zb I 20 (f.g.rad == 16) (false) (hr) fun Al W I => ?_
            refine zb I 29 (f.inf) (true) (hinf) fun Al W I => ?_
            refine zb I 34 (((e : Nat) : Int) == ((P - 1 : Nat) : Int)) (true) (beq_iff_eq.2 (by omega)) fun Al W I => ?_
            refine zd [] I fun Al W I => ?_
            refine zk [0] I fun I => ?_
            refine zkb 1 I (f.hid) (false) (hhid) fun I => ?_
            refine zk [2, 3, 4, 5, 6, 7, 8, 9] I fun I => ?_
            refine zkb 10 I (f.hid) (false) (hhid) fun I => ?_
            refine zk [11, 12, 13, 14] I fun I => ?_
            refine zo 15 I (fun I => ?_)
            refine zg I (fun Al W I => have hz := I.bel.size; two_any 63 (2 ^ 63) 63 W (by omega) rfl rfl) fun Al V Iv hz hB K k => ?_
            rintro _ W ⟨p51, c51, rfl, o51, hb⟩
            refine ⟨_, rfl, k _ _ hb fun I => ?_⟩
            clear k K
            have I := I.own o51
            refine zo 16 I (fun I => ?_)
            refine zg I (fun Al W I => have hz := I.bel.size; cmp_any p p51 _ _ c c51 x (2 ^ 63) W I.fa.2.1.rd I.fa.1.rd rfl rfl (by omega) (by omega)) fun Al V Iv hz hB K k => ?_
            rintro _ W ⟨rfl, hb⟩
            refine ⟨_, rfl, k _ _ hb fun I => ?_⟩
            clear k K
            refine zkb 17 I ((cmpN x (2 ^ 63)) == 0) (true) (by rw [hcm]; rfl) fun I => ?_
            refine zk [18, 19] I fun I => ?_
            exact zret I fun Al W I => givesC_none (k := 3) rfl I.below
          · have hD : f.dec g e x = ⟨4, 0, 0⟩ := by unfold Fm.dec; rw [if_neg f2, if_pos ⟨f1, hl⟩, if_neg (by simp [hex]; omega)]
            have hcm : (cmpN x (2 ^ 63) == 0) = false := by rw [beq_eq_false_iff_ne]; intro h; exact h0 (cmpN_zero h)
            rw [hD]
            generalize 2 ^ f.E = P at *
            have I := Inv.start w [ownF base .u32 91 p c (dig B32 x)] ⟨hp, True.intro⟩
            refine zstart [.v (.agg #[.int .i64 ((f.size : Nat) : Int), .int .i64 ((f.E : Nat) : Int), .int .i64 ((f.F : Nat) : Int), .int .i64 f.g.rad, .int .i64 f.g.digs, .int .i64 f.g.lo, .int .i64 f.g.hi, .bool f.g.grad, .bool f.hid, .bool f.inf, .bool f.res, .func (.func (ordF f)) #[] #[]]), .v (.agg #[.bool g, .int .i64 ((e : Nat) : Int), .slice p (dig B32 x).length c])] I Tryd.func107 ?_
            refine zbin I 11 _ (fun _ _ _ _ _ => bin_shl .i64 (1) .i64 ((f.E : Nat) : Int) (((P : Nat) : Int)) (by omega) ((HSH.out))) fun Al W I => ?_
            refine zi I 12 .i64 (((P : Nat) : Int) - 1) (((P - 1 : Nat) : Int)) ((by rw [show (((P : Nat) : Int) - 1) = ((P - 1 : Nat) : Int) by omega]; exact IntWalk.i64_in _ (by omega))) fun Al W I => ?_
            refine zb I 20 (f.g.rad == 16) (false) (hr) fun Al W I => ?_
            refine zb I 29 (f.inf) (true) (hinf) fun Al W I => ?_
            refine zb I 34 (((e : Nat) : Int) == ((P - 1 : Nat) : Int)) (true) (beq_iff_eq.2 (by omega)) fun Al W I => ?_
            refine zd [] I fun Al W I => ?_
            refine zk [0] I fun I => ?_
            refine zkb 1 I (f.hid) (false) (hhid) fun I => ?_
            refine zk [2, 3, 4, 5, 6, 7, 8, 9] I fun I => ?_
            refine zkb 10 I (f.hid) (false) (hhid) fun I => ?_
            refine zk [11, 12, 13, 14] I fun I => ?_
            refine zo 15 I (fun I => ?_)
            refine zg I (fun Al W I => have hz := I.bel.size; two_any 63 (2 ^ 63) 63 W (by omega) rfl rfl) fun Al V Iv hz hB K k => ?_
            rintro _ W ⟨p51, c51, rfl, o51, hb⟩
            refine ⟨_, rfl, k _ _ hb fun I => ?_⟩
            clear k K
            have I := I.own o51
            refine zo 16 I (fun I => ?_)
            refine zg I (fun Al W I => have hz := I.bel.size; cmp_any p p51 _ _ c c51 x (2 ^ 63) W I.fa.2.1.rd I.fa.1.rd rfl rfl (by omega) (by omega)) fun Al V Iv hz hB K k => ?_
            rintro _ W ⟨rfl, hb⟩
            refine ⟨_, rfl, k _ _ hb fun I => ?_⟩
            clear k K
            refine zkb 17 I ((cmpN x (2 ^ 63)) == 0) (false) (hcm) fun I => ?_
            refine zk [18, 19] I fun I => ?_
            exact zret I fun Al W I => givesC_none (k := 4) rfl I.below
      · by_cases h0 : e = 0
        · have hD : f.dec g e x = ⟨2, x, f.g.lo⟩ := by unfold Fm.dec; rw [if_neg f2, if_neg (fun h => hl h.2), if_neg (by omega), if_pos h0]
          rw [hD]
          generalize 2 ^ f.E = P at *
          have I := Inv.start w [ownF base .u32 91 p c (dig B32 x)] ⟨hp, True.intro⟩
          refine zstart [.v (.agg #[.int .i64 ((f.size : Nat) : Int), .int .i64 ((f.E : Nat) : Int), .int .i64 ((f.F : Nat) : Int), .int .i64 f.g.rad, .int .i64 f.g.digs, .int .i64 f.g.lo, .int .i64 f.g.hi, .bool f.g.grad, .bool f.hid, .bool f.inf, .bool f.res, .func (.func (ordF f)) #[] #[]]), .v (.agg #[.bool g, .int .i64 ((e : Nat) : Int), .slice p (dig B32 x).length c])] I Tryd.func107 ?_
          refine zbin I 11 _ (fun _ _ _ _ _ => bin_shl .i64 (1) .i64 ((f.E : Nat) : Int) (((P : Nat) : Int)) (by omega) ((HSH.out))) fun Al W I => ?_
          refine zi I 12 .i64 (((P : Nat) : Int) - 1) (((P - 1 : Nat) : Int)) ((by rw [show (((P : Nat) : Int) - 1) = ((P - 1 : Nat) : Int) by omega]; exact IntWalk.i64_in _ (by omega))) fun Al W I => ?_
          refine zb I 20 (f.g.rad == 16) (false) (hr) fun Al W I => ?_
          refine zb I 29 (f.inf) (true) (hinf) fun Al W I => ?_
          refine zb I 34 (((e : Nat) : Int) == ((P - 1 : Nat) : Int)) (false) (beq_eq_false_iff_ne.2 (by omega)) fun Al W I => ?_
          refine zb I 59 (((e : Nat) : Int) == 0) (true) (beq_iff_eq.2 (by omega)) fun Al W I => ?_
          refine zb I 62 (f.res) (false) (hres) fun Al W I => ?_
          refine zb I 69 (((e : Nat) : Int) == 0) (true) (beq_iff_eq.2 (by omega)) fun Al W I => ?_
          refine zd [] I fun Al W I => ?_
          refine zk [0, 1, 2, 3, 4, 5] I fun I => ?_
          exact zret I fun Al W I => ⟨p, c, rfl, I.fa.1, I.below⟩
        · by_cases hex : f.ext = false
          · have hhid : f.hid = true := by unfold Fm.hid; rw [f1, hex]; rfl
            have hD : f.dec g e x = ⟨2, x + 2 ^ f.F, f.g.lo + e - 1⟩ := by unfold Fm.dec; rw [if_neg f2, if_neg (fun h => hl h.2), if_neg (by omega), if_neg h0, if_pos hex]
            have hlF : (dig B32 (2 ^ f.F)).length ≤ 3 := dig_le_pow (n := f.F + 1) (Nat.pow_lt_pow_right (by omega) (by omega)) (by omega)
            rw [hD]
            generalize 2 ^ f.E = P at *
            have I := Inv.start w [ownF base .u32 91 p c (dig B32 x)] ⟨hp, True.intro⟩
            refine zstart [.v (.agg #[.int .i64 ((f.size : Nat) : Int), .int .i64 ((f.E : Nat) : Int), .int .i64 ((f.F : Nat) : Int), .int .i64 f.g.rad, .int .i64 f.g.digs, .int .i64 f.g.lo, .int .i64 f.g.hi, .bool f.g.grad, .bool f.hid, .bool f.inf, .bool f.res, .func (.func (ordF f)) #[] #[]]), .v (.agg #[.bool g, .int .i64 ((e : Nat) : Int), .slice p (dig B32 x).length c])] I Tryd.func107 ?_
            refine zbin I 11 _ (fun _ _ _ _ _ => bin_shl .i64 (1) .i64 ((f.E : Nat) : Int) (((P : Nat) : Int)) (by omega) ((HSH.out))) fun Al W I => ?_
            refine zi I 12 .i64 (((P : Nat) : Int) - 1) (((P - 1 : Nat) : Int)) ((by rw [show (((P : Nat) : Int) - 1) = ((P - 1 : Nat) : Int) by omega]; exact IntWalk.i64_in _ (by omega))) fun Al W I => ?_
            refine zb I 20 (f.g.rad == 16) (false) (hr) fun Al W I => ?_
            refine zb I 29 (f.inf) (true) (hinf) fun Al W I => ?_
            refine zb I 34 (((e : Nat) : Int) == ((P - 1 : Nat) : Int)) (false) (beq_eq_false_iff_ne.2 (by omega)) fun Al W I => ?_
            refine zb I 59 (((e : Nat) : Int) == 0) (false) (beq_eq_false_iff_ne.2 (by omega)) fun Al W I => ?_
            refine zb I 69 (((e : Nat) : Int) == 0) (false) (beq_eq_false_iff_ne.2 (by omega)) fun Al W I => ?_
            refine zb I 75 (f.hid) (true) (hhid) fun Al W I => ?_
            refine zd [] I fun Al W I => ?_
            refine zk [0, 1, 2, 3, 6, 7, 8] I fun I => ?_
            refine zki 9 I .i64 (f.g.lo + ((e : Nat) : Int)) (f.g.lo + ((e : Nat) : Int)) (IntWalk.i64_in _ (by omega)) fun I => ?_
            refine zki 10 I .i64 ((f.g.lo + ((e : Nat) : Int)) - 1) ((f.g.lo + ((e : Nat) : Int)) - 1) (IntWalk.i64_in _ (by omega)) fun I => ?_
            refine zo 4 I (fun I => ?_)
            refine zg I (fun Al W I => have hz := I.bel.size; two_any f.F (2 ^ f.F) _ W (by omega) rfl rfl) fun Al V Iv hz hB K k => ?_
            rintro _ W ⟨p80, c80, rfl, o80, hb⟩
            refine ⟨_, rfl, k _ _ hb fun I => ?_⟩
            clear k K
            have I := I.own o80
            refine zo 5 I (fun I => ?_)
            refine zg I (fun Al W I => have hz := I.bel.size; sadd p p80 _ _ c c80 x (2 ^ f.F) (x + 2 ^ f.F) W I.fa.2.1.rd I.fa.1.rd rfl rfl (by omega) (by omega) rfl) fun Al V Iv hz hB K k => ?_
            rintro _ W ⟨p81, c81, rfl, o81, hb⟩
            refine ⟨_, rfl, k _ _ hb fun I => ?_⟩
            clear k K
            have I := I.own o81
            refine zk [11, 12, 13] I fun I => ?_
            exact zret I fun Al W I => ⟨p81, c81, rfl, I.fa.1.mono (by omega), I.below⟩
          · have hex : f.ext = true := by simpa using hex
            have hhid : f.hid = false := by unfold Fm.hid; rw [f1, hex]; rfl
            by_cases h63 : x < 2 ^ 63
            · have hD : f.dec g e x = ⟨4, 0, 0⟩ := by unfold Fm.dec; rw [if_neg f2, if_neg (fun h => hl h.2), if_neg (by omega), if_neg h0, if_neg (by simp [hex]), if_pos h63]
              have hbl : blen x < 64 := by have := (blen_le x 63).2 h63; omega
              rw [hD]
              generalize 2 ^ f.E = P at *
              have I := Inv.start w [ownF base .u32 91 p c (dig B32 x)] ⟨hp, True.intro⟩
              refine zstart [.v (.agg #[.int .i64 ((f.size : Nat) : Int), .int .i64 ((f.E : Nat) : Int), .int .i64 ((f.F : Nat) : Int), .int .i64 f.g.rad, .int .i64 f.g.digs, .int .i64 f.g.lo, .int .i64 f.g.hi, .bool f.g.grad, .bool f.hid, .bool f.inf, .bool f.res, .func (.func (ordF f)) #[] #[]]), .v (.agg #[.bool g, .int .i64 ((e : Nat) : Int), .slice p (dig B32 x).length c])] I Tryd.func107 ?_
              refine zbin I 11 _ (fun _ _ _ _ _ => bin_shl .i64 (1) .i64 ((f.E : Nat) : Int) (((P : Nat) : Int)) (by omega) ((HSH.out))) fun Al W I => ?_
              refine zi I 12 .i64 (((P : Nat) : Int) - 1) (((P - 1 : Nat) : Int)) ((by rw [show (((P : Nat) : Int) - 1) = ((P - 1 : Nat) : Int) by omega]; exact IntWalk.i64_in _ (by omega))) fun Al W I => ?_
              refine zb I 20 (f.g.rad == 16) (false) (hr) fun Al W I => ?_
              refine zb I 29 (f.inf) (true) (hinf) fun Al W I => ?_
              refine zb I 34 (((e : Nat) : Int) == ((P - 1 : Nat) : Int)) (false) (beq_eq_false_iff_ne.2 (by omega)) fun Al W I => ?_
              refine zb I 59 (((e : Nat) : Int) == 0) (false) (beq_eq_false_iff_ne.2 (by omega)) fun Al W I => ?_
              refine zb I 69 (((e : Nat) : Int) == 0) (false) (beq_eq_false_iff_ne.2 (by omega)) fun Al W I => ?_
              refine zb I 75 (f.hid) (false) (hhid) fun Al W I => ?_
              refine zg I (fun Al W I => have hz := I.bel.size; stay (len_any p _ c x W I.fa.1.rd rfl (by omega))) fun Al V Iv hz hB K k => ?_
              rintro _ W ⟨rfl, hb⟩
              refine ⟨_, rfl, k _ _ hb fun I => ?_⟩
              clear k K
              refine zb I 91 (decide (((blen x : Nat) : Int) < 64)) (true) (decide_eq_true (by omega)) fun Al W I => ?_
              exact zret I fun Al W I => givesC_none (k := 4) rfl I.below
            · have hD : f.dec g e x = ⟨2, x, f.g.lo + e - 1⟩ := by unfold Fm.dec; rw [if_neg f2, if_neg (fun h => hl h.2), if_neg (by omega), if_neg h0, if_neg (by simp [hex]), if_neg h63]
              have hbl : 64 ≤ blen x := by have := (blen_le x 63).1; omega
              rw [hD]
              generalize 2 ^ f.E = P at *
              have I := Inv.start w [ownF base .u32 91 p c (dig B32 x)] ⟨hp, True.intro⟩
              refine zstart [.v (.agg #[.int .i64 ((f.size : Nat) : Int), .int .i64 ((f.E : Nat) : Int), .int .i64 ((f.F : Nat) : Int), .int .i64 f.g.rad, .int .i64 f.g.digs, .int .i64 f.g.lo, .int .i64 f.g.hi, .bool f.g.grad, .bool f.hid, .bool f.inf, .bool f.res, .func (.func (ordF f)) #[] #[]]), .v (.agg #[.bool g, .int .i64 ((e : Nat) : Int), .slice p (dig B32 x).length c])] I Tryd.func107 ?_
              refine zbin I 11 _ (fun _ _ _ _ _ => bin_shl .i64 (1) .i64 ((f.E : Nat) : Int) (((P : Nat) : Int)) (by omega) ((HSH.out))) fun Al W I => ?_
              refine zi I 12 .i64 (((P : Nat) : Int) - 1) (((P - 1 : Nat) : Int)) ((by rw [show (((P : Nat) : Int) - 1) = ((P - 1 : Nat) : Int) by omega]; exact IntWalk.i64_in _ (by omega))) fun Al W I => ?_
              refine zb I 20 (f.g.rad == 16) (false) (hr) fun Al W I => ?_
              refine zb I 29 (f.inf) (true) (hinf) fun Al W I => ?_
              refine zb I 34 (((e : Nat) : Int) == ((P - 1 : Nat) : Int)) (false) (beq_eq_false_iff_ne.2 (by omega)) fun Al W I => ?_
              refine zb I 59 (((e : Nat) : Int) == 0) (false) (beq_eq_false_iff_ne.2 (by omega)) fun Al W I => ?_
              refine zb I 69 (((e : Nat) : Int) == 0) (false) (beq_eq_false_iff_ne.2 (by omega)) fun Al W I => ?_
              refine zb I 75 (f.hid) (false) (hhid) fun Al W I => ?_
              refine zg I (fun Al W I => have hz := I.bel.size; stay (len_any p _ c x W I.fa.1.rd rfl (by omega))) fun Al V Iv hz hB K k => ?_
              rintro _ W ⟨rfl, hb⟩
              refine ⟨_, rfl, k _ _ hb fun I => ?_⟩
              clear k K
              refine zb I 91 (decide (((blen x : Nat) : Int) < 64)) (false) (decide_eq_false (by omega)) fun Al W I => ?_
              refine zd [] I fun Al W I => ?_
              refine zk [0, 1, 2, 3, 4] I fun I => ?_
              refine zki 5 I .i64 (f.g.lo + ((e : Nat) : Int)) (f.g.lo + ((e : Nat) : Int)) (IntWalk.i64_in _ (by omega)) fun I => ?_
              refine zki 6 I .i64 ((f.g.lo + ((e : Nat) : Int)) - 1) ((f.g.lo + ((e : Nat) : Int)) - 1) (IntWalk.i64_in _ (by omega)) fun I => ?_
              refine zk [7, 8, 9] I fun I => ?_
              exact zret I fun Al W I => ⟨p, c, rfl, I.fa.1, I.below⟩
    · have f3 : f.fam = 3 := by have := G.fam; omega
      have hex : f.ext = false := by
        cases hh : f.ext with
        | false => rfl
        | true => exact absurd (G.ext hh).1 f1
      have hinf : f.inf = false := by unfold Fm.inf; rw [f3]; rfl
      have hres : f.res = true := by unfold Fm.res; rw [f3]; rfl
      have hhid : f.hid = true := by unfold Fm.hid; rw [f3, hex]; rfl
      by_cases h0 : e = 0
      · cases g with
        | true =>
          have hD : f.dec true e x = ⟨5, 0, 0⟩ := by unfold Fm.dec; rw [if_neg f2, if_neg (fun h => f1 h.1), if_pos ⟨f3, h0⟩, if_pos rfl]
          rw [hD]
          generalize 2 ^ f.E = P at *
          have I := Inv.start w [] True.intro
          refine zstart [.v (.agg #[.int .i64 ((f.size : Nat) : Int), .int .i64 ((f.E : Nat) : Int), .int .i64 ((f.F : Nat) : Int), .int .i64 f.g.rad, .int .i64 f.g.digs, .int .i64 f.g.lo, .int .i64 f.g.hi, .bool f.g.grad, .bool f.hid, .bool f.inf, .bool f.res, .func (.func (ordF f)) #[] #[]]), .v (.agg #[.bool true, .int .i64 ((e : Nat) : Int), .slice p (dig B32 x).length c])] I Tryd.func107 ?_
          refine zbin I 11 _ (fun _ _ _ _ _ => bin_shl .i64 (1) .i64 ((f.E : Nat) : Int) (((P : Nat) : Int)) (by omega) ((HSH.out))) fun Al W I => ?_
          refine zi I 12 .i64 (((P : Nat) : Int) - 1) (((P - 1 : Nat) : Int)) ((by rw [show (((P : Nat) : Int) - 1) = ((P - 1 : Nat) : Int) by omega]; exact IntWalk.i64_in _ (by omega))) fun Al W I => ?_
          refine zb I 20 (f.g.rad == 16) (false) (hr) fun Al W I => ?_
          refine zb I 29 (f.inf) (false) (hinf) fun Al W I => ?_
          refine zb I 59 (((e : Nat) : Int) == 0) (true) (beq_iff_eq.2 (by omega)) fun Al W I => ?_
          refine zb I 62 (f.res) (true) (hres) fun Al W I => ?_
          exact zret I fun Al W I => givesC_none (k := 5) rfl I.below
        | false =>
          have hD : f.dec false e x = ⟨1, 0, 0⟩ := by unfold Fm.dec; rw [if_neg f2, if_neg (fun h => f1 h.1), if_pos ⟨f3, h0⟩, if_neg (by simp)]
          rw [hD]
          generalize 2 ^ f.E = P at *
          have hT3 : SxOne Tryd.prog 3 := sxOne_of (by kernel_rfl) (by kernel_rfl)
          have hT4 : SxOne Tryd.prog 4 := sxOne_of (by kernel_rfl) (by kernel_rfl)
          refine calls_of_wp Tryd.func107 rfl ?_
          refine sx_frame (a' := ⟨((.agg #[.int .i64 ((f.size : Nat) : Int), .int .i64 ((f.E : Nat) : Int), .int .i64 ((f.F : Nat) : Int), .int .i64 f.g.rad, .int .i64 f.g.digs, .int .i64 f.g.lo, .int .i64 f.g.hi, .bool f.g.grad, .bool f.hid, .bool f.inf, .bool f.res, .func (.func (ordF f)) #[] #[]]) :: (.agg #[.bool false, .int .i64 ((e : Nat) : Int), .slice p (dig B32 x).length c]) :: us 97 []).toArray, []⟩) (by kernel_rfl) ?_
          refine ye ?_
          refine yw 0 rfl 2 #[.int .i64 ((f.size : Nat) : Int), .int .i64 ((f.E : Nat) : Int), .int .i64 ((f.F : Nat) : Int), .int .i64 f.g.rad, .int .i64 f.g.digs, .int .i64 f.g.lo, .int .i64 f.g.hi, .bool f.g.grad, .bool f.hid, .bool f.inf, .bool f.res, .func (.func (ordF f)) #[] #[]] 116 (fun V1 hbV1 hzV1 b2 => ?_)
          refine yw 0 rfl 3 #[.bool false, .int .i64 ((e : Nat) : Int), .slice p (dig B32 x).length c] 137 (fun V2 hbV2 hzV2 b3 => ?_)
          refine yzt 3 ?_
          refine ye ?_
          replace b2 := (b2.past hbV2)
          refine yl 1 rfl 10 b2 hT3 1 ?_
          refine yv 0 rfl 11 (.int .i64 ((P : Nat) : Int)) ?_ (exec_shl (X := (1)) (Y := ((f.E : Nat) : Int)) (k2 := .i64) ((P : Nat) : Int) (by kernel_rfl) (by kernel_rfl) (by omega) ((HSH.out)))
          refine ya 0 rfl 12 .i64 (((P : Nat) : Int) - 1) (((P - 1 : Nat) : Int)) ((by rw [show (((P : Nat) : Int) - 1) = ((P - 1 : Nat) : Int) by omega]; exact IntWalk.i64_in _ (by omega))) ?_
          refine yzt 1 ?_
          refine ye ?_
          refine yl 2 rfl 15 b2 hT3 5 ?_
          refine yzt 1 ?_
          refine wp_seq ?_
          refine wp_block ?_
          refine ye ?_
          refine yl 2 rfl 19 b2 hT3 3 ?_
          refine yb 0 rfl 20 (f.g.rad == 16) (false) (hr) ?_
          refine yzt 1 ?_
          refine yF ?_
          refine ye ?_
          refine ylb 1 rfl 29 b2 hT4 9 (f.inf) false (hinf) ?_
          refine yzt 7 ?_
          refine yF ?_
          refine ye ?_
          refine yl 1 rfl 58 b3 hT3 1 ?_
          refine yb 0 rfl 59 (((e : Nat) : Int) == 0) (true) (beq_iff_eq.2 (by omega)) ?_
          refine ylb 2 rfl 62 b2 hT4 10 (f.res) true (hres) ?_
          refine yzt 2 ?_
          refine yT ?_
          refine wp_seq ?_
          refine ye ?_
          refine yl 1 rfl 65 b3 hT4 0 ?_
          refine yzt 0 ?_
          refine yF ?_
          refine wp_skip ?_
          refine sx_then ?_
          refine yq ?_
          refine wp_ret ?_
          repeat (first | with_reducible refine sx_thenret ?_ | with_reducible refine sx_blockret ?_)
          refine yret (.tuple #[.int .i64 1, .slice none 0 0, .int .i64 0]) (res3 Tryd.results107 rvt rvt rvt) ?_
          exact givesC_none (k := 1) rfl (bthru hbV1 hbV2)
      · have hD : f.dec g e x = ⟨2, x + 2 ^ f.F, f.g.lo + e - 1⟩ := by unfold Fm.dec; rw [if_neg f2, if_neg (fun h => f1 h.1), if_neg (fun h => h0 h.2), if_neg h0, if_pos hex]
        have hlF : (dig B32 (2 ^ f.F)).length ≤ 3 := dig_le_pow (n := f.F + 1) (Nat.pow_lt_pow_right (by omega) (by omega)) (by omega)
        rw [hD]
        generalize 2 ^ f.E = P at *
        have I := Inv.start w [ownF base .u32 91 p c (dig B32 x)] ⟨hp, True.intro⟩
        refine zstart [.v (.agg #[.int .i64 ((f.size : Nat) : Int), .int .i64 ((f.E : Nat) : Int), .int .i64 ((f.F : Nat) : Int), .int .i64 f.g.rad, .int .i64 f.g.digs, .int .i64 f.g.lo, .int .i64 f.g.hi, .bool f.g.grad, .bool f.hid, .bool f.inf, .bool f.res, .func (.func (ordF f)) #[] #[]]), .v (.agg #[.bool g, .int .i64 ((e : Nat) : Int), .slice p (dig B32 x).length c])] I Tryd.func107 ?_
        refine zbin I 11 _ (fun _ _ _ _ _ => bin_shl .i64 (1) .i64 ((f.E : Nat) : Int) (((P : Nat) : Int)) (by omega) ((HSH.out))) fun Al W I => ?_
        refine zi I 12 .i64 (((P : Nat) : Int) - 1) (((P - 1 : Nat) : Int)) ((by rw [show (((P : Nat) : Int) - 1) = ((P - 1 : Nat) : Int) by omega]; exact IntWalk.i64_in _ (by omega))) fun Al W I => ?_
        refine zb I 20 (f.g.rad == 16) (false) (hr) fun Al W I => ?_
        refine zb I 29 (f.inf) (false) (hinf) fun Al W I => ?_
        refine zb I 59 (((e : Nat) : Int) == 0) (false) (beq_eq_false_iff_ne.2 (by omega)) fun Al W I => ?_
        refine zb I 69 (((e : Nat) : Int) == 0) (false) (beq_eq_false_iff_ne.2 (by omega)) fun Al W I => ?_
        refine zb I 75 (f.hid) (true) (hhid) fun Al W I => ?_
        refine zd [] I fun Al W I => ?_
        refine zk [0, 1, 2, 3, 6, 7, 8] I fun I => ?_
        refine zki 9 I .i64 (f.g.lo + ((e : Nat) : Int)) (f.g.lo + ((e : Nat) : Int)) (IntWalk.i64_in _ (by omega)) fun I => ?_
        refine zki 10 I .i64 ((f.g.lo + ((e : Nat) : Int)) - 1) ((f.g.lo + ((e : Nat) : Int)) - 1) (IntWalk.i64_in _ (by omega)) fun I => ?_
        refine zo 4 I (fun I => ?_)
        refine zg I (fun Al W I => have hz := I.bel.size; two_any f.F (2 ^ f.F) _ W (by omega) rfl rfl) fun Al V Iv hz hB K k => ?_
        rintro _ W ⟨p80, c80, rfl, o80, hb⟩
        refine ⟨_, rfl, k _ _ hb fun I => ?_⟩
        clear k K
        have I := I.own o80
        refine zo 5 I (fun I => ?_)
        refine zg I (fun Al W I => have hz := I.bel.size; sadd p p80 _ _ c c80 x (2 ^ f.F) (x + 2 ^ f.F) W I.fa.2.1.rd I.fa.1.rd rfl rfl (by omega) (by omega) rfl) fun Al V Iv hz hB K k => ?_
        rintro _ W ⟨p81, c81, rfl, o81, hb⟩
        refine ⟨_, rfl, k _ _ hb fun I => ?_⟩
        clear k K
        have I := I.own o81
        refine zk [11, 12, 13] I fun I => ?_
        exact zret I fun Al W I => ⟨p81, c81, rfl, I.fa.1.mono (by omega), I.below⟩

theorem cbare_any (p : Option Addr) (c x : Nat) (pw : Int) (gg : Gd) (base : Nat) (w : World) (hp : Own w base .u32 91 p c (dig B32 x)) (hl : (dig B32 x).length ≤ 1000) (hpw : -100000 ≤ pw ∧ pw ≤ 100000) (hr : gg.rad = 2 ∨ gg.rad = 16) (hT : TabW w) :
    Calls Tryd.prog 108 #[.slice p (dig B32 x).length c, .int .i64 pw, .int .i64 gg.rad] w
      fun en w' => ∃ q d, en = .returned (.tuple #[.slice q (dig B32 (x / 2 ^ (tz x / wid gg * wid gg))).length d, .int .i64 (pw + (tz x / wid gg : Nat))]) ∧ Own w' w.heap.size .u32 91 q d (dig B32 (x / 2 ^ (tz x / wid gg * wid gg))) ∧ Below w.heap.size w w' := by
  have hz := tz_bd x hl
  rcases hr with hr | hr
  · have hw : wid gg = 1 := by unfold wid; rw [hr]; rfl
    rw [hw]
    generalize htz : tz x = z at *
    have HTZ := Lib.hid htz
    clear htz
    have I := Inv.start w [ownF base .u32 91 p c (dig B32 x), tabF] ⟨hp, hT, True.intro⟩
    refine zstart [.v (.slice p (dig B32 x).length c), .v (.int .i64 pw), .v (.int .i64 gg.rad)] I Tryd.func108 ?_
    refine zb I 11 (gg.rad == 16) (false) (by rw [hr]; rfl) fun Al W I => ?_
    refine zg I (fun Al W I => have hz := I.bel.size; stay (zeros_any p _ c x W I.fa.1.rd rfl (by omega) I.fa.2.1)) fun Al V Iv hz hB K k => ?_
    rintro _ W ⟨rfl, hb⟩
    refine ⟨_, rfl, k _ _ hb fun I => ?_⟩
    clear k K
    refine zbin I 15 _ (fun _ _ _ _ _ => bin_quo .i64 ((tz x : Nat) : Int) (1) (((z / 1 : Nat) : Int)) ((by decide)) ((by rw [HTZ.out]; exact (IntWalk.i64_in _ (by simp; omega)).trans (by simp)))) fun Al W I => ?_
    refine zi I 19 .i64 (((z / 1 : Nat) : Int) * 1) (((z / 1 * 1 : Nat) : Int)) (((IntWalk.i64_in _ (by omega)).trans (by omega))) fun Al W I => ?_
    refine zg I (fun Al W I => have hz := I.bel.size; sshr p _ c x (z / 1 * 1) _ _ W I.fa.1.rd rfl (by have := I.fa.1.le_cap; omega) (by omega) (by omega) rfl rfl) fun Al V Iv hz hB K k => ?_
    rintro _ W ⟨p20, c20, rfl, o20, hb⟩
    refine ⟨_, rfl, k _ _ hb fun I => ?_⟩
    clear k K
    have I := I.own o20
    refine zi I 23 .i64 (pw + ((z / 1 : Nat) : Int)) (pw + ((z / 1 : Nat) : Int)) (IntWalk.i64_in _ (by omega)) fun Al W I => ?_
    exact zret I fun Al W I => ⟨p20, c20, rfl, I.fa.1.mono (by omega), I.below⟩
  · have hw : wid gg = 4 := by unfold wid; rw [hr]; rfl
    rw [hw]
    generalize htz : tz x = z at *
    have HTZ := Lib.hid htz
    clear htz
    have I := Inv.start w [ownF base .u32 91 p c (dig B32 x), tabF] ⟨hp, hT, True.intro⟩
    refine zstart [.v (.slice p (dig B32 x).length c), .v (.int .i64 pw), .v (.int .i64 gg.rad)] I Tryd.func108 ?_
    refine zb I 11 (gg.rad == 16) (true) (by rw [hr]; rfl) fun Al W I => ?_
    refine zg I (fun Al W I => have hz := I.bel.size; stay (zeros_any p _ c x W I.fa.1.rd rfl (by omega) I.fa.2.1)) fun Al V Iv hz hB K k => ?_
    rintro _ W ⟨rfl, hb⟩
    refine ⟨_, rfl, k _ _ hb fun I => ?_⟩
    clear k K
    refine zbin I 15 _ (fun _ _ _ _ _ => bin_quo .i64 ((tz x : Nat) : Int) (4) (((z / 4 : Nat) : Int)) ((by decide)) ((by rw [HTZ.out, show ((z : Nat) : Int).tdiv 4 = ((z / 4 : Nat) : Int) by rw [Int.tdiv_eq_ediv_of_nonneg (by omega)]; rfl]; exact IntWalk.i64_in _ (by omega)))) fun Al W I => ?_
    refine zi I 19 .i64 (((z / 4 : Nat) : Int) * 4) (((z / 4 * 4 : Nat) : Int)) (((IntWalk.i64_in _ (by omega)).trans (by omega))) fun Al W I => ?_
    refine zg I (fun Al W I => have hz := I.bel.size; sshr p _ c x (z / 4 * 4) _ _ W I.fa.1.rd rfl (by have := I.fa.1.le_cap; omega) (by omega) (by omega) rfl rfl) fun Al V Iv hz hB K k => ?_
    rintro _ W ⟨p20, c20, rfl, o20, hb⟩
    refine ⟨_, rfl, k _ _ hb fun I => ?_⟩
    clear k K
    have I := I.own o20
    refine zi I 23 .i64 (pw + ((z / 4 : Nat) : Int)) (pw + ((z / 4 : Nat) : Int)) (IntWalk.i64_in _ (by omega)) fun Al W I => ?_
    exact zret I fun Al W I => ⟨p20, c20, rfl, I.fa.1.mono (by omega), I.below⟩
end Go.Proofs.YtcipdimogodndaaDoor

namespace Go.Proofs.YtcipdimogodndaaDoor
open Go.RowKit Go.Slip

def GivesVb (w : World) (v : Vl) (g : Bool) (en : Ending) (w' : World) : Prop :=
  ∃ p c, en = .returned (.tuple #[.agg #[.int .i64 ((v.cls : Nat) : Int), .bool v.neg, .slice p (dig B32 v.d).length c, .int .i64 v.pow], .bool g]) ∧ Own w' w.heap.size .u32 91 p c (dig B32 v.d) ∧ Below w.heap.size w w'
theorem givesVb_of {w w' : World} {v : Vl} {k : Nat} {n g : Bool} {p : Option Addr} {c d base : Nat} {x : Int} {en : Ending} (hv : v = ⟨k, n, d, x⟩) (h : en = .returned (.tuple #[.agg #[.int .i64 ((k : Nat) : Int), .bool n, .slice p (dig B32 d).length c, .int .i64 x], .bool g]))
    (ho : Own w' base .u32 91 p c (dig B32 d)) (hB : w.heap.size ≤ base) (hb : Below w.heap.size w w') : GivesVb w v g en w' := by
  subst hv
  exact ⟨p, c, h, ho.mono hB, hb⟩
theorem givesVb_none {w w' : World} {v : Vl} {k : Nat} {n g : Bool} {en : Ending} (hv : v = ⟨k, n, 0, 0⟩) (h : en = .returned (.tuple #[.agg #[.int .i64 ((k : Nat) : Int), .bool n, .slice none 0 0, .int .i64 0], .bool g])) (hb : Below w.heap.size w w') : GivesVb w v g en w' :=
  givesVb_of (p := none) (c := 0) (base := w.heap.size) hv (by rw [h, dig_zero]; rfl) (by rw [dig_zero]; exact Own.nil _ _ _ _) (Nat.le_refl _) hb

set_option maxRecDepth 100000 in
theorem decode_any (f : Fm) (s : ByteArray) (w : World) (G : GoodF f) (hs : s.size = f.size) (hT : TabW w) :
    Calls Tryd.prog 59 #[.agg #[.int .i64 ((f.size : Nat) : Int), .int .i64 ((f.E : Nat) : Int), .int .i64 ((f.F : Nat) : Int), .int .i64 f.g.rad, .int .i64 f.g.digs, .int .i64 f.g.lo, .int .i64 f.g.hi, .bool f.g.grad, .bool f.hid, .bool f.inf, .bool f.res, .func (.func (ordF f)) #[] #[]], .string s] w (GivesVb w (f.valN (numOfS f s)) (f.neg (numOfS f s))) := by
  have z2 := G.f2
  have he : f.exp (numOfS f s) < 2 ^ f.E := Nat.mod_lt _ (Nat.pow_pos (by omega))
  have hx : f.frac (numOfS f s) < 2 ^ f.F := Nat.mod_lt _ (Nat.pow_pos (by omega))
  have HS := fun W => Lib.hid (split_any f s W G hs)
  unfold Fm.valN Fm.decN
  generalize f.neg (numOfS f s) = g at *
  generalize f.exp (numOfS f s) = e at *
  generalize f.frac (numOfS f s) = x at *
  have HV := fun p c base W h1 h2 => Lib.hid (value_any f g e x p c base W G h1 h2 he hx)
  have k1 := dec_cls f g e x
  have k2 := dec_m (f := f) g (e := e) hx
  have k3 := dec_p G g (frac := x) he
  have k4 := dig_le_pow k2 (k := 3) (by omega)
  have hrd : f.g.rad = 2 ∨ f.g.rad = 16 := by have := G.rad; split at this <;> omega
  clear k2
  generalize f.dec g e x = D at *
  obtain ⟨k, m, pw⟩ := D
  simp only at k1 k3 k4
  have hm0 := dig_len_zero B32_two m
  rcases k1 with rfl | rfl | rfl | rfl | rfl
  · have hv : f.vl g ⟨1, m, pw⟩ = ⟨1, g, 0, 0⟩ := by unfold Fm.vl Dc.c; simp
    have I := Inv.start w [tabF] ⟨hT, True.intro⟩
    refine zstart [.v (.agg #[.int .i64 ((f.size : Nat) : Int), .int .i64 ((f.E : Nat) : Int), .int .i64 ((f.F : Nat) : Int), .int .i64 f.g.rad, .int .i64 f.g.digs, .int .i64 f.g.lo, .int .i64 f.g.hi, .bool f.g.grad, .bool f.hid, .bool f.inf, .bool f.res, .func (.func (ordF f)) #[] #[]]), .v (.string s)] I Tryd.func59 ?_
    refine zg I (fun Al W I => (HS W).out) fun Al V Iv hz hB K k => ?_
    rintro _ W ⟨p13, c13, rfl, o13, hb⟩
    refine ⟨_, rfl, k _ _ hb fun I => ?_⟩
    clear k K
    have I := I.own o13
    refine zg I (fun Al W I => have hz := I.bel.size; (HV p13 c13 _ W I.fa.1 (by omega)).out) fun Al V Iv hz hB K k => ?_
    rintro _ W ⟨p17, c17, rfl, o17, hb⟩
    refine ⟨_, rfl, k _ _ hb fun I => ?_⟩
    clear k K
    have I := I.own o17
    refine zd [1] I fun Al W I => ?_
    refine zk [0, 1, 2] I fun I => ?_
    refine zo 3 I (fun I => ?_)
    refine zn I fun Al W I => ?_
    refine zk [4] I fun I => ?_
    exact zret I fun Al W I => givesVb_none hv rfl I.below
  · by_cases h0 : m = 0
    · have hv : f.vl g ⟨2, m, pw⟩ = ⟨1, g, 0, 0⟩ := by unfold Fm.vl Dc.c; simp [h0]
      have I := Inv.start w [tabF] ⟨hT, True.intro⟩
      refine zstart [.v (.agg #[.int .i64 ((f.size : Nat) : Int), .int .i64 ((f.E : Nat) : Int), .int .i64 ((f.F : Nat) : Int), .int .i64 f.g.rad, .int .i64 f.g.digs, .int .i64 f.g.lo, .int .i64 f.g.hi, .bool f.g.grad, .bool f.hid, .bool f.inf, .bool f.res, .func (.func (ordF f)) #[] #[]]), .v (.string s)] I Tryd.func59 ?_
      refine zg I (fun Al W I => (HS W).out) fun Al V Iv hz hB K k => ?_
      rintro _ W ⟨p13, c13, rfl, o13, hb⟩
      refine ⟨_, rfl, k _ _ hb fun I => ?_⟩
      clear k K
      have I := I.own o13
      refine zg I (fun Al W I => have hz := I.bel.size; (HV p13 c13 _ W I.fa.1 (by omega)).out) fun Al V Iv hz hB K k => ?_
      rintro _ W ⟨p17, c17, rfl, o17, hb⟩
      refine ⟨_, rfl, k _ _ hb fun I => ?_⟩
      clear k K
      have I := I.own o17
      refine zb I 28 ((((dig B32 m).length : Nat) : Int) == 0) (true) (beq_iff_eq.2 (by omega)) fun Al W I => ?_
      refine zd [1] I fun Al W I => ?_
      refine zk [0, 1, 2] I fun I => ?_
      refine zo 3 I (fun I => ?_)
      refine zn I fun Al W I => ?_
      refine zk [4] I fun I => ?_
      exact zret I fun Al W I => givesVb_none hv rfl I.below
    · have hv : f.vl g ⟨2, m, pw⟩ = ⟨2, g, m / 2 ^ (tz m / wid f.g * wid f.g), pw + (tz m / wid f.g : Nat)⟩ := by unfold Fm.vl Dc.c; simp [h0]
      have HB := fun p c base W h1 hT => Lib.hid (cbare_any p c m pw f.g base W h1 (by omega) (by omega) hrd hT)
      generalize m / 2 ^ (tz m / wid f.g * wid f.g) = mm at *
      generalize pw + ((tz m / wid f.g : Nat) : Int) = pp at *
      have I := Inv.start w [tabF] ⟨hT, True.intro⟩
      refine zstart [.v (.agg #[.int .i64 ((f.size : Nat) : Int), .int .i64 ((f.E : Nat) : Int), .int .i64 ((f.F : Nat) : Int), .int .i64 f.g.rad, .int .i64 f.g.digs, .int .i64 f.g.lo, .int .i64 f.g.hi, .bool f.g.grad, .bool f.hid, .bool f.inf, .bool f.res, .func (.func (ordF f)) #[] #[]]), .v (.string s)] I Tryd.func59 ?_
      refine zg I (fun Al W I => (HS W).out) fun Al V Iv hz hB K k => ?_
      rintro _ W ⟨p13, c13, rfl, o13, hb⟩
      refine ⟨_, rfl, k _ _ hb fun I => ?_⟩
      clear k K
      have I := I.own o13
      refine zg I (fun Al W I => have hz := I.bel.size; (HV p13 c13 _ W I.fa.1 (by omega)).out) fun Al V Iv hz hB K k => ?_
      rintro _ W ⟨p17, c17, rfl, o17, hb⟩
      refine ⟨_, rfl, k _ _ hb fun I => ?_⟩
      clear k K
      have I := I.own o17
      refine zb I 28 ((((dig B32 m).length : Nat) : Int) == 0) (false) (beq_eq_false_iff_ne.2 (by omega)) fun Al W I => ?_
      refine zg I (fun Al W I => (HB p17 c17 _ W I.fa.1 I.fa.2.2.1).out) fun Al V Iv hz hB K k => ?_
      rintro _ W ⟨q44, d44, rfl, o44, hb⟩
      refine ⟨_, rfl, k _ _ hb fun I => ?_⟩
      clear k K
      have I := I.own o44
      refine zd [1] I fun Al W I => ?_
      refine zk [0, 1, 2] I fun I => ?_
      refine zo 3 I (fun I => ?_)
      refine zn I fun Al W I => ?_
      refine zk [4] I fun I => ?_
      exact zret I fun Al W I => givesVb_of hv rfl I.fa.1 (by omega) I.below
  · have hv : f.vl g ⟨3, m, pw⟩ = ⟨3, g, 0, 0⟩ := by unfold Fm.vl Dc.c; simp
    have I := Inv.start w [tabF] ⟨hT, True.intro⟩
    refine zstart [.v (.agg #[.int .i64 ((f.size : Nat) : Int), .int .i64 ((f.E : Nat) : Int), .int .i64 ((f.F : Nat) : Int), .int .i64 f.g.rad, .int .i64 f.g.digs, .int .i64 f.g.lo, .int .i64 f.g.hi, .bool f.g.grad, .bool f.hid, .bool f.inf, .bool f.res, .func (.func (ordF f)) #[] #[]]), .v (.string s)] I Tryd.func59 ?_
    refine zg I (fun Al W I => (HS W).out) fun Al V Iv hz hB K k => ?_
    rintro _ W ⟨p13, c13, rfl, o13, hb⟩
    refine ⟨_, rfl, k _ _ hb fun I => ?_⟩
    clear k K
    have I := I.own o13
    refine zg I (fun Al W I => have hz := I.bel.size; (HV p13 c13 _ W I.fa.1 (by omega)).out) fun Al V Iv hz hB K k => ?_
    rintro _ W ⟨p17, c17, rfl, o17, hb⟩
    refine ⟨_, rfl, k _ _ hb fun I => ?_⟩
    clear k K
    have I := I.own o17
    refine zd [1] I fun Al W I => ?_
    refine zk [0, 1, 2] I fun I => ?_
    refine zo 3 I (fun I => ?_)
    refine zn I fun Al W I => ?_
    refine zk [4] I fun I => ?_
    exact zret I fun Al W I => givesVb_none hv rfl I.below
  · have hv : f.vl g ⟨4, m, pw⟩ = ⟨4, false, 0, 0⟩ := by unfold Fm.vl Dc.c; simp
    have I := Inv.start w [tabF] ⟨hT, True.intro⟩
    refine zstart [.v (.agg #[.int .i64 ((f.size : Nat) : Int), .int .i64 ((f.E : Nat) : Int), .int .i64 ((f.F : Nat) : Int), .int .i64 f.g.rad, .int .i64 f.g.digs, .int .i64 f.g.lo, .int .i64 f.g.hi, .bool f.g.grad, .bool f.hid, .bool f.inf, .bool f.res, .func (.func (ordF f)) #[] #[]]), .v (.string s)] I Tryd.func59 ?_
    refine zg I (fun Al W I => (HS W).out) fun Al V Iv hz hB K k => ?_
    rintro _ W ⟨p13, c13, rfl, o13, hb⟩
    refine ⟨_, rfl, k _ _ hb fun I => ?_⟩
    clear k K
    have I := I.own o13
    refine zg I (fun Al W I => have hz := I.bel.size; (HV p13 c13 _ W I.fa.1 (by omega)).out) fun Al V Iv hz hB K k => ?_
    rintro _ W ⟨p17, c17, rfl, o17, hb⟩
    refine ⟨_, rfl, k _ _ hb fun I => ?_⟩
    clear k K
    have I := I.own o17
    refine zd [1] I fun Al W I => ?_
    refine zk [0, 1, 2] I fun I => ?_
    refine zo 3 I (fun I => ?_)
    refine zn I fun Al W I => ?_
    refine zk [4] I fun I => ?_
    exact zret I fun Al W I => givesVb_none hv rfl I.below
  · have hv : f.vl g ⟨5, m, pw⟩ = ⟨5, false, 0, 0⟩ := by unfold Fm.vl Dc.c; simp
    have I := Inv.start w [tabF] ⟨hT, True.intro⟩
    refine zstart [.v (.agg #[.int .i64 ((f.size : Nat) : Int), .int .i64 ((f.E : Nat) : Int), .int .i64 ((f.F : Nat) : Int), .int .i64 f.g.rad, .int .i64 f.g.digs, .int .i64 f.g.lo, .int .i64 f.g.hi, .bool f.g.grad, .bool f.hid, .bool f.inf, .bool f.res, .func (.func (ordF f)) #[] #[]]), .v (.string s)] I Tryd.func59 ?_
    refine zg I (fun Al W I => (HS W).out) fun Al V Iv hz hB K k => ?_
    rintro _ W ⟨p13, c13, rfl, o13, hb⟩
    refine ⟨_, rfl, k _ _ hb fun I => ?_⟩
    clear k K
    have I := I.own o13
    refine zg I (fun Al W I => have hz := I.bel.size; (HV p13 c13 _ W I.fa.1 (by omega)).out) fun Al V Iv hz hB K k => ?_
    rintro _ W ⟨p17, c17, rfl, o17, hb⟩
    refine ⟨_, rfl, k _ _ hb fun I => ?_⟩
    clear k K
    have I := I.own o17
    refine zd [1] I fun Al W I => ?_
    refine zk [0, 1, 2] I fun I => ?_
    refine zo 3 I (fun I => ?_)
    refine zn I fun Al W I => ?_
    refine zk [4] I fun I => ?_
    exact zret I fun Al W I => givesVb_none hv rfl I.below

end Go.Proofs.YtcipdimogodndaaDoor
