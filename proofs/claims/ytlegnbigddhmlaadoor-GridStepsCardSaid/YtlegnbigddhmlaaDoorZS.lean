/- grid: ratio, Keeps, check, Holds.
   grid: check, Holds; the laws' onGrid.
   grid: least.
   grid: After.
   grid: Step. -/
import Derived.Test.YtlegnbigddhmlaaDoorZGd7
import Derived.Test.YtlegnbigddhmlaaDoorZA
import Derived.Test.YtlegnbigddhmlaaDoorZRGd5
import Derived.Test.YtlegnbigddhmlaaDoorZU
import Derived.Test.YtlegnbigddhmlaaDoorZE
import Derived.Test.YtlegnbigddhmlaaDoorZSx3
import Derived.Test.YtlegnbigddhmlaaDoorZDyOut
import Derived.Test.YtlegnbigddhmlaaDoorZWhl
namespace Go.Proofs.YtlegnbigddhmlaaDoor
open Go.RowKit Go.Slip

set_option maxHeartbeats 2000000 in
set_option maxRecDepth 100000 in
theorem gratio_any (g : Bool) (p : Option Addr) (n c : Nat) (e : Int) (w : World) :
    Calls Tryd.prog 62 #[.agg #[.bool g, .slice p n c, .int .i64 e]] w fun en w' => ∃ q d, en = .returned (.agg #[.bool g, .slice p n c, .slice q (dig B32 1).length d, .int .i64 e]) ∧ Own w' w.heap.size .u32 46 q d (dig B32 1) ∧ Below w.heap.size w w' := by
  go_enter Tryd.func62, Tryd.ntmps62
  go_wp2_with fail
  refine wp_lay2 (fun W1 hb1 hz1 A R => ?_)
  have hs1 := hb1
  have hzd : W1.drew.heap.size = W1.heap.size := rfl
  have HZD := Lib.hid hzd
  clear hzd
  go_region_held3 (fun w' => w'.cell? ⟨w.heap.size, 0, none⟩ = some (.bool g) ∧ w'.cell? ⟨w.heap.size, 1, none⟩ = some (.slice p n c) ∧ w'.cell? ⟨w.heap.size, 2, none⟩ = some (.int .i64 e))
    (first
      | with_reducible exact A.e3
      | with_reducible exact A.drew.e3
      | with_reducible exact (A.drew.past hbx).e3
      | with_reducible exact ((A.drew.past hbx).only (only4 _ _ _ _ _ _) (by omega)).e3)
    (first
      | (go_at_call 64; ((with_reducible refine (gof_one _).mono ?_)); rintro ex wx ⟨px, cx, rfl, hox, hbx⟩; (have RR := R.drew.past hbx); obtain ⟨R_0, R_1, R_2, R_3⟩ := RR.e4; (have R_f0 := RR.f 0); (have R_f1 := RR.f 1); (have R_f2 := RR.f 2); (have R_f3 := RR.f 3)))
  all_goals (go_wp2_with fail)
  refine bodyPost_ret (v := .agg #[.bool g, .slice p n c, .slice px (dig B32 1).length cx, .int .i64 e]) (by simp [results, Tryd.results62, go_sem, R_0, R_1, R_2, R_3]) rfl ?_
  have hzd := HZD.out
  have hO := only4 wx (w.heap.size + 1) (.bool g) (.slice p n c) (.slice px (dig B32 1).length cx) (.int .i64 e)
  have hz := hs1.size
  exact ⟨px, cx, rfl, (hox.only hO (fun h => by have := (hox.blk_lt h).1; omega)).mono (by omega), (hs1.drew.trans (hbx.mono hz)).trans (hO.below (by omega))⟩

set_option maxHeartbeats 8000000 in
set_option maxRecDepth 100000 in
theorem gkeeps_any (s : Bool) (p : Option Addr) (c : Nat) (e : Int) (m : Nat) (g : Gd) (w : World) (hp : Rd w .u32 p (dig B32 m)) (hl : (dig B32 m).length ≤ 100000) (he : -1000000 ≤ e ∧ e ≤ 1000000) (G : GoodG g) :
    Calls Tryd.prog 36 #[.agg #[.bool s, .slice p (dig B32 m).length c, .int .i64 e], .agg #[.int .i64 g.rad, .int .i64 g.digs, .int .i64 g.lo, .int .i64 g.hi, .bool g.grad]] w fun en w' => en = .returned (.bool (keepsD ⟨s, m, e⟩ g)) ∧ Below w.heap.size w w' := by
  by_cases h0 : m = 0
  · have hk : keepsD ⟨s, m, e⟩ g = true := by unfold keepsD; rw [if_pos h0]
    have HS := Lib.hid (show dSign ⟨s, m, e⟩ = 0 by unfold dSign; rw [if_pos h0])
    rw [hk]
    clear hk h0
    go_enter Tryd.func36, Tryd.ntmps36
    go_wp2_with fail
    refine calls_lay2 (fun W1 hb1 hz1 A B => ?_)
    have hs1 := hb1
    ((with_reducible refine (signD_any s p _ c e m _ rfl).mono ?_))
    rintro e2 w2 ⟨rfl, hb2⟩
    rw [HS.out]
    go_wp2
    go_ret
    exact ⟨rfl, hs1.trans (hb2.mono hs1.size)⟩
  · have hsg := dSign_pos (g := s) (e := e) (show 0 < m by omega)
    have wp := wid_pos g
    have hd1 := G.d1
    have hK := isK_one (show 0 < m by omega) e (w := wid g) (D := g.digs.toNat) wp.1 (by omega)
    have hl1 : (dig B32 1).length ≤ 1 := by rw [dig_len_le B32_two]; unfold B32; omega
    have HF := fun W q d (h1 : Rd W .u32 p (dig B32 m)) (h2 : Rd W .u32 q (dig B32 1)) => Lib.hid (fit_any s p q c d m 1 e g 3 _ W h1 h2 hl (by omega) (by omega) (by omega) he G (by omega) (by omega) hK)
    have hkk : keepsD ⟨s, m, e⟩ g = ((fitK s m 1 e g 3 ((e + blen m - 1) / wid g - g.digs.toNat + 1)).exact && !(fitK s m 1 e g 3 ((e + blen m - 1) / wid g - g.digs.toNat + 1)).over && (!(fitK s m 1 e g 3 ((e + blen m - 1) / wid g - g.digs.toNat + 1)).under || g.grad)) := by
      unfold keepsD
      rw [if_neg h0]
      rfl
    rw [hkk]
    generalize fitK s m 1 e g 3 ((e + blen m - 1) / wid g - g.digs.toNat + 1) = pf at *
    clear hkk h0 hK hd1 wp
    generalize hds : dSign ⟨s, m, e⟩ = sg0 at *
    have HSG := Lib.hid hds
    clear hds
    go_enter Tryd.func36, Tryd.ntmps36
    go_wp2_with fail
    refine calls_lay2 (fun W1 hb1 hz1 A B => ?_)
    replace hp := hp.past hb1
    have hs1 := hb1
    ((with_reducible refine (signD_any s p _ c e m _ rfl).mono ?_))
    rintro e2 w2 ⟨rfl, hb2⟩
    rw [HSG.out]
    replace A := A.past hb2
    replace B := B.past hb2
    replace hp := hp.past hb2
    have hs2 := hs1.trans (hb2.mono hs1.size)
    go_wp2_with fail
    have hAl := A.lt
    have hBl := B.lt
    have hzd : w2.drew.heap.size = w2.heap.size := rfl
    have HZD := Lib.hid hzd
    clear hzd
    go_cut [5] (fun s5 wx => ∃ (kx : Nat) (px : Option Addr) (cx : Nat), s5 = .pointer (some ⟨kx, 0, none⟩) ∧ Bx wx kx #[.bool pf.neg, .slice px (dig B32 pf.d).length cx, .int .i64 pf.pow, .bool pf.exact, .bool pf.over, .bool pf.under] ∧ w2.heap.size ≤ kx ∧ Below w2.heap.size w2 wx)
    case first =>
      go_region_held3 (fun w' => (w'.cell? ⟨w.heap.size, 0, none⟩ = some (.bool s) ∧ w'.cell? ⟨w.heap.size, 1, none⟩ = some (.slice p (dig B32 m).length c) ∧ w'.cell? ⟨w.heap.size, 2, none⟩ = some (.int .i64 e)) ∧
          (w'.cell? ⟨w.heap.size + 1, 0, none⟩ = some (.int .i64 g.rad) ∧ w'.cell? ⟨w.heap.size + 1, 1, none⟩ = some (.int .i64 g.digs) ∧ w'.cell? ⟨w.heap.size + 1, 2, none⟩ = some (.int .i64 g.lo) ∧ w'.cell? ⟨w.heap.size + 1, 3, none⟩ = some (.int .i64 g.hi) ∧ w'.cell? ⟨w.heap.size + 1, 4, none⟩ = some (.bool g.grad)))
        (first
        | with_reducible exact ⟨A.e3, B.e5⟩
        | with_reducible exact ⟨(A.drew).e3, (B.drew).e5⟩
        | with_reducible exact ⟨((A.laid _).drew).e3, ((B.laid _).drew).e5⟩
        | with_reducible exact ⟨(((A.laid _).drew).past hbx).e3, (((B.laid _).drew).past hbx).e5⟩
        | with_reducible exact ⟨((A.drew).past hbx).e3, ((B.drew).past hbx).e5⟩
        | with_reducible exact ⟨(((A.drew).past hbx).laid _).e3, (((B.drew).past hbx).laid _).e5⟩
        | with_reducible exact ⟨((((A.laid _).drew).past hbx).past hby).e3, ((((B.laid _).drew).past hbx).past hby).e5⟩
        | with_reducible exact ⟨((((A.drew).past hbx).laid _).past hby).e3, ((((B.drew).past hbx).laid _).past hby).e5⟩
        | with_reducible exact ⟨(((A.drew).past hbx).past hby).e3, (((B.drew).past hbx).past hby).e5⟩
        | with_reducible exact ⟨((((A.drew).past hbx).past hby).laid _).e3, ((((B.drew).past hbx).past hby).laid _).e5⟩
        | with_reducible exact ⟨(((((A.laid _).drew).past hbx).past hby).only (only6 _ _ _ _ _ _ _ _) (by omega)).e3, (((((B.laid _).drew).past hbx).past hby).only (only6 _ _ _ _ _ _ _ _) (by omega)).e5⟩
        | with_reducible exact ⟨(((((A.drew).past hbx).laid _).past hby).only (only6 _ _ _ _ _ _ _ _) (by omega)).e3, (((((B.drew).past hbx).laid _).past hby).only (only6 _ _ _ _ _ _ _ _) (by omega)).e5⟩)
        (first
          | (go_at_call 62; ((with_reducible refine (gratio_any s p _ c e _).mono ?_)); rintro ex wx ⟨qx, dx, rfl, hox, hbx⟩; (have hzx : w2.heap.size ≤ wx.heap.size := by have := hbx.size; simp at this; omega))
          | (go_at_call 49; (first
              | with_reducible refine (HF _ qx dx (hp.drew.past hbx) hox.rd).out.mono ?_
              | with_reducible refine (HF _ qx dx ((hp.laid _).drew.past hbx) hox.rd).out.mono ?_
              | with_reducible refine (HF _ qx dx ((hp.drew.past hbx).laid _) (hox.rd.laid _)).out.mono ?_); rintro ey wy ⟨py, cy, rfl, hoy, hby⟩; (first
              | (have XX := (bx_new w2 #[.bool false, .slice none 0 0, .int .i64 0, .bool false, .bool false, .bool false] 61).drew.past hbx |>.past hby; obtain ⟨X_0, X_1, X_2, X_3, X_4, X_5⟩ := XX.e6; have X_f0 := XX.f 0; have X_f1 := XX.f 1; have X_f2 := XX.f 2; have X_f3 := XX.f 3; have X_f4 := XX.f 4; have X_f5 := XX.f 5)
              | (have XX := (bx_new wx #[.bool false, .slice none 0 0, .int .i64 0, .bool false, .bool false, .bool false] 61).past hby; obtain ⟨X_0, X_1, X_2, X_3, X_4, X_5⟩ := XX.e6; have X_f0 := XX.f 0; have X_f1 := XX.f 1; have X_f2 := XX.f 2; have X_f3 := XX.f 3; have X_f4 := XX.f 4; have X_f5 := XX.f 5)
              | skip)))
      all_goals (go_wp2_with fail)
      all_goals go_meet
      · have hzy := hby.size
        exact ⟨wy.heap.size, py, cy, rfl, bx_new wy _ _, by omega, (((Below.refl w2.heap.size w2).drew.trans hbx).trans (hby.mono hzx)).trans ((below_lay1 wy _).mono (by omega))⟩
      · have hzy := hby.size
        rw [World.size_alloc] at hzy
        have hO := only6 wy wx.heap.size (.bool pf.neg) (.slice py (dig B32 pf.d).length cy) (.int .i64 pf.pow) (.bool pf.exact) (.bool pf.over) (.bool pf.under)
        exact ⟨wx.heap.size, py, cy, rfl, XX.put6 _ _ _ _ _ _, hzx, ((((Below.refl w2.heap.size w2).drew.trans hbx).trans ((below_lay1 wx _).mono hzx)).trans (hby.mono (by rw [World.size_alloc]; omega))).trans (hO.below hzx)⟩
      · have hzy := hby.size
        have hO := only6 wy w2.heap.size (.bool pf.neg) (.slice py (dig B32 pf.d).length cy) (.int .i64 pf.pow) (.bool pf.exact) (.bool pf.over) (.bool pf.under)
        exact ⟨w2.heap.size, py, cy, rfl, XX.put6 _ _ _ _ _ _, Nat.le_refl _, ((((below_lay1 w2 _).drew).trans (hbx.mono (by simp))).trans (hby.mono hzx)).trans (hO.below (Nat.le_refl _))⟩
    case rest =>
      obtain ⟨kx, px, cx, rfl, X, hkx, hbc⟩ := hcut
      have hs4 := hs2.trans (hbc.mono hs2.size)
      replace B := B.past hbc
      clear hbc
      obtain ⟨png, pd, ppw, pex, pov, pun⟩ := pf
      obtain ⟨X_0, X_1, X_2, X_3, X_4, X_5⟩ := X.e6
      obtain ⟨B_0, B_1, B_2, B_3, B_4⟩ := B.e5
      simp only at X_3 X_4 X_5 ⊢
      clear HF
      generalize hgr : g.grad = gr at *
      have HGR := Lib.hid hgr
      clear hgr
      cases pex <;> cases pov <;> cases pun <;> cases gr <;> (go_wp2; go_ret; exact ⟨by first | rfl | (rw [HGR.out]; rfl), hs4⟩)

end Go.Proofs.YtlegnbigddhmlaaDoor

namespace Go.Proofs.YtlegnbigddhmlaaDoor
open Go.RowKit Go.Slip

/-- What is wrong with a number, and a grid. -/
def errOn (a : Din) (g : Gd) : Int := if errDy a = 0 then errG g else errDy a

set_option maxHeartbeats 2000000 in
theorem gcheck_any (a : Din) (g : Gd) (w : World) (ha : InD w a) :
    Calls Tryd.prog 35 #[.agg #[.bool a.g, .slice a.p a.xs.length a.c, .int .i64 a.e], .agg #[.int .i64 g.rad, .int .i64 g.digs, .int .i64 g.lo, .int .i64 g.hi, .bool g.grad]] w fun en w' => en = .returned (.int .i64 (errOn a g)) ∧ Below w.heap.size w w' := by
  have HC := fun W (h : InD W a) => Lib.hid (dyCheckOne_any a W h.rd h.len)
  have HG := fun W => Lib.hid (gridCheck_any g W)
  unfold errOn
  obtain ⟨e1, he1⟩ : ∃ e1, errDy a = e1 := ⟨_, rfl⟩
  obtain ⟨e2, he2⟩ : ∃ e2, errG g = e2 := ⟨_, rfl⟩
  rw [he1] at HC ⊢
  rw [he2] at HG ⊢
  clear he1 he2
  by_cases h1 : e1 = 0
  · subst h1
    rw [if_pos rfl]
    go_enter Tryd.func35, Tryd.ntmps35
    go_wp2_with fail
    refine calls_lay2 (fun W1 hb1 hz1 A B => ?_)
    replace ha := ha.past hb1
    have hs1 := hb1
    ((with_reducible refine ((HC _ ha).out).mono ?_))
    rintro e2 w2 ⟨rfl, hb2⟩
    replace A := A.past hb2
    replace B := B.past hb2
    replace ha := ha.past hb2
    have hs2 := hs1.trans (hb2.mono hs1.size)
    obtain ⟨B_0, B_1, B_2, B_3, B_4⟩ := B.e5
    go_wp2_with fail
    clear B_0 B_1 B_2 B_3 B_4
    ((with_reducible refine ((HG _).out).mono ?_))
    rintro e3 w3 ⟨rfl, hb3⟩
    replace A := A.past hb3
    replace B := B.past hb3
    replace ha := ha.past hb3
    have hs3 := hs2.trans (hb3.mono hs2.size)
    go_wp2
    go_ret
    exact ⟨rfl, hs3⟩
  · have t1 : (e1 == 0) = false := beq_eq_false_iff_ne.2 h1
    have t2 : (e1 != 0) = true := by rw [bne, t1]; rfl
    rw [if_neg h1]
    clear h1
    go_enter Tryd.func35, Tryd.ntmps35
    go_wp2_with fail
    refine calls_lay2 (fun W1 hb1 hz1 A B => ?_)
    replace ha := ha.past hb1
    have hs1 := hb1
    ((with_reducible refine ((HC _ ha).out).mono ?_))
    rintro e2 w2 ⟨rfl, hb2⟩
    replace A := A.past hb2
    replace B := B.past hb2
    replace ha := ha.past hb2
    have hs2 := hs1.trans (hb2.mono hs1.size)
    go_wp2
    go_ret
    exact ⟨rfl, hs2⟩

set_option maxHeartbeats 2000000 in
theorem onGrid_any (a : Din) (g : Gd) (w : World) (ha : InD w a) :
    Calls Tryd.prog 19 #[.agg #[.bool a.g, .slice a.p a.xs.length a.c, .int .i64 a.e], .agg #[.int .i64 g.rad, .int .i64 g.digs, .int .i64 g.lo, .int .i64 g.hi, .bool g.grad]] w fun en w' => en = .returned (.int .i64 (errOn a g)) ∧ Below w.heap.size w w' := by
  have HC := fun W (h : InD W a) => Lib.hid (refCheckDyad_any a W h.rd h.len)
  have HG := fun W => Lib.hid (refCheckGrid_any g W)
  unfold errOn
  obtain ⟨e1, he1⟩ : ∃ e1, errDy a = e1 := ⟨_, rfl⟩
  obtain ⟨e2, he2⟩ : ∃ e2, errG g = e2 := ⟨_, rfl⟩
  rw [he1] at HC ⊢
  rw [he2] at HG ⊢
  clear he1 he2
  by_cases h1 : e1 = 0
  · subst h1
    rw [if_pos rfl]
    go_enter Tryd.func19, Tryd.ntmps19
    go_wp2_with fail
    refine calls_lay2 (fun W1 hb1 hz1 A B => ?_)
    replace ha := ha.past hb1
    have hs1 := hb1
    ((with_reducible refine ((HC _ ha).out).mono ?_))
    rintro e2 w2 ⟨rfl, hb2⟩
    replace A := A.past hb2
    replace B := B.past hb2
    replace ha := ha.past hb2
    have hs2 := hs1.trans (hb2.mono hs1.size)
    obtain ⟨B_0, B_1, B_2, B_3, B_4⟩ := B.e5
    go_wp2_with fail
    clear B_0 B_1 B_2 B_3 B_4
    ((with_reducible refine ((HG _).out).mono ?_))
    rintro e3 w3 ⟨rfl, hb3⟩
    replace A := A.past hb3
    replace B := B.past hb3
    replace ha := ha.past hb3
    have hs3 := hs2.trans (hb3.mono hs2.size)
    go_wp2
    go_ret
    exact ⟨rfl, hs3⟩
  · have t1 : (e1 == 0) = false := beq_eq_false_iff_ne.2 h1
    have t2 : (e1 != 0) = true := by rw [bne, t1]; rfl
    rw [if_neg h1]
    clear h1
    go_enter Tryd.func19, Tryd.ntmps19
    go_wp2_with fail
    refine calls_lay2 (fun W1 hb1 hz1 A B => ?_)
    replace ha := ha.past hb1
    have hs1 := hb1
    ((with_reducible refine ((HC _ ha).out).mono ?_))
    rintro e2 w2 ⟨rfl, hb2⟩
    replace A := A.past hb2
    replace B := B.past hb2
    replace ha := ha.past hb2
    have hs2 := hs1.trans (hb2.mono hs1.size)
    go_wp2
    go_ret
    exact ⟨rfl, hs2⟩

theorem errOn_ok {a : Din} {g : Gd} (h : errOn a g = 0) : errDy a = 0 ∧ errG g = 0 := by
  unfold errOn at h
  by_cases h1 : errDy a = 0
  · rw [if_pos h1] at h; exact ⟨h1, h⟩
  · rw [if_neg h1] at h; exact absurd h h1

/-- What Holds answers. -/
def holdsB (a : Din) (g : Gd) : Bool := decide (errOn a g = 0) && keepsD (dyV a) g

set_option maxHeartbeats 4000000 in
set_option maxRecDepth 100000 in
theorem holds_any (a : Din) (g : Gd) (w : World) (ha : InD w a) (hT : TabW w) :
    Calls Tryd.prog 14 #[.agg #[.bool a.g, .slice a.p a.xs.length a.c, .int .i64 a.e], .agg #[.int .i64 g.rad, .int .i64 g.digs, .int .i64 g.lo, .int .i64 g.hi, .bool g.grad]] w fun en w' => en = .returned (.tuple #[.bool (holdsB a g), .int .i64 (errOn a g)]) ∧ Below w.heap.size w w' := by
  have HC := fun W h => Lib.hid (gcheck_any a g W h)
  unfold holdsB
  by_cases h0 : errOn a g = 0
  · obtain ⟨hd0, hg0⟩ := errOn_ok h0
    obtain ⟨hla, hea, hea2⟩ := dyV_bd ha hd0
    obtain ⟨ma, exa, eva, la, e1a, e2a⟩ := ha.ok hd0
    have HVA := Lib.hid (show bare ⟨a.g, ma, a.e⟩ = dyV a by unfold dyV; rw [eva])
    have hca := ha.cap
    have HO := fun W (h : InD W a) hT => Lib.hid (ofD_any a.g a.p a.xs.length a.c a.e ma W (by rw [← exa]; exact h.rd) (by rw [exa]) hca (by omega) (by omega) hT)
    rw [HVA.out] at HO
    have hk : keepsD (dyV a) g = keepsD ⟨(dyV a).neg, (dyV a).m, (dyV a).e⟩ g := rfl
    rw [h0] at HC ⊢
    rw [hk, decide_eq_true rfl, Bool.true_and]
    generalize dyV a = va at *
    have HK := fun W p c (h : Rd W .u32 p (dig B32 va.m)) => Lib.hid (gkeeps_any va.neg p c va.e va.m g W h (by omega) (by omega) (goodG_of hg0))
    generalize keepsD ⟨va.neg, va.m, va.e⟩ g = kb at *
    clear h0 hd0 hg0 exa eva hk
    go_enter Tryd.func14, Tryd.ntmps14
    go_wp2_with fail
    refine calls_lay2 (fun W1 hb1 hz1 A B => ?_)
    replace ha := ha.past hb1
    replace hT := hT.past hb1
    have hs1 := hb1
    ((with_reducible refine ((HC _ ha).out).mono ?_))
    rintro e2 w2 ⟨rfl, hb2⟩
    replace A := A.past hb2
    replace B := B.past hb2
    replace ha := ha.past hb2
    replace hT := hT.past hb2
    have hs2 := hs1.trans (hb2.mono hs1.size)
    go_wp2_with fail
    go_region_held3 (fun w' => (w'.cell? ⟨w.heap.size, 0, none⟩ = some (.bool a.g) ∧ w'.cell? ⟨w.heap.size, 1, none⟩ = some (.slice a.p a.xs.length a.c) ∧ w'.cell? ⟨w.heap.size, 2, none⟩ = some (.int .i64 a.e)) ∧
        (w'.cell? ⟨w.heap.size + 1, 0, none⟩ = some (.int .i64 g.rad) ∧ w'.cell? ⟨w.heap.size + 1, 1, none⟩ = some (.int .i64 g.digs) ∧ w'.cell? ⟨w.heap.size + 1, 2, none⟩ = some (.int .i64 g.lo) ∧ w'.cell? ⟨w.heap.size + 1, 3, none⟩ = some (.int .i64 g.hi) ∧ w'.cell? ⟨w.heap.size + 1, 4, none⟩ = some (.bool g.grad)))
      (first
      | with_reducible exact ⟨A.e3, B.e5⟩
      | with_reducible exact ⟨A.drew.e3, B.drew.e5⟩
      | with_reducible exact ⟨(A.drew.past hbx).e3, (B.drew.past hbx).e5⟩
      | with_reducible exact ⟨((A.drew.past hbx).past hby).e3, ((B.drew.past hbx).past hby).e5⟩)
      (first
        | (go_at_call 32; ((with_reducible refine (HO _ ha.drew hT.drew).out.mono ?_)); rintro ex wx ⟨px, cx, rfl, hox, hbx⟩)
        | (go_at_call 36; ((with_reducible refine (HK _ px cx hox.rd).out.mono ?_)); rintro ey wy ⟨rfl, hby⟩))
    all_goals (go_wp2_with fail)
    refine bodyPost_ret (v := .tuple #[.bool kb, .int .i64 0]) (by simp [results, Tryd.results14, go_sem]) rfl ?_
    exact ⟨rfl, (hs2.drew.trans (hbx.mono hs2.size)).trans (hby.mono (Nat.le_trans hs2.size hbx.size))⟩
  · obtain ⟨e1, he1⟩ : ∃ e1, errOn a g = e1 := ⟨_, rfl⟩
    rw [he1] at HC h0 ⊢
    rw [decide_eq_false h0, Bool.false_and]
    have t1 : (e1 == 0) = false := beq_eq_false_iff_ne.2 h0
    have t2 : (e1 != 0) = true := by rw [bne, t1]; rfl
    clear he1 h0
    go_enter Tryd.func14, Tryd.ntmps14
    go_wp2_with fail
    refine calls_lay2 (fun W1 hb1 hz1 A B => ?_)
    replace ha := ha.past hb1
    replace hT := hT.past hb1
    have hs1 := hb1
    ((with_reducible refine ((HC _ ha).out).mono ?_))
    rintro e2 w2 ⟨rfl, hb2⟩
    replace A := A.past hb2
    replace B := B.past hb2
    replace ha := ha.past hb2
    replace hT := hT.past hb2
    have hs2 := hs1.trans (hb2.mono hs1.size)
    go_wp2
    refine bodyPost_ret (v := .tuple #[.bool false, .int .i64 e1]) (by simp [results, Tryd.results14, go_sem]) rfl ?_
    exact ⟨rfl, hs2⟩

end Go.Proofs.YtlegnbigddhmlaaDoor

namespace Go.Proofs.YtlegnbigddhmlaaDoor
open Go.RowKit Go.Slip

theorem bare_one (g : Bool) (e : Int) : bare ⟨g, 1, e⟩ = ⟨g, 1, e⟩ := by
  unfold bare
  rw [if_neg (show ¬ (1 : Nat) = 0 by omega), tz_odd (show 1 % 2 = 1 by omega)]
  simp

/-- dyad.Whole of limb.Of(1). -/
theorem whole_one (p : Option Addr) (c base : Nat) (e : Int) (w : World) (hp : Own w base .u32 46 p c (dig B32 1)) (he : -1000000000 ≤ e ∧ e ≤ 1000000000) (hT : TabW w) :
    Calls Tryd.prog 50 #[.slice p (dig B32 1).length c, .int .i64 e] w (GivesD w w.heap.size (oneD e)) := by
  have h := wholeD_any p _ c e 1 w hp.rd rfl hp.le_cap (by rw [dig_len_le B32_two]; unfold B32; omega) he hT
  rw [bare_one] at h
  exact h


set_option maxHeartbeats 4000000 in
set_option maxRecDepth 100000 in
theorem gleast_any (g : Gd) (w : World) (G : GoodG g) (hT : TabW w) :
    Calls Tryd.prog 63 #[.agg #[.int .i64 g.rad, .int .i64 g.digs, .int .i64 g.lo, .int .i64 g.hi, .bool g.grad]] w (GivesD w w.heap.size (leastD g)) := by
  obtain ⟨_, gd1, gd2, gl1, gl2, gh1, gh2, gle⟩ := G
  have wp := wid_pos g
  have HWD := fun W => Lib.hid (width_any g W)
  unfold leastD
  obtain ⟨rad, digs, lo, hi, grad⟩ := g
  simp only at *
  generalize wid ⟨rad, digs, lo, hi, grad⟩ = wd at *
  have hlo := mul_bd (k := lo) wp.2 (B := 17000) ⟨by omega, by omega⟩
  have hdg := mul_bd (k := digs - 1) wp.2 (B := 200) ⟨by omega, by omega⟩
  have hes : (wd : Int) * (lo + (digs - 1)) = wd * lo + wd * (digs - 1) := Int.mul_add _ _ _
  have e0 : IntKind.i64.wrap ((wd : Int) * lo) = (wd : Int) * lo := IntWalk.i64_in _ (by omega)
  have HES := Lib.hid hes
  clear hes
  obtain ⟨E, hE0⟩ : ∃ E, (wd : Int) * (lo + if grad = true then 0 else digs - 1) = E := ⟨_, rfl⟩
  rw [hE0]
  have HE := Lib.hid hE0
  clear hE0
  go_enter Tryd.func63, Tryd.ntmps63
  go_wp2_with fail
  refine wp_lay2 (fun W1 hb1 hz1 G R => ?_)
  replace hT := hT.past hb1
  have hs1 := hb1
  have hGlt := G.lt
  go_region_held3 (fun w' => (w'.cell? ⟨w.heap.size, 0, none⟩ = some (.int .i64 rad) ∧ w'.cell? ⟨w.heap.size, 1, none⟩ = some (.int .i64 digs) ∧ w'.cell? ⟨w.heap.size, 2, none⟩ = some (.int .i64 lo) ∧ w'.cell? ⟨w.heap.size, 3, none⟩ = some (.int .i64 hi) ∧ w'.cell? ⟨w.heap.size, 4, none⟩ = some (.bool grad)))
    (first
    | with_reducible exact G.e5
    | with_reducible exact G.drew.e5
    | with_reducible exact (G.drew.past hbx).e5)
    (first
      | (go_at_call 51; ((with_reducible refine (HWD _).out.mono ?_)); rintro ex wx ⟨rfl, hbx⟩))
  have hs2 := hs1.drew.trans (hbx.mono hs1.size)
  replace G := G.drew.past hbx
  replace R := R.drew.past hbx
  replace hT := hT.drew.past hbx
  clear e0
  cases grad
  · have e1 : IntKind.i64.wrap (digs - 1) = digs - 1 := IntWalk.i64_in _ (by omega)
    have e2 : IntKind.i64.wrap ((wd : Int) * (digs - 1)) = (wd : Int) * (digs - 1) := IntWalk.i64_in _ (by omega)
    have e3 : IntKind.i64.wrap ((wd : Int) * lo + (wd : Int) * (digs - 1)) = E := by rw [← HE.out, if_neg (by simp), HES.out]; exact IntWalk.i64_in _ (by omega)
    have hEb : -1000000000 ≤ E ∧ E ≤ 1000000000 := by rw [← HE.out, if_neg (by simp), HES.out]; omega
    obtain ⟨G_0, G_1, G_2, G_3, G_4⟩ := G.e5
    go_wp2_with fail
    clear G_0 G_1 G_2 G_3 G_4
    go_region_held3 (fun w' => (w'.cell? ⟨w.heap.size, 0, none⟩ = some (.int .i64 rad) ∧ w'.cell? ⟨w.heap.size, 1, none⟩ = some (.int .i64 digs) ∧ w'.cell? ⟨w.heap.size, 2, none⟩ = some (.int .i64 lo) ∧ w'.cell? ⟨w.heap.size, 3, none⟩ = some (.int .i64 hi) ∧ w'.cell? ⟨w.heap.size, 4, none⟩ = some (.bool false)))
      (first
      | with_reducible exact G.e5
      | with_reducible exact G.drew.e5
      | with_reducible exact (G.drew.past hby).e5)
      (first
        | (go_at_call 51; ((with_reducible refine (HWD _).out.mono ?_)); rintro ey wy ⟨rfl, hby⟩))
    have hsz := hs2.drew.trans (hby.mono hs2.size)
    replace R := R.drew.past hby
    replace hT := hT.drew.past hby
    clear e1 e2 e3
    have HRL : Hid (w.heap.size + 1 < wy.heap.size) := R.lt
    go_wp2_with fail
    ((with_reducible refine (gof_one _).mono ?_))
    rintro e7 w7 ⟨p7, c7, rfl, ho7, hb7⟩
    have hs7 := hsz.trans (hb7.mono hsz.size)
    replace R := R.past hb7
    replace hT := hT.past hb7
    go_wp2_with fail
    ((with_reducible refine (whole_one p7 c7 _ E _ ho7 (by omega) hT).mono ?_))
    unfold oneD
    rintro e8 w8 ⟨p8, c8, rfl, ho8, hb8⟩
    have hs8 := hs7.trans (hb8.mono hs7.size)
    replace R := R.past hb8
    obtain ⟨R_0, R_1, R_2⟩ := R.e3
    have R_f0 := R.f 0
    have R_f1 := R.f 1
    have R_f2 := R.f 2
    go_wp2_with fail
    clear R_0 R_1 R_2 R_f0 R_f1 R_f2
    obtain ⟨R_0, R_1, R_2⟩ := R.e3
    have hz := hs1.size
    refine bodyPost_ret (v := .agg #[.bool false, .slice p8 (dig B32 1).length c8, .int .i64 (E)]) (by simp [results, Tryd.results63, go_sem, R_0, R_1, R_2]) rfl ?_
    exact givesD_close (d := ⟨false, 1, E⟩) hs8 ho8 (by have := hs7.size; omega) (by omega) (fun h => by have := (ho8.blk_lt h).1; have := hb7.size; have := HRL.out; omega)
  · have hsz := hs2
    have HRL : Hid (w.heap.size + 1 < wx.heap.size) := R.lt
    have e4 : (wd : Int) * lo = E := by rw [← HE.out, if_pos rfl, Int.add_zero]
    have hEb : -1000000000 ≤ E ∧ E ≤ 1000000000 := by rw [← e4]; omega
    rw [e4]
    clear e4
    obtain ⟨G_0, G_1, G_2, G_3, G_4⟩ := G.e5
    go_wp2_with fail
    clear G_0 G_1 G_2 G_3 G_4
    ((with_reducible refine (gof_one _).mono ?_))
    rintro e7 w7 ⟨p7, c7, rfl, ho7, hb7⟩
    have hs7 := hsz.trans (hb7.mono hsz.size)
    replace R := R.past hb7
    replace hT := hT.past hb7
    go_wp2_with fail
    ((with_reducible refine (whole_one p7 c7 _ E _ ho7 (by omega) hT).mono ?_))
    unfold oneD
    rintro e8 w8 ⟨p8, c8, rfl, ho8, hb8⟩
    have hs8 := hs7.trans (hb8.mono hs7.size)
    replace R := R.past hb8
    obtain ⟨R_0, R_1, R_2⟩ := R.e3
    have R_f0 := R.f 0
    have R_f1 := R.f 1
    have R_f2 := R.f 2
    go_wp2_with fail
    clear R_0 R_1 R_2 R_f0 R_f1 R_f2
    obtain ⟨R_0, R_1, R_2⟩ := R.e3
    have hz := hs1.size
    refine bodyPost_ret (v := .agg #[.bool false, .slice p8 (dig B32 1).length c8, .int .i64 (E)]) (by simp [results, Tryd.results63, go_sem, R_0, R_1, R_2]) rfl ?_
    exact givesD_close (d := ⟨false, 1, E⟩) hs8 ho8 (by have := hs7.size; omega) (by omega) (fun h => by have := (ho8.blk_lt h).1; have := hb7.size; have := HRL.out; omega)

end Go.Proofs.YtlegnbigddhmlaaDoor

namespace Go.Slip

/-- What a number of the grid is, as a place. -/
theorem fit_step {s : Bool} {m : Nat} {e : Int} {g : Gd} (G : GoodG g) (hin : inGridD ⟨s, m, e⟩ g = true) (h0 : m ≠ 0) :
    (fitK s m 1 e g 3 ((e + blen m - 1) / wid g - g.digs.toNat + 1)).d = qP m 1 (e - wid g * stepK ⟨s, m, e⟩ g) ∧
    ((fitK s m 1 e g 3 ((e + blen m - 1) / wid g - g.digs.toNat + 1)).d ≠ 0 → (fitK s m 1 e g 3 ((e + blen m - 1) / wid g - g.digs.toNat + 1)).pow = stepK ⟨s, m, e⟩ g) ∧
    (fitK s m 1 e g 3 ((e + blen m - 1) / wid g - g.digs.toNat + 1)).d ≠ 0 := by
  have hb := step_bd G hin h0
  simp only at hb
  have hp : powK g ((e + blen m - 1) / wid g - g.digs.toNat + 1) = stepK ⟨s, m, e⟩ g := by
    have eK : stepK ⟨s, m, e⟩ g = max g.lo ((e + blen m - 1) / wid g - g.digs.toNat + 1) := rfl
    rw [eK]
    unfold powK
    by_cases h1 : (e + blen m - 1) / wid g - g.digs.toNat + 1 < g.lo
    · by_cases h2 : g.grad = true
      · rw [if_pos ⟨h1, h2⟩]; omega
      · exfalso
        unfold inGridD at hin
        rw [if_neg h0] at hin
        have eU : upK ⟨s, m, e⟩ (wid g) g.digs.toNat = (e + blen m - 1) / wid g - g.digs.toNat + 1 := rfl
        rw [eU] at hin
        rw [if_pos h1, if_neg h2] at hin
        simp at hin
    · rw [if_neg (fun h => h1 h.1)]; omega
  unfold fitK
  simp only
  rw [hp, digP_zero, powP_zero]
  have hq : qP m 1 (e - wid g * stepK ⟨s, m, e⟩ g) ≠ 0 := by
    unfold qP numP denP
    rw [show (-(e - wid g * stepK ⟨s, m, e⟩ g)).toNat = 0 by omega, Nat.pow_zero, Nat.mul_one, Nat.div_one]
    have := Nat.mul_pos (show 0 < m by omega) (Nat.pow_pos (n := (e - wid g * stepK ⟨s, m, e⟩ g).toNat) (show 0 < 2 by omega))
    omega
  exact ⟨rfl, fun h => by rw [if_neg h], hq⟩

end Go.Slip
namespace Go.Proofs.YtlegnbigddhmlaaDoor
open Go.RowKit Go.Slip

/-- A dyad, and whether. -/
def GivesDB (w : World) (base : Nat) (d : Dv) (b : Bool) (en : Ending) (w' : World) : Prop :=
  ∃ p c, en = .returned (.tuple #[.agg #[.bool d.neg, .slice p (dig B32 d.m).length c, .int .i64 d.e], .bool b]) ∧ Own w' base .u32 46 p c (dig B32 d.m) ∧ Below w.heap.size w w'



set_option maxHeartbeats 4000000 in
set_option maxRecDepth 100000 in
theorem gafter_any (s : Bool) (p : Option Addr) (c base m : Nat) (e : Int) (g : Gd) (w : World) (hp : Own w base .u32 46 p c (dig B32 m)) (hB : Bare ⟨s, m, e⟩) (hl : (dig B32 m).length ≤ 1200) (he : -60000 ≤ e ∧ e ≤ 60000) (G : GoodG g)
    (hin : inGridD ⟨s, m, e⟩ g = true) (hT : TabW w) (hbase : base ≤ w.heap.size) :
    Calls Tryd.prog 39 #[.agg #[.bool s, .slice p (dig B32 m).length c, .int .i64 e], .agg #[.int .i64 g.rad, .int .i64 g.digs, .int .i64 g.lo, .int .i64 g.hi, .bool g.grad]] w (GivesDB w base (pStep ⟨s, m, e⟩ g).1 (pStep ⟨s, m, e⟩ g).2) := by
  have hS0 : dSign ⟨s, m, e⟩ = 0 ↔ m = 0 := by unfold dSign; by_cases h : m = 0 <;> cases s <;> simp [h]
  have HS := fun W => Lib.hid (signD_any s p _ c e m W rfl)
  generalize dSign ⟨s, m, e⟩ = S at *
  by_cases h0 : m = 0
  · have hk : pStep ⟨s, m, e⟩ g = (leastD g, true) := by unfold pStep; rw [if_pos h0]
    rw [hk]
    clear hin hB
    have hT27 : SxAgg Tryd.prog 27 5 := sxAgg_of (by kernel_rfl) (by kernel_rfl)
    have hT72 : SxAgg Tryd.prog 72 3 := sxAgg_of (by kernel_rfl) (by kernel_rfl)
    refine calls_of_wp Tryd.func39 rfl ?_
    refine sx_frame (a' := ⟨((.agg #[.bool s, .slice p (dig B32 m).length c, .int .i64 e]) :: (.agg #[.int .i64 g.rad, .int .i64 g.digs, .int .i64 g.lo, .int .i64 g.hi, .bool g.grad]) :: undef :: undef :: undef :: undef :: undef :: undef :: undef :: undef :: undef :: undef :: undef :: undef :: undef :: undef :: undef :: undef :: undef :: undef :: undef :: undef :: undef :: undef :: undef :: undef :: undef :: undef :: undef :: undef :: undef :: undef :: undef :: undef :: undef :: undef :: undef :: undef :: undef :: undef :: undef :: undef :: undef :: undef :: undef :: undef :: undef :: undef :: undef :: undef :: undef :: undef :: undef :: undef :: undef :: undef :: undef :: undef :: undef :: undef :: undef :: undef :: undef :: undef :: undef :: undef :: undef :: undef :: undef :: undef :: undef :: undef :: undef :: undef :: undef :: undef :: []).toArray, []⟩) (by kernel_rfl) ?_
    refine wp_seq ?_
    refine sx_region ?_
    refine sn 2 #[.bool s, .slice p (dig B32 m).length c, .int .i64 e] 72 (fun V1 hbV1 hzV1 b2 => ?_)
    refine sn 3 #[.int .i64 g.rad, .int .i64 g.digs, .int .i64 g.lo, .int .i64 g.hi, .bool g.grad] 27 (fun V2 hbV2 hzV2 b3 => ?_)
    refine sn 4 #[.bool false, .slice none 0 0, .int .i64 0] 72 (fun V3 hbV3 hzV3 b4 => ?_)
    refine sv 5 (.bool false) ?_
    refine sx_nil ?_
    refine sx_then ?_
    refine wp_seq ?_
    refine sx_region ?_
    replace b3 := (b3.past hbV3)
    refine sv 9 (.agg #[.int .i64 g.rad, .int .i64 g.digs, .int .i64 g.lo, .int .i64 g.hi, .bool g.grad]) ?_ (hr := (exec_ld (by kernel_rfl) (run_ld b3 hT27 0 [.int .i64 g.rad, .int .i64 g.digs, .int .i64 g.lo, .int .i64 g.hi, .bool g.grad] (by kernel_rfl) (by kernel_rfl))))
    refine se 10 51 #[.agg #[.int .i64 g.rad, .int .i64 g.digs, .int .i64 g.lo, .int .i64 g.hi, .bool g.grad]] (fun Gx hGx => ?_)
    ((with_reducible refine (width_any g _).mono ?_))
    rintro eV4 V4 ⟨rfl, hbV4⟩
    have hzV4 := hbV4.size
    refine ⟨.int .i64 ((wid g : Nat) : Int), rfl, hGx _ _ ?_⟩
    clear hGx Gx
    refine sv 6 (.int .i64 ((wid g : Nat) : Int)) ?_
    refine sx_nil ?_
    refine sx_then ?_
    refine wp_seq ?_
    refine wp_seq ?_
    refine sx_region ?_
    replace b2 := (b2.past (bthru (bthru hbV2 hbV3) hbV4))
    refine sv 11 (.agg #[.bool s, .slice p (dig B32 m).length c, .int .i64 e]) ?_ (hr := (exec_ld (by kernel_rfl) (run_ld b2 hT72 0 [.bool s, .slice p (dig B32 m).length c, .int .i64 e] (by kernel_rfl) (by kernel_rfl))))
    refine se 12 53 #[.agg #[.bool s, .slice p (dig B32 m).length c, .int .i64 e]] (fun Gx hGx => ?_)
    ((with_reducible refine ((HS _).out).mono ?_))
    rintro eV5 V5 ⟨rfl, hbV5⟩
    have hzV5 := hbV5.size
    refine ⟨.int .i64 S, rfl, hGx _ _ ?_⟩
    clear hGx Gx
    refine sv 13 (.bool true) ?_ (hr := ((show _ = Result.ok (Next.value (.bool (S == 0))) _ from (by kernel_rfl)).trans (congrArg (fun z => Result.ok (Next.value (.bool z)) _) (show (S == 0) = true from by simpa using hS0.2 h0))))
    refine sx_nil ?_
    refine sx_then ?_
    refine wp_cond_true (by kernel_rfl) ?_
    refine wp_seq ?_
    refine sx_region ?_
    replace b3 := (b3.past (bthru hbV4 hbV5))
    refine sv 14 (.agg #[.int .i64 g.rad, .int .i64 g.digs, .int .i64 g.lo, .int .i64 g.hi, .bool g.grad]) ?_ (hr := (exec_ld (by kernel_rfl) (run_ld b3 hT27 0 [.int .i64 g.rad, .int .i64 g.digs, .int .i64 g.lo, .int .i64 g.hi, .bool g.grad] (by kernel_rfl) (by kernel_rfl))))
    replace hT := (hT.past (bthru (bthru (bthru (bthru hbV1 hbV2) hbV3) hbV4) hbV5))
    refine se 15 63 #[.agg #[.int .i64 g.rad, .int .i64 g.digs, .int .i64 g.lo, .int .i64 g.hi, .bool g.grad]] (fun Gx hGx => ?_)
    ((with_reducible refine (gleast_any g _ G hT).mono ?_))
    rintro eV6 V6 ⟨p15, c15, rfl, ho15, hbV6⟩
    have hzV6 := hbV6.size
    refine ⟨.agg #[.bool ((leastD g).neg), .slice p15 (dig B32 (leastD g).m).length c15, .int .i64 ((leastD g).e)], rfl, hGx _ _ ?_⟩
    clear hGx Gx
    replace b4 := (b4.past (bthru (bthru hbV4 hbV5) hbV6))
    refine ss none b4 hT72 0 #[.bool ((leastD g).neg), .slice p15 (dig B32 (leastD g).m).length c15, .int .i64 ((leastD g).e)] #[.bool ((leastD g).neg), .slice p15 (dig B32 (leastD g).m).length c15, .int .i64 ((leastD g).e)] ?_
    have boV7 := b4
    clear b4
    intro V7 hOV7 b4
    have hzV7 := hOV7.size
    refine sv 5 (.bool true) ?_
    refine sx_nil ?_
    refine sx_then ?_
    refine wp_ret ?_
    have ⟨b4_0, b4_1, b4_2⟩ := b4.bx.e3
    repeat (first | with_reducible refine sx_thenret ?_ | with_reducible refine sx_blockret ?_)
    refine bodyPost_ret (v := .tuple #[.agg #[.bool ((leastD g).neg), .slice p15 (dig B32 (leastD g).m).length c15, .int .i64 ((leastD g).e)], .bool true]) (by simp [results, Tryd.results39, go_sem, b4_0, b4_1, b4_2]) rfl ?_
    replace ho15 := (ho15.put boV7 hOV7 (by kernel_rfl))
    exact ⟨p15, c15, rfl, ho15.mono (by omega), ((bthru (bthru (bthru (bthru (bthru hbV1 hbV2) hbV3) hbV4) hbV5) hbV6).trans (hOV7.below (by omega)))⟩
  · have hb := step_bd G hin h0
    obtain ⟨f1, f2, f3⟩ := fit_step G hin h0
    have f4 := f2 f3
    rw [← f4] at f1
    have hd2 := G.d2
    have hgl1 := G.l1
    have hgh2 := G.h2
    have fdl := fun K hK => fit_d_lt (neg := s) (num := m) (den := 1) (e := e) (g := g) (way := 3) (K := K) (by omega) G hK
    have wp := wid_pos g
    have hd1 := G.d1
    have hK := isK_one (show 0 < m by omega) e (w := wid g) (D := g.digs.toNat) wp.1 (by omega)
    have hl1 : (dig B32 1).length ≤ 1 := by rw [dig_len_le B32_two]; unfold B32; omega
    have hS1 : (S == 0) = false := beq_eq_false_iff_ne.2 (fun h => h0 (hS0.1 h))
    have hbd := sum_bd hB h0 (E := wid g * stepK ⟨s, m, e⟩ g) hl he ⟨by simp only at hb ⊢; omega, by simp only at hb ⊢; omega⟩
    replace fdl := fdl _ hK
    have ldp : (dig B32 (fitK s m 1 e g 3 ((e + blen m - 1) / wid g - g.digs.toNat + 1)).d).length ≤ 16 := Nat.le_trans (dig_len_mono B32_two (Nat.le_of_lt fdl)) (pow_small_len (Nat.mul_le_mul (show wid g ≤ 4 from wp.2) (show g.digs.toNat ≤ 120 by omega)))
    clear fdl
    have hmu := mul_bd (k := stepK ⟨s, m, e⟩ g) wp.2 (B := 17000) ⟨by have := G.l1; omega, by have := G.h2; omega⟩
    have HF := fun W q d (h1 : Rd W .u32 p (dig B32 m)) (h2 : Rd W .u32 q (dig B32 1)) => Lib.hid (fit_any s p q c d m 1 e g 3 _ W h1 h2 (by omega) (by omega) (by omega) (by omega) (by omega) G (by omega) (by omega) hK)
    rw [← f4] at hbd hmu
    generalize fitK s m 1 e g 3 ((e + blen m - 1) / wid g - g.digs.toNat + 1) = pf at *
    cases s with
    | false =>
      have hk : pStep ⟨false, m, e⟩ g = (rPlus ⟨false, m, e⟩ (oneD (wid g * pf.pow)), keepsD (rPlus ⟨false, m, e⟩ (oneD (wid g * pf.pow))) g) := by
        unfold pStep; rw [if_neg h0, if_pos rfl, ← f4, keeps_eq hbd.2.1 G]
      rw [hk]
      obtain ⟨b1, b2, b3, b4, b5⟩ := hbd
      have HP := fun W p25 c25 h1 h2 hT k => Lib.hid (plusD_any false false p p25 _ c _ c25 base e (wid g * pf.pow) m 1 W h1 h2 rfl rfl (by omega) (by omega) (by omega) (by omega) hT k)
      rw [show pPlus ⟨false, m, e⟩ ⟨false, 1, wid g * pf.pow⟩ = rPlus ⟨false, m, e⟩ (oneD (wid g * pf.pow)) from b1] at HP
      have ek : ∀ r : Dv, keepsD r g = keepsD ⟨r.neg, r.m, r.e⟩ g := fun _ => rfl
      rw [ek]
      clear ek
      generalize rPlus ⟨false, m, e⟩ (oneD (wid g * pf.pow)) = r at *
      have hT3 : SxOne Tryd.prog 3 := sxOne_of (by kernel_rfl) (by kernel_rfl)
      have hT4 : SxOne Tryd.prog 4 := sxOne_of (by kernel_rfl) (by kernel_rfl)
      have hT27 : SxAgg Tryd.prog 27 5 := sxAgg_of (by kernel_rfl) (by kernel_rfl)
      have hT61 : SxAgg Tryd.prog 61 6 := sxAgg_of (by kernel_rfl) (by kernel_rfl)
      have hT72 : SxAgg Tryd.prog 72 3 := sxAgg_of (by kernel_rfl) (by kernel_rfl)
      refine calls_of_wp Tryd.func39 rfl ?_
      refine sx_frame (a' := ⟨((.agg #[.bool false, .slice p (dig B32 m).length c, .int .i64 e]) :: (.agg #[.int .i64 g.rad, .int .i64 g.digs, .int .i64 g.lo, .int .i64 g.hi, .bool g.grad]) :: undef :: undef :: undef :: undef :: undef :: undef :: undef :: undef :: undef :: undef :: undef :: undef :: undef :: undef :: undef :: undef :: undef :: undef :: undef :: undef :: undef :: undef :: undef :: undef :: undef :: undef :: undef :: undef :: undef :: undef :: undef :: undef :: undef :: undef :: undef :: undef :: undef :: undef :: undef :: undef :: undef :: undef :: undef :: undef :: undef :: undef :: undef :: undef :: undef :: undef :: undef :: undef :: undef :: undef :: undef :: undef :: undef :: undef :: undef :: undef :: undef :: undef :: undef :: undef :: undef :: undef :: undef :: undef :: undef :: undef :: undef :: undef :: undef :: undef :: []).toArray, []⟩) (by kernel_rfl) ?_
      refine wp_seq ?_
      refine sx_region ?_
      refine sn 2 #[.bool false, .slice p (dig B32 m).length c, .int .i64 e] 72 (fun V1 hbV1 hzV1 b2 => ?_)
      refine sn 3 #[.int .i64 g.rad, .int .i64 g.digs, .int .i64 g.lo, .int .i64 g.hi, .bool g.grad] 27 (fun V2 hbV2 hzV2 b3 => ?_)
      refine sn 4 #[.bool false, .slice none 0 0, .int .i64 0] 72 (fun V3 hbV3 hzV3 b4 => ?_)
      refine sv 5 (.bool false) ?_
      refine sx_nil ?_
      refine sx_then ?_
      refine wp_seq ?_
      refine sx_region ?_
      replace b3 := (b3.past hbV3)
      refine sv 9 (.agg #[.int .i64 g.rad, .int .i64 g.digs, .int .i64 g.lo, .int .i64 g.hi, .bool g.grad]) ?_ (hr := (exec_ld (by kernel_rfl) (run_ld b3 hT27 0 [.int .i64 g.rad, .int .i64 g.digs, .int .i64 g.lo, .int .i64 g.hi, .bool g.grad] (by kernel_rfl) (by kernel_rfl))))
      refine se 10 51 #[.agg #[.int .i64 g.rad, .int .i64 g.digs, .int .i64 g.lo, .int .i64 g.hi, .bool g.grad]] (fun Gx hGx => ?_)
      ((with_reducible refine (width_any g _).mono ?_))
      rintro eV4 V4 ⟨rfl, hbV4⟩
      have hzV4 := hbV4.size
      refine ⟨.int .i64 ((wid g : Nat) : Int), rfl, hGx _ _ ?_⟩
      clear hGx Gx
      refine sv 6 (.int .i64 ((wid g : Nat) : Int)) ?_
      refine sx_nil ?_
      refine sx_then ?_
      refine wp_seq ?_
      refine wp_seq ?_
      refine sx_region ?_
      replace b2 := (b2.past (bthru (bthru hbV2 hbV3) hbV4))
      refine sv 11 (.agg #[.bool false, .slice p (dig B32 m).length c, .int .i64 e]) ?_ (hr := (exec_ld (by kernel_rfl) (run_ld b2 hT72 0 [.bool false, .slice p (dig B32 m).length c, .int .i64 e] (by kernel_rfl) (by kernel_rfl))))
      refine se 12 53 #[.agg #[.bool false, .slice p (dig B32 m).length c, .int .i64 e]] (fun Gx hGx => ?_)
      ((with_reducible refine ((HS _).out).mono ?_))
      rintro eV5 V5 ⟨rfl, hbV5⟩
      have hzV5 := hbV5.size
      refine ⟨.int .i64 S, rfl, hGx _ _ ?_⟩
      clear hGx Gx
      refine sv 13 (.bool false) ?_ (hr := ((show _ = Result.ok (Next.value (.bool (S == 0))) _ from (by kernel_rfl)).trans (congrArg (fun z => Result.ok (Next.value (.bool z)) _) (show (S == 0) = false from hS1))))
      refine sx_nil ?_
      refine sx_then ?_
      refine wp_cond_false (by kernel_rfl) ?_
      refine wp_skip ?_
      refine sx_then ?_
      refine wp_seq ?_
      refine sx_cutg (R := fun a' w' => ∃ (kb7 : Nat) (q17 : Option Addr) (d17 : Nat) (p19 : Option Addr) (c19 : Nat), a' = ⟨((.agg #[.bool false, .slice p (dig B32 m).length c, .int .i64 e]) :: (.agg #[.int .i64 g.rad, .int .i64 g.digs, .int .i64 g.lo, .int .i64 g.hi, .bool g.grad]) :: (.pointer (some ⟨w.heap.size, 0, none⟩)) :: (.pointer (some ⟨V1.heap.size, 0, none⟩)) :: (.pointer (some ⟨V2.heap.size, 0, none⟩)) :: (.bool false) :: (.int .i64 ((wid g : Nat) : Int)) :: (.pointer (some ⟨kb7, 0, none⟩)) :: undef :: (.agg #[.int .i64 g.rad, .int .i64 g.digs, .int .i64 g.lo, .int .i64 g.hi, .bool g.grad]) :: (.int .i64 ((wid g : Nat) : Int)) :: (.agg #[.bool false, .slice p (dig B32 m).length c, .int .i64 e]) :: (.int .i64 S) :: (.bool false) :: undef :: undef :: (.agg #[.bool false, .slice p (dig B32 m).length c, .int .i64 e]) :: (.agg #[.bool false, .slice p (dig B32 m).length c, .slice q17 (dig B32 1).length d17, .int .i64 e]) :: (.agg #[.int .i64 g.rad, .int .i64 g.digs, .int .i64 g.lo, .int .i64 g.hi, .bool g.grad]) :: (.agg #[.bool pf.neg, .slice p19 (dig B32 pf.d).length c19, .int .i64 pf.pow, .bool pf.exact, .bool pf.over, .bool pf.under]) :: undef :: undef :: undef :: undef :: undef :: undef :: undef :: undef :: undef :: undef :: undef :: undef :: undef :: undef :: undef :: undef :: undef :: undef :: undef :: undef :: undef :: undef :: undef :: undef :: undef :: undef :: undef :: undef :: undef :: undef :: undef :: undef :: undef :: undef :: undef :: undef :: undef :: undef :: undef :: undef :: undef :: undef :: undef :: undef :: undef :: undef :: undef :: undef :: undef :: undef :: undef :: undef :: undef :: undef :: undef :: undef :: []).toArray, []⟩ ∧ Bt w' kb7 61 #[.bool pf.neg, .slice p19 (dig B32 pf.d).length c19, .int .i64 pf.pow, .bool pf.exact, .bool pf.over, .bool pf.under] ∧ Own w' V5.heap.size .u32 46 q17 d17 (dig B32 1) ∧ Own w' V5.heap.size .u32 46 p19 c19 (dig B32 pf.d) ∧ Below V5.heap.size V5 w' ∧ V5.heap.size ≤ kb7) ?_ (fun Gx hGx => ?_)
      · skip
        replace b2 := (b2.past hbV5)
        replace b3 := (b3.past (bthru hbV4 hbV5))
        obtain ⟨V6, hVV6⟩ : ∃ V, V = (V5).drew := ⟨_, rfl⟩
        have hbV6 : Below (V5).heap.size (V5) V6 := by rw [hVV6]; exact (Below.refl _ _).drew
        have hzV6 : V6.heap.size = (V5).heap.size := by rw [hVV6]; rfl
        replace b2 := (b2.past hbV6)
        replace b3 := (b3.past hbV6)
        refine sxd _ (fun w' => Bt w' w.heap.size 72 #[.bool false, .slice p (dig B32 m).length c, .int .i64 e] ∧ Bt w' V1.heap.size 27 #[.int .i64 g.rad, .int .i64 g.digs, .int .i64 g.lo, .int .i64 g.hi, .bool g.grad]) hVV6 ⟨b2, b3⟩ ?_
        clear hVV6
        refine tk 0 16 (.agg #[.bool false, .slice p (dig B32 m).length c, .int .i64 e]) ⟨b2, b3⟩ ?_ (hy := fun w' hS => (exec_ld (by kernel_rfl) (run_ld hS.1 hT72 0 [.bool false, .slice p (dig B32 m).length c, .int .i64 e] (by kernel_rfl) (by kernel_rfl))))
        refine tk 2 18 (.agg #[.int .i64 g.rad, .int .i64 g.digs, .int .i64 g.lo, .int .i64 g.hi, .bool g.grad]) ⟨b2, b3⟩ ?_ (hy := fun w' hS => (exec_ld (by kernel_rfl) (run_ld hS.2 hT27 0 [.int .i64 g.rad, .int .i64 g.digs, .int .i64 g.lo, .int .i64 g.hi, .bool g.grad] (by kernel_rfl) (by kernel_rfl))))
        refine sxr [1, 4] ?_
        refine rd2 (fun Kx hKx => ?_) ?_
        · skip
          refine sek 17 62 #[.agg #[.bool false, .slice p (dig B32 m).length c, .int .i64 e]] ?_
          ((with_reducible refine (gratio_any false p _ c e _).mono ?_))
          rintro eV7 V7 ⟨q17, d17, rfl, ho17, hbV7⟩
          have hzV7 := hbV7.size
          refine ⟨.agg #[.bool false, .slice p (dig B32 m).length c, .slice q17 (dig B32 1).length d17, .int .i64 e], rfl, ?_⟩
          replace b2 := (b2.past hbV7)
          replace b3 := (b3.past hbV7)
          refine hKx.out _ _ ⟨b2, b3⟩ ?_
          clear hKx Kx
          refine sxr [3, 4] ?_
          refine rd2 (fun Kx hKx => ?_) ?_
          · skip
            replace hp := (hp.past (bthru (bthru (bthru (bthru (bthru (bthru hbV1 hbV2) hbV3) hbV4) hbV5) hbV6) hbV7))
            refine sek 19 49 #[.agg #[.bool false, .slice p (dig B32 m).length c, .slice q17 (dig B32 1).length d17, .int .i64 e], .agg #[.int .i64 g.rad, .int .i64 g.digs, .int .i64 g.lo, .int .i64 g.hi, .bool g.grad], .int .i64 3] ?_
            ((with_reducible refine ((HF _ q17 d17 hp.rd ho17.rd).out).mono ?_))
            rintro eV8 V8 ⟨p19, c19, rfl, ho19, hbV8⟩
            have hzV8 := hbV8.size
            refine ⟨.agg #[.bool pf.neg, .slice p19 (dig B32 pf.d).length c19, .int .i64 pf.pow, .bool pf.exact, .bool pf.over, .bool pf.under], rfl, ?_⟩
            replace b2 := (b2.past hbV8)
            replace b3 := (b3.past hbV8)
            refine hKx.out _ _ ⟨b2, b3⟩ ?_
            clear hKx Kx
            refine sxr [4] ?_
            refine rd1 (fun Kx hKx => ?_)
            refine snk 7 #[.bool false, .slice none 0 0, .int .i64 0, .bool false, .bool false, .bool false] 61 (fun V9 hbV9 hzV9 b7 => ?_)
            replace b2 := (b2.past hbV9)
            replace b3 := (b3.past hbV9)
            refine hKx.out _ _ ⟨b2, b3⟩ ?_
            clear hKx Kx
            refine sxr [5] ?_
            refine rd1 (fun Kx hKx => ?_)
            refine ssk none b7 hT61 0 #[.bool pf.neg, .slice p19 (dig B32 pf.d).length c19, .int .i64 pf.pow, .bool pf.exact, .bool pf.over, .bool pf.under] #[.bool pf.neg, .slice p19 (dig B32 pf.d).length c19, .int .i64 pf.pow, .bool pf.exact, .bool pf.over, .bool pf.under] ?_
            have boV10 := b7
            clear b7
            intro V10 hOV10 b7
            have hzV10 := hOV10.size
            replace b2 := (b2.only hOV10 (by omega))
            replace b3 := (b3.only hOV10 (by omega))
            refine hKx.out _ _ ⟨b2, b3⟩ ?_
            clear hKx Kx
            refine sx_done (by kernel_rfl) ?_
            replace ho17 := (ho17.past ((bthru hbV8 hbV9).trans (hOV10.below (by omega))))
            replace ho19 := (ho19.past (hbV9.trans (hOV10.below (by omega))))
            exact ⟨rfl, V8.heap.size, q17, d17, p19, c19, by kernel_rfl, b7, (ho17.mono (by omega)), (ho19.mono (by omega)), ((bthru (bthru (bthru hbV6 hbV7) hbV8) hbV9).trans (hOV10.below (by omega))), by omega⟩
          refine rd1 (fun Kx hKx => ?_)
          refine snk 7 #[.bool false, .slice none 0 0, .int .i64 0, .bool false, .bool false, .bool false] 61 (fun V8 hbV8 hzV8 b7 => ?_)
          replace b2 := (b2.past hbV8)
          replace b3 := (b3.past hbV8)
          refine hKx.out _ _ ⟨b2, b3⟩ ?_
          clear hKx Kx
          refine sxr [3] ?_
          refine rd1 (fun Kx hKx => ?_)
          replace hp := (hp.past (bthru (bthru (bthru (bthru (bthru (bthru (bthru hbV1 hbV2) hbV3) hbV4) hbV5) hbV6) hbV7) hbV8))
          replace ho17 := (ho17.past hbV8)
          refine sek 19 49 #[.agg #[.bool false, .slice p (dig B32 m).length c, .slice q17 (dig B32 1).length d17, .int .i64 e], .agg #[.int .i64 g.rad, .int .i64 g.digs, .int .i64 g.lo, .int .i64 g.hi, .bool g.grad], .int .i64 3] ?_
          ((with_reducible refine ((HF _ q17 d17 hp.rd ho17.rd).out).mono ?_))
          rintro eV9 V9 ⟨p19, c19, rfl, ho19, hbV9⟩
          have hzV9 := hbV9.size
          refine ⟨.agg #[.bool pf.neg, .slice p19 (dig B32 pf.d).length c19, .int .i64 pf.pow, .bool pf.exact, .bool pf.over, .bool pf.under], rfl, ?_⟩
          replace b2 := (b2.past hbV9)
          replace b3 := (b3.past hbV9)
          refine hKx.out _ _ ⟨b2, b3⟩ ?_
          clear hKx Kx
          refine sxr [5] ?_
          refine rd1 (fun Kx hKx => ?_)
          replace b7 := (b7.past hbV9)
          refine ssk none b7 hT61 0 #[.bool pf.neg, .slice p19 (dig B32 pf.d).length c19, .int .i64 pf.pow, .bool pf.exact, .bool pf.over, .bool pf.under] #[.bool pf.neg, .slice p19 (dig B32 pf.d).length c19, .int .i64 pf.pow, .bool pf.exact, .bool pf.over, .bool pf.under] ?_
          have boV10 := b7
          clear b7
          intro V10 hOV10 b7
          have hzV10 := hOV10.size
          replace b2 := (b2.only hOV10 (by omega))
          replace b3 := (b3.only hOV10 (by omega))
          refine hKx.out _ _ ⟨b2, b3⟩ ?_
          clear hKx Kx
          refine sx_done (by kernel_rfl) ?_
          replace ho17 := ((ho17.past hbV9).put boV10 hOV10 (by kernel_rfl))
          replace ho19 := (ho19.put boV10 hOV10 (by kernel_rfl))
          exact ⟨rfl, V7.heap.size, q17, d17, p19, c19, by kernel_rfl, b7, (ho17.mono (by omega)), (ho19.mono (by omega)), ((bthru (bthru (bthru hbV6 hbV7) hbV8) hbV9).trans (hOV10.below (by omega))), by omega⟩
        refine rd1 (fun Kx hKx => ?_)
        refine snk 7 #[.bool false, .slice none 0 0, .int .i64 0, .bool false, .bool false, .bool false] 61 (fun V7 hbV7 hzV7 b7 => ?_)
        replace b2 := (b2.past hbV7)
        replace b3 := (b3.past hbV7)
        refine hKx.out _ _ ⟨b2, b3⟩ ?_
        clear hKx Kx
        refine sxr [1] ?_
        refine rd1 (fun Kx hKx => ?_)
        refine sek 17 62 #[.agg #[.bool false, .slice p (dig B32 m).length c, .int .i64 e]] ?_
        ((with_reducible refine (gratio_any false p _ c e _).mono ?_))
        rintro eV8 V8 ⟨q17, d17, rfl, ho17, hbV8⟩
        have hzV8 := hbV8.size
        refine ⟨.agg #[.bool false, .slice p (dig B32 m).length c, .slice q17 (dig B32 1).length d17, .int .i64 e], rfl, ?_⟩
        replace b2 := (b2.past hbV8)
        replace b3 := (b3.past hbV8)
        refine hKx.out _ _ ⟨b2, b3⟩ ?_
        clear hKx Kx
        refine sxr [3] ?_
        refine rd1 (fun Kx hKx => ?_)
        replace hp := (hp.past (bthru (bthru (bthru (bthru (bthru (bthru (bthru hbV1 hbV2) hbV3) hbV4) hbV5) hbV6) hbV7) hbV8))
        refine sek 19 49 #[.agg #[.bool false, .slice p (dig B32 m).length c, .slice q17 (dig B32 1).length d17, .int .i64 e], .agg #[.int .i64 g.rad, .int .i64 g.digs, .int .i64 g.lo, .int .i64 g.hi, .bool g.grad], .int .i64 3] ?_
        ((with_reducible refine ((HF _ q17 d17 hp.rd ho17.rd).out).mono ?_))
        rintro eV9 V9 ⟨p19, c19, rfl, ho19, hbV9⟩
        have hzV9 := hbV9.size
        refine ⟨.agg #[.bool pf.neg, .slice p19 (dig B32 pf.d).length c19, .int .i64 pf.pow, .bool pf.exact, .bool pf.over, .bool pf.under], rfl, ?_⟩
        replace b2 := (b2.past hbV9)
        replace b3 := (b3.past hbV9)
        refine hKx.out _ _ ⟨b2, b3⟩ ?_
        clear hKx Kx
        refine sxr [5] ?_
        refine rd1 (fun Kx hKx => ?_)
        replace b7 := (b7.past (bthru hbV8 hbV9))
        refine ssk none b7 hT61 0 #[.bool pf.neg, .slice p19 (dig B32 pf.d).length c19, .int .i64 pf.pow, .bool pf.exact, .bool pf.over, .bool pf.under] #[.bool pf.neg, .slice p19 (dig B32 pf.d).length c19, .int .i64 pf.pow, .bool pf.exact, .bool pf.over, .bool pf.under] ?_
        have boV10 := b7
        clear b7
        intro V10 hOV10 b7
        have hzV10 := hOV10.size
        replace b2 := (b2.only hOV10 (by omega))
        replace b3 := (b3.only hOV10 (by omega))
        refine hKx.out _ _ ⟨b2, b3⟩ ?_
        clear hKx Kx
        refine sx_done (by kernel_rfl) ?_
        replace ho17 := ((ho17.past hbV9).put boV10 hOV10 (by kernel_rfl))
        replace ho19 := (ho19.put boV10 hOV10 (by kernel_rfl))
        exact ⟨rfl, V6.heap.size, q17, d17, p19, c19, by kernel_rfl, b7, (ho17.mono (by omega)), (ho19.mono (by omega)), ((bthru (bthru (bthru hbV6 hbV7) hbV8) hbV9).trans (hOV10.below (by omega))), by omega⟩
      rintro _ V6 ⟨kb7, q17, d17, p19, c19, rfl, b7, ho17, ho19, hbV6, hkb7⟩
      refine hGx _ _ ?_
      clear hGx Gx
      have hzV6 := hbV6.size
      have hlb7 := b7.lt
      refine sx_then ?_
      refine wp_seq ?_
      refine sx_cutg (R := fun a' w' => ∃ (kb8 : Nat) (q20 : Option Addr) (d20 : Nat) (p25 : Option Addr) (c25 : Nat), a' = ⟨((.agg #[.bool false, .slice p (dig B32 m).length c, .int .i64 e]) :: (.agg #[.int .i64 g.rad, .int .i64 g.digs, .int .i64 g.lo, .int .i64 g.hi, .bool g.grad]) :: (.pointer (some ⟨w.heap.size, 0, none⟩)) :: (.pointer (some ⟨V1.heap.size, 0, none⟩)) :: (.pointer (some ⟨V2.heap.size, 0, none⟩)) :: (.bool false) :: (.int .i64 ((wid g : Nat) : Int)) :: (.pointer (some ⟨kb7, 0, none⟩)) :: (.pointer (some ⟨kb8, 0, none⟩)) :: (.agg #[.int .i64 g.rad, .int .i64 g.digs, .int .i64 g.lo, .int .i64 g.hi, .bool g.grad]) :: (.int .i64 ((wid g : Nat) : Int)) :: (.agg #[.bool false, .slice p (dig B32 m).length c, .int .i64 e]) :: (.int .i64 S) :: (.bool false) :: undef :: undef :: (.agg #[.bool false, .slice p (dig B32 m).length c, .int .i64 e]) :: (.agg #[.bool false, .slice p (dig B32 m).length c, .slice q17 (dig B32 1).length d17, .int .i64 e]) :: (.agg #[.int .i64 g.rad, .int .i64 g.digs, .int .i64 g.lo, .int .i64 g.hi, .bool g.grad]) :: (.agg #[.bool pf.neg, .slice p19 (dig B32 pf.d).length c19, .int .i64 pf.pow, .bool pf.exact, .bool pf.over, .bool pf.under]) :: (.slice q20 (dig B32 1).length d20) :: (.int .i64 ((wid g : Nat) : Int)) :: (.pointer (some ⟨kb7, 2, none⟩)) :: (.int .i64 pf.pow) :: (.int .i64 (((wid g : Nat) : Int) * pf.pow)) :: (.agg #[.bool false, .slice p25 (dig B32 1).length c25, .int .i64 ((wid g : Int) * pf.pow)]) :: undef :: undef :: undef :: undef :: undef :: undef :: undef :: undef :: undef :: undef :: undef :: undef :: undef :: undef :: undef :: undef :: undef :: undef :: undef :: undef :: undef :: undef :: undef :: undef :: undef :: undef :: undef :: undef :: undef :: undef :: undef :: undef :: undef :: undef :: undef :: undef :: undef :: undef :: undef :: undef :: undef :: undef :: undef :: undef :: undef :: undef :: undef :: undef :: undef :: undef :: []).toArray, []⟩ ∧ Bt w' kb8 72 #[.bool false, .slice p25 (dig B32 1).length c25, .int .i64 ((wid g : Int) * pf.pow)] ∧ Own w' V6.heap.size .u32 46 q20 d20 (dig B32 1) ∧ Own w' V6.heap.size .u32 46 p25 c25 (dig B32 1) ∧ Below V6.heap.size V6 w' ∧ V6.heap.size ≤ kb8) ?_ (fun Gx hGx => ?_)
      · skip
        obtain ⟨V7, hVV7⟩ : ∃ V, V = (V6).drew := ⟨_, rfl⟩
        have hbV7 : Below (V6).heap.size (V6) V7 := by rw [hVV7]; exact (Below.refl _ _).drew
        have hzV7 : V7.heap.size = (V6).heap.size := by rw [hVV7]; rfl
        replace b7 := (b7.past hbV7)
        refine sxd _ (fun w' => Bt w' kb7 61 #[.bool pf.neg, .slice p19 (dig B32 pf.d).length c19, .int .i64 pf.pow, .bool pf.exact, .bool pf.over, .bool pf.under]) hVV7 b7 ?_
        clear hVV7
        refine tk 1 21 (.int .i64 ((wid g : Nat) : Int)) b7 ?_
        refine tk 2 22 (.pointer (some ⟨kb7, 2, none⟩)) b7 ?_
        refine tk 3 23 (.int .i64 pf.pow) b7 ?_ (hy := fun w' hS => (exec_ld (by kernel_rfl) (run_ld1 hS hT3 2 (.int .i64 pf.pow) (by kernel_rfl))))
        refine tk 4 24 (.int .i64 (((wid g : Nat) : Int) * pf.pow)) b7 ?_ (hy := fun w' _ => ((show _ = Result.ok (Next.value (.int .i64 (IntKind.wrap .i64 (((wid g : Nat) : Int) * pf.pow)))) _ by kernel_rfl).trans (congrArg (fun z => Result.ok (Next.value (.int .i64 z)) _) (IntWalk.i64_in _ (by omega)))))
        refine sxr [0, 6] ?_
        refine rd2 (fun Kx hKx => ?_) ?_
        · skip
          refine sek 20 64 #[.int .i64 1] ?_
          ((with_reducible refine (gof_one _).mono ?_))
          rintro eV8 V8 ⟨q20, d20, rfl, ho20, hbV8⟩
          have hzV8 := hbV8.size
          refine ⟨.slice q20 (dig B32 1).length d20, rfl, ?_⟩
          replace b7 := (b7.past hbV8)
          refine hKx.out _ _ b7 ?_
          clear hKx Kx
          refine sxr [5, 6] ?_
          refine rd2 (fun Kx hKx => ?_) ?_
          · skip
            replace hT := (hT.past (bthru (bthru (bthru (bthru (bthru (bthru (bthru hbV1 hbV2) hbV3) hbV4) hbV5) hbV6) hbV7) hbV8))
            refine sek 25 50 #[.slice q20 (dig B32 1).length d20, .int .i64 (((wid g : Nat) : Int) * pf.pow)] ?_
            ((with_reducible refine (whole_one q20 d20 _ _ _ ho20 (by omega) hT).mono ?_))
            rintro eV9 V9 ⟨p25, c25, rfl, ho25, hbV9⟩
            have hzV9 := hbV9.size
            refine ⟨.agg #[.bool false, .slice p25 (dig B32 1).length c25, .int .i64 ((wid g : Int) * pf.pow)], rfl, ?_⟩
            replace b7 := (b7.past hbV9)
            refine hKx.out _ _ b7 ?_
            clear hKx Kx
            refine sxr [6] ?_
            refine rd1 (fun Kx hKx => ?_)
            refine snk 8 #[.bool false, .slice none 0 0, .int .i64 0] 72 (fun V10 hbV10 hzV10 b8 => ?_)
            replace b7 := (b7.past hbV10)
            refine hKx.out _ _ b7 ?_
            clear hKx Kx
            refine sxr [7] ?_
            refine rd1 (fun Kx hKx => ?_)
            refine ssk none b8 hT72 0 #[.bool false, .slice p25 (dig B32 1).length c25, .int .i64 ((wid g : Int) * pf.pow)] #[.bool false, .slice p25 (dig B32 1).length c25, .int .i64 ((wid g : Int) * pf.pow)] ?_
            have boV11 := b8
            clear b8
            intro V11 hOV11 b8
            have hzV11 := hOV11.size
            replace b7 := (b7.only hOV11 (by omega))
            refine hKx.out _ _ b7 ?_
            clear hKx Kx
            refine sx_done (by kernel_rfl) ?_
            replace ho20 := (ho20.past ((bthru hbV9 hbV10).trans (hOV11.below (by omega))))
            replace ho25 := (ho25.past (hbV10.trans (hOV11.below (by omega))))
            exact ⟨rfl, V9.heap.size, q20, d20, p25, c25, by kernel_rfl, b8, (ho20.mono (by omega)), (ho25.mono (by omega)), ((bthru (bthru (bthru hbV7 hbV8) hbV9) hbV10).trans (hOV11.below (by omega))), by omega⟩
          refine rd1 (fun Kx hKx => ?_)
          refine snk 8 #[.bool false, .slice none 0 0, .int .i64 0] 72 (fun V9 hbV9 hzV9 b8 => ?_)
          replace b7 := (b7.past hbV9)
          refine hKx.out _ _ b7 ?_
          clear hKx Kx
          refine sxr [5] ?_
          refine rd1 (fun Kx hKx => ?_)
          replace ho20 := (ho20.past hbV9)
          replace hT := (hT.past (bthru (bthru (bthru (bthru (bthru (bthru (bthru (bthru hbV1 hbV2) hbV3) hbV4) hbV5) hbV6) hbV7) hbV8) hbV9))
          refine sek 25 50 #[.slice q20 (dig B32 1).length d20, .int .i64 (((wid g : Nat) : Int) * pf.pow)] ?_
          ((with_reducible refine (whole_one q20 d20 _ _ _ ho20 (by omega) hT).mono ?_))
          rintro eV10 V10 ⟨p25, c25, rfl, ho25, hbV10⟩
          have hzV10 := hbV10.size
          refine ⟨.agg #[.bool false, .slice p25 (dig B32 1).length c25, .int .i64 ((wid g : Int) * pf.pow)], rfl, ?_⟩
          replace b7 := (b7.past hbV10)
          refine hKx.out _ _ b7 ?_
          clear hKx Kx
          refine sxr [7] ?_
          refine rd1 (fun Kx hKx => ?_)
          replace b8 := (b8.past hbV10)
          refine ssk none b8 hT72 0 #[.bool false, .slice p25 (dig B32 1).length c25, .int .i64 ((wid g : Int) * pf.pow)] #[.bool false, .slice p25 (dig B32 1).length c25, .int .i64 ((wid g : Int) * pf.pow)] ?_
          have boV11 := b8
          clear b8
          intro V11 hOV11 b8
          have hzV11 := hOV11.size
          replace b7 := (b7.only hOV11 (by omega))
          refine hKx.out _ _ b7 ?_
          clear hKx Kx
          refine sx_done (by kernel_rfl) ?_
          replace ho20 := ((ho20.past hbV10).put boV11 hOV11 (by kernel_rfl))
          replace ho25 := (ho25.put boV11 hOV11 (by kernel_rfl))
          exact ⟨rfl, V8.heap.size, q20, d20, p25, c25, by kernel_rfl, b8, (ho20.mono (by omega)), (ho25.mono (by omega)), ((bthru (bthru (bthru hbV7 hbV8) hbV9) hbV10).trans (hOV11.below (by omega))), by omega⟩
        refine rd1 (fun Kx hKx => ?_)
        refine snk 8 #[.bool false, .slice none 0 0, .int .i64 0] 72 (fun V8 hbV8 hzV8 b8 => ?_)
        replace b7 := (b7.past hbV8)
        refine hKx.out _ _ b7 ?_
        clear hKx Kx
        refine sxr [0] ?_
        refine rd1 (fun Kx hKx => ?_)
        refine sek 20 64 #[.int .i64 1] ?_
        ((with_reducible refine (gof_one _).mono ?_))
        rintro eV9 V9 ⟨q20, d20, rfl, ho20, hbV9⟩
        have hzV9 := hbV9.size
        refine ⟨.slice q20 (dig B32 1).length d20, rfl, ?_⟩
        replace b7 := (b7.past hbV9)
        refine hKx.out _ _ b7 ?_
        clear hKx Kx
        refine sxr [5] ?_
        refine rd1 (fun Kx hKx => ?_)
        replace hT := (hT.past (bthru (bthru (bthru (bthru (bthru (bthru (bthru (bthru hbV1 hbV2) hbV3) hbV4) hbV5) hbV6) hbV7) hbV8) hbV9))
        refine sek 25 50 #[.slice q20 (dig B32 1).length d20, .int .i64 (((wid g : Nat) : Int) * pf.pow)] ?_
        ((with_reducible refine (whole_one q20 d20 _ _ _ ho20 (by omega) hT).mono ?_))
        rintro eV10 V10 ⟨p25, c25, rfl, ho25, hbV10⟩
        have hzV10 := hbV10.size
        refine ⟨.agg #[.bool false, .slice p25 (dig B32 1).length c25, .int .i64 ((wid g : Int) * pf.pow)], rfl, ?_⟩
        replace b7 := (b7.past hbV10)
        refine hKx.out _ _ b7 ?_
        clear hKx Kx
        refine sxr [7] ?_
        refine rd1 (fun Kx hKx => ?_)
        replace b8 := (b8.past (bthru hbV9 hbV10))
        refine ssk none b8 hT72 0 #[.bool false, .slice p25 (dig B32 1).length c25, .int .i64 ((wid g : Int) * pf.pow)] #[.bool false, .slice p25 (dig B32 1).length c25, .int .i64 ((wid g : Int) * pf.pow)] ?_
        have boV11 := b8
        clear b8
        intro V11 hOV11 b8
        have hzV11 := hOV11.size
        replace b7 := (b7.only hOV11 (by omega))
        refine hKx.out _ _ b7 ?_
        clear hKx Kx
        refine sx_done (by kernel_rfl) ?_
        replace ho20 := ((ho20.past hbV10).put boV11 hOV11 (by kernel_rfl))
        replace ho25 := (ho25.put boV11 hOV11 (by kernel_rfl))
        exact ⟨rfl, V7.heap.size, q20, d20, p25, c25, by kernel_rfl, b8, (ho20.mono (by omega)), (ho25.mono (by omega)), ((bthru (bthru (bthru hbV7 hbV8) hbV9) hbV10).trans (hOV11.below (by omega))), by omega⟩
      rintro _ V7 ⟨kb8, q20, d20, p25, c25, rfl, b8, ho20, ho25, hbV7, hkb8⟩
      refine hGx _ _ ?_
      clear hGx Gx
      have hzV7 := hbV7.size
      have hlb8 := b8.lt
      refine sx_then ?_
      refine wp_seq ?_
      refine wp_seq ?_
      refine sx_region ?_
      refine sv 26 (.pointer (some ⟨w.heap.size, 0, none⟩)) ?_
      refine sv 27 (.pointer (some ⟨w.heap.size, 0, none⟩)) ?_
      replace b2 := (b2.past (bthru (bthru hbV5 hbV6) hbV7))
      refine sv 28 (.bool false) ?_ (hr := (exec_ld (by kernel_rfl) (run_ld1 b2 hT4 0 (.bool false) (by kernel_rfl))))
      refine sv 29 (.bool true) ?_
      refine sx_nil ?_
      refine sx_then ?_
      refine wp_cond_true (by kernel_rfl) ?_
      refine sx_region ?_
      refine sv 30 (.agg #[.bool false, .slice p (dig B32 m).length c, .int .i64 e]) ?_ (hr := (exec_ld (by kernel_rfl) (run_ld b2 hT72 0 [.bool false, .slice p (dig B32 m).length c, .int .i64 e] (by kernel_rfl) (by kernel_rfl))))
      refine sv 31 (.agg #[.bool false, .slice p25 (dig B32 1).length c25, .int .i64 ((wid g : Int) * pf.pow)]) ?_ (hr := (exec_ld (by kernel_rfl) (run_ld b8 hT72 0 [.bool false, .slice p25 (dig B32 1).length c25, .int .i64 ((wid g : Int) * pf.pow)] (by kernel_rfl) (by kernel_rfl))))
      replace hp := (hp.past (bthru (bthru (bthru (bthru (bthru (bthru hbV1 hbV2) hbV3) hbV4) hbV5) hbV6) hbV7))
      replace hT := (hT.past (bthru (bthru (bthru (bthru (bthru (bthru hbV1 hbV2) hbV3) hbV4) hbV5) hbV6) hbV7))
      refine se 32 65 #[.agg #[.bool false, .slice p (dig B32 m).length c, .int .i64 e], .agg #[.bool false, .slice p25 (dig B32 1).length c25, .int .i64 ((wid g : Int) * pf.pow)]] (fun Gx hGx => ?_)
      ((with_reducible refine ((HP _ p25 c25 hp (ho25.mono (by omega)) hT (by omega)).out).mono ?_))
      rintro eV8 V8 ⟨p32, c32, rfl, ho32, hbV8⟩
      have hzV8 := hbV8.size
      refine ⟨.agg #[.bool r.neg, .slice p32 (dig B32 r.m).length c32, .int .i64 r.e], rfl, hGx _ _ ?_⟩
      clear hGx Gx
      replace b2 := (b2.past hbV8)
      refine ss none b2 hT72 0 #[.bool r.neg, .slice p32 (dig B32 r.m).length c32, .int .i64 r.e] #[.bool r.neg, .slice p32 (dig B32 r.m).length c32, .int .i64 r.e] ?_
      have boV9 := b2
      clear b2
      intro V9 hOV9 b2
      have hzV9 := hOV9.size
      refine sx_nil ?_
      refine sx_then ?_
      refine wp_seq ?_
      replace b3 := ((b3.past (bthru (bthru (bthru (bthru hbV4 hbV5) hbV6) hbV7) hbV8)).only hOV9 (by omega))
      obtain ⟨V10, hVV10⟩ : ∃ V, V = (V9).drew := ⟨_, rfl⟩
      have hbV10 : Below (V9).heap.size (V9) V10 := by rw [hVV10]; exact (Below.refl _ _).drew
      have hzV10 : V10.heap.size = (V9).heap.size := by rw [hVV10]; rfl
      replace b2 := (b2.past hbV10)
      replace b3 := (b3.past hbV10)
      refine sxd _ (fun w' => Bt w' w.heap.size 72 #[.bool r.neg, .slice p32 (dig B32 r.m).length c32, .int .i64 r.e] ∧ Bt w' V1.heap.size 27 #[.int .i64 g.rad, .int .i64 g.digs, .int .i64 g.lo, .int .i64 g.hi, .bool g.grad]) hVV10 ⟨b2, b3⟩ ?_
      clear hVV10
      refine tk 0 72 (.agg #[.bool r.neg, .slice p32 (dig B32 r.m).length c32, .int .i64 r.e]) ⟨b2, b3⟩ ?_ (hy := fun w' hS => (exec_ld (by kernel_rfl) (run_ld hS.1 hT72 0 [.bool r.neg, .slice p32 (dig B32 r.m).length c32, .int .i64 r.e] (by kernel_rfl) (by kernel_rfl))))
      refine tk 1 73 (.agg #[.bool r.neg, .slice p32 (dig B32 r.m).length c32, .int .i64 r.e]) ⟨b2, b3⟩ ?_ (hy := fun w' hS => (exec_ld (by kernel_rfl) (run_ld hS.1 hT72 0 [.bool r.neg, .slice p32 (dig B32 r.m).length c32, .int .i64 r.e] (by kernel_rfl) (by kernel_rfl))))
      refine tk 2 74 (.agg #[.int .i64 g.rad, .int .i64 g.digs, .int .i64 g.lo, .int .i64 g.hi, .bool g.grad]) ⟨b2, b3⟩ ?_ (hy := fun w' hS => (exec_ld (by kernel_rfl) (run_ld hS.2 hT27 0 [.int .i64 g.rad, .int .i64 g.digs, .int .i64 g.lo, .int .i64 g.hi, .bool g.grad] (by kernel_rfl) (by kernel_rfl))))
      refine sxr [3] ?_
      refine rd1 (fun Kx hKx => ?_)
      replace ho32 := ((ho32.put boV9 hOV9 (by kernel_rfl)).past hbV10)
      refine sek 75 36 #[.agg #[.bool r.neg, .slice p32 (dig B32 r.m).length c32, .int .i64 r.e], .agg #[.int .i64 g.rad, .int .i64 g.digs, .int .i64 g.lo, .int .i64 g.hi, .bool g.grad]] ?_
      ((with_reducible refine (gkeeps_any r.neg p32 c32 r.e r.m g _ ho32.rd (by omega) (by omega) G).mono ?_))
      rintro eV11 V11 ⟨rfl, hbV11⟩
      have hzV11 := hbV11.size
      refine ⟨.bool (keepsD ⟨r.neg, r.m, r.e⟩ g), rfl, ?_⟩
      replace b2 := (b2.past hbV11)
      replace b3 := (b3.past hbV11)
      refine hKx.out _ _ ⟨b2, b3⟩ ?_
      clear hKx Kx
      refine sxr [4] ?_
      refine rd1 (fun Kx hKx => ?_)
      replace b4 := (((b4.past (bthru (bthru (bthru (bthru hbV4 hbV5) hbV6) hbV7) hbV8)).only hOV9 (by omega)).past (bthru hbV10 hbV11))
      refine ssk none b4 hT72 0 #[.bool r.neg, .slice p32 (dig B32 r.m).length c32, .int .i64 r.e] #[.bool r.neg, .slice p32 (dig B32 r.m).length c32, .int .i64 r.e] ?_
      have boV12 := b4
      clear b4
      intro V12 hOV12 b4
      have hzV12 := hOV12.size
      replace b2 := (b2.only hOV12 (by omega))
      replace b3 := (b3.only hOV12 (by omega))
      refine hKx.out _ _ ⟨b2, b3⟩ ?_
      clear hKx Kx
      refine tk 5 5 (.bool (keepsD ⟨r.neg, r.m, r.e⟩ g)) ⟨b2, b3⟩ ?_
      refine sx_done (by kernel_rfl) ?_
      refine sx_then ?_
      refine wp_ret ?_
      have ⟨b4_0, b4_1, b4_2⟩ := b4.bx.e3
      repeat (first | with_reducible refine sx_thenret ?_ | with_reducible refine sx_blockret ?_)
      refine bodyPost_ret (v := .tuple #[.agg #[.bool r.neg, .slice p32 (dig B32 r.m).length c32, .int .i64 r.e], .bool (keepsD ⟨r.neg, r.m, r.e⟩ g)]) (by simp [results, Tryd.results39, go_sem, b4_0, b4_1, b4_2]) rfl ?_
      replace ho32 := ((ho32.past hbV11).put boV12 hOV12 (by kernel_rfl))
      exact ⟨p32, c32, rfl, ho32, ((bthru (bthru ((bthru (bthru (bthru (bthru (bthru (bthru (bthru hbV1 hbV2) hbV3) hbV4) hbV5) hbV6) hbV7) hbV8).trans (hOV9.below (by omega))) hbV10) hbV11).trans (hOV12.below (by omega)))⟩
    | true =>
      have hk : pStep ⟨true, m, e⟩ g = if pf.d = 2 ^ (wid g * (g.digs.toNat - 1)) ∧ (g.lo < pf.pow ∨ g.grad = false) then
          (if pf.pow = g.lo then (⟨false, 0, 0⟩, true) else (rPlus ⟨true, m, e⟩ (oneD (wid g * (pf.pow - 1))), keepsD (rPlus ⟨true, m, e⟩ (oneD (wid g * (pf.pow - 1)))) g))
          else (rPlus ⟨true, m, e⟩ (oneD (wid g * pf.pow)), keepsD (rPlus ⟨true, m, e⟩ (oneD (wid g * pf.pow))) g) := by
        have hq := sum_bd hB h0 (E := wid g * (pf.pow - 1)) hl he ⟨by rw [Int.mul_sub]; simp only at hb ⊢; rw [f4]; omega, by rw [Int.mul_sub]; simp only at hb ⊢; rw [f4]; omega⟩
        unfold pStep; rw [if_neg h0, if_neg (by simp), ← f4]; simp only; rw [← f1, keeps_eq hbd.2.1 G, keeps_eq hq.2.1 G]
      obtain ⟨N, hN⟩ : ∃ N : Nat, wid g * (g.digs.toNat - 1) = N := ⟨_, rfl⟩
      have hNi : (wid g : Int) * (g.digs - 1) = N := by
        rw [← hN, Int.natCast_mul]
        congr 1
        have := G.d1
        omega
      have hNb : N ≤ 480 := by rw [← hN]; exact Nat.mul_le_mul (show wid g ≤ 4 from wp.2) (show g.digs.toNat - 1 ≤ 120 by have := G.d2; omega)
      have eN : IntKind.i64.wrap ((wid g : Int) * (g.digs - 1)) = (N : Int) := by rw [hNi]; exact IntWalk.i64_in _ (by omega)
      have l2N : (dig B32 (1 * 2 ^ N)).length ≤ 100 := by have := len_shl 1 N; omega
      have HC := fun W p1 c1 q1 d1 h1 h2 => Lib.hid (cmp_any p1 q1 _ _ c1 d1 pf.d (1 * 2 ^ N) W h1 h2 rfl rfl (by omega) (by omega))
      have hC0 : cmpN pf.d (1 * 2 ^ N) = 0 ↔ pf.d = 2 ^ N := by rw [Nat.one_mul]; unfold cmpN; split <;> (try split) <;> omega
      rw [hN] at hk
      generalize cmpN pf.d (1 * 2 ^ N) = C at *
      have HN := Lib.hid hN
      clear hN
      by_cases hc : pf.d = 2 ^ N
      · have t43 : (C == 0) = true := by simpa using hC0.2 hc
        by_cases hg : g.lo < pf.pow
        · rw [if_pos ⟨hc, .inl hg⟩, if_neg (by omega)] at hk
          rw [hk]
          have hbd := sum_bd hB h0 (E := wid g * (pf.pow - 1)) hl he ⟨by rw [Int.mul_sub]; simp only at hb ⊢; rw [f4]; omega, by rw [Int.mul_sub]; simp only at hb ⊢; rw [f4]; omega⟩
          have hmu2 := mul_bd (k := pf.pow - 1) wp.2 (B := 17001) ⟨by have := G.l1; omega, by have := G.h2; omega⟩
          obtain ⟨b1, b2, b3, b4, b5⟩ := hbd
          have HP := fun W p25 c25 h1 h2 hT k => Lib.hid (plusD_any true false p p25 _ c _ c25 base e ((wid g : Int) * (pf.pow - 1)) m 1 W h1 h2 rfl rfl (by omega) (by omega) (by omega) (by omega) hT k)
          rw [show pPlus ⟨true, m, e⟩ ⟨false, 1, (wid g : Int) * (pf.pow - 1)⟩ = rPlus ⟨true, m, e⟩ (oneD ((wid g : Int) * (pf.pow - 1))) from b1] at HP
          have ek : ∀ r : Dv, keepsD r g = keepsD ⟨r.neg, r.m, r.e⟩ g := fun _ => rfl
          rw [ek]
          clear ek
          generalize rPlus ⟨true, m, e⟩ (oneD ((wid g : Int) * (pf.pow - 1))) = r at *
          have hT3 : SxOne Tryd.prog 3 := sxOne_of (by kernel_rfl) (by kernel_rfl)
          have hT4 : SxOne Tryd.prog 4 := sxOne_of (by kernel_rfl) (by kernel_rfl)
          have hT23 : SxOne Tryd.prog 23 := sxOne_of (by kernel_rfl) (by kernel_rfl)
          have hT27 : SxAgg Tryd.prog 27 5 := sxAgg_of (by kernel_rfl) (by kernel_rfl)
          have hT61 : SxAgg Tryd.prog 61 6 := sxAgg_of (by kernel_rfl) (by kernel_rfl)
          have hT72 : SxAgg Tryd.prog 72 3 := sxAgg_of (by kernel_rfl) (by kernel_rfl)
          refine calls_of_wp Tryd.func39 rfl ?_
          refine sx_frame (a' := ⟨((.agg #[.bool true, .slice p (dig B32 m).length c, .int .i64 e]) :: (.agg #[.int .i64 g.rad, .int .i64 g.digs, .int .i64 g.lo, .int .i64 g.hi, .bool g.grad]) :: undef :: undef :: undef :: undef :: undef :: undef :: undef :: undef :: undef :: undef :: undef :: undef :: undef :: undef :: undef :: undef :: undef :: undef :: undef :: undef :: undef :: undef :: undef :: undef :: undef :: undef :: undef :: undef :: undef :: undef :: undef :: undef :: undef :: undef :: undef :: undef :: undef :: undef :: undef :: undef :: undef :: undef :: undef :: undef :: undef :: undef :: undef :: undef :: undef :: undef :: undef :: undef :: undef :: undef :: undef :: undef :: undef :: undef :: undef :: undef :: undef :: undef :: undef :: undef :: undef :: undef :: undef :: undef :: undef :: undef :: undef :: undef :: undef :: undef :: []).toArray, []⟩) (by kernel_rfl) ?_
          refine wp_seq ?_
          refine sx_region ?_
          refine sn 2 #[.bool true, .slice p (dig B32 m).length c, .int .i64 e] 72 (fun V1 hbV1 hzV1 b2 => ?_)
          refine sn 3 #[.int .i64 g.rad, .int .i64 g.digs, .int .i64 g.lo, .int .i64 g.hi, .bool g.grad] 27 (fun V2 hbV2 hzV2 b3 => ?_)
          refine sn 4 #[.bool false, .slice none 0 0, .int .i64 0] 72 (fun V3 hbV3 hzV3 b4 => ?_)
          refine sv 5 (.bool false) ?_
          refine sx_nil ?_
          refine sx_then ?_
          refine wp_seq ?_
          refine sx_region ?_
          replace b3 := (b3.past hbV3)
          refine sv 9 (.agg #[.int .i64 g.rad, .int .i64 g.digs, .int .i64 g.lo, .int .i64 g.hi, .bool g.grad]) ?_ (hr := (exec_ld (by kernel_rfl) (run_ld b3 hT27 0 [.int .i64 g.rad, .int .i64 g.digs, .int .i64 g.lo, .int .i64 g.hi, .bool g.grad] (by kernel_rfl) (by kernel_rfl))))
          refine se 10 51 #[.agg #[.int .i64 g.rad, .int .i64 g.digs, .int .i64 g.lo, .int .i64 g.hi, .bool g.grad]] (fun Gx hGx => ?_)
          ((with_reducible refine (width_any g _).mono ?_))
          rintro eV4 V4 ⟨rfl, hbV4⟩
          have hzV4 := hbV4.size
          refine ⟨.int .i64 ((wid g : Nat) : Int), rfl, hGx _ _ ?_⟩
          clear hGx Gx
          refine sv 6 (.int .i64 ((wid g : Nat) : Int)) ?_
          refine sx_nil ?_
          refine sx_then ?_
          refine wp_seq ?_
          refine wp_seq ?_
          refine sx_region ?_
          replace b2 := (b2.past (bthru (bthru hbV2 hbV3) hbV4))
          refine sv 11 (.agg #[.bool true, .slice p (dig B32 m).length c, .int .i64 e]) ?_ (hr := (exec_ld (by kernel_rfl) (run_ld b2 hT72 0 [.bool true, .slice p (dig B32 m).length c, .int .i64 e] (by kernel_rfl) (by kernel_rfl))))
          refine se 12 53 #[.agg #[.bool true, .slice p (dig B32 m).length c, .int .i64 e]] (fun Gx hGx => ?_)
          ((with_reducible refine ((HS _).out).mono ?_))
          rintro eV5 V5 ⟨rfl, hbV5⟩
          have hzV5 := hbV5.size
          refine ⟨.int .i64 S, rfl, hGx _ _ ?_⟩
          clear hGx Gx
          refine sv 13 (.bool false) ?_ (hr := ((show _ = Result.ok (Next.value (.bool (S == 0))) _ from (by kernel_rfl)).trans (congrArg (fun z => Result.ok (Next.value (.bool z)) _) (show (S == 0) = false from hS1))))
          refine sx_nil ?_
          refine sx_then ?_
          refine wp_cond_false (by kernel_rfl) ?_
          refine wp_skip ?_
          refine sx_then ?_
          refine wp_seq ?_
          refine sx_cutg (R := fun a' w' => ∃ (kb7 : Nat) (q17 : Option Addr) (d17 : Nat) (p19 : Option Addr) (c19 : Nat), a' = ⟨((.agg #[.bool true, .slice p (dig B32 m).length c, .int .i64 e]) :: (.agg #[.int .i64 g.rad, .int .i64 g.digs, .int .i64 g.lo, .int .i64 g.hi, .bool g.grad]) :: (.pointer (some ⟨w.heap.size, 0, none⟩)) :: (.pointer (some ⟨V1.heap.size, 0, none⟩)) :: (.pointer (some ⟨V2.heap.size, 0, none⟩)) :: (.bool false) :: (.int .i64 ((wid g : Nat) : Int)) :: (.pointer (some ⟨kb7, 0, none⟩)) :: undef :: (.agg #[.int .i64 g.rad, .int .i64 g.digs, .int .i64 g.lo, .int .i64 g.hi, .bool g.grad]) :: (.int .i64 ((wid g : Nat) : Int)) :: (.agg #[.bool true, .slice p (dig B32 m).length c, .int .i64 e]) :: (.int .i64 S) :: (.bool false) :: undef :: undef :: (.agg #[.bool true, .slice p (dig B32 m).length c, .int .i64 e]) :: (.agg #[.bool true, .slice p (dig B32 m).length c, .slice q17 (dig B32 1).length d17, .int .i64 e]) :: (.agg #[.int .i64 g.rad, .int .i64 g.digs, .int .i64 g.lo, .int .i64 g.hi, .bool g.grad]) :: (.agg #[.bool pf.neg, .slice p19 (dig B32 pf.d).length c19, .int .i64 pf.pow, .bool pf.exact, .bool pf.over, .bool pf.under]) :: undef :: undef :: undef :: undef :: undef :: undef :: undef :: undef :: undef :: undef :: undef :: undef :: undef :: undef :: undef :: undef :: undef :: undef :: undef :: undef :: undef :: undef :: undef :: undef :: undef :: undef :: undef :: undef :: undef :: undef :: undef :: undef :: undef :: undef :: undef :: undef :: undef :: undef :: undef :: undef :: undef :: undef :: undef :: undef :: undef :: undef :: undef :: undef :: undef :: undef :: undef :: undef :: undef :: undef :: undef :: undef :: []).toArray, []⟩ ∧ Bt w' kb7 61 #[.bool pf.neg, .slice p19 (dig B32 pf.d).length c19, .int .i64 pf.pow, .bool pf.exact, .bool pf.over, .bool pf.under] ∧ Own w' V5.heap.size .u32 46 q17 d17 (dig B32 1) ∧ Own w' V5.heap.size .u32 46 p19 c19 (dig B32 pf.d) ∧ Below V5.heap.size V5 w' ∧ V5.heap.size ≤ kb7) ?_ (fun Gx hGx => ?_)
          · skip
            replace b2 := (b2.past hbV5)
            replace b3 := (b3.past (bthru hbV4 hbV5))
            obtain ⟨V6, hVV6⟩ : ∃ V, V = (V5).drew := ⟨_, rfl⟩
            have hbV6 : Below (V5).heap.size (V5) V6 := by rw [hVV6]; exact (Below.refl _ _).drew
            have hzV6 : V6.heap.size = (V5).heap.size := by rw [hVV6]; rfl
            replace b2 := (b2.past hbV6)
            replace b3 := (b3.past hbV6)
            refine sxd _ (fun w' => Bt w' w.heap.size 72 #[.bool true, .slice p (dig B32 m).length c, .int .i64 e] ∧ Bt w' V1.heap.size 27 #[.int .i64 g.rad, .int .i64 g.digs, .int .i64 g.lo, .int .i64 g.hi, .bool g.grad]) hVV6 ⟨b2, b3⟩ ?_
            clear hVV6
            refine tk 0 16 (.agg #[.bool true, .slice p (dig B32 m).length c, .int .i64 e]) ⟨b2, b3⟩ ?_ (hy := fun w' hS => (exec_ld (by kernel_rfl) (run_ld hS.1 hT72 0 [.bool true, .slice p (dig B32 m).length c, .int .i64 e] (by kernel_rfl) (by kernel_rfl))))
            refine tk 2 18 (.agg #[.int .i64 g.rad, .int .i64 g.digs, .int .i64 g.lo, .int .i64 g.hi, .bool g.grad]) ⟨b2, b3⟩ ?_ (hy := fun w' hS => (exec_ld (by kernel_rfl) (run_ld hS.2 hT27 0 [.int .i64 g.rad, .int .i64 g.digs, .int .i64 g.lo, .int .i64 g.hi, .bool g.grad] (by kernel_rfl) (by kernel_rfl))))
            refine sxr [1, 4] ?_
            refine rd2 (fun Kx hKx => ?_) ?_
            · skip
              refine sek 17 62 #[.agg #[.bool true, .slice p (dig B32 m).length c, .int .i64 e]] ?_
              ((with_reducible refine (gratio_any true p _ c e _).mono ?_))
              rintro eV7 V7 ⟨q17, d17, rfl, ho17, hbV7⟩
              have hzV7 := hbV7.size
              refine ⟨.agg #[.bool true, .slice p (dig B32 m).length c, .slice q17 (dig B32 1).length d17, .int .i64 e], rfl, ?_⟩
              replace b2 := (b2.past hbV7)
              replace b3 := (b3.past hbV7)
              refine hKx.out _ _ ⟨b2, b3⟩ ?_
              clear hKx Kx
              refine sxr [3, 4] ?_
              refine rd2 (fun Kx hKx => ?_) ?_
              · skip
                replace hp := (hp.past (bthru (bthru (bthru (bthru (bthru (bthru hbV1 hbV2) hbV3) hbV4) hbV5) hbV6) hbV7))
                refine sek 19 49 #[.agg #[.bool true, .slice p (dig B32 m).length c, .slice q17 (dig B32 1).length d17, .int .i64 e], .agg #[.int .i64 g.rad, .int .i64 g.digs, .int .i64 g.lo, .int .i64 g.hi, .bool g.grad], .int .i64 3] ?_
                ((with_reducible refine ((HF _ q17 d17 hp.rd ho17.rd).out).mono ?_))
                rintro eV8 V8 ⟨p19, c19, rfl, ho19, hbV8⟩
                have hzV8 := hbV8.size
                refine ⟨.agg #[.bool pf.neg, .slice p19 (dig B32 pf.d).length c19, .int .i64 pf.pow, .bool pf.exact, .bool pf.over, .bool pf.under], rfl, ?_⟩
                replace b2 := (b2.past hbV8)
                replace b3 := (b3.past hbV8)
                refine hKx.out _ _ ⟨b2, b3⟩ ?_
                clear hKx Kx
                refine sxr [4] ?_
                refine rd1 (fun Kx hKx => ?_)
                refine snk 7 #[.bool false, .slice none 0 0, .int .i64 0, .bool false, .bool false, .bool false] 61 (fun V9 hbV9 hzV9 b7 => ?_)
                replace b2 := (b2.past hbV9)
                replace b3 := (b3.past hbV9)
                refine hKx.out _ _ ⟨b2, b3⟩ ?_
                clear hKx Kx
                refine sxr [5] ?_
                refine rd1 (fun Kx hKx => ?_)
                refine ssk none b7 hT61 0 #[.bool pf.neg, .slice p19 (dig B32 pf.d).length c19, .int .i64 pf.pow, .bool pf.exact, .bool pf.over, .bool pf.under] #[.bool pf.neg, .slice p19 (dig B32 pf.d).length c19, .int .i64 pf.pow, .bool pf.exact, .bool pf.over, .bool pf.under] ?_
                have boV10 := b7
                clear b7
                intro V10 hOV10 b7
                have hzV10 := hOV10.size
                replace b2 := (b2.only hOV10 (by omega))
                replace b3 := (b3.only hOV10 (by omega))
                refine hKx.out _ _ ⟨b2, b3⟩ ?_
                clear hKx Kx
                refine sx_done (by kernel_rfl) ?_
                replace ho17 := (ho17.past ((bthru hbV8 hbV9).trans (hOV10.below (by omega))))
                replace ho19 := (ho19.past (hbV9.trans (hOV10.below (by omega))))
                exact ⟨rfl, V8.heap.size, q17, d17, p19, c19, by kernel_rfl, b7, (ho17.mono (by omega)), (ho19.mono (by omega)), ((bthru (bthru (bthru hbV6 hbV7) hbV8) hbV9).trans (hOV10.below (by omega))), by omega⟩
              refine rd1 (fun Kx hKx => ?_)
              refine snk 7 #[.bool false, .slice none 0 0, .int .i64 0, .bool false, .bool false, .bool false] 61 (fun V8 hbV8 hzV8 b7 => ?_)
              replace b2 := (b2.past hbV8)
              replace b3 := (b3.past hbV8)
              refine hKx.out _ _ ⟨b2, b3⟩ ?_
              clear hKx Kx
              refine sxr [3] ?_
              refine rd1 (fun Kx hKx => ?_)
              replace hp := (hp.past (bthru (bthru (bthru (bthru (bthru (bthru (bthru hbV1 hbV2) hbV3) hbV4) hbV5) hbV6) hbV7) hbV8))
              replace ho17 := (ho17.past hbV8)
              refine sek 19 49 #[.agg #[.bool true, .slice p (dig B32 m).length c, .slice q17 (dig B32 1).length d17, .int .i64 e], .agg #[.int .i64 g.rad, .int .i64 g.digs, .int .i64 g.lo, .int .i64 g.hi, .bool g.grad], .int .i64 3] ?_
              ((with_reducible refine ((HF _ q17 d17 hp.rd ho17.rd).out).mono ?_))
              rintro eV9 V9 ⟨p19, c19, rfl, ho19, hbV9⟩
              have hzV9 := hbV9.size
              refine ⟨.agg #[.bool pf.neg, .slice p19 (dig B32 pf.d).length c19, .int .i64 pf.pow, .bool pf.exact, .bool pf.over, .bool pf.under], rfl, ?_⟩
              replace b2 := (b2.past hbV9)
              replace b3 := (b3.past hbV9)
              refine hKx.out _ _ ⟨b2, b3⟩ ?_
              clear hKx Kx
              refine sxr [5] ?_
              refine rd1 (fun Kx hKx => ?_)
              replace b7 := (b7.past hbV9)
              refine ssk none b7 hT61 0 #[.bool pf.neg, .slice p19 (dig B32 pf.d).length c19, .int .i64 pf.pow, .bool pf.exact, .bool pf.over, .bool pf.under] #[.bool pf.neg, .slice p19 (dig B32 pf.d).length c19, .int .i64 pf.pow, .bool pf.exact, .bool pf.over, .bool pf.under] ?_
              have boV10 := b7
              clear b7
              intro V10 hOV10 b7
              have hzV10 := hOV10.size
              replace b2 := (b2.only hOV10 (by omega))
              replace b3 := (b3.only hOV10 (by omega))
              refine hKx.out _ _ ⟨b2, b3⟩ ?_
              clear hKx Kx
              refine sx_done (by kernel_rfl) ?_
              replace ho17 := ((ho17.past hbV9).put boV10 hOV10 (by kernel_rfl))
              replace ho19 := (ho19.put boV10 hOV10 (by kernel_rfl))
              exact ⟨rfl, V7.heap.size, q17, d17, p19, c19, by kernel_rfl, b7, (ho17.mono (by omega)), (ho19.mono (by omega)), ((bthru (bthru (bthru hbV6 hbV7) hbV8) hbV9).trans (hOV10.below (by omega))), by omega⟩
            refine rd1 (fun Kx hKx => ?_)
            refine snk 7 #[.bool false, .slice none 0 0, .int .i64 0, .bool false, .bool false, .bool false] 61 (fun V7 hbV7 hzV7 b7 => ?_)
            replace b2 := (b2.past hbV7)
            replace b3 := (b3.past hbV7)
            refine hKx.out _ _ ⟨b2, b3⟩ ?_
            clear hKx Kx
            refine sxr [1] ?_
            refine rd1 (fun Kx hKx => ?_)
            refine sek 17 62 #[.agg #[.bool true, .slice p (dig B32 m).length c, .int .i64 e]] ?_
            ((with_reducible refine (gratio_any true p _ c e _).mono ?_))
            rintro eV8 V8 ⟨q17, d17, rfl, ho17, hbV8⟩
            have hzV8 := hbV8.size
            refine ⟨.agg #[.bool true, .slice p (dig B32 m).length c, .slice q17 (dig B32 1).length d17, .int .i64 e], rfl, ?_⟩
            replace b2 := (b2.past hbV8)
            replace b3 := (b3.past hbV8)
            refine hKx.out _ _ ⟨b2, b3⟩ ?_
            clear hKx Kx
            refine sxr [3] ?_
            refine rd1 (fun Kx hKx => ?_)
            replace hp := (hp.past (bthru (bthru (bthru (bthru (bthru (bthru (bthru hbV1 hbV2) hbV3) hbV4) hbV5) hbV6) hbV7) hbV8))
            refine sek 19 49 #[.agg #[.bool true, .slice p (dig B32 m).length c, .slice q17 (dig B32 1).length d17, .int .i64 e], .agg #[.int .i64 g.rad, .int .i64 g.digs, .int .i64 g.lo, .int .i64 g.hi, .bool g.grad], .int .i64 3] ?_
            ((with_reducible refine ((HF _ q17 d17 hp.rd ho17.rd).out).mono ?_))
            rintro eV9 V9 ⟨p19, c19, rfl, ho19, hbV9⟩
            have hzV9 := hbV9.size
            refine ⟨.agg #[.bool pf.neg, .slice p19 (dig B32 pf.d).length c19, .int .i64 pf.pow, .bool pf.exact, .bool pf.over, .bool pf.under], rfl, ?_⟩
            replace b2 := (b2.past hbV9)
            replace b3 := (b3.past hbV9)
            refine hKx.out _ _ ⟨b2, b3⟩ ?_
            clear hKx Kx
            refine sxr [5] ?_
            refine rd1 (fun Kx hKx => ?_)
            replace b7 := (b7.past (bthru hbV8 hbV9))
            refine ssk none b7 hT61 0 #[.bool pf.neg, .slice p19 (dig B32 pf.d).length c19, .int .i64 pf.pow, .bool pf.exact, .bool pf.over, .bool pf.under] #[.bool pf.neg, .slice p19 (dig B32 pf.d).length c19, .int .i64 pf.pow, .bool pf.exact, .bool pf.over, .bool pf.under] ?_
            have boV10 := b7
            clear b7
            intro V10 hOV10 b7
            have hzV10 := hOV10.size
            replace b2 := (b2.only hOV10 (by omega))
            replace b3 := (b3.only hOV10 (by omega))
            refine hKx.out _ _ ⟨b2, b3⟩ ?_
            clear hKx Kx
            refine sx_done (by kernel_rfl) ?_
            replace ho17 := ((ho17.past hbV9).put boV10 hOV10 (by kernel_rfl))
            replace ho19 := (ho19.put boV10 hOV10 (by kernel_rfl))
            exact ⟨rfl, V6.heap.size, q17, d17, p19, c19, by kernel_rfl, b7, (ho17.mono (by omega)), (ho19.mono (by omega)), ((bthru (bthru (bthru hbV6 hbV7) hbV8) hbV9).trans (hOV10.below (by omega))), by omega⟩
          rintro _ V6 ⟨kb7, q17, d17, p19, c19, rfl, b7, ho17, ho19, hbV6, hkb7⟩
          refine hGx _ _ ?_
          clear hGx Gx
          have hzV6 := hbV6.size
          have hlb7 := b7.lt
          refine sx_then ?_
          refine wp_seq ?_
          refine sx_cutg (R := fun a' w' => ∃ (kb8 : Nat) (q20 : Option Addr) (d20 : Nat) (p25 : Option Addr) (c25 : Nat), a' = ⟨((.agg #[.bool true, .slice p (dig B32 m).length c, .int .i64 e]) :: (.agg #[.int .i64 g.rad, .int .i64 g.digs, .int .i64 g.lo, .int .i64 g.hi, .bool g.grad]) :: (.pointer (some ⟨w.heap.size, 0, none⟩)) :: (.pointer (some ⟨V1.heap.size, 0, none⟩)) :: (.pointer (some ⟨V2.heap.size, 0, none⟩)) :: (.bool false) :: (.int .i64 ((wid g : Nat) : Int)) :: (.pointer (some ⟨kb7, 0, none⟩)) :: (.pointer (some ⟨kb8, 0, none⟩)) :: (.agg #[.int .i64 g.rad, .int .i64 g.digs, .int .i64 g.lo, .int .i64 g.hi, .bool g.grad]) :: (.int .i64 ((wid g : Nat) : Int)) :: (.agg #[.bool true, .slice p (dig B32 m).length c, .int .i64 e]) :: (.int .i64 S) :: (.bool false) :: undef :: undef :: (.agg #[.bool true, .slice p (dig B32 m).length c, .int .i64 e]) :: (.agg #[.bool true, .slice p (dig B32 m).length c, .slice q17 (dig B32 1).length d17, .int .i64 e]) :: (.agg #[.int .i64 g.rad, .int .i64 g.digs, .int .i64 g.lo, .int .i64 g.hi, .bool g.grad]) :: (.agg #[.bool pf.neg, .slice p19 (dig B32 pf.d).length c19, .int .i64 pf.pow, .bool pf.exact, .bool pf.over, .bool pf.under]) :: (.slice q20 (dig B32 1).length d20) :: (.int .i64 ((wid g : Nat) : Int)) :: (.pointer (some ⟨kb7, 2, none⟩)) :: (.int .i64 pf.pow) :: (.int .i64 (((wid g : Nat) : Int) * pf.pow)) :: (.agg #[.bool false, .slice p25 (dig B32 1).length c25, .int .i64 ((wid g : Int) * pf.pow)]) :: undef :: undef :: undef :: undef :: undef :: undef :: undef :: undef :: undef :: undef :: undef :: undef :: undef :: undef :: undef :: undef :: undef :: undef :: undef :: undef :: undef :: undef :: undef :: undef :: undef :: undef :: undef :: undef :: undef :: undef :: undef :: undef :: undef :: undef :: undef :: undef :: undef :: undef :: undef :: undef :: undef :: undef :: undef :: undef :: undef :: undef :: undef :: undef :: undef :: undef :: []).toArray, []⟩ ∧ Bt w' kb8 72 #[.bool false, .slice p25 (dig B32 1).length c25, .int .i64 ((wid g : Int) * pf.pow)] ∧ Own w' V6.heap.size .u32 46 q20 d20 (dig B32 1) ∧ Own w' V6.heap.size .u32 46 p25 c25 (dig B32 1) ∧ Below V6.heap.size V6 w' ∧ V6.heap.size ≤ kb8) ?_ (fun Gx hGx => ?_)
          · skip
            obtain ⟨V7, hVV7⟩ : ∃ V, V = (V6).drew := ⟨_, rfl⟩
            have hbV7 : Below (V6).heap.size (V6) V7 := by rw [hVV7]; exact (Below.refl _ _).drew
            have hzV7 : V7.heap.size = (V6).heap.size := by rw [hVV7]; rfl
            replace b7 := (b7.past hbV7)
            refine sxd _ (fun w' => Bt w' kb7 61 #[.bool pf.neg, .slice p19 (dig B32 pf.d).length c19, .int .i64 pf.pow, .bool pf.exact, .bool pf.over, .bool pf.under]) hVV7 b7 ?_
            clear hVV7
            refine tk 1 21 (.int .i64 ((wid g : Nat) : Int)) b7 ?_
            refine tk 2 22 (.pointer (some ⟨kb7, 2, none⟩)) b7 ?_
            refine tk 3 23 (.int .i64 pf.pow) b7 ?_ (hy := fun w' hS => (exec_ld (by kernel_rfl) (run_ld1 hS hT3 2 (.int .i64 pf.pow) (by kernel_rfl))))
            refine tk 4 24 (.int .i64 (((wid g : Nat) : Int) * pf.pow)) b7 ?_ (hy := fun w' _ => ((show _ = Result.ok (Next.value (.int .i64 (IntKind.wrap .i64 (((wid g : Nat) : Int) * pf.pow)))) _ by kernel_rfl).trans (congrArg (fun z => Result.ok (Next.value (.int .i64 z)) _) (IntWalk.i64_in _ (by omega)))))
            refine sxr [0, 6] ?_
            refine rd2 (fun Kx hKx => ?_) ?_
            · skip
              refine sek 20 64 #[.int .i64 1] ?_
              ((with_reducible refine (gof_one _).mono ?_))
              rintro eV8 V8 ⟨q20, d20, rfl, ho20, hbV8⟩
              have hzV8 := hbV8.size
              refine ⟨.slice q20 (dig B32 1).length d20, rfl, ?_⟩
              replace b7 := (b7.past hbV8)
              refine hKx.out _ _ b7 ?_
              clear hKx Kx
              refine sxr [5, 6] ?_
              refine rd2 (fun Kx hKx => ?_) ?_
              · skip
                replace hT := (hT.past (bthru (bthru (bthru (bthru (bthru (bthru (bthru hbV1 hbV2) hbV3) hbV4) hbV5) hbV6) hbV7) hbV8))
                refine sek 25 50 #[.slice q20 (dig B32 1).length d20, .int .i64 (((wid g : Nat) : Int) * pf.pow)] ?_
                ((with_reducible refine (whole_one q20 d20 _ _ _ ho20 (by omega) hT).mono ?_))
                rintro eV9 V9 ⟨p25, c25, rfl, ho25, hbV9⟩
                have hzV9 := hbV9.size
                refine ⟨.agg #[.bool false, .slice p25 (dig B32 1).length c25, .int .i64 ((wid g : Int) * pf.pow)], rfl, ?_⟩
                replace b7 := (b7.past hbV9)
                refine hKx.out _ _ b7 ?_
                clear hKx Kx
                refine sxr [6] ?_
                refine rd1 (fun Kx hKx => ?_)
                refine snk 8 #[.bool false, .slice none 0 0, .int .i64 0] 72 (fun V10 hbV10 hzV10 b8 => ?_)
                replace b7 := (b7.past hbV10)
                refine hKx.out _ _ b7 ?_
                clear hKx Kx
                refine sxr [7] ?_
                refine rd1 (fun Kx hKx => ?_)
                refine ssk none b8 hT72 0 #[.bool false, .slice p25 (dig B32 1).length c25, .int .i64 ((wid g : Int) * pf.pow)] #[.bool false, .slice p25 (dig B32 1).length c25, .int .i64 ((wid g : Int) * pf.pow)] ?_
                have boV11 := b8
                clear b8
                intro V11 hOV11 b8
                have hzV11 := hOV11.size
                replace b7 := (b7.only hOV11 (by omega))
                refine hKx.out _ _ b7 ?_
                clear hKx Kx
                refine sx_done (by kernel_rfl) ?_
                replace ho20 := (ho20.past ((bthru hbV9 hbV10).trans (hOV11.below (by omega))))
                replace ho25 := (ho25.past (hbV10.trans (hOV11.below (by omega))))
                exact ⟨rfl, V9.heap.size, q20, d20, p25, c25, by kernel_rfl, b8, (ho20.mono (by omega)), (ho25.mono (by omega)), ((bthru (bthru (bthru hbV7 hbV8) hbV9) hbV10).trans (hOV11.below (by omega))), by omega⟩
              refine rd1 (fun Kx hKx => ?_)
              refine snk 8 #[.bool false, .slice none 0 0, .int .i64 0] 72 (fun V9 hbV9 hzV9 b8 => ?_)
              replace b7 := (b7.past hbV9)
              refine hKx.out _ _ b7 ?_
              clear hKx Kx
              refine sxr [5] ?_
              refine rd1 (fun Kx hKx => ?_)
              replace ho20 := (ho20.past hbV9)
              replace hT := (hT.past (bthru (bthru (bthru (bthru (bthru (bthru (bthru (bthru hbV1 hbV2) hbV3) hbV4) hbV5) hbV6) hbV7) hbV8) hbV9))
              refine sek 25 50 #[.slice q20 (dig B32 1).length d20, .int .i64 (((wid g : Nat) : Int) * pf.pow)] ?_
              ((with_reducible refine (whole_one q20 d20 _ _ _ ho20 (by omega) hT).mono ?_))
              rintro eV10 V10 ⟨p25, c25, rfl, ho25, hbV10⟩
              have hzV10 := hbV10.size
              refine ⟨.agg #[.bool false, .slice p25 (dig B32 1).length c25, .int .i64 ((wid g : Int) * pf.pow)], rfl, ?_⟩
              replace b7 := (b7.past hbV10)
              refine hKx.out _ _ b7 ?_
              clear hKx Kx
              refine sxr [7] ?_
              refine rd1 (fun Kx hKx => ?_)
              replace b8 := (b8.past hbV10)
              refine ssk none b8 hT72 0 #[.bool false, .slice p25 (dig B32 1).length c25, .int .i64 ((wid g : Int) * pf.pow)] #[.bool false, .slice p25 (dig B32 1).length c25, .int .i64 ((wid g : Int) * pf.pow)] ?_
              have boV11 := b8
              clear b8
              intro V11 hOV11 b8
              have hzV11 := hOV11.size
              replace b7 := (b7.only hOV11 (by omega))
              refine hKx.out _ _ b7 ?_
              clear hKx Kx
              refine sx_done (by kernel_rfl) ?_
              replace ho20 := ((ho20.past hbV10).put boV11 hOV11 (by kernel_rfl))
              replace ho25 := (ho25.put boV11 hOV11 (by kernel_rfl))
              exact ⟨rfl, V8.heap.size, q20, d20, p25, c25, by kernel_rfl, b8, (ho20.mono (by omega)), (ho25.mono (by omega)), ((bthru (bthru (bthru hbV7 hbV8) hbV9) hbV10).trans (hOV11.below (by omega))), by omega⟩
            refine rd1 (fun Kx hKx => ?_)
            refine snk 8 #[.bool false, .slice none 0 0, .int .i64 0] 72 (fun V8 hbV8 hzV8 b8 => ?_)
            replace b7 := (b7.past hbV8)
            refine hKx.out _ _ b7 ?_
            clear hKx Kx
            refine sxr [0] ?_
            refine rd1 (fun Kx hKx => ?_)
            refine sek 20 64 #[.int .i64 1] ?_
            ((with_reducible refine (gof_one _).mono ?_))
            rintro eV9 V9 ⟨q20, d20, rfl, ho20, hbV9⟩
            have hzV9 := hbV9.size
            refine ⟨.slice q20 (dig B32 1).length d20, rfl, ?_⟩
            replace b7 := (b7.past hbV9)
            refine hKx.out _ _ b7 ?_
            clear hKx Kx
            refine sxr [5] ?_
            refine rd1 (fun Kx hKx => ?_)
            replace hT := (hT.past (bthru (bthru (bthru (bthru (bthru (bthru (bthru (bthru hbV1 hbV2) hbV3) hbV4) hbV5) hbV6) hbV7) hbV8) hbV9))
            refine sek 25 50 #[.slice q20 (dig B32 1).length d20, .int .i64 (((wid g : Nat) : Int) * pf.pow)] ?_
            ((with_reducible refine (whole_one q20 d20 _ _ _ ho20 (by omega) hT).mono ?_))
            rintro eV10 V10 ⟨p25, c25, rfl, ho25, hbV10⟩
            have hzV10 := hbV10.size
            refine ⟨.agg #[.bool false, .slice p25 (dig B32 1).length c25, .int .i64 ((wid g : Int) * pf.pow)], rfl, ?_⟩
            replace b7 := (b7.past hbV10)
            refine hKx.out _ _ b7 ?_
            clear hKx Kx
            refine sxr [7] ?_
            refine rd1 (fun Kx hKx => ?_)
            replace b8 := (b8.past (bthru hbV9 hbV10))
            refine ssk none b8 hT72 0 #[.bool false, .slice p25 (dig B32 1).length c25, .int .i64 ((wid g : Int) * pf.pow)] #[.bool false, .slice p25 (dig B32 1).length c25, .int .i64 ((wid g : Int) * pf.pow)] ?_
            have boV11 := b8
            clear b8
            intro V11 hOV11 b8
            have hzV11 := hOV11.size
            replace b7 := (b7.only hOV11 (by omega))
            refine hKx.out _ _ b7 ?_
            clear hKx Kx
            refine sx_done (by kernel_rfl) ?_
            replace ho20 := ((ho20.past hbV10).put boV11 hOV11 (by kernel_rfl))
            replace ho25 := (ho25.put boV11 hOV11 (by kernel_rfl))
            exact ⟨rfl, V7.heap.size, q20, d20, p25, c25, by kernel_rfl, b8, (ho20.mono (by omega)), (ho25.mono (by omega)), ((bthru (bthru (bthru hbV7 hbV8) hbV9) hbV10).trans (hOV11.below (by omega))), by omega⟩
          rintro _ V7 ⟨kb8, q20, d20, p25, c25, rfl, b8, ho20, ho25, hbV7, hkb8⟩
          refine hGx _ _ ?_
          clear hGx Gx
          have hzV7 := hbV7.size
          have hlb8 := b8.lt
          refine sx_then ?_
          refine wp_seq ?_
          refine wp_seq ?_
          refine sx_region ?_
          refine sv 26 (.pointer (some ⟨w.heap.size, 0, none⟩)) ?_
          refine sv 27 (.pointer (some ⟨w.heap.size, 0, none⟩)) ?_
          replace b2 := (b2.past (bthru (bthru hbV5 hbV6) hbV7))
          refine sv 28 (.bool true) ?_ (hr := (exec_ld (by kernel_rfl) (run_ld1 b2 hT4 0 (.bool true) (by kernel_rfl))))
          refine sv 29 (.bool false) ?_
          refine sx_nil ?_
          refine sx_then ?_
          refine wp_cond_false (by kernel_rfl) ?_
          refine wp_seq ?_
          refine wp_seq ?_
          replace b7 := (b7.past hbV7)
          replace b3 := (b3.past (bthru (bthru (bthru hbV4 hbV5) hbV6) hbV7))
          obtain ⟨V8, hVV8⟩ : ∃ V, V = (V7).drew := ⟨_, rfl⟩
          have hbV8 : Below (V7).heap.size (V7) V8 := by rw [hVV8]; exact (Below.refl _ _).drew
          have hzV8 : V8.heap.size = (V7).heap.size := by rw [hVV8]; rfl
          replace b7 := (b7.past hbV8)
          replace b3 := (b3.past hbV8)
          refine sxd _ (fun w' => Bt w' kb7 61 #[.bool pf.neg, .slice p19 (dig B32 pf.d).length c19, .int .i64 pf.pow, .bool pf.exact, .bool pf.over, .bool pf.under] ∧ Bt w' V1.heap.size 27 #[.int .i64 g.rad, .int .i64 g.digs, .int .i64 g.lo, .int .i64 g.hi, .bool g.grad]) hVV8 ⟨b7, b3⟩ ?_
          clear hVV8
          refine tk 0 33 (.pointer (some ⟨kb7, 1, none⟩)) ⟨b7, b3⟩ ?_
          refine tk 1 34 (.slice p19 (dig B32 pf.d).length c19) ⟨b7, b3⟩ ?_ (hy := fun w' hS => (exec_ld (by kernel_rfl) (run_ld1 hS.1 hT23 1 (.slice p19 (dig B32 pf.d).length c19) (by kernel_rfl))))
          refine tk 3 36 (.int .i64 ((wid g : Nat) : Int)) ⟨b7, b3⟩ ?_
          refine tk 4 37 (.pointer (some ⟨V1.heap.size, 1, none⟩)) ⟨b7, b3⟩ ?_
          refine tk 5 38 (.int .i64 g.digs) ⟨b7, b3⟩ ?_ (hy := fun w' hS => (exec_ld (by kernel_rfl) (run_ld1 hS.2 hT3 1 (.int .i64 g.digs) (by kernel_rfl))))
          refine tk 6 39 (.int .i64 (g.digs - 1)) ⟨b7, b3⟩ ?_ (hy := fun w' _ => ((show _ = Result.ok (Next.value (.int .i64 (IntKind.wrap .i64 (g.digs - 1)))) _ by kernel_rfl).trans (congrArg (fun z => Result.ok (Next.value (.int .i64 z)) _) (IntWalk.i64_in _ (by omega)))))
          refine tk 7 40 (.int .i64 ((N : Nat) : Int)) ⟨b7, b3⟩ ?_ (hy := fun w' _ => ((show _ = Result.ok (Next.value (.int .i64 (IntKind.wrap .i64 (((wid g : Nat) : Int) * (g.digs - 1))))) _ by kernel_rfl).trans (congrArg (fun z => Result.ok (Next.value (.int .i64 z)) _) (eN))))
          refine sxr [2] ?_
          refine rd1 (fun Kx hKx => ?_)
          refine sek 35 64 #[.int .i64 1] ?_
          ((with_reducible refine (gof_one _).mono ?_))
          rintro eV9 V9 ⟨q35, d35, rfl, ho35, hbV9⟩
          have hzV9 := hbV9.size
          refine ⟨.slice q35 (dig B32 1).length d35, rfl, ?_⟩
          replace b7 := (b7.past hbV9)
          replace b3 := (b3.past hbV9)
          refine hKx.out _ _ ⟨b7, b3⟩ ?_
          clear hKx Kx
          refine sxr [8] ?_
          refine rd1 (fun Kx hKx => ?_)
          refine sek 41 56 #[.slice q35 (dig B32 1).length d35, .int .i64 ((N : Nat) : Int)] ?_
          ((with_reducible refine (shl_any q35 _ d35 1 N _ ho35.rd rfl (by omega) (by omega)).mono ?_))
          rintro eV10 V10 ⟨q41, d41, rfl, ho41, hbV10⟩
          have hzV10 := hbV10.size
          refine ⟨.slice q41 (dig B32 (1 * 2 ^ N)).length d41, rfl, ?_⟩
          replace b7 := (b7.past hbV10)
          replace b3 := (b3.past hbV10)
          refine hKx.out _ _ ⟨b7, b3⟩ ?_
          clear hKx Kx
          refine sxr [9] ?_
          refine rd1 (fun Kx hKx => ?_)
          replace ho19 := (ho19.past (bthru (bthru (bthru hbV7 hbV8) hbV9) hbV10))
          refine sek 42 55 #[.slice p19 (dig B32 pf.d).length c19, .slice q41 (dig B32 (1 * 2 ^ N)).length d41] ?_
          ((with_reducible refine ((HC _ p19 c19 q41 d41 ho19.rd ho41.rd).out).mono ?_))
          rintro eV11 V11 ⟨rfl, hbV11⟩
          have hzV11 := hbV11.size
          refine ⟨.int .i64 C, rfl, ?_⟩
          replace b7 := (b7.past hbV11)
          replace b3 := (b3.past hbV11)
          refine hKx.out _ _ ⟨b7, b3⟩ ?_
          clear hKx Kx
          refine tk 10 43 (.bool true) ⟨b7, b3⟩ ?_ (hy := fun w' _ => ((show _ = Result.ok (Next.value (.bool (C == 0))) _ from (by kernel_rfl)).trans (congrArg (fun z => Result.ok (Next.value (.bool z)) _) (show (C == 0) = true from t43))))
          refine tk 11 44 (.bool true) ⟨b7, b3⟩ ?_
          refine tk 12 45 (.pointer (some ⟨kb7, 2, none⟩)) ⟨b7, b3⟩ ?_
          refine tk 13 46 (.int .i64 pf.pow) ⟨b7, b3⟩ ?_ (hy := fun w' hS => (exec_ld (by kernel_rfl) (run_ld1 hS.1 hT3 2 (.int .i64 pf.pow) (by kernel_rfl))))
          refine tk 14 47 (.pointer (some ⟨V1.heap.size, 2, none⟩)) ⟨b7, b3⟩ ?_
          refine tk 15 48 (.int .i64 g.lo) ⟨b7, b3⟩ ?_ (hy := fun w' hS => (exec_ld (by kernel_rfl) (run_ld1 hS.2 hT3 2 (.int .i64 g.lo) (by kernel_rfl))))
          refine tk 16 49 (.bool true) ⟨b7, b3⟩ ?_ (hy := fun w' _ => ((show _ = Result.ok (Next.value (.bool (decide (pf.pow > g.lo)))) _ from (by kernel_rfl)).trans (congrArg (fun z => Result.ok (Next.value (.bool z)) _) (show (decide (pf.pow > g.lo)) = true from decide_eq_true hg))))
          refine tk 17 50 (.bool true) ⟨b7, b3⟩ ?_
          refine tko 18 51 ⟨b7, b3⟩ ?_
          refine tko 19 52 ⟨b7, b3⟩ ?_
          refine tko 20 53 ⟨b7, b3⟩ ?_
          refine tk 21 54 (.bool true) ⟨b7, b3⟩ ?_
          refine tk 22 55 (.bool true) ⟨b7, b3⟩ ?_
          refine sx_done (by kernel_rfl) ?_
          refine sx_then ?_
          refine wp_cond_true (by kernel_rfl) ?_
          refine wp_seq ?_
          refine wp_seq ?_
          refine sx_region ?_
          refine sv 56 (.pointer (some ⟨kb7, 2, none⟩)) ?_
          refine sv 57 (.int .i64 pf.pow) ?_ (hr := (exec_ld (by kernel_rfl) (run_ld1 b7 hT3 2 (.int .i64 pf.pow) (by kernel_rfl))))
          refine sv 58 (.pointer (some ⟨V1.heap.size, 2, none⟩)) ?_
          refine sv 59 (.int .i64 g.lo) ?_ (hr := (exec_ld (by kernel_rfl) (run_ld1 b3 hT3 2 (.int .i64 g.lo) (by kernel_rfl))))
          refine sv 60 (.bool false) ?_ (hr := ((show _ = Result.ok (Next.value (.bool (pf.pow == g.lo))) _ from (by kernel_rfl)).trans (congrArg (fun z => Result.ok (Next.value (.bool z)) _) (show (pf.pow == g.lo) = false from beq_eq_false_iff_ne.2 (by omega)))))
          refine sx_nil ?_
          refine sx_then ?_
          refine wp_cond_false (by kernel_rfl) ?_
          refine wp_skip ?_
          refine sx_then ?_
          obtain ⟨V12, hVV12⟩ : ∃ V, V = (V11).drew := ⟨_, rfl⟩
          have hbV12 : Below (V11).heap.size (V11) V12 := by rw [hVV12]; exact (Below.refl _ _).drew
          have hzV12 : V12.heap.size = (V11).heap.size := by rw [hVV12]; rfl
          replace b7 := (b7.past hbV12)
          refine sxd _ (fun w' => Bt w' kb7 61 #[.bool pf.neg, .slice p19 (dig B32 pf.d).length c19, .int .i64 pf.pow, .bool pf.exact, .bool pf.over, .bool pf.under]) hVV12 b7 ?_
          clear hVV12
          refine tk 1 63 (.int .i64 ((wid g : Nat) : Int)) b7 ?_
          refine tk 2 64 (.pointer (some ⟨kb7, 2, none⟩)) b7 ?_
          refine tk 3 65 (.int .i64 pf.pow) b7 ?_ (hy := fun w' hS => (exec_ld (by kernel_rfl) (run_ld1 hS hT3 2 (.int .i64 pf.pow) (by kernel_rfl))))
          refine tk 4 66 (.int .i64 (pf.pow - 1)) b7 ?_ (hy := fun w' _ => ((show _ = Result.ok (Next.value (.int .i64 (IntKind.wrap .i64 (pf.pow - 1)))) _ by kernel_rfl).trans (congrArg (fun z => Result.ok (Next.value (.int .i64 z)) _) (IntWalk.i64_in _ (by omega)))))
          refine tk 5 67 (.int .i64 (((wid g : Nat) : Int) * (pf.pow - 1))) b7 ?_ (hy := fun w' _ => ((show _ = Result.ok (Next.value (.int .i64 (IntKind.wrap .i64 (((wid g : Nat) : Int) * (pf.pow - 1))))) _ by kernel_rfl).trans (congrArg (fun z => Result.ok (Next.value (.int .i64 z)) _) (IntWalk.i64_in _ (by omega)))))
          refine sxr [0] ?_
          refine rd1 (fun Kx hKx => ?_)
          refine sek 62 64 #[.int .i64 1] ?_
          ((with_reducible refine (gof_one _).mono ?_))
          rintro eV13 V13 ⟨q62, d62, rfl, ho62, hbV13⟩
          have hzV13 := hbV13.size
          refine ⟨.slice q62 (dig B32 1).length d62, rfl, ?_⟩
          replace b7 := (b7.past hbV13)
          refine hKx.out _ _ b7 ?_
          clear hKx Kx
          refine sxr [6] ?_
          refine rd1 (fun Kx hKx => ?_)
          replace hT := (hT.past (bthru (bthru (bthru (bthru (bthru (bthru (bthru (bthru (bthru (bthru (bthru (bthru hbV1 hbV2) hbV3) hbV4) hbV5) hbV6) hbV7) hbV8) hbV9) hbV10) hbV11) hbV12) hbV13))
          refine sek 68 50 #[.slice q62 (dig B32 1).length d62, .int .i64 (((wid g : Nat) : Int) * (pf.pow - 1))] ?_
          ((with_reducible refine (whole_one q62 d62 _ _ _ ho62 (by omega) hT).mono ?_))
          rintro eV14 V14 ⟨p68, c68, rfl, ho68, hbV14⟩
          have hzV14 := hbV14.size
          refine ⟨.agg #[.bool false, .slice p68 (dig B32 1).length c68, .int .i64 ((wid g : Int) * (pf.pow - 1))], rfl, ?_⟩
          replace b7 := (b7.past hbV14)
          refine hKx.out _ _ b7 ?_
          clear hKx Kx
          refine sxr [7] ?_
          refine rd1 (fun Kx hKx => ?_)
          replace b8 := (b8.past (bthru (bthru (bthru (bthru (bthru (bthru hbV8 hbV9) hbV10) hbV11) hbV12) hbV13) hbV14))
          refine ssk none b8 hT72 0 #[.bool false, .slice p68 (dig B32 1).length c68, .int .i64 ((wid g : Int) * (pf.pow - 1))] #[.bool false, .slice p68 (dig B32 1).length c68, .int .i64 ((wid g : Int) * (pf.pow - 1))] ?_
          have boV15 := b8
          clear b8
          intro V15 hOV15 b8
          have hzV15 := hOV15.size
          replace b7 := (b7.only hOV15 (by omega))
          refine hKx.out _ _ b7 ?_
          clear hKx Kx
          refine sx_done (by kernel_rfl) ?_
          refine sx_then ?_
          refine sx_region ?_
          replace b2 := ((b2.past (bthru (bthru (bthru (bthru (bthru (bthru hbV8 hbV9) hbV10) hbV11) hbV12) hbV13) hbV14)).only hOV15 (by omega))
          refine sv 69 (.agg #[.bool true, .slice p (dig B32 m).length c, .int .i64 e]) ?_ (hr := (exec_ld (by kernel_rfl) (run_ld b2 hT72 0 [.bool true, .slice p (dig B32 m).length c, .int .i64 e] (by kernel_rfl) (by kernel_rfl))))
          refine sv 70 (.agg #[.bool false, .slice p68 (dig B32 1).length c68, .int .i64 ((wid g : Int) * (pf.pow - 1))]) ?_ (hr := (exec_ld (by kernel_rfl) (run_ld b8 hT72 0 [.bool false, .slice p68 (dig B32 1).length c68, .int .i64 ((wid g : Int) * (pf.pow - 1))] (by kernel_rfl) (by kernel_rfl))))
          replace hp := (hp.past ((bthru (bthru (bthru (bthru (bthru (bthru (bthru (bthru (bthru (bthru (bthru (bthru (bthru hbV1 hbV2) hbV3) hbV4) hbV5) hbV6) hbV7) hbV8) hbV9) hbV10) hbV11) hbV12) hbV13) hbV14).trans (hOV15.below (by omega))))
          replace ho68 := (ho68.put boV15 hOV15 (by kernel_rfl))
          replace hT := ((hT.past hbV14).below (hOV15.below (Nat.le_refl _)) (by omega))
          refine se 71 65 #[.agg #[.bool true, .slice p (dig B32 m).length c, .int .i64 e], .agg #[.bool false, .slice p68 (dig B32 1).length c68, .int .i64 ((wid g : Int) * (pf.pow - 1))]] (fun Gx hGx => ?_)
          ((with_reducible refine ((HP _ p68 c68 hp (ho68.mono (by omega)) hT (by omega)).out).mono ?_))
          rintro eV16 V16 ⟨p32, c32, rfl, ho32, hbV16⟩
          have hzV16 := hbV16.size
          refine ⟨.agg #[.bool r.neg, .slice p32 (dig B32 r.m).length c32, .int .i64 r.e], rfl, hGx _ _ ?_⟩
          clear hGx Gx
          replace b2 := (b2.past hbV16)
          refine ss none b2 hT72 0 #[.bool r.neg, .slice p32 (dig B32 r.m).length c32, .int .i64 r.e] #[.bool r.neg, .slice p32 (dig B32 r.m).length c32, .int .i64 r.e] ?_
          have boV17 := b2
          clear b2
          intro V17 hOV17 b2
          have hzV17 := hOV17.size
          refine sx_nil ?_
          refine sx_then ?_
          refine wp_seq ?_
          replace b3 := ((((b3.past (bthru (bthru hbV12 hbV13) hbV14)).only hOV15 (by omega)).past hbV16).only hOV17 (by omega))
          obtain ⟨V18, hVV18⟩ : ∃ V, V = (V17).drew := ⟨_, rfl⟩
          have hbV18 : Below (V17).heap.size (V17) V18 := by rw [hVV18]; exact (Below.refl _ _).drew
          have hzV18 : V18.heap.size = (V17).heap.size := by rw [hVV18]; rfl
          replace b2 := (b2.past hbV18)
          replace b3 := (b3.past hbV18)
          refine sxd _ (fun w' => Bt w' w.heap.size 72 #[.bool r.neg, .slice p32 (dig B32 r.m).length c32, .int .i64 r.e] ∧ Bt w' V1.heap.size 27 #[.int .i64 g.rad, .int .i64 g.digs, .int .i64 g.lo, .int .i64 g.hi, .bool g.grad]) hVV18 ⟨b2, b3⟩ ?_
          clear hVV18
          refine tk 0 72 (.agg #[.bool r.neg, .slice p32 (dig B32 r.m).length c32, .int .i64 r.e]) ⟨b2, b3⟩ ?_ (hy := fun w' hS => (exec_ld (by kernel_rfl) (run_ld hS.1 hT72 0 [.bool r.neg, .slice p32 (dig B32 r.m).length c32, .int .i64 r.e] (by kernel_rfl) (by kernel_rfl))))
          refine tk 1 73 (.agg #[.bool r.neg, .slice p32 (dig B32 r.m).length c32, .int .i64 r.e]) ⟨b2, b3⟩ ?_ (hy := fun w' hS => (exec_ld (by kernel_rfl) (run_ld hS.1 hT72 0 [.bool r.neg, .slice p32 (dig B32 r.m).length c32, .int .i64 r.e] (by kernel_rfl) (by kernel_rfl))))
          refine tk 2 74 (.agg #[.int .i64 g.rad, .int .i64 g.digs, .int .i64 g.lo, .int .i64 g.hi, .bool g.grad]) ⟨b2, b3⟩ ?_ (hy := fun w' hS => (exec_ld (by kernel_rfl) (run_ld hS.2 hT27 0 [.int .i64 g.rad, .int .i64 g.digs, .int .i64 g.lo, .int .i64 g.hi, .bool g.grad] (by kernel_rfl) (by kernel_rfl))))
          refine sxr [3] ?_
          refine rd1 (fun Kx hKx => ?_)
          replace ho32 := ((ho32.put boV17 hOV17 (by kernel_rfl)).past hbV18)
          refine sek 75 36 #[.agg #[.bool r.neg, .slice p32 (dig B32 r.m).length c32, .int .i64 r.e], .agg #[.int .i64 g.rad, .int .i64 g.digs, .int .i64 g.lo, .int .i64 g.hi, .bool g.grad]] ?_
          ((with_reducible refine (gkeeps_any r.neg p32 c32 r.e r.m g _ ho32.rd (by omega) (by omega) G).mono ?_))
          rintro eV19 V19 ⟨rfl, hbV19⟩
          have hzV19 := hbV19.size
          refine ⟨.bool (keepsD ⟨r.neg, r.m, r.e⟩ g), rfl, ?_⟩
          replace b2 := (b2.past hbV19)
          replace b3 := (b3.past hbV19)
          refine hKx.out _ _ ⟨b2, b3⟩ ?_
          clear hKx Kx
          refine sxr [4] ?_
          refine rd1 (fun Kx hKx => ?_)
          replace b4 := (((b4.past (bthru ((bthru (bthru (bthru (bthru (bthru (bthru (bthru (bthru (bthru (bthru hbV4 hbV5) hbV6) hbV7) hbV8) hbV9) hbV10) hbV11) hbV12) hbV13) hbV14).trans (hOV15.below (by omega))) hbV16)).only hOV17 (by omega)).past (bthru hbV18 hbV19))
          refine ssk none b4 hT72 0 #[.bool r.neg, .slice p32 (dig B32 r.m).length c32, .int .i64 r.e] #[.bool r.neg, .slice p32 (dig B32 r.m).length c32, .int .i64 r.e] ?_
          have boV20 := b4
          clear b4
          intro V20 hOV20 b4
          have hzV20 := hOV20.size
          replace b2 := (b2.only hOV20 (by omega))
          replace b3 := (b3.only hOV20 (by omega))
          refine hKx.out _ _ ⟨b2, b3⟩ ?_
          clear hKx Kx
          refine tk 5 5 (.bool (keepsD ⟨r.neg, r.m, r.e⟩ g)) ⟨b2, b3⟩ ?_
          refine sx_done (by kernel_rfl) ?_
          refine sx_then ?_
          refine wp_ret ?_
          have ⟨b4_0, b4_1, b4_2⟩ := b4.bx.e3
          repeat (first | with_reducible refine sx_thenret ?_ | with_reducible refine sx_blockret ?_)
          refine bodyPost_ret (v := .tuple #[.agg #[.bool r.neg, .slice p32 (dig B32 r.m).length c32, .int .i64 r.e], .bool (keepsD ⟨r.neg, r.m, r.e⟩ g)]) (by simp [results, Tryd.results39, go_sem, b4_0, b4_1, b4_2]) rfl ?_
          replace ho32 := ((ho32.past hbV19).put boV20 hOV20 (by kernel_rfl))
          exact ⟨p32, c32, rfl, ho32, ((bthru (bthru ((bthru ((bthru (bthru (bthru (bthru (bthru (bthru (bthru (bthru (bthru (bthru (bthru (bthru (bthru hbV1 hbV2) hbV3) hbV4) hbV5) hbV6) hbV7) hbV8) hbV9) hbV10) hbV11) hbV12) hbV13) hbV14).trans (hOV15.below (by omega))) hbV16).trans (hOV17.below (by omega))) hbV18) hbV19).trans (hOV20.below (by omega)))⟩
        · have hgl : pf.pow = g.lo := by omega
          by_cases hgr : g.grad = true
          · rw [if_neg (by rw [hgr]; simp; omega)] at hk
            rw [hk]
            obtain ⟨b1, b2, b3, b4, b5⟩ := hbd
            have HP := fun W p25 c25 h1 h2 hT k => Lib.hid (plusD_any true false p p25 _ c _ c25 base e ((wid g : Int) * pf.pow) m 1 W h1 h2 rfl rfl (by omega) (by omega) (by omega) (by omega) hT k)
            rw [show pPlus ⟨true, m, e⟩ ⟨false, 1, (wid g : Int) * pf.pow⟩ = rPlus ⟨true, m, e⟩ (oneD ((wid g : Int) * pf.pow)) from b1] at HP
            have ek : ∀ r : Dv, keepsD r g = keepsD ⟨r.neg, r.m, r.e⟩ g := fun _ => rfl
            rw [ek]
            clear ek
            generalize rPlus ⟨true, m, e⟩ (oneD ((wid g : Int) * pf.pow)) = r at *
            have hT3 : SxOne Tryd.prog 3 := sxOne_of (by kernel_rfl) (by kernel_rfl)
            have hT4 : SxOne Tryd.prog 4 := sxOne_of (by kernel_rfl) (by kernel_rfl)
            have hT23 : SxOne Tryd.prog 23 := sxOne_of (by kernel_rfl) (by kernel_rfl)
            have hT27 : SxAgg Tryd.prog 27 5 := sxAgg_of (by kernel_rfl) (by kernel_rfl)
            have hT61 : SxAgg Tryd.prog 61 6 := sxAgg_of (by kernel_rfl) (by kernel_rfl)
            have hT72 : SxAgg Tryd.prog 72 3 := sxAgg_of (by kernel_rfl) (by kernel_rfl)
            refine calls_of_wp Tryd.func39 rfl ?_
            refine sx_frame (a' := ⟨((.agg #[.bool true, .slice p (dig B32 m).length c, .int .i64 e]) :: (.agg #[.int .i64 g.rad, .int .i64 g.digs, .int .i64 g.lo, .int .i64 g.hi, .bool g.grad]) :: undef :: undef :: undef :: undef :: undef :: undef :: undef :: undef :: undef :: undef :: undef :: undef :: undef :: undef :: undef :: undef :: undef :: undef :: undef :: undef :: undef :: undef :: undef :: undef :: undef :: undef :: undef :: undef :: undef :: undef :: undef :: undef :: undef :: undef :: undef :: undef :: undef :: undef :: undef :: undef :: undef :: undef :: undef :: undef :: undef :: undef :: undef :: undef :: undef :: undef :: undef :: undef :: undef :: undef :: undef :: undef :: undef :: undef :: undef :: undef :: undef :: undef :: undef :: undef :: undef :: undef :: undef :: undef :: undef :: undef :: undef :: undef :: undef :: undef :: []).toArray, []⟩) (by kernel_rfl) ?_
            refine wp_seq ?_
            refine sx_region ?_
            refine sn 2 #[.bool true, .slice p (dig B32 m).length c, .int .i64 e] 72 (fun V1 hbV1 hzV1 b2 => ?_)
            refine sn 3 #[.int .i64 g.rad, .int .i64 g.digs, .int .i64 g.lo, .int .i64 g.hi, .bool g.grad] 27 (fun V2 hbV2 hzV2 b3 => ?_)
            refine sn 4 #[.bool false, .slice none 0 0, .int .i64 0] 72 (fun V3 hbV3 hzV3 b4 => ?_)
            refine sv 5 (.bool false) ?_
            refine sx_nil ?_
            refine sx_then ?_
            refine wp_seq ?_
            refine sx_region ?_
            replace b3 := (b3.past hbV3)
            refine sv 9 (.agg #[.int .i64 g.rad, .int .i64 g.digs, .int .i64 g.lo, .int .i64 g.hi, .bool g.grad]) ?_ (hr := (exec_ld (by kernel_rfl) (run_ld b3 hT27 0 [.int .i64 g.rad, .int .i64 g.digs, .int .i64 g.lo, .int .i64 g.hi, .bool g.grad] (by kernel_rfl) (by kernel_rfl))))
            refine se 10 51 #[.agg #[.int .i64 g.rad, .int .i64 g.digs, .int .i64 g.lo, .int .i64 g.hi, .bool g.grad]] (fun Gx hGx => ?_)
            ((with_reducible refine (width_any g _).mono ?_))
            rintro eV4 V4 ⟨rfl, hbV4⟩
            have hzV4 := hbV4.size
            refine ⟨.int .i64 ((wid g : Nat) : Int), rfl, hGx _ _ ?_⟩
            clear hGx Gx
            refine sv 6 (.int .i64 ((wid g : Nat) : Int)) ?_
            refine sx_nil ?_
            refine sx_then ?_
            refine wp_seq ?_
            refine wp_seq ?_
            refine sx_region ?_
            replace b2 := (b2.past (bthru (bthru hbV2 hbV3) hbV4))
            refine sv 11 (.agg #[.bool true, .slice p (dig B32 m).length c, .int .i64 e]) ?_ (hr := (exec_ld (by kernel_rfl) (run_ld b2 hT72 0 [.bool true, .slice p (dig B32 m).length c, .int .i64 e] (by kernel_rfl) (by kernel_rfl))))
            refine se 12 53 #[.agg #[.bool true, .slice p (dig B32 m).length c, .int .i64 e]] (fun Gx hGx => ?_)
            ((with_reducible refine ((HS _).out).mono ?_))
            rintro eV5 V5 ⟨rfl, hbV5⟩
            have hzV5 := hbV5.size
            refine ⟨.int .i64 S, rfl, hGx _ _ ?_⟩
            clear hGx Gx
            refine sv 13 (.bool false) ?_ (hr := ((show _ = Result.ok (Next.value (.bool (S == 0))) _ from (by kernel_rfl)).trans (congrArg (fun z => Result.ok (Next.value (.bool z)) _) (show (S == 0) = false from hS1))))
            refine sx_nil ?_
            refine sx_then ?_
            refine wp_cond_false (by kernel_rfl) ?_
            refine wp_skip ?_
            refine sx_then ?_
            refine wp_seq ?_
            refine sx_cutg (R := fun a' w' => ∃ (kb7 : Nat) (q17 : Option Addr) (d17 : Nat) (p19 : Option Addr) (c19 : Nat), a' = ⟨((.agg #[.bool true, .slice p (dig B32 m).length c, .int .i64 e]) :: (.agg #[.int .i64 g.rad, .int .i64 g.digs, .int .i64 g.lo, .int .i64 g.hi, .bool g.grad]) :: (.pointer (some ⟨w.heap.size, 0, none⟩)) :: (.pointer (some ⟨V1.heap.size, 0, none⟩)) :: (.pointer (some ⟨V2.heap.size, 0, none⟩)) :: (.bool false) :: (.int .i64 ((wid g : Nat) : Int)) :: (.pointer (some ⟨kb7, 0, none⟩)) :: undef :: (.agg #[.int .i64 g.rad, .int .i64 g.digs, .int .i64 g.lo, .int .i64 g.hi, .bool g.grad]) :: (.int .i64 ((wid g : Nat) : Int)) :: (.agg #[.bool true, .slice p (dig B32 m).length c, .int .i64 e]) :: (.int .i64 S) :: (.bool false) :: undef :: undef :: (.agg #[.bool true, .slice p (dig B32 m).length c, .int .i64 e]) :: (.agg #[.bool true, .slice p (dig B32 m).length c, .slice q17 (dig B32 1).length d17, .int .i64 e]) :: (.agg #[.int .i64 g.rad, .int .i64 g.digs, .int .i64 g.lo, .int .i64 g.hi, .bool g.grad]) :: (.agg #[.bool pf.neg, .slice p19 (dig B32 pf.d).length c19, .int .i64 pf.pow, .bool pf.exact, .bool pf.over, .bool pf.under]) :: undef :: undef :: undef :: undef :: undef :: undef :: undef :: undef :: undef :: undef :: undef :: undef :: undef :: undef :: undef :: undef :: undef :: undef :: undef :: undef :: undef :: undef :: undef :: undef :: undef :: undef :: undef :: undef :: undef :: undef :: undef :: undef :: undef :: undef :: undef :: undef :: undef :: undef :: undef :: undef :: undef :: undef :: undef :: undef :: undef :: undef :: undef :: undef :: undef :: undef :: undef :: undef :: undef :: undef :: undef :: undef :: []).toArray, []⟩ ∧ Bt w' kb7 61 #[.bool pf.neg, .slice p19 (dig B32 pf.d).length c19, .int .i64 pf.pow, .bool pf.exact, .bool pf.over, .bool pf.under] ∧ Own w' V5.heap.size .u32 46 q17 d17 (dig B32 1) ∧ Own w' V5.heap.size .u32 46 p19 c19 (dig B32 pf.d) ∧ Below V5.heap.size V5 w' ∧ V5.heap.size ≤ kb7) ?_ (fun Gx hGx => ?_)
            · skip
              replace b2 := (b2.past hbV5)
              replace b3 := (b3.past (bthru hbV4 hbV5))
              obtain ⟨V6, hVV6⟩ : ∃ V, V = (V5).drew := ⟨_, rfl⟩
              have hbV6 : Below (V5).heap.size (V5) V6 := by rw [hVV6]; exact (Below.refl _ _).drew
              have hzV6 : V6.heap.size = (V5).heap.size := by rw [hVV6]; rfl
              replace b2 := (b2.past hbV6)
              replace b3 := (b3.past hbV6)
              refine sxd _ (fun w' => Bt w' w.heap.size 72 #[.bool true, .slice p (dig B32 m).length c, .int .i64 e] ∧ Bt w' V1.heap.size 27 #[.int .i64 g.rad, .int .i64 g.digs, .int .i64 g.lo, .int .i64 g.hi, .bool g.grad]) hVV6 ⟨b2, b3⟩ ?_
              clear hVV6
              refine tk 0 16 (.agg #[.bool true, .slice p (dig B32 m).length c, .int .i64 e]) ⟨b2, b3⟩ ?_ (hy := fun w' hS => (exec_ld (by kernel_rfl) (run_ld hS.1 hT72 0 [.bool true, .slice p (dig B32 m).length c, .int .i64 e] (by kernel_rfl) (by kernel_rfl))))
              refine tk 2 18 (.agg #[.int .i64 g.rad, .int .i64 g.digs, .int .i64 g.lo, .int .i64 g.hi, .bool g.grad]) ⟨b2, b3⟩ ?_ (hy := fun w' hS => (exec_ld (by kernel_rfl) (run_ld hS.2 hT27 0 [.int .i64 g.rad, .int .i64 g.digs, .int .i64 g.lo, .int .i64 g.hi, .bool g.grad] (by kernel_rfl) (by kernel_rfl))))
              refine sxr [1, 4] ?_
              refine rd2 (fun Kx hKx => ?_) ?_
              · skip
                refine sek 17 62 #[.agg #[.bool true, .slice p (dig B32 m).length c, .int .i64 e]] ?_
                ((with_reducible refine (gratio_any true p _ c e _).mono ?_))
                rintro eV7 V7 ⟨q17, d17, rfl, ho17, hbV7⟩
                have hzV7 := hbV7.size
                refine ⟨.agg #[.bool true, .slice p (dig B32 m).length c, .slice q17 (dig B32 1).length d17, .int .i64 e], rfl, ?_⟩
                replace b2 := (b2.past hbV7)
                replace b3 := (b3.past hbV7)
                refine hKx.out _ _ ⟨b2, b3⟩ ?_
                clear hKx Kx
                refine sxr [3, 4] ?_
                refine rd2 (fun Kx hKx => ?_) ?_
                · skip
                  replace hp := (hp.past (bthru (bthru (bthru (bthru (bthru (bthru hbV1 hbV2) hbV3) hbV4) hbV5) hbV6) hbV7))
                  refine sek 19 49 #[.agg #[.bool true, .slice p (dig B32 m).length c, .slice q17 (dig B32 1).length d17, .int .i64 e], .agg #[.int .i64 g.rad, .int .i64 g.digs, .int .i64 g.lo, .int .i64 g.hi, .bool g.grad], .int .i64 3] ?_
                  ((with_reducible refine ((HF _ q17 d17 hp.rd ho17.rd).out).mono ?_))
                  rintro eV8 V8 ⟨p19, c19, rfl, ho19, hbV8⟩
                  have hzV8 := hbV8.size
                  refine ⟨.agg #[.bool pf.neg, .slice p19 (dig B32 pf.d).length c19, .int .i64 pf.pow, .bool pf.exact, .bool pf.over, .bool pf.under], rfl, ?_⟩
                  replace b2 := (b2.past hbV8)
                  replace b3 := (b3.past hbV8)
                  refine hKx.out _ _ ⟨b2, b3⟩ ?_
                  clear hKx Kx
                  refine sxr [4] ?_
                  refine rd1 (fun Kx hKx => ?_)
                  refine snk 7 #[.bool false, .slice none 0 0, .int .i64 0, .bool false, .bool false, .bool false] 61 (fun V9 hbV9 hzV9 b7 => ?_)
                  replace b2 := (b2.past hbV9)
                  replace b3 := (b3.past hbV9)
                  refine hKx.out _ _ ⟨b2, b3⟩ ?_
                  clear hKx Kx
                  refine sxr [5] ?_
                  refine rd1 (fun Kx hKx => ?_)
                  refine ssk none b7 hT61 0 #[.bool pf.neg, .slice p19 (dig B32 pf.d).length c19, .int .i64 pf.pow, .bool pf.exact, .bool pf.over, .bool pf.under] #[.bool pf.neg, .slice p19 (dig B32 pf.d).length c19, .int .i64 pf.pow, .bool pf.exact, .bool pf.over, .bool pf.under] ?_
                  have boV10 := b7
                  clear b7
                  intro V10 hOV10 b7
                  have hzV10 := hOV10.size
                  replace b2 := (b2.only hOV10 (by omega))
                  replace b3 := (b3.only hOV10 (by omega))
                  refine hKx.out _ _ ⟨b2, b3⟩ ?_
                  clear hKx Kx
                  refine sx_done (by kernel_rfl) ?_
                  replace ho17 := (ho17.past ((bthru hbV8 hbV9).trans (hOV10.below (by omega))))
                  replace ho19 := (ho19.past (hbV9.trans (hOV10.below (by omega))))
                  exact ⟨rfl, V8.heap.size, q17, d17, p19, c19, by kernel_rfl, b7, (ho17.mono (by omega)), (ho19.mono (by omega)), ((bthru (bthru (bthru hbV6 hbV7) hbV8) hbV9).trans (hOV10.below (by omega))), by omega⟩
                refine rd1 (fun Kx hKx => ?_)
                refine snk 7 #[.bool false, .slice none 0 0, .int .i64 0, .bool false, .bool false, .bool false] 61 (fun V8 hbV8 hzV8 b7 => ?_)
                replace b2 := (b2.past hbV8)
                replace b3 := (b3.past hbV8)
                refine hKx.out _ _ ⟨b2, b3⟩ ?_
                clear hKx Kx
                refine sxr [3] ?_
                refine rd1 (fun Kx hKx => ?_)
                replace hp := (hp.past (bthru (bthru (bthru (bthru (bthru (bthru (bthru hbV1 hbV2) hbV3) hbV4) hbV5) hbV6) hbV7) hbV8))
                replace ho17 := (ho17.past hbV8)
                refine sek 19 49 #[.agg #[.bool true, .slice p (dig B32 m).length c, .slice q17 (dig B32 1).length d17, .int .i64 e], .agg #[.int .i64 g.rad, .int .i64 g.digs, .int .i64 g.lo, .int .i64 g.hi, .bool g.grad], .int .i64 3] ?_
                ((with_reducible refine ((HF _ q17 d17 hp.rd ho17.rd).out).mono ?_))
                rintro eV9 V9 ⟨p19, c19, rfl, ho19, hbV9⟩
                have hzV9 := hbV9.size
                refine ⟨.agg #[.bool pf.neg, .slice p19 (dig B32 pf.d).length c19, .int .i64 pf.pow, .bool pf.exact, .bool pf.over, .bool pf.under], rfl, ?_⟩
                replace b2 := (b2.past hbV9)
                replace b3 := (b3.past hbV9)
                refine hKx.out _ _ ⟨b2, b3⟩ ?_
                clear hKx Kx
                refine sxr [5] ?_
                refine rd1 (fun Kx hKx => ?_)
                replace b7 := (b7.past hbV9)
                refine ssk none b7 hT61 0 #[.bool pf.neg, .slice p19 (dig B32 pf.d).length c19, .int .i64 pf.pow, .bool pf.exact, .bool pf.over, .bool pf.under] #[.bool pf.neg, .slice p19 (dig B32 pf.d).length c19, .int .i64 pf.pow, .bool pf.exact, .bool pf.over, .bool pf.under] ?_
                have boV10 := b7
                clear b7
                intro V10 hOV10 b7
                have hzV10 := hOV10.size
                replace b2 := (b2.only hOV10 (by omega))
                replace b3 := (b3.only hOV10 (by omega))
                refine hKx.out _ _ ⟨b2, b3⟩ ?_
                clear hKx Kx
                refine sx_done (by kernel_rfl) ?_
                replace ho17 := ((ho17.past hbV9).put boV10 hOV10 (by kernel_rfl))
                replace ho19 := (ho19.put boV10 hOV10 (by kernel_rfl))
                exact ⟨rfl, V7.heap.size, q17, d17, p19, c19, by kernel_rfl, b7, (ho17.mono (by omega)), (ho19.mono (by omega)), ((bthru (bthru (bthru hbV6 hbV7) hbV8) hbV9).trans (hOV10.below (by omega))), by omega⟩
              refine rd1 (fun Kx hKx => ?_)
              refine snk 7 #[.bool false, .slice none 0 0, .int .i64 0, .bool false, .bool false, .bool false] 61 (fun V7 hbV7 hzV7 b7 => ?_)
              replace b2 := (b2.past hbV7)
              replace b3 := (b3.past hbV7)
              refine hKx.out _ _ ⟨b2, b3⟩ ?_
              clear hKx Kx
              refine sxr [1] ?_
              refine rd1 (fun Kx hKx => ?_)
              refine sek 17 62 #[.agg #[.bool true, .slice p (dig B32 m).length c, .int .i64 e]] ?_
              ((with_reducible refine (gratio_any true p _ c e _).mono ?_))
              rintro eV8 V8 ⟨q17, d17, rfl, ho17, hbV8⟩
              have hzV8 := hbV8.size
              refine ⟨.agg #[.bool true, .slice p (dig B32 m).length c, .slice q17 (dig B32 1).length d17, .int .i64 e], rfl, ?_⟩
              replace b2 := (b2.past hbV8)
              replace b3 := (b3.past hbV8)
              refine hKx.out _ _ ⟨b2, b3⟩ ?_
              clear hKx Kx
              refine sxr [3] ?_
              refine rd1 (fun Kx hKx => ?_)
              replace hp := (hp.past (bthru (bthru (bthru (bthru (bthru (bthru (bthru hbV1 hbV2) hbV3) hbV4) hbV5) hbV6) hbV7) hbV8))
              refine sek 19 49 #[.agg #[.bool true, .slice p (dig B32 m).length c, .slice q17 (dig B32 1).length d17, .int .i64 e], .agg #[.int .i64 g.rad, .int .i64 g.digs, .int .i64 g.lo, .int .i64 g.hi, .bool g.grad], .int .i64 3] ?_
              ((with_reducible refine ((HF _ q17 d17 hp.rd ho17.rd).out).mono ?_))
              rintro eV9 V9 ⟨p19, c19, rfl, ho19, hbV9⟩
              have hzV9 := hbV9.size
              refine ⟨.agg #[.bool pf.neg, .slice p19 (dig B32 pf.d).length c19, .int .i64 pf.pow, .bool pf.exact, .bool pf.over, .bool pf.under], rfl, ?_⟩
              replace b2 := (b2.past hbV9)
              replace b3 := (b3.past hbV9)
              refine hKx.out _ _ ⟨b2, b3⟩ ?_
              clear hKx Kx
              refine sxr [5] ?_
              refine rd1 (fun Kx hKx => ?_)
              replace b7 := (b7.past (bthru hbV8 hbV9))
              refine ssk none b7 hT61 0 #[.bool pf.neg, .slice p19 (dig B32 pf.d).length c19, .int .i64 pf.pow, .bool pf.exact, .bool pf.over, .bool pf.under] #[.bool pf.neg, .slice p19 (dig B32 pf.d).length c19, .int .i64 pf.pow, .bool pf.exact, .bool pf.over, .bool pf.under] ?_
              have boV10 := b7
              clear b7
              intro V10 hOV10 b7
              have hzV10 := hOV10.size
              replace b2 := (b2.only hOV10 (by omega))
              replace b3 := (b3.only hOV10 (by omega))
              refine hKx.out _ _ ⟨b2, b3⟩ ?_
              clear hKx Kx
              refine sx_done (by kernel_rfl) ?_
              replace ho17 := ((ho17.past hbV9).put boV10 hOV10 (by kernel_rfl))
              replace ho19 := (ho19.put boV10 hOV10 (by kernel_rfl))
              exact ⟨rfl, V6.heap.size, q17, d17, p19, c19, by kernel_rfl, b7, (ho17.mono (by omega)), (ho19.mono (by omega)), ((bthru (bthru (bthru hbV6 hbV7) hbV8) hbV9).trans (hOV10.below (by omega))), by omega⟩
            rintro _ V6 ⟨kb7, q17, d17, p19, c19, rfl, b7, ho17, ho19, hbV6, hkb7⟩
            refine hGx _ _ ?_
            clear hGx Gx
            have hzV6 := hbV6.size
            have hlb7 := b7.lt
            refine sx_then ?_
            refine wp_seq ?_
            refine sx_cutg (R := fun a' w' => ∃ (kb8 : Nat) (q20 : Option Addr) (d20 : Nat) (p25 : Option Addr) (c25 : Nat), a' = ⟨((.agg #[.bool true, .slice p (dig B32 m).length c, .int .i64 e]) :: (.agg #[.int .i64 g.rad, .int .i64 g.digs, .int .i64 g.lo, .int .i64 g.hi, .bool g.grad]) :: (.pointer (some ⟨w.heap.size, 0, none⟩)) :: (.pointer (some ⟨V1.heap.size, 0, none⟩)) :: (.pointer (some ⟨V2.heap.size, 0, none⟩)) :: (.bool false) :: (.int .i64 ((wid g : Nat) : Int)) :: (.pointer (some ⟨kb7, 0, none⟩)) :: (.pointer (some ⟨kb8, 0, none⟩)) :: (.agg #[.int .i64 g.rad, .int .i64 g.digs, .int .i64 g.lo, .int .i64 g.hi, .bool g.grad]) :: (.int .i64 ((wid g : Nat) : Int)) :: (.agg #[.bool true, .slice p (dig B32 m).length c, .int .i64 e]) :: (.int .i64 S) :: (.bool false) :: undef :: undef :: (.agg #[.bool true, .slice p (dig B32 m).length c, .int .i64 e]) :: (.agg #[.bool true, .slice p (dig B32 m).length c, .slice q17 (dig B32 1).length d17, .int .i64 e]) :: (.agg #[.int .i64 g.rad, .int .i64 g.digs, .int .i64 g.lo, .int .i64 g.hi, .bool g.grad]) :: (.agg #[.bool pf.neg, .slice p19 (dig B32 pf.d).length c19, .int .i64 pf.pow, .bool pf.exact, .bool pf.over, .bool pf.under]) :: (.slice q20 (dig B32 1).length d20) :: (.int .i64 ((wid g : Nat) : Int)) :: (.pointer (some ⟨kb7, 2, none⟩)) :: (.int .i64 pf.pow) :: (.int .i64 (((wid g : Nat) : Int) * pf.pow)) :: (.agg #[.bool false, .slice p25 (dig B32 1).length c25, .int .i64 ((wid g : Int) * pf.pow)]) :: undef :: undef :: undef :: undef :: undef :: undef :: undef :: undef :: undef :: undef :: undef :: undef :: undef :: undef :: undef :: undef :: undef :: undef :: undef :: undef :: undef :: undef :: undef :: undef :: undef :: undef :: undef :: undef :: undef :: undef :: undef :: undef :: undef :: undef :: undef :: undef :: undef :: undef :: undef :: undef :: undef :: undef :: undef :: undef :: undef :: undef :: undef :: undef :: undef :: undef :: []).toArray, []⟩ ∧ Bt w' kb8 72 #[.bool false, .slice p25 (dig B32 1).length c25, .int .i64 ((wid g : Int) * pf.pow)] ∧ Own w' V6.heap.size .u32 46 q20 d20 (dig B32 1) ∧ Own w' V6.heap.size .u32 46 p25 c25 (dig B32 1) ∧ Below V6.heap.size V6 w' ∧ V6.heap.size ≤ kb8) ?_ (fun Gx hGx => ?_)
            · skip
              obtain ⟨V7, hVV7⟩ : ∃ V, V = (V6).drew := ⟨_, rfl⟩
              have hbV7 : Below (V6).heap.size (V6) V7 := by rw [hVV7]; exact (Below.refl _ _).drew
              have hzV7 : V7.heap.size = (V6).heap.size := by rw [hVV7]; rfl
              replace b7 := (b7.past hbV7)
              refine sxd _ (fun w' => Bt w' kb7 61 #[.bool pf.neg, .slice p19 (dig B32 pf.d).length c19, .int .i64 pf.pow, .bool pf.exact, .bool pf.over, .bool pf.under]) hVV7 b7 ?_
              clear hVV7
              refine tk 1 21 (.int .i64 ((wid g : Nat) : Int)) b7 ?_
              refine tk 2 22 (.pointer (some ⟨kb7, 2, none⟩)) b7 ?_
              refine tk 3 23 (.int .i64 pf.pow) b7 ?_ (hy := fun w' hS => (exec_ld (by kernel_rfl) (run_ld1 hS hT3 2 (.int .i64 pf.pow) (by kernel_rfl))))
              refine tk 4 24 (.int .i64 (((wid g : Nat) : Int) * pf.pow)) b7 ?_ (hy := fun w' _ => ((show _ = Result.ok (Next.value (.int .i64 (IntKind.wrap .i64 (((wid g : Nat) : Int) * pf.pow)))) _ by kernel_rfl).trans (congrArg (fun z => Result.ok (Next.value (.int .i64 z)) _) (IntWalk.i64_in _ (by omega)))))
              refine sxr [0, 6] ?_
              refine rd2 (fun Kx hKx => ?_) ?_
              · skip
                refine sek 20 64 #[.int .i64 1] ?_
                ((with_reducible refine (gof_one _).mono ?_))
                rintro eV8 V8 ⟨q20, d20, rfl, ho20, hbV8⟩
                have hzV8 := hbV8.size
                refine ⟨.slice q20 (dig B32 1).length d20, rfl, ?_⟩
                replace b7 := (b7.past hbV8)
                refine hKx.out _ _ b7 ?_
                clear hKx Kx
                refine sxr [5, 6] ?_
                refine rd2 (fun Kx hKx => ?_) ?_
                · skip
                  replace hT := (hT.past (bthru (bthru (bthru (bthru (bthru (bthru (bthru hbV1 hbV2) hbV3) hbV4) hbV5) hbV6) hbV7) hbV8))
                  refine sek 25 50 #[.slice q20 (dig B32 1).length d20, .int .i64 (((wid g : Nat) : Int) * pf.pow)] ?_
                  ((with_reducible refine (whole_one q20 d20 _ _ _ ho20 (by omega) hT).mono ?_))
                  rintro eV9 V9 ⟨p25, c25, rfl, ho25, hbV9⟩
                  have hzV9 := hbV9.size
                  refine ⟨.agg #[.bool false, .slice p25 (dig B32 1).length c25, .int .i64 ((wid g : Int) * pf.pow)], rfl, ?_⟩
                  replace b7 := (b7.past hbV9)
                  refine hKx.out _ _ b7 ?_
                  clear hKx Kx
                  refine sxr [6] ?_
                  refine rd1 (fun Kx hKx => ?_)
                  refine snk 8 #[.bool false, .slice none 0 0, .int .i64 0] 72 (fun V10 hbV10 hzV10 b8 => ?_)
                  replace b7 := (b7.past hbV10)
                  refine hKx.out _ _ b7 ?_
                  clear hKx Kx
                  refine sxr [7] ?_
                  refine rd1 (fun Kx hKx => ?_)
                  refine ssk none b8 hT72 0 #[.bool false, .slice p25 (dig B32 1).length c25, .int .i64 ((wid g : Int) * pf.pow)] #[.bool false, .slice p25 (dig B32 1).length c25, .int .i64 ((wid g : Int) * pf.pow)] ?_
                  have boV11 := b8
                  clear b8
                  intro V11 hOV11 b8
                  have hzV11 := hOV11.size
                  replace b7 := (b7.only hOV11 (by omega))
                  refine hKx.out _ _ b7 ?_
                  clear hKx Kx
                  refine sx_done (by kernel_rfl) ?_
                  replace ho20 := (ho20.past ((bthru hbV9 hbV10).trans (hOV11.below (by omega))))
                  replace ho25 := (ho25.past (hbV10.trans (hOV11.below (by omega))))
                  exact ⟨rfl, V9.heap.size, q20, d20, p25, c25, by kernel_rfl, b8, (ho20.mono (by omega)), (ho25.mono (by omega)), ((bthru (bthru (bthru hbV7 hbV8) hbV9) hbV10).trans (hOV11.below (by omega))), by omega⟩
                refine rd1 (fun Kx hKx => ?_)
                refine snk 8 #[.bool false, .slice none 0 0, .int .i64 0] 72 (fun V9 hbV9 hzV9 b8 => ?_)
                replace b7 := (b7.past hbV9)
                refine hKx.out _ _ b7 ?_
                clear hKx Kx
                refine sxr [5] ?_
                refine rd1 (fun Kx hKx => ?_)
                replace ho20 := (ho20.past hbV9)
                replace hT := (hT.past (bthru (bthru (bthru (bthru (bthru (bthru (bthru (bthru hbV1 hbV2) hbV3) hbV4) hbV5) hbV6) hbV7) hbV8) hbV9))
                refine sek 25 50 #[.slice q20 (dig B32 1).length d20, .int .i64 (((wid g : Nat) : Int) * pf.pow)] ?_
                ((with_reducible refine (whole_one q20 d20 _ _ _ ho20 (by omega) hT).mono ?_))
                rintro eV10 V10 ⟨p25, c25, rfl, ho25, hbV10⟩
                have hzV10 := hbV10.size
                refine ⟨.agg #[.bool false, .slice p25 (dig B32 1).length c25, .int .i64 ((wid g : Int) * pf.pow)], rfl, ?_⟩
                replace b7 := (b7.past hbV10)
                refine hKx.out _ _ b7 ?_
                clear hKx Kx
                refine sxr [7] ?_
                refine rd1 (fun Kx hKx => ?_)
                replace b8 := (b8.past hbV10)
                refine ssk none b8 hT72 0 #[.bool false, .slice p25 (dig B32 1).length c25, .int .i64 ((wid g : Int) * pf.pow)] #[.bool false, .slice p25 (dig B32 1).length c25, .int .i64 ((wid g : Int) * pf.pow)] ?_
                have boV11 := b8
                clear b8
                intro V11 hOV11 b8
                have hzV11 := hOV11.size
                replace b7 := (b7.only hOV11 (by omega))
                refine hKx.out _ _ b7 ?_
                clear hKx Kx
                refine sx_done (by kernel_rfl) ?_
                replace ho20 := ((ho20.past hbV10).put boV11 hOV11 (by kernel_rfl))
                replace ho25 := (ho25.put boV11 hOV11 (by kernel_rfl))
                exact ⟨rfl, V8.heap.size, q20, d20, p25, c25, by kernel_rfl, b8, (ho20.mono (by omega)), (ho25.mono (by omega)), ((bthru (bthru (bthru hbV7 hbV8) hbV9) hbV10).trans (hOV11.below (by omega))), by omega⟩
              refine rd1 (fun Kx hKx => ?_)
              refine snk 8 #[.bool false, .slice none 0 0, .int .i64 0] 72 (fun V8 hbV8 hzV8 b8 => ?_)
              replace b7 := (b7.past hbV8)
              refine hKx.out _ _ b7 ?_
              clear hKx Kx
              refine sxr [0] ?_
              refine rd1 (fun Kx hKx => ?_)
              refine sek 20 64 #[.int .i64 1] ?_
              ((with_reducible refine (gof_one _).mono ?_))
              rintro eV9 V9 ⟨q20, d20, rfl, ho20, hbV9⟩
              have hzV9 := hbV9.size
              refine ⟨.slice q20 (dig B32 1).length d20, rfl, ?_⟩
              replace b7 := (b7.past hbV9)
              refine hKx.out _ _ b7 ?_
              clear hKx Kx
              refine sxr [5] ?_
              refine rd1 (fun Kx hKx => ?_)
              replace hT := (hT.past (bthru (bthru (bthru (bthru (bthru (bthru (bthru (bthru hbV1 hbV2) hbV3) hbV4) hbV5) hbV6) hbV7) hbV8) hbV9))
              refine sek 25 50 #[.slice q20 (dig B32 1).length d20, .int .i64 (((wid g : Nat) : Int) * pf.pow)] ?_
              ((with_reducible refine (whole_one q20 d20 _ _ _ ho20 (by omega) hT).mono ?_))
              rintro eV10 V10 ⟨p25, c25, rfl, ho25, hbV10⟩
              have hzV10 := hbV10.size
              refine ⟨.agg #[.bool false, .slice p25 (dig B32 1).length c25, .int .i64 ((wid g : Int) * pf.pow)], rfl, ?_⟩
              replace b7 := (b7.past hbV10)
              refine hKx.out _ _ b7 ?_
              clear hKx Kx
              refine sxr [7] ?_
              refine rd1 (fun Kx hKx => ?_)
              replace b8 := (b8.past (bthru hbV9 hbV10))
              refine ssk none b8 hT72 0 #[.bool false, .slice p25 (dig B32 1).length c25, .int .i64 ((wid g : Int) * pf.pow)] #[.bool false, .slice p25 (dig B32 1).length c25, .int .i64 ((wid g : Int) * pf.pow)] ?_
              have boV11 := b8
              clear b8
              intro V11 hOV11 b8
              have hzV11 := hOV11.size
              replace b7 := (b7.only hOV11 (by omega))
              refine hKx.out _ _ b7 ?_
              clear hKx Kx
              refine sx_done (by kernel_rfl) ?_
              replace ho20 := ((ho20.past hbV10).put boV11 hOV11 (by kernel_rfl))
              replace ho25 := (ho25.put boV11 hOV11 (by kernel_rfl))
              exact ⟨rfl, V7.heap.size, q20, d20, p25, c25, by kernel_rfl, b8, (ho20.mono (by omega)), (ho25.mono (by omega)), ((bthru (bthru (bthru hbV7 hbV8) hbV9) hbV10).trans (hOV11.below (by omega))), by omega⟩
            rintro _ V7 ⟨kb8, q20, d20, p25, c25, rfl, b8, ho20, ho25, hbV7, hkb8⟩
            refine hGx _ _ ?_
            clear hGx Gx
            have hzV7 := hbV7.size
            have hlb8 := b8.lt
            refine sx_then ?_
            refine wp_seq ?_
            refine wp_seq ?_
            refine sx_region ?_
            refine sv 26 (.pointer (some ⟨w.heap.size, 0, none⟩)) ?_
            refine sv 27 (.pointer (some ⟨w.heap.size, 0, none⟩)) ?_
            replace b2 := (b2.past (bthru (bthru hbV5 hbV6) hbV7))
            refine sv 28 (.bool true) ?_ (hr := (exec_ld (by kernel_rfl) (run_ld1 b2 hT4 0 (.bool true) (by kernel_rfl))))
            refine sv 29 (.bool false) ?_
            refine sx_nil ?_
            refine sx_then ?_
            refine wp_cond_false (by kernel_rfl) ?_
            refine wp_seq ?_
            refine wp_seq ?_
            replace b7 := (b7.past hbV7)
            replace b3 := (b3.past (bthru (bthru (bthru hbV4 hbV5) hbV6) hbV7))
            obtain ⟨V8, hVV8⟩ : ∃ V, V = (V7).drew := ⟨_, rfl⟩
            have hbV8 : Below (V7).heap.size (V7) V8 := by rw [hVV8]; exact (Below.refl _ _).drew
            have hzV8 : V8.heap.size = (V7).heap.size := by rw [hVV8]; rfl
            replace b7 := (b7.past hbV8)
            replace b3 := (b3.past hbV8)
            refine sxd _ (fun w' => Bt w' kb7 61 #[.bool pf.neg, .slice p19 (dig B32 pf.d).length c19, .int .i64 pf.pow, .bool pf.exact, .bool pf.over, .bool pf.under] ∧ Bt w' V1.heap.size 27 #[.int .i64 g.rad, .int .i64 g.digs, .int .i64 g.lo, .int .i64 g.hi, .bool g.grad]) hVV8 ⟨b7, b3⟩ ?_
            clear hVV8
            refine tk 0 33 (.pointer (some ⟨kb7, 1, none⟩)) ⟨b7, b3⟩ ?_
            refine tk 1 34 (.slice p19 (dig B32 pf.d).length c19) ⟨b7, b3⟩ ?_ (hy := fun w' hS => (exec_ld (by kernel_rfl) (run_ld1 hS.1 hT23 1 (.slice p19 (dig B32 pf.d).length c19) (by kernel_rfl))))
            refine tk 3 36 (.int .i64 ((wid g : Nat) : Int)) ⟨b7, b3⟩ ?_
            refine tk 4 37 (.pointer (some ⟨V1.heap.size, 1, none⟩)) ⟨b7, b3⟩ ?_
            refine tk 5 38 (.int .i64 g.digs) ⟨b7, b3⟩ ?_ (hy := fun w' hS => (exec_ld (by kernel_rfl) (run_ld1 hS.2 hT3 1 (.int .i64 g.digs) (by kernel_rfl))))
            refine tk 6 39 (.int .i64 (g.digs - 1)) ⟨b7, b3⟩ ?_ (hy := fun w' _ => ((show _ = Result.ok (Next.value (.int .i64 (IntKind.wrap .i64 (g.digs - 1)))) _ by kernel_rfl).trans (congrArg (fun z => Result.ok (Next.value (.int .i64 z)) _) (IntWalk.i64_in _ (by omega)))))
            refine tk 7 40 (.int .i64 ((N : Nat) : Int)) ⟨b7, b3⟩ ?_ (hy := fun w' _ => ((show _ = Result.ok (Next.value (.int .i64 (IntKind.wrap .i64 (((wid g : Nat) : Int) * (g.digs - 1))))) _ by kernel_rfl).trans (congrArg (fun z => Result.ok (Next.value (.int .i64 z)) _) (eN))))
            refine sxr [2] ?_
            refine rd1 (fun Kx hKx => ?_)
            refine sek 35 64 #[.int .i64 1] ?_
            ((with_reducible refine (gof_one _).mono ?_))
            rintro eV9 V9 ⟨q35, d35, rfl, ho35, hbV9⟩
            have hzV9 := hbV9.size
            refine ⟨.slice q35 (dig B32 1).length d35, rfl, ?_⟩
            replace b7 := (b7.past hbV9)
            replace b3 := (b3.past hbV9)
            refine hKx.out _ _ ⟨b7, b3⟩ ?_
            clear hKx Kx
            refine sxr [8] ?_
            refine rd1 (fun Kx hKx => ?_)
            refine sek 41 56 #[.slice q35 (dig B32 1).length d35, .int .i64 ((N : Nat) : Int)] ?_
            ((with_reducible refine (shl_any q35 _ d35 1 N _ ho35.rd rfl (by omega) (by omega)).mono ?_))
            rintro eV10 V10 ⟨q41, d41, rfl, ho41, hbV10⟩
            have hzV10 := hbV10.size
            refine ⟨.slice q41 (dig B32 (1 * 2 ^ N)).length d41, rfl, ?_⟩
            replace b7 := (b7.past hbV10)
            replace b3 := (b3.past hbV10)
            refine hKx.out _ _ ⟨b7, b3⟩ ?_
            clear hKx Kx
            refine sxr [9] ?_
            refine rd1 (fun Kx hKx => ?_)
            replace ho19 := (ho19.past (bthru (bthru (bthru hbV7 hbV8) hbV9) hbV10))
            refine sek 42 55 #[.slice p19 (dig B32 pf.d).length c19, .slice q41 (dig B32 (1 * 2 ^ N)).length d41] ?_
            ((with_reducible refine ((HC _ p19 c19 q41 d41 ho19.rd ho41.rd).out).mono ?_))
            rintro eV11 V11 ⟨rfl, hbV11⟩
            have hzV11 := hbV11.size
            refine ⟨.int .i64 C, rfl, ?_⟩
            replace b7 := (b7.past hbV11)
            replace b3 := (b3.past hbV11)
            refine hKx.out _ _ ⟨b7, b3⟩ ?_
            clear hKx Kx
            refine tk 10 43 (.bool true) ⟨b7, b3⟩ ?_ (hy := fun w' _ => ((show _ = Result.ok (Next.value (.bool (C == 0))) _ from (by kernel_rfl)).trans (congrArg (fun z => Result.ok (Next.value (.bool z)) _) (show (C == 0) = true from t43))))
            refine tk 11 44 (.bool true) ⟨b7, b3⟩ ?_
            refine tk 12 45 (.pointer (some ⟨kb7, 2, none⟩)) ⟨b7, b3⟩ ?_
            refine tk 13 46 (.int .i64 pf.pow) ⟨b7, b3⟩ ?_ (hy := fun w' hS => (exec_ld (by kernel_rfl) (run_ld1 hS.1 hT3 2 (.int .i64 pf.pow) (by kernel_rfl))))
            refine tk 14 47 (.pointer (some ⟨V1.heap.size, 2, none⟩)) ⟨b7, b3⟩ ?_
            refine tk 15 48 (.int .i64 g.lo) ⟨b7, b3⟩ ?_ (hy := fun w' hS => (exec_ld (by kernel_rfl) (run_ld1 hS.2 hT3 2 (.int .i64 g.lo) (by kernel_rfl))))
            refine tk 16 49 (.bool false) ⟨b7, b3⟩ ?_ (hy := fun w' _ => ((show _ = Result.ok (Next.value (.bool (decide (pf.pow > g.lo)))) _ from (by kernel_rfl)).trans (congrArg (fun z => Result.ok (Next.value (.bool z)) _) (show (decide (pf.pow > g.lo)) = false from decide_eq_false hg))))
            refine tk 17 50 (.bool false) ⟨b7, b3⟩ ?_
            refine tk 18 51 (.pointer (some ⟨V1.heap.size, 4, none⟩)) ⟨b7, b3⟩ ?_
            refine tk 19 52 (.bool g.grad) ⟨b7, b3⟩ ?_ (hy := fun w' hS => (exec_ld (by kernel_rfl) (run_ld1 hS.2 hT4 4 (.bool g.grad) (by kernel_rfl))))
            refine tk 20 53 (.bool false) ⟨b7, b3⟩ ?_ (hy := fun w' _ => ((show _ = Result.ok (Next.value (.bool (!g.grad))) _ from (by kernel_rfl)).trans (congrArg (fun z => Result.ok (Next.value (.bool z)) _) (show (!g.grad) = false from by rw [hgr]; rfl))))
            refine tk 21 54 (.bool false) ⟨b7, b3⟩ ?_
            refine tk 22 55 (.bool false) ⟨b7, b3⟩ ?_
            refine sx_done (by kernel_rfl) ?_
            refine sx_then ?_
            refine wp_cond_false (by kernel_rfl) ?_
            refine wp_skip ?_
            refine sx_then ?_
            refine sx_region ?_
            replace b2 := (b2.past (bthru (bthru (bthru hbV8 hbV9) hbV10) hbV11))
            refine sv 69 (.agg #[.bool true, .slice p (dig B32 m).length c, .int .i64 e]) ?_ (hr := (exec_ld (by kernel_rfl) (run_ld b2 hT72 0 [.bool true, .slice p (dig B32 m).length c, .int .i64 e] (by kernel_rfl) (by kernel_rfl))))
            replace b8 := (b8.past (bthru (bthru (bthru hbV8 hbV9) hbV10) hbV11))
            refine sv 70 (.agg #[.bool false, .slice p25 (dig B32 1).length c25, .int .i64 ((wid g : Int) * pf.pow)]) ?_ (hr := (exec_ld (by kernel_rfl) (run_ld b8 hT72 0 [.bool false, .slice p25 (dig B32 1).length c25, .int .i64 ((wid g : Int) * pf.pow)] (by kernel_rfl) (by kernel_rfl))))
            replace hp := (hp.past (bthru (bthru (bthru (bthru (bthru (bthru (bthru (bthru (bthru (bthru hbV1 hbV2) hbV3) hbV4) hbV5) hbV6) hbV7) hbV8) hbV9) hbV10) hbV11))
            replace ho25 := (ho25.past (bthru (bthru (bthru hbV8 hbV9) hbV10) hbV11))
            replace hT := (hT.past (bthru (bthru (bthru (bthru (bthru (bthru (bthru (bthru (bthru (bthru hbV1 hbV2) hbV3) hbV4) hbV5) hbV6) hbV7) hbV8) hbV9) hbV10) hbV11))
            refine se 71 65 #[.agg #[.bool true, .slice p (dig B32 m).length c, .int .i64 e], .agg #[.bool false, .slice p25 (dig B32 1).length c25, .int .i64 ((wid g : Int) * pf.pow)]] (fun Gx hGx => ?_)
            ((with_reducible refine ((HP _ p25 c25 hp (ho25.mono (by omega)) hT (by omega)).out).mono ?_))
            rintro eV12 V12 ⟨p32, c32, rfl, ho32, hbV12⟩
            have hzV12 := hbV12.size
            refine ⟨.agg #[.bool r.neg, .slice p32 (dig B32 r.m).length c32, .int .i64 r.e], rfl, hGx _ _ ?_⟩
            clear hGx Gx
            replace b2 := (b2.past hbV12)
            refine ss none b2 hT72 0 #[.bool r.neg, .slice p32 (dig B32 r.m).length c32, .int .i64 r.e] #[.bool r.neg, .slice p32 (dig B32 r.m).length c32, .int .i64 r.e] ?_
            have boV13 := b2
            clear b2
            intro V13 hOV13 b2
            have hzV13 := hOV13.size
            refine sx_nil ?_
            refine sx_then ?_
            refine wp_seq ?_
            replace b3 := ((b3.past hbV12).only hOV13 (by omega))
            obtain ⟨V14, hVV14⟩ : ∃ V, V = (V13).drew := ⟨_, rfl⟩
            have hbV14 : Below (V13).heap.size (V13) V14 := by rw [hVV14]; exact (Below.refl _ _).drew
            have hzV14 : V14.heap.size = (V13).heap.size := by rw [hVV14]; rfl
            replace b2 := (b2.past hbV14)
            replace b3 := (b3.past hbV14)
            refine sxd _ (fun w' => Bt w' w.heap.size 72 #[.bool r.neg, .slice p32 (dig B32 r.m).length c32, .int .i64 r.e] ∧ Bt w' V1.heap.size 27 #[.int .i64 g.rad, .int .i64 g.digs, .int .i64 g.lo, .int .i64 g.hi, .bool g.grad]) hVV14 ⟨b2, b3⟩ ?_
            clear hVV14
            refine tk 0 72 (.agg #[.bool r.neg, .slice p32 (dig B32 r.m).length c32, .int .i64 r.e]) ⟨b2, b3⟩ ?_ (hy := fun w' hS => (exec_ld (by kernel_rfl) (run_ld hS.1 hT72 0 [.bool r.neg, .slice p32 (dig B32 r.m).length c32, .int .i64 r.e] (by kernel_rfl) (by kernel_rfl))))
            refine tk 1 73 (.agg #[.bool r.neg, .slice p32 (dig B32 r.m).length c32, .int .i64 r.e]) ⟨b2, b3⟩ ?_ (hy := fun w' hS => (exec_ld (by kernel_rfl) (run_ld hS.1 hT72 0 [.bool r.neg, .slice p32 (dig B32 r.m).length c32, .int .i64 r.e] (by kernel_rfl) (by kernel_rfl))))
            refine tk 2 74 (.agg #[.int .i64 g.rad, .int .i64 g.digs, .int .i64 g.lo, .int .i64 g.hi, .bool g.grad]) ⟨b2, b3⟩ ?_ (hy := fun w' hS => (exec_ld (by kernel_rfl) (run_ld hS.2 hT27 0 [.int .i64 g.rad, .int .i64 g.digs, .int .i64 g.lo, .int .i64 g.hi, .bool g.grad] (by kernel_rfl) (by kernel_rfl))))
            refine sxr [3] ?_
            refine rd1 (fun Kx hKx => ?_)
            replace ho32 := ((ho32.put boV13 hOV13 (by kernel_rfl)).past hbV14)
            refine sek 75 36 #[.agg #[.bool r.neg, .slice p32 (dig B32 r.m).length c32, .int .i64 r.e], .agg #[.int .i64 g.rad, .int .i64 g.digs, .int .i64 g.lo, .int .i64 g.hi, .bool g.grad]] ?_
            ((with_reducible refine (gkeeps_any r.neg p32 c32 r.e r.m g _ ho32.rd (by omega) (by omega) G).mono ?_))
            rintro eV15 V15 ⟨rfl, hbV15⟩
            have hzV15 := hbV15.size
            refine ⟨.bool (keepsD ⟨r.neg, r.m, r.e⟩ g), rfl, ?_⟩
            replace b2 := (b2.past hbV15)
            replace b3 := (b3.past hbV15)
            refine hKx.out _ _ ⟨b2, b3⟩ ?_
            clear hKx Kx
            refine sxr [4] ?_
            refine rd1 (fun Kx hKx => ?_)
            replace b4 := (((b4.past (bthru (bthru (bthru (bthru (bthru (bthru (bthru (bthru hbV4 hbV5) hbV6) hbV7) hbV8) hbV9) hbV10) hbV11) hbV12)).only hOV13 (by omega)).past (bthru hbV14 hbV15))
            refine ssk none b4 hT72 0 #[.bool r.neg, .slice p32 (dig B32 r.m).length c32, .int .i64 r.e] #[.bool r.neg, .slice p32 (dig B32 r.m).length c32, .int .i64 r.e] ?_
            have boV16 := b4
            clear b4
            intro V16 hOV16 b4
            have hzV16 := hOV16.size
            replace b2 := (b2.only hOV16 (by omega))
            replace b3 := (b3.only hOV16 (by omega))
            refine hKx.out _ _ ⟨b2, b3⟩ ?_
            clear hKx Kx
            refine tk 5 5 (.bool (keepsD ⟨r.neg, r.m, r.e⟩ g)) ⟨b2, b3⟩ ?_
            refine sx_done (by kernel_rfl) ?_
            refine sx_then ?_
            refine wp_ret ?_
            have ⟨b4_0, b4_1, b4_2⟩ := b4.bx.e3
            repeat (first | with_reducible refine sx_thenret ?_ | with_reducible refine sx_blockret ?_)
            refine bodyPost_ret (v := .tuple #[.agg #[.bool r.neg, .slice p32 (dig B32 r.m).length c32, .int .i64 r.e], .bool (keepsD ⟨r.neg, r.m, r.e⟩ g)]) (by simp [results, Tryd.results39, go_sem, b4_0, b4_1, b4_2]) rfl ?_
            replace ho32 := ((ho32.past hbV15).put boV16 hOV16 (by kernel_rfl))
            exact ⟨p32, c32, rfl, ho32, ((bthru (bthru ((bthru (bthru (bthru (bthru (bthru (bthru (bthru (bthru (bthru (bthru (bthru hbV1 hbV2) hbV3) hbV4) hbV5) hbV6) hbV7) hbV8) hbV9) hbV10) hbV11) hbV12).trans (hOV13.below (by omega))) hbV14) hbV15).trans (hOV16.below (by omega)))⟩
          · replace hgr : g.grad = false := by simpa using hgr
            rw [if_pos ⟨hc, .inr hgr⟩, if_pos hgl] at hk
            rw [hk]
            have hT3 : SxOne Tryd.prog 3 := sxOne_of (by kernel_rfl) (by kernel_rfl)
            have hT4 : SxOne Tryd.prog 4 := sxOne_of (by kernel_rfl) (by kernel_rfl)
            have hT23 : SxOne Tryd.prog 23 := sxOne_of (by kernel_rfl) (by kernel_rfl)
            have hT27 : SxAgg Tryd.prog 27 5 := sxAgg_of (by kernel_rfl) (by kernel_rfl)
            have hT61 : SxAgg Tryd.prog 61 6 := sxAgg_of (by kernel_rfl) (by kernel_rfl)
            have hT72 : SxAgg Tryd.prog 72 3 := sxAgg_of (by kernel_rfl) (by kernel_rfl)
            refine calls_of_wp Tryd.func39 rfl ?_
            refine sx_frame (a' := ⟨((.agg #[.bool true, .slice p (dig B32 m).length c, .int .i64 e]) :: (.agg #[.int .i64 g.rad, .int .i64 g.digs, .int .i64 g.lo, .int .i64 g.hi, .bool g.grad]) :: undef :: undef :: undef :: undef :: undef :: undef :: undef :: undef :: undef :: undef :: undef :: undef :: undef :: undef :: undef :: undef :: undef :: undef :: undef :: undef :: undef :: undef :: undef :: undef :: undef :: undef :: undef :: undef :: undef :: undef :: undef :: undef :: undef :: undef :: undef :: undef :: undef :: undef :: undef :: undef :: undef :: undef :: undef :: undef :: undef :: undef :: undef :: undef :: undef :: undef :: undef :: undef :: undef :: undef :: undef :: undef :: undef :: undef :: undef :: undef :: undef :: undef :: undef :: undef :: undef :: undef :: undef :: undef :: undef :: undef :: undef :: undef :: undef :: undef :: []).toArray, []⟩) (by kernel_rfl) ?_
            refine wp_seq ?_
            refine sx_region ?_
            refine sn 2 #[.bool true, .slice p (dig B32 m).length c, .int .i64 e] 72 (fun V1 hbV1 hzV1 b2 => ?_)
            refine sn 3 #[.int .i64 g.rad, .int .i64 g.digs, .int .i64 g.lo, .int .i64 g.hi, .bool g.grad] 27 (fun V2 hbV2 hzV2 b3 => ?_)
            refine sn 4 #[.bool false, .slice none 0 0, .int .i64 0] 72 (fun V3 hbV3 hzV3 b4 => ?_)
            refine sv 5 (.bool false) ?_
            refine sx_nil ?_
            refine sx_then ?_
            refine wp_seq ?_
            refine sx_region ?_
            replace b3 := (b3.past hbV3)
            refine sv 9 (.agg #[.int .i64 g.rad, .int .i64 g.digs, .int .i64 g.lo, .int .i64 g.hi, .bool g.grad]) ?_ (hr := (exec_ld (by kernel_rfl) (run_ld b3 hT27 0 [.int .i64 g.rad, .int .i64 g.digs, .int .i64 g.lo, .int .i64 g.hi, .bool g.grad] (by kernel_rfl) (by kernel_rfl))))
            refine se 10 51 #[.agg #[.int .i64 g.rad, .int .i64 g.digs, .int .i64 g.lo, .int .i64 g.hi, .bool g.grad]] (fun Gx hGx => ?_)
            ((with_reducible refine (width_any g _).mono ?_))
            rintro eV4 V4 ⟨rfl, hbV4⟩
            have hzV4 := hbV4.size
            refine ⟨.int .i64 ((wid g : Nat) : Int), rfl, hGx _ _ ?_⟩
            clear hGx Gx
            refine sv 6 (.int .i64 ((wid g : Nat) : Int)) ?_
            refine sx_nil ?_
            refine sx_then ?_
            refine wp_seq ?_
            refine wp_seq ?_
            refine sx_region ?_
            replace b2 := (b2.past (bthru (bthru hbV2 hbV3) hbV4))
            refine sv 11 (.agg #[.bool true, .slice p (dig B32 m).length c, .int .i64 e]) ?_ (hr := (exec_ld (by kernel_rfl) (run_ld b2 hT72 0 [.bool true, .slice p (dig B32 m).length c, .int .i64 e] (by kernel_rfl) (by kernel_rfl))))
            refine se 12 53 #[.agg #[.bool true, .slice p (dig B32 m).length c, .int .i64 e]] (fun Gx hGx => ?_)
            ((with_reducible refine ((HS _).out).mono ?_))
            rintro eV5 V5 ⟨rfl, hbV5⟩
            have hzV5 := hbV5.size
            refine ⟨.int .i64 S, rfl, hGx _ _ ?_⟩
            clear hGx Gx
            refine sv 13 (.bool false) ?_ (hr := ((show _ = Result.ok (Next.value (.bool (S == 0))) _ from (by kernel_rfl)).trans (congrArg (fun z => Result.ok (Next.value (.bool z)) _) (show (S == 0) = false from hS1))))
            refine sx_nil ?_
            refine sx_then ?_
            refine wp_cond_false (by kernel_rfl) ?_
            refine wp_skip ?_
            refine sx_then ?_
            refine wp_seq ?_
            refine sx_cutg (R := fun a' w' => ∃ (kb7 : Nat) (q17 : Option Addr) (d17 : Nat) (p19 : Option Addr) (c19 : Nat), a' = ⟨((.agg #[.bool true, .slice p (dig B32 m).length c, .int .i64 e]) :: (.agg #[.int .i64 g.rad, .int .i64 g.digs, .int .i64 g.lo, .int .i64 g.hi, .bool g.grad]) :: (.pointer (some ⟨w.heap.size, 0, none⟩)) :: (.pointer (some ⟨V1.heap.size, 0, none⟩)) :: (.pointer (some ⟨V2.heap.size, 0, none⟩)) :: (.bool false) :: (.int .i64 ((wid g : Nat) : Int)) :: (.pointer (some ⟨kb7, 0, none⟩)) :: undef :: (.agg #[.int .i64 g.rad, .int .i64 g.digs, .int .i64 g.lo, .int .i64 g.hi, .bool g.grad]) :: (.int .i64 ((wid g : Nat) : Int)) :: (.agg #[.bool true, .slice p (dig B32 m).length c, .int .i64 e]) :: (.int .i64 S) :: (.bool false) :: undef :: undef :: (.agg #[.bool true, .slice p (dig B32 m).length c, .int .i64 e]) :: (.agg #[.bool true, .slice p (dig B32 m).length c, .slice q17 (dig B32 1).length d17, .int .i64 e]) :: (.agg #[.int .i64 g.rad, .int .i64 g.digs, .int .i64 g.lo, .int .i64 g.hi, .bool g.grad]) :: (.agg #[.bool pf.neg, .slice p19 (dig B32 pf.d).length c19, .int .i64 pf.pow, .bool pf.exact, .bool pf.over, .bool pf.under]) :: undef :: undef :: undef :: undef :: undef :: undef :: undef :: undef :: undef :: undef :: undef :: undef :: undef :: undef :: undef :: undef :: undef :: undef :: undef :: undef :: undef :: undef :: undef :: undef :: undef :: undef :: undef :: undef :: undef :: undef :: undef :: undef :: undef :: undef :: undef :: undef :: undef :: undef :: undef :: undef :: undef :: undef :: undef :: undef :: undef :: undef :: undef :: undef :: undef :: undef :: undef :: undef :: undef :: undef :: undef :: undef :: []).toArray, []⟩ ∧ Bt w' kb7 61 #[.bool pf.neg, .slice p19 (dig B32 pf.d).length c19, .int .i64 pf.pow, .bool pf.exact, .bool pf.over, .bool pf.under] ∧ Own w' V5.heap.size .u32 46 q17 d17 (dig B32 1) ∧ Own w' V5.heap.size .u32 46 p19 c19 (dig B32 pf.d) ∧ Below V5.heap.size V5 w' ∧ V5.heap.size ≤ kb7) ?_ (fun Gx hGx => ?_)
            · skip
              replace b2 := (b2.past hbV5)
              replace b3 := (b3.past (bthru hbV4 hbV5))
              obtain ⟨V6, hVV6⟩ : ∃ V, V = (V5).drew := ⟨_, rfl⟩
              have hbV6 : Below (V5).heap.size (V5) V6 := by rw [hVV6]; exact (Below.refl _ _).drew
              have hzV6 : V6.heap.size = (V5).heap.size := by rw [hVV6]; rfl
              replace b2 := (b2.past hbV6)
              replace b3 := (b3.past hbV6)
              refine sxd _ (fun w' => Bt w' w.heap.size 72 #[.bool true, .slice p (dig B32 m).length c, .int .i64 e] ∧ Bt w' V1.heap.size 27 #[.int .i64 g.rad, .int .i64 g.digs, .int .i64 g.lo, .int .i64 g.hi, .bool g.grad]) hVV6 ⟨b2, b3⟩ ?_
              clear hVV6
              refine tk 0 16 (.agg #[.bool true, .slice p (dig B32 m).length c, .int .i64 e]) ⟨b2, b3⟩ ?_ (hy := fun w' hS => (exec_ld (by kernel_rfl) (run_ld hS.1 hT72 0 [.bool true, .slice p (dig B32 m).length c, .int .i64 e] (by kernel_rfl) (by kernel_rfl))))
              refine tk 2 18 (.agg #[.int .i64 g.rad, .int .i64 g.digs, .int .i64 g.lo, .int .i64 g.hi, .bool g.grad]) ⟨b2, b3⟩ ?_ (hy := fun w' hS => (exec_ld (by kernel_rfl) (run_ld hS.2 hT27 0 [.int .i64 g.rad, .int .i64 g.digs, .int .i64 g.lo, .int .i64 g.hi, .bool g.grad] (by kernel_rfl) (by kernel_rfl))))
              refine sxr [1, 4] ?_
              refine rd2 (fun Kx hKx => ?_) ?_
              · skip
                refine sek 17 62 #[.agg #[.bool true, .slice p (dig B32 m).length c, .int .i64 e]] ?_
                ((with_reducible refine (gratio_any true p _ c e _).mono ?_))
                rintro eV7 V7 ⟨q17, d17, rfl, ho17, hbV7⟩
                have hzV7 := hbV7.size
                refine ⟨.agg #[.bool true, .slice p (dig B32 m).length c, .slice q17 (dig B32 1).length d17, .int .i64 e], rfl, ?_⟩
                replace b2 := (b2.past hbV7)
                replace b3 := (b3.past hbV7)
                refine hKx.out _ _ ⟨b2, b3⟩ ?_
                clear hKx Kx
                refine sxr [3, 4] ?_
                refine rd2 (fun Kx hKx => ?_) ?_
                · skip
                  replace hp := (hp.past (bthru (bthru (bthru (bthru (bthru (bthru hbV1 hbV2) hbV3) hbV4) hbV5) hbV6) hbV7))
                  refine sek 19 49 #[.agg #[.bool true, .slice p (dig B32 m).length c, .slice q17 (dig B32 1).length d17, .int .i64 e], .agg #[.int .i64 g.rad, .int .i64 g.digs, .int .i64 g.lo, .int .i64 g.hi, .bool g.grad], .int .i64 3] ?_
                  ((with_reducible refine ((HF _ q17 d17 hp.rd ho17.rd).out).mono ?_))
                  rintro eV8 V8 ⟨p19, c19, rfl, ho19, hbV8⟩
                  have hzV8 := hbV8.size
                  refine ⟨.agg #[.bool pf.neg, .slice p19 (dig B32 pf.d).length c19, .int .i64 pf.pow, .bool pf.exact, .bool pf.over, .bool pf.under], rfl, ?_⟩
                  replace b2 := (b2.past hbV8)
                  replace b3 := (b3.past hbV8)
                  refine hKx.out _ _ ⟨b2, b3⟩ ?_
                  clear hKx Kx
                  refine sxr [4] ?_
                  refine rd1 (fun Kx hKx => ?_)
                  refine snk 7 #[.bool false, .slice none 0 0, .int .i64 0, .bool false, .bool false, .bool false] 61 (fun V9 hbV9 hzV9 b7 => ?_)
                  replace b2 := (b2.past hbV9)
                  replace b3 := (b3.past hbV9)
                  refine hKx.out _ _ ⟨b2, b3⟩ ?_
                  clear hKx Kx
                  refine sxr [5] ?_
                  refine rd1 (fun Kx hKx => ?_)
                  refine ssk none b7 hT61 0 #[.bool pf.neg, .slice p19 (dig B32 pf.d).length c19, .int .i64 pf.pow, .bool pf.exact, .bool pf.over, .bool pf.under] #[.bool pf.neg, .slice p19 (dig B32 pf.d).length c19, .int .i64 pf.pow, .bool pf.exact, .bool pf.over, .bool pf.under] ?_
                  have boV10 := b7
                  clear b7
                  intro V10 hOV10 b7
                  have hzV10 := hOV10.size
                  replace b2 := (b2.only hOV10 (by omega))
                  replace b3 := (b3.only hOV10 (by omega))
                  refine hKx.out _ _ ⟨b2, b3⟩ ?_
                  clear hKx Kx
                  refine sx_done (by kernel_rfl) ?_
                  replace ho17 := (ho17.past ((bthru hbV8 hbV9).trans (hOV10.below (by omega))))
                  replace ho19 := (ho19.past (hbV9.trans (hOV10.below (by omega))))
                  exact ⟨rfl, V8.heap.size, q17, d17, p19, c19, by kernel_rfl, b7, (ho17.mono (by omega)), (ho19.mono (by omega)), ((bthru (bthru (bthru hbV6 hbV7) hbV8) hbV9).trans (hOV10.below (by omega))), by omega⟩
                refine rd1 (fun Kx hKx => ?_)
                refine snk 7 #[.bool false, .slice none 0 0, .int .i64 0, .bool false, .bool false, .bool false] 61 (fun V8 hbV8 hzV8 b7 => ?_)
                replace b2 := (b2.past hbV8)
                replace b3 := (b3.past hbV8)
                refine hKx.out _ _ ⟨b2, b3⟩ ?_
                clear hKx Kx
                refine sxr [3] ?_
                refine rd1 (fun Kx hKx => ?_)
                replace hp := (hp.past (bthru (bthru (bthru (bthru (bthru (bthru (bthru hbV1 hbV2) hbV3) hbV4) hbV5) hbV6) hbV7) hbV8))
                replace ho17 := (ho17.past hbV8)
                refine sek 19 49 #[.agg #[.bool true, .slice p (dig B32 m).length c, .slice q17 (dig B32 1).length d17, .int .i64 e], .agg #[.int .i64 g.rad, .int .i64 g.digs, .int .i64 g.lo, .int .i64 g.hi, .bool g.grad], .int .i64 3] ?_
                ((with_reducible refine ((HF _ q17 d17 hp.rd ho17.rd).out).mono ?_))
                rintro eV9 V9 ⟨p19, c19, rfl, ho19, hbV9⟩
                have hzV9 := hbV9.size
                refine ⟨.agg #[.bool pf.neg, .slice p19 (dig B32 pf.d).length c19, .int .i64 pf.pow, .bool pf.exact, .bool pf.over, .bool pf.under], rfl, ?_⟩
                replace b2 := (b2.past hbV9)
                replace b3 := (b3.past hbV9)
                refine hKx.out _ _ ⟨b2, b3⟩ ?_
                clear hKx Kx
                refine sxr [5] ?_
                refine rd1 (fun Kx hKx => ?_)
                replace b7 := (b7.past hbV9)
                refine ssk none b7 hT61 0 #[.bool pf.neg, .slice p19 (dig B32 pf.d).length c19, .int .i64 pf.pow, .bool pf.exact, .bool pf.over, .bool pf.under] #[.bool pf.neg, .slice p19 (dig B32 pf.d).length c19, .int .i64 pf.pow, .bool pf.exact, .bool pf.over, .bool pf.under] ?_
                have boV10 := b7
                clear b7
                intro V10 hOV10 b7
                have hzV10 := hOV10.size
                replace b2 := (b2.only hOV10 (by omega))
                replace b3 := (b3.only hOV10 (by omega))
                refine hKx.out _ _ ⟨b2, b3⟩ ?_
                clear hKx Kx
                refine sx_done (by kernel_rfl) ?_
                replace ho17 := ((ho17.past hbV9).put boV10 hOV10 (by kernel_rfl))
                replace ho19 := (ho19.put boV10 hOV10 (by kernel_rfl))
                exact ⟨rfl, V7.heap.size, q17, d17, p19, c19, by kernel_rfl, b7, (ho17.mono (by omega)), (ho19.mono (by omega)), ((bthru (bthru (bthru hbV6 hbV7) hbV8) hbV9).trans (hOV10.below (by omega))), by omega⟩
              refine rd1 (fun Kx hKx => ?_)
              refine snk 7 #[.bool false, .slice none 0 0, .int .i64 0, .bool false, .bool false, .bool false] 61 (fun V7 hbV7 hzV7 b7 => ?_)
              replace b2 := (b2.past hbV7)
              replace b3 := (b3.past hbV7)
              refine hKx.out _ _ ⟨b2, b3⟩ ?_
              clear hKx Kx
              refine sxr [1] ?_
              refine rd1 (fun Kx hKx => ?_)
              refine sek 17 62 #[.agg #[.bool true, .slice p (dig B32 m).length c, .int .i64 e]] ?_
              ((with_reducible refine (gratio_any true p _ c e _).mono ?_))
              rintro eV8 V8 ⟨q17, d17, rfl, ho17, hbV8⟩
              have hzV8 := hbV8.size
              refine ⟨.agg #[.bool true, .slice p (dig B32 m).length c, .slice q17 (dig B32 1).length d17, .int .i64 e], rfl, ?_⟩
              replace b2 := (b2.past hbV8)
              replace b3 := (b3.past hbV8)
              refine hKx.out _ _ ⟨b2, b3⟩ ?_
              clear hKx Kx
              refine sxr [3] ?_
              refine rd1 (fun Kx hKx => ?_)
              replace hp := (hp.past (bthru (bthru (bthru (bthru (bthru (bthru (bthru hbV1 hbV2) hbV3) hbV4) hbV5) hbV6) hbV7) hbV8))
              refine sek 19 49 #[.agg #[.bool true, .slice p (dig B32 m).length c, .slice q17 (dig B32 1).length d17, .int .i64 e], .agg #[.int .i64 g.rad, .int .i64 g.digs, .int .i64 g.lo, .int .i64 g.hi, .bool g.grad], .int .i64 3] ?_
              ((with_reducible refine ((HF _ q17 d17 hp.rd ho17.rd).out).mono ?_))
              rintro eV9 V9 ⟨p19, c19, rfl, ho19, hbV9⟩
              have hzV9 := hbV9.size
              refine ⟨.agg #[.bool pf.neg, .slice p19 (dig B32 pf.d).length c19, .int .i64 pf.pow, .bool pf.exact, .bool pf.over, .bool pf.under], rfl, ?_⟩
              replace b2 := (b2.past hbV9)
              replace b3 := (b3.past hbV9)
              refine hKx.out _ _ ⟨b2, b3⟩ ?_
              clear hKx Kx
              refine sxr [5] ?_
              refine rd1 (fun Kx hKx => ?_)
              replace b7 := (b7.past (bthru hbV8 hbV9))
              refine ssk none b7 hT61 0 #[.bool pf.neg, .slice p19 (dig B32 pf.d).length c19, .int .i64 pf.pow, .bool pf.exact, .bool pf.over, .bool pf.under] #[.bool pf.neg, .slice p19 (dig B32 pf.d).length c19, .int .i64 pf.pow, .bool pf.exact, .bool pf.over, .bool pf.under] ?_
              have boV10 := b7
              clear b7
              intro V10 hOV10 b7
              have hzV10 := hOV10.size
              replace b2 := (b2.only hOV10 (by omega))
              replace b3 := (b3.only hOV10 (by omega))
              refine hKx.out _ _ ⟨b2, b3⟩ ?_
              clear hKx Kx
              refine sx_done (by kernel_rfl) ?_
              replace ho17 := ((ho17.past hbV9).put boV10 hOV10 (by kernel_rfl))
              replace ho19 := (ho19.put boV10 hOV10 (by kernel_rfl))
              exact ⟨rfl, V6.heap.size, q17, d17, p19, c19, by kernel_rfl, b7, (ho17.mono (by omega)), (ho19.mono (by omega)), ((bthru (bthru (bthru hbV6 hbV7) hbV8) hbV9).trans (hOV10.below (by omega))), by omega⟩
            rintro _ V6 ⟨kb7, q17, d17, p19, c19, rfl, b7, ho17, ho19, hbV6, hkb7⟩
            refine hGx _ _ ?_
            clear hGx Gx
            have hzV6 := hbV6.size
            have hlb7 := b7.lt
            refine sx_then ?_
            refine wp_seq ?_
            refine sx_cutg (R := fun a' w' => ∃ (kb8 : Nat) (q20 : Option Addr) (d20 : Nat) (p25 : Option Addr) (c25 : Nat), a' = ⟨((.agg #[.bool true, .slice p (dig B32 m).length c, .int .i64 e]) :: (.agg #[.int .i64 g.rad, .int .i64 g.digs, .int .i64 g.lo, .int .i64 g.hi, .bool g.grad]) :: (.pointer (some ⟨w.heap.size, 0, none⟩)) :: (.pointer (some ⟨V1.heap.size, 0, none⟩)) :: (.pointer (some ⟨V2.heap.size, 0, none⟩)) :: (.bool false) :: (.int .i64 ((wid g : Nat) : Int)) :: (.pointer (some ⟨kb7, 0, none⟩)) :: (.pointer (some ⟨kb8, 0, none⟩)) :: (.agg #[.int .i64 g.rad, .int .i64 g.digs, .int .i64 g.lo, .int .i64 g.hi, .bool g.grad]) :: (.int .i64 ((wid g : Nat) : Int)) :: (.agg #[.bool true, .slice p (dig B32 m).length c, .int .i64 e]) :: (.int .i64 S) :: (.bool false) :: undef :: undef :: (.agg #[.bool true, .slice p (dig B32 m).length c, .int .i64 e]) :: (.agg #[.bool true, .slice p (dig B32 m).length c, .slice q17 (dig B32 1).length d17, .int .i64 e]) :: (.agg #[.int .i64 g.rad, .int .i64 g.digs, .int .i64 g.lo, .int .i64 g.hi, .bool g.grad]) :: (.agg #[.bool pf.neg, .slice p19 (dig B32 pf.d).length c19, .int .i64 pf.pow, .bool pf.exact, .bool pf.over, .bool pf.under]) :: (.slice q20 (dig B32 1).length d20) :: (.int .i64 ((wid g : Nat) : Int)) :: (.pointer (some ⟨kb7, 2, none⟩)) :: (.int .i64 pf.pow) :: (.int .i64 (((wid g : Nat) : Int) * pf.pow)) :: (.agg #[.bool false, .slice p25 (dig B32 1).length c25, .int .i64 ((wid g : Int) * pf.pow)]) :: undef :: undef :: undef :: undef :: undef :: undef :: undef :: undef :: undef :: undef :: undef :: undef :: undef :: undef :: undef :: undef :: undef :: undef :: undef :: undef :: undef :: undef :: undef :: undef :: undef :: undef :: undef :: undef :: undef :: undef :: undef :: undef :: undef :: undef :: undef :: undef :: undef :: undef :: undef :: undef :: undef :: undef :: undef :: undef :: undef :: undef :: undef :: undef :: undef :: undef :: []).toArray, []⟩ ∧ Bt w' kb8 72 #[.bool false, .slice p25 (dig B32 1).length c25, .int .i64 ((wid g : Int) * pf.pow)] ∧ Own w' V6.heap.size .u32 46 q20 d20 (dig B32 1) ∧ Own w' V6.heap.size .u32 46 p25 c25 (dig B32 1) ∧ Below V6.heap.size V6 w' ∧ V6.heap.size ≤ kb8) ?_ (fun Gx hGx => ?_)
            · skip
              obtain ⟨V7, hVV7⟩ : ∃ V, V = (V6).drew := ⟨_, rfl⟩
              have hbV7 : Below (V6).heap.size (V6) V7 := by rw [hVV7]; exact (Below.refl _ _).drew
              have hzV7 : V7.heap.size = (V6).heap.size := by rw [hVV7]; rfl
              replace b7 := (b7.past hbV7)
              refine sxd _ (fun w' => Bt w' kb7 61 #[.bool pf.neg, .slice p19 (dig B32 pf.d).length c19, .int .i64 pf.pow, .bool pf.exact, .bool pf.over, .bool pf.under]) hVV7 b7 ?_
              clear hVV7
              refine tk 1 21 (.int .i64 ((wid g : Nat) : Int)) b7 ?_
              refine tk 2 22 (.pointer (some ⟨kb7, 2, none⟩)) b7 ?_
              refine tk 3 23 (.int .i64 pf.pow) b7 ?_ (hy := fun w' hS => (exec_ld (by kernel_rfl) (run_ld1 hS hT3 2 (.int .i64 pf.pow) (by kernel_rfl))))
              refine tk 4 24 (.int .i64 (((wid g : Nat) : Int) * pf.pow)) b7 ?_ (hy := fun w' _ => ((show _ = Result.ok (Next.value (.int .i64 (IntKind.wrap .i64 (((wid g : Nat) : Int) * pf.pow)))) _ by kernel_rfl).trans (congrArg (fun z => Result.ok (Next.value (.int .i64 z)) _) (IntWalk.i64_in _ (by omega)))))
              refine sxr [0, 6] ?_
              refine rd2 (fun Kx hKx => ?_) ?_
              · skip
                refine sek 20 64 #[.int .i64 1] ?_
                ((with_reducible refine (gof_one _).mono ?_))
                rintro eV8 V8 ⟨q20, d20, rfl, ho20, hbV8⟩
                have hzV8 := hbV8.size
                refine ⟨.slice q20 (dig B32 1).length d20, rfl, ?_⟩
                replace b7 := (b7.past hbV8)
                refine hKx.out _ _ b7 ?_
                clear hKx Kx
                refine sxr [5, 6] ?_
                refine rd2 (fun Kx hKx => ?_) ?_
                · skip
                  replace hT := (hT.past (bthru (bthru (bthru (bthru (bthru (bthru (bthru hbV1 hbV2) hbV3) hbV4) hbV5) hbV6) hbV7) hbV8))
                  refine sek 25 50 #[.slice q20 (dig B32 1).length d20, .int .i64 (((wid g : Nat) : Int) * pf.pow)] ?_
                  ((with_reducible refine (whole_one q20 d20 _ _ _ ho20 (by omega) hT).mono ?_))
                  rintro eV9 V9 ⟨p25, c25, rfl, ho25, hbV9⟩
                  have hzV9 := hbV9.size
                  refine ⟨.agg #[.bool false, .slice p25 (dig B32 1).length c25, .int .i64 ((wid g : Int) * pf.pow)], rfl, ?_⟩
                  replace b7 := (b7.past hbV9)
                  refine hKx.out _ _ b7 ?_
                  clear hKx Kx
                  refine sxr [6] ?_
                  refine rd1 (fun Kx hKx => ?_)
                  refine snk 8 #[.bool false, .slice none 0 0, .int .i64 0] 72 (fun V10 hbV10 hzV10 b8 => ?_)
                  replace b7 := (b7.past hbV10)
                  refine hKx.out _ _ b7 ?_
                  clear hKx Kx
                  refine sxr [7] ?_
                  refine rd1 (fun Kx hKx => ?_)
                  refine ssk none b8 hT72 0 #[.bool false, .slice p25 (dig B32 1).length c25, .int .i64 ((wid g : Int) * pf.pow)] #[.bool false, .slice p25 (dig B32 1).length c25, .int .i64 ((wid g : Int) * pf.pow)] ?_
                  have boV11 := b8
                  clear b8
                  intro V11 hOV11 b8
                  have hzV11 := hOV11.size
                  replace b7 := (b7.only hOV11 (by omega))
                  refine hKx.out _ _ b7 ?_
                  clear hKx Kx
                  refine sx_done (by kernel_rfl) ?_
                  replace ho20 := (ho20.past ((bthru hbV9 hbV10).trans (hOV11.below (by omega))))
                  replace ho25 := (ho25.past (hbV10.trans (hOV11.below (by omega))))
                  exact ⟨rfl, V9.heap.size, q20, d20, p25, c25, by kernel_rfl, b8, (ho20.mono (by omega)), (ho25.mono (by omega)), ((bthru (bthru (bthru hbV7 hbV8) hbV9) hbV10).trans (hOV11.below (by omega))), by omega⟩
                refine rd1 (fun Kx hKx => ?_)
                refine snk 8 #[.bool false, .slice none 0 0, .int .i64 0] 72 (fun V9 hbV9 hzV9 b8 => ?_)
                replace b7 := (b7.past hbV9)
                refine hKx.out _ _ b7 ?_
                clear hKx Kx
                refine sxr [5] ?_
                refine rd1 (fun Kx hKx => ?_)
                replace ho20 := (ho20.past hbV9)
                replace hT := (hT.past (bthru (bthru (bthru (bthru (bthru (bthru (bthru (bthru hbV1 hbV2) hbV3) hbV4) hbV5) hbV6) hbV7) hbV8) hbV9))
                refine sek 25 50 #[.slice q20 (dig B32 1).length d20, .int .i64 (((wid g : Nat) : Int) * pf.pow)] ?_
                ((with_reducible refine (whole_one q20 d20 _ _ _ ho20 (by omega) hT).mono ?_))
                rintro eV10 V10 ⟨p25, c25, rfl, ho25, hbV10⟩
                have hzV10 := hbV10.size
                refine ⟨.agg #[.bool false, .slice p25 (dig B32 1).length c25, .int .i64 ((wid g : Int) * pf.pow)], rfl, ?_⟩
                replace b7 := (b7.past hbV10)
                refine hKx.out _ _ b7 ?_
                clear hKx Kx
                refine sxr [7] ?_
                refine rd1 (fun Kx hKx => ?_)
                replace b8 := (b8.past hbV10)
                refine ssk none b8 hT72 0 #[.bool false, .slice p25 (dig B32 1).length c25, .int .i64 ((wid g : Int) * pf.pow)] #[.bool false, .slice p25 (dig B32 1).length c25, .int .i64 ((wid g : Int) * pf.pow)] ?_
                have boV11 := b8
                clear b8
                intro V11 hOV11 b8
                have hzV11 := hOV11.size
                replace b7 := (b7.only hOV11 (by omega))
                refine hKx.out _ _ b7 ?_
                clear hKx Kx
                refine sx_done (by kernel_rfl) ?_
                replace ho20 := ((ho20.past hbV10).put boV11 hOV11 (by kernel_rfl))
                replace ho25 := (ho25.put boV11 hOV11 (by kernel_rfl))
                exact ⟨rfl, V8.heap.size, q20, d20, p25, c25, by kernel_rfl, b8, (ho20.mono (by omega)), (ho25.mono (by omega)), ((bthru (bthru (bthru hbV7 hbV8) hbV9) hbV10).trans (hOV11.below (by omega))), by omega⟩
              refine rd1 (fun Kx hKx => ?_)
              refine snk 8 #[.bool false, .slice none 0 0, .int .i64 0] 72 (fun V8 hbV8 hzV8 b8 => ?_)
              replace b7 := (b7.past hbV8)
              refine hKx.out _ _ b7 ?_
              clear hKx Kx
              refine sxr [0] ?_
              refine rd1 (fun Kx hKx => ?_)
              refine sek 20 64 #[.int .i64 1] ?_
              ((with_reducible refine (gof_one _).mono ?_))
              rintro eV9 V9 ⟨q20, d20, rfl, ho20, hbV9⟩
              have hzV9 := hbV9.size
              refine ⟨.slice q20 (dig B32 1).length d20, rfl, ?_⟩
              replace b7 := (b7.past hbV9)
              refine hKx.out _ _ b7 ?_
              clear hKx Kx
              refine sxr [5] ?_
              refine rd1 (fun Kx hKx => ?_)
              replace hT := (hT.past (bthru (bthru (bthru (bthru (bthru (bthru (bthru (bthru hbV1 hbV2) hbV3) hbV4) hbV5) hbV6) hbV7) hbV8) hbV9))
              refine sek 25 50 #[.slice q20 (dig B32 1).length d20, .int .i64 (((wid g : Nat) : Int) * pf.pow)] ?_
              ((with_reducible refine (whole_one q20 d20 _ _ _ ho20 (by omega) hT).mono ?_))
              rintro eV10 V10 ⟨p25, c25, rfl, ho25, hbV10⟩
              have hzV10 := hbV10.size
              refine ⟨.agg #[.bool false, .slice p25 (dig B32 1).length c25, .int .i64 ((wid g : Int) * pf.pow)], rfl, ?_⟩
              replace b7 := (b7.past hbV10)
              refine hKx.out _ _ b7 ?_
              clear hKx Kx
              refine sxr [7] ?_
              refine rd1 (fun Kx hKx => ?_)
              replace b8 := (b8.past (bthru hbV9 hbV10))
              refine ssk none b8 hT72 0 #[.bool false, .slice p25 (dig B32 1).length c25, .int .i64 ((wid g : Int) * pf.pow)] #[.bool false, .slice p25 (dig B32 1).length c25, .int .i64 ((wid g : Int) * pf.pow)] ?_
              have boV11 := b8
              clear b8
              intro V11 hOV11 b8
              have hzV11 := hOV11.size
              replace b7 := (b7.only hOV11 (by omega))
              refine hKx.out _ _ b7 ?_
              clear hKx Kx
              refine sx_done (by kernel_rfl) ?_
              replace ho20 := ((ho20.past hbV10).put boV11 hOV11 (by kernel_rfl))
              replace ho25 := (ho25.put boV11 hOV11 (by kernel_rfl))
              exact ⟨rfl, V7.heap.size, q20, d20, p25, c25, by kernel_rfl, b8, (ho20.mono (by omega)), (ho25.mono (by omega)), ((bthru (bthru (bthru hbV7 hbV8) hbV9) hbV10).trans (hOV11.below (by omega))), by omega⟩
            rintro _ V7 ⟨kb8, q20, d20, p25, c25, rfl, b8, ho20, ho25, hbV7, hkb8⟩
            refine hGx _ _ ?_
            clear hGx Gx
            have hzV7 := hbV7.size
            have hlb8 := b8.lt
            refine sx_then ?_
            refine wp_seq ?_
            refine wp_seq ?_
            refine sx_region ?_
            refine sv 26 (.pointer (some ⟨w.heap.size, 0, none⟩)) ?_
            refine sv 27 (.pointer (some ⟨w.heap.size, 0, none⟩)) ?_
            replace b2 := (b2.past (bthru (bthru hbV5 hbV6) hbV7))
            refine sv 28 (.bool true) ?_ (hr := (exec_ld (by kernel_rfl) (run_ld1 b2 hT4 0 (.bool true) (by kernel_rfl))))
            refine sv 29 (.bool false) ?_
            refine sx_nil ?_
            refine sx_then ?_
            refine wp_cond_false (by kernel_rfl) ?_
            refine wp_seq ?_
            refine wp_seq ?_
            replace b7 := (b7.past hbV7)
            replace b3 := (b3.past (bthru (bthru (bthru hbV4 hbV5) hbV6) hbV7))
            obtain ⟨V8, hVV8⟩ : ∃ V, V = (V7).drew := ⟨_, rfl⟩
            have hbV8 : Below (V7).heap.size (V7) V8 := by rw [hVV8]; exact (Below.refl _ _).drew
            have hzV8 : V8.heap.size = (V7).heap.size := by rw [hVV8]; rfl
            replace b7 := (b7.past hbV8)
            replace b3 := (b3.past hbV8)
            refine sxd _ (fun w' => Bt w' kb7 61 #[.bool pf.neg, .slice p19 (dig B32 pf.d).length c19, .int .i64 pf.pow, .bool pf.exact, .bool pf.over, .bool pf.under] ∧ Bt w' V1.heap.size 27 #[.int .i64 g.rad, .int .i64 g.digs, .int .i64 g.lo, .int .i64 g.hi, .bool g.grad]) hVV8 ⟨b7, b3⟩ ?_
            clear hVV8
            refine tk 0 33 (.pointer (some ⟨kb7, 1, none⟩)) ⟨b7, b3⟩ ?_
            refine tk 1 34 (.slice p19 (dig B32 pf.d).length c19) ⟨b7, b3⟩ ?_ (hy := fun w' hS => (exec_ld (by kernel_rfl) (run_ld1 hS.1 hT23 1 (.slice p19 (dig B32 pf.d).length c19) (by kernel_rfl))))
            refine tk 3 36 (.int .i64 ((wid g : Nat) : Int)) ⟨b7, b3⟩ ?_
            refine tk 4 37 (.pointer (some ⟨V1.heap.size, 1, none⟩)) ⟨b7, b3⟩ ?_
            refine tk 5 38 (.int .i64 g.digs) ⟨b7, b3⟩ ?_ (hy := fun w' hS => (exec_ld (by kernel_rfl) (run_ld1 hS.2 hT3 1 (.int .i64 g.digs) (by kernel_rfl))))
            refine tk 6 39 (.int .i64 (g.digs - 1)) ⟨b7, b3⟩ ?_ (hy := fun w' _ => ((show _ = Result.ok (Next.value (.int .i64 (IntKind.wrap .i64 (g.digs - 1)))) _ by kernel_rfl).trans (congrArg (fun z => Result.ok (Next.value (.int .i64 z)) _) (IntWalk.i64_in _ (by omega)))))
            refine tk 7 40 (.int .i64 ((N : Nat) : Int)) ⟨b7, b3⟩ ?_ (hy := fun w' _ => ((show _ = Result.ok (Next.value (.int .i64 (IntKind.wrap .i64 (((wid g : Nat) : Int) * (g.digs - 1))))) _ by kernel_rfl).trans (congrArg (fun z => Result.ok (Next.value (.int .i64 z)) _) (eN))))
            refine sxr [2] ?_
            refine rd1 (fun Kx hKx => ?_)
            refine sek 35 64 #[.int .i64 1] ?_
            ((with_reducible refine (gof_one _).mono ?_))
            rintro eV9 V9 ⟨q35, d35, rfl, ho35, hbV9⟩
            have hzV9 := hbV9.size
            refine ⟨.slice q35 (dig B32 1).length d35, rfl, ?_⟩
            replace b7 := (b7.past hbV9)
            replace b3 := (b3.past hbV9)
            refine hKx.out _ _ ⟨b7, b3⟩ ?_
            clear hKx Kx
            refine sxr [8] ?_
            refine rd1 (fun Kx hKx => ?_)
            refine sek 41 56 #[.slice q35 (dig B32 1).length d35, .int .i64 ((N : Nat) : Int)] ?_
            ((with_reducible refine (shl_any q35 _ d35 1 N _ ho35.rd rfl (by omega) (by omega)).mono ?_))
            rintro eV10 V10 ⟨q41, d41, rfl, ho41, hbV10⟩
            have hzV10 := hbV10.size
            refine ⟨.slice q41 (dig B32 (1 * 2 ^ N)).length d41, rfl, ?_⟩
            replace b7 := (b7.past hbV10)
            replace b3 := (b3.past hbV10)
            refine hKx.out _ _ ⟨b7, b3⟩ ?_
            clear hKx Kx
            refine sxr [9] ?_
            refine rd1 (fun Kx hKx => ?_)
            replace ho19 := (ho19.past (bthru (bthru (bthru hbV7 hbV8) hbV9) hbV10))
            refine sek 42 55 #[.slice p19 (dig B32 pf.d).length c19, .slice q41 (dig B32 (1 * 2 ^ N)).length d41] ?_
            ((with_reducible refine ((HC _ p19 c19 q41 d41 ho19.rd ho41.rd).out).mono ?_))
            rintro eV11 V11 ⟨rfl, hbV11⟩
            have hzV11 := hbV11.size
            refine ⟨.int .i64 C, rfl, ?_⟩
            replace b7 := (b7.past hbV11)
            replace b3 := (b3.past hbV11)
            refine hKx.out _ _ ⟨b7, b3⟩ ?_
            clear hKx Kx
            refine tk 10 43 (.bool true) ⟨b7, b3⟩ ?_ (hy := fun w' _ => ((show _ = Result.ok (Next.value (.bool (C == 0))) _ from (by kernel_rfl)).trans (congrArg (fun z => Result.ok (Next.value (.bool z)) _) (show (C == 0) = true from t43))))
            refine tk 11 44 (.bool true) ⟨b7, b3⟩ ?_
            refine tk 12 45 (.pointer (some ⟨kb7, 2, none⟩)) ⟨b7, b3⟩ ?_
            refine tk 13 46 (.int .i64 pf.pow) ⟨b7, b3⟩ ?_ (hy := fun w' hS => (exec_ld (by kernel_rfl) (run_ld1 hS.1 hT3 2 (.int .i64 pf.pow) (by kernel_rfl))))
            refine tk 14 47 (.pointer (some ⟨V1.heap.size, 2, none⟩)) ⟨b7, b3⟩ ?_
            refine tk 15 48 (.int .i64 g.lo) ⟨b7, b3⟩ ?_ (hy := fun w' hS => (exec_ld (by kernel_rfl) (run_ld1 hS.2 hT3 2 (.int .i64 g.lo) (by kernel_rfl))))
            refine tk 16 49 (.bool false) ⟨b7, b3⟩ ?_ (hy := fun w' _ => ((show _ = Result.ok (Next.value (.bool (decide (pf.pow > g.lo)))) _ from (by kernel_rfl)).trans (congrArg (fun z => Result.ok (Next.value (.bool z)) _) (show (decide (pf.pow > g.lo)) = false from decide_eq_false hg))))
            refine tk 17 50 (.bool false) ⟨b7, b3⟩ ?_
            refine tk 18 51 (.pointer (some ⟨V1.heap.size, 4, none⟩)) ⟨b7, b3⟩ ?_
            refine tk 19 52 (.bool g.grad) ⟨b7, b3⟩ ?_ (hy := fun w' hS => (exec_ld (by kernel_rfl) (run_ld1 hS.2 hT4 4 (.bool g.grad) (by kernel_rfl))))
            refine tk 20 53 (.bool true) ⟨b7, b3⟩ ?_ (hy := fun w' _ => ((show _ = Result.ok (Next.value (.bool (!g.grad))) _ from (by kernel_rfl)).trans (congrArg (fun z => Result.ok (Next.value (.bool z)) _) (show (!g.grad) = true from by rw [hgr]; rfl))))
            refine tk 21 54 (.bool true) ⟨b7, b3⟩ ?_
            refine tk 22 55 (.bool true) ⟨b7, b3⟩ ?_
            refine sx_done (by kernel_rfl) ?_
            refine sx_then ?_
            refine wp_cond_true (by kernel_rfl) ?_
            refine wp_seq ?_
            refine wp_seq ?_
            refine sx_region ?_
            refine sv 56 (.pointer (some ⟨kb7, 2, none⟩)) ?_
            refine sv 57 (.int .i64 pf.pow) ?_ (hr := (exec_ld (by kernel_rfl) (run_ld1 b7 hT3 2 (.int .i64 pf.pow) (by kernel_rfl))))
            refine sv 58 (.pointer (some ⟨V1.heap.size, 2, none⟩)) ?_
            refine sv 59 (.int .i64 g.lo) ?_ (hr := (exec_ld (by kernel_rfl) (run_ld1 b3 hT3 2 (.int .i64 g.lo) (by kernel_rfl))))
            refine sv 60 (.bool true) ?_ (hr := ((show _ = Result.ok (Next.value (.bool (pf.pow == g.lo))) _ from (by kernel_rfl)).trans (congrArg (fun z => Result.ok (Next.value (.bool z)) _) (show (pf.pow == g.lo) = true from by simpa using hgl))))
            refine sx_nil ?_
            refine sx_then ?_
            refine wp_cond_true (by kernel_rfl) ?_
            refine wp_seq ?_
            refine sx_region ?_
            refine sv 61 (.agg #[.bool false, .slice none 0 0, .int .i64 0]) ?_
            replace b4 := (b4.past (bthru (bthru (bthru (bthru (bthru (bthru (bthru hbV4 hbV5) hbV6) hbV7) hbV8) hbV9) hbV10) hbV11))
            refine ss none b4 hT72 0 #[.bool false, .slice none 0 0, .int .i64 0] #[.bool false, .slice none 0 0, .int .i64 0] ?_
            have boV12 := b4
            clear b4
            intro V12 hOV12 b4
            have hzV12 := hOV12.size
            refine sv 5 (.bool true) ?_
            refine sx_nil ?_
            refine sx_then ?_
            refine wp_ret ?_
            have ⟨b4_0, b4_1, b4_2⟩ := b4.bx.e3
            repeat (first | with_reducible refine sx_thenret ?_ | with_reducible refine sx_blockret ?_)
            refine bodyPost_ret (v := .tuple #[.agg #[.bool false, .slice none 0 0, .int .i64 0], .bool true]) (by simp [results, Tryd.results39, go_sem, b4_0, b4_1, b4_2]) rfl ?_
            exact ⟨none, 0, by simp [dig_zero], by rw [dig_zero]; exact Own.nil _ _ _ _, ((bthru (bthru (bthru (bthru (bthru (bthru (bthru (bthru (bthru (bthru hbV1 hbV2) hbV3) hbV4) hbV5) hbV6) hbV7) hbV8) hbV9) hbV10) hbV11).trans (hOV12.below (by omega)))⟩
      · have t43 : (C == 0) = false := beq_eq_false_iff_ne.2 (fun h => hc (hC0.1 h))
        rw [if_neg (fun h => hc h.1)] at hk
        rw [hk]
        obtain ⟨b1, b2, b3, b4, b5⟩ := hbd
        have HP := fun W p25 c25 h1 h2 hT k => Lib.hid (plusD_any true false p p25 _ c _ c25 base e ((wid g : Int) * pf.pow) m 1 W h1 h2 rfl rfl (by omega) (by omega) (by omega) (by omega) hT k)
        rw [show pPlus ⟨true, m, e⟩ ⟨false, 1, (wid g : Int) * pf.pow⟩ = rPlus ⟨true, m, e⟩ (oneD ((wid g : Int) * pf.pow)) from b1] at HP
        have ek : ∀ r : Dv, keepsD r g = keepsD ⟨r.neg, r.m, r.e⟩ g := fun _ => rfl
        rw [ek]
        clear ek
        generalize rPlus ⟨true, m, e⟩ (oneD ((wid g : Int) * pf.pow)) = r at *
        have hT3 : SxOne Tryd.prog 3 := sxOne_of (by kernel_rfl) (by kernel_rfl)
        have hT4 : SxOne Tryd.prog 4 := sxOne_of (by kernel_rfl) (by kernel_rfl)
        have hT23 : SxOne Tryd.prog 23 := sxOne_of (by kernel_rfl) (by kernel_rfl)
        have hT27 : SxAgg Tryd.prog 27 5 := sxAgg_of (by kernel_rfl) (by kernel_rfl)
        have hT61 : SxAgg Tryd.prog 61 6 := sxAgg_of (by kernel_rfl) (by kernel_rfl)
        have hT72 : SxAgg Tryd.prog 72 3 := sxAgg_of (by kernel_rfl) (by kernel_rfl)
        refine calls_of_wp Tryd.func39 rfl ?_
        refine sx_frame (a' := ⟨((.agg #[.bool true, .slice p (dig B32 m).length c, .int .i64 e]) :: (.agg #[.int .i64 g.rad, .int .i64 g.digs, .int .i64 g.lo, .int .i64 g.hi, .bool g.grad]) :: undef :: undef :: undef :: undef :: undef :: undef :: undef :: undef :: undef :: undef :: undef :: undef :: undef :: undef :: undef :: undef :: undef :: undef :: undef :: undef :: undef :: undef :: undef :: undef :: undef :: undef :: undef :: undef :: undef :: undef :: undef :: undef :: undef :: undef :: undef :: undef :: undef :: undef :: undef :: undef :: undef :: undef :: undef :: undef :: undef :: undef :: undef :: undef :: undef :: undef :: undef :: undef :: undef :: undef :: undef :: undef :: undef :: undef :: undef :: undef :: undef :: undef :: undef :: undef :: undef :: undef :: undef :: undef :: undef :: undef :: undef :: undef :: undef :: undef :: []).toArray, []⟩) (by kernel_rfl) ?_
        refine wp_seq ?_
        refine sx_region ?_
        refine sn 2 #[.bool true, .slice p (dig B32 m).length c, .int .i64 e] 72 (fun V1 hbV1 hzV1 b2 => ?_)
        refine sn 3 #[.int .i64 g.rad, .int .i64 g.digs, .int .i64 g.lo, .int .i64 g.hi, .bool g.grad] 27 (fun V2 hbV2 hzV2 b3 => ?_)
        refine sn 4 #[.bool false, .slice none 0 0, .int .i64 0] 72 (fun V3 hbV3 hzV3 b4 => ?_)
        refine sv 5 (.bool false) ?_
        refine sx_nil ?_
        refine sx_then ?_
        refine wp_seq ?_
        refine sx_region ?_
        replace b3 := (b3.past hbV3)
        refine sv 9 (.agg #[.int .i64 g.rad, .int .i64 g.digs, .int .i64 g.lo, .int .i64 g.hi, .bool g.grad]) ?_ (hr := (exec_ld (by kernel_rfl) (run_ld b3 hT27 0 [.int .i64 g.rad, .int .i64 g.digs, .int .i64 g.lo, .int .i64 g.hi, .bool g.grad] (by kernel_rfl) (by kernel_rfl))))
        refine se 10 51 #[.agg #[.int .i64 g.rad, .int .i64 g.digs, .int .i64 g.lo, .int .i64 g.hi, .bool g.grad]] (fun Gx hGx => ?_)
        ((with_reducible refine (width_any g _).mono ?_))
        rintro eV4 V4 ⟨rfl, hbV4⟩
        have hzV4 := hbV4.size
        refine ⟨.int .i64 ((wid g : Nat) : Int), rfl, hGx _ _ ?_⟩
        clear hGx Gx
        refine sv 6 (.int .i64 ((wid g : Nat) : Int)) ?_
        refine sx_nil ?_
        refine sx_then ?_
        refine wp_seq ?_
        refine wp_seq ?_
        refine sx_region ?_
        replace b2 := (b2.past (bthru (bthru hbV2 hbV3) hbV4))
        refine sv 11 (.agg #[.bool true, .slice p (dig B32 m).length c, .int .i64 e]) ?_ (hr := (exec_ld (by kernel_rfl) (run_ld b2 hT72 0 [.bool true, .slice p (dig B32 m).length c, .int .i64 e] (by kernel_rfl) (by kernel_rfl))))
        refine se 12 53 #[.agg #[.bool true, .slice p (dig B32 m).length c, .int .i64 e]] (fun Gx hGx => ?_)
        ((with_reducible refine ((HS _).out).mono ?_))
        rintro eV5 V5 ⟨rfl, hbV5⟩
        have hzV5 := hbV5.size
        refine ⟨.int .i64 S, rfl, hGx _ _ ?_⟩
        clear hGx Gx
        refine sv 13 (.bool false) ?_ (hr := ((show _ = Result.ok (Next.value (.bool (S == 0))) _ from (by kernel_rfl)).trans (congrArg (fun z => Result.ok (Next.value (.bool z)) _) (show (S == 0) = false from hS1))))
        refine sx_nil ?_
        refine sx_then ?_
        refine wp_cond_false (by kernel_rfl) ?_
        refine wp_skip ?_
        refine sx_then ?_
        refine wp_seq ?_
        refine sx_cutg (R := fun a' w' => ∃ (kb7 : Nat) (q17 : Option Addr) (d17 : Nat) (p19 : Option Addr) (c19 : Nat), a' = ⟨((.agg #[.bool true, .slice p (dig B32 m).length c, .int .i64 e]) :: (.agg #[.int .i64 g.rad, .int .i64 g.digs, .int .i64 g.lo, .int .i64 g.hi, .bool g.grad]) :: (.pointer (some ⟨w.heap.size, 0, none⟩)) :: (.pointer (some ⟨V1.heap.size, 0, none⟩)) :: (.pointer (some ⟨V2.heap.size, 0, none⟩)) :: (.bool false) :: (.int .i64 ((wid g : Nat) : Int)) :: (.pointer (some ⟨kb7, 0, none⟩)) :: undef :: (.agg #[.int .i64 g.rad, .int .i64 g.digs, .int .i64 g.lo, .int .i64 g.hi, .bool g.grad]) :: (.int .i64 ((wid g : Nat) : Int)) :: (.agg #[.bool true, .slice p (dig B32 m).length c, .int .i64 e]) :: (.int .i64 S) :: (.bool false) :: undef :: undef :: (.agg #[.bool true, .slice p (dig B32 m).length c, .int .i64 e]) :: (.agg #[.bool true, .slice p (dig B32 m).length c, .slice q17 (dig B32 1).length d17, .int .i64 e]) :: (.agg #[.int .i64 g.rad, .int .i64 g.digs, .int .i64 g.lo, .int .i64 g.hi, .bool g.grad]) :: (.agg #[.bool pf.neg, .slice p19 (dig B32 pf.d).length c19, .int .i64 pf.pow, .bool pf.exact, .bool pf.over, .bool pf.under]) :: undef :: undef :: undef :: undef :: undef :: undef :: undef :: undef :: undef :: undef :: undef :: undef :: undef :: undef :: undef :: undef :: undef :: undef :: undef :: undef :: undef :: undef :: undef :: undef :: undef :: undef :: undef :: undef :: undef :: undef :: undef :: undef :: undef :: undef :: undef :: undef :: undef :: undef :: undef :: undef :: undef :: undef :: undef :: undef :: undef :: undef :: undef :: undef :: undef :: undef :: undef :: undef :: undef :: undef :: undef :: undef :: []).toArray, []⟩ ∧ Bt w' kb7 61 #[.bool pf.neg, .slice p19 (dig B32 pf.d).length c19, .int .i64 pf.pow, .bool pf.exact, .bool pf.over, .bool pf.under] ∧ Own w' V5.heap.size .u32 46 q17 d17 (dig B32 1) ∧ Own w' V5.heap.size .u32 46 p19 c19 (dig B32 pf.d) ∧ Below V5.heap.size V5 w' ∧ V5.heap.size ≤ kb7) ?_ (fun Gx hGx => ?_)
        · skip
          replace b2 := (b2.past hbV5)
          replace b3 := (b3.past (bthru hbV4 hbV5))
          obtain ⟨V6, hVV6⟩ : ∃ V, V = (V5).drew := ⟨_, rfl⟩
          have hbV6 : Below (V5).heap.size (V5) V6 := by rw [hVV6]; exact (Below.refl _ _).drew
          have hzV6 : V6.heap.size = (V5).heap.size := by rw [hVV6]; rfl
          replace b2 := (b2.past hbV6)
          replace b3 := (b3.past hbV6)
          refine sxd _ (fun w' => Bt w' w.heap.size 72 #[.bool true, .slice p (dig B32 m).length c, .int .i64 e] ∧ Bt w' V1.heap.size 27 #[.int .i64 g.rad, .int .i64 g.digs, .int .i64 g.lo, .int .i64 g.hi, .bool g.grad]) hVV6 ⟨b2, b3⟩ ?_
          clear hVV6
          refine tk 0 16 (.agg #[.bool true, .slice p (dig B32 m).length c, .int .i64 e]) ⟨b2, b3⟩ ?_ (hy := fun w' hS => (exec_ld (by kernel_rfl) (run_ld hS.1 hT72 0 [.bool true, .slice p (dig B32 m).length c, .int .i64 e] (by kernel_rfl) (by kernel_rfl))))
          refine tk 2 18 (.agg #[.int .i64 g.rad, .int .i64 g.digs, .int .i64 g.lo, .int .i64 g.hi, .bool g.grad]) ⟨b2, b3⟩ ?_ (hy := fun w' hS => (exec_ld (by kernel_rfl) (run_ld hS.2 hT27 0 [.int .i64 g.rad, .int .i64 g.digs, .int .i64 g.lo, .int .i64 g.hi, .bool g.grad] (by kernel_rfl) (by kernel_rfl))))
          refine sxr [1, 4] ?_
          refine rd2 (fun Kx hKx => ?_) ?_
          · skip
            refine sek 17 62 #[.agg #[.bool true, .slice p (dig B32 m).length c, .int .i64 e]] ?_
            ((with_reducible refine (gratio_any true p _ c e _).mono ?_))
            rintro eV7 V7 ⟨q17, d17, rfl, ho17, hbV7⟩
            have hzV7 := hbV7.size
            refine ⟨.agg #[.bool true, .slice p (dig B32 m).length c, .slice q17 (dig B32 1).length d17, .int .i64 e], rfl, ?_⟩
            replace b2 := (b2.past hbV7)
            replace b3 := (b3.past hbV7)
            refine hKx.out _ _ ⟨b2, b3⟩ ?_
            clear hKx Kx
            refine sxr [3, 4] ?_
            refine rd2 (fun Kx hKx => ?_) ?_
            · skip
              replace hp := (hp.past (bthru (bthru (bthru (bthru (bthru (bthru hbV1 hbV2) hbV3) hbV4) hbV5) hbV6) hbV7))
              refine sek 19 49 #[.agg #[.bool true, .slice p (dig B32 m).length c, .slice q17 (dig B32 1).length d17, .int .i64 e], .agg #[.int .i64 g.rad, .int .i64 g.digs, .int .i64 g.lo, .int .i64 g.hi, .bool g.grad], .int .i64 3] ?_
              ((with_reducible refine ((HF _ q17 d17 hp.rd ho17.rd).out).mono ?_))
              rintro eV8 V8 ⟨p19, c19, rfl, ho19, hbV8⟩
              have hzV8 := hbV8.size
              refine ⟨.agg #[.bool pf.neg, .slice p19 (dig B32 pf.d).length c19, .int .i64 pf.pow, .bool pf.exact, .bool pf.over, .bool pf.under], rfl, ?_⟩
              replace b2 := (b2.past hbV8)
              replace b3 := (b3.past hbV8)
              refine hKx.out _ _ ⟨b2, b3⟩ ?_
              clear hKx Kx
              refine sxr [4] ?_
              refine rd1 (fun Kx hKx => ?_)
              refine snk 7 #[.bool false, .slice none 0 0, .int .i64 0, .bool false, .bool false, .bool false] 61 (fun V9 hbV9 hzV9 b7 => ?_)
              replace b2 := (b2.past hbV9)
              replace b3 := (b3.past hbV9)
              refine hKx.out _ _ ⟨b2, b3⟩ ?_
              clear hKx Kx
              refine sxr [5] ?_
              refine rd1 (fun Kx hKx => ?_)
              refine ssk none b7 hT61 0 #[.bool pf.neg, .slice p19 (dig B32 pf.d).length c19, .int .i64 pf.pow, .bool pf.exact, .bool pf.over, .bool pf.under] #[.bool pf.neg, .slice p19 (dig B32 pf.d).length c19, .int .i64 pf.pow, .bool pf.exact, .bool pf.over, .bool pf.under] ?_
              have boV10 := b7
              clear b7
              intro V10 hOV10 b7
              have hzV10 := hOV10.size
              replace b2 := (b2.only hOV10 (by omega))
              replace b3 := (b3.only hOV10 (by omega))
              refine hKx.out _ _ ⟨b2, b3⟩ ?_
              clear hKx Kx
              refine sx_done (by kernel_rfl) ?_
              replace ho17 := (ho17.past ((bthru hbV8 hbV9).trans (hOV10.below (by omega))))
              replace ho19 := (ho19.past (hbV9.trans (hOV10.below (by omega))))
              exact ⟨rfl, V8.heap.size, q17, d17, p19, c19, by kernel_rfl, b7, (ho17.mono (by omega)), (ho19.mono (by omega)), ((bthru (bthru (bthru hbV6 hbV7) hbV8) hbV9).trans (hOV10.below (by omega))), by omega⟩
            refine rd1 (fun Kx hKx => ?_)
            refine snk 7 #[.bool false, .slice none 0 0, .int .i64 0, .bool false, .bool false, .bool false] 61 (fun V8 hbV8 hzV8 b7 => ?_)
            replace b2 := (b2.past hbV8)
            replace b3 := (b3.past hbV8)
            refine hKx.out _ _ ⟨b2, b3⟩ ?_
            clear hKx Kx
            refine sxr [3] ?_
            refine rd1 (fun Kx hKx => ?_)
            replace hp := (hp.past (bthru (bthru (bthru (bthru (bthru (bthru (bthru hbV1 hbV2) hbV3) hbV4) hbV5) hbV6) hbV7) hbV8))
            replace ho17 := (ho17.past hbV8)
            refine sek 19 49 #[.agg #[.bool true, .slice p (dig B32 m).length c, .slice q17 (dig B32 1).length d17, .int .i64 e], .agg #[.int .i64 g.rad, .int .i64 g.digs, .int .i64 g.lo, .int .i64 g.hi, .bool g.grad], .int .i64 3] ?_
            ((with_reducible refine ((HF _ q17 d17 hp.rd ho17.rd).out).mono ?_))
            rintro eV9 V9 ⟨p19, c19, rfl, ho19, hbV9⟩
            have hzV9 := hbV9.size
            refine ⟨.agg #[.bool pf.neg, .slice p19 (dig B32 pf.d).length c19, .int .i64 pf.pow, .bool pf.exact, .bool pf.over, .bool pf.under], rfl, ?_⟩
            replace b2 := (b2.past hbV9)
            replace b3 := (b3.past hbV9)
            refine hKx.out _ _ ⟨b2, b3⟩ ?_
            clear hKx Kx
            refine sxr [5] ?_
            refine rd1 (fun Kx hKx => ?_)
            replace b7 := (b7.past hbV9)
            refine ssk none b7 hT61 0 #[.bool pf.neg, .slice p19 (dig B32 pf.d).length c19, .int .i64 pf.pow, .bool pf.exact, .bool pf.over, .bool pf.under] #[.bool pf.neg, .slice p19 (dig B32 pf.d).length c19, .int .i64 pf.pow, .bool pf.exact, .bool pf.over, .bool pf.under] ?_
            have boV10 := b7
            clear b7
            intro V10 hOV10 b7
            have hzV10 := hOV10.size
            replace b2 := (b2.only hOV10 (by omega))
            replace b3 := (b3.only hOV10 (by omega))
            refine hKx.out _ _ ⟨b2, b3⟩ ?_
            clear hKx Kx
            refine sx_done (by kernel_rfl) ?_
            replace ho17 := ((ho17.past hbV9).put boV10 hOV10 (by kernel_rfl))
            replace ho19 := (ho19.put boV10 hOV10 (by kernel_rfl))
            exact ⟨rfl, V7.heap.size, q17, d17, p19, c19, by kernel_rfl, b7, (ho17.mono (by omega)), (ho19.mono (by omega)), ((bthru (bthru (bthru hbV6 hbV7) hbV8) hbV9).trans (hOV10.below (by omega))), by omega⟩
          refine rd1 (fun Kx hKx => ?_)
          refine snk 7 #[.bool false, .slice none 0 0, .int .i64 0, .bool false, .bool false, .bool false] 61 (fun V7 hbV7 hzV7 b7 => ?_)
          replace b2 := (b2.past hbV7)
          replace b3 := (b3.past hbV7)
          refine hKx.out _ _ ⟨b2, b3⟩ ?_
          clear hKx Kx
          refine sxr [1] ?_
          refine rd1 (fun Kx hKx => ?_)
          refine sek 17 62 #[.agg #[.bool true, .slice p (dig B32 m).length c, .int .i64 e]] ?_
          ((with_reducible refine (gratio_any true p _ c e _).mono ?_))
          rintro eV8 V8 ⟨q17, d17, rfl, ho17, hbV8⟩
          have hzV8 := hbV8.size
          refine ⟨.agg #[.bool true, .slice p (dig B32 m).length c, .slice q17 (dig B32 1).length d17, .int .i64 e], rfl, ?_⟩
          replace b2 := (b2.past hbV8)
          replace b3 := (b3.past hbV8)
          refine hKx.out _ _ ⟨b2, b3⟩ ?_
          clear hKx Kx
          refine sxr [3] ?_
          refine rd1 (fun Kx hKx => ?_)
          replace hp := (hp.past (bthru (bthru (bthru (bthru (bthru (bthru (bthru hbV1 hbV2) hbV3) hbV4) hbV5) hbV6) hbV7) hbV8))
          refine sek 19 49 #[.agg #[.bool true, .slice p (dig B32 m).length c, .slice q17 (dig B32 1).length d17, .int .i64 e], .agg #[.int .i64 g.rad, .int .i64 g.digs, .int .i64 g.lo, .int .i64 g.hi, .bool g.grad], .int .i64 3] ?_
          ((with_reducible refine ((HF _ q17 d17 hp.rd ho17.rd).out).mono ?_))
          rintro eV9 V9 ⟨p19, c19, rfl, ho19, hbV9⟩
          have hzV9 := hbV9.size
          refine ⟨.agg #[.bool pf.neg, .slice p19 (dig B32 pf.d).length c19, .int .i64 pf.pow, .bool pf.exact, .bool pf.over, .bool pf.under], rfl, ?_⟩
          replace b2 := (b2.past hbV9)
          replace b3 := (b3.past hbV9)
          refine hKx.out _ _ ⟨b2, b3⟩ ?_
          clear hKx Kx
          refine sxr [5] ?_
          refine rd1 (fun Kx hKx => ?_)
          replace b7 := (b7.past (bthru hbV8 hbV9))
          refine ssk none b7 hT61 0 #[.bool pf.neg, .slice p19 (dig B32 pf.d).length c19, .int .i64 pf.pow, .bool pf.exact, .bool pf.over, .bool pf.under] #[.bool pf.neg, .slice p19 (dig B32 pf.d).length c19, .int .i64 pf.pow, .bool pf.exact, .bool pf.over, .bool pf.under] ?_
          have boV10 := b7
          clear b7
          intro V10 hOV10 b7
          have hzV10 := hOV10.size
          replace b2 := (b2.only hOV10 (by omega))
          replace b3 := (b3.only hOV10 (by omega))
          refine hKx.out _ _ ⟨b2, b3⟩ ?_
          clear hKx Kx
          refine sx_done (by kernel_rfl) ?_
          replace ho17 := ((ho17.past hbV9).put boV10 hOV10 (by kernel_rfl))
          replace ho19 := (ho19.put boV10 hOV10 (by kernel_rfl))
          exact ⟨rfl, V6.heap.size, q17, d17, p19, c19, by kernel_rfl, b7, (ho17.mono (by omega)), (ho19.mono (by omega)), ((bthru (bthru (bthru hbV6 hbV7) hbV8) hbV9).trans (hOV10.below (by omega))), by omega⟩
        rintro _ V6 ⟨kb7, q17, d17, p19, c19, rfl, b7, ho17, ho19, hbV6, hkb7⟩
        refine hGx _ _ ?_
        clear hGx Gx
        have hzV6 := hbV6.size
        have hlb7 := b7.lt
        refine sx_then ?_
        refine wp_seq ?_
        refine sx_cutg (R := fun a' w' => ∃ (kb8 : Nat) (q20 : Option Addr) (d20 : Nat) (p25 : Option Addr) (c25 : Nat), a' = ⟨((.agg #[.bool true, .slice p (dig B32 m).length c, .int .i64 e]) :: (.agg #[.int .i64 g.rad, .int .i64 g.digs, .int .i64 g.lo, .int .i64 g.hi, .bool g.grad]) :: (.pointer (some ⟨w.heap.size, 0, none⟩)) :: (.pointer (some ⟨V1.heap.size, 0, none⟩)) :: (.pointer (some ⟨V2.heap.size, 0, none⟩)) :: (.bool false) :: (.int .i64 ((wid g : Nat) : Int)) :: (.pointer (some ⟨kb7, 0, none⟩)) :: (.pointer (some ⟨kb8, 0, none⟩)) :: (.agg #[.int .i64 g.rad, .int .i64 g.digs, .int .i64 g.lo, .int .i64 g.hi, .bool g.grad]) :: (.int .i64 ((wid g : Nat) : Int)) :: (.agg #[.bool true, .slice p (dig B32 m).length c, .int .i64 e]) :: (.int .i64 S) :: (.bool false) :: undef :: undef :: (.agg #[.bool true, .slice p (dig B32 m).length c, .int .i64 e]) :: (.agg #[.bool true, .slice p (dig B32 m).length c, .slice q17 (dig B32 1).length d17, .int .i64 e]) :: (.agg #[.int .i64 g.rad, .int .i64 g.digs, .int .i64 g.lo, .int .i64 g.hi, .bool g.grad]) :: (.agg #[.bool pf.neg, .slice p19 (dig B32 pf.d).length c19, .int .i64 pf.pow, .bool pf.exact, .bool pf.over, .bool pf.under]) :: (.slice q20 (dig B32 1).length d20) :: (.int .i64 ((wid g : Nat) : Int)) :: (.pointer (some ⟨kb7, 2, none⟩)) :: (.int .i64 pf.pow) :: (.int .i64 (((wid g : Nat) : Int) * pf.pow)) :: (.agg #[.bool false, .slice p25 (dig B32 1).length c25, .int .i64 ((wid g : Int) * pf.pow)]) :: undef :: undef :: undef :: undef :: undef :: undef :: undef :: undef :: undef :: undef :: undef :: undef :: undef :: undef :: undef :: undef :: undef :: undef :: undef :: undef :: undef :: undef :: undef :: undef :: undef :: undef :: undef :: undef :: undef :: undef :: undef :: undef :: undef :: undef :: undef :: undef :: undef :: undef :: undef :: undef :: undef :: undef :: undef :: undef :: undef :: undef :: undef :: undef :: undef :: undef :: []).toArray, []⟩ ∧ Bt w' kb8 72 #[.bool false, .slice p25 (dig B32 1).length c25, .int .i64 ((wid g : Int) * pf.pow)] ∧ Own w' V6.heap.size .u32 46 q20 d20 (dig B32 1) ∧ Own w' V6.heap.size .u32 46 p25 c25 (dig B32 1) ∧ Below V6.heap.size V6 w' ∧ V6.heap.size ≤ kb8) ?_ (fun Gx hGx => ?_)
        · skip
          obtain ⟨V7, hVV7⟩ : ∃ V, V = (V6).drew := ⟨_, rfl⟩
          have hbV7 : Below (V6).heap.size (V6) V7 := by rw [hVV7]; exact (Below.refl _ _).drew
          have hzV7 : V7.heap.size = (V6).heap.size := by rw [hVV7]; rfl
          replace b7 := (b7.past hbV7)
          refine sxd _ (fun w' => Bt w' kb7 61 #[.bool pf.neg, .slice p19 (dig B32 pf.d).length c19, .int .i64 pf.pow, .bool pf.exact, .bool pf.over, .bool pf.under]) hVV7 b7 ?_
          clear hVV7
          refine tk 1 21 (.int .i64 ((wid g : Nat) : Int)) b7 ?_
          refine tk 2 22 (.pointer (some ⟨kb7, 2, none⟩)) b7 ?_
          refine tk 3 23 (.int .i64 pf.pow) b7 ?_ (hy := fun w' hS => (exec_ld (by kernel_rfl) (run_ld1 hS hT3 2 (.int .i64 pf.pow) (by kernel_rfl))))
          refine tk 4 24 (.int .i64 (((wid g : Nat) : Int) * pf.pow)) b7 ?_ (hy := fun w' _ => ((show _ = Result.ok (Next.value (.int .i64 (IntKind.wrap .i64 (((wid g : Nat) : Int) * pf.pow)))) _ by kernel_rfl).trans (congrArg (fun z => Result.ok (Next.value (.int .i64 z)) _) (IntWalk.i64_in _ (by omega)))))
          refine sxr [0, 6] ?_
          refine rd2 (fun Kx hKx => ?_) ?_
          · skip
            refine sek 20 64 #[.int .i64 1] ?_
            ((with_reducible refine (gof_one _).mono ?_))
            rintro eV8 V8 ⟨q20, d20, rfl, ho20, hbV8⟩
            have hzV8 := hbV8.size
            refine ⟨.slice q20 (dig B32 1).length d20, rfl, ?_⟩
            replace b7 := (b7.past hbV8)
            refine hKx.out _ _ b7 ?_
            clear hKx Kx
            refine sxr [5, 6] ?_
            refine rd2 (fun Kx hKx => ?_) ?_
            · skip
              replace hT := (hT.past (bthru (bthru (bthru (bthru (bthru (bthru (bthru hbV1 hbV2) hbV3) hbV4) hbV5) hbV6) hbV7) hbV8))
              refine sek 25 50 #[.slice q20 (dig B32 1).length d20, .int .i64 (((wid g : Nat) : Int) * pf.pow)] ?_
              ((with_reducible refine (whole_one q20 d20 _ _ _ ho20 (by omega) hT).mono ?_))
              rintro eV9 V9 ⟨p25, c25, rfl, ho25, hbV9⟩
              have hzV9 := hbV9.size
              refine ⟨.agg #[.bool false, .slice p25 (dig B32 1).length c25, .int .i64 ((wid g : Int) * pf.pow)], rfl, ?_⟩
              replace b7 := (b7.past hbV9)
              refine hKx.out _ _ b7 ?_
              clear hKx Kx
              refine sxr [6] ?_
              refine rd1 (fun Kx hKx => ?_)
              refine snk 8 #[.bool false, .slice none 0 0, .int .i64 0] 72 (fun V10 hbV10 hzV10 b8 => ?_)
              replace b7 := (b7.past hbV10)
              refine hKx.out _ _ b7 ?_
              clear hKx Kx
              refine sxr [7] ?_
              refine rd1 (fun Kx hKx => ?_)
              refine ssk none b8 hT72 0 #[.bool false, .slice p25 (dig B32 1).length c25, .int .i64 ((wid g : Int) * pf.pow)] #[.bool false, .slice p25 (dig B32 1).length c25, .int .i64 ((wid g : Int) * pf.pow)] ?_
              have boV11 := b8
              clear b8
              intro V11 hOV11 b8
              have hzV11 := hOV11.size
              replace b7 := (b7.only hOV11 (by omega))
              refine hKx.out _ _ b7 ?_
              clear hKx Kx
              refine sx_done (by kernel_rfl) ?_
              replace ho20 := (ho20.past ((bthru hbV9 hbV10).trans (hOV11.below (by omega))))
              replace ho25 := (ho25.past (hbV10.trans (hOV11.below (by omega))))
              exact ⟨rfl, V9.heap.size, q20, d20, p25, c25, by kernel_rfl, b8, (ho20.mono (by omega)), (ho25.mono (by omega)), ((bthru (bthru (bthru hbV7 hbV8) hbV9) hbV10).trans (hOV11.below (by omega))), by omega⟩
            refine rd1 (fun Kx hKx => ?_)
            refine snk 8 #[.bool false, .slice none 0 0, .int .i64 0] 72 (fun V9 hbV9 hzV9 b8 => ?_)
            replace b7 := (b7.past hbV9)
            refine hKx.out _ _ b7 ?_
            clear hKx Kx
            refine sxr [5] ?_
            refine rd1 (fun Kx hKx => ?_)
            replace ho20 := (ho20.past hbV9)
            replace hT := (hT.past (bthru (bthru (bthru (bthru (bthru (bthru (bthru (bthru hbV1 hbV2) hbV3) hbV4) hbV5) hbV6) hbV7) hbV8) hbV9))
            refine sek 25 50 #[.slice q20 (dig B32 1).length d20, .int .i64 (((wid g : Nat) : Int) * pf.pow)] ?_
            ((with_reducible refine (whole_one q20 d20 _ _ _ ho20 (by omega) hT).mono ?_))
            rintro eV10 V10 ⟨p25, c25, rfl, ho25, hbV10⟩
            have hzV10 := hbV10.size
            refine ⟨.agg #[.bool false, .slice p25 (dig B32 1).length c25, .int .i64 ((wid g : Int) * pf.pow)], rfl, ?_⟩
            replace b7 := (b7.past hbV10)
            refine hKx.out _ _ b7 ?_
            clear hKx Kx
            refine sxr [7] ?_
            refine rd1 (fun Kx hKx => ?_)
            replace b8 := (b8.past hbV10)
            refine ssk none b8 hT72 0 #[.bool false, .slice p25 (dig B32 1).length c25, .int .i64 ((wid g : Int) * pf.pow)] #[.bool false, .slice p25 (dig B32 1).length c25, .int .i64 ((wid g : Int) * pf.pow)] ?_
            have boV11 := b8
            clear b8
            intro V11 hOV11 b8
            have hzV11 := hOV11.size
            replace b7 := (b7.only hOV11 (by omega))
            refine hKx.out _ _ b7 ?_
            clear hKx Kx
            refine sx_done (by kernel_rfl) ?_
            replace ho20 := ((ho20.past hbV10).put boV11 hOV11 (by kernel_rfl))
            replace ho25 := (ho25.put boV11 hOV11 (by kernel_rfl))
            exact ⟨rfl, V8.heap.size, q20, d20, p25, c25, by kernel_rfl, b8, (ho20.mono (by omega)), (ho25.mono (by omega)), ((bthru (bthru (bthru hbV7 hbV8) hbV9) hbV10).trans (hOV11.below (by omega))), by omega⟩
          refine rd1 (fun Kx hKx => ?_)
          refine snk 8 #[.bool false, .slice none 0 0, .int .i64 0] 72 (fun V8 hbV8 hzV8 b8 => ?_)
          replace b7 := (b7.past hbV8)
          refine hKx.out _ _ b7 ?_
          clear hKx Kx
          refine sxr [0] ?_
          refine rd1 (fun Kx hKx => ?_)
          refine sek 20 64 #[.int .i64 1] ?_
          ((with_reducible refine (gof_one _).mono ?_))
          rintro eV9 V9 ⟨q20, d20, rfl, ho20, hbV9⟩
          have hzV9 := hbV9.size
          refine ⟨.slice q20 (dig B32 1).length d20, rfl, ?_⟩
          replace b7 := (b7.past hbV9)
          refine hKx.out _ _ b7 ?_
          clear hKx Kx
          refine sxr [5] ?_
          refine rd1 (fun Kx hKx => ?_)
          replace hT := (hT.past (bthru (bthru (bthru (bthru (bthru (bthru (bthru (bthru hbV1 hbV2) hbV3) hbV4) hbV5) hbV6) hbV7) hbV8) hbV9))
          refine sek 25 50 #[.slice q20 (dig B32 1).length d20, .int .i64 (((wid g : Nat) : Int) * pf.pow)] ?_
          ((with_reducible refine (whole_one q20 d20 _ _ _ ho20 (by omega) hT).mono ?_))
          rintro eV10 V10 ⟨p25, c25, rfl, ho25, hbV10⟩
          have hzV10 := hbV10.size
          refine ⟨.agg #[.bool false, .slice p25 (dig B32 1).length c25, .int .i64 ((wid g : Int) * pf.pow)], rfl, ?_⟩
          replace b7 := (b7.past hbV10)
          refine hKx.out _ _ b7 ?_
          clear hKx Kx
          refine sxr [7] ?_
          refine rd1 (fun Kx hKx => ?_)
          replace b8 := (b8.past (bthru hbV9 hbV10))
          refine ssk none b8 hT72 0 #[.bool false, .slice p25 (dig B32 1).length c25, .int .i64 ((wid g : Int) * pf.pow)] #[.bool false, .slice p25 (dig B32 1).length c25, .int .i64 ((wid g : Int) * pf.pow)] ?_
          have boV11 := b8
          clear b8
          intro V11 hOV11 b8
          have hzV11 := hOV11.size
          replace b7 := (b7.only hOV11 (by omega))
          refine hKx.out _ _ b7 ?_
          clear hKx Kx
          refine sx_done (by kernel_rfl) ?_
          replace ho20 := ((ho20.past hbV10).put boV11 hOV11 (by kernel_rfl))
          replace ho25 := (ho25.put boV11 hOV11 (by kernel_rfl))
          exact ⟨rfl, V7.heap.size, q20, d20, p25, c25, by kernel_rfl, b8, (ho20.mono (by omega)), (ho25.mono (by omega)), ((bthru (bthru (bthru hbV7 hbV8) hbV9) hbV10).trans (hOV11.below (by omega))), by omega⟩
        rintro _ V7 ⟨kb8, q20, d20, p25, c25, rfl, b8, ho20, ho25, hbV7, hkb8⟩
        refine hGx _ _ ?_
        clear hGx Gx
        have hzV7 := hbV7.size
        have hlb8 := b8.lt
        refine sx_then ?_
        refine wp_seq ?_
        refine wp_seq ?_
        refine sx_region ?_
        refine sv 26 (.pointer (some ⟨w.heap.size, 0, none⟩)) ?_
        refine sv 27 (.pointer (some ⟨w.heap.size, 0, none⟩)) ?_
        replace b2 := (b2.past (bthru (bthru hbV5 hbV6) hbV7))
        refine sv 28 (.bool true) ?_ (hr := (exec_ld (by kernel_rfl) (run_ld1 b2 hT4 0 (.bool true) (by kernel_rfl))))
        refine sv 29 (.bool false) ?_
        refine sx_nil ?_
        refine sx_then ?_
        refine wp_cond_false (by kernel_rfl) ?_
        refine wp_seq ?_
        refine wp_seq ?_
        replace b7 := (b7.past hbV7)
        replace b3 := (b3.past (bthru (bthru (bthru hbV4 hbV5) hbV6) hbV7))
        obtain ⟨V8, hVV8⟩ : ∃ V, V = (V7).drew := ⟨_, rfl⟩
        have hbV8 : Below (V7).heap.size (V7) V8 := by rw [hVV8]; exact (Below.refl _ _).drew
        have hzV8 : V8.heap.size = (V7).heap.size := by rw [hVV8]; rfl
        replace b7 := (b7.past hbV8)
        replace b3 := (b3.past hbV8)
        refine sxd _ (fun w' => Bt w' kb7 61 #[.bool pf.neg, .slice p19 (dig B32 pf.d).length c19, .int .i64 pf.pow, .bool pf.exact, .bool pf.over, .bool pf.under] ∧ Bt w' V1.heap.size 27 #[.int .i64 g.rad, .int .i64 g.digs, .int .i64 g.lo, .int .i64 g.hi, .bool g.grad]) hVV8 ⟨b7, b3⟩ ?_
        clear hVV8
        refine tk 0 33 (.pointer (some ⟨kb7, 1, none⟩)) ⟨b7, b3⟩ ?_
        refine tk 1 34 (.slice p19 (dig B32 pf.d).length c19) ⟨b7, b3⟩ ?_ (hy := fun w' hS => (exec_ld (by kernel_rfl) (run_ld1 hS.1 hT23 1 (.slice p19 (dig B32 pf.d).length c19) (by kernel_rfl))))
        refine tk 3 36 (.int .i64 ((wid g : Nat) : Int)) ⟨b7, b3⟩ ?_
        refine tk 4 37 (.pointer (some ⟨V1.heap.size, 1, none⟩)) ⟨b7, b3⟩ ?_
        refine tk 5 38 (.int .i64 g.digs) ⟨b7, b3⟩ ?_ (hy := fun w' hS => (exec_ld (by kernel_rfl) (run_ld1 hS.2 hT3 1 (.int .i64 g.digs) (by kernel_rfl))))
        refine tk 6 39 (.int .i64 (g.digs - 1)) ⟨b7, b3⟩ ?_ (hy := fun w' _ => ((show _ = Result.ok (Next.value (.int .i64 (IntKind.wrap .i64 (g.digs - 1)))) _ by kernel_rfl).trans (congrArg (fun z => Result.ok (Next.value (.int .i64 z)) _) (IntWalk.i64_in _ (by omega)))))
        refine tk 7 40 (.int .i64 ((N : Nat) : Int)) ⟨b7, b3⟩ ?_ (hy := fun w' _ => ((show _ = Result.ok (Next.value (.int .i64 (IntKind.wrap .i64 (((wid g : Nat) : Int) * (g.digs - 1))))) _ by kernel_rfl).trans (congrArg (fun z => Result.ok (Next.value (.int .i64 z)) _) (eN))))
        refine sxr [2] ?_
        refine rd1 (fun Kx hKx => ?_)
        refine sek 35 64 #[.int .i64 1] ?_
        ((with_reducible refine (gof_one _).mono ?_))
        rintro eV9 V9 ⟨q35, d35, rfl, ho35, hbV9⟩
        have hzV9 := hbV9.size
        refine ⟨.slice q35 (dig B32 1).length d35, rfl, ?_⟩
        replace b7 := (b7.past hbV9)
        replace b3 := (b3.past hbV9)
        refine hKx.out _ _ ⟨b7, b3⟩ ?_
        clear hKx Kx
        refine sxr [8] ?_
        refine rd1 (fun Kx hKx => ?_)
        refine sek 41 56 #[.slice q35 (dig B32 1).length d35, .int .i64 ((N : Nat) : Int)] ?_
        ((with_reducible refine (shl_any q35 _ d35 1 N _ ho35.rd rfl (by omega) (by omega)).mono ?_))
        rintro eV10 V10 ⟨q41, d41, rfl, ho41, hbV10⟩
        have hzV10 := hbV10.size
        refine ⟨.slice q41 (dig B32 (1 * 2 ^ N)).length d41, rfl, ?_⟩
        replace b7 := (b7.past hbV10)
        replace b3 := (b3.past hbV10)
        refine hKx.out _ _ ⟨b7, b3⟩ ?_
        clear hKx Kx
        refine sxr [9] ?_
        refine rd1 (fun Kx hKx => ?_)
        replace ho19 := (ho19.past (bthru (bthru (bthru hbV7 hbV8) hbV9) hbV10))
        refine sek 42 55 #[.slice p19 (dig B32 pf.d).length c19, .slice q41 (dig B32 (1 * 2 ^ N)).length d41] ?_
        ((with_reducible refine ((HC _ p19 c19 q41 d41 ho19.rd ho41.rd).out).mono ?_))
        rintro eV11 V11 ⟨rfl, hbV11⟩
        have hzV11 := hbV11.size
        refine ⟨.int .i64 C, rfl, ?_⟩
        replace b7 := (b7.past hbV11)
        replace b3 := (b3.past hbV11)
        refine hKx.out _ _ ⟨b7, b3⟩ ?_
        clear hKx Kx
        refine tk 10 43 (.bool false) ⟨b7, b3⟩ ?_ (hy := fun w' _ => ((show _ = Result.ok (Next.value (.bool (C == 0))) _ from (by kernel_rfl)).trans (congrArg (fun z => Result.ok (Next.value (.bool z)) _) (show (C == 0) = false from t43))))
        refine tk 11 44 (.bool false) ⟨b7, b3⟩ ?_
        refine tko 12 45 ⟨b7, b3⟩ ?_
        refine tko 13 46 ⟨b7, b3⟩ ?_
        refine tko 14 47 ⟨b7, b3⟩ ?_
        refine tko 15 48 ⟨b7, b3⟩ ?_
        refine tko 16 49 ⟨b7, b3⟩ ?_
        refine tko 17 50 ⟨b7, b3⟩ ?_
        refine tko 18 51 ⟨b7, b3⟩ ?_
        refine tko 19 52 ⟨b7, b3⟩ ?_
        refine tko 20 53 ⟨b7, b3⟩ ?_
        refine tko 21 54 ⟨b7, b3⟩ ?_
        refine tk 22 55 (.bool false) ⟨b7, b3⟩ ?_
        refine sx_done (by kernel_rfl) ?_
        refine sx_then ?_
        refine wp_cond_false (by kernel_rfl) ?_
        refine wp_skip ?_
        refine sx_then ?_
        refine sx_region ?_
        replace b2 := (b2.past (bthru (bthru (bthru hbV8 hbV9) hbV10) hbV11))
        refine sv 69 (.agg #[.bool true, .slice p (dig B32 m).length c, .int .i64 e]) ?_ (hr := (exec_ld (by kernel_rfl) (run_ld b2 hT72 0 [.bool true, .slice p (dig B32 m).length c, .int .i64 e] (by kernel_rfl) (by kernel_rfl))))
        replace b8 := (b8.past (bthru (bthru (bthru hbV8 hbV9) hbV10) hbV11))
        refine sv 70 (.agg #[.bool false, .slice p25 (dig B32 1).length c25, .int .i64 ((wid g : Int) * pf.pow)]) ?_ (hr := (exec_ld (by kernel_rfl) (run_ld b8 hT72 0 [.bool false, .slice p25 (dig B32 1).length c25, .int .i64 ((wid g : Int) * pf.pow)] (by kernel_rfl) (by kernel_rfl))))
        replace hp := (hp.past (bthru (bthru (bthru (bthru (bthru (bthru (bthru (bthru (bthru (bthru hbV1 hbV2) hbV3) hbV4) hbV5) hbV6) hbV7) hbV8) hbV9) hbV10) hbV11))
        replace ho25 := (ho25.past (bthru (bthru (bthru hbV8 hbV9) hbV10) hbV11))
        replace hT := (hT.past (bthru (bthru (bthru (bthru (bthru (bthru (bthru (bthru (bthru (bthru hbV1 hbV2) hbV3) hbV4) hbV5) hbV6) hbV7) hbV8) hbV9) hbV10) hbV11))
        refine se 71 65 #[.agg #[.bool true, .slice p (dig B32 m).length c, .int .i64 e], .agg #[.bool false, .slice p25 (dig B32 1).length c25, .int .i64 ((wid g : Int) * pf.pow)]] (fun Gx hGx => ?_)
        ((with_reducible refine ((HP _ p25 c25 hp (ho25.mono (by omega)) hT (by omega)).out).mono ?_))
        rintro eV12 V12 ⟨p32, c32, rfl, ho32, hbV12⟩
        have hzV12 := hbV12.size
        refine ⟨.agg #[.bool r.neg, .slice p32 (dig B32 r.m).length c32, .int .i64 r.e], rfl, hGx _ _ ?_⟩
        clear hGx Gx
        replace b2 := (b2.past hbV12)
        refine ss none b2 hT72 0 #[.bool r.neg, .slice p32 (dig B32 r.m).length c32, .int .i64 r.e] #[.bool r.neg, .slice p32 (dig B32 r.m).length c32, .int .i64 r.e] ?_
        have boV13 := b2
        clear b2
        intro V13 hOV13 b2
        have hzV13 := hOV13.size
        refine sx_nil ?_
        refine sx_then ?_
        refine wp_seq ?_
        replace b3 := ((b3.past hbV12).only hOV13 (by omega))
        obtain ⟨V14, hVV14⟩ : ∃ V, V = (V13).drew := ⟨_, rfl⟩
        have hbV14 : Below (V13).heap.size (V13) V14 := by rw [hVV14]; exact (Below.refl _ _).drew
        have hzV14 : V14.heap.size = (V13).heap.size := by rw [hVV14]; rfl
        replace b2 := (b2.past hbV14)
        replace b3 := (b3.past hbV14)
        refine sxd _ (fun w' => Bt w' w.heap.size 72 #[.bool r.neg, .slice p32 (dig B32 r.m).length c32, .int .i64 r.e] ∧ Bt w' V1.heap.size 27 #[.int .i64 g.rad, .int .i64 g.digs, .int .i64 g.lo, .int .i64 g.hi, .bool g.grad]) hVV14 ⟨b2, b3⟩ ?_
        clear hVV14
        refine tk 0 72 (.agg #[.bool r.neg, .slice p32 (dig B32 r.m).length c32, .int .i64 r.e]) ⟨b2, b3⟩ ?_ (hy := fun w' hS => (exec_ld (by kernel_rfl) (run_ld hS.1 hT72 0 [.bool r.neg, .slice p32 (dig B32 r.m).length c32, .int .i64 r.e] (by kernel_rfl) (by kernel_rfl))))
        refine tk 1 73 (.agg #[.bool r.neg, .slice p32 (dig B32 r.m).length c32, .int .i64 r.e]) ⟨b2, b3⟩ ?_ (hy := fun w' hS => (exec_ld (by kernel_rfl) (run_ld hS.1 hT72 0 [.bool r.neg, .slice p32 (dig B32 r.m).length c32, .int .i64 r.e] (by kernel_rfl) (by kernel_rfl))))
        refine tk 2 74 (.agg #[.int .i64 g.rad, .int .i64 g.digs, .int .i64 g.lo, .int .i64 g.hi, .bool g.grad]) ⟨b2, b3⟩ ?_ (hy := fun w' hS => (exec_ld (by kernel_rfl) (run_ld hS.2 hT27 0 [.int .i64 g.rad, .int .i64 g.digs, .int .i64 g.lo, .int .i64 g.hi, .bool g.grad] (by kernel_rfl) (by kernel_rfl))))
        refine sxr [3] ?_
        refine rd1 (fun Kx hKx => ?_)
        replace ho32 := ((ho32.put boV13 hOV13 (by kernel_rfl)).past hbV14)
        refine sek 75 36 #[.agg #[.bool r.neg, .slice p32 (dig B32 r.m).length c32, .int .i64 r.e], .agg #[.int .i64 g.rad, .int .i64 g.digs, .int .i64 g.lo, .int .i64 g.hi, .bool g.grad]] ?_
        ((with_reducible refine (gkeeps_any r.neg p32 c32 r.e r.m g _ ho32.rd (by omega) (by omega) G).mono ?_))
        rintro eV15 V15 ⟨rfl, hbV15⟩
        have hzV15 := hbV15.size
        refine ⟨.bool (keepsD ⟨r.neg, r.m, r.e⟩ g), rfl, ?_⟩
        replace b2 := (b2.past hbV15)
        replace b3 := (b3.past hbV15)
        refine hKx.out _ _ ⟨b2, b3⟩ ?_
        clear hKx Kx
        refine sxr [4] ?_
        refine rd1 (fun Kx hKx => ?_)
        replace b4 := (((b4.past (bthru (bthru (bthru (bthru (bthru (bthru (bthru (bthru hbV4 hbV5) hbV6) hbV7) hbV8) hbV9) hbV10) hbV11) hbV12)).only hOV13 (by omega)).past (bthru hbV14 hbV15))
        refine ssk none b4 hT72 0 #[.bool r.neg, .slice p32 (dig B32 r.m).length c32, .int .i64 r.e] #[.bool r.neg, .slice p32 (dig B32 r.m).length c32, .int .i64 r.e] ?_
        have boV16 := b4
        clear b4
        intro V16 hOV16 b4
        have hzV16 := hOV16.size
        replace b2 := (b2.only hOV16 (by omega))
        replace b3 := (b3.only hOV16 (by omega))
        refine hKx.out _ _ ⟨b2, b3⟩ ?_
        clear hKx Kx
        refine tk 5 5 (.bool (keepsD ⟨r.neg, r.m, r.e⟩ g)) ⟨b2, b3⟩ ?_
        refine sx_done (by kernel_rfl) ?_
        refine sx_then ?_
        refine wp_ret ?_
        have ⟨b4_0, b4_1, b4_2⟩ := b4.bx.e3
        repeat (first | with_reducible refine sx_thenret ?_ | with_reducible refine sx_blockret ?_)
        refine bodyPost_ret (v := .tuple #[.agg #[.bool r.neg, .slice p32 (dig B32 r.m).length c32, .int .i64 r.e], .bool (keepsD ⟨r.neg, r.m, r.e⟩ g)]) (by simp [results, Tryd.results39, go_sem, b4_0, b4_1, b4_2]) rfl ?_
        replace ho32 := ((ho32.past hbV15).put boV16 hOV16 (by kernel_rfl))
        exact ⟨p32, c32, rfl, ho32, ((bthru (bthru ((bthru (bthru (bthru (bthru (bthru (bthru (bthru (bthru (bthru (bthru (bthru hbV1 hbV2) hbV3) hbV4) hbV5) hbV6) hbV7) hbV8) hbV9) hbV10) hbV11) hbV12).trans (hOV13.below (by omega))) hbV14) hbV15).trans (hOV16.below (by omega)))⟩

end Go.Proofs.YtlegnbigddhmlaaDoor

namespace Go.Slip

theorem pStep_len {a : Dv} (ha : Bare a) {g : Gd} (G : GoodG g) (hin : inGridD a g = true) (hl : (dig B32 a.m).length ≤ 1200) (he : -60000 ≤ a.e ∧ a.e ≤ 60000) : (dig B32 (pStep a g).1.m).length ≤ 8000 := by
  have h1 : (dig B32 1).length ≤ 1 := by rw [dig_len_le B32_two]; unfold B32; omega
  unfold pStep
  by_cases h0 : a.m = 0
  · rw [if_pos h0]; show (dig B32 1).length ≤ 8000; omega
  · rw [if_neg h0]
    have hb := step_bd G hin h0
    have wp := wid_pos g
    have s1 := sum_bd ha h0 (E := wid g * stepK a g) hl he ⟨by omega, by omega⟩
    have s2 := sum_bd ha h0 (E := wid g * (stepK a g - 1)) hl he ⟨by rw [Int.mul_sub]; omega, by rw [Int.mul_sub]; omega⟩
    by_cases h2 : a.neg = false
    · rw [if_pos h2]; exact s1.2.2.1
    · rw [if_neg h2]
      split
      · split
        · show (dig B32 0).length ≤ 8000
          rw [dig_zero]; simp
        · exact s2.2.2.1
      · exact s1.2.2.1

theorem inGrid_minus (a : Dv) (g : Gd) : inGridD (dMinus a) g = inGridD a g := rfl

end Go.Slip
namespace Go.Proofs.YtlegnbigddhmlaaDoor
open Go.RowKit Go.Slip

/-- From where on it is stepped. -/
def fromD (a : Din) (up : Bool) : Dv := if up = true then dyV a else dMinus (dyV a)
def stepV (a : Din) (g : Gd) (up : Bool) : Dv := if up = true then (pStep (fromD a up) g).1 else dMinus (pStep (fromD a up) g).1
def errStep (a : Din) (g : Gd) (up : Bool) : Int :=
  if errOn a g = 0 then (if keepsD (dyV a) g = true then (if (pStep (fromD a up) g).2 = true then 0 else 5) else 4) else errOn a g


set_option maxHeartbeats 4000000 in
set_option maxRecDepth 100000 in
theorem step_any (a : Din) (g : Gd) (up : Bool) (w : World) (ha : InD w a) (hT : TabW w) :
    Calls Tryd.prog 18 #[.agg #[.bool a.g, .slice a.p a.xs.length a.c, .int .i64 a.e], .agg #[.int .i64 g.rad, .int .i64 g.digs, .int .i64 g.lo, .int .i64 g.hi, .bool g.grad], .bool up] w (GivesDE w w.heap.size (doneOne (errStep a g up) (stepV a g up)) (errOne (errStep a g up) (stepV a g up))) := by
  have HC := fun W h => Lib.hid (gcheck_any a g W h)
  obtain ⟨ec, hec⟩ : ∃ ec, errOn a g = ec := ⟨_, rfl⟩
  rw [hec] at HC
  by_cases h0 : errOn a g = 0
  · obtain ⟨hd0, hg0⟩ := errOn_ok h0
    obtain ⟨hla, hea, hea2⟩ := dyV_bd ha hd0
    obtain ⟨ma, exa, eva, la, e1a, e2a⟩ := ha.ok hd0
    have HVA := Lib.hid (show bare ⟨a.g, ma, a.e⟩ = dyV a by unfold dyV; rw [eva])
    have hca := ha.cap
    have HO := fun W (h : InD W a) hT => Lib.hid (ofD_any a.g a.p a.xs.length a.c a.e ma W (by rw [← exa]; exact h.rd) (by rw [exa]) hca (by omega) (by omega) hT)
    rw [HVA.out] at HO
    have G := goodG_of hg0
    have hB := dyV_bare a
    have hst : errStep a g up = if keepsD (dyV a) g = true then (if (pStep (fromD a up) g).2 = true then 0 else 5) else 4 := by unfold errStep; rw [if_pos h0]
    have tec : (ec != 0) = false := by rw [← hec, h0]; rfl
    rw [hst]
    clear hst hec h0
    have hfr : fromD a up = if up = true then dyV a else dMinus (dyV a) := rfl
    unfold stepV
    generalize fromD a up = zf at *
    generalize dyV a = va at *
    have HK := fun W p c (h : Rd W .u32 p (dig B32 va.m)) => Lib.hid (gkeeps_any va.neg p c va.e va.m g W h (by omega) (by omega) G)
    rw [show (⟨va.neg, va.m, va.e⟩ : Dv) = va from rfl] at HK
    have hki : keepsD va g = inGridD va g := keeps_eq hB G
    by_cases hk : keepsD va g = true
    · rw [if_pos hk]
      rw [hki] at hk
      rw [hki, hk] at HK
      obtain ⟨kb, hkb⟩ : ∃ kb, kb = true := ⟨_, rfl⟩
      rw [← hkb] at HK
      have hB2 := dMinus_bare hB
      cases up with
      | true =>
        simp only [if_true] at hfr ⊢
        have hB' : Bare zf := by rw [hfr]; exact hB
        have hk' : inGridD zf g = true := by rw [hfr]; exact hk
        have em : zf.m = va.m := by rw [hfr]
        have hlz : (dig B32 zf.m).length ≤ 1200 := by rw [em]; exact hla
        have ee : zf.e = va.e := by rw [hfr]
        have hlen := pStep_len hB' G hk' (by omega) (by omega)
        have HA := fun W p c base h hT k => Lib.hid (gafter_any zf.neg p c base zf.m zf.e g W h hB' (by omega) (by omega) G hk' hT k)
        rw [show (⟨zf.neg, zf.m, zf.e⟩ : Dv) = zf from rfl] at HA
        obtain ⟨rb, hrb⟩ : ∃ rb, pStep zf g = rb := ⟨_, rfl⟩
        rw [hrb] at HA hlen ⊢
        clear hrb
        obtain ⟨r, b⟩ := rb
        have hfr' := hfr.symm
        subst hfr'
        simp only at hlen HA ⊢
        cases b with
        | true =>
          simp only [if_true, doneOne, errOne]
          have hT27 : SxAgg Tryd.prog 27 5 := sxAgg_of (by kernel_rfl) (by kernel_rfl)
          have hT30 : SxAgg Tryd.prog 30 3 := sxAgg_of (by kernel_rfl) (by kernel_rfl)
          have hT72 : SxAgg Tryd.prog 72 3 := sxAgg_of (by kernel_rfl) (by kernel_rfl)
          refine calls_of_wp Tryd.func18 rfl ?_
          refine sx_frame (a' := ⟨((.agg #[.bool a.g, .slice a.p a.xs.length a.c, .int .i64 a.e]) :: (.agg #[.int .i64 g.rad, .int .i64 g.digs, .int .i64 g.lo, .int .i64 g.hi, .bool g.grad]) :: (.bool true) :: undef :: undef :: undef :: undef :: undef :: undef :: undef :: undef :: undef :: undef :: undef :: undef :: undef :: undef :: undef :: undef :: undef :: undef :: undef :: undef :: undef :: undef :: undef :: undef :: undef :: undef :: undef :: undef :: undef :: undef :: undef :: undef :: undef :: undef :: undef :: undef :: undef :: undef :: undef :: undef :: undef :: undef :: undef :: []).toArray, []⟩) (by kernel_rfl) ?_
          refine wp_seq ?_
          refine sx_region ?_
          refine sn 3 #[.bool a.g, .slice a.p a.xs.length a.c, .int .i64 a.e] 30 (fun V1 hbV1 hzV1 b3 => ?_)
          refine sn 4 #[.int .i64 g.rad, .int .i64 g.digs, .int .i64 g.lo, .int .i64 g.hi, .bool g.grad] 27 (fun V2 hbV2 hzV2 b4 => ?_)
          refine sn 6 #[.bool false, .slice none 0 0, .int .i64 0] 30 (fun V3 hbV3 hzV3 b6 => ?_)
          refine sv 7 (.int .i64 0) ?_
          refine sx_nil ?_
          refine sx_then ?_
          refine wp_seq ?_
          refine wp_seq ?_
          refine sx_region ?_
          replace b3 := (b3.past (bthru hbV2 hbV3))
          refine sv 11 (.agg #[.bool a.g, .slice a.p a.xs.length a.c, .int .i64 a.e]) ?_ (hr := (exec_ld (by kernel_rfl) (run_ld b3 hT30 0 [.bool a.g, .slice a.p a.xs.length a.c, .int .i64 a.e] (by kernel_rfl) (by kernel_rfl))))
          replace b4 := (b4.past hbV3)
          refine sv 12 (.agg #[.int .i64 g.rad, .int .i64 g.digs, .int .i64 g.lo, .int .i64 g.hi, .bool g.grad]) ?_ (hr := (exec_ld (by kernel_rfl) (run_ld b4 hT27 0 [.int .i64 g.rad, .int .i64 g.digs, .int .i64 g.lo, .int .i64 g.hi, .bool g.grad] (by kernel_rfl) (by kernel_rfl))))
          replace ha := (ha.past (bthru (bthru hbV1 hbV2) hbV3))
          refine se 13 35 #[.agg #[.bool a.g, .slice a.p a.xs.length a.c, .int .i64 a.e], .agg #[.int .i64 g.rad, .int .i64 g.digs, .int .i64 g.lo, .int .i64 g.hi, .bool g.grad]] (fun Gx hGx => ?_)
          ((with_reducible refine ((HC _ ha).out).mono ?_))
          rintro eV4 V4 ⟨rfl, hbV4⟩
          have hzV4 := hbV4.size
          refine ⟨.int .i64 ec, rfl, hGx _ _ ?_⟩
          clear hGx Gx
          refine sv 8 (.int .i64 ec) ?_
          refine sx_nil ?_
          refine sx_then ?_
          refine wp_seq ?_
          refine sx_region ?_
          refine sv 14 (.int .i64 ec) ?_
          refine sv 15 (.bool false) ?_ (hr := ((show _ = Result.ok (Next.value (.bool (ec != 0))) _ from (by kernel_rfl)).trans (congrArg (fun z => Result.ok (Next.value (.bool z)) _) (show (ec != 0) = false from tec))))
          refine sx_nil ?_
          refine sx_then ?_
          refine wp_cond_false (by kernel_rfl) ?_
          refine wp_skip ?_
          refine sx_then ?_
          refine wp_seq ?_
          refine sx_region ?_
          replace b3 := (b3.past hbV4)
          refine sv 18 (.agg #[.bool a.g, .slice a.p a.xs.length a.c, .int .i64 a.e]) ?_ (hr := (exec_ld (by kernel_rfl) (run_ld b3 hT30 0 [.bool a.g, .slice a.p a.xs.length a.c, .int .i64 a.e] (by kernel_rfl) (by kernel_rfl))))
          replace ha := (ha.past hbV4)
          replace hT := (hT.past (bthru (bthru (bthru hbV1 hbV2) hbV3) hbV4))
          refine se 19 32 #[.agg #[.bool a.g, .slice a.p a.xs.length a.c, .int .i64 a.e]] (fun Gx hGx => ?_)
          ((with_reducible refine ((HO _ ha hT).out).mono ?_))
          rintro eV5 V5 ⟨p19, c19, rfl, ho19, hbV5⟩
          have hzV5 := hbV5.size
          refine ⟨.agg #[.bool va.neg, .slice p19 (dig B32 va.m).length c19, .int .i64 va.e], rfl, hGx _ _ ?_⟩
          clear hGx Gx
          refine sn 9 #[.bool false, .slice none 0 0, .int .i64 0] 72 (fun V6 hbV6 hzV6 b9 => ?_)
          refine ss none b9 hT72 0 #[.bool va.neg, .slice p19 (dig B32 va.m).length c19, .int .i64 va.e] #[.bool va.neg, .slice p19 (dig B32 va.m).length c19, .int .i64 va.e] ?_
          have boV7 := b9
          clear b9
          intro V7 hOV7 b9
          have hzV7 := hOV7.size
          refine sx_nil ?_
          refine sx_then ?_
          refine wp_seq ?_
          refine wp_seq ?_
          refine sx_region ?_
          refine sv 20 (.agg #[.bool va.neg, .slice p19 (dig B32 va.m).length c19, .int .i64 va.e]) ?_ (hr := (exec_ld (by kernel_rfl) (run_ld b9 hT72 0 [.bool va.neg, .slice p19 (dig B32 va.m).length c19, .int .i64 va.e] (by kernel_rfl) (by kernel_rfl))))
          replace b4 := (b4.past ((bthru (bthru hbV4 hbV5) hbV6).trans (hOV7.below (by omega))))
          refine sv 21 (.agg #[.int .i64 g.rad, .int .i64 g.digs, .int .i64 g.lo, .int .i64 g.hi, .bool g.grad]) ?_ (hr := (exec_ld (by kernel_rfl) (run_ld b4 hT27 0 [.int .i64 g.rad, .int .i64 g.digs, .int .i64 g.lo, .int .i64 g.hi, .bool g.grad] (by kernel_rfl) (by kernel_rfl))))
          replace ho19 := (ho19.past (hbV6.trans (hOV7.below (by omega))))
          refine se 22 36 #[.agg #[.bool va.neg, .slice p19 (dig B32 va.m).length c19, .int .i64 va.e], .agg #[.int .i64 g.rad, .int .i64 g.digs, .int .i64 g.lo, .int .i64 g.hi, .bool g.grad]] (fun Gx hGx => ?_)
          ((with_reducible refine ((HK _ p19 c19 ho19.rd).out).mono ?_))
          rintro eV8 V8 ⟨rfl, hbV8⟩
          have hzV8 := hbV8.size
          refine ⟨.bool kb, rfl, hGx _ _ ?_⟩
          clear hGx Gx
          refine sv 23 (.bool false) ?_ (hr := ((show _ = Result.ok (Next.value (.bool (!kb))) _ from (by kernel_rfl)).trans (congrArg (fun z => Result.ok (Next.value (.bool z)) _) (show (!kb) = false from by rw [hkb]; rfl))))
          refine sx_nil ?_
          refine sx_then ?_
          refine wp_cond_false (by kernel_rfl) ?_
          refine wp_skip ?_
          refine sx_then ?_
          refine wp_seq ?_
          refine wp_seq ?_
          refine sx_region ?_
          refine sv 25 (.bool true) ?_
          refine sv 26 (.bool false) ?_
          refine sx_nil ?_
          refine sx_then ?_
          refine wp_cond_false (by kernel_rfl) ?_
          refine wp_skip ?_
          refine sx_then ?_
          refine wp_seq ?_
          refine sx_region ?_
          replace b9 := (b9.past hbV8)
          refine sv 30 (.agg #[.bool va.neg, .slice p19 (dig B32 va.m).length c19, .int .i64 va.e]) ?_ (hr := (exec_ld (by kernel_rfl) (run_ld b9 hT72 0 [.bool va.neg, .slice p19 (dig B32 va.m).length c19, .int .i64 va.e] (by kernel_rfl) (by kernel_rfl))))
          replace b4 := (b4.past hbV8)
          refine sv 31 (.agg #[.int .i64 g.rad, .int .i64 g.digs, .int .i64 g.lo, .int .i64 g.hi, .bool g.grad]) ?_ (hr := (exec_ld (by kernel_rfl) (run_ld b4 hT27 0 [.int .i64 g.rad, .int .i64 g.digs, .int .i64 g.lo, .int .i64 g.hi, .bool g.grad] (by kernel_rfl) (by kernel_rfl))))
          replace ho19 := (ho19.past hbV8)
          replace hT := (hT.past (bthru ((bthru hbV5 hbV6).trans (hOV7.below (by omega))) hbV8))
          refine se 32 39 #[.agg #[.bool va.neg, .slice p19 (dig B32 va.m).length c19, .int .i64 va.e], .agg #[.int .i64 g.rad, .int .i64 g.digs, .int .i64 g.lo, .int .i64 g.hi, .bool g.grad]] (fun Gx hGx => ?_)
          ((with_reducible refine ((HA _ p19 c19 w.heap.size (ho19.mono (by omega)) hT (by omega)).out).mono ?_))
          rintro eV9 V9 ⟨p32, c32, rfl, ho32, hbV9⟩
          have hzV9 := hbV9.size
          refine ⟨.tuple #[.agg #[.bool r.neg, .slice p32 (dig B32 r.m).length c32, .int .i64 r.e], .bool true], rfl, hGx _ _ ?_⟩
          clear hGx Gx
          refine sv 29 (.tuple #[.agg #[.bool r.neg, .slice p32 (dig B32 r.m).length c32, .int .i64 r.e], .bool true]) ?_
          refine sv 33 (.agg #[.bool r.neg, .slice p32 (dig B32 r.m).length c32, .int .i64 r.e]) ?_
          refine sv 34 (.bool true) ?_
          replace b9 := (b9.past hbV9)
          refine ss none b9 hT72 0 #[.bool r.neg, .slice p32 (dig B32 r.m).length c32, .int .i64 r.e] #[.bool r.neg, .slice p32 (dig B32 r.m).length c32, .int .i64 r.e] ?_
          have boV10 := b9
          clear b9
          intro V10 hOV10 b9
          have hzV10 := hOV10.size
          refine sv 10 (.bool true) ?_
          refine sx_nil ?_
          refine sx_then ?_
          refine wp_seq ?_
          refine wp_seq ?_
          refine sx_region ?_
          refine sv 35 (.bool true) ?_
          refine sv 36 (.bool false) ?_
          refine sx_nil ?_
          refine sx_then ?_
          refine wp_cond_false (by kernel_rfl) ?_
          refine wp_skip ?_
          refine sx_then ?_
          refine wp_seq ?_
          refine wp_seq ?_
          refine sx_region ?_
          refine sv 38 (.bool true) ?_
          refine sv 39 (.bool false) ?_
          refine sx_nil ?_
          refine sx_then ?_
          refine wp_cond_false (by kernel_rfl) ?_
          refine wp_skip ?_
          refine sx_then ?_
          refine wp_seq ?_
          refine sx_region ?_
          refine sv 42 (.agg #[.bool r.neg, .slice p32 (dig B32 r.m).length c32, .int .i64 r.e]) ?_ (hr := (exec_ld (by kernel_rfl) (run_ld b9 hT72 0 [.bool r.neg, .slice p32 (dig B32 r.m).length c32, .int .i64 r.e] (by kernel_rfl) (by kernel_rfl))))
          replace ho32 := (ho32.put boV10 hOV10 (by kernel_rfl))
          refine se 43 37 #[.agg #[.bool r.neg, .slice p32 (dig B32 r.m).length c32, .int .i64 r.e]] (fun Gx hGx => ?_)
          ((with_reducible refine (doneR_any (r).neg p32 _ c32 w.heap.size (r).e (r).m _ (ho32) rfl (by omega)).mono ?_))
          rintro eV11 V11 ⟨p43, c43, rfl, ho43, hbV11⟩
          have hzV11 := hbV11.size
          refine ⟨.tuple #[.agg #[.bool ((doneD r).neg), .slice p43 (dig B32 (doneD r).m).length c43, .int .i64 ((doneD r).e)], .int .i64 (errD r)], rfl, hGx _ _ ?_⟩
          clear hGx Gx
          refine sv 44 (.agg #[.bool ((doneD r).neg), .slice p43 (dig B32 (doneD r).m).length c43, .int .i64 ((doneD r).e)]) ?_
          refine sv 45 (.int .i64 (errD r)) ?_
          replace b6 := (b6.past (bthru ((bthru (bthru ((bthru (bthru hbV4 hbV5) hbV6).trans (hOV7.below (by omega))) hbV8) hbV9).trans (hOV10.below (by omega))) hbV11))
          refine ss none b6 hT30 0 #[.bool ((doneD r).neg), .slice p43 (dig B32 (doneD r).m).length c43, .int .i64 ((doneD r).e)] #[.bool ((doneD r).neg), .slice p43 (dig B32 (doneD r).m).length c43, .int .i64 ((doneD r).e)] ?_
          have boV12 := b6
          clear b6
          intro V12 hOV12 b6
          have hzV12 := hOV12.size
          refine sv 7 (.int .i64 (errD r)) ?_
          refine sx_nil ?_
          refine sx_then ?_
          refine wp_ret ?_
          have ⟨b6_0, b6_1, b6_2⟩ := b6.bx.e3
          repeat (first | with_reducible refine sx_thenret ?_ | with_reducible refine sx_blockret ?_)
          refine bodyPost_ret (v := .tuple #[.agg #[.bool ((doneD r).neg), .slice p43 (dig B32 (doneD r).m).length c43, .int .i64 ((doneD r).e)], .int .i64 (errD r)]) (by simp [results, Tryd.results18, go_sem, b6_0, b6_1, b6_2]) rfl ?_
          replace ho43 := (ho43.put boV12 hOV12 (by kernel_rfl))
          exact ⟨p43, c43, rfl, ho43, ((bthru ((bthru (bthru ((bthru (bthru (bthru (bthru (bthru hbV1 hbV2) hbV3) hbV4) hbV5) hbV6).trans (hOV7.below (by omega))) hbV8) hbV9).trans (hOV10.below (by omega))) hbV11).trans (hOV12.below (by omega)))⟩
        | false =>
          simp only [Bool.false_eq_true, if_false, doneOne, errOne, show ¬ ((5 : Int) = 0) by omega]
          have hT27 : SxAgg Tryd.prog 27 5 := sxAgg_of (by kernel_rfl) (by kernel_rfl)
          have hT30 : SxAgg Tryd.prog 30 3 := sxAgg_of (by kernel_rfl) (by kernel_rfl)
          have hT72 : SxAgg Tryd.prog 72 3 := sxAgg_of (by kernel_rfl) (by kernel_rfl)
          refine calls_of_wp Tryd.func18 rfl ?_
          refine sx_frame (a' := ⟨((.agg #[.bool a.g, .slice a.p a.xs.length a.c, .int .i64 a.e]) :: (.agg #[.int .i64 g.rad, .int .i64 g.digs, .int .i64 g.lo, .int .i64 g.hi, .bool g.grad]) :: (.bool true) :: undef :: undef :: undef :: undef :: undef :: undef :: undef :: undef :: undef :: undef :: undef :: undef :: undef :: undef :: undef :: undef :: undef :: undef :: undef :: undef :: undef :: undef :: undef :: undef :: undef :: undef :: undef :: undef :: undef :: undef :: undef :: undef :: undef :: undef :: undef :: undef :: undef :: undef :: undef :: undef :: undef :: undef :: undef :: []).toArray, []⟩) (by kernel_rfl) ?_
          refine wp_seq ?_
          refine sx_region ?_
          refine sn 3 #[.bool a.g, .slice a.p a.xs.length a.c, .int .i64 a.e] 30 (fun V1 hbV1 hzV1 b3 => ?_)
          refine sn 4 #[.int .i64 g.rad, .int .i64 g.digs, .int .i64 g.lo, .int .i64 g.hi, .bool g.grad] 27 (fun V2 hbV2 hzV2 b4 => ?_)
          refine sn 6 #[.bool false, .slice none 0 0, .int .i64 0] 30 (fun V3 hbV3 hzV3 b6 => ?_)
          refine sv 7 (.int .i64 0) ?_
          refine sx_nil ?_
          refine sx_then ?_
          refine wp_seq ?_
          refine wp_seq ?_
          refine sx_region ?_
          replace b3 := (b3.past (bthru hbV2 hbV3))
          refine sv 11 (.agg #[.bool a.g, .slice a.p a.xs.length a.c, .int .i64 a.e]) ?_ (hr := (exec_ld (by kernel_rfl) (run_ld b3 hT30 0 [.bool a.g, .slice a.p a.xs.length a.c, .int .i64 a.e] (by kernel_rfl) (by kernel_rfl))))
          replace b4 := (b4.past hbV3)
          refine sv 12 (.agg #[.int .i64 g.rad, .int .i64 g.digs, .int .i64 g.lo, .int .i64 g.hi, .bool g.grad]) ?_ (hr := (exec_ld (by kernel_rfl) (run_ld b4 hT27 0 [.int .i64 g.rad, .int .i64 g.digs, .int .i64 g.lo, .int .i64 g.hi, .bool g.grad] (by kernel_rfl) (by kernel_rfl))))
          replace ha := (ha.past (bthru (bthru hbV1 hbV2) hbV3))
          refine se 13 35 #[.agg #[.bool a.g, .slice a.p a.xs.length a.c, .int .i64 a.e], .agg #[.int .i64 g.rad, .int .i64 g.digs, .int .i64 g.lo, .int .i64 g.hi, .bool g.grad]] (fun Gx hGx => ?_)
          ((with_reducible refine ((HC _ ha).out).mono ?_))
          rintro eV4 V4 ⟨rfl, hbV4⟩
          have hzV4 := hbV4.size
          refine ⟨.int .i64 ec, rfl, hGx _ _ ?_⟩
          clear hGx Gx
          refine sv 8 (.int .i64 ec) ?_
          refine sx_nil ?_
          refine sx_then ?_
          refine wp_seq ?_
          refine sx_region ?_
          refine sv 14 (.int .i64 ec) ?_
          refine sv 15 (.bool false) ?_ (hr := ((show _ = Result.ok (Next.value (.bool (ec != 0))) _ from (by kernel_rfl)).trans (congrArg (fun z => Result.ok (Next.value (.bool z)) _) (show (ec != 0) = false from tec))))
          refine sx_nil ?_
          refine sx_then ?_
          refine wp_cond_false (by kernel_rfl) ?_
          refine wp_skip ?_
          refine sx_then ?_
          refine wp_seq ?_
          refine sx_region ?_
          replace b3 := (b3.past hbV4)
          refine sv 18 (.agg #[.bool a.g, .slice a.p a.xs.length a.c, .int .i64 a.e]) ?_ (hr := (exec_ld (by kernel_rfl) (run_ld b3 hT30 0 [.bool a.g, .slice a.p a.xs.length a.c, .int .i64 a.e] (by kernel_rfl) (by kernel_rfl))))
          replace ha := (ha.past hbV4)
          replace hT := (hT.past (bthru (bthru (bthru hbV1 hbV2) hbV3) hbV4))
          refine se 19 32 #[.agg #[.bool a.g, .slice a.p a.xs.length a.c, .int .i64 a.e]] (fun Gx hGx => ?_)
          ((with_reducible refine ((HO _ ha hT).out).mono ?_))
          rintro eV5 V5 ⟨p19, c19, rfl, ho19, hbV5⟩
          have hzV5 := hbV5.size
          refine ⟨.agg #[.bool va.neg, .slice p19 (dig B32 va.m).length c19, .int .i64 va.e], rfl, hGx _ _ ?_⟩
          clear hGx Gx
          refine sn 9 #[.bool false, .slice none 0 0, .int .i64 0] 72 (fun V6 hbV6 hzV6 b9 => ?_)
          refine ss none b9 hT72 0 #[.bool va.neg, .slice p19 (dig B32 va.m).length c19, .int .i64 va.e] #[.bool va.neg, .slice p19 (dig B32 va.m).length c19, .int .i64 va.e] ?_
          have boV7 := b9
          clear b9
          intro V7 hOV7 b9
          have hzV7 := hOV7.size
          refine sx_nil ?_
          refine sx_then ?_
          refine wp_seq ?_
          refine wp_seq ?_
          refine sx_region ?_
          refine sv 20 (.agg #[.bool va.neg, .slice p19 (dig B32 va.m).length c19, .int .i64 va.e]) ?_ (hr := (exec_ld (by kernel_rfl) (run_ld b9 hT72 0 [.bool va.neg, .slice p19 (dig B32 va.m).length c19, .int .i64 va.e] (by kernel_rfl) (by kernel_rfl))))
          replace b4 := (b4.past ((bthru (bthru hbV4 hbV5) hbV6).trans (hOV7.below (by omega))))
          refine sv 21 (.agg #[.int .i64 g.rad, .int .i64 g.digs, .int .i64 g.lo, .int .i64 g.hi, .bool g.grad]) ?_ (hr := (exec_ld (by kernel_rfl) (run_ld b4 hT27 0 [.int .i64 g.rad, .int .i64 g.digs, .int .i64 g.lo, .int .i64 g.hi, .bool g.grad] (by kernel_rfl) (by kernel_rfl))))
          replace ho19 := (ho19.past (hbV6.trans (hOV7.below (by omega))))
          refine se 22 36 #[.agg #[.bool va.neg, .slice p19 (dig B32 va.m).length c19, .int .i64 va.e], .agg #[.int .i64 g.rad, .int .i64 g.digs, .int .i64 g.lo, .int .i64 g.hi, .bool g.grad]] (fun Gx hGx => ?_)
          ((with_reducible refine ((HK _ p19 c19 ho19.rd).out).mono ?_))
          rintro eV8 V8 ⟨rfl, hbV8⟩
          have hzV8 := hbV8.size
          refine ⟨.bool kb, rfl, hGx _ _ ?_⟩
          clear hGx Gx
          refine sv 23 (.bool false) ?_ (hr := ((show _ = Result.ok (Next.value (.bool (!kb))) _ from (by kernel_rfl)).trans (congrArg (fun z => Result.ok (Next.value (.bool z)) _) (show (!kb) = false from by rw [hkb]; rfl))))
          refine sx_nil ?_
          refine sx_then ?_
          refine wp_cond_false (by kernel_rfl) ?_
          refine wp_skip ?_
          refine sx_then ?_
          refine wp_seq ?_
          refine wp_seq ?_
          refine sx_region ?_
          refine sv 25 (.bool true) ?_
          refine sv 26 (.bool false) ?_
          refine sx_nil ?_
          refine sx_then ?_
          refine wp_cond_false (by kernel_rfl) ?_
          refine wp_skip ?_
          refine sx_then ?_
          refine wp_seq ?_
          refine sx_region ?_
          replace b9 := (b9.past hbV8)
          refine sv 30 (.agg #[.bool va.neg, .slice p19 (dig B32 va.m).length c19, .int .i64 va.e]) ?_ (hr := (exec_ld (by kernel_rfl) (run_ld b9 hT72 0 [.bool va.neg, .slice p19 (dig B32 va.m).length c19, .int .i64 va.e] (by kernel_rfl) (by kernel_rfl))))
          replace b4 := (b4.past hbV8)
          refine sv 31 (.agg #[.int .i64 g.rad, .int .i64 g.digs, .int .i64 g.lo, .int .i64 g.hi, .bool g.grad]) ?_ (hr := (exec_ld (by kernel_rfl) (run_ld b4 hT27 0 [.int .i64 g.rad, .int .i64 g.digs, .int .i64 g.lo, .int .i64 g.hi, .bool g.grad] (by kernel_rfl) (by kernel_rfl))))
          replace ho19 := (ho19.past hbV8)
          replace hT := (hT.past (bthru ((bthru hbV5 hbV6).trans (hOV7.below (by omega))) hbV8))
          refine se 32 39 #[.agg #[.bool va.neg, .slice p19 (dig B32 va.m).length c19, .int .i64 va.e], .agg #[.int .i64 g.rad, .int .i64 g.digs, .int .i64 g.lo, .int .i64 g.hi, .bool g.grad]] (fun Gx hGx => ?_)
          ((with_reducible refine ((HA _ p19 c19 w.heap.size (ho19.mono (by omega)) hT (by omega)).out).mono ?_))
          rintro eV9 V9 ⟨p32, c32, rfl, ho32, hbV9⟩
          have hzV9 := hbV9.size
          refine ⟨.tuple #[.agg #[.bool r.neg, .slice p32 (dig B32 r.m).length c32, .int .i64 r.e], .bool false], rfl, hGx _ _ ?_⟩
          clear hGx Gx
          refine sv 29 (.tuple #[.agg #[.bool r.neg, .slice p32 (dig B32 r.m).length c32, .int .i64 r.e], .bool false]) ?_
          refine sv 33 (.agg #[.bool r.neg, .slice p32 (dig B32 r.m).length c32, .int .i64 r.e]) ?_
          refine sv 34 (.bool false) ?_
          replace b9 := (b9.past hbV9)
          refine ss none b9 hT72 0 #[.bool r.neg, .slice p32 (dig B32 r.m).length c32, .int .i64 r.e] #[.bool r.neg, .slice p32 (dig B32 r.m).length c32, .int .i64 r.e] ?_
          have boV10 := b9
          clear b9
          intro V10 hOV10 b9
          have hzV10 := hOV10.size
          refine sv 10 (.bool false) ?_
          refine sx_nil ?_
          refine sx_then ?_
          refine wp_seq ?_
          refine wp_seq ?_
          refine sx_region ?_
          refine sv 35 (.bool false) ?_
          refine sv 36 (.bool true) ?_
          refine sx_nil ?_
          refine sx_then ?_
          refine wp_cond_true (by kernel_rfl) ?_
          refine wp_seq ?_
          refine sx_region ?_
          refine sv 37 (.agg #[.bool false, .slice none 0 0, .int .i64 0]) ?_
          replace b6 := (b6.past ((bthru (bthru ((bthru (bthru hbV4 hbV5) hbV6).trans (hOV7.below (by omega))) hbV8) hbV9).trans (hOV10.below (by omega))))
          refine ss none b6 hT30 0 #[.bool false, .slice none 0 0, .int .i64 0] #[.bool false, .slice none 0 0, .int .i64 0] ?_
          have boV11 := b6
          clear b6
          intro V11 hOV11 b6
          have hzV11 := hOV11.size
          refine sv 7 (.int .i64 5) ?_
          refine sx_nil ?_
          refine sx_then ?_
          refine wp_ret ?_
          have ⟨b6_0, b6_1, b6_2⟩ := b6.bx.e3
          repeat (first | with_reducible refine sx_thenret ?_ | with_reducible refine sx_blockret ?_)
          refine bodyPost_ret (v := .tuple #[.agg #[.bool false, .slice none 0 0, .int .i64 0], .int .i64 5]) (by simp [results, Tryd.results18, go_sem, b6_0, b6_1, b6_2]) rfl ?_
          exact ⟨none, 0, by simp [dig_zero], by rw [dig_zero]; exact Own.nil _ _ _ _, (((bthru (bthru ((bthru (bthru (bthru (bthru (bthru hbV1 hbV2) hbV3) hbV4) hbV5) hbV6).trans (hOV7.below (by omega))) hbV8) hbV9).trans (hOV10.below (by omega))).trans (hOV11.below (by omega)))⟩
      | false =>
        simp only [Bool.false_eq_true, if_false] at hfr ⊢
        have hB' : Bare zf := by rw [hfr]; exact hB2
        have hk' : inGridD zf g = true := by rw [hfr]; exact hk
        have em : zf.m = va.m := by rw [hfr]; rfl
        have hlz : (dig B32 zf.m).length ≤ 1200 := by rw [em]; exact hla
        have ee : zf.e = va.e := by rw [hfr]; rfl
        have HM := fun W p c => Lib.hid (opp_any va.neg p _ c va.e va.m W rfl)
        rw [show (dMinus ⟨va.neg, va.m, va.e⟩) = zf from hfr.symm] at HM
        have hez : -20000 ≤ zf.e ∧ zf.e ≤ 58400 := by rw [ee]; exact ⟨hea, hea2⟩
        have hlen := pStep_len hB' G hk' (by omega) (by omega)
        have HA := fun W p c base h hT k => Lib.hid (gafter_any zf.neg p c base zf.m zf.e g W h hB' (by omega) (by omega) G hk' hT k)
        rw [show (⟨zf.neg, zf.m, zf.e⟩ : Dv) = zf from rfl, em, ee] at HA
        obtain ⟨rb, hrb⟩ : ∃ rb, pStep zf g = rb := ⟨_, rfl⟩
        rw [hrb] at HA hlen ⊢
        clear hrb
        obtain ⟨r, b⟩ := rb
        simp only at hlen HA ⊢
        have HM2 := fun W p c => Lib.hid (opp_any r.neg p _ c r.e r.m W rfl)
        rw [show (dMinus ⟨r.neg, r.m, r.e⟩) = dMinus r from rfl] at HM2
        clear hB hB2 hB' hk hk' em ee
        cases b with
        | true =>
          simp only [if_true, doneOne, errOne]
          have hT27 : SxAgg Tryd.prog 27 5 := sxAgg_of (by kernel_rfl) (by kernel_rfl)
          have hT30 : SxAgg Tryd.prog 30 3 := sxAgg_of (by kernel_rfl) (by kernel_rfl)
          have hT72 : SxAgg Tryd.prog 72 3 := sxAgg_of (by kernel_rfl) (by kernel_rfl)
          refine calls_of_wp Tryd.func18 rfl ?_
          refine sx_frame (a' := ⟨((.agg #[.bool a.g, .slice a.p a.xs.length a.c, .int .i64 a.e]) :: (.agg #[.int .i64 g.rad, .int .i64 g.digs, .int .i64 g.lo, .int .i64 g.hi, .bool g.grad]) :: (.bool false) :: undef :: undef :: undef :: undef :: undef :: undef :: undef :: undef :: undef :: undef :: undef :: undef :: undef :: undef :: undef :: undef :: undef :: undef :: undef :: undef :: undef :: undef :: undef :: undef :: undef :: undef :: undef :: undef :: undef :: undef :: undef :: undef :: undef :: undef :: undef :: undef :: undef :: undef :: undef :: undef :: undef :: undef :: undef :: []).toArray, []⟩) (by kernel_rfl) ?_
          refine wp_seq ?_
          refine sx_region ?_
          refine sn 3 #[.bool a.g, .slice a.p a.xs.length a.c, .int .i64 a.e] 30 (fun V1 hbV1 hzV1 b3 => ?_)
          refine sn 4 #[.int .i64 g.rad, .int .i64 g.digs, .int .i64 g.lo, .int .i64 g.hi, .bool g.grad] 27 (fun V2 hbV2 hzV2 b4 => ?_)
          refine sn 6 #[.bool false, .slice none 0 0, .int .i64 0] 30 (fun V3 hbV3 hzV3 b6 => ?_)
          refine sv 7 (.int .i64 0) ?_
          refine sx_nil ?_
          refine sx_then ?_
          refine wp_seq ?_
          refine wp_seq ?_
          refine sx_region ?_
          replace b3 := (b3.past (bthru hbV2 hbV3))
          refine sv 11 (.agg #[.bool a.g, .slice a.p a.xs.length a.c, .int .i64 a.e]) ?_ (hr := (exec_ld (by kernel_rfl) (run_ld b3 hT30 0 [.bool a.g, .slice a.p a.xs.length a.c, .int .i64 a.e] (by kernel_rfl) (by kernel_rfl))))
          replace b4 := (b4.past hbV3)
          refine sv 12 (.agg #[.int .i64 g.rad, .int .i64 g.digs, .int .i64 g.lo, .int .i64 g.hi, .bool g.grad]) ?_ (hr := (exec_ld (by kernel_rfl) (run_ld b4 hT27 0 [.int .i64 g.rad, .int .i64 g.digs, .int .i64 g.lo, .int .i64 g.hi, .bool g.grad] (by kernel_rfl) (by kernel_rfl))))
          replace ha := (ha.past (bthru (bthru hbV1 hbV2) hbV3))
          refine se 13 35 #[.agg #[.bool a.g, .slice a.p a.xs.length a.c, .int .i64 a.e], .agg #[.int .i64 g.rad, .int .i64 g.digs, .int .i64 g.lo, .int .i64 g.hi, .bool g.grad]] (fun Gx hGx => ?_)
          ((with_reducible refine ((HC _ ha).out).mono ?_))
          rintro eV4 V4 ⟨rfl, hbV4⟩
          have hzV4 := hbV4.size
          refine ⟨.int .i64 ec, rfl, hGx _ _ ?_⟩
          clear hGx Gx
          refine sv 8 (.int .i64 ec) ?_
          refine sx_nil ?_
          refine sx_then ?_
          refine wp_seq ?_
          refine sx_region ?_
          refine sv 14 (.int .i64 ec) ?_
          refine sv 15 (.bool false) ?_ (hr := ((show _ = Result.ok (Next.value (.bool (ec != 0))) _ from (by kernel_rfl)).trans (congrArg (fun z => Result.ok (Next.value (.bool z)) _) (show (ec != 0) = false from tec))))
          refine sx_nil ?_
          refine sx_then ?_
          refine wp_cond_false (by kernel_rfl) ?_
          refine wp_skip ?_
          refine sx_then ?_
          refine wp_seq ?_
          refine sx_region ?_
          replace b3 := (b3.past hbV4)
          refine sv 18 (.agg #[.bool a.g, .slice a.p a.xs.length a.c, .int .i64 a.e]) ?_ (hr := (exec_ld (by kernel_rfl) (run_ld b3 hT30 0 [.bool a.g, .slice a.p a.xs.length a.c, .int .i64 a.e] (by kernel_rfl) (by kernel_rfl))))
          replace ha := (ha.past hbV4)
          replace hT := (hT.past (bthru (bthru (bthru hbV1 hbV2) hbV3) hbV4))
          refine se 19 32 #[.agg #[.bool a.g, .slice a.p a.xs.length a.c, .int .i64 a.e]] (fun Gx hGx => ?_)
          ((with_reducible refine ((HO _ ha hT).out).mono ?_))
          rintro eV5 V5 ⟨p19, c19, rfl, ho19, hbV5⟩
          have hzV5 := hbV5.size
          refine ⟨.agg #[.bool va.neg, .slice p19 (dig B32 va.m).length c19, .int .i64 va.e], rfl, hGx _ _ ?_⟩
          clear hGx Gx
          refine sn 9 #[.bool false, .slice none 0 0, .int .i64 0] 72 (fun V6 hbV6 hzV6 b9 => ?_)
          refine ss none b9 hT72 0 #[.bool va.neg, .slice p19 (dig B32 va.m).length c19, .int .i64 va.e] #[.bool va.neg, .slice p19 (dig B32 va.m).length c19, .int .i64 va.e] ?_
          have boV7 := b9
          clear b9
          intro V7 hOV7 b9
          have hzV7 := hOV7.size
          refine sx_nil ?_
          refine sx_then ?_
          refine wp_seq ?_
          refine wp_seq ?_
          refine sx_region ?_
          refine sv 20 (.agg #[.bool va.neg, .slice p19 (dig B32 va.m).length c19, .int .i64 va.e]) ?_ (hr := (exec_ld (by kernel_rfl) (run_ld b9 hT72 0 [.bool va.neg, .slice p19 (dig B32 va.m).length c19, .int .i64 va.e] (by kernel_rfl) (by kernel_rfl))))
          replace b4 := (b4.past ((bthru (bthru hbV4 hbV5) hbV6).trans (hOV7.below (by omega))))
          refine sv 21 (.agg #[.int .i64 g.rad, .int .i64 g.digs, .int .i64 g.lo, .int .i64 g.hi, .bool g.grad]) ?_ (hr := (exec_ld (by kernel_rfl) (run_ld b4 hT27 0 [.int .i64 g.rad, .int .i64 g.digs, .int .i64 g.lo, .int .i64 g.hi, .bool g.grad] (by kernel_rfl) (by kernel_rfl))))
          replace ho19 := (ho19.past (hbV6.trans (hOV7.below (by omega))))
          refine se 22 36 #[.agg #[.bool va.neg, .slice p19 (dig B32 va.m).length c19, .int .i64 va.e], .agg #[.int .i64 g.rad, .int .i64 g.digs, .int .i64 g.lo, .int .i64 g.hi, .bool g.grad]] (fun Gx hGx => ?_)
          ((with_reducible refine ((HK _ p19 c19 ho19.rd).out).mono ?_))
          rintro eV8 V8 ⟨rfl, hbV8⟩
          have hzV8 := hbV8.size
          refine ⟨.bool kb, rfl, hGx _ _ ?_⟩
          clear hGx Gx
          refine sv 23 (.bool false) ?_ (hr := ((show _ = Result.ok (Next.value (.bool (!kb))) _ from (by kernel_rfl)).trans (congrArg (fun z => Result.ok (Next.value (.bool z)) _) (show (!kb) = false from by rw [hkb]; rfl))))
          refine sx_nil ?_
          refine sx_then ?_
          refine wp_cond_false (by kernel_rfl) ?_
          refine wp_skip ?_
          refine sx_then ?_
          refine wp_seq ?_
          refine wp_seq ?_
          refine sx_region ?_
          refine sv 25 (.bool false) ?_
          refine sv 26 (.bool true) ?_
          refine sx_nil ?_
          refine sx_then ?_
          refine wp_cond_true (by kernel_rfl) ?_
          refine sx_region ?_
          replace b9 := (b9.past hbV8)
          refine sv 27 (.agg #[.bool va.neg, .slice p19 (dig B32 va.m).length c19, .int .i64 va.e]) ?_ (hr := (exec_ld (by kernel_rfl) (run_ld b9 hT72 0 [.bool va.neg, .slice p19 (dig B32 va.m).length c19, .int .i64 va.e] (by kernel_rfl) (by kernel_rfl))))
          refine se 28 38 #[.agg #[.bool va.neg, .slice p19 (dig B32 va.m).length c19, .int .i64 va.e]] (fun Gx hGx => ?_)
          ((with_reducible refine ((HM _ p19 c19).out).mono ?_))
          rintro eV9 V9 ⟨rfl, hbV9⟩
          have hzV9 := hbV9.size
          refine ⟨.agg #[.bool zf.neg, .slice p19 (dig B32 va.m).length c19, .int .i64 va.e], rfl, hGx _ _ ?_⟩
          clear hGx Gx
          replace b9 := (b9.past hbV9)
          refine ss none b9 hT72 0 #[.bool zf.neg, .slice p19 (dig B32 va.m).length c19, .int .i64 va.e] #[.bool zf.neg, .slice p19 (dig B32 va.m).length c19, .int .i64 va.e] ?_
          have boV10 := b9
          clear b9
          intro V10 hOV10 b9
          have hzV10 := hOV10.size
          refine sx_nil ?_
          refine sx_then ?_
          refine wp_seq ?_
          refine sx_region ?_
          refine sv 30 (.agg #[.bool zf.neg, .slice p19 (dig B32 va.m).length c19, .int .i64 va.e]) ?_ (hr := (exec_ld (by kernel_rfl) (run_ld b9 hT72 0 [.bool zf.neg, .slice p19 (dig B32 va.m).length c19, .int .i64 va.e] (by kernel_rfl) (by kernel_rfl))))
          replace b4 := ((b4.past (bthru hbV8 hbV9)).only hOV10 (by omega))
          refine sv 31 (.agg #[.int .i64 g.rad, .int .i64 g.digs, .int .i64 g.lo, .int .i64 g.hi, .bool g.grad]) ?_ (hr := (exec_ld (by kernel_rfl) (run_ld b4 hT27 0 [.int .i64 g.rad, .int .i64 g.digs, .int .i64 g.lo, .int .i64 g.hi, .bool g.grad] (by kernel_rfl) (by kernel_rfl))))
          replace ho19 := ((ho19.past (bthru hbV8 hbV9)).put boV10 hOV10 (by kernel_rfl))
          replace hT := (hT.past ((bthru (bthru ((bthru hbV5 hbV6).trans (hOV7.below (by omega))) hbV8) hbV9).trans (hOV10.below (by omega))))
          refine se 32 39 #[.agg #[.bool zf.neg, .slice p19 (dig B32 va.m).length c19, .int .i64 va.e], .agg #[.int .i64 g.rad, .int .i64 g.digs, .int .i64 g.lo, .int .i64 g.hi, .bool g.grad]] (fun Gx hGx => ?_)
          ((with_reducible refine ((HA _ p19 c19 w.heap.size (ho19.mono (by omega)) hT (by omega)).out).mono ?_))
          rintro eV11 V11 ⟨p32, c32, rfl, ho32, hbV11⟩
          have hzV11 := hbV11.size
          refine ⟨.tuple #[.agg #[.bool r.neg, .slice p32 (dig B32 r.m).length c32, .int .i64 r.e], .bool true], rfl, hGx _ _ ?_⟩
          clear hGx Gx
          refine sv 29 (.tuple #[.agg #[.bool r.neg, .slice p32 (dig B32 r.m).length c32, .int .i64 r.e], .bool true]) ?_
          refine sv 33 (.agg #[.bool r.neg, .slice p32 (dig B32 r.m).length c32, .int .i64 r.e]) ?_
          refine sv 34 (.bool true) ?_
          replace b9 := (b9.past hbV11)
          refine ss none b9 hT72 0 #[.bool r.neg, .slice p32 (dig B32 r.m).length c32, .int .i64 r.e] #[.bool r.neg, .slice p32 (dig B32 r.m).length c32, .int .i64 r.e] ?_
          have boV12 := b9
          clear b9
          intro V12 hOV12 b9
          have hzV12 := hOV12.size
          refine sv 10 (.bool true) ?_
          refine sx_nil ?_
          refine sx_then ?_
          refine wp_seq ?_
          refine wp_seq ?_
          refine sx_region ?_
          refine sv 35 (.bool true) ?_
          refine sv 36 (.bool false) ?_
          refine sx_nil ?_
          refine sx_then ?_
          refine wp_cond_false (by kernel_rfl) ?_
          refine wp_skip ?_
          refine sx_then ?_
          refine wp_seq ?_
          refine wp_seq ?_
          refine sx_region ?_
          refine sv 38 (.bool false) ?_
          refine sv 39 (.bool true) ?_
          refine sx_nil ?_
          refine sx_then ?_
          refine wp_cond_true (by kernel_rfl) ?_
          refine sx_region ?_
          refine sv 40 (.agg #[.bool r.neg, .slice p32 (dig B32 r.m).length c32, .int .i64 r.e]) ?_ (hr := (exec_ld (by kernel_rfl) (run_ld b9 hT72 0 [.bool r.neg, .slice p32 (dig B32 r.m).length c32, .int .i64 r.e] (by kernel_rfl) (by kernel_rfl))))
          refine se 41 38 #[.agg #[.bool r.neg, .slice p32 (dig B32 r.m).length c32, .int .i64 r.e]] (fun Gx hGx => ?_)
          ((with_reducible refine ((HM2 _ p32 c32).out).mono ?_))
          rintro eV13 V13 ⟨rfl, hbV13⟩
          have hzV13 := hbV13.size
          refine ⟨.agg #[.bool ((dMinus r).neg), .slice p32 (dig B32 r.m).length c32, .int .i64 r.e], rfl, hGx _ _ ?_⟩
          clear hGx Gx
          replace b9 := (b9.past hbV13)
          refine ss none b9 hT72 0 #[.bool ((dMinus r).neg), .slice p32 (dig B32 r.m).length c32, .int .i64 r.e] #[.bool ((dMinus r).neg), .slice p32 (dig B32 r.m).length c32, .int .i64 r.e] ?_
          have boV14 := b9
          clear b9
          intro V14 hOV14 b9
          have hzV14 := hOV14.size
          refine sx_nil ?_
          refine sx_then ?_
          refine wp_seq ?_
          refine sx_region ?_
          refine sv 42 (.agg #[.bool ((dMinus r).neg), .slice p32 (dig B32 r.m).length c32, .int .i64 r.e]) ?_ (hr := (exec_ld (by kernel_rfl) (run_ld b9 hT72 0 [.bool ((dMinus r).neg), .slice p32 (dig B32 r.m).length c32, .int .i64 r.e] (by kernel_rfl) (by kernel_rfl))))
          replace ho32 := (((ho32.put boV12 hOV12 (by kernel_rfl)).past hbV13).put boV14 hOV14 (by kernel_rfl))
          refine se 43 37 #[.agg #[.bool ((dMinus r).neg), .slice p32 (dig B32 r.m).length c32, .int .i64 r.e]] (fun Gx hGx => ?_)
          ((with_reducible refine (doneR_any (dMinus r).neg p32 _ c32 w.heap.size r.e r.m _ (ho32) rfl (by omega)).mono ?_))
          rintro eV15 V15 ⟨p43, c43, rfl, ho43, hbV15⟩
          have hzV15 := hbV15.size
          refine ⟨.tuple #[.agg #[.bool ((doneD (dMinus r)).neg), .slice p43 (dig B32 (doneD (dMinus r)).m).length c43, .int .i64 ((doneD (dMinus r)).e)], .int .i64 (errD (dMinus r))], rfl, hGx _ _ ?_⟩
          clear hGx Gx
          refine sv 44 (.agg #[.bool ((doneD (dMinus r)).neg), .slice p43 (dig B32 (doneD (dMinus r)).m).length c43, .int .i64 ((doneD (dMinus r)).e)]) ?_
          refine sv 45 (.int .i64 (errD (dMinus r))) ?_
          replace b6 := (b6.past (bthru ((bthru ((bthru ((bthru (bthru ((bthru (bthru hbV4 hbV5) hbV6).trans (hOV7.below (by omega))) hbV8) hbV9).trans (hOV10.below (by omega))) hbV11).trans (hOV12.below (by omega))) hbV13).trans (hOV14.below (by omega))) hbV15))
          refine ss none b6 hT30 0 #[.bool ((doneD (dMinus r)).neg), .slice p43 (dig B32 (doneD (dMinus r)).m).length c43, .int .i64 ((doneD (dMinus r)).e)] #[.bool ((doneD (dMinus r)).neg), .slice p43 (dig B32 (doneD (dMinus r)).m).length c43, .int .i64 ((doneD (dMinus r)).e)] ?_
          have boV16 := b6
          clear b6
          intro V16 hOV16 b6
          have hzV16 := hOV16.size
          refine sv 7 (.int .i64 (errD (dMinus r))) ?_
          refine sx_nil ?_
          refine sx_then ?_
          refine wp_ret ?_
          have ⟨b6_0, b6_1, b6_2⟩ := b6.bx.e3
          repeat (first | with_reducible refine sx_thenret ?_ | with_reducible refine sx_blockret ?_)
          refine bodyPost_ret (v := .tuple #[.agg #[.bool ((doneD (dMinus r)).neg), .slice p43 (dig B32 (doneD (dMinus r)).m).length c43, .int .i64 ((doneD (dMinus r)).e)], .int .i64 (errD (dMinus r))]) (by simp [results, Tryd.results18, go_sem, b6_0, b6_1, b6_2]) rfl ?_
          replace ho43 := (ho43.put boV16 hOV16 (by kernel_rfl))
          exact ⟨p43, c43, rfl, ho43, ((bthru ((bthru ((bthru ((bthru (bthru ((bthru (bthru (bthru (bthru (bthru hbV1 hbV2) hbV3) hbV4) hbV5) hbV6).trans (hOV7.below (by omega))) hbV8) hbV9).trans (hOV10.below (by omega))) hbV11).trans (hOV12.below (by omega))) hbV13).trans (hOV14.below (by omega))) hbV15).trans (hOV16.below (by omega)))⟩
        | false =>
          simp only [Bool.false_eq_true, if_false, doneOne, errOne, show ¬ ((5 : Int) = 0) by omega]
          have hT27 : SxAgg Tryd.prog 27 5 := sxAgg_of (by kernel_rfl) (by kernel_rfl)
          have hT30 : SxAgg Tryd.prog 30 3 := sxAgg_of (by kernel_rfl) (by kernel_rfl)
          have hT72 : SxAgg Tryd.prog 72 3 := sxAgg_of (by kernel_rfl) (by kernel_rfl)
          refine calls_of_wp Tryd.func18 rfl ?_
          refine sx_frame (a' := ⟨((.agg #[.bool a.g, .slice a.p a.xs.length a.c, .int .i64 a.e]) :: (.agg #[.int .i64 g.rad, .int .i64 g.digs, .int .i64 g.lo, .int .i64 g.hi, .bool g.grad]) :: (.bool false) :: undef :: undef :: undef :: undef :: undef :: undef :: undef :: undef :: undef :: undef :: undef :: undef :: undef :: undef :: undef :: undef :: undef :: undef :: undef :: undef :: undef :: undef :: undef :: undef :: undef :: undef :: undef :: undef :: undef :: undef :: undef :: undef :: undef :: undef :: undef :: undef :: undef :: undef :: undef :: undef :: undef :: undef :: undef :: []).toArray, []⟩) (by kernel_rfl) ?_
          refine wp_seq ?_
          refine sx_region ?_
          refine sn 3 #[.bool a.g, .slice a.p a.xs.length a.c, .int .i64 a.e] 30 (fun V1 hbV1 hzV1 b3 => ?_)
          refine sn 4 #[.int .i64 g.rad, .int .i64 g.digs, .int .i64 g.lo, .int .i64 g.hi, .bool g.grad] 27 (fun V2 hbV2 hzV2 b4 => ?_)
          refine sn 6 #[.bool false, .slice none 0 0, .int .i64 0] 30 (fun V3 hbV3 hzV3 b6 => ?_)
          refine sv 7 (.int .i64 0) ?_
          refine sx_nil ?_
          refine sx_then ?_
          refine wp_seq ?_
          refine wp_seq ?_
          refine sx_region ?_
          replace b3 := (b3.past (bthru hbV2 hbV3))
          refine sv 11 (.agg #[.bool a.g, .slice a.p a.xs.length a.c, .int .i64 a.e]) ?_ (hr := (exec_ld (by kernel_rfl) (run_ld b3 hT30 0 [.bool a.g, .slice a.p a.xs.length a.c, .int .i64 a.e] (by kernel_rfl) (by kernel_rfl))))
          replace b4 := (b4.past hbV3)
          refine sv 12 (.agg #[.int .i64 g.rad, .int .i64 g.digs, .int .i64 g.lo, .int .i64 g.hi, .bool g.grad]) ?_ (hr := (exec_ld (by kernel_rfl) (run_ld b4 hT27 0 [.int .i64 g.rad, .int .i64 g.digs, .int .i64 g.lo, .int .i64 g.hi, .bool g.grad] (by kernel_rfl) (by kernel_rfl))))
          replace ha := (ha.past (bthru (bthru hbV1 hbV2) hbV3))
          refine se 13 35 #[.agg #[.bool a.g, .slice a.p a.xs.length a.c, .int .i64 a.e], .agg #[.int .i64 g.rad, .int .i64 g.digs, .int .i64 g.lo, .int .i64 g.hi, .bool g.grad]] (fun Gx hGx => ?_)
          ((with_reducible refine ((HC _ ha).out).mono ?_))
          rintro eV4 V4 ⟨rfl, hbV4⟩
          have hzV4 := hbV4.size
          refine ⟨.int .i64 ec, rfl, hGx _ _ ?_⟩
          clear hGx Gx
          refine sv 8 (.int .i64 ec) ?_
          refine sx_nil ?_
          refine sx_then ?_
          refine wp_seq ?_
          refine sx_region ?_
          refine sv 14 (.int .i64 ec) ?_
          refine sv 15 (.bool false) ?_ (hr := ((show _ = Result.ok (Next.value (.bool (ec != 0))) _ from (by kernel_rfl)).trans (congrArg (fun z => Result.ok (Next.value (.bool z)) _) (show (ec != 0) = false from tec))))
          refine sx_nil ?_
          refine sx_then ?_
          refine wp_cond_false (by kernel_rfl) ?_
          refine wp_skip ?_
          refine sx_then ?_
          refine wp_seq ?_
          refine sx_region ?_
          replace b3 := (b3.past hbV4)
          refine sv 18 (.agg #[.bool a.g, .slice a.p a.xs.length a.c, .int .i64 a.e]) ?_ (hr := (exec_ld (by kernel_rfl) (run_ld b3 hT30 0 [.bool a.g, .slice a.p a.xs.length a.c, .int .i64 a.e] (by kernel_rfl) (by kernel_rfl))))
          replace ha := (ha.past hbV4)
          replace hT := (hT.past (bthru (bthru (bthru hbV1 hbV2) hbV3) hbV4))
          refine se 19 32 #[.agg #[.bool a.g, .slice a.p a.xs.length a.c, .int .i64 a.e]] (fun Gx hGx => ?_)
          ((with_reducible refine ((HO _ ha hT).out).mono ?_))
          rintro eV5 V5 ⟨p19, c19, rfl, ho19, hbV5⟩
          have hzV5 := hbV5.size
          refine ⟨.agg #[.bool va.neg, .slice p19 (dig B32 va.m).length c19, .int .i64 va.e], rfl, hGx _ _ ?_⟩
          clear hGx Gx
          refine sn 9 #[.bool false, .slice none 0 0, .int .i64 0] 72 (fun V6 hbV6 hzV6 b9 => ?_)
          refine ss none b9 hT72 0 #[.bool va.neg, .slice p19 (dig B32 va.m).length c19, .int .i64 va.e] #[.bool va.neg, .slice p19 (dig B32 va.m).length c19, .int .i64 va.e] ?_
          have boV7 := b9
          clear b9
          intro V7 hOV7 b9
          have hzV7 := hOV7.size
          refine sx_nil ?_
          refine sx_then ?_
          refine wp_seq ?_
          refine wp_seq ?_
          refine sx_region ?_
          refine sv 20 (.agg #[.bool va.neg, .slice p19 (dig B32 va.m).length c19, .int .i64 va.e]) ?_ (hr := (exec_ld (by kernel_rfl) (run_ld b9 hT72 0 [.bool va.neg, .slice p19 (dig B32 va.m).length c19, .int .i64 va.e] (by kernel_rfl) (by kernel_rfl))))
          replace b4 := (b4.past ((bthru (bthru hbV4 hbV5) hbV6).trans (hOV7.below (by omega))))
          refine sv 21 (.agg #[.int .i64 g.rad, .int .i64 g.digs, .int .i64 g.lo, .int .i64 g.hi, .bool g.grad]) ?_ (hr := (exec_ld (by kernel_rfl) (run_ld b4 hT27 0 [.int .i64 g.rad, .int .i64 g.digs, .int .i64 g.lo, .int .i64 g.hi, .bool g.grad] (by kernel_rfl) (by kernel_rfl))))
          replace ho19 := (ho19.past (hbV6.trans (hOV7.below (by omega))))
          refine se 22 36 #[.agg #[.bool va.neg, .slice p19 (dig B32 va.m).length c19, .int .i64 va.e], .agg #[.int .i64 g.rad, .int .i64 g.digs, .int .i64 g.lo, .int .i64 g.hi, .bool g.grad]] (fun Gx hGx => ?_)
          ((with_reducible refine ((HK _ p19 c19 ho19.rd).out).mono ?_))
          rintro eV8 V8 ⟨rfl, hbV8⟩
          have hzV8 := hbV8.size
          refine ⟨.bool kb, rfl, hGx _ _ ?_⟩
          clear hGx Gx
          refine sv 23 (.bool false) ?_ (hr := ((show _ = Result.ok (Next.value (.bool (!kb))) _ from (by kernel_rfl)).trans (congrArg (fun z => Result.ok (Next.value (.bool z)) _) (show (!kb) = false from by rw [hkb]; rfl))))
          refine sx_nil ?_
          refine sx_then ?_
          refine wp_cond_false (by kernel_rfl) ?_
          refine wp_skip ?_
          refine sx_then ?_
          refine wp_seq ?_
          refine wp_seq ?_
          refine sx_region ?_
          refine sv 25 (.bool false) ?_
          refine sv 26 (.bool true) ?_
          refine sx_nil ?_
          refine sx_then ?_
          refine wp_cond_true (by kernel_rfl) ?_
          refine sx_region ?_
          replace b9 := (b9.past hbV8)
          refine sv 27 (.agg #[.bool va.neg, .slice p19 (dig B32 va.m).length c19, .int .i64 va.e]) ?_ (hr := (exec_ld (by kernel_rfl) (run_ld b9 hT72 0 [.bool va.neg, .slice p19 (dig B32 va.m).length c19, .int .i64 va.e] (by kernel_rfl) (by kernel_rfl))))
          refine se 28 38 #[.agg #[.bool va.neg, .slice p19 (dig B32 va.m).length c19, .int .i64 va.e]] (fun Gx hGx => ?_)
          ((with_reducible refine ((HM _ p19 c19).out).mono ?_))
          rintro eV9 V9 ⟨rfl, hbV9⟩
          have hzV9 := hbV9.size
          refine ⟨.agg #[.bool zf.neg, .slice p19 (dig B32 va.m).length c19, .int .i64 va.e], rfl, hGx _ _ ?_⟩
          clear hGx Gx
          replace b9 := (b9.past hbV9)
          refine ss none b9 hT72 0 #[.bool zf.neg, .slice p19 (dig B32 va.m).length c19, .int .i64 va.e] #[.bool zf.neg, .slice p19 (dig B32 va.m).length c19, .int .i64 va.e] ?_
          have boV10 := b9
          clear b9
          intro V10 hOV10 b9
          have hzV10 := hOV10.size
          refine sx_nil ?_
          refine sx_then ?_
          refine wp_seq ?_
          refine sx_region ?_
          refine sv 30 (.agg #[.bool zf.neg, .slice p19 (dig B32 va.m).length c19, .int .i64 va.e]) ?_ (hr := (exec_ld (by kernel_rfl) (run_ld b9 hT72 0 [.bool zf.neg, .slice p19 (dig B32 va.m).length c19, .int .i64 va.e] (by kernel_rfl) (by kernel_rfl))))
          replace b4 := ((b4.past (bthru hbV8 hbV9)).only hOV10 (by omega))
          refine sv 31 (.agg #[.int .i64 g.rad, .int .i64 g.digs, .int .i64 g.lo, .int .i64 g.hi, .bool g.grad]) ?_ (hr := (exec_ld (by kernel_rfl) (run_ld b4 hT27 0 [.int .i64 g.rad, .int .i64 g.digs, .int .i64 g.lo, .int .i64 g.hi, .bool g.grad] (by kernel_rfl) (by kernel_rfl))))
          replace ho19 := ((ho19.past (bthru hbV8 hbV9)).put boV10 hOV10 (by kernel_rfl))
          replace hT := (hT.past ((bthru (bthru ((bthru hbV5 hbV6).trans (hOV7.below (by omega))) hbV8) hbV9).trans (hOV10.below (by omega))))
          refine se 32 39 #[.agg #[.bool zf.neg, .slice p19 (dig B32 va.m).length c19, .int .i64 va.e], .agg #[.int .i64 g.rad, .int .i64 g.digs, .int .i64 g.lo, .int .i64 g.hi, .bool g.grad]] (fun Gx hGx => ?_)
          ((with_reducible refine ((HA _ p19 c19 w.heap.size (ho19.mono (by omega)) hT (by omega)).out).mono ?_))
          rintro eV11 V11 ⟨p32, c32, rfl, ho32, hbV11⟩
          have hzV11 := hbV11.size
          refine ⟨.tuple #[.agg #[.bool r.neg, .slice p32 (dig B32 r.m).length c32, .int .i64 r.e], .bool false], rfl, hGx _ _ ?_⟩
          clear hGx Gx
          refine sv 29 (.tuple #[.agg #[.bool r.neg, .slice p32 (dig B32 r.m).length c32, .int .i64 r.e], .bool false]) ?_
          refine sv 33 (.agg #[.bool r.neg, .slice p32 (dig B32 r.m).length c32, .int .i64 r.e]) ?_
          refine sv 34 (.bool false) ?_
          replace b9 := (b9.past hbV11)
          refine ss none b9 hT72 0 #[.bool r.neg, .slice p32 (dig B32 r.m).length c32, .int .i64 r.e] #[.bool r.neg, .slice p32 (dig B32 r.m).length c32, .int .i64 r.e] ?_
          have boV12 := b9
          clear b9
          intro V12 hOV12 b9
          have hzV12 := hOV12.size
          refine sv 10 (.bool false) ?_
          refine sx_nil ?_
          refine sx_then ?_
          refine wp_seq ?_
          refine wp_seq ?_
          refine sx_region ?_
          refine sv 35 (.bool false) ?_
          refine sv 36 (.bool true) ?_
          refine sx_nil ?_
          refine sx_then ?_
          refine wp_cond_true (by kernel_rfl) ?_
          refine wp_seq ?_
          refine sx_region ?_
          refine sv 37 (.agg #[.bool false, .slice none 0 0, .int .i64 0]) ?_
          replace b6 := (b6.past ((bthru ((bthru (bthru ((bthru (bthru hbV4 hbV5) hbV6).trans (hOV7.below (by omega))) hbV8) hbV9).trans (hOV10.below (by omega))) hbV11).trans (hOV12.below (by omega))))
          refine ss none b6 hT30 0 #[.bool false, .slice none 0 0, .int .i64 0] #[.bool false, .slice none 0 0, .int .i64 0] ?_
          have boV13 := b6
          clear b6
          intro V13 hOV13 b6
          have hzV13 := hOV13.size
          refine sv 7 (.int .i64 5) ?_
          refine sx_nil ?_
          refine sx_then ?_
          refine wp_ret ?_
          have ⟨b6_0, b6_1, b6_2⟩ := b6.bx.e3
          repeat (first | with_reducible refine sx_thenret ?_ | with_reducible refine sx_blockret ?_)
          refine bodyPost_ret (v := .tuple #[.agg #[.bool false, .slice none 0 0, .int .i64 0], .int .i64 5]) (by simp [results, Tryd.results18, go_sem, b6_0, b6_1, b6_2]) rfl ?_
          exact ⟨none, 0, by simp [dig_zero], by rw [dig_zero]; exact Own.nil _ _ _ _, (((bthru ((bthru (bthru ((bthru (bthru (bthru (bthru (bthru hbV1 hbV2) hbV3) hbV4) hbV5) hbV6).trans (hOV7.below (by omega))) hbV8) hbV9).trans (hOV10.below (by omega))) hbV11).trans (hOV12.below (by omega))).trans (hOV13.below (by omega)))⟩
    · rw [if_neg hk]
      have hkf : keepsD va g = false := by simpa using hk
      rw [hkf] at HK
      obtain ⟨kb, hkb⟩ : ∃ kb, kb = false := ⟨_, rfl⟩
      rw [← hkb] at HK
      simp only [doneOne, errOne, show ¬ ((4 : Int) = 0) by omega, if_false]
      have hT27 : SxAgg Tryd.prog 27 5 := sxAgg_of (by kernel_rfl) (by kernel_rfl)
      have hT30 : SxAgg Tryd.prog 30 3 := sxAgg_of (by kernel_rfl) (by kernel_rfl)
      have hT72 : SxAgg Tryd.prog 72 3 := sxAgg_of (by kernel_rfl) (by kernel_rfl)
      refine calls_of_wp Tryd.func18 rfl ?_
      refine sx_frame (a' := ⟨((.agg #[.bool a.g, .slice a.p a.xs.length a.c, .int .i64 a.e]) :: (.agg #[.int .i64 g.rad, .int .i64 g.digs, .int .i64 g.lo, .int .i64 g.hi, .bool g.grad]) :: (.bool up) :: undef :: undef :: undef :: undef :: undef :: undef :: undef :: undef :: undef :: undef :: undef :: undef :: undef :: undef :: undef :: undef :: undef :: undef :: undef :: undef :: undef :: undef :: undef :: undef :: undef :: undef :: undef :: undef :: undef :: undef :: undef :: undef :: undef :: undef :: undef :: undef :: undef :: undef :: undef :: undef :: undef :: undef :: undef :: []).toArray, []⟩) (by kernel_rfl) ?_
      refine wp_seq ?_
      refine sx_region ?_
      refine sn 3 #[.bool a.g, .slice a.p a.xs.length a.c, .int .i64 a.e] 30 (fun V1 hbV1 hzV1 b3 => ?_)
      refine sn 4 #[.int .i64 g.rad, .int .i64 g.digs, .int .i64 g.lo, .int .i64 g.hi, .bool g.grad] 27 (fun V2 hbV2 hzV2 b4 => ?_)
      refine sn 6 #[.bool false, .slice none 0 0, .int .i64 0] 30 (fun V3 hbV3 hzV3 b6 => ?_)
      refine sv 7 (.int .i64 0) ?_
      refine sx_nil ?_
      refine sx_then ?_
      refine wp_seq ?_
      refine wp_seq ?_
      refine sx_region ?_
      replace b3 := (b3.past (bthru hbV2 hbV3))
      refine sv 11 (.agg #[.bool a.g, .slice a.p a.xs.length a.c, .int .i64 a.e]) ?_ (hr := (exec_ld (by kernel_rfl) (run_ld b3 hT30 0 [.bool a.g, .slice a.p a.xs.length a.c, .int .i64 a.e] (by kernel_rfl) (by kernel_rfl))))
      replace b4 := (b4.past hbV3)
      refine sv 12 (.agg #[.int .i64 g.rad, .int .i64 g.digs, .int .i64 g.lo, .int .i64 g.hi, .bool g.grad]) ?_ (hr := (exec_ld (by kernel_rfl) (run_ld b4 hT27 0 [.int .i64 g.rad, .int .i64 g.digs, .int .i64 g.lo, .int .i64 g.hi, .bool g.grad] (by kernel_rfl) (by kernel_rfl))))
      replace ha := (ha.past (bthru (bthru hbV1 hbV2) hbV3))
      refine se 13 35 #[.agg #[.bool a.g, .slice a.p a.xs.length a.c, .int .i64 a.e], .agg #[.int .i64 g.rad, .int .i64 g.digs, .int .i64 g.lo, .int .i64 g.hi, .bool g.grad]] (fun Gx hGx => ?_)
      ((with_reducible refine ((HC _ ha).out).mono ?_))
      rintro eV4 V4 ⟨rfl, hbV4⟩
      have hzV4 := hbV4.size
      refine ⟨.int .i64 ec, rfl, hGx _ _ ?_⟩
      clear hGx Gx
      refine sv 8 (.int .i64 ec) ?_
      refine sx_nil ?_
      refine sx_then ?_
      refine wp_seq ?_
      refine sx_region ?_
      refine sv 14 (.int .i64 ec) ?_
      refine sv 15 (.bool false) ?_ (hr := ((show _ = Result.ok (Next.value (.bool (ec != 0))) _ from (by kernel_rfl)).trans (congrArg (fun z => Result.ok (Next.value (.bool z)) _) (show (ec != 0) = false from tec))))
      refine sx_nil ?_
      refine sx_then ?_
      refine wp_cond_false (by kernel_rfl) ?_
      refine wp_skip ?_
      refine sx_then ?_
      refine wp_seq ?_
      refine sx_region ?_
      replace b3 := (b3.past hbV4)
      refine sv 18 (.agg #[.bool a.g, .slice a.p a.xs.length a.c, .int .i64 a.e]) ?_ (hr := (exec_ld (by kernel_rfl) (run_ld b3 hT30 0 [.bool a.g, .slice a.p a.xs.length a.c, .int .i64 a.e] (by kernel_rfl) (by kernel_rfl))))
      replace ha := (ha.past hbV4)
      replace hT := (hT.past (bthru (bthru (bthru hbV1 hbV2) hbV3) hbV4))
      refine se 19 32 #[.agg #[.bool a.g, .slice a.p a.xs.length a.c, .int .i64 a.e]] (fun Gx hGx => ?_)
      ((with_reducible refine ((HO _ ha hT).out).mono ?_))
      rintro eV5 V5 ⟨p19, c19, rfl, ho19, hbV5⟩
      have hzV5 := hbV5.size
      refine ⟨.agg #[.bool va.neg, .slice p19 (dig B32 va.m).length c19, .int .i64 va.e], rfl, hGx _ _ ?_⟩
      clear hGx Gx
      refine sn 9 #[.bool false, .slice none 0 0, .int .i64 0] 72 (fun V6 hbV6 hzV6 b9 => ?_)
      refine ss none b9 hT72 0 #[.bool va.neg, .slice p19 (dig B32 va.m).length c19, .int .i64 va.e] #[.bool va.neg, .slice p19 (dig B32 va.m).length c19, .int .i64 va.e] ?_
      have boV7 := b9
      clear b9
      intro V7 hOV7 b9
      have hzV7 := hOV7.size
      refine sx_nil ?_
      refine sx_then ?_
      refine wp_seq ?_
      refine wp_seq ?_
      refine sx_region ?_
      refine sv 20 (.agg #[.bool va.neg, .slice p19 (dig B32 va.m).length c19, .int .i64 va.e]) ?_ (hr := (exec_ld (by kernel_rfl) (run_ld b9 hT72 0 [.bool va.neg, .slice p19 (dig B32 va.m).length c19, .int .i64 va.e] (by kernel_rfl) (by kernel_rfl))))
      replace b4 := (b4.past ((bthru (bthru hbV4 hbV5) hbV6).trans (hOV7.below (by omega))))
      refine sv 21 (.agg #[.int .i64 g.rad, .int .i64 g.digs, .int .i64 g.lo, .int .i64 g.hi, .bool g.grad]) ?_ (hr := (exec_ld (by kernel_rfl) (run_ld b4 hT27 0 [.int .i64 g.rad, .int .i64 g.digs, .int .i64 g.lo, .int .i64 g.hi, .bool g.grad] (by kernel_rfl) (by kernel_rfl))))
      replace ho19 := (ho19.past (hbV6.trans (hOV7.below (by omega))))
      refine se 22 36 #[.agg #[.bool va.neg, .slice p19 (dig B32 va.m).length c19, .int .i64 va.e], .agg #[.int .i64 g.rad, .int .i64 g.digs, .int .i64 g.lo, .int .i64 g.hi, .bool g.grad]] (fun Gx hGx => ?_)
      ((with_reducible refine ((HK _ p19 c19 ho19.rd).out).mono ?_))
      rintro eV8 V8 ⟨rfl, hbV8⟩
      have hzV8 := hbV8.size
      refine ⟨.bool kb, rfl, hGx _ _ ?_⟩
      clear hGx Gx
      refine sv 23 (.bool true) ?_ (hr := ((show _ = Result.ok (Next.value (.bool (!kb))) _ from (by kernel_rfl)).trans (congrArg (fun z => Result.ok (Next.value (.bool z)) _) (show (!kb) = true from by rw [hkb]; rfl))))
      refine sx_nil ?_
      refine sx_then ?_
      refine wp_cond_true (by kernel_rfl) ?_
      refine wp_seq ?_
      refine sx_region ?_
      refine sv 24 (.agg #[.bool false, .slice none 0 0, .int .i64 0]) ?_
      replace b6 := (b6.past (bthru ((bthru (bthru hbV4 hbV5) hbV6).trans (hOV7.below (by omega))) hbV8))
      refine ss none b6 hT30 0 #[.bool false, .slice none 0 0, .int .i64 0] #[.bool false, .slice none 0 0, .int .i64 0] ?_
      have boV9 := b6
      clear b6
      intro V9 hOV9 b6
      have hzV9 := hOV9.size
      refine sv 7 (.int .i64 4) ?_
      refine sx_nil ?_
      refine sx_then ?_
      refine wp_ret ?_
      have ⟨b6_0, b6_1, b6_2⟩ := b6.bx.e3
      repeat (first | with_reducible refine sx_thenret ?_ | with_reducible refine sx_blockret ?_)
      refine bodyPost_ret (v := .tuple #[.agg #[.bool false, .slice none 0 0, .int .i64 0], .int .i64 4]) (by simp [results, Tryd.results18, go_sem, b6_0, b6_1, b6_2]) rfl ?_
      exact ⟨none, 0, by simp [dig_zero], by rw [dig_zero]; exact Own.nil _ _ _ _, ((bthru ((bthru (bthru (bthru (bthru (bthru hbV1 hbV2) hbV3) hbV4) hbV5) hbV6).trans (hOV7.below (by omega))) hbV8).trans (hOV9.below (by omega)))⟩
  · have hst : errStep a g up = ec := by unfold errStep; rw [if_neg h0, hec]
    rw [hst]
    have hn : ec ≠ 0 := by rw [← hec]; exact h0
    have tec : (ec != 0) = true := by simpa using hn
    simp only [doneOne, errOne, hn, if_false]
    have hT27 : SxAgg Tryd.prog 27 5 := sxAgg_of (by kernel_rfl) (by kernel_rfl)
    have hT30 : SxAgg Tryd.prog 30 3 := sxAgg_of (by kernel_rfl) (by kernel_rfl)
    refine calls_of_wp Tryd.func18 rfl ?_
    refine sx_frame (a' := ⟨((.agg #[.bool a.g, .slice a.p a.xs.length a.c, .int .i64 a.e]) :: (.agg #[.int .i64 g.rad, .int .i64 g.digs, .int .i64 g.lo, .int .i64 g.hi, .bool g.grad]) :: (.bool up) :: undef :: undef :: undef :: undef :: undef :: undef :: undef :: undef :: undef :: undef :: undef :: undef :: undef :: undef :: undef :: undef :: undef :: undef :: undef :: undef :: undef :: undef :: undef :: undef :: undef :: undef :: undef :: undef :: undef :: undef :: undef :: undef :: undef :: undef :: undef :: undef :: undef :: undef :: undef :: undef :: undef :: undef :: undef :: []).toArray, []⟩) (by kernel_rfl) ?_
    refine wp_seq ?_
    refine sx_region ?_
    refine sn 3 #[.bool a.g, .slice a.p a.xs.length a.c, .int .i64 a.e] 30 (fun V1 hbV1 hzV1 b3 => ?_)
    refine sn 4 #[.int .i64 g.rad, .int .i64 g.digs, .int .i64 g.lo, .int .i64 g.hi, .bool g.grad] 27 (fun V2 hbV2 hzV2 b4 => ?_)
    refine sn 6 #[.bool false, .slice none 0 0, .int .i64 0] 30 (fun V3 hbV3 hzV3 b6 => ?_)
    refine sv 7 (.int .i64 0) ?_
    refine sx_nil ?_
    refine sx_then ?_
    refine wp_seq ?_
    refine wp_seq ?_
    refine sx_region ?_
    replace b3 := (b3.past (bthru hbV2 hbV3))
    refine sv 11 (.agg #[.bool a.g, .slice a.p a.xs.length a.c, .int .i64 a.e]) ?_ (hr := (exec_ld (by kernel_rfl) (run_ld b3 hT30 0 [.bool a.g, .slice a.p a.xs.length a.c, .int .i64 a.e] (by kernel_rfl) (by kernel_rfl))))
    replace b4 := (b4.past hbV3)
    refine sv 12 (.agg #[.int .i64 g.rad, .int .i64 g.digs, .int .i64 g.lo, .int .i64 g.hi, .bool g.grad]) ?_ (hr := (exec_ld (by kernel_rfl) (run_ld b4 hT27 0 [.int .i64 g.rad, .int .i64 g.digs, .int .i64 g.lo, .int .i64 g.hi, .bool g.grad] (by kernel_rfl) (by kernel_rfl))))
    replace ha := (ha.past (bthru (bthru hbV1 hbV2) hbV3))
    refine se 13 35 #[.agg #[.bool a.g, .slice a.p a.xs.length a.c, .int .i64 a.e], .agg #[.int .i64 g.rad, .int .i64 g.digs, .int .i64 g.lo, .int .i64 g.hi, .bool g.grad]] (fun Gx hGx => ?_)
    ((with_reducible refine ((HC _ ha).out).mono ?_))
    rintro eV4 V4 ⟨rfl, hbV4⟩
    have hzV4 := hbV4.size
    refine ⟨.int .i64 ec, rfl, hGx _ _ ?_⟩
    clear hGx Gx
    refine sv 8 (.int .i64 ec) ?_
    refine sx_nil ?_
    refine sx_then ?_
    refine wp_seq ?_
    refine sx_region ?_
    refine sv 14 (.int .i64 ec) ?_
    refine sv 15 (.bool true) ?_ (hr := ((show _ = Result.ok (Next.value (.bool (ec != 0))) _ from (by kernel_rfl)).trans (congrArg (fun z => Result.ok (Next.value (.bool z)) _) (show (ec != 0) = true from tec))))
    refine sx_nil ?_
    refine sx_then ?_
    refine wp_cond_true (by kernel_rfl) ?_
    refine wp_seq ?_
    refine sx_region ?_
    refine sv 16 (.agg #[.bool false, .slice none 0 0, .int .i64 0]) ?_
    refine sv 17 (.int .i64 ec) ?_
    replace b6 := (b6.past hbV4)
    refine ss none b6 hT30 0 #[.bool false, .slice none 0 0, .int .i64 0] #[.bool false, .slice none 0 0, .int .i64 0] ?_
    have boV5 := b6
    clear b6
    intro V5 hOV5 b6
    have hzV5 := hOV5.size
    refine sv 7 (.int .i64 ec) ?_
    refine sx_nil ?_
    refine sx_then ?_
    refine wp_ret ?_
    have ⟨b6_0, b6_1, b6_2⟩ := b6.bx.e3
    repeat (first | with_reducible refine sx_thenret ?_ | with_reducible refine sx_blockret ?_)
    refine bodyPost_ret (v := .tuple #[.agg #[.bool false, .slice none 0 0, .int .i64 0], .int .i64 ec]) (by simp [results, Tryd.results18, go_sem, b6_0, b6_1, b6_2]) rfl ?_
    exact ⟨none, 0, by simp [dig_zero], by rw [dig_zero]; exact Own.nil _ _ _ _, ((bthru (bthru (bthru hbV1 hbV2) hbV3) hbV4).trans (hOV5.below (by omega)))⟩

end Go.Proofs.YtlegnbigddhmlaaDoor
