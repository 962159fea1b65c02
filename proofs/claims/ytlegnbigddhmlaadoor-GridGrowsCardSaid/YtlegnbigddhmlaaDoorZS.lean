/- grid: ratio, Keeps, check, Holds.
   grid: check, Holds; the laws' onGrid.
   grid: least. -/
import Derived.Test.YtlegnbigddhmlaaDoorZGd7
import Derived.Test.YtlegnbigddhmlaaDoorZA
import Derived.Test.YtlegnbigddhmlaaDoorZRGd5
import Derived.Test.YtlegnbigddhmlaaDoorZU
import Derived.Test.YtlegnbigddhmlaaDoorZE
namespace Go.Proofs.YtlegnbigddhmlaaDoor
open Go.RowKit Go.Slip

set_option maxHeartbeats 2000000 in
set_option maxRecDepth 100000 in
theorem gratio_any (g : Bool) (p : Option Addr) (n c : Nat) (e : Int) (w : World) :
    Calls Tryd.prog 62 #[.agg #[.bool g, .slice p n c, .int .i64 e]] w fun en w' => ∃ q d, en = .returned (.agg #[.bool g, .slice p n c, .slice q (dig B32 1).length d, .int .i64 e]) ∧ Own w' w.heap.size .u32 46 q d (dig B32 1) ∧ Below w.heap.size w w' := by
  go_enter Tryd.func62, Tryd.ntmps62
  go_wp2_with fail
  refine wp_lay2 (fun W1 hb1 hz1 A R => ?_)
  have hs1 := hb1
  have hzd : W1.drew.heap.size = W1.heap.size := rfl
  have HZD := Lib.hid hzd
  clear hzd
  go_region_held3 (fun w' => w'.cell? ⟨w.heap.size, 0, none⟩ = some (.bool g) ∧ w'.cell? ⟨w.heap.size, 1, none⟩ = some (.slice p n c) ∧ w'.cell? ⟨w.heap.size, 2, none⟩ = some (.int .i64 e))
    (first
      | with_reducible exact A.e3
      | with_reducible exact A.drew.e3
      | with_reducible exact (A.drew.past hbx).e3
      | with_reducible exact ((A.drew.past hbx).only (only4 _ _ _ _ _ _) (by omega)).e3)
    (first
      | (go_at_call 64; ((with_reducible refine (gof_one _).mono ?_)); rintro ex wx ⟨px, cx, rfl, hox, hbx⟩; (have RR := R.drew.past hbx); obtain ⟨R_0, R_1, R_2, R_3⟩ := RR.e4; (have R_f0 := RR.f 0); (have R_f1 := RR.f 1); (have R_f2 := RR.f 2); (have R_f3 := RR.f 3)))
  all_goals (go_wp2_with fail)
  refine bodyPost_ret (v := .agg #[.bool g, .slice p n c, .slice px (dig B32 1).length cx, .int .i64 e]) (by simp [results, Tryd.results62, go_sem, R_0, R_1, R_2, R_3]) rfl ?_
  have hzd := HZD.out
  have hO := only4 wx (w.heap.size + 1) (.bool g) (.slice p n c) (.slice px (dig B32 1).length cx) (.int .i64 e)
  have hz := hs1.size
  exact ⟨px, cx, rfl, (hox.only hO (fun h => by have := (hox.blk_lt h).1; omega)).mono (by omega), (hs1.drew.trans (hbx.mono hz)).trans (hO.below (by omega))⟩

set_option maxHeartbeats 8000000 in
set_option maxRecDepth 100000 in
theorem gkeeps_any (s : Bool) (p : Option Addr) (c : Nat) (e : Int) (m : Nat) (g : Gd) (w : World) (hp : Rd w .u32 p (dig B32 m)) (hl : (dig B32 m).length ≤ 100000) (he : -1000000 ≤ e ∧ e ≤ 1000000) (G : GoodG g) :
    Calls Tryd.prog 36 #[.agg #[.bool s, .slice p (dig B32 m).length c, .int .i64 e], .agg #[.int .i64 g.rad, .int .i64 g.digs, .int .i64 g.lo, .int .i64 g.hi, .bool g.grad]] w fun en w' => en = .returned (.bool (keepsD ⟨s, m, e⟩ g)) ∧ Below w.heap.size w w' := by
  by_cases h0 : m = 0
  · have hk : keepsD ⟨s, m, e⟩ g = true := by unfold keepsD; rw [if_pos h0]
    have HS := Lib.hid (show dSign ⟨s, m, e⟩ = 0 by unfold dSign; rw [if_pos h0])
    rw [hk]
    clear hk h0
    go_enter Tryd.func36, Tryd.ntmps36
    go_wp2_with fail
    refine calls_lay2 (fun W1 hb1 hz1 A B => ?_)
    have hs1 := hb1
    ((with_reducible refine (signD_any s p _ c e m _ rfl).mono ?_))
    rintro e2 w2 ⟨rfl, hb2⟩
    rw [HS.out]
    go_wp2
    go_ret
    exact ⟨rfl, hs1.trans (hb2.mono hs1.size)⟩
  · have hsg := dSign_pos (g := s) (e := e) (show 0 < m by omega)
    have wp := wid_pos g
    have hd1 := G.d1
    have hK := isK_one (show 0 < m by omega) e (w := wid g) (D := g.digs.toNat) wp.1 (by omega)
    have hl1 : (dig B32 1).length ≤ 1 := by rw [dig_len_le B32_two]; unfold B32; omega
    have HF := fun W q d (h1 : Rd W .u32 p (dig B32 m)) (h2 : Rd W .u32 q (dig B32 1)) => Lib.hid (fit_any s p q c d m 1 e g 3 _ W h1 h2 hl (by omega) (by omega) (by omega) he G (by omega) (by omega) hK)
    have hkk : keepsD ⟨s, m, e⟩ g = ((fitK s m 1 e g 3 ((e + blen m - 1) / wid g - g.digs.toNat + 1)).exact && !(fitK s m 1 e g 3 ((e + blen m - 1) / wid g - g.digs.toNat + 1)).over && (!(fitK s m 1 e g 3 ((e + blen m - 1) / wid g - g.digs.toNat + 1)).under || g.grad)) := by
      unfold keepsD
      rw [if_neg h0]
      rfl
    rw [hkk]
    generalize fitK s m 1 e g 3 ((e + blen m - 1) / wid g - g.digs.toNat + 1) = pf at *
    clear hkk h0 hK hd1 wp
    generalize hds : dSign ⟨s, m, e⟩ = sg0 at *
    have HSG := Lib.hid hds
    clear hds
    go_enter Tryd.func36, Tryd.ntmps36
    go_wp2_with fail
    refine calls_lay2 (fun W1 hb1 hz1 A B => ?_)
    replace hp := hp.past hb1
    have hs1 := hb1
    ((with_reducible refine (signD_any s p _ c e m _ rfl).mono ?_))
    rintro e2 w2 ⟨rfl, hb2⟩
    rw [HSG.out]
    replace A := A.past hb2
    replace B := B.past hb2
    replace hp := hp.past hb2
    have hs2 := hs1.trans (hb2.mono hs1.size)
    go_wp2_with fail
    have hAl := A.lt
    have hBl := B.lt
    have hzd : w2.drew.heap.size = w2.heap.size := rfl
    have HZD := Lib.hid hzd
    clear hzd
    go_cut [5] (fun s5 wx => ∃ (kx : Nat) (px : Option Addr) (cx : Nat), s5 = .pointer (some ⟨kx, 0, none⟩) ∧ Bx wx kx #[.bool pf.neg, .slice px (dig B32 pf.d).length cx, .int .i64 pf.pow, .bool pf.exact, .bool pf.over, .bool pf.under] ∧ w2.heap.size ≤ kx ∧ Below w2.heap.size w2 wx)
    case first =>
      go_region_held3 (fun w' => (w'.cell? ⟨w.heap.size, 0, none⟩ = some (.bool s) ∧ w'.cell? ⟨w.heap.size, 1, none⟩ = some (.slice p (dig B32 m).length c) ∧ w'.cell? ⟨w.heap.size, 2, none⟩ = some (.int .i64 e)) ∧
          (w'.cell? ⟨w.heap.size + 1, 0, none⟩ = some (.int .i64 g.rad) ∧ w'.cell? ⟨w.heap.size + 1, 1, none⟩ = some (.int .i64 g.digs) ∧ w'.cell? ⟨w.heap.size + 1, 2, none⟩ = some (.int .i64 g.lo) ∧ w'.cell? ⟨w.heap.size + 1, 3, none⟩ = some (.int .i64 g.hi) ∧ w'.cell? ⟨w.heap.size + 1, 4, none⟩ = some (.bool g.grad)))
        (first
        | with_reducible exact ⟨A.e3, B.e5⟩
        | with_reducible exact ⟨(A.drew).e3, (B.drew).e5⟩
        | with_reducible exact ⟨((A.laid _).drew).e3, ((B.laid _).drew).e5⟩
        | with_reducible exact ⟨(((A.laid _).drew).past hbx).e3, (((B.laid _).drew).past hbx).e5⟩
        | with_reducible exact ⟨((A.drew).past hbx).e3, ((B.drew).past hbx).e5⟩
        | with_reducible exact ⟨(((A.drew).past hbx).laid _).e3, (((B.drew).past hbx).laid _).e5⟩
        | with_reducible exact ⟨((((A.laid _).drew).past hbx).past hby).e3, ((((B.laid _).drew).past hbx).past hby).e5⟩
        | with_reducible exact ⟨((((A.drew).past hbx).laid _).past hby).e3, ((((B.drew).past hbx).laid _).past hby).e5⟩
        | with_reducible exact ⟨(((A.drew).past hbx).past hby).e3, (((B.drew).past hbx).past hby).e5⟩
        | with_reducible exact ⟨((((A.drew).past hbx).past hby).laid _).e3, ((((B.drew).past hbx).past hby).laid _).e5⟩
        | with_reducible exact ⟨(((((A.laid _).drew).past hbx).past hby).only (only6 _ _ _ _ _ _ _ _) (by omega)).e3, (((((B.laid _).drew).past hbx).past hby).only (only6 _ _ _ _ _ _ _ _) (by omega)).e5⟩
        | with_reducible exact ⟨(((((A.drew).past hbx).laid _).past hby).only (only6 _ _ _ _ _ _ _ _) (by omega)).e3, (((((B.drew).past hbx).laid _).past hby).only (only6 _ _ _ _ _ _ _ _) (by omega)).e5⟩)
        (first
          | (go_at_call 62; ((with_reducible refine (gratio_any s p _ c e _).mono ?_)); rintro ex wx ⟨qx, dx, rfl, hox, hbx⟩; (have hzx : w2.heap.size ≤ wx.heap.size := by have := hbx.size; simp at this; omega))
          | (go_at_call 49; (first
              | with_reducible refine (HF _ qx dx (hp.drew.past hbx) hox.rd).out.mono ?_
              | with_reducible refine (HF _ qx dx ((hp.laid _).drew.past hbx) hox.rd).out.mono ?_
              | with_reducible refine (HF _ qx dx ((hp.drew.past hbx).laid _) (hox.rd.laid _)).out.mono ?_); rintro ey wy ⟨py, cy, rfl, hoy, hby⟩; (first
              | (have XX := (bx_new w2 #[.bool false, .slice none 0 0, .int .i64 0, .bool false, .bool false, .bool false] 61).drew.past hbx |>.past hby; obtain ⟨X_0, X_1, X_2, X_3, X_4, X_5⟩ := XX.e6; have X_f0 := XX.f 0; have X_f1 := XX.f 1; have X_f2 := XX.f 2; have X_f3 := XX.f 3; have X_f4 := XX.f 4; have X_f5 := XX.f 5)
              | (have XX := (bx_new wx #[.bool false, .slice none 0 0, .int .i64 0, .bool false, .bool false, .bool false] 61).past hby; obtain ⟨X_0, X_1, X_2, X_3, X_4, X_5⟩ := XX.e6; have X_f0 := XX.f 0; have X_f1 := XX.f 1; have X_f2 := XX.f 2; have X_f3 := XX.f 3; have X_f4 := XX.f 4; have X_f5 := XX.f 5)
              | skip)))
      all_goals (go_wp2_with fail)
      all_goals go_meet
      · have hzy := hby.size
        exact ⟨wy.heap.size, py, cy, rfl, bx_new wy _ _, by omega, (((Below.refl w2.heap.size w2).drew.trans hbx).trans (hby.mono hzx)).trans ((below_lay1 wy _).mono (by omega))⟩
      · have hzy := hby.size
        rw [World.size_alloc] at hzy
        have hO := only6 wy wx.heap.size (.bool pf.neg) (.slice py (dig B32 pf.d).length cy) (.int .i64 pf.pow) (.bool pf.exact) (.bool pf.over) (.bool pf.under)
        exact ⟨wx.heap.size, py, cy, rfl, XX.put6 _ _ _ _ _ _, hzx, ((((Below.refl w2.heap.size w2).drew.trans hbx).trans ((below_lay1 wx _).mono hzx)).trans (hby.mono (by rw [World.size_alloc]; omega))).trans (hO.below hzx)⟩
      · have hzy := hby.size
        have hO := only6 wy w2.heap.size (.bool pf.neg) (.slice py (dig B32 pf.d).length cy) (.int .i64 pf.pow) (.bool pf.exact) (.bool pf.over) (.bool pf.under)
        exact ⟨w2.heap.size, py, cy, rfl, XX.put6 _ _ _ _ _ _, Nat.le_refl _, ((((below_lay1 w2 _).drew).trans (hbx.mono (by simp))).trans (hby.mono hzx)).trans (hO.below (Nat.le_refl _))⟩
    case rest =>
      obtain ⟨kx, px, cx, rfl, X, hkx, hbc⟩ := hcut
      have hs4 := hs2.trans (hbc.mono hs2.size)
      replace B := B.past hbc
      clear hbc
      obtain ⟨png, pd, ppw, pex, pov, pun⟩ := pf
      obtain ⟨X_0, X_1, X_2, X_3, X_4, X_5⟩ := X.e6
      obtain ⟨B_0, B_1, B_2, B_3, B_4⟩ := B.e5
      simp only at X_3 X_4 X_5 ⊢
      clear HF
      generalize hgr : g.grad = gr at *
      have HGR := Lib.hid hgr
      clear hgr
      cases pex <;> cases pov <;> cases pun <;> cases gr <;> (go_wp2; go_ret; exact ⟨by first | rfl | (rw [HGR.out]; rfl), hs4⟩)

end Go.Proofs.YtlegnbigddhmlaaDoor

namespace Go.Proofs.YtlegnbigddhmlaaDoor
open Go.RowKit Go.Slip

/-- What is wrong with a number, and a grid. -/
def errOn (a : Din) (g : Gd) : Int := if errDy a = 0 then errG g else errDy a

set_option maxHeartbeats 2000000 in
theorem gcheck_any (a : Din) (g : Gd) (w : World) (ha : InD w a) :
    Calls Tryd.prog 35 #[.agg #[.bool a.g, .slice a.p a.xs.length a.c, .int .i64 a.e], .agg #[.int .i64 g.rad, .int .i64 g.digs, .int .i64 g.lo, .int .i64 g.hi, .bool g.grad]] w fun en w' => en = .returned (.int .i64 (errOn a g)) ∧ Below w.heap.size w w' := by
  have HC := fun W (h : InD W a) => Lib.hid (dyCheckOne_any a W h.rd h.len)
  have HG := fun W => Lib.hid (gridCheck_any g W)
  unfold errOn
  obtain ⟨e1, he1⟩ : ∃ e1, errDy a = e1 := ⟨_, rfl⟩
  obtain ⟨e2, he2⟩ : ∃ e2, errG g = e2 := ⟨_, rfl⟩
  rw [he1] at HC ⊢
  rw [he2] at HG ⊢
  clear he1 he2
  by_cases h1 : e1 = 0
  · subst h1
    rw [if_pos rfl]
    go_enter Tryd.func35, Tryd.ntmps35
    go_wp2_with fail
    refine calls_lay2 (fun W1 hb1 hz1 A B => ?_)
    replace ha := ha.past hb1
    have hs1 := hb1
    ((with_reducible refine ((HC _ ha).out).mono ?_))
    rintro e2 w2 ⟨rfl, hb2⟩
    replace A := A.past hb2
    replace B := B.past hb2
    replace ha := ha.past hb2
    have hs2 := hs1.trans (hb2.mono hs1.size)
    obtain ⟨B_0, B_1, B_2, B_3, B_4⟩ := B.e5
    go_wp2_with fail
    clear B_0 B_1 B_2 B_3 B_4
    ((with_reducible refine ((HG _).out).mono ?_))
    rintro e3 w3 ⟨rfl, hb3⟩
    replace A := A.past hb3
    replace B := B.past hb3
    replace ha := ha.past hb3
    have hs3 := hs2.trans (hb3.mono hs2.size)
    go_wp2
    go_ret
    exact ⟨rfl, hs3⟩
  · have t1 : (e1 == 0) = false := beq_eq_false_iff_ne.2 h1
    have t2 : (e1 != 0) = true := by rw [bne, t1]; rfl
    rw [if_neg h1]
    clear h1
    go_enter Tryd.func35, Tryd.ntmps35
    go_wp2_with fail
    refine calls_lay2 (fun W1 hb1 hz1 A B => ?_)
    replace ha := ha.past hb1
    have hs1 := hb1
    ((with_reducible refine ((HC _ ha).out).mono ?_))
    rintro e2 w2 ⟨rfl, hb2⟩
    replace A := A.past hb2
    replace B := B.past hb2
    replace ha := ha.past hb2
    have hs2 := hs1.trans (hb2.mono hs1.size)
    go_wp2
    go_ret
    exact ⟨rfl, hs2⟩

set_option maxHeartbeats 2000000 in
theorem onGrid_any (a : Din) (g : Gd) (w : World) (ha : InD w a) :
    Calls Tryd.prog 19 #[.agg #[.bool a.g, .slice a.p a.xs.length a.c, .int .i64 a.e], .agg #[.int .i64 g.rad, .int .i64 g.digs, .int .i64 g.lo, .int .i64 g.hi, .bool g.grad]] w fun en w' => en = .returned (.int .i64 (errOn a g)) ∧ Below w.heap.size w w' := by
  have HC := fun W (h : InD W a) => Lib.hid (refCheckDyad_any a W h.rd h.len)
  have HG := fun W => Lib.hid (refCheckGrid_any g W)
  unfold errOn
  obtain ⟨e1, he1⟩ : ∃ e1, errDy a = e1 := ⟨_, rfl⟩
  obtain ⟨e2, he2⟩ : ∃ e2, errG g = e2 := ⟨_, rfl⟩
  rw [he1] at HC ⊢
  rw [he2] at HG ⊢
  clear he1 he2
  by_cases h1 : e1 = 0
  · subst h1
    rw [if_pos rfl]
    go_enter Tryd.func19, Tryd.ntmps19
    go_wp2_with fail
    refine calls_lay2 (fun W1 hb1 hz1 A B => ?_)
    replace ha := ha.past hb1
    have hs1 := hb1
    ((with_reducible refine ((HC _ ha).out).mono ?_))
    rintro e2 w2 ⟨rfl, hb2⟩
    replace A := A.past hb2
    replace B := B.past hb2
    replace ha := ha.past hb2
    have hs2 := hs1.trans (hb2.mono hs1.size)
    obtain ⟨B_0, B_1, B_2, B_3, B_4⟩ := B.e5
    go_wp2_with fail
    clear B_0 B_1 B_2 B_3 B_4
    ((with_reducible refine ((HG _).out).mono ?_))
    rintro e3 w3 ⟨rfl, hb3⟩
    replace A := A.past hb3
    replace B := B.past hb3
    replace ha := ha.past hb3
    have hs3 := hs2.trans (hb3.mono hs2.size)
    go_wp2
    go_ret
    exact ⟨rfl, hs3⟩
  · have t1 : (e1 == 0) = false := beq_eq_false_iff_ne.2 h1
    have t2 : (e1 != 0) = true := by rw [bne, t1]; rfl
    rw [if_neg h1]
    clear h1
    go_enter Tryd.func19, Tryd.ntmps19
    go_wp2_with fail
    refine calls_lay2 (fun W1 hb1 hz1 A B => ?_)
    replace ha := ha.past hb1
    have hs1 := hb1
    ((with_reducible refine ((HC _ ha).out).mono ?_))
    rintro e2 w2 ⟨rfl, hb2⟩
    replace A := A.past hb2
    replace B := B.past hb2
    replace ha := ha.past hb2
    have hs2 := hs1.trans (hb2.mono hs1.size)
    go_wp2
    go_ret
    exact ⟨rfl, hs2⟩

theorem errOn_ok {a : Din} {g : Gd} (h : errOn a g = 0) : errDy a = 0 ∧ errG g = 0 := by
  unfold errOn at h
  by_cases h1 : errDy a = 0
  · rw [if_pos h1] at h; exact ⟨h1, h⟩
  · rw [if_neg h1] at h; exact absurd h h1

/-- What Holds answers. -/
def holdsB (a : Din) (g : Gd) : Bool := decide (errOn a g = 0) && keepsD (dyV a) g

set_option maxHeartbeats 4000000 in
set_option maxRecDepth 100000 in
theorem holds_any (a : Din) (g : Gd) (w : World) (ha : InD w a) (hT : TabW w) :
    Calls Tryd.prog 14 #[.agg #[.bool a.g, .slice a.p a.xs.length a.c, .int .i64 a.e], .agg #[.int .i64 g.rad, .int .i64 g.digs, .int .i64 g.lo, .int .i64 g.hi, .bool g.grad]] w fun en w' => en = .returned (.tuple #[.bool (holdsB a g), .int .i64 (errOn a g)]) ∧ Below w.heap.size w w' := by
  have HC := fun W h => Lib.hid (gcheck_any a g W h)
  unfold holdsB
  by_cases h0 : errOn a g = 0
  · obtain ⟨hd0, hg0⟩ := errOn_ok h0
    obtain ⟨hla, hea, hea2⟩ := dyV_bd ha hd0
    obtain ⟨ma, exa, eva, la, e1a, e2a⟩ := ha.ok hd0
    have HVA := Lib.hid (show bare ⟨a.g, ma, a.e⟩ = dyV a by unfold dyV; rw [eva])
    have hca := ha.cap
    have HO := fun W (h : InD W a) hT => Lib.hid (ofD_any a.g a.p a.xs.length a.c a.e ma W (by rw [← exa]; exact h.rd) (by rw [exa]) hca (by omega) (by omega) hT)
    rw [HVA.out] at HO
    have hk : keepsD (dyV a) g = keepsD ⟨(dyV a).neg, (dyV a).m, (dyV a).e⟩ g := rfl
    rw [h0] at HC ⊢
    rw [hk, decide_eq_true rfl, Bool.true_and]
    generalize dyV a = va at *
    have HK := fun W p c (h : Rd W .u32 p (dig B32 va.m)) => Lib.hid (gkeeps_any va.neg p c va.e va.m g W h (by omega) (by omega) (goodG_of hg0))
    generalize keepsD ⟨va.neg, va.m, va.e⟩ g = kb at *
    clear h0 hd0 hg0 exa eva hk
    go_enter Tryd.func14, Tryd.ntmps14
    go_wp2_with fail
    refine calls_lay2 (fun W1 hb1 hz1 A B => ?_)
    replace ha := ha.past hb1
    replace hT := hT.past hb1
    have hs1 := hb1
    ((with_reducible refine ((HC _ ha).out).mono ?_))
    rintro e2 w2 ⟨rfl, hb2⟩
    replace A := A.past hb2
    replace B := B.past hb2
    replace ha := ha.past hb2
    replace hT := hT.past hb2
    have hs2 := hs1.trans (hb2.mono hs1.size)
    go_wp2_with fail
    go_region_held3 (fun w' => (w'.cell? ⟨w.heap.size, 0, none⟩ = some (.bool a.g) ∧ w'.cell? ⟨w.heap.size, 1, none⟩ = some (.slice a.p a.xs.length a.c) ∧ w'.cell? ⟨w.heap.size, 2, none⟩ = some (.int .i64 a.e)) ∧
        (w'.cell? ⟨w.heap.size + 1, 0, none⟩ = some (.int .i64 g.rad) ∧ w'.cell? ⟨w.heap.size + 1, 1, none⟩ = some (.int .i64 g.digs) ∧ w'.cell? ⟨w.heap.size + 1, 2, none⟩ = some (.int .i64 g.lo) ∧ w'.cell? ⟨w.heap.size + 1, 3, none⟩ = some (.int .i64 g.hi) ∧ w'.cell? ⟨w.heap.size + 1, 4, none⟩ = some (.bool g.grad)))
      (first
      | with_reducible exact ⟨A.e3, B.e5⟩
      | with_reducible exact ⟨A.drew.e3, B.drew.e5⟩
      | with_reducible exact ⟨(A.drew.past hbx).e3, (B.drew.past hbx).e5⟩
      | with_reducible exact ⟨((A.drew.past hbx).past hby).e3, ((B.drew.past hbx).past hby).e5⟩)
      (first
        | (go_at_call 32; ((with_reducible refine (HO _ ha.drew hT.drew).out.mono ?_)); rintro ex wx ⟨px, cx, rfl, hox, hbx⟩)
        | (go_at_call 36; ((with_reducible refine (HK _ px cx hox.rd).out.mono ?_)); rintro ey wy ⟨rfl, hby⟩))
    all_goals (go_wp2_with fail)
    refine bodyPost_ret (v := .tuple #[.bool kb, .int .i64 0]) (by simp [results, Tryd.results14, go_sem]) rfl ?_
    exact ⟨rfl, (hs2.drew.trans (hbx.mono hs2.size)).trans (hby.mono (Nat.le_trans hs2.size hbx.size))⟩
  · obtain ⟨e1, he1⟩ : ∃ e1, errOn a g = e1 := ⟨_, rfl⟩
    rw [he1] at HC h0 ⊢
    rw [decide_eq_false h0, Bool.false_and]
    have t1 : (e1 == 0) = false := beq_eq_false_iff_ne.2 h0
    have t2 : (e1 != 0) = true := by rw [bne, t1]; rfl
    clear he1 h0
    go_enter Tryd.func14, Tryd.ntmps14
    go_wp2_with fail
    refine calls_lay2 (fun W1 hb1 hz1 A B => ?_)
    replace ha := ha.past hb1
    replace hT := hT.past hb1
    have hs1 := hb1
    ((with_reducible refine ((HC _ ha).out).mono ?_))
    rintro e2 w2 ⟨rfl, hb2⟩
    replace A := A.past hb2
    replace B := B.past hb2
    replace ha := ha.past hb2
    replace hT := hT.past hb2
    have hs2 := hs1.trans (hb2.mono hs1.size)
    go_wp2
    refine bodyPost_ret (v := .tuple #[.bool false, .int .i64 e1]) (by simp [results, Tryd.results14, go_sem]) rfl ?_
    exact ⟨rfl, hs2⟩

end Go.Proofs.YtlegnbigddhmlaaDoor

namespace Go.Proofs.YtlegnbigddhmlaaDoor
open Go.RowKit Go.Slip

theorem bare_one (g : Bool) (e : Int) : bare ⟨g, 1, e⟩ = ⟨g, 1, e⟩ := by
  unfold bare
  rw [if_neg (show ¬ (1 : Nat) = 0 by omega), tz_odd (show 1 % 2 = 1 by omega)]
  simp

/-- dyad.Whole of limb.Of(1). -/
theorem whole_one (p : Option Addr) (c base : Nat) (e : Int) (w : World) (hp : Own w base .u32 46 p c (dig B32 1)) (he : -1000000000 ≤ e ∧ e ≤ 1000000000) (hT : TabW w) :
    Calls Tryd.prog 50 #[.slice p (dig B32 1).length c, .int .i64 e] w (GivesD w w.heap.size (oneD e)) := by
  have h := wholeD_any p _ c e 1 w hp.rd rfl hp.le_cap (by rw [dig_len_le B32_two]; unfold B32; omega) he hT
  rw [bare_one] at h
  exact h


set_option maxHeartbeats 4000000 in
set_option maxRecDepth 100000 in
theorem gleast_any (g : Gd) (w : World) (G : GoodG g) (hT : TabW w) :
    Calls Tryd.prog 63 #[.agg #[.int .i64 g.rad, .int .i64 g.digs, .int .i64 g.lo, .int .i64 g.hi, .bool g.grad]] w (GivesD w w.heap.size (leastD g)) := by
  obtain ⟨_, gd1, gd2, gl1, gl2, gh1, gh2, gle⟩ := G
  have wp := wid_pos g
  have HWD := fun W => Lib.hid (width_any g W)
  unfold leastD
  obtain ⟨rad, digs, lo, hi, grad⟩ := g
  simp only at *
  generalize wid ⟨rad, digs, lo, hi, grad⟩ = wd at *
  have hlo := mul_bd (k := lo) wp.2 (B := 17000) ⟨by omega, by omega⟩
  have hdg := mul_bd (k := digs - 1) wp.2 (B := 200) ⟨by omega, by omega⟩
  have hes : (wd : Int) * (lo + (digs - 1)) = wd * lo + wd * (digs - 1) := Int.mul_add _ _ _
  have e0 : IntKind.i64.wrap ((wd : Int) * lo) = (wd : Int) * lo := IntWalk.i64_in _ (by omega)
  have HES := Lib.hid hes
  clear hes
  obtain ⟨E, hE0⟩ : ∃ E, (wd : Int) * (lo + if grad = true then 0 else digs - 1) = E := ⟨_, rfl⟩
  rw [hE0]
  have HE := Lib.hid hE0
  clear hE0
  go_enter Tryd.func63, Tryd.ntmps63
  go_wp2_with fail
  refine wp_lay2 (fun W1 hb1 hz1 G R => ?_)
  replace hT := hT.past hb1
  have hs1 := hb1
  have hGlt := G.lt
  go_region_held3 (fun w' => (w'.cell? ⟨w.heap.size, 0, none⟩ = some (.int .i64 rad) ∧ w'.cell? ⟨w.heap.size, 1, none⟩ = some (.int .i64 digs) ∧ w'.cell? ⟨w.heap.size, 2, none⟩ = some (.int .i64 lo) ∧ w'.cell? ⟨w.heap.size, 3, none⟩ = some (.int .i64 hi) ∧ w'.cell? ⟨w.heap.size, 4, none⟩ = some (.bool grad)))
    (first
    | with_reducible exact G.e5
    | with_reducible exact G.drew.e5
    | with_reducible exact (G.drew.past hbx).e5)
    (first
      | (go_at_call 51; ((with_reducible refine (HWD _).out.mono ?_)); rintro ex wx ⟨rfl, hbx⟩))
  have hs2 := hs1.drew.trans (hbx.mono hs1.size)
  replace G := G.drew.past hbx
  replace R := R.drew.past hbx
  replace hT := hT.drew.past hbx
  clear e0
  cases grad
  · have e1 : IntKind.i64.wrap (digs - 1) = digs - 1 := IntWalk.i64_in _ (by omega)
    have e2 : IntKind.i64.wrap ((wd : Int) * (digs - 1)) = (wd : Int) * (digs - 1) := IntWalk.i64_in _ (by omega)
    have e3 : IntKind.i64.wrap ((wd : Int) * lo + (wd : Int) * (digs - 1)) = E := by rw [← HE.out, if_neg (by simp), HES.out]; exact IntWalk.i64_in _ (by omega)
    have hEb : -1000000000 ≤ E ∧ E ≤ 1000000000 := by rw [← HE.out, if_neg (by simp), HES.out]; omega
    obtain ⟨G_0, G_1, G_2, G_3, G_4⟩ := G.e5
    go_wp2_with fail
    clear G_0 G_1 G_2 G_3 G_4
    go_region_held3 (fun w' => (w'.cell? ⟨w.heap.size, 0, none⟩ = some (.int .i64 rad) ∧ w'.cell? ⟨w.heap.size, 1, none⟩ = some (.int .i64 digs) ∧ w'.cell? ⟨w.heap.size, 2, none⟩ = some (.int .i64 lo) ∧ w'.cell? ⟨w.heap.size, 3, none⟩ = some (.int .i64 hi) ∧ w'.cell? ⟨w.heap.size, 4, none⟩ = some (.bool false)))
      (first
      | with_reducible exact G.e5
      | with_reducible exact G.drew.e5
      | with_reducible exact (G.drew.past hby).e5)
      (first
        | (go_at_call 51; ((with_reducible refine (HWD _).out.mono ?_)); rintro ey wy ⟨rfl, hby⟩))
    have hsz := hs2.drew.trans (hby.mono hs2.size)
    replace R := R.drew.past hby
    replace hT := hT.drew.past hby
    clear e1 e2 e3
    have HRL : Hid (w.heap.size + 1 < wy.heap.size) := R.lt
    go_wp2_with fail
    ((with_reducible refine (gof_one _).mono ?_))
    rintro e7 w7 ⟨p7, c7, rfl, ho7, hb7⟩
    have hs7 := hsz.trans (hb7.mono hsz.size)
    replace R := R.past hb7
    replace hT := hT.past hb7
    go_wp2_with fail
    ((with_reducible refine (whole_one p7 c7 _ E _ ho7 (by omega) hT).mono ?_))
    unfold oneD
    rintro e8 w8 ⟨p8, c8, rfl, ho8, hb8⟩
    have hs8 := hs7.trans (hb8.mono hs7.size)
    replace R := R.past hb8
    obtain ⟨R_0, R_1, R_2⟩ := R.e3
    have R_f0 := R.f 0
    have R_f1 := R.f 1
    have R_f2 := R.f 2
    go_wp2_with fail
    clear R_0 R_1 R_2 R_f0 R_f1 R_f2
    obtain ⟨R_0, R_1, R_2⟩ := R.e3
    have hz := hs1.size
    refine bodyPost_ret (v := .agg #[.bool false, .slice p8 (dig B32 1).length c8, .int .i64 (E)]) (by simp [results, Tryd.results63, go_sem, R_0, R_1, R_2]) rfl ?_
    exact givesD_close (d := ⟨false, 1, E⟩) hs8 ho8 (by have := hs7.size; omega) (by omega) (fun h => by have := (ho8.blk_lt h).1; have := hb7.size; have := HRL.out; omega)
  · have hsz := hs2
    have HRL : Hid (w.heap.size + 1 < wx.heap.size) := R.lt
    have e4 : (wd : Int) * lo = E := by rw [← HE.out, if_pos rfl, Int.add_zero]
    have hEb : -1000000000 ≤ E ∧ E ≤ 1000000000 := by rw [← e4]; omega
    rw [e4]
    clear e4
    obtain ⟨G_0, G_1, G_2, G_3, G_4⟩ := G.e5
    go_wp2_with fail
    clear G_0 G_1 G_2 G_3 G_4
    ((with_reducible refine (gof_one _).mono ?_))
    rintro e7 w7 ⟨p7, c7, rfl, ho7, hb7⟩
    have hs7 := hsz.trans (hb7.mono hsz.size)
    replace R := R.past hb7
    replace hT := hT.past hb7
    go_wp2_with fail
    ((with_reducible refine (whole_one p7 c7 _ E _ ho7 (by omega) hT).mono ?_))
    unfold oneD
    rintro e8 w8 ⟨p8, c8, rfl, ho8, hb8⟩
    have hs8 := hs7.trans (hb8.mono hs7.size)
    replace R := R.past hb8
    obtain ⟨R_0, R_1, R_2⟩ := R.e3
    have R_f0 := R.f 0
    have R_f1 := R.f 1
    have R_f2 := R.f 2
    go_wp2_with fail
    clear R_0 R_1 R_2 R_f0 R_f1 R_f2
    obtain ⟨R_0, R_1, R_2⟩ := R.e3
    have hz := hs1.size
    refine bodyPost_ret (v := .agg #[.bool false, .slice p8 (dig B32 1).length c8, .int .i64 (E)]) (by simp [results, Tryd.results63, go_sem, R_0, R_1, R_2]) rfl ?_
    exact givesD_close (d := ⟨false, 1, E⟩) hs8 ho8 (by have := hs7.size; omega) (by omega) (fun h => by have := (ho8.blk_lt h).1; have := hb7.size; have := HRL.out; omega)

end Go.Proofs.YtlegnbigddhmlaaDoor
