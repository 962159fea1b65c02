/- grid: ratio, Keeps, check, Holds. -/
import Derived.Test.YtpdmajoofllhdaaDoorZGd7
import Derived.Test.YtpdmajoofllhdaaDoorZA
namespace Go.Proofs.YtpdmajoofllhdaaDoor
open Go.RowKit Go.Slip

set_option maxHeartbeats 2000000 in
set_option maxRecDepth 100000 in
theorem gratio_any (g : Bool) (p : Option Addr) (n c : Nat) (e : Int) (w : World) :
    Calls Tryd.prog 61 #[.agg #[.bool g, .slice p n c, .int .i64 e]] w fun en w' => ∃ q d, en = .returned (.agg #[.bool g, .slice p n c, .slice q (dig B32 1).length d, .int .i64 e]) ∧ Own w' w.heap.size .u32 59 q d (dig B32 1) ∧ Below w.heap.size w w' := by
  go_enter Tryd.func61, Tryd.ntmps61
  go_wp2_with fail
  refine wp_lay2 (fun W1 hb1 hz1 A R => ?_)
  have hs1 := hb1
  have hzd : W1.drew.heap.size = W1.heap.size := rfl
  have HZD := Lib.hid hzd
  clear hzd
  go_region_held3 (fun w' => w'.cell? ⟨w.heap.size, 0, none⟩ = some (.bool g) ∧ w'.cell? ⟨w.heap.size, 1, none⟩ = some (.slice p n c) ∧ w'.cell? ⟨w.heap.size, 2, none⟩ = some (.int .i64 e))
    (first
      | with_reducible exact A.e3
      | with_reducible exact A.drew.e3
      | with_reducible exact (A.drew.past hbx).e3
      | with_reducible exact ((A.drew.past hbx).only (only4 _ _ _ _ _ _) (by omega)).e3)
    (first
      | (go_at_call 70; ((with_reducible refine (gof_one _).mono ?_)); rintro ex wx ⟨px, cx, rfl, hox, hbx⟩; (have RR := R.drew.past hbx); obtain ⟨R_0, R_1, R_2, R_3⟩ := RR.e4; (have R_f0 := RR.f 0); (have R_f1 := RR.f 1); (have R_f2 := RR.f 2); (have R_f3 := RR.f 3)))
  all_goals (go_wp2_with fail)
  refine bodyPost_ret (v := .agg #[.bool g, .slice p n c, .slice px (dig B32 1).length cx, .int .i64 e]) (by simp [results, Tryd.results61, go_sem, R_0, R_1, R_2, R_3]) rfl ?_
  have hzd := HZD.out
  have hO := only4 wx (w.heap.size + 1) (.bool g) (.slice p n c) (.slice px (dig B32 1).length cx) (.int .i64 e)
  have hz := hs1.size
  exact ⟨px, cx, rfl, (hox.only hO (fun h => by have := (hox.blk_lt h).1; omega)).mono (by omega), (hs1.drew.trans (hbx.mono hz)).trans (hO.below (by omega))⟩

set_option maxHeartbeats 8000000 in
set_option maxRecDepth 100000 in
theorem gkeeps_any (s : Bool) (p : Option Addr) (c : Nat) (e : Int) (m : Nat) (g : Gd) (w : World) (hp : Rd w .u32 p (dig B32 m)) (hl : (dig B32 m).length ≤ 100000) (he : -1000000 ≤ e ∧ e ≤ 1000000) (G : GoodG g) :
    Calls Tryd.prog 45 #[.agg #[.bool s, .slice p (dig B32 m).length c, .int .i64 e], .agg #[.int .i64 g.rad, .int .i64 g.digs, .int .i64 g.lo, .int .i64 g.hi, .bool g.grad]] w fun en w' => en = .returned (.bool (keepsD ⟨s, m, e⟩ g)) ∧ Below w.heap.size w w' := by
  by_cases h0 : m = 0
  · have hk : keepsD ⟨s, m, e⟩ g = true := by unfold keepsD; rw [if_pos h0]
    have HS := Lib.hid (show dSign ⟨s, m, e⟩ = 0 by unfold dSign; rw [if_pos h0])
    rw [hk]
    clear hk h0
    go_enter Tryd.func45, Tryd.ntmps45
    go_wp2_with fail
    refine calls_lay2 (fun W1 hb1 hz1 A B => ?_)
    have hs1 := hb1
    ((with_reducible refine (signD_any s p _ c e m _ rfl).mono ?_))
    rintro e2 w2 ⟨rfl, hb2⟩
    rw [HS.out]
    go_wp2
    go_ret
    exact ⟨rfl, hs1.trans (hb2.mono hs1.size)⟩
  · have hsg := dSign_pos (g := s) (e := e) (show 0 < m by omega)
    have wp := wid_pos g
    have hd1 := G.d1
    have hK := isK_one (show 0 < m by omega) e (w := wid g) (D := g.digs.toNat) wp.1 (by omega)
    have hl1 : (dig B32 1).length ≤ 1 := by rw [dig_len_le B32_two]; unfold B32; omega
    have HF := fun W q d (h1 : Rd W .u32 p (dig B32 m)) (h2 : Rd W .u32 q (dig B32 1)) => Lib.hid (fit_any s p q c d m 1 e g 3 _ W h1 h2 hl (by omega) (by omega) (by omega) he G (by omega) (by omega) hK)
    have hkk : keepsD ⟨s, m, e⟩ g = ((fitK s m 1 e g 3 ((e + blen m - 1) / wid g - g.digs.toNat + 1)).exact && !(fitK s m 1 e g 3 ((e + blen m - 1) / wid g - g.digs.toNat + 1)).over && (!(fitK s m 1 e g 3 ((e + blen m - 1) / wid g - g.digs.toNat + 1)).under || g.grad)) := by
      unfold keepsD
      rw [if_neg h0]
      rfl
    rw [hkk]
    generalize fitK s m 1 e g 3 ((e + blen m - 1) / wid g - g.digs.toNat + 1) = pf at *
    clear hkk h0 hK hd1 wp
    generalize hds : dSign ⟨s, m, e⟩ = sg0 at *
    have HSG := Lib.hid hds
    clear hds
    go_enter Tryd.func45, Tryd.ntmps45
    go_wp2_with fail
    refine calls_lay2 (fun W1 hb1 hz1 A B => ?_)
    replace hp := hp.past hb1
    have hs1 := hb1
    ((with_reducible refine (signD_any s p _ c e m _ rfl).mono ?_))
    rintro e2 w2 ⟨rfl, hb2⟩
    rw [HSG.out]
    replace A := A.past hb2
    replace B := B.past hb2
    replace hp := hp.past hb2
    have hs2 := hs1.trans (hb2.mono hs1.size)
    go_wp2_with fail
    have hAl := A.lt
    have hBl := B.lt
    have hzd : w2.drew.heap.size = w2.heap.size := rfl
    have HZD := Lib.hid hzd
    clear hzd
    go_cut [5] (fun s5 wx => ∃ (kx : Nat) (px : Option Addr) (cx : Nat), s5 = .pointer (some ⟨kx, 0, none⟩) ∧ Bx wx kx #[.bool pf.neg, .slice px (dig B32 pf.d).length cx, .int .i64 pf.pow, .bool pf.exact, .bool pf.over, .bool pf.under] ∧ w2.heap.size ≤ kx ∧ Below w2.heap.size w2 wx)
    case first =>
      go_region_held3 (fun w' => (w'.cell? ⟨w.heap.size, 0, none⟩ = some (.bool s) ∧ w'.cell? ⟨w.heap.size, 1, none⟩ = some (.slice p (dig B32 m).length c) ∧ w'.cell? ⟨w.heap.size, 2, none⟩ = some (.int .i64 e)) ∧
          (w'.cell? ⟨w.heap.size + 1, 0, none⟩ = some (.int .i64 g.rad) ∧ w'.cell? ⟨w.heap.size + 1, 1, none⟩ = some (.int .i64 g.digs) ∧ w'.cell? ⟨w.heap.size + 1, 2, none⟩ = some (.int .i64 g.lo) ∧ w'.cell? ⟨w.heap.size + 1, 3, none⟩ = some (.int .i64 g.hi) ∧ w'.cell? ⟨w.heap.size + 1, 4, none⟩ = some (.bool g.grad)))
        (first
        | with_reducible exact ⟨A.e3, B.e5⟩
        | with_reducible exact ⟨(A.drew).e3, (B.drew).e5⟩
        | with_reducible exact ⟨((A.laid _).drew).e3, ((B.laid _).drew).e5⟩
        | with_reducible exact ⟨(((A.laid _).drew).past hbx).e3, (((B.laid _).drew).past hbx).e5⟩
        | with_reducible exact ⟨((A.drew).past hbx).e3, ((B.drew).past hbx).e5⟩
        | with_reducible exact ⟨(((A.drew).past hbx).laid _).e3, (((B.drew).past hbx).laid _).e5⟩
        | with_reducible exact ⟨((((A.laid _).drew).past hbx).past hby).e3, ((((B.laid _).drew).past hbx).past hby).e5⟩
        | with_reducible exact ⟨((((A.drew).past hbx).laid _).past hby).e3, ((((B.drew).past hbx).laid _).past hby).e5⟩
        | with_reducible exact ⟨(((A.drew).past hbx).past hby).e3, (((B.drew).past hbx).past hby).e5⟩
        | with_reducible exact ⟨((((A.drew).past hbx).past hby).laid _).e3, ((((B.drew).past hbx).past hby).laid _).e5⟩
        | with_reducible exact ⟨(((((A.laid _).drew).past hbx).past hby).only (only6 _ _ _ _ _ _ _ _) (by omega)).e3, (((((B.laid _).drew).past hbx).past hby).only (only6 _ _ _ _ _ _ _ _) (by omega)).e5⟩
        | with_reducible exact ⟨(((((A.drew).past hbx).laid _).past hby).only (only6 _ _ _ _ _ _ _ _) (by omega)).e3, (((((B.drew).past hbx).laid _).past hby).only (only6 _ _ _ _ _ _ _ _) (by omega)).e5⟩)
        (first
          | (go_at_call 61; ((with_reducible refine (gratio_any s p _ c e _).mono ?_)); rintro ex wx ⟨qx, dx, rfl, hox, hbx⟩; (have hzx : w2.heap.size ≤ wx.heap.size := by have := hbx.size; simp at this; omega))
          | (go_at_call 55; (first
              | with_reducible refine (HF _ qx dx (hp.drew.past hbx) hox.rd).out.mono ?_
              | with_reducible refine (HF _ qx dx ((hp.laid _).drew.past hbx) hox.rd).out.mono ?_
              | with_reducible refine (HF _ qx dx ((hp.drew.past hbx).laid _) (hox.rd.laid _)).out.mono ?_); rintro ey wy ⟨py, cy, rfl, hoy, hby⟩; (first
              | (have XX := (bx_new w2 #[.bool false, .slice none 0 0, .int .i64 0, .bool false, .bool false, .bool false] 25).drew.past hbx |>.past hby; obtain ⟨X_0, X_1, X_2, X_3, X_4, X_5⟩ := XX.e6; have X_f0 := XX.f 0; have X_f1 := XX.f 1; have X_f2 := XX.f 2; have X_f3 := XX.f 3; have X_f4 := XX.f 4; have X_f5 := XX.f 5)
              | (have XX := (bx_new wx #[.bool false, .slice none 0 0, .int .i64 0, .bool false, .bool false, .bool false] 25).past hby; obtain ⟨X_0, X_1, X_2, X_3, X_4, X_5⟩ := XX.e6; have X_f0 := XX.f 0; have X_f1 := XX.f 1; have X_f2 := XX.f 2; have X_f3 := XX.f 3; have X_f4 := XX.f 4; have X_f5 := XX.f 5)
              | skip)))
      all_goals (go_wp2_with fail)
      all_goals go_meet
      · have hzy := hby.size
        exact ⟨wy.heap.size, py, cy, rfl, bx_new wy _ _, by omega, (((Below.refl w2.heap.size w2).drew.trans hbx).trans (hby.mono hzx)).trans ((below_lay1 wy _).mono (by omega))⟩
      · have hzy := hby.size
        rw [World.size_alloc] at hzy
        have hO := only6 wy wx.heap.size (.bool pf.neg) (.slice py (dig B32 pf.d).length cy) (.int .i64 pf.pow) (.bool pf.exact) (.bool pf.over) (.bool pf.under)
        exact ⟨wx.heap.size, py, cy, rfl, XX.put6 _ _ _ _ _ _, hzx, ((((Below.refl w2.heap.size w2).drew.trans hbx).trans ((below_lay1 wx _).mono hzx)).trans (hby.mono (by rw [World.size_alloc]; omega))).trans (hO.below hzx)⟩
      · have hzy := hby.size
        have hO := only6 wy w2.heap.size (.bool pf.neg) (.slice py (dig B32 pf.d).length cy) (.int .i64 pf.pow) (.bool pf.exact) (.bool pf.over) (.bool pf.under)
        exact ⟨w2.heap.size, py, cy, rfl, XX.put6 _ _ _ _ _ _, Nat.le_refl _, ((((below_lay1 w2 _).drew).trans (hbx.mono (by simp))).trans (hby.mono hzx)).trans (hO.below (Nat.le_refl _))⟩
    case rest =>
      obtain ⟨kx, px, cx, rfl, X, hkx, hbc⟩ := hcut
      have hs4 := hs2.trans (hbc.mono hs2.size)
      replace B := B.past hbc
      clear hbc
      obtain ⟨png, pd, ppw, pex, pov, pun⟩ := pf
      obtain ⟨X_0, X_1, X_2, X_3, X_4, X_5⟩ := X.e6
      obtain ⟨B_0, B_1, B_2, B_3, B_4⟩ := B.e5
      simp only at X_3 X_4 X_5 ⊢
      clear HF
      generalize hgr : g.grad = gr at *
      have HGR := Lib.hid hgr
      clear hgr
      cases pex <;> cases pov <;> cases pun <;> cases gr <;> (go_wp2; go_ret; exact ⟨by first | rfl | (rw [HGR.out]; rfl), hs4⟩)

end Go.Proofs.YtpdmajoofllhdaaDoor
