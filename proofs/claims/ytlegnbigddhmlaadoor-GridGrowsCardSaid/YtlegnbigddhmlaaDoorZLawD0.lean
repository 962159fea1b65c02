/- The laws' helpers on dyads: 'dyadIs', 'dyadBegun'. -/
import Derived.Test.YtlegnbigddhmlaaDoorZU
namespace Go.Proofs.YtlegnbigddhmlaaDoor
open Go.RowKit Go.Slip

/-- What dyadIs asks of the heap when it has laid its boxes. -/
theorem doneD_len (d : Dv) : (dig B32 (doneD d).m).length ≤ 1200 := by
  unfold doneD
  by_cases h : errD d = 0
  · rw [if_pos h]
    unfold errD at h
    by_cases h1 : 1200 < (dig B32 d.m).length
    · rw [if_pos h1] at h; simp at h
    · omega
  · rw [if_neg h]; simp [zeroD, dig_zero]

set_option maxHeartbeats 2000000 in
theorem dyadIs_ok (r : Dv) (p q : Option Addr) (n c m d : Nat) (w : World) (hp : Rd w .u32 p (dig B32 (doneD r).m)) (hq : Rd w .i64 q (dig B16 r.m)) (hn : n = (dig B32 (doneD r).m).length) (hm : m = (dig B16 r.m).length) (hl : (dig B16 r.m).length ≤ 100000000) :
    Calls Tryd.prog 24 #[.agg #[.bool (doneD r).neg, .slice p n c, .int .i64 (doneD r).e], .int .i64 (errD r), .int .i64 0, .agg #[.bool r.neg, .slice q m d, .int .i64 r.e]] w fun e w' => e = .returned (.bool true) ∧ Below w.heap.size w w' := by
  subst hn hm
  have ld := doneD_len r
  have HT := fun W h => Lib.hid (refToDyad_any r.neg q _ d r.e r.m W h rfl hl)
  have HZ := Lib.hid (show errD r ≠ 0 → doneD r = ⟨false, 0, 0⟩ from fun h => by unfold doneD; rw [if_neg h]; rfl)
  obtain ⟨dv, hdv⟩ : ∃ dv, doneD r = dv := ⟨_, rfl⟩
  obtain ⟨er, her⟩ : ∃ er, errD r = er := ⟨_, rfl⟩
  obtain ⟨gr, mr, xr⟩ := r
  simp only at hp hq hl HT ⊢
  rw [hdv] at hp ld HT HZ ⊢
  rw [her] at HT HZ ⊢
  clear hdv her
  obtain ⟨gd, md, xd⟩ := dv
  simp only at hp ld HT HZ ⊢
  have hs1 := two_laid w (.cells #[.bool gd, .slice p (dig B32 md).length c, .int .i64 xd] 30) (.cells #[.bool gr, .slice q (dig B16 mr).length d, .int .i64 xr] 35)
  have B1 := (box3_new w (.bool gd) (.slice p (dig B32 md).length c) (.int .i64 xd) 30).laid (.cells #[.bool gr, .slice q (dig B16 mr).length d, .int .i64 xr] 35)
  have hp1 := hp.past hs1
  have hq1 := hq.past hs1
  by_cases he : er = 0
  · subst he
    go_enter Tryd.func24, Tryd.ntmps24
    go_wp2_with fail
    ((with_reducible refine (HT _ hq1).out.mono ?_))
    generalize (w.alloc (.cells #[.bool gd, .slice p (dig B32 md).length c, .int .i64 xd] 30)).alloc (.cells #[.bool gr, .slice q (dig B16 mr).length d, .int .i64 xr] 35) = W1 at *
    rintro e2 w2 ⟨p2, c2, rfl, ho2, hb2⟩
    have hs2 := hs1.trans (hb2.mono hs1.size)
    replace B1 := B1.past hb2
    replace hp1 := hp1.past hb2
    have hb3 : Below w2.heap.size w2 (w2.alloc (.cells #[.bool gd, .slice p2 (dig B32 md).length c2, .int .i64 xd] 30)) := (Below.refl _ _).alloc (Nat.le_refl _) _
    have hs3 := hs2.trans (hb3.mono hs2.size)
    replace B1 := B1.past hb3
    replace hp1 := hp1.past hb3
    replace ho2 := ho2.past hb3
    obtain ⟨a0, a1, a2, _, _, _, _⟩ := B1
    go_wp2_with fail
    ((with_reducible refine (refSameDyad_dec gd gd p p2 _ c _ c2 xd xd md md _ hp1 ho2.rd rfl rfl (by omega) (by omega)).mono ?_))
    rintro e4 w4 ⟨rfl, hb4⟩
    go_wp2
    go_ret
    exact ⟨by simp, hs3.trans (hb4.mono hs3.size)⟩
  · have hz : (er == 0) = false := beq_eq_false_iff_ne.2 he
    have hz2 : (er != 0) = true := by rw [bne, hz]; rfl
    have hd := HZ.out he
    obtain ⟨rfl, rfl, rfl⟩ : gd = false ∧ md = 0 ∧ xd = 0 := by injection hd with h1 h2 h3; exact ⟨h1, h2, h3⟩
    clear hd he
    go_enter Tryd.func24, Tryd.ntmps24
    go_wp2_with fail
    ((with_reducible refine (HT _ hq1).out.mono ?_))
    generalize (w.alloc (.cells #[.bool false, .slice p (dig B32 0).length c, .int .i64 0] 30)).alloc (.cells #[.bool gr, .slice q (dig B16 mr).length d, .int .i64 xr] 35) = W1 at *
    rintro e2 w2 ⟨p2, c2, rfl, ho2, hb2⟩
    have hs2 := hs1.trans (hb2.mono hs1.size)
    replace B1 := B1.past hb2
    replace hp1 := hp1.past hb2
    have hb3 : Below w2.heap.size w2 (w2.alloc (.cells #[.bool false, .slice none 0 0, .int .i64 0] 30)) := (Below.refl _ _).alloc (Nat.le_refl _) _
    have hs3 := hs2.trans (hb3.mono hs2.size)
    replace B1 := B1.past hb3
    replace hp1 := hp1.past hb3
    obtain ⟨a0, a1, a2, _, _, _, _⟩ := B1
    go_wp2_with fail
    ((with_reducible refine (refSameDyad_dec false false p none _ c _ 0 0 0 0 0 _ hp1 (by rw [dig_zero]; exact Rd.nil _ _ _) rfl (by simp [dig_zero]) (by omega) (by omega)).mono ?_))
    rintro e4 w4 ⟨rfl, hb4⟩
    go_wp2
    go_ret
    exact ⟨by simp, hs3.trans (hb4.mono hs3.size)⟩

set_option maxHeartbeats 2000000 in
theorem dyadIs_err (er : Int) (r : Dv) (p q : Option Addr) (n c m d : Nat) (w : World) (he : er ≠ 0) (hn : n = 0) (hq : Rd w .i64 q (dig B16 r.m)) (hm : m = (dig B16 r.m).length) (hl : (dig B16 r.m).length ≤ 100000000) :
    Calls Tryd.prog 24 #[.agg #[.bool false, .slice p n c, .int .i64 0], .int .i64 er, .int .i64 er, .agg #[.bool r.neg, .slice q m d, .int .i64 r.e]] w fun e w' => e = .returned (.bool true) ∧ Below w.heap.size w w' := by
  subst hn hm
  have HT := fun W h => Lib.hid (refToDyad_any r.neg q _ d r.e r.m W h rfl hl)
  obtain ⟨dv, hdv⟩ : ∃ dv, doneD r = dv := ⟨_, rfl⟩
  obtain ⟨e0, her⟩ : ∃ er, errD r = er := ⟨_, rfl⟩
  obtain ⟨gr, mr, xr⟩ := r
  simp only at hq hl HT ⊢
  rw [hdv] at HT
  rw [her] at HT
  clear hdv her
  obtain ⟨gd, md, xd⟩ := dv
  have hs1 := two_laid w (.cells #[.bool false, .slice p 0 c, .int .i64 0] 30) (.cells #[.bool gr, .slice q (dig B16 mr).length d, .int .i64 xr] 35)
  have B1 := (box3_new w (.bool false) (.slice p 0 c) (.int .i64 0) 30).laid (.cells #[.bool gr, .slice q (dig B16 mr).length d, .int .i64 xr] 35)
  have hq1 := hq.past hs1
  have hz : (er == 0) = false := beq_eq_false_iff_ne.2 he
  have hz2 : (er != 0) = true := by rw [bne, hz]; rfl
  have hz3 : (er == er) = true := by simp
  clear he
  go_enter Tryd.func24, Tryd.ntmps24
  go_wp2_with fail
  ((with_reducible refine (HT _ hq1).out.mono ?_))
  generalize (w.alloc (.cells #[.bool false, .slice p 0 c, .int .i64 0] 30)).alloc (.cells #[.bool gr, .slice q (dig B16 mr).length d, .int .i64 xr] 35) = W1 at *
  rintro e2 w2 ⟨p2, c2, rfl, ho2, hb2⟩
  have hs2 := hs1.trans (hb2.mono hs1.size)
  replace B1 := B1.past hb2
  have hb3 : Below w2.heap.size w2 (w2.alloc (.cells #[.bool false, .slice none 0 0, .int .i64 0] 30)) := (Below.refl _ _).alloc (Nat.le_refl _) _
  have hs3 := hs2.trans (hb3.mono hs2.size)
  replace B1 := B1.past hb3
  obtain ⟨a0, a1, a2, _, _, _, _⟩ := B1
  go_wp2_with fail
  ((with_reducible refine (refSameDyad_dec false false p none _ c _ 0 0 0 0 0 _ (by rw [dig_zero]; exact Rd.nil _ _ _) (by rw [dig_zero]; exact Rd.nil _ _ _) (by simp [dig_zero]) (by simp [dig_zero]) (by simp [dig_zero]) (by simp [dig_zero])).mono ?_))
  rintro e4 w4 ⟨rfl, hb4⟩
  go_wp2
  go_ret
  exact ⟨by simp, hs3.trans (hb4.mono hs3.size)⟩

end Go.Proofs.YtlegnbigddhmlaaDoor
