/- The references' DCmp. -/
import Derived.Test.YtehodhanojgkgaaDoorZRDy5
import Derived.Test.YtehodhanojgkgaaDoorZE
namespace Go.Proofs.YtehodhanojgkgaaDoor
open Go.RowKit Go.Slip

/-- The references' comparison. -/
theorem rCmp_cases (a b : Dv) : rCmp a b = if (rPlus a (dMinus b)).m = 0 then 0 else if (rPlus a (dMinus b)).neg then -1 else 1 := rfl

set_option maxHeartbeats 4000000 in
set_option maxRecDepth 100000 in
theorem refDCmp_any (g h : Bool) (p q : Option Addr) (n c m d : Nat) (e f : Int) (a b : Nat) (w : World) (hp : Rd w .i64 p (dig B16 a)) (hq : Rd w .i64 q (dig B16 b)) (hn : n = (dig B16 a).length) (hm : m = (dig B16 b).length) (hcm : m ≤ d)
    (hl : (dig B16 a).length ≤ 1000000) (hl2 : (dig B16 b).length ≤ 1000000) (he : -1000000 ≤ e ∧ e ≤ 1000000) (hf : -1000000 ≤ f ∧ f ≤ 1000000) :
    Calls Tryd.prog 26 #[.agg #[.bool g, .slice p n c, .int .i64 e], .agg #[.bool h, .slice q m d, .int .i64 f]] w fun en w' => en = .returned (.int .i64 (rCmp ⟨g, a, e⟩ ⟨h, b, f⟩)) ∧ Below w.heap.size w w' := by
  subst hn hm
  have hs1 := two_laid w (.cells #[.bool g, .slice p (dig B16 a).length c, .int .i64 e] 36) (.cells #[.bool h, .slice q (dig B16 b).length d, .int .i64 f] 36)
  have A1 := (box3_new w (.bool g) (.slice p (dig B16 a).length c) (.int .i64 e) 36).laid (.cells #[.bool h, .slice q (dig B16 b).length d, .int .i64 f] 36)
  have B1 := box3_new (w.alloc (.cells #[.bool g, .slice p (dig B16 a).length c, .int .i64 e] 36)) (.bool h) (.slice q (dig B16 b).length d) (.int .i64 f) 36
  simp only [World.size_alloc] at B1
  have hp1 := hp.past hs1
  have hq1 := hq.past hs1
  have HC := Lib.hid (rCmp_cases ⟨g, a, e⟩ ⟨h, b, f⟩)
  obtain ⟨mi, hmi⟩ : ∃ mi, dMinus ⟨h, b, f⟩ = mi := ⟨_, rfl⟩
  have hmm : mi.m = b ∧ mi.e = f := by rw [← hmi]; exact ⟨rfl, rfl⟩
  have HMI := Lib.hid hmi
  rw [hmi] at HC
  clear hmi
  obtain ⟨h', b', f'⟩ := mi
  simp only at hmm
  obtain ⟨rfl, rfl⟩ := hmm
  obtain ⟨⟨gr, mr, xr⟩, hr⟩ : ∃ r, rPlus ⟨g, a, e⟩ ⟨h', b', f'⟩ = r := ⟨_, rfl⟩
  rw [hr] at HC
  have HR := Lib.hid hr
  clear hr
  have hz := dig_len_zero B16_two mr
  obtain ⟨W1, hW1⟩ : ∃ W1, W1 = (w.alloc (.cells #[.bool g, .slice p (dig B16 a).length c, .int .i64 e] 36)).alloc (.cells #[.bool h, .slice q (dig B16 b').length d, .int .i64 f'] 36) := ⟨_, rfl⟩
  have hz1 : W1.heap.size = w.heap.size + 1 + 1 := by rw [hW1]; simp
  rw [← hW1] at hs1 A1 B1 hp1 hq1
  have HW1 := Lib.hid hW1
  clear hW1
  have HZ := Lib.hid hz
  clear hz
  go_enter Tryd.func26, Tryd.ntmps26
  go_wp2_with fail
  rw [← HW1.out]
  clear HW1
  go_cut [5] (fun s5 wx => ∃ (k : Nat) (pr : Option Addr) (cr : Nat), s5 = .pointer (some ⟨k, 0, none⟩) ∧ wx.cell? ⟨k, 0, none⟩ = some (.bool gr) ∧ wx.cell? ⟨k, 1, none⟩ = some (.slice pr (dig B16 mr).length cr) ∧ Below w.heap.size w wx)
  case first =>
    go_region_held3 (fun w' => (w'.cell? ⟨w.heap.size, 0, none⟩ = some (.bool g) ∧ w'.cell? ⟨w.heap.size, 1, none⟩ = some (.slice p (dig B16 a).length c) ∧ w'.cell? ⟨w.heap.size, 2, none⟩ = some (.int .i64 e)) ∧
        (w'.cell? ⟨w.heap.size + 1, 0, none⟩ = some (.bool h) ∧ w'.cell? ⟨w.heap.size + 1, 1, none⟩ = some (.slice q (dig B16 b').length d) ∧ w'.cell? ⟨w.heap.size + 1, 2, none⟩ = some (.int .i64 f')))
      (first | exact ⟨⟨(((A6.set hkA).set hkA).set hkA).c0, (((A6.set hkA).set hkA).set hkA).c1, (((A6.set hkA).set hkA).set hkA).c2⟩, (((B6.set hkB).set hkB).set hkB).c0, (((B6.set hkB).set hkB).set hkB).c1, (((B6.set hkB).set hkB).set hkB).c2⟩
             | exact ⟨⟨(A6.laid _).c0, (A6.laid _).c1, (A6.laid _).c2⟩, (B6.laid _).c0, (B6.laid _).c1, (B6.laid _).c2⟩
             | exact ⟨⟨(A6).c0, (A6).c1, (A6).c2⟩, (B6).c0, (B6).c1, (B6).c2⟩
             | exact ⟨⟨((A1.drew.laid _).past hb2).c0, ((A1.drew.laid _).past hb2).c1, ((A1.drew.laid _).past hb2).c2⟩, ((B1.drew.laid _).past hb2).c0, ((B1.drew.laid _).past hb2).c1, ((B1.drew.laid _).past hb2).c2⟩
             | exact ⟨⟨((A1.drew.past hb2).laid _).c0, ((A1.drew.past hb2).laid _).c1, ((A1.drew.past hb2).laid _).c2⟩, ((B1.drew.past hb2).laid _).c0, ((B1.drew.past hb2).laid _).c1, ((B1.drew.past hb2).laid _).c2⟩
             | exact ⟨⟨(A1.drew.past hb2).c0, (A1.drew.past hb2).c1, (A1.drew.past hb2).c2⟩, (B1.drew.past hb2).c0, (B1.drew.past hb2).c1, (B1.drew.past hb2).c2⟩
             | exact ⟨⟨(A1.drew.laid _).c0, (A1.drew.laid _).c1, (A1.drew.laid _).c2⟩, (B1.drew.laid _).c0, (B1.drew.laid _).c1, (B1.drew.laid _).c2⟩
             | exact ⟨⟨(A1.drew).c0, (A1.drew).c1, (A1.drew).c2⟩, (B1.drew).c0, (B1.drew).c1, (B1.drew).c2⟩
             | exact ⟨⟨(A1).c0, (A1).c1, (A1).c2⟩, (B1).c0, (B1).c1, (B1).c2⟩)
      (first
        | (go_at_call 24; refine (refMinus_any (fun _ => True) h q _ d f' b' _ ?_ rfl hcm (fun _ => trivial)).mono ?_; (first | exact hq1.drew | exact hq1.drew.laid _); rw [HMI.out]; rintro e2 w2 ⟨p2, c2, rfl, hr2, hc2, hf2, hb2⟩)
        | (go_at_call 38; refine (refDPlus_any g h' p p2 _ c _ c2 e f' a b' _ ?_ ?_ rfl rfl hl hl2 he hf).mono ?_; (first | exact hp1.drew.past hb2 | exact (hp1.drew.laid _).past hb2 | exact (hp1.drew.past hb2).laid _); (first | exact hr2 | exact hr2.laid _); rw [HR.out]; rintro e3 w3 ⟨p3, c3, rfl, hr3, hc3, hf3, hb3⟩; (first
            | (have K3 := ((box3_new W1.drew (.bool false) (.slice none 0 0) (.int .i64 0) 36).past hb2).past hb3; have hK3 : W1.drew.heap.size = W1.heap.size := rfl; rw [hK3, hz1] at K3; clear hK3; have KP := K3.put (.bool gr) (.slice p3 (dig B16 mr).length c3) (.int .i64 xr); obtain ⟨k0, k1, k2, k3, k4, k5, k6⟩ := K3; have hsA := (hs1.alloc hs1.size (.cells #[.bool false, .slice none 0 0, .int .i64 0] 36)).drew; have hs2 := hsA.trans (hb2.mono hsA.size); have hs3 := hs2.trans (hb3.mono hs2.size); have hkK : w.heap.size ≤ w.heap.size + 1 + 1 := Nat.le_succ_of_le (Nat.le_succ _); have A6 := ((A1.drew.laid _).past hb2).past hb3; have B6 := ((B1.drew.laid _).past hb2).past hb3; have hkA : w.heap.size < w.heap.size + 1 + 1 := Nat.lt_succ_of_lt (Nat.lt_succ_self _); have hkB : w.heap.size + 1 < w.heap.size + 1 + 1 := Nat.lt_succ_self _)
            | (have K3 := (box3_new w2 (.bool false) (.slice none 0 0) (.int .i64 0) 36).past hb3; have KP := K3.put (.bool gr) (.slice p3 (dig B16 mr).length c3) (.int .i64 xr); obtain ⟨k0, k1, k2, k3, k4, k5, k6⟩ := K3; have hs2 := hs1.drew.trans (hb2.mono hs1.size); have hkK : w.heap.size ≤ w2.heap.size := hs2.size; have hsA := hs2.alloc hs2.size (.cells #[.bool false, .slice none 0 0, .int .i64 0] 36); have hs3 := hsA.trans (hb3.mono hsA.size); have A6 := ((A1.drew.past hb2).laid _).past hb3; have B6 := ((B1.drew.past hb2).laid _).past hb3; have hkA : w.heap.size < w2.heap.size := (A1.drew.past hb2).lt; have hkB : w.heap.size + 1 < w2.heap.size := (B1.drew.past hb2).lt)
            | (have hs2 := hs1.drew.trans (hb2.mono hs1.size); have hs3 := hs2.trans (hb3.mono hs2.size); have A6 := (A1.drew.past hb2).past hb3; have B6 := (B1.drew.past hb2).past hb3))))
    all_goals (go_wp2_with fail)
    all_goals go_meet
    all_goals (first
      | exact ⟨_, p3, c3, rfl, KP.c0, KP.c1, ((hs3.setCell hkK _).setCell hkK _).setCell hkK _⟩
      | exact ⟨w3.heap.size, p3, c3, rfl, (box3_new w3 _ _ _ _).c0, (box3_new w3 _ _ _ _).c1, hs3.alloc hs3.size _⟩)
  case rest =>
    obtain ⟨k, pr, cr, rfl, k0, k1, hs9⟩ := hcut
    by_cases h0 : mr = 0
    · have hl0 : (dig B16 mr).length = 0 := HZ.out.2 h0
      have HK := Lib.hid (HC.out.trans (by rw [if_pos h0]))
      rw [hl0] at k1
      clear hl0 h0
      go_wp2
      go_ret
      exact ⟨ret_int HK.out.symm, hs9⟩
    · have t1 : (((dig B16 mr).length : Int) == 0) = false := beq_eq_false_iff_ne.2 (fun h => h0 (HZ.out.1 (by omega)))
      cases gr
      · have HK := Lib.hid (HC.out.trans (by rw [if_neg h0]))
        clear h0
        go_wp2
        go_ret
        exact ⟨ret_int HK.out.symm, hs9⟩
      · have HK := Lib.hid (HC.out.trans (by rw [if_neg h0]))
        clear h0
        go_wp2
        go_ret
        exact ⟨ret_int HK.out.symm, hs9⟩

end Go.Proofs.YtehodhanojgkgaaDoor
