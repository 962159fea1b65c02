/- The references' Bared, OfDyad. -/
import Derived.Test.YtehodhanojgkgaaDoorZE
import Derived.Test.YtehodhanojgkgaaDoorZA
import Derived.Test.YtehodhanojgkgaaDoorZF
import Derived.Test.YtehodhanojgkgaaDoorZR
namespace Go.Proofs.YtehodhanojgkgaaDoor
open Go.RowKit Go.Slip

set_option maxHeartbeats 1000000 in
theorem refBared_zero (g : Bool) (p : Option Addr) (c : Nat) (e : Int) (w : World) :
    Calls Tryd.prog 39 #[.agg #[.bool g, .slice p 0 c, .int .i64 e]] w (GivesF w (fun _ => False) ⟨false, 0, 0⟩) := by
  go_enter Tryd.func39, Tryd.ntmps39
  go_wp2
  refine bodyPost_ret (v := .agg #[.bool false, .slice none 0 0, .int .i64 0]) (by simp [results, Tryd.results39, go_sem]) rfl ?_
  exact ⟨none, 0, by rw [dig_zero]; rfl, by rw [dig_zero]; exact Rd.nil _ _ _, by rw [dig_zero]; simp, by rw [dig_zero]; simp, ((Below.refl _ _).alloc (Nat.le_refl _) _).alloc (by simp) _⟩

set_option maxHeartbeats 2000000 in
set_option maxRecDepth 100000 in
theorem refBared_pos (g : Bool) (p : Option Addr) (n c : Nat) (e : Int) (m : Nat) (w : World) (hp : Rd w .i64 p (dig B16 m)) (hn : n = (dig B16 m).length) (hl : (dig B16 m).length ≤ 10000000) (h0 : 0 < m)
    (he : -1000000000 ≤ e ∧ e ≤ 1000000000) :
    Calls Tryd.prog 39 #[.agg #[.bool g, .slice p n c, .int .i64 e]] w (GivesF w (fun _ => False) (bare ⟨g, m, e⟩)) := by
  subst hn
  have hl0 : 0 < (dig B16 m).length := by
    have := dig_len_zero B16_two m
    omega
  have t1 : (((dig B16 m).length : Int) == 0) = false := beq_eq_false_iff_ne.2 (by omega)
  obtain ⟨W1, hW1, hs1, A1, R1, hz1⟩ := box2s w (.bool g) (.slice p (dig B16 m).length c) (.int .i64 e) (.bool false) (.slice none 0 0) (.int .i64 0) 36 36
  have hp1 := hp.past hs1
  have HB := Lib.hid (bare_pos (g := g) (e := e) h0)
  have htz : tz m ≤ 1000000000 := by have := tz_lt_blen h0; have := blen_len16 m; omega
  have HV := Lib.hid (val_dig B16_two m)
  have HX := Lib.hid (dig_lt B16_two m)
  have HW1 := Lib.hid hW1
  obtain ⟨xs, hxs⟩ : ∃ xs, xs = dig B16 m := ⟨_, rfl⟩
  have HXS := Lib.hid hxs
  rw [← hxs] at hp hl hl0 t1 A1 hp1 HV HX HW1 ⊢
  have hsx := hp1.solid
  have a1 := A1.c1
  clear hW1 hxs
  go_enter Tryd.func39, Tryd.ntmps39
  go_wp2_with fail
  rw [← HW1.out]
  clear HW1
  go_wp2
  go_loopg [3] xs.length (fun gk nv wr => ∃ (j n : Nat), nv = .int .i64 n ∧ gk + j = xs.length ∧ wr = W1 ∧ Hid (BareOut xs j n))
  case atStart => exact ⟨0, 0, rfl, rfl, rfl, BareOut.start xs⟩
  case round =>
    obtain ⟨j, n, rfl, hgk, rfl, HO⟩ := hrel
    have hlt := HO.out.lt HV.out h0
    have hd := getD_lt (B := 65536) (by omega) xs HX.out j
    have hn1 : (n : Int) ≤ 160000000 := by have := HO.out.1; omega
    have e1 : (n : Int) / 16 = (j : Int) := by have := HO.out.1; omega
    have hcell := hp1.cells j hlt
    by_cases hz : dg xs j = 0
    · have HS := Lib.hid (HO.out.step hz)
      rw [hz] at hcell
      have hgi : 0 < gk := by omega
      clear hz
      go_wp2
      go_roundg (gk - 1)
      case measure => omega
      case rel => exact ⟨j + 1, n + 16, by go_num, by omega, rfl, HS⟩
    · have h0d : 0 < dg xs j := by omega
      have HI := Lib.hid (BareIn.start HO.out HV.out h0d hd)
      have t2 : (((dg xs j : Nat) : Int) == 0) = false := beq_eq_false_iff_ne.2 (by omega)
      clear hz
      go_wp2
      have hjn : n ≤ 160000000 := by omega
      clear e1 hcell t2 hn1
      obtain ⟨d0, hd0⟩ : ∃ d0, dg xs j = d0 := ⟨_, rfl⟩
      rw [hd0] at HI hd h0d ⊢
      clear hd0
      go_loopg [3, 4] d0 (fun gk nv dv wx => ∃ (n2 : Nat), nv = .int .i64 n2 ∧ dv = .int .i64 gk ∧ gk < 65536 ∧ wx = wr ∧ Hid (BareIn m gk n2))
      case atStart => exact ⟨n, rfl, rfl, hd, rfl, HI⟩
      case round =>
        obtain ⟨n2, rfl, rfl, hgl, rfl, HN⟩ := hrel
        have hn2 : n2 ≤ 1000000000 := by obtain ⟨t, h1, h2, h3⟩ := HN.out; omega
        have hg0 : 0 < gk := by obtain ⟨t, h1, h2, h3⟩ := HN.out; omega
        by_cases hev : gk % 2 = 0
        · have HS := Lib.hid (HN.out.step hev)
          have t3 : (gk : Int) % 2 = 0 := by omega
          clear hev
          go_wp2
          go_roundg (gk / 2)
          case measure => omega
          case rel => exact ⟨n2 + 1, by go_num, by go_num, by omega, rfl, HS⟩
        · have HD := HN.out.done (by omega)
          have t3 : (gk : Int) % 2 = 1 := by omega
          subst HD
          obtain ⟨t, ht⟩ : ∃ t, tz m = t := ⟨_, rfl⟩
          have HT := Lib.hid ht
          rw [ht] at htz HB hn2 HN ⊢
          clear ht hev
          go_wp2_with fail
          clear t3
          have e1 : IntKind.i64.wrap (e + (t : Int)) = e + (t : Int) := IntWalk.i64_in _ (by omega)
          have hpm : Rd wr .i64 p (dig B16 m) := by rw [← HXS.out]; exact hp1
          go_region_held3 (fun w' => w'.cell? ⟨w.heap.size, 0, none⟩ = some (.bool g) ∧ w'.cell? ⟨w.heap.size, 1, none⟩ = some (.slice p xs.length c) ∧ w'.cell? ⟨w.heap.size, 2, none⟩ = some (.int .i64 e))
            (first | exact ⟨A1.c0, A1.c1, A1.c2⟩
                   | (have D1 := A1.drew; exact ⟨D1.c0, D1.c1, D1.c2⟩)
                   | (have D1 := A1.drew.past hb2; exact ⟨D1.c0, D1.c1, D1.c2⟩)
                   | (have D1 := A1.drew.past hb2; exact ⟨(((D1.set (by omega)).set (by omega)).set (by omega)).c0, (((D1.set (by omega)).set (by omega)).set (by omega)).c1, (((D1.set (by omega)).set (by omega)).set (by omega)).c2⟩))
            (first | (go_at_call 67; refine (refDown_any p _ c m t _ hpm.drew (by rw [HXS.out]) (by rw [← HXS.out]; clear e1; omega) (by clear e1; omega)).mono ?_; rintro e2 w2 ⟨p2, c2, rfl, hr2, hc2, hf2, hb2⟩; obtain ⟨d0, d1, d2, f0, f1, f2, dlt⟩ := R1.drew.past hb2))
          all_goals (go_wp2_with fail)
          refine bodyPost_ret (v := .agg #[.bool g, .slice p2 (dig B16 (m / 2 ^ t)).length c2, .int .i64 (e + (t : Int))]) (by simp [results, Tryd.results39, go_sem, d0, d1, d2]) rfl ?_
          rw [HB.out]
          clear e1
          have hzd : wr.drew.heap.size = wr.heap.size := rfl
          exact givesF_close (d := ⟨g, m / 2 ^ t, e + t⟩) (hs1.drew.trans (hb2.mono hs1.size)) hr2 hc2 (fun h => .inr (by have := hf2 h; simp only at *; omega)) (by omega) (fun h => by have := hf2 h; simp only at *; omega)

theorem refBared_any (g : Bool) (p : Option Addr) (n c : Nat) (e : Int) (m : Nat) (w : World) (hp : Rd w .i64 p (dig B16 m)) (hn : n = (dig B16 m).length) (hl : (dig B16 m).length ≤ 10000000)
    (he : -1000000000 ≤ e ∧ e ≤ 1000000000) :
    Calls Tryd.prog 39 #[.agg #[.bool g, .slice p n c, .int .i64 e]] w (GivesF w (fun _ => False) (bare ⟨g, m, e⟩)) := by
  by_cases h0 : m = 0
  · subst h0
    rw [dig_zero] at hn
    subst hn
    exact refBared_zero g p c e w
  · exact refBared_pos g p n c e m w hp hn hl (by omega) he

set_option maxHeartbeats 2000000 in
theorem refOfDyad_any (a : Din) (w : World) (ha : InD w a) (he : errDy a = 0) :
    Calls Tryd.prog 36 #[.agg #[.bool a.g, .slice a.p a.xs.length a.c, .int .i64 a.e]] w (GivesF w (fun _ => False) (dyV a)) := by
  obtain ⟨W1, hW1, hs1, A1, R1, hz1⟩ := box2s w (.bool a.g) (.slice a.p a.xs.length a.c) (.int .i64 a.e) (.bool false) (.slice none 0 0) (.int .i64 0) 25 36
  obtain ⟨ma, exa, eva, la, e1a, e2a⟩ := ha.ok he
  have l16 := B16_len32 ma
  have hl2 : a.xs.length ≤ 1200 := by rw [exa]; exact la
  have HVA := Lib.hid (show bare ⟨a.g, ma, a.e⟩ = dyV a by unfold dyV; rw [eva])
  have HV := Lib.hid eva
  generalize dyV a = va at *
  have ha1 := ha.past hs1
  clear exa eva
  have HW1 := Lib.hid hW1
  clear hW1
  go_enter Tryd.func36, Tryd.ntmps36
  go_wp2_with fail
  rw [← HW1.out]
  clear HW1
  go_region_held3 (fun w' => w'.cell? ⟨w.heap.size, 0, none⟩ = some (.bool a.g) ∧ w'.cell? ⟨w.heap.size, 1, none⟩ = some (.slice a.p a.xs.length a.c) ∧ w'.cell? ⟨w.heap.size, 2, none⟩ = some (.int .i64 a.e))
    (first | exact ⟨A1.c0, A1.c1, A1.c2⟩
           | (have D1 := A1.drew; exact ⟨D1.c0, D1.c1, D1.c2⟩)
           | (have D1 := A1.drew.past hb2; exact ⟨D1.c0, D1.c1, D1.c2⟩)
           | (have D1 := (A1.drew.past hb2).past hb3; exact ⟨D1.c0, D1.c1, D1.c2⟩)
           | (have D1 := (A1.drew.past hb2).past hb3; exact ⟨(((D1.set (by omega)).set (by omega)).set (by omega)).c0, (((D1.set (by omega)).set (by omega)).set (by omega)).c1, (((D1.set (by omega)).set (by omega)).set (by omega)).c2⟩))
    (first
      | (go_at_call 63; refine (refOf_any a.p _ a.c a.xs _ ha1.drew.rd rfl ha1.lt (by omega)).mono ?_; rw [HV.out]; rintro e2 w2 ⟨p2, c2, rfl, hr2, hc2, hf2, hb2⟩)
      | (go_at_call 39; refine (refBared_any a.g p2 _ c2 a.e ma _ hr2 rfl (by omega) (by omega)).mono ?_; rw [HVA.out]; rintro e3 w3 ⟨p3, c3, rfl, hr3, hc3, hf3, hb3⟩; obtain ⟨d0, d1, d2, f0, f1, f2, dlt⟩ := (R1.drew.past hb2).past hb3))
  all_goals (go_wp2_with fail)
  refine bodyPost_ret (v := .agg #[.bool va.neg, .slice p3 (dig B16 va.m).length c3, .int .i64 va.e]) (by simp [results, Tryd.results36, go_sem, d0, d1, d2]) rfl ?_
  have hzd : W1.drew.heap.size = W1.heap.size := rfl
  have hs2 := hs1.drew.trans (hb2.mono hs1.size)
  have hz2 := hb2.size
  have hf : 0 < (dig B16 va.m).length → w2.heap.size ≤ blk p3 := fun h => by rcases hf3 h with h | h; exact h.elim; exact h
  exact givesF_close (hs2.trans (hb3.mono hs2.size)) hr3 hc3 (fun h => .inr (by have := hf h; omega)) (by omega) (fun h => by have := hf h; omega)

end Go.Proofs.YtehodhanojgkgaaDoor
