/- The references' CheckDyad, TwoDyads, SameDyad.
   The references' Bared, OfDyad.
   The references' SameNat, SameDyad, whatever the two are; ToDyad.
   The references' DPlus.
   The references' DTimes, Minus, DCmp, FloorOf.
   The references' DCmp. -/
import Derived.Test.YtlegnbigddhmlaaDoorZE
import Derived.Test.YtlegnbigddhmlaaDoorZR
import Derived.Test.YtlegnbigddhmlaaDoorZA
import Derived.Test.YtlegnbigddhmlaaDoorZF
namespace Go.Proofs.YtlegnbigddhmlaaDoor
open Go.RowKit Go.Slip

set_option maxHeartbeats 1000000 in
theorem refCheckDyad_any (d : Din) (w : World) (hx : Rd w .u32 d.p d.xs) (hl : d.xs.length ≤ 9223372036854775807) :
    Calls Tryd.prog 40 #[.agg #[.bool d.g, .slice d.p d.xs.length d.c, .int .i64 d.e]] w fun e w' => e = .returned (.int .i64 (errDy d)) ∧ Below w.heap.size w w' := by
  obtain ⟨g, p, c, xs, ex⟩ := d
  simp only at hx hl ⊢
  have hs1 : Below w.heap.size w (w.alloc (.cells #[.bool g, .slice p xs.length c, .int .i64 ex] 30)) := (Below.refl _ _).alloc (Nat.le_refl _) _
  by_cases he : errNat xs = 0
  · have HE := Lib.hid he
    by_cases hr : ex < -20000 ∨ 20000 < ex
    · have hd : errDy ⟨g, p, c, xs, ex⟩ = 3 := by unfold errDy; rw [if_pos he, if_pos hr]
      rw [hd]
      clear hd he
      rcases hr with hr | hr
      · go_enter Tryd.func40, Tryd.ntmps40
        go_wp2_with fail
        ((with_reducible refine (refCheckNat_any p _ c xs _ (hx.laid _) rfl hl).mono ?_))
        rintro e2 w2 ⟨rfl, rfl⟩
        rw [HE.out]
        go_wp2
        go_ret
        exact ⟨rfl, hs1⟩
      · have h3 : ¬ ex < -20000 := by omega
        go_enter Tryd.func40, Tryd.ntmps40
        go_wp2_with fail
        ((with_reducible refine (refCheckNat_any p _ c xs _ (hx.laid _) rfl hl).mono ?_))
        rintro e2 w2 ⟨rfl, rfl⟩
        rw [HE.out]
        go_wp2
        go_ret
        exact ⟨rfl, hs1⟩
    · have hd : errDy ⟨g, p, c, xs, ex⟩ = 0 := by unfold errDy; rw [if_pos he, if_neg hr]
      rw [hd]
      have h3 : ¬ ex < -20000 := by omega
      have h4 : ¬ 20000 < ex := by omega
      clear hd he hr
      go_enter Tryd.func40, Tryd.ntmps40
      go_wp2_with fail
      ((with_reducible refine (refCheckNat_any p _ c xs _ (hx.laid _) rfl hl).mono ?_))
      rintro e2 w2 ⟨rfl, rfl⟩
      rw [HE.out]
      go_wp2
      go_ret
      exact ⟨rfl, hs1⟩
  · have hd : errDy ⟨g, p, c, xs, ex⟩ = errNat xs := by unfold errDy; rw [if_neg he]
    have hz : (errNat xs == 0) = false := by simpa using he
    rw [hd]
    clear hd he
    go_enter Tryd.func40, Tryd.ntmps40
    go_wp2_with fail
    ((with_reducible refine (refCheckNat_any p _ c xs _ (hx.laid _) rfl hl).mono ?_))
    rintro e2 w2 ⟨rfl, rfl⟩
    go_wp2
    go_ret
    exact ⟨rfl, hs1⟩

end Go.Proofs.YtlegnbigddhmlaaDoor

namespace Go.Proofs.YtlegnbigddhmlaaDoor
open Go.RowKit Go.Slip

set_option maxHeartbeats 1000000 in
theorem refBared_zero (g : Bool) (p : Option Addr) (c : Nat) (e : Int) (w : World) :
    Calls Tryd.prog 10 #[.agg #[.bool g, .slice p 0 c, .int .i64 e]] w (GivesF w (fun _ => False) ⟨false, 0, 0⟩) := by
  go_enter Tryd.func10, Tryd.ntmps10
  go_wp2
  refine bodyPost_ret (v := .agg #[.bool false, .slice none 0 0, .int .i64 0]) (by simp [results, Tryd.results10, go_sem]) rfl ?_
  exact ⟨none, 0, by rw [dig_zero]; rfl, by rw [dig_zero]; exact Rd.nil _ _ _, by rw [dig_zero]; simp, by rw [dig_zero]; simp, ((Below.refl _ _).alloc (Nat.le_refl _) _).alloc (by simp) _⟩

set_option maxHeartbeats 2000000 in
set_option maxRecDepth 100000 in
theorem refBared_pos (g : Bool) (p : Option Addr) (n c : Nat) (e : Int) (m : Nat) (w : World) (hp : Rd w .i64 p (dig B16 m)) (hn : n = (dig B16 m).length) (hl : (dig B16 m).length ≤ 10000000) (h0 : 0 < m)
    (he : -1000000000 ≤ e ∧ e ≤ 1000000000) :
    Calls Tryd.prog 10 #[.agg #[.bool g, .slice p n c, .int .i64 e]] w (GivesF w (fun _ => False) (bare ⟨g, m, e⟩)) := by
  subst hn
  have hl0 : 0 < (dig B16 m).length := by
    have := dig_len_zero B16_two m
    omega
  have t1 : (((dig B16 m).length : Int) == 0) = false := beq_eq_false_iff_ne.2 (by omega)
  obtain ⟨W1, hW1, hs1, A1, R1, hz1⟩ := box2s w (.bool g) (.slice p (dig B16 m).length c) (.int .i64 e) (.bool false) (.slice none 0 0) (.int .i64 0) 35 35
  have hp1 := hp.past hs1
  have HB := Lib.hid (bare_pos (g := g) (e := e) h0)
  have htz : tz m ≤ 1000000000 := by have := tz_lt_blen h0; have := blen_len16 m; omega
  have HV := Lib.hid (val_dig B16_two m)
  have HX := Lib.hid (dig_lt B16_two m)
  have HW1 := Lib.hid hW1
  obtain ⟨xs, hxs⟩ : ∃ xs, xs = dig B16 m := ⟨_, rfl⟩
  have HXS := Lib.hid hxs
  rw [← hxs] at hp hl hl0 t1 A1 hp1 HV HX HW1 ⊢
  have hsx := hp1.solid
  have a1 := A1.c1
  clear hW1 hxs
  go_enter Tryd.func10, Tryd.ntmps10
  go_wp2_with fail
  rw [← HW1.out]
  clear HW1
  go_wp2
  go_loopg [3] xs.length (fun gk nv wr => ∃ (j n : Nat), nv = .int .i64 n ∧ gk + j = xs.length ∧ wr = W1 ∧ Hid (BareOut xs j n))
  case atStart => exact ⟨0, 0, rfl, rfl, rfl, BareOut.start xs⟩
  case round =>
    obtain ⟨j, n, rfl, hgk, rfl, HO⟩ := hrel
    have hlt := HO.out.lt HV.out h0
    have hd := getD_lt (B := 65536) (by omega) xs HX.out j
    have hn1 : (n : Int) ≤ 160000000 := by have := HO.out.1; omega
    have e1 : (n : Int) / 16 = (j : Int) := by have := HO.out.1; omega
    have hcell := hp1.cells j hlt
    by_cases hz : dg xs j = 0
    · have HS := Lib.hid (HO.out.step hz)
      rw [hz] at hcell
      have hgi : 0 < gk := by omega
      clear hz
      go_wp2
      go_roundg (gk - 1)
      case measure => omega
      case rel => exact ⟨j + 1, n + 16, by go_num, by omega, rfl, HS⟩
    · have h0d : 0 < dg xs j := by omega
      have HI := Lib.hid (BareIn.start HO.out HV.out h0d hd)
      have t2 : (((dg xs j : Nat) : Int) == 0) = false := beq_eq_false_iff_ne.2 (by omega)
      clear hz
      go_wp2
      have hjn : n ≤ 160000000 := by omega
      clear e1 hcell t2 hn1
      obtain ⟨d0, hd0⟩ : ∃ d0, dg xs j = d0 := ⟨_, rfl⟩
      rw [hd0] at HI hd h0d ⊢
      clear hd0
      go_loopg [3, 4] d0 (fun gk nv dv wx => ∃ (n2 : Nat), nv = .int .i64 n2 ∧ dv = .int .i64 gk ∧ gk < 65536 ∧ wx = wr ∧ Hid (BareIn m gk n2))
      case atStart => exact ⟨n, rfl, rfl, hd, rfl, HI⟩
      case round =>
        obtain ⟨n2, rfl, rfl, hgl, rfl, HN⟩ := hrel
        have hn2 : n2 ≤ 1000000000 := by obtain ⟨t, h1, h2, h3⟩ := HN.out; omega
        have hg0 : 0 < gk := by obtain ⟨t, h1, h2, h3⟩ := HN.out; omega
        by_cases hev : gk % 2 = 0
        · have HS := Lib.hid (HN.out.step hev)
          have t3 : (gk : Int) % 2 = 0 := by omega
          clear hev
          go_wp2
          go_roundg (gk / 2)
          case measure => omega
          case rel => exact ⟨n2 + 1, by go_num, by go_num, by omega, rfl, HS⟩
        · have HD := HN.out.done (by omega)
          have t3 : (gk : Int) % 2 = 1 := by omega
          subst HD
          obtain ⟨t, ht⟩ : ∃ t, tz m = t := ⟨_, rfl⟩
          have HT := Lib.hid ht
          rw [ht] at htz HB hn2 HN ⊢
          clear ht hev
          go_wp2_with fail
          clear t3
          have e1 : IntKind.i64.wrap (e + (t : Int)) = e + (t : Int) := IntWalk.i64_in _ (by omega)
          have hpm : Rd wr .i64 p (dig B16 m) := by rw [← HXS.out]; exact hp1
          go_region_held3 (fun w' => w'.cell? ⟨w.heap.size, 0, none⟩ = some (.bool g) ∧ w'.cell? ⟨w.heap.size, 1, none⟩ = some (.slice p xs.length c) ∧ w'.cell? ⟨w.heap.size, 2, none⟩ = some (.int .i64 e))
            (first | exact ⟨A1.c0, A1.c1, A1.c2⟩
                   | (have D1 := A1.drew; exact ⟨D1.c0, D1.c1, D1.c2⟩)
                   | (have D1 := A1.drew.past hb2; exact ⟨D1.c0, D1.c1, D1.c2⟩)
                   | (have D1 := A1.drew.past hb2; exact ⟨(((D1.set (by omega)).set (by omega)).set (by omega)).c0, (((D1.set (by omega)).set (by omega)).set (by omega)).c1, (((D1.set (by omega)).set (by omega)).set (by omega)).c2⟩))
            (first | (go_at_call 29; refine (refDown_any p _ c m t _ hpm.drew (by rw [HXS.out]) (by rw [← HXS.out]; clear e1; omega) (by clear e1; omega)).mono ?_; rintro e2 w2 ⟨p2, c2, rfl, hr2, hc2, hf2, hb2⟩; obtain ⟨d0, d1, d2, f0, f1, f2, dlt⟩ := R1.drew.past hb2))
          all_goals (go_wp2_with fail)
          refine bodyPost_ret (v := .agg #[.bool g, .slice p2 (dig B16 (m / 2 ^ t)).length c2, .int .i64 (e + (t : Int))]) (by simp [results, Tryd.results10, go_sem, d0, d1, d2]) rfl ?_
          rw [HB.out]
          clear e1
          have hzd : wr.drew.heap.size = wr.heap.size := rfl
          exact givesF_close (d := ⟨g, m / 2 ^ t, e + t⟩) (hs1.drew.trans (hb2.mono hs1.size)) hr2 hc2 (fun h => .inr (by have := hf2 h; simp only at *; omega)) (by omega) (fun h => by have := hf2 h; simp only at *; omega)

theorem refBared_any (g : Bool) (p : Option Addr) (n c : Nat) (e : Int) (m : Nat) (w : World) (hp : Rd w .i64 p (dig B16 m)) (hn : n = (dig B16 m).length) (hl : (dig B16 m).length ≤ 10000000)
    (he : -1000000000 ≤ e ∧ e ≤ 1000000000) :
    Calls Tryd.prog 10 #[.agg #[.bool g, .slice p n c, .int .i64 e]] w (GivesF w (fun _ => False) (bare ⟨g, m, e⟩)) := by
  by_cases h0 : m = 0
  · subst h0
    rw [dig_zero] at hn
    subst hn
    exact refBared_zero g p c e w
  · exact refBared_pos g p n c e m w hp hn hl (by omega) he

set_option maxHeartbeats 2000000 in
theorem refOfDyad_any (a : Din) (w : World) (ha : InD w a) (he : errDy a = 0) :
    Calls Tryd.prog 20 #[.agg #[.bool a.g, .slice a.p a.xs.length a.c, .int .i64 a.e]] w (GivesF w (fun _ => False) (dyV a)) := by
  obtain ⟨W1, hW1, hs1, A1, R1, hz1⟩ := box2s w (.bool a.g) (.slice a.p a.xs.length a.c) (.int .i64 a.e) (.bool false) (.slice none 0 0) (.int .i64 0) 30 35
  obtain ⟨ma, exa, eva, la, e1a, e2a⟩ := ha.ok he
  have l16 := B16_len32 ma
  have hl2 : a.xs.length ≤ 1200 := by rw [exa]; exact la
  have HVA := Lib.hid (show bare ⟨a.g, ma, a.e⟩ = dyV a by unfold dyV; rw [eva])
  have HV := Lib.hid eva
  generalize dyV a = va at *
  have ha1 := ha.past hs1
  clear exa eva
  have HW1 := Lib.hid hW1
  clear hW1
  go_enter Tryd.func20, Tryd.ntmps20
  go_wp2_with fail
  rw [← HW1.out]
  clear HW1
  go_region_held3 (fun w' => w'.cell? ⟨w.heap.size, 0, none⟩ = some (.bool a.g) ∧ w'.cell? ⟨w.heap.size, 1, none⟩ = some (.slice a.p a.xs.length a.c) ∧ w'.cell? ⟨w.heap.size, 2, none⟩ = some (.int .i64 a.e))
    (first | exact ⟨A1.c0, A1.c1, A1.c2⟩
           | (have D1 := A1.drew; exact ⟨D1.c0, D1.c1, D1.c2⟩)
           | (have D1 := A1.drew.past hb2; exact ⟨D1.c0, D1.c1, D1.c2⟩)
           | (have D1 := (A1.drew.past hb2).past hb3; exact ⟨D1.c0, D1.c1, D1.c2⟩)
           | (have D1 := (A1.drew.past hb2).past hb3; exact ⟨(((D1.set (by omega)).set (by omega)).set (by omega)).c0, (((D1.set (by omega)).set (by omega)).set (by omega)).c1, (((D1.set (by omega)).set (by omega)).set (by omega)).c2⟩))
    (first
      | (go_at_call 11; refine (refOf_any a.p _ a.c a.xs _ ha1.drew.rd rfl ha1.lt (by omega)).mono ?_; rw [HV.out]; rintro e2 w2 ⟨p2, c2, rfl, hr2, hc2, hf2, hb2⟩)
      | (go_at_call 10; refine (refBared_any a.g p2 _ c2 a.e ma _ hr2 rfl (by omega) (by omega)).mono ?_; rw [HVA.out]; rintro e3 w3 ⟨p3, c3, rfl, hr3, hc3, hf3, hb3⟩; obtain ⟨d0, d1, d2, f0, f1, f2, dlt⟩ := (R1.drew.past hb2).past hb3))
  all_goals (go_wp2_with fail)
  refine bodyPost_ret (v := .agg #[.bool va.neg, .slice p3 (dig B16 va.m).length c3, .int .i64 va.e]) (by simp [results, Tryd.results20, go_sem, d0, d1, d2]) rfl ?_
  have hzd : W1.drew.heap.size = W1.heap.size := rfl
  have hs2 := hs1.drew.trans (hb2.mono hs1.size)
  have hz2 := hb2.size
  have hf : 0 < (dig B16 va.m).length → w2.heap.size ≤ blk p3 := fun h => by rcases hf3 h with h | h; exact h.elim; exact h
  exact givesF_close (hs2.trans (hb3.mono hs2.size)) hr3 hc3 (fun h => .inr (by have := hf h; omega)) (by omega) (fun h => by have := hf h; omega)

end Go.Proofs.YtlegnbigddhmlaaDoor

namespace Go.Proofs.YtlegnbigddhmlaaDoor
open Go.RowKit Go.Slip

instance decDv : DecidableEq Dv := fun a b => decidable_of_iff (a.neg = b.neg ∧ a.m = b.m ∧ a.e = b.e) ⟨fun h => Dv.ext' h.1 h.2.1 h.2.2, fun h => by subst h; exact ⟨rfl, rfl, rfl⟩⟩

set_option maxHeartbeats 1000000 in
theorem refSameNat_dec (p q : Option Addr) (n c m d : Nat) (xs ys : List Nat) (w : World) (hp : Rd w .u32 p xs) (hq : Rd w .u32 q ys) (hn : n = xs.length) (hm : m = ys.length) (hl : xs.length ≤ 1000000000) (_hl2 : ys.length ≤ 1000000000) :
    Calls Tryd.prog 26 #[.slice p n c, .slice q m d] w fun e w' => e = .returned (.bool (decide (xs = ys))) ∧ Below w.heap.size w w' := by
  by_cases he : xs = ys
  · have h1 : decide (xs = ys) = true := decide_eq_true he
    rw [h1]
    exact refSameNat_any p q n c m d xs ys w hp hq hn hm he (by omega)
  · subst hn hm
    have h1 : decide (xs = ys) = false := decide_eq_false he
    rw [h1]
    have hs1 := hp.solid
    have hs2 := hq.solid
    by_cases hlen : xs.length = ys.length
    · have HN : Hid (∃ j, j < xs.length ∧ dg xs j ≠ dg ys j) := by
        apply Classical.byContradiction
        intro hc
        apply he
        apply list_ext_dg hlen
        intro t ht
        apply Classical.byContradiction
        intro hne
        exact hc ⟨t, ht, hne⟩
      have HL := Lib.hid hlen
      rw [← hlen] at hs2
      rw [← hlen]
      clear he h1 hlen
      go_enter Tryd.func26, Tryd.ntmps26
      go_wp2
      go_loopw [5] (fun iv wr => ∃ (i : Nat), iv = .int .i64 i ∧ i ≤ xs.length ∧ Below w.heap.size w wr ∧ Hid (∀ j, j < i → dg xs j = dg ys j)) (fun iv _ => xs.length - (intOf iv).toNat)
      case atStart => exact ⟨0, rfl, Nat.zero_le _, Below.refl _ _, (show ∀ j, j < 0 → dg xs j = dg ys j from fun j hj => by omega)⟩
      case round =>
        obtain ⟨i, rfl, hi, hb, HE⟩ := hrel
        by_cases hlt : i < xs.length
        · have hc1 := (hp.past hb).cells i hlt
          have hc2 := (hq.past hb).cells i (by rw [← HL.out]; exact hlt)
          have i1 : (i : Int) < (xs.length : Int) := by omega
          have i0 : (0 : Int) ≤ (i : Int) := by omega
          by_cases hd : dg xs i = dg ys i
          · rw [← hd] at hc2
            have HS : Hid (∀ j, j < i + 1 → dg xs j = dg ys j) := fun j hj => by
              by_cases hji : j = i
              · subst hji; exact hd
              · exact HE.out j (by omega)
            clear hd
            go_wp2_with fail
            go_quiet (fail)
            go_wp2
            go_roundw
            case measure => simp [intOf]; omega
            case rel => exact ⟨i + 1, by go_num, hlt, hb.trans (below_drewN (Below.refl _ _) _), HS⟩
          · have h2 : (((dg xs i : Nat) : Int) == ((dg ys i : Nat) : Int)) = false := beq_eq_false_iff_ne.2 (by omega)
            have h3 : (((dg xs i : Nat) : Int) != ((dg ys i : Nat) : Int)) = true := by rw [bne, h2]; rfl
            clear hd
            go_wp2_with fail
            go_quiet (fail)
            go_wp2
            go_ret
            exact ⟨rfl, hb.trans (below_drewN (Below.refl _ _) _)⟩
        · exfalso
          obtain ⟨j, hj, hne⟩ := HN.out
          exact hne (HE.out j (by omega))
    · have h2 : ((xs.length : Int) == (ys.length : Int)) = false := beq_eq_false_iff_ne.2 (by omega)
      have h3 : ((xs.length : Int) != (ys.length : Int)) = true := by rw [bne, h2]; rfl
      clear he h1 hlen
      go_enter Tryd.func26, Tryd.ntmps26
      go_wp2
      go_ret
      exact ⟨rfl, Below.refl _ _⟩

set_option maxHeartbeats 1000000 in
theorem refSameDyad_dec (g h : Bool) (p q : Option Addr) (n c m d : Nat) (e f : Int) (a b : Nat) (w : World) (hp : Rd w .u32 p (dig B32 a)) (hq : Rd w .u32 q (dig B32 b)) (hn : n = (dig B32 a).length) (hm : m = (dig B32 b).length) (hl : (dig B32 a).length ≤ 1000000000) (hl2 : (dig B32 b).length ≤ 1000000000) :
    Calls Tryd.prog 17 #[.agg #[.bool g, .slice p n c, .int .i64 e], .agg #[.bool h, .slice q m d, .int .i64 f]] w fun en w' => en = .returned (.bool (decide ((⟨g, a, e⟩ : Dv) = ⟨h, b, f⟩))) ∧ Below w.heap.size w w' := by
  subst hn hm
  have hs1 := two_laid w (.cells #[.bool g, .slice p (dig B32 a).length c, .int .i64 e] 30) (.cells #[.bool h, .slice q (dig B32 b).length d, .int .i64 f] 30)
  have hp1 := (hp.laid (.cells #[.bool g, .slice p (dig B32 a).length c, .int .i64 e] 30)).laid (.cells #[.bool h, .slice q (dig B32 b).length d, .int .i64 f] 30)
  have hq1 := (hq.laid (.cells #[.bool g, .slice p (dig B32 a).length c, .int .i64 e] 30)).laid (.cells #[.bool h, .slice q (dig B32 b).length d, .int .i64 f] 30)
  by_cases hg : g = h
  · by_cases he : e = f
    · subst hg he
      have h1 : decide ((⟨g, a, e⟩ : Dv) = ⟨g, b, e⟩) = decide (dig B32 a = dig B32 b) := by
        by_cases hab : a = b
        · subst hab; simp
        · rw [decide_eq_false (fun h => hab (congrArg Dv.m h)), decide_eq_false (fun h => hab (dig_inj B32_two h))]
      rw [h1]
      clear h1
      have t1 : (g == g) = true := by simp
      have t2 : (e == e) = true := by simp
      go_enter Tryd.func17, Tryd.ntmps17
      go_wp2_with fail
      ((with_reducible refine (refSameNat_dec p q _ c _ d (dig B32 a) (dig B32 b) _ hp1 hq1 rfl rfl hl hl2).mono ?_))
      rintro e2 w2 ⟨rfl, hb2⟩
      go_wp2
      go_ret
      exact ⟨rfl, hs1.trans (hb2.mono hs1.size)⟩
    · subst hg
      have h1 : decide ((⟨g, a, e⟩ : Dv) = ⟨g, b, f⟩) = false := decide_eq_false (fun h => he (congrArg Dv.e h))
      rw [h1]
      have t1 : (g == g) = true := by simp
      have t2 : (e == f) = false := beq_eq_false_iff_ne.2 he
      clear h1 he
      go_enter Tryd.func17, Tryd.ntmps17
      go_wp2
      go_ret
      exact ⟨rfl, hs1⟩
  · have h1 : decide ((⟨g, a, e⟩ : Dv) = ⟨h, b, f⟩) = false := decide_eq_false (fun h => hg (congrArg Dv.neg h))
    rw [h1]
    have t1 : (g == h) = false := by simpa using hg
    clear h1 hg
    go_enter Tryd.func17, Tryd.ntmps17
    go_wp2
    go_ret
    exact ⟨rfl, hs1⟩

theorem givesDE_zero {w wk : World} {base b : Nat} {er : Int} {v0 v1 v2 : Value} (hs : Below w.heap.size w wk) (hB : w.heap.size ≤ b) :
    GivesDE w base ⟨false, 0, 0⟩ er (.returned (.tuple #[.agg #[.bool false, .slice none 0 0, .int .i64 0], .int .i64 er])) (((wk.setCell ⟨b, 0, none⟩ v0).setCell ⟨b, 1, none⟩ v1).setCell ⟨b, 2, none⟩ v2) :=
  ⟨none, 0, by rw [dig_zero]; rfl, by rw [dig_zero]; exact Own.nil _ _ _ _, ((hs.setCell (by simp; omega) _).setCell (by simp; omega) _).setCell (by simp; omega) _⟩

theorem errD_many {d : Dv} (h : 1200 < (dig B32 d.m).length) : errD d = 2 ∧ doneD d = ⟨false, 0, 0⟩ := by
  have he : errD d = 2 := by unfold errD; rw [if_pos h]
  exact ⟨he, by unfold doneD; rw [he, if_neg (by omega)]; rfl⟩
theorem errD_far {d : Dv} (h : ¬ 1200 < (dig B32 d.m).length) (h2 : d.e < -20000 ∨ 20000 < d.e) : errD d = 3 ∧ doneD d = ⟨false, 0, 0⟩ := by
  have he : errD d = 3 := by unfold errD; rw [if_neg h, if_pos h2]
  exact ⟨he, by unfold doneD; rw [he, if_neg (by omega)]; rfl⟩
theorem errD_ok {d : Dv} (h : ¬ 1200 < (dig B32 d.m).length) (h2 : ¬ (d.e < -20000 ∨ 20000 < d.e)) : errD d = 0 ∧ doneD d = d := by
  have he : errD d = 0 := by unfold errD; rw [if_neg h, if_neg h2]
  exact ⟨he, by unfold doneD; rw [he, if_pos rfl]⟩

set_option maxHeartbeats 2000000 in
theorem refToDyad_any (g : Bool) (p : Option Addr) (n c : Nat) (e : Int) (m : Nat) (w : World) (hp : Rd w .i64 p (dig B16 m)) (hn : n = (dig B16 m).length) (hl : (dig B16 m).length ≤ 100000000) :
    Calls Tryd.prog 44 #[.agg #[.bool g, .slice p n c, .int .i64 e]] w (GivesDE w w.heap.size (doneD ⟨g, m, e⟩) (errD ⟨g, m, e⟩)) := by
  subst hn
  obtain ⟨W1, hW1, hs1, A1, R1, hz1⟩ := box2s w (.bool g) (.slice p (dig B16 m).length c) (.int .i64 e) (.bool false) (.slice none 0 0) (.int .i64 0) 35 30
  have hp1 := hp.past hs1
  have a1 := A1.c1
  have HW1 := Lib.hid hW1
  clear hW1
  by_cases h1 : 1200 < (dig B32 m).length
  · obtain ⟨he, hd⟩ := errD_many (d := ⟨g, m, e⟩) h1
    rw [he, hd]
    clear he hd
    go_enter Tryd.func44, Tryd.ntmps44
    go_wp2_with fail
    rw [← HW1.out]
    clear HW1
    ((with_reducible refine (refTo_any p _ c m _ _ rfl hp1 rfl (by omega)).mono ?_))
    rintro e2 w2 ⟨p2, c2, rfl, ho2, hb2⟩
    obtain ⟨d0, d1, d2, f0, f1, f2, dlt⟩ := R1.past hb2
    go_wp2_with fail
    refine bodyPost_ret (v := .tuple #[.agg #[.bool false, .slice none 0 0, .int .i64 0], .int .i64 2]) (by simp [results, Tryd.results44, go_sem, d0, d1, d2]) rfl ?_
    exact givesDE_zero (hs1.trans (hb2.mono hs1.size)) (by omega)
  · by_cases h2 : e < -20000 ∨ 20000 < e
    · obtain ⟨he, hd⟩ := errD_far (d := ⟨g, m, e⟩) h1 h2
      rw [he, hd]
      clear he hd
      rcases h2 with h2 | h2
      · go_enter Tryd.func44, Tryd.ntmps44
        go_wp2_with fail
        rw [← HW1.out]
        clear HW1
        ((with_reducible refine (refTo_any p _ c m _ _ rfl hp1 rfl (by omega)).mono ?_))
        rintro e2 w2 ⟨p2, c2, rfl, ho2, hb2⟩
        obtain ⟨d0, d1, d2, f0, f1, f2, dlt⟩ := R1.past hb2
        have a2 := (A1.past hb2).c2
        go_wp2_with fail
        refine bodyPost_ret (v := .tuple #[.agg #[.bool false, .slice none 0 0, .int .i64 0], .int .i64 3]) (by simp [results, Tryd.results44, go_sem, d0, d1, d2]) rfl ?_
        exact givesDE_zero (hs1.trans (hb2.mono hs1.size)) (by omega)
      · have h3 : ¬ e < -20000 := by omega
        go_enter Tryd.func44, Tryd.ntmps44
        go_wp2_with fail
        rw [← HW1.out]
        clear HW1
        ((with_reducible refine (refTo_any p _ c m _ _ rfl hp1 rfl (by omega)).mono ?_))
        rintro e2 w2 ⟨p2, c2, rfl, ho2, hb2⟩
        obtain ⟨d0, d1, d2, f0, f1, f2, dlt⟩ := R1.past hb2
        have a2 := (A1.past hb2).c2
        go_wp2_with fail
        refine bodyPost_ret (v := .tuple #[.agg #[.bool false, .slice none 0 0, .int .i64 0], .int .i64 3]) (by simp [results, Tryd.results44, go_sem, d0, d1, d2]) rfl ?_
        exact givesDE_zero (hs1.trans (hb2.mono hs1.size)) (by omega)
    · obtain ⟨he, hd⟩ := errD_ok (d := ⟨g, m, e⟩) h1 h2
      rw [he, hd]
      have h3 : ¬ e < -20000 := by omega
      have h4 : ¬ 20000 < e := by omega
      clear he hd h2
      go_enter Tryd.func44, Tryd.ntmps44
      go_wp2_with fail
      rw [← HW1.out]
      clear HW1
      ((with_reducible refine (refTo_any p _ c m _ _ rfl hp1 rfl (by omega)).mono ?_))
      rintro e2 w2 ⟨p2, c2, rfl, ho2, hb2⟩
      obtain ⟨d0, d1, d2, f0, f1, f2, dlt⟩ := R1.past hb2
      have a2 := (A1.past hb2).c2
      have a0 := (A1.past hb2).c0
      go_wp2_with fail
      refine bodyPost_ret (v := .tuple #[.agg #[.bool g, .slice p2 (dig B32 m).length c2, .int .i64 e], .int .i64 0]) (by simp [results, Tryd.results44, go_sem, d0, d1, d2]) rfl ?_
      exact givesDE_close (d := ⟨g, m, e⟩) (hs1.trans (hb2.mono hs1.size)) ho2 (by omega) (by omega) (fun h => by have := (ho2.blk_lt h).1; omega)

end Go.Proofs.YtlegnbigddhmlaaDoor

namespace Go.Proofs.YtlegnbigddhmlaaDoor
open Go.RowKit Go.Slip

theorem len_shl16 (a N : Nat) : (dig B16 (a * 2 ^ N)).length ≤ (dig B16 a).length + (N / 16 + 1) := by
  refine Nat.le_trans (dig_len_mul B16_two _ _) ?_
  have : (dig B16 (2 ^ N)).length = N / 16 + 1 := by rw [← pow2_dig (B := B16) (w := 16) (by decide) (by omega) N]; simp
  omega


/-- The exponent that both have, ahead of the second test. -/
def plusE0 (a : Nat) (e f : Int) : Int := if a = 0 then f else min e f

theorem plusE_eq (g h : Bool) (a b : Nat) (e f : Int) : plusE ⟨g, a, e⟩ ⟨h, b, f⟩ = if b = 0 then e else plusE0 a e f := rfl

theorem len_eq_zero (a : Nat) : (((dig B16 a).length : Int) == 0) = decide (a = 0) := by
  have := dig_len_zero B16_two a
  by_cases h : a = 0
  · subst h; rw [dig_zero]; rfl
  · rw [decide_eq_false h]; exact beq_eq_false_iff_ne.2 (by omega)

set_option maxHeartbeats 4000000 in
set_option maxRecDepth 100000 in
theorem refDPlus_any (g h : Bool) (p q : Option Addr) (n c m d : Nat) (e f : Int) (a b : Nat) (w : World) (hp : Rd w .i64 p (dig B16 a)) (hq : Rd w .i64 q (dig B16 b)) (hn : n = (dig B16 a).length) (hm : m = (dig B16 b).length)
    (hl : (dig B16 a).length ≤ 1000000) (hl2 : (dig B16 b).length ≤ 1000000) (he : -1000000 ≤ e ∧ e ≤ 1000000) (hf : -1000000 ≤ f ∧ f ≤ 1000000) :
    Calls Tryd.prog 34 #[.agg #[.bool g, .slice p n c, .int .i64 e], .agg #[.bool h, .slice q m d, .int .i64 f]] w (GivesF w (fun _ => False) (rPlus ⟨g, a, e⟩ ⟨h, b, f⟩)) := by
  subst hn hm
  obtain ⟨W1, hW1, hs1, A1, B1, R1, hz1⟩ := box3s w (.bool g) (.slice p (dig B16 a).length c) (.int .i64 e) (.bool h) (.slice q (dig B16 b).length d) (.int .i64 f) (.bool false) (.slice none 0 0) (.int .i64 0) 35 35 35
  have hp1 := hp.past hs1
  have hq1 := hq.past hs1
  have a1 := A1.c1
  have a2 := A1.c2
  have b1 := B1.c1
  have b2 := B1.c2
  have HW1 := Lib.hid hW1
  clear hW1
  have za := len_eq_zero a
  have zb := len_eq_zero b
  go_enter Tryd.func34, Tryd.ntmps34
  go_upto_if 16 with (fail)
  rw [← HW1.out]
  clear HW1
  go_cut [5] (fun s5 wx => s5 = .int .i64 (plusE0 a e f) ∧ wx = W1)
  case first =>
    go_wp2_with fail
    all_goals go_meet
    all_goals (refine ⟨?_, rfl⟩; unfold plusE0; simp [*])
  case rest =>
    obtain ⟨rfl, rfl⟩ := hcut
    go_upto_if 22 with (fail)
    go_cut [5] (fun s5 wx => s5 = .int .i64 (plusE ⟨g, a, e⟩ ⟨h, b, f⟩) ∧ wx = wc)
    case first =>
      go_wp2_with fail
      all_goals go_meet
      all_goals (refine ⟨?_, rfl⟩; rw [plusE_eq]; simp [*])
    case rest =>
      obtain ⟨rfl, rfl⟩ := hcut
      clear za zb
      go_wp2_with fail
      clear a1 a2 b1 b2
      obtain ⟨w1, hw1⟩ : ∃ w1, w1 = wc := ⟨_, rfl⟩
      subst hw1
      have HJ := Lib.hid (show rPlus ⟨g, a, e⟩ ⟨h, b, f⟩ = bare (joinD g h (a * 2 ^ (e - plusE ⟨g, a, e⟩ ⟨h, b, f⟩).toNat) (b * 2 ^ (f - plusE ⟨g, a, e⟩ ⟨h, b, f⟩).toNat) (plusE ⟨g, a, e⟩ ⟨h, b, f⟩)) from rfl)
      have hk1 : -1000000 ≤ plusE ⟨g, a, e⟩ ⟨h, b, f⟩ ∧ plusE ⟨g, a, e⟩ ⟨h, b, f⟩ ≤ 1000000 := by unfold plusE; simp only; split; omega; split; omega; omega
      generalize plusE ⟨g, a, e⟩ ⟨h, b, f⟩ = k at *
      obtain ⟨N1, hN1⟩ : ∃ N1, N1 = (e - k).toNat := ⟨_, rfl⟩
      obtain ⟨N2, hN2⟩ : ∃ N2, N2 = (f - k).toNat := ⟨_, rfl⟩
      rw [← hN1, ← hN2] at HJ
      have n1 : N1 ≤ 2000000 := by omega
      have n2 : N2 ≤ 2000000 := by omega
      have e1 : IntKind.i64.wrap (e - k) = e - k := IntWalk.i64_in _ (by omega)
      have e2 : IntKind.i64.wrap (f - k) = f - k := IntWalk.i64_in _ (by omega)
      have m1 : max 0 (e - k) = (N1 : Int) := by omega
      have m2 : max 0 (f - k) = (N2 : Int) := by omega
      clear hN1 hN2
      go_cut [6, 7] (fun s6 s7 wx => ∃ (px : Option Addr) (cx : Nat) (py : Option Addr) (cy : Nat), s6 = .slice px (dig B16 (a * 2 ^ N1)).length cx ∧ s7 = .slice py (dig B16 (b * 2 ^ N2)).length cy ∧
        Rd wx .i64 px (dig B16 (a * 2 ^ N1)) ∧ Rd wx .i64 py (dig B16 (b * 2 ^ N2)) ∧ Below w1.heap.size w1 wx)
      case first =>
        go_region_held3 (fun w' => (w'.cell? ⟨w.heap.size, 1, none⟩ = some (.slice p (dig B16 a).length c) ∧ w'.cell? ⟨w.heap.size, 2, none⟩ = some (.int .i64 e)) ∧
            (w'.cell? ⟨w.heap.size + 1, 1, none⟩ = some (.slice q (dig B16 b).length d) ∧ w'.cell? ⟨w.heap.size + 1, 2, none⟩ = some (.int .i64 f)))
          (first | exact ⟨⟨A1.c1, A1.c2⟩, B1.c1, B1.c2⟩
                 | (have D1 := A1.drew; have D2 := B1.drew; exact ⟨⟨D1.c1, D1.c2⟩, D2.c1, D2.c2⟩)
                 | (have D1 := (A1.drew.past hbx).past hby; have D2 := (B1.drew.past hbx).past hby; exact ⟨⟨D1.c1, D1.c2⟩, D2.c1, D2.c2⟩)
                 | (have D1 := (A1.drew.past hby).past hbx; have D2 := (B1.drew.past hby).past hbx; exact ⟨⟨D1.c1, D1.c2⟩, D2.c1, D2.c2⟩)
                 | (have D1 := A1.drew.past hbx; have D2 := B1.drew.past hbx; exact ⟨⟨D1.c1, D1.c2⟩, D2.c1, D2.c2⟩)
                 | (have D1 := A1.drew.past hby; have D2 := B1.drew.past hby; exact ⟨⟨D1.c1, D1.c2⟩, D2.c1, D2.c2⟩))
          (first
            | (go_at_call_of 57 (Value.slice p (dig B16 a).length c); refine (refUp_any p _ c a N1 _ ?_ rfl (by clear e1 e2 m1 m2; omega) (by clear e1 e2 m1 m2; omega)).mono ?_; (first | exact hp1.drew | exact hp1.drew.past hby); rintro ex wx ⟨px, cx, rfl, hrx, hcx, hfx, hbx⟩)
            | (go_at_call_of 57 (Value.slice q (dig B16 b).length d); refine (refUp_any q _ d b N2 _ ?_ rfl (by clear e1 e2 m1 m2; omega) (by clear e1 e2 m1 m2; omega)).mono ?_; (first | exact hq1.drew | exact hq1.drew.past hbx); rintro ey wy ⟨py, cy, rfl, hry, hcy, hfy, hby⟩))
        all_goals (clear e1 e2 m1 m2)
        all_goals (go_wp2_with fail)
        all_goals go_meet
        all_goals (first
          | exact ⟨px, cx, py, cy, rfl, rfl, hrx.past hby, hry, ((Below.refl _ _).drew.trans hbx).trans (hby.mono hbx.size)⟩
          | exact ⟨px, cx, py, cy, rfl, rfl, hrx, hry.past hbx, ((Below.refl _ _).drew.trans hby).trans (hbx.mono hby.size)⟩)
      case rest =>
        obtain ⟨px, cx, py, cy, rfl, rfl, hrx, hry, hb4⟩ := hcut
        clear e1 e2 m1 m2
        have lX : (dig B16 (a * 2 ^ N1)).length ≤ 2000000 := by have := len_shl16 a N1; omega
        have lY : (dig B16 (b * 2 ^ N2)).length ≤ 2000000 := by have := len_shl16 b N2; omega
        generalize a * 2 ^ N1 = x at *
        generalize b * 2 ^ N2 = y at *
        have hs4 := hs1.trans (hb4.mono hs1.size)
        have A4 := A1.past hb4
        have B4 := B1.past hb4
        have R4 := R1.past hb4
        have a0 := A4.c0
        have b0 := B4.c0
        have hzc := hb4.size
        clear a0 b0
        have hxy0 : 0 ≤ k + 1000000 := by omega
        by_cases hgh : g = h
        · subst hgh
          have HK := Lib.hid (HJ.out.trans (congrArg bare (show joinD g g x y k = ⟨g, x + y, k⟩ by unfold joinD; rw [if_pos rfl])))
          have hgg : (g == g) = true := by simp
          have lm : (dig B16 (x + y)).length ≤ 5000000 := by have := dig_len_add B16_two x y; omega
          have a0 := A4.c0
          have b0 := B4.c0
          go_wp2_with fail
          clear a0 b0
          obtain ⟨m, hm⟩ : ∃ m, x + y = m := ⟨_, rfl⟩
          have HM := Lib.hid hm
          rw [hm] at HK lm
          clear hm
          go_region_held3 (fun w' => w'.cell? ⟨w.heap.size, 0, none⟩ = some (.bool g))
            (first | exact A4.c0 | exact A4.drew.c0 | exact (A4.drew.past hb6).c0 | exact ((A4.drew.past hb6).past hb7).c0 | exact (((((A4.drew.past hb6).past hb7).set (by omega)).set (by omega)).set (by omega)).c0)
            (first | (go_at_call 58; refine (refPlus_any px py _ _ cx cy x y _ hrx.drew hry.drew rfl rfl (by omega)).mono ?_; rw [HM.out]; rintro e6 w6 ⟨p6, c6, rfl, hr6, hc6, hf6, hb6⟩)
                   | (go_at_call 10; refine (refBared_any g p6 _ c6 k m _ hr6 rfl (by omega) (by omega)).mono ?_; generalize bare ⟨g, m, k⟩ = rr at *; rintro e7 w7 ⟨p7, c7, rfl, hr7, hc7, hf7, hb7⟩; obtain ⟨d0, d1, d2, f0, f1, f2, dlt⟩ := (R4.drew.past hb6).past hb7))
          all_goals (go_wp2_with fail)
          refine bodyPost_ret (v := .agg #[.bool rr.neg, .slice p7 (dig B16 rr.m).length c7, .int .i64 rr.e]) (by simp [results, Tryd.results34, go_sem, d0, d1, d2]) rfl ?_
          rw [HK.out]
          have hzd : wc.drew.heap.size = wc.heap.size := rfl
          have hs6 := hs4.drew.trans (hb6.mono hs4.size)
          have hz6 := hb6.size
          have hzR := R4.lt
          have hzS := hs4.size
          have hf : 0 < (dig B16 rr.m).length → w6.heap.size ≤ blk p7 := fun h => by rcases hf7 h with h | h; exact h.elim; exact h
          exact givesF_close (hs6.trans (hb7.mono hs6.size)) hr7 hc7 (fun h => .inr (by have := hf h; omega)) (by omega) (fun h => by have := hf h; omega)
        · by_cases hxy : y ≤ x
          · have HK := Lib.hid (HJ.out.trans (congrArg bare (show joinD g h x y k = ⟨g, x - y, k⟩ by unfold joinD; rw [if_neg hgh, if_pos hxy])))
            have hgg : (g == h) = false := by simpa using hgh
            have hC : 0 ≤ cmpN x y := by unfold cmpN; rw [if_neg (by omega)]; split <;> omega
            have HXY := Lib.hid hxy
            have lm : (dig B16 (x - y)).length ≤ 5000000 := by have := dig_len_mono B16_two (Nat.sub_le x y); omega
            clear hxy hgh
            have a0 := A4.c0
            have b0 := B4.c0
            go_wp2_with fail
            ((with_reducible refine (refCmp_any px py _ _ cx cy x y _ hrx hry rfl rfl (by omega) (by omega)).mono ?_))
            rintro e9 w9 ⟨rfl, hb9⟩
            clear a0 b0
            have hs9 := hs4.trans (hb9.mono hs4.size)
            have hz9 := hb9.size
            replace A4 := A4.past hb9
            replace B4 := B4.past hb9
            replace R4 := R4.past hb9
            replace hrx := hrx.past hb9
            replace hry := hry.past hb9
            go_wp2_with fail
            obtain ⟨m, hm⟩ : ∃ m, x - y = m := ⟨_, rfl⟩
            have HM := Lib.hid hm
            rw [hm] at HK lm
            clear hm
            go_region_held3 (fun w' => w'.cell? ⟨w.heap.size, 0, none⟩ = some (.bool g))
              (first | exact A4.c0 | exact A4.drew.c0 | exact (A4.drew.past hb6).c0 | exact ((A4.drew.past hb6).past hb7).c0 | exact (((((A4.drew.past hb6).past hb7).set (by omega)).set (by omega)).set (by omega)).c0)
              (first | (go_at_call 60; refine (refLess_any px py _ _ cx cy x y _ hrx.drew hry.drew rfl rfl (by omega) HXY.out).mono ?_; rw [HM.out]; rintro e6 w6 ⟨p6, c6, rfl, hr6, hc6, hf6, hb6⟩)
                     | (go_at_call 10; refine (refBared_any g p6 _ c6 k m _ hr6 rfl (by omega) (by omega)).mono ?_; generalize bare ⟨g, m, k⟩ = rr at *; rintro e7 w7 ⟨p7, c7, rfl, hr7, hc7, hf7, hb7⟩; obtain ⟨d0, d1, d2, f0, f1, f2, dlt⟩ := (R4.drew.past hb6).past hb7))
            all_goals (go_wp2_with fail)
            refine bodyPost_ret (v := .agg #[.bool rr.neg, .slice p7 (dig B16 rr.m).length c7, .int .i64 rr.e]) (by simp [results, Tryd.results34, go_sem, d0, d1, d2]) rfl ?_
            rw [HK.out]
            have hzd : w9.drew.heap.size = w9.heap.size := rfl
            have hs6 := hs9.drew.trans (hb6.mono hs9.size)
            have hz6 := hb6.size
            have hzR := R4.lt
            have hzS := hs9.size
            have hf : 0 < (dig B16 rr.m).length → w6.heap.size ≤ blk p7 := fun h => by rcases hf7 h with h | h; exact h.elim; exact h
            exact givesF_close (hs6.trans (hb7.mono hs6.size)) hr7 hc7 (fun h => .inr (by have := hf h; omega)) (by omega) (fun h => by have := hf h; omega)
          · have HK := Lib.hid (HJ.out.trans (congrArg bare (show joinD g h x y k = ⟨h, y - x, k⟩ by unfold joinD; rw [if_neg hgh, if_neg hxy])))
            have hgg : (g == h) = false := by simpa using hgh
            have hC : cmpN x y ≤ -1 := by rw [cmpN_lt (by omega)]; omega
            have HXY := Lib.hid (show x ≤ y by omega)
            have lm : (dig B16 (y - x)).length ≤ 5000000 := by have := dig_len_mono B16_two (Nat.sub_le y x); omega
            clear hxy hgh
            have a0 := A4.c0
            have b0 := B4.c0
            go_wp2_with fail
            ((with_reducible refine (refCmp_any px py _ _ cx cy x y _ hrx hry rfl rfl (by omega) (by omega)).mono ?_))
            rintro e9 w9 ⟨rfl, hb9⟩
            clear a0 b0
            have hs9 := hs4.trans (hb9.mono hs4.size)
            have hz9 := hb9.size
            replace A4 := A4.past hb9
            replace B4 := B4.past hb9
            replace R4 := R4.past hb9
            replace hrx := hrx.past hb9
            replace hry := hry.past hb9
            go_wp2_with fail
            obtain ⟨m, hm⟩ : ∃ m, y - x = m := ⟨_, rfl⟩
            have HM := Lib.hid hm
            rw [hm] at HK lm
            clear hm
            go_region_held3 (fun w' => w'.cell? ⟨w.heap.size + 1, 0, none⟩ = some (.bool h))
              (first | exact B4.c0 | exact B4.drew.c0 | exact (B4.drew.past hb6).c0 | exact ((B4.drew.past hb6).past hb7).c0 | exact (((((B4.drew.past hb6).past hb7).set (by omega)).set (by omega)).set (by omega)).c0)
              (first | (go_at_call 60; refine (refLess_any py px _ _ cy cx y x _ hry.drew hrx.drew rfl rfl (by omega) HXY.out).mono ?_; rw [HM.out]; rintro e6 w6 ⟨p6, c6, rfl, hr6, hc6, hf6, hb6⟩)
                     | (go_at_call 10; refine (refBared_any h p6 _ c6 k m _ hr6 rfl (by omega) (by omega)).mono ?_; generalize bare ⟨h, m, k⟩ = rr at *; rintro e7 w7 ⟨p7, c7, rfl, hr7, hc7, hf7, hb7⟩; obtain ⟨d0, d1, d2, f0, f1, f2, dlt⟩ := (R4.drew.past hb6).past hb7))
            all_goals (go_wp2_with fail)
            refine bodyPost_ret (v := .agg #[.bool rr.neg, .slice p7 (dig B16 rr.m).length c7, .int .i64 rr.e]) (by simp [results, Tryd.results34, go_sem, d0, d1, d2]) rfl ?_
            rw [HK.out]
            have hzd : w9.drew.heap.size = w9.heap.size := rfl
            have hs6 := hs9.drew.trans (hb6.mono hs9.size)
            have hz6 := hb6.size
            have hzR := R4.lt
            have hzS := hs9.size
            have hf : 0 < (dig B16 rr.m).length → w6.heap.size ≤ blk p7 := fun h => by rcases hf7 h with h | h; exact h.elim; exact h
            exact givesF_close (hs6.trans (hb7.mono hs6.size)) hr7 hc7 (fun h => .inr (by have := hf h; omega)) (by omega) (fun h => by have := hf h; omega)

end Go.Proofs.YtlegnbigddhmlaaDoor

namespace Go.Proofs.YtlegnbigddhmlaaDoor
open Go.RowKit Go.Slip

set_option maxHeartbeats 2000000 in
set_option maxRecDepth 100000 in
theorem refDTimes_any (g h : Bool) (p q : Option Addr) (n c m d : Nat) (e f : Int) (a b : Nat) (w : World) (hp : Rd w .i64 p (dig B16 a)) (hq : Rd w .i64 q (dig B16 b)) (hn : n = (dig B16 a).length) (hm : m = (dig B16 b).length)
    (hl : (dig B16 a).length ≤ 1000000) (hl2 : (dig B16 b).length ≤ 1000000) (he : -1000000 ≤ e ∧ e ≤ 1000000) (hf : -1000000 ≤ f ∧ f ≤ 1000000) :
    Calls Tryd.prog 9 #[.agg #[.bool g, .slice p n c, .int .i64 e], .agg #[.bool h, .slice q m d, .int .i64 f]] w (GivesF w (fun _ => False) (dTimes ⟨g, a, e⟩ ⟨h, b, f⟩)) := by
  subst hn hm
  obtain ⟨W1, hW1, hs1, A1, B1, R1, hz1⟩ := box3s w (.bool g) (.slice p (dig B16 a).length c) (.int .i64 e) (.bool h) (.slice q (dig B16 b).length d) (.int .i64 f) (.bool false) (.slice none 0 0) (.int .i64 0) 35 35 35
  have hp1 := hp.past hs1
  have hq1 := hq.past hs1
  have HW1 := Lib.hid hW1
  obtain ⟨m, hm⟩ : ∃ m, a * b = m := ⟨_, rfl⟩
  have HM := Lib.hid hm
  have HJ := Lib.hid (show dTimes ⟨g, a, e⟩ ⟨h, b, f⟩ = bare ⟨!(g == h), m, e + f⟩ by rw [← hm]; unfold dTimes; cases g <;> cases h <;> rfl)
  have lm : (dig B16 m).length ≤ 5000000 := by rw [← hm]; have := dig_len_mul B16_two a b; omega
  have e1 : IntKind.i64.wrap (e + f) = e + f := IntWalk.i64_in _ (by omega)
  have hr3 : -1000000000 ≤ e + f ∧ e + f ≤ 1000000000 := ⟨by omega, by omega⟩
  clear hm hW1
  go_enter Tryd.func9, Tryd.ntmps9
  go_wp2_with fail
  rw [← HW1.out]
  clear HW1
  go_region_held3 (fun w' => (w'.cell? ⟨w.heap.size, 0, none⟩ = some (.bool g) ∧ w'.cell? ⟨w.heap.size, 1, none⟩ = some (.slice p (dig B16 a).length c) ∧ w'.cell? ⟨w.heap.size, 2, none⟩ = some (.int .i64 e)) ∧
      (w'.cell? ⟨w.heap.size + 1, 0, none⟩ = some (.bool h) ∧ w'.cell? ⟨w.heap.size + 1, 1, none⟩ = some (.slice q (dig B16 b).length d) ∧ w'.cell? ⟨w.heap.size + 1, 2, none⟩ = some (.int .i64 f)))
    (first | exact ⟨⟨A1.c0, A1.c1, A1.c2⟩, B1.c0, B1.c1, B1.c2⟩
           | (have D1 := A1.drew; have D2 := B1.drew; exact ⟨⟨D1.c0, D1.c1, D1.c2⟩, D2.c0, D2.c1, D2.c2⟩)
           | (have D1 := A1.drew.past hb2; have D2 := B1.drew.past hb2; exact ⟨⟨D1.c0, D1.c1, D1.c2⟩, D2.c0, D2.c1, D2.c2⟩)
           | (have D1 := (A1.drew.past hb2).past hb3; have D2 := (B1.drew.past hb2).past hb3; exact ⟨⟨D1.c0, D1.c1, D1.c2⟩, D2.c0, D2.c1, D2.c2⟩)
           | (have D1 := (A1.drew.past hb2).past hb3; have D2 := (B1.drew.past hb2).past hb3; clear e1; exact ⟨⟨(((D1.set (by omega)).set (by omega)).set (by omega)).c0, (((D1.set (by omega)).set (by omega)).set (by omega)).c1, (((D1.set (by omega)).set (by omega)).set (by omega)).c2⟩, (((D2.set (by omega)).set (by omega)).set (by omega)).c0, (((D2.set (by omega)).set (by omega)).set (by omega)).c1, (((D2.set (by omega)).set (by omega)).set (by omega)).c2⟩))
    (first
      | (go_at_call 28; refine (refTimes_any p q _ _ c d a b _ hp1.drew hq1.drew rfl rfl (by clear e1; omega)).mono ?_; rw [HM.out]; rintro ex w2 ⟨p2, c2, rfl, hr2, hc2, hf2, hb2⟩)
      | (go_at_call 10; refine (refBared_any (!(g == h)) p2 _ c2 (e + f) m _ hr2 rfl (by clear e1; omega) hr3).mono ?_; generalize bare ⟨!(g == h), m, e + f⟩ = rr at *; rintro ex w3 ⟨p3, c3, rfl, hr3', hc3, hf3, hb3⟩; obtain ⟨d0, d1, d2, f0, f1, f2, dlt⟩ := (R1.drew.past hb2).past hb3))
  all_goals (go_wp2_with fail)
  refine bodyPost_ret (v := .agg #[.bool rr.neg, .slice p3 (dig B16 rr.m).length c3, .int .i64 rr.e]) (by simp [results, Tryd.results9, go_sem, d0, d1, d2]) rfl ?_
  rw [HJ.out]
  clear e1
  have hs2 := hs1.drew.trans (hb2.mono hs1.size)
  have hzd : W1.drew.heap.size = W1.heap.size := rfl
  have hz2 := hb2.size
  have hf : 0 < (dig B16 rr.m).length → w2.heap.size ≤ blk p3 := fun h => by rcases hf3 h with h | h; exact h.elim; exact h
  exact givesF_close (hs2.trans (hb3.mono hs2.size)) hr3' hc3 (fun h => .inr (by have := hf h; omega)) (by omega) (fun h => by have := hf h; omega)

theorem GivesF.weaken {w w' : World} {P Q : Nat → Prop} {d : Dv} {en : Ending} (h : GivesF w P d en w') (hPQ : ∀ b, P b → Q b) : GivesF w Q d en w' := by
  obtain ⟨p, c, h1, h2, h3, h4, h5⟩ := h
  exact ⟨p, c, h1, h2, h3, fun h0 => (h4 h0).imp (hPQ _) id, h5⟩

set_option maxHeartbeats 1000000 in
theorem refMinus_any (P : Nat → Prop) (g : Bool) (p : Option Addr) (n c : Nat) (e : Int) (a : Nat) (w : World) (hp : Rd w .i64 p (dig B16 a)) (hn : n = (dig B16 a).length) (hc : n ≤ c) (hP : 0 < (dig B16 a).length → P (blk p)) :
    Calls Tryd.prog 22 #[.agg #[.bool g, .slice p n c, .int .i64 e]] w (GivesF w P (dMinus ⟨g, a, e⟩)) := by
  subst hn
  have hz := dig_len_zero B16_two a
  cases g
  · by_cases h0 : 0 < (dig B16 a).length
    · have t1 : decide ((0 : Int) < ((dig B16 a).length : Int)) = true := decide_eq_true (by omega)
      have hd : dMinus ⟨false, a, e⟩ = ⟨true, a, e⟩ := by unfold dMinus; simp; (try omega)
      rw [hd]
      clear hd hz
      go_enter Tryd.func22, Tryd.ntmps22
      go_wp2
      refine bodyPost_ret (v := .agg #[.bool true, .slice p (dig B16 a).length c, .int .i64 e]) (by simp [results, Tryd.results22, go_sem]) rfl ?_
      exact ⟨p, c, rfl, (hp.laid _).laid _, hc, fun h => .inl (hP h), two_laid _ _ _⟩
    · have t1 : decide ((0 : Int) < ((dig B16 a).length : Int)) = false := decide_eq_false (by omega)
      have hd : dMinus ⟨false, a, e⟩ = ⟨false, a, e⟩ := by unfold dMinus; simp; (try omega)
      rw [hd]
      clear hd hz
      go_enter Tryd.func22, Tryd.ntmps22
      go_wp2
      refine bodyPost_ret (v := .agg #[.bool false, .slice p (dig B16 a).length c, .int .i64 e]) (by simp [results, Tryd.results22, go_sem]) rfl ?_
      exact ⟨p, c, rfl, (hp.laid _).laid _, hc, fun h => .inl (hP h), two_laid _ _ _⟩
  · have t0 := True.intro
    have hd : dMinus ⟨true, a, e⟩ = ⟨false, a, e⟩ := by unfold dMinus; simp; (try omega)
    rw [hd]
    clear hd hz
    go_enter Tryd.func22, Tryd.ntmps22
    go_wp2
    refine bodyPost_ret (v := .agg #[.bool false, .slice p (dig B16 a).length c, .int .i64 e]) (by simp [results, Tryd.results22, go_sem]) rfl ?_
    exact ⟨p, c, rfl, (hp.laid _).laid _, hc, fun h => .inl (hP h), two_laid _ _ _⟩

end Go.Proofs.YtlegnbigddhmlaaDoor

namespace Go.Proofs.YtlegnbigddhmlaaDoor
open Go.RowKit Go.Slip

/-- The references' comparison. -/
theorem rCmp_cases (a b : Dv) : rCmp a b = if (rPlus a (dMinus b)).m = 0 then 0 else if (rPlus a (dMinus b)).neg then -1 else 1 := rfl

set_option maxHeartbeats 4000000 in
set_option maxRecDepth 100000 in
theorem refDCmp_any (g h : Bool) (p q : Option Addr) (n c m d : Nat) (e f : Int) (a b : Nat) (w : World) (hp : Rd w .i64 p (dig B16 a)) (hq : Rd w .i64 q (dig B16 b)) (hn : n = (dig B16 a).length) (hm : m = (dig B16 b).length) (hcm : m ≤ d)
    (hl : (dig B16 a).length ≤ 1000000) (hl2 : (dig B16 b).length ≤ 1000000) (he : -1000000 ≤ e ∧ e ≤ 1000000) (hf : -1000000 ≤ f ∧ f ≤ 1000000) :
    Calls Tryd.prog 13 #[.agg #[.bool g, .slice p n c, .int .i64 e], .agg #[.bool h, .slice q m d, .int .i64 f]] w fun en w' => en = .returned (.int .i64 (rCmp ⟨g, a, e⟩ ⟨h, b, f⟩)) ∧ Below w.heap.size w w' := by
  subst hn hm
  have hs1 := two_laid w (.cells #[.bool g, .slice p (dig B16 a).length c, .int .i64 e] 35) (.cells #[.bool h, .slice q (dig B16 b).length d, .int .i64 f] 35)
  have A1 := (box3_new w (.bool g) (.slice p (dig B16 a).length c) (.int .i64 e) 35).laid (.cells #[.bool h, .slice q (dig B16 b).length d, .int .i64 f] 35)
  have B1 := box3_new (w.alloc (.cells #[.bool g, .slice p (dig B16 a).length c, .int .i64 e] 35)) (.bool h) (.slice q (dig B16 b).length d) (.int .i64 f) 35
  simp only [World.size_alloc] at B1
  have hp1 := hp.past hs1
  have hq1 := hq.past hs1
  have HC := Lib.hid (rCmp_cases ⟨g, a, e⟩ ⟨h, b, f⟩)
  obtain ⟨mi, hmi⟩ : ∃ mi, dMinus ⟨h, b, f⟩ = mi := ⟨_, rfl⟩
  have hmm : mi.m = b ∧ mi.e = f := by rw [← hmi]; exact ⟨rfl, rfl⟩
  have HMI := Lib.hid hmi
  rw [hmi] at HC
  clear hmi
  obtain ⟨h', b', f'⟩ := mi
  simp only at hmm
  obtain ⟨rfl, rfl⟩ := hmm
  obtain ⟨⟨gr, mr, xr⟩, hr⟩ : ∃ r, rPlus ⟨g, a, e⟩ ⟨h', b', f'⟩ = r := ⟨_, rfl⟩
  rw [hr] at HC
  have HR := Lib.hid hr
  clear hr
  have hz := dig_len_zero B16_two mr
  obtain ⟨W1, hW1⟩ : ∃ W1, W1 = (w.alloc (.cells #[.bool g, .slice p (dig B16 a).length c, .int .i64 e] 35)).alloc (.cells #[.bool h, .slice q (dig B16 b').length d, .int .i64 f'] 35) := ⟨_, rfl⟩
  have hz1 : W1.heap.size = w.heap.size + 1 + 1 := by rw [hW1]; simp
  rw [← hW1] at hs1 A1 B1 hp1 hq1
  have HW1 := Lib.hid hW1
  clear hW1
  have HZ := Lib.hid hz
  clear hz
  go_enter Tryd.func13, Tryd.ntmps13
  go_wp2_with fail
  rw [← HW1.out]
  clear HW1
  go_cut [5] (fun s5 wx => ∃ (k : Nat) (pr : Option Addr) (cr : Nat), s5 = .pointer (some ⟨k, 0, none⟩) ∧ wx.cell? ⟨k, 0, none⟩ = some (.bool gr) ∧ wx.cell? ⟨k, 1, none⟩ = some (.slice pr (dig B16 mr).length cr) ∧ Below w.heap.size w wx)
  case first =>
    go_region_held3 (fun w' => (w'.cell? ⟨w.heap.size, 0, none⟩ = some (.bool g) ∧ w'.cell? ⟨w.heap.size, 1, none⟩ = some (.slice p (dig B16 a).length c) ∧ w'.cell? ⟨w.heap.size, 2, none⟩ = some (.int .i64 e)) ∧
        (w'.cell? ⟨w.heap.size + 1, 0, none⟩ = some (.bool h) ∧ w'.cell? ⟨w.heap.size + 1, 1, none⟩ = some (.slice q (dig B16 b').length d) ∧ w'.cell? ⟨w.heap.size + 1, 2, none⟩ = some (.int .i64 f')))
      (first | exact ⟨⟨(((A6.set hkA).set hkA).set hkA).c0, (((A6.set hkA).set hkA).set hkA).c1, (((A6.set hkA).set hkA).set hkA).c2⟩, (((B6.set hkB).set hkB).set hkB).c0, (((B6.set hkB).set hkB).set hkB).c1, (((B6.set hkB).set hkB).set hkB).c2⟩
             | exact ⟨⟨(A6.laid _).c0, (A6.laid _).c1, (A6.laid _).c2⟩, (B6.laid _).c0, (B6.laid _).c1, (B6.laid _).c2⟩
             | exact ⟨⟨(A6).c0, (A6).c1, (A6).c2⟩, (B6).c0, (B6).c1, (B6).c2⟩
             | exact ⟨⟨((A1.drew.laid _).past hb2).c0, ((A1.drew.laid _).past hb2).c1, ((A1.drew.laid _).past hb2).c2⟩, ((B1.drew.laid _).past hb2).c0, ((B1.drew.laid _).past hb2).c1, ((B1.drew.laid _).past hb2).c2⟩
             | exact ⟨⟨((A1.drew.past hb2).laid _).c0, ((A1.drew.past hb2).laid _).c1, ((A1.drew.past hb2).laid _).c2⟩, ((B1.drew.past hb2).laid _).c0, ((B1.drew.past hb2).laid _).c1, ((B1.drew.past hb2).laid _).c2⟩
             | exact ⟨⟨(A1.drew.past hb2).c0, (A1.drew.past hb2).c1, (A1.drew.past hb2).c2⟩, (B1.drew.past hb2).c0, (B1.drew.past hb2).c1, (B1.drew.past hb2).c2⟩
             | exact ⟨⟨(A1.drew.laid _).c0, (A1.drew.laid _).c1, (A1.drew.laid _).c2⟩, (B1.drew.laid _).c0, (B1.drew.laid _).c1, (B1.drew.laid _).c2⟩
             | exact ⟨⟨(A1.drew).c0, (A1.drew).c1, (A1.drew).c2⟩, (B1.drew).c0, (B1.drew).c1, (B1.drew).c2⟩
             | exact ⟨⟨(A1).c0, (A1).c1, (A1).c2⟩, (B1).c0, (B1).c1, (B1).c2⟩)
      (first
        | (go_at_call 22; refine (refMinus_any (fun _ => True) h q _ d f' b' _ ?_ rfl hcm (fun _ => trivial)).mono ?_; (first | exact hq1.drew | exact hq1.drew.laid _); rw [HMI.out]; rintro e2 w2 ⟨p2, c2, rfl, hr2, hc2, hf2, hb2⟩)
        | (go_at_call 34; refine (refDPlus_any g h' p p2 _ c _ c2 e f' a b' _ ?_ ?_ rfl rfl hl hl2 he hf).mono ?_; (first | exact hp1.drew.past hb2 | exact (hp1.drew.laid _).past hb2 | exact (hp1.drew.past hb2).laid _); (first | exact hr2 | exact hr2.laid _); rw [HR.out]; rintro e3 w3 ⟨p3, c3, rfl, hr3, hc3, hf3, hb3⟩; (first
            | (have K3 := ((box3_new W1.drew (.bool false) (.slice none 0 0) (.int .i64 0) 35).past hb2).past hb3; have hK3 : W1.drew.heap.size = W1.heap.size := rfl; rw [hK3, hz1] at K3; clear hK3; have KP := K3.put (.bool gr) (.slice p3 (dig B16 mr).length c3) (.int .i64 xr); obtain ⟨k0, k1, k2, k3, k4, k5, k6⟩ := K3; have hsA := (hs1.alloc hs1.size (.cells #[.bool false, .slice none 0 0, .int .i64 0] 35)).drew; have hs2 := hsA.trans (hb2.mono hsA.size); have hs3 := hs2.trans (hb3.mono hs2.size); have hkK : w.heap.size ≤ w.heap.size + 1 + 1 := Nat.le_succ_of_le (Nat.le_succ _); have A6 := ((A1.drew.laid _).past hb2).past hb3; have B6 := ((B1.drew.laid _).past hb2).past hb3; have hkA : w.heap.size < w.heap.size + 1 + 1 := Nat.lt_succ_of_lt (Nat.lt_succ_self _); have hkB : w.heap.size + 1 < w.heap.size + 1 + 1 := Nat.lt_succ_self _)
            | (have K3 := (box3_new w2 (.bool false) (.slice none 0 0) (.int .i64 0) 35).past hb3; have KP := K3.put (.bool gr) (.slice p3 (dig B16 mr).length c3) (.int .i64 xr); obtain ⟨k0, k1, k2, k3, k4, k5, k6⟩ := K3; have hs2 := hs1.drew.trans (hb2.mono hs1.size); have hkK : w.heap.size ≤ w2.heap.size := hs2.size; have hsA := hs2.alloc hs2.size (.cells #[.bool false, .slice none 0 0, .int .i64 0] 35); have hs3 := hsA.trans (hb3.mono hsA.size); have A6 := ((A1.drew.past hb2).laid _).past hb3; have B6 := ((B1.drew.past hb2).laid _).past hb3; have hkA : w.heap.size < w2.heap.size := (A1.drew.past hb2).lt; have hkB : w.heap.size + 1 < w2.heap.size := (B1.drew.past hb2).lt)
            | (have hs2 := hs1.drew.trans (hb2.mono hs1.size); have hs3 := hs2.trans (hb3.mono hs2.size); have A6 := (A1.drew.past hb2).past hb3; have B6 := (B1.drew.past hb2).past hb3))))
    all_goals (go_wp2_with fail)
    all_goals go_meet
    all_goals (first
      | exact ⟨_, p3, c3, rfl, KP.c0, KP.c1, ((hs3.setCell hkK _).setCell hkK _).setCell hkK _⟩
      | exact ⟨w3.heap.size, p3, c3, rfl, (box3_new w3 _ _ _ _).c0, (box3_new w3 _ _ _ _).c1, hs3.alloc hs3.size _⟩)
  case rest =>
    obtain ⟨k, pr, cr, rfl, k0, k1, hs9⟩ := hcut
    by_cases h0 : mr = 0
    · have hl0 : (dig B16 mr).length = 0 := HZ.out.2 h0
      have HK := Lib.hid (HC.out.trans (by rw [if_pos h0]))
      rw [hl0] at k1
      clear hl0 h0
      go_wp2
      go_ret
      exact ⟨ret_int HK.out.symm, hs9⟩
    · have t1 : (((dig B16 mr).length : Int) == 0) = false := beq_eq_false_iff_ne.2 (fun h => h0 (HZ.out.1 (by omega)))
      cases gr
      · have HK := Lib.hid (HC.out.trans (by rw [if_neg h0]))
        clear h0
        go_wp2
        go_ret
        exact ⟨ret_int HK.out.symm, hs9⟩
      · have HK := Lib.hid (HC.out.trans (by rw [if_neg h0]))
        clear h0
        go_wp2
        go_ret
        exact ⟨ret_int HK.out.symm, hs9⟩

end Go.Proofs.YtlegnbigddhmlaaDoor
