/- dyad: bare numbers.
   dyad: Of, Sign.
   dyad: Done; Times.
   dyad: check.
   Boxes of structs: laid at the head of a call, filled at its end.
   Boxes of structs: what is stored into one. -/
import Derived.Test.YtlegnbigddhmlaaDoorZC
import Derived.Test.YtlegnbigddhmlaaDoorZA
import Derived.Deep.RegionHeld3
import Derived.Deep.DeepCutAuto
import Derived.Test.YtlegnbigddhmlaaDoorZNat4
import Derived.Deep.LoopGhost
namespace Go.Proofs.YtlegnbigddhmlaaDoor
open Go.RowKit Go.Slip

/-- A block of three cells that may be written. -/
structure Box3 (w : World) (b : Nat) (v0 v1 v2 : Value) : Prop where
  c0 : w.cell? ⟨b, 0, none⟩ = some v0
  c1 : w.cell? ⟨b, 1, none⟩ = some v1
  c2 : w.cell? ⟨b, 2, none⟩ = some v2
  f0 : w.frozen? ⟨b, 0, none⟩ = false
  f1 : w.frozen? ⟨b, 1, none⟩ = false
  f2 : w.frozen? ⟨b, 2, none⟩ = false
  lt : b < w.heap.size

theorem Box3.past {w w' : World} {b : Nat} {v0 v1 v2 : Value} (h : Box3 w b v0 v1 v2) (hb : Below w.heap.size w w') : Box3 w' b v0 v1 v2 :=
  ⟨by rw [Below.cell hb h.lt]; exact h.c0, by rw [Below.cell hb h.lt]; exact h.c1, by rw [Below.cell hb h.lt]; exact h.c2,
   by rw [Below.frozen hb h.lt]; exact h.f0, by rw [Below.frozen hb h.lt]; exact h.f1, by rw [Below.frozen hb h.lt]; exact h.f2, Nat.lt_of_lt_of_le h.lt hb.size⟩

theorem Box3.drew {w : World} {b : Nat} {v0 v1 v2 : Value} (h : Box3 w b v0 v1 v2) : Box3 w.drew b v0 v1 v2 := ⟨h.c0, h.c1, h.c2, h.f0, h.f1, h.f2, h.lt⟩

theorem box3_new (w : World) (v0 v1 v2 : Value) (t : TypeId) : Box3 (w.alloc (.cells #[v0, v1, v2] t)) w.heap.size v0 v1 v2 :=
  ⟨by simp [go_sem], by simp [go_sem], by simp [go_sem], by simp [go_sem], by simp [go_sem], by simp [go_sem], by simp⟩

/-- A number with a point that a call leaves: its digits in a row of the call's own, from block 'base' on. -/
def GivesD (w : World) (base : Nat) (d : Dv) (en : Ending) (w' : World) : Prop :=
  ∃ p c, en = .returned (.agg #[.bool d.neg, .slice p (dig B32 d.m).length c, .int .i64 d.e]) ∧ Own w' base .u32 46 p c (dig B32 d.m) ∧ Below w.heap.size w w'

set_option maxHeartbeats 1000000 in
theorem bare_zero_any (g : Bool) (p : Option Addr) (c : Nat) (e : Int) (w : World) :
    Calls Tryd.prog 52 #[.agg #[.bool g, .slice p 0 c, .int .i64 e]] w (GivesD w w.heap.size ⟨false, 0, 0⟩) := by
  go_enter Tryd.func52, Tryd.ntmps52
  go_wp2
  refine bodyPost_ret (v := .agg #[.bool false, .slice none 0 0, .int .i64 0]) (by simp [results, Tryd.results52, go_sem]) rfl ?_
  exact ⟨none, 0, by rw [dig_zero]; rfl, by rw [dig_zero]; exact Own.nil _ _ _ _, ((Below.refl _ _).alloc (Nat.le_refl _) _).alloc (by simp) _⟩

set_option maxHeartbeats 1000000 in
theorem bare_pos_any (g : Bool) (p : Option Addr) (n c : Nat) (e : Int) (m : Nat) (w : World) (hp : Rd w .u32 p (dig B32 m)) (hn : n = (dig B32 m).length) (hc : n ≤ c) (hl : (dig B32 m).length ≤ 10000000) (h0 : 0 < m)
    (he : -1000000000 ≤ e ∧ e ≤ 1000000000) (hT : TabW w) :
    Calls Tryd.prog 52 #[.agg #[.bool g, .slice p n c, .int .i64 e]] w (GivesD w w.heap.size (bare ⟨g, m, e⟩)) := by
  subst hn
  have hl0 : 0 < (dig B32 m).length := by
    have := dig_len_zero B32_two m
    omega
  have t1 : (((dig B32 m).length : Int) == 0) = false := beq_eq_false_iff_ne.2 (by omega)
  go_enter Tryd.func52, Tryd.ntmps52
  go_wp2_with fail
  refine (zeros_any p _ c m _ ((hp.laid _).laid _) rfl (by omega) ((hT.laid _).laid _)).mono ?_
  rintro e1 w1 ⟨rfl, rfl⟩
  have htz : tz m ≤ 1000000000 := by have := tz_lt_blen h0; have := blen_len32 m; omega
  have HB := Lib.hid (bare_pos (g := g) (e := e) h0)
  obtain ⟨t, ht⟩ : ∃ t, tz m = t := ⟨_, rfl⟩
  have HT := Lib.hid ht
  rw [ht] at htz HB ⊢
  clear ht
  go_wp2_with fail
  have B1 := (box3_new w (.bool g) (.slice p (dig B32 m).length c) (.int .i64 e) 72).past ((Below.refl _ _).alloc (Nat.le_refl _) (.cells #[.bool false, .slice none 0 0, .int .i64 0] 72))
  have B2 := box3_new (w.alloc (.cells #[.bool g, .slice p (dig B32 m).length c, .int .i64 e] 72)) (.bool false) (.slice none 0 0) (.int .i64 0) 72
  have hp1 := (hp.laid (.cells #[.bool g, .slice p (dig B32 m).length c, .int .i64 e] 72)).laid (.cells #[.bool false, .slice none 0 0, .int .i64 0] 72)
  have hs1 : Below w.heap.size w ((w.alloc (.cells #[.bool g, .slice p (dig B32 m).length c, .int .i64 e] 72)).alloc (.cells #[.bool false, .slice none 0 0, .int .i64 0] 72)) := ((Below.refl _ _).alloc (Nat.le_refl _) _).alloc (by simp) _
  have ez : (w.alloc (.cells #[.bool g, .slice p (dig B32 m).length c, .int .i64 e] 72)).heap.size = w.heap.size + 1 := by simp
  rw [ez] at B2
  clear ez
  generalize (w.alloc (.cells #[.bool g, .slice p (dig B32 m).length c, .int .i64 e] 72)).alloc (.cells #[.bool false, .slice none 0 0, .int .i64 0] 72) = W1 at *
  have e1 : IntKind.i64.wrap (e + (t : Int)) = e + (t : Int) := IntWalk.i64_in _ (by omega)
  go_region_held3 (fun w' => w'.cell? ⟨w.heap.size, 0, none⟩ = some (.bool g) ∧ w'.cell? ⟨w.heap.size, 1, none⟩ = some (.slice p (dig B32 m).length c) ∧ w'.cell? ⟨w.heap.size, 2, none⟩ = some (.int .i64 e))
    (first | exact ⟨B1.c0, B1.c1, B1.c2⟩
           | (have D1 := B1.drew; exact ⟨D1.c0, D1.c1, D1.c2⟩)
           | (have D1 := B1.drew.past hb2; exact ⟨D1.c0, D1.c1, D1.c2⟩)
           | go_keep)
    (first | (go_at_call 76; refine (shr_any p _ c m t _ hp1.drew rfl hc (by clear e1; omega) (by clear e1; omega)).mono ?_; rintro e2 w2 ⟨p2, c2, rfl, ho2, hb2⟩; obtain ⟨d0, d1, d2, f0, f1, f2, dlt⟩ := B2.drew.past hb2))
  all_goals (go_wp2_with fail)
  refine bodyPost_ret (v := .agg #[.bool g, .slice p2 (dig B32 (m / 2 ^ t)).length c2, .int .i64 (e + (t : Int))]) (by simp [results, Tryd.results52, go_sem, d0, d1, d2]) rfl ?_
  rw [HB.out]
  clear e1
  have hs2 := hs1.drew.trans (hb2.mono hs1.size)
  have hz := B2.lt
  refine ⟨p2, c2, rfl, (ho2.mono hs1.size).same (fun h => ?_), ((hs2.setCell (by simp) _).setCell (by simp) _).setCell (by simp) _⟩
  have hk := (ho2.blk_lt h).1
  have hne : blk p2 ≠ w.heap.size + 1 := by
    have : W1.drew.heap.size = W1.heap.size := rfl
    omega
  rw [Below.heap_setCell _ _ _ _ hne, Below.heap_setCell _ _ _ _ hne, Below.heap_setCell _ _ _ _ hne]

theorem bareRaw_any (g : Bool) (p : Option Addr) (n c : Nat) (e : Int) (m : Nat) (w : World) (hp : Rd w .u32 p (dig B32 m)) (hn : n = (dig B32 m).length) (hc : n ≤ c) (hl : (dig B32 m).length ≤ 10000000)
    (he : -1000000000 ≤ e ∧ e ≤ 1000000000) (hT : TabW w) :
    Calls Tryd.prog 52 #[.agg #[.bool g, .slice p n c, .int .i64 e]] w (GivesD w w.heap.size (bare ⟨g, m, e⟩)) := by
  by_cases h0 : m = 0
  · subst h0
    rw [dig_zero] at hn
    subst hn
    exact bare_zero_any g p c e w
  · exact bare_pos_any g p n c e m w hp hn hc hl (by omega) he hT

end Go.Proofs.YtlegnbigddhmlaaDoor

namespace Go.Proofs.YtlegnbigddhmlaaDoor
open Go.RowKit Go.Slip

set_option maxHeartbeats 1000000 in
theorem ofD_any (g : Bool) (p : Option Addr) (n c : Nat) (e : Int) (m : Nat) (w : World) (hp : Rd w .u32 p (dig B32 m)) (hn : n = (dig B32 m).length) (hc : n ≤ c) (hl : (dig B32 m).length ≤ 10000000)
    (he : -1000000000 ≤ e ∧ e ≤ 1000000000) (hT : TabW w) :
    Calls Tryd.prog 32 #[.agg #[.bool g, .slice p n c, .int .i64 e]] w (GivesD w w.heap.size (bare ⟨g, m, e⟩)) := by
  subst hn
  have hs1 : Below w.heap.size w ((w.alloc (.cells #[.bool g, .slice p (dig B32 m).length c, .int .i64 e] 30)).alloc (.cells #[.bool false, .slice none 0 0, .int .i64 0] 72)) := ((Below.refl _ _).alloc (Nat.le_refl _) _).alloc (by simp) _
  have B2 := box3_new (w.alloc (.cells #[.bool g, .slice p (dig B32 m).length c, .int .i64 e] 30)) (.bool false) (.slice none 0 0) (.int .i64 0) 72
  have ez : (w.alloc (.cells #[.bool g, .slice p (dig B32 m).length c, .int .i64 e] 30)).heap.size = w.heap.size + 1 := by simp
  rw [ez] at B2
  clear ez
  go_enter Tryd.func32, Tryd.ntmps32
  go_wp2_with fail
  ((with_reducible refine (bareRaw_any g p _ c e m _ ((hp.laid _).laid _) rfl hc hl he ((hT.laid _).laid _)).mono ?_))
  generalize bare ⟨g, m, e⟩ = r at *
  generalize (w.alloc (.cells #[.bool g, .slice p (dig B32 m).length c, .int .i64 e] 30)).alloc (.cells #[.bool false, .slice none 0 0, .int .i64 0] 72) = W1 at *
  rintro e2 w2 ⟨p2, c2, rfl, ho2, hb2⟩
  obtain ⟨d0, d1, d2, f0, f1, f2, dlt⟩ := B2.past hb2
  go_wp2_with fail
  refine bodyPost_ret (v := .agg #[.bool r.neg, .slice p2 (dig B32 r.m).length c2, .int .i64 r.e]) (by simp [results, Tryd.results32, go_sem, d0, d1, d2]) rfl ?_
  have hs2 := hs1.trans (hb2.mono hs1.size)
  have hz := B2.lt
  refine ⟨p2, c2, rfl, (ho2.mono hs1.size).same (fun h => ?_), ((hs2.setCell (by simp) _).setCell (by simp) _).setCell (by simp) _⟩
  have hk := (ho2.blk_lt h).1
  have hne : blk p2 ≠ w.heap.size + 1 := by omega
  rw [Below.heap_setCell _ _ _ _ hne, Below.heap_setCell _ _ _ _ hne, Below.heap_setCell _ _ _ _ hne]

/-- A number with a point, as a call takes it: its digits in a row of the call's own. -/
theorem signD_any (g : Bool) (p : Option Addr) (n c : Nat) (e : Int) (m : Nat) (w : World) (hn : n = (dig B32 m).length) :
    Calls Tryd.prog 53 #[.agg #[.bool g, .slice p n c, .int .i64 e]] w fun en w' => en = .returned (.int .i64 (dSign ⟨g, m, e⟩)) ∧ Below w.heap.size w w' := by
  have hb : Below w.heap.size w (w.alloc (.cells #[.bool g, .slice p n c, .int .i64 e] 72)) := (Below.refl _ _).alloc (Nat.le_refl _) _
  by_cases h0 : m = 0
  · subst h0
    rw [dig_zero] at hn
    subst hn
    go_enter Tryd.func53, Tryd.ntmps53
    go_wp2
    go_ret
    exact ⟨rfl, hb⟩
  · have hl0 : 0 < n := by
      have := dig_len_zero B32_two m
      omega
    have t1 : ((n : Int) == 0) = false := beq_eq_false_iff_ne.2 (by omega)
    have hs : dSign ⟨g, m, e⟩ = if g then -1 else 1 := by unfold dSign; rw [if_neg h0]
    rw [hs]
    clear hn h0 hs
    cases g
    · go_enter Tryd.func53, Tryd.ntmps53
      go_wp2
      go_ret
      exact ⟨rfl, hb⟩
    · go_enter Tryd.func53, Tryd.ntmps53
      go_wp2
      go_ret
      exact ⟨rfl, hb⟩

end Go.Proofs.YtlegnbigddhmlaaDoor

namespace Go.Proofs.YtlegnbigddhmlaaDoor
open Go.RowKit Go.Slip

/-- The same, with an errno beside it. -/
def GivesDE (w : World) (base : Nat) (d : Dv) (er : Int) (en : Ending) (w' : World) : Prop :=
  ∃ p c, en = .returned (.tuple #[.agg #[.bool d.neg, .slice p (dig B32 d.m).length c, .int .i64 d.e], .int .i64 er]) ∧ Own w' base .u32 46 p c (dig B32 d.m) ∧ Below w.heap.size w w'

theorem two_laid (w : World) (o1 o2 : Obj) : Below w.heap.size w ((w.alloc o1).alloc o2) := ((Below.refl _ _).alloc (Nat.le_refl _) _).alloc (by simp) _

set_option maxHeartbeats 1000000 in
theorem doneR_any (g : Bool) (p : Option Addr) (n c base : Nat) (e : Int) (m : Nat) (w : World) (ho : Own w base .u32 46 p c (dig B32 m)) (hn : n = (dig B32 m).length) (hl : (dig B32 m).length ≤ 1000000000) :
    Calls Tryd.prog 37 #[.agg #[.bool g, .slice p n c, .int .i64 e]] w (GivesDE w base (doneD ⟨g, m, e⟩) (errD ⟨g, m, e⟩)) := by
  subst hn
  by_cases h1 : 1200 < (dig B32 m).length
  · have he : errD ⟨g, m, e⟩ = 2 := by unfold errD; rw [if_pos h1]
    have hd : doneD ⟨g, m, e⟩ = ⟨false, 0, 0⟩ := by unfold doneD; rw [he, if_neg (by omega)]; rfl
    rw [he, hd]
    clear he hd
    go_enter Tryd.func37, Tryd.ntmps37
    go_wp2
    refine bodyPost_ret (v := .tuple #[.agg #[.bool false, .slice none 0 0, .int .i64 0], .int .i64 2]) (by simp [results, Tryd.results37, go_sem]) rfl ?_
    exact ⟨none, 0, by rw [dig_zero]; rfl, by rw [dig_zero]; exact Own.nil _ _ _ _, two_laid _ _ _⟩
  · by_cases h2 : e < -20000 ∨ 20000 < e
    · have he : errD ⟨g, m, e⟩ = 3 := by unfold errD; rw [if_neg h1, if_pos h2]
      have hd : doneD ⟨g, m, e⟩ = ⟨false, 0, 0⟩ := by unfold doneD; rw [he, if_neg (by omega)]; rfl
      rw [he, hd]
      clear he hd
      rcases h2 with h2 | h2
      · go_enter Tryd.func37, Tryd.ntmps37
        go_wp2
        refine bodyPost_ret (v := .tuple #[.agg #[.bool false, .slice none 0 0, .int .i64 0], .int .i64 3]) (by simp [results, Tryd.results37, go_sem]) rfl ?_
        exact ⟨none, 0, by rw [dig_zero]; rfl, by rw [dig_zero]; exact Own.nil _ _ _ _, two_laid _ _ _⟩
      · have h3 : ¬ e < -20000 := by omega
        go_enter Tryd.func37, Tryd.ntmps37
        go_wp2
        refine bodyPost_ret (v := .tuple #[.agg #[.bool false, .slice none 0 0, .int .i64 0], .int .i64 3]) (by simp [results, Tryd.results37, go_sem]) rfl ?_
        exact ⟨none, 0, by rw [dig_zero]; rfl, by rw [dig_zero]; exact Own.nil _ _ _ _, two_laid _ _ _⟩
    · have he : errD ⟨g, m, e⟩ = 0 := by unfold errD; rw [if_neg h1, if_neg h2]
      have hd : doneD ⟨g, m, e⟩ = ⟨g, m, e⟩ := by unfold doneD; rw [he, if_pos rfl]
      rw [he, hd]
      have h3 : ¬ e < -20000 := by omega
      have h4 : ¬ 20000 < e := by omega
      clear he hd h2
      go_enter Tryd.func37, Tryd.ntmps37
      go_wp2
      refine bodyPost_ret (v := .tuple #[.agg #[.bool g, .slice p (dig B32 m).length c, .int .i64 e], .int .i64 0]) (by simp [results, Tryd.results37, go_sem]) rfl ?_
      exact ⟨p, c, rfl, (ho.laid _).laid _, two_laid _ _ _⟩

end Go.Proofs.YtlegnbigddhmlaaDoor

namespace Go.Proofs.YtlegnbigddhmlaaDoor
open Go.RowKit Go.Slip

/-- A dyad as it came: its sign, its digits' place, capacity and list, its exponent. -/
structure Din where
  g : Bool
  p : Option Addr
  c : Nat
  xs : List Nat
  e : Int

def errDy (d : Din) : Int := if errNat d.xs = 0 then (if d.e < -20000 ∨ 20000 < d.e then 3 else 0) else errNat d.xs

def firstErrD : List Din → Int
  | [] => 0
  | x :: xs => if errDy x = 0 then firstErrD xs else errDy x

set_option maxHeartbeats 2000000 in
set_option maxRecDepth 100000 in
theorem dyCheck_any (g c : Nat) (L : List Din) (w : World)
    (hc : ∀ j (h : j < L.length), w.cell? ⟨g, j * 3, none⟩ = some (.bool L[j].g) ∧ w.cell? ⟨g, j * 3 + 1, none⟩ = some (.slice L[j].p L[j].xs.length L[j].c) ∧ w.cell? ⟨g, j * 3 + 2, none⟩ = some (.int .i64 L[j].e))
    (hr : ∀ j (h : j < L.length), Rd w .u32 L[j].p L[j].xs ∧ L[j].xs.length ≤ 9223372036854775807) (hg : g < w.heap.size) (n : Nat) (hn : n = L.length) (hl : L.length ≤ 1000000) :
    Calls Tryd.prog 31 #[.slice (some ⟨g, 0, none⟩) n c] w fun e w' => e = .returned (.int .i64 (firstErrD L)) ∧ Below w.heap.size w w' := by
  subst hn
  have HC := Lib.hid hc
  have HR := Lib.hid hr
  clear hc hr
  go_enter Tryd.func31, Tryd.ntmps31
  go_wp2
  go_loopg [8] L.length (fun gk iv wr => ∃ (i : Nat), iv = .int .i64 i ∧ gk + i = L.length ∧ Below w.heap.size w wr ∧ Hid (firstErrD L = firstErrD (L.drop i)))
  case atStart => exact ⟨0, rfl, rfl, Below.refl _ _, rfl⟩
  case round =>
    obtain ⟨i, rfl, hgk, hb, HF⟩ := hrel
    by_cases hlt : i < L.length
    · obtain ⟨gs, p, cc, xs, ex, hL⟩ : ∃ gs p cc xs ex, L[i] = ⟨gs, p, cc, xs, ex⟩ := ⟨_, _, _, _, _, rfl⟩
      obtain ⟨k0, k1, k2⟩ := HC.out i hlt
      obtain ⟨hx, hxl⟩ := HR.out i hlt
      have hF := HF.out
      rw [List.drop_eq_getElem_cons hlt, hL] at hF
      rw [hL] at k0 k1 k2 hx hxl
      simp only at k0 k1 k2 hx hxl
      rw [← Below.cell hb hg] at k0 k1 k2
      have hx1 := hx.past hb
      have HFF := Lib.hid hF
      have hgi : 0 < gk := by omega
      clear hL hF
      go_wp2_with fail
      ((with_reducible refine (natCheck1_any p _ cc xs _ (hx1.laid _) rfl hxl).mono ?_))
      rintro e2 w2 ⟨rfl, hb2⟩
      have B2 := (box3_new wr (.bool gs) (.slice p xs.length cc) (.int .i64 ex) 30).past hb2
      have hs2 := (hb.alloc hb.size (.cells #[.bool gs, .slice p xs.length cc, .int .i64 ex] 30)).trans (hb2.mono (by have := hb.size; simp; omega))
      have d2 := B2.c2
      clear hb2 k0 k1 k2
      by_cases he : errNat xs = 0
      · have hz : (errNat xs == 0) = true := by simpa using he
        have hz2 : (errNat xs != 0) = false := by simpa using he
        by_cases hr : ex < -20000 ∨ 20000 < ex
        · have HE : Hid (firstErrD L = 3) := by
            have := HFF.out
            simp only [firstErrD, errDy, he, if_true, if_pos hr] at this
            show firstErrD L = 3
            simpa using this
          rw [he]
          clear he hz hz2
          rcases hr with hr | hr
          · go_wp2
            go_ret
            exact ⟨ret_int HE.out.symm, hs2⟩
          · have h3 : ¬ ex < -20000 := by omega
            go_wp2
            go_ret
            exact ⟨ret_int HE.out.symm, hs2⟩
        · have HE : Hid (firstErrD L = firstErrD (L.drop (i + 1))) := by
            have := HFF.out
            simp only [firstErrD, errDy, he, if_true, if_neg hr] at this
            exact this
          have h3 : ¬ ex < -20000 := by omega
          have h4 : ¬ 20000 < ex := by omega
          rw [he]
          clear he hz hz2 hr
          go_wp2
          go_roundg (gk - 1)
          case measure => omega
          case rel => exact ⟨i + 1, by go_num, by omega, hs2, HE⟩
      · have hz : (errNat xs == 0) = false := by simpa using he
        have hz2 : (errNat xs != 0) = true := by simpa using he
        have HE : Hid (firstErrD L = errNat xs) := by
          have := HFF.out
          simp only [firstErrD, errDy, if_neg he] at this
          exact this
        clear he
        go_wp2
        go_ret
        exact ⟨ret_int HE.out.symm, hs2⟩
    · have H : Hid (firstErrD L = 0) := by
        have := HF.out
        rw [List.drop_of_length_le (by omega)] at this
        exact this
      go_wp2
      go_ret
      exact ⟨ret_int H.out.symm, hb⟩

theorem firstErrD_one (d : Din) : firstErrD [d] = errDy d := by simp only [firstErrD]; split <;> simp_all

/-- What is wrong with two. -/
def errDy2 (a b : Din) : Int := if errDy a = 0 then errDy b else errDy a
theorem firstErrD_two (a b : Din) : firstErrD [a, b] = errDy2 a b := by simp only [firstErrD, errDy2]; split <;> (try split) <;> simp_all

theorem dyCheck1_new (d : Din) (w : World) (bk : Nat) (hbk : bk = w.heap.size) (hx : Rd w .u32 d.p d.xs) (hl : d.xs.length ≤ 9223372036854775807) :
    Calls Tryd.prog 31 #[.slice (some ⟨bk, 0, none⟩) 1 1] (w.alloc (.cells #[.bool d.g, .slice d.p d.xs.length d.c, .int .i64 d.e] 30)) fun e w' =>
      e = .returned (.int .i64 (errDy d)) ∧ Below (w.heap.size + 1) (w.alloc (.cells #[.bool d.g, .slice d.p d.xs.length d.c, .int .i64 d.e] 30)) w' := by
  subst hbk
  rw [← firstErrD_one]
  have h := dyCheck_any w.heap.size 1 [d] (w.alloc (.cells #[.bool d.g, .slice d.p d.xs.length d.c, .int .i64 d.e] 30)) (fun j h => by
    obtain rfl : j = 0 := by simp at h; omega
    simp [go_sem]) (fun j h => by
    obtain rfl : j = 0 := by simp at h; omega
    exact ⟨hx.laid _, hl⟩) (by simp) 1 rfl (by simp)
  simpa using h

theorem dyCheck2_new (a b : Din) (w : World) (bk : Nat) (hbk : bk = w.heap.size) (hx : Rd w .u32 a.p a.xs) (hl : a.xs.length ≤ 9223372036854775807) (hy : Rd w .u32 b.p b.xs) (hl2 : b.xs.length ≤ 9223372036854775807) :
    Calls Tryd.prog 31 #[.slice (some ⟨bk, 0, none⟩) 2 2] (w.alloc (.cells #[.bool a.g, .slice a.p a.xs.length a.c, .int .i64 a.e, .bool b.g, .slice b.p b.xs.length b.c, .int .i64 b.e] 30)) fun e w' =>
      e = .returned (.int .i64 (errDy2 a b)) ∧ Below (w.heap.size + 1) (w.alloc (.cells #[.bool a.g, .slice a.p a.xs.length a.c, .int .i64 a.e, .bool b.g, .slice b.p b.xs.length b.c, .int .i64 b.e] 30)) w' := by
  subst hbk
  rw [← firstErrD_two]
  have h := dyCheck_any w.heap.size 2 [a, b] (w.alloc (.cells #[.bool a.g, .slice a.p a.xs.length a.c, .int .i64 a.e, .bool b.g, .slice b.p b.xs.length b.c, .int .i64 b.e] 30)) (fun j h => by
    match j, h with
    | 0, _ => simp [go_sem]
    | 1, _ => simp [go_sem]) (fun j h => by
    match j, h with
    | 0, _ => exact ⟨hx.laid _, hl⟩
    | 1, _ => exact ⟨hy.laid _, hl2⟩) (by simp) 2 rfl (by simp)
  simpa using h

set_option maxHeartbeats 400000 in
theorem dyCheckOne_any (d : Din) (w : World) (hx : Rd w .u32 d.p d.xs) (hl : d.xs.length ≤ 9223372036854775807) :
    Calls Tryd.prog 61 #[.agg #[.bool d.g, .slice d.p d.xs.length d.c, .int .i64 d.e]] w fun e w' => e = .returned (.int .i64 (errDy d)) ∧ Below w.heap.size w w' := by
  have hs1 : Below w.heap.size w (w.alloc (.cells #[.bool d.g, .slice d.p d.xs.length d.c, .int .i64 d.e] 30)) := (Below.refl _ _).alloc (Nat.le_refl _) _
  go_enter Tryd.func61, Tryd.ntmps61
  go_wp2_with fail
  ((with_reducible refine (dyCheck1_new d _ _ (by simp) (hx.laid _) hl).mono ?_))
  rintro e2 w2 ⟨rfl, hb2⟩
  go_wp2_with fail
  go_ret
  exact ⟨rfl, (hs1.trans (((Below.refl _ _).alloc (Nat.le_refl _) _).mono (by simp))).trans (hb2.mono (by simp; omega))⟩

end Go.Proofs.YtlegnbigddhmlaaDoor

namespace Go.Proofs.YtlegnbigddhmlaaDoor
open Go.RowKit Go.Slip

theorem TabW.below {w w' : World} {B : Nat} (h : TabW w) (hb : Below B w w') (hB : 0 < B) : TabW w' :=
  ⟨fun j hj => by rw [Below.cell hb hB]; exact h.1 j hj, Nat.lt_of_lt_of_le h.2 hb.size⟩

theorem Box3.below {w w' : World} {B b : Nat} {v0 v1 v2 : Value} (h : Box3 w b v0 v1 v2) (hb : Below B w w') (hB : b < B) : Box3 w' b v0 v1 v2 :=
  ⟨by rw [Below.cell hb hB]; exact h.c0, by rw [Below.cell hb hB]; exact h.c1, by rw [Below.cell hb hB]; exact h.c2,
   by rw [Below.frozen hb hB]; exact h.f0, by rw [Below.frozen hb hB]; exact h.f1, by rw [Below.frozen hb hB]; exact h.f2, Nat.lt_of_lt_of_le h.lt hb.size⟩

theorem Box3.set {w : World} {b k o : Nat} {v0 v1 v2 u : Value} (h : Box3 w b v0 v1 v2) (hne : b < k) : Box3 (w.setCell ⟨k, o, none⟩ u) b v0 v1 v2 := by
  have hb : Below k w (w.setCell ⟨k, o, none⟩ u) := (Below.refl k w).setCell (p := ⟨k, o, none⟩) (Nat.le_refl _) u
  exact ⟨by rw [Below.cell hb hne]; exact h.c0, by rw [Below.cell hb hne]; exact h.c1, by rw [Below.cell hb hne]; exact h.c2,
   by rw [Below.frozen hb hne]; exact h.f0, by rw [Below.frozen hb hne]; exact h.f1, by rw [Below.frozen hb hne]; exact h.f2, Nat.lt_of_lt_of_le h.lt hb.size⟩

theorem Box3.laid {w : World} {b : Nat} {v0 v1 v2 : Value} (h : Box3 w b v0 v1 v2) (o : Obj) : Box3 (w.alloc o) b v0 v1 v2 := h.past ((Below.refl _ _).alloc (Nat.le_refl _) _)

theorem box2s (w : World) (a0 a1 a2 r0 r1 r2 : Value) (tA tR : TypeId) : ∃ W1, W1 = (w.alloc (.cells #[a0, a1, a2] tA)).alloc (.cells #[r0, r1, r2] tR) ∧
    Below w.heap.size w W1 ∧ Box3 W1 w.heap.size a0 a1 a2 ∧ Box3 W1 (w.heap.size + 1) r0 r1 r2 ∧ W1.heap.size = w.heap.size + 1 + 1 := by
  refine ⟨_, rfl, two_laid _ _ _, (box3_new w _ _ _ _).laid _, ?_, by simp⟩
  have := box3_new (w.alloc (.cells #[a0, a1, a2] tA)) r0 r1 r2 tR
  simpa using this

theorem box3s (w : World) (a0 a1 a2 b0 b1 b2 r0 r1 r2 : Value) (tA tB tR : TypeId) : ∃ W1, W1 = ((w.alloc (.cells #[a0, a1, a2] tA)).alloc (.cells #[b0, b1, b2] tB)).alloc (.cells #[r0, r1, r2] tR) ∧
    Below w.heap.size w W1 ∧ Box3 W1 w.heap.size a0 a1 a2 ∧ Box3 W1 (w.heap.size + 1) b0 b1 b2 ∧ Box3 W1 (w.heap.size + 1 + 1) r0 r1 r2 ∧ W1.heap.size = w.heap.size + 1 + 1 + 1 := by
  refine ⟨_, rfl, (two_laid _ _ _).alloc (by simp; omega) _, ((box3_new w _ _ _ _).laid _).laid _, ?_, ?_, by simp⟩
  · have := (box3_new (w.alloc (.cells #[a0, a1, a2] tA)) b0 b1 b2 tB).laid (.cells #[r0, r1, r2] tR)
    simpa using this
  · have := box3_new ((w.alloc (.cells #[a0, a1, a2] tA)).alloc (.cells #[b0, b1, b2] tB)) r0 r1 r2 tR
    simpa using this

/-- The last store into the box of the result. -/
theorem givesD_close {w wk : World} {base base' b : Nat} {d : Dv} {p : Option Addr} {c : Nat} {v0 v1 v2 : Value} (hs : Below w.heap.size w wk) (ho : Own wk base' .u32 46 p c (dig B32 d.m)) (hb : base ≤ base') (hB : w.heap.size ≤ b)
    (hne : p.isSome = true → blk p ≠ b) :
    GivesD w base d (.returned (.agg #[.bool d.neg, .slice p (dig B32 d.m).length c, .int .i64 d.e])) (((wk.setCell ⟨b, 0, none⟩ v0).setCell ⟨b, 1, none⟩ v1).setCell ⟨b, 2, none⟩ v2) :=
  ⟨p, c, rfl, (ho.mono hb).same (fun h => by rw [Below.heap_setCell _ _ _ _ (hne h), Below.heap_setCell _ _ _ _ (hne h), Below.heap_setCell _ _ _ _ (hne h)]), ((hs.setCell (by simp; omega) _).setCell (by simp; omega) _).setCell (by simp; omega) _⟩

theorem givesDE_close {w wk : World} {base base' b : Nat} {d : Dv} {er : Int} {p : Option Addr} {c : Nat} {v0 v1 v2 : Value} (hs : Below w.heap.size w wk) (ho : Own wk base' .u32 46 p c (dig B32 d.m)) (hb : base ≤ base') (hB : w.heap.size ≤ b)
    (hne : p.isSome = true → blk p ≠ b) :
    GivesDE w base d er (.returned (.tuple #[.agg #[.bool d.neg, .slice p (dig B32 d.m).length c, .int .i64 d.e], .int .i64 er])) (((wk.setCell ⟨b, 0, none⟩ v0).setCell ⟨b, 1, none⟩ v1).setCell ⟨b, 2, none⟩ v2) :=
  ⟨p, c, rfl, (ho.mono hb).same (fun h => by rw [Below.heap_setCell _ _ _ _ (hne h), Below.heap_setCell _ _ _ _ (hne h), Below.heap_setCell _ _ _ _ (hne h)]), ((hs.setCell (by simp; omega) _).setCell (by simp; omega) _).setCell (by simp; omega) _⟩

/-- A number with a point that a reference leaves: it reads so; its digits lie in new memory, or in a block that is fit. -/
def GivesF (w : World) (fit : Nat → Prop) (d : Dv) (en : Ending) (w' : World) : Prop :=
  ∃ p c, en = .returned (.agg #[.bool d.neg, .slice p (dig B16 d.m).length c, .int .i64 d.e]) ∧ Rd w' .i64 p (dig B16 d.m) ∧ (dig B16 d.m).length ≤ c ∧ (0 < (dig B16 d.m).length → fit (blk p) ∨ w.heap.size ≤ blk p) ∧ Below w.heap.size w w'

theorem givesF_close {w wk : World} {fit : Nat → Prop} {b : Nat} {d : Dv} {p : Option Addr} {c : Nat} {v0 v1 v2 : Value} (hs : Below w.heap.size w wk) (hr : Rd wk .i64 p (dig B16 d.m)) (hc : (dig B16 d.m).length ≤ c)
    (hf : 0 < (dig B16 d.m).length → fit (blk p) ∨ w.heap.size ≤ blk p) (hB : w.heap.size ≤ b) (hne : 0 < (dig B16 d.m).length → blk p ≠ b) :
    GivesF w fit d (.returned (.agg #[.bool d.neg, .slice p (dig B16 d.m).length c, .int .i64 d.e])) (((wk.setCell ⟨b, 0, none⟩ v0).setCell ⟨b, 1, none⟩ v1).setCell ⟨b, 2, none⟩ v2) :=
  ⟨p, c, rfl, hr.same (fun h => by rw [Below.heap_setCell _ _ _ _ (hne h), Below.heap_setCell _ _ _ _ (hne h), Below.heap_setCell _ _ _ _ (hne h)]), hc, hf, ((hs.setCell (by simp; omega) _).setCell (by simp; omega) _).setCell (by simp; omega) _⟩

end Go.Proofs.YtlegnbigddhmlaaDoor

namespace Go.Proofs.YtlegnbigddhmlaaDoor
open Go.RowKit Go.Slip

theorem Box3.put {w : World} {b : Nat} {v0 v1 v2 : Value} (h : Box3 w b v0 v1 v2) (u0 u1 u2 : Value) : Box3 (((w.setCell ⟨b, 0, none⟩ u0).setCell ⟨b, 1, none⟩ u1).setCell ⟨b, 2, none⟩ u2) b u0 u1 u2 := by
  have h1 : Box3 (w.setCell ⟨b, 0, none⟩ u0) b u0 v1 v2 :=
    ⟨World.cell?_setCell_same _ _ _ h.c0, (World.cell?_setCell_other _ _ _ _ (by simp)).trans h.c1, (World.cell?_setCell_other _ _ _ _ (by simp)).trans h.c2, by simpa using h.f0, by simpa using h.f1, by simpa using h.f2, by simpa using h.lt⟩
  have h2 : Box3 ((w.setCell ⟨b, 0, none⟩ u0).setCell ⟨b, 1, none⟩ u1) b u0 u1 v2 :=
    ⟨(World.cell?_setCell_other _ _ _ _ (by simp)).trans h1.c0, World.cell?_setCell_same _ _ _ h1.c1, (World.cell?_setCell_other _ _ _ _ (by simp)).trans h1.c2, by simpa using h.f0, by simpa using h.f1, by simpa using h.f2, by simpa using h.lt⟩
  exact ⟨(World.cell?_setCell_other _ _ _ _ (by simp)).trans h2.c0, (World.cell?_setCell_other _ _ _ _ (by simp)).trans h2.c1, World.cell?_setCell_same _ _ _ h2.c2, by simpa using h.f0, by simpa using h.f1, by simpa using h.f2, by simpa using h.lt⟩

/-- Another box is as it was. -/
theorem Box3.beside {w : World} {b k : Nat} {v0 v1 v2 : Value} (h : Box3 w b v0 v1 v2) (hne : b ≠ k) (u0 u1 u2 : Value) : Box3 (((w.setCell ⟨k, 0, none⟩ u0).setCell ⟨k, 1, none⟩ u1).setCell ⟨k, 2, none⟩ u2) b v0 v1 v2 := by
  have key : ∀ (W : World) (o : Nat) (u : Value), Box3 W b v0 v1 v2 → Box3 (W.setCell ⟨k, o, none⟩ u) b v0 v1 v2 := fun W o u h =>
    ⟨(World.cell?_setCell_other _ _ _ _ (fun e => hne (congrArg Addr.block e).symm)).trans h.c0, (World.cell?_setCell_other _ _ _ _ (fun e => hne (congrArg Addr.block e).symm)).trans h.c1, (World.cell?_setCell_other _ _ _ _ (fun e => hne (congrArg Addr.block e).symm)).trans h.c2, by simpa using h.f0, by simpa using h.f1, by simpa using h.f2, by simpa using h.lt⟩
  exact key _ _ _ (key _ _ _ (key _ _ _ h))

theorem Own.beside {w : World} {base k : Nat} {kd : IntKind} {e : TypeId} {p : Option Addr} {c : Nat} {xs : List Nat} (h : Own w base kd e p c xs) (hne : p.isSome = true → blk p ≠ k) (u0 u1 u2 : Value) :
    Own (((w.setCell ⟨k, 0, none⟩ u0).setCell ⟨k, 1, none⟩ u1).setCell ⟨k, 2, none⟩ u2) base kd e p c xs :=
  h.same (fun h => by rw [Below.heap_setCell _ _ _ _ (hne h), Below.heap_setCell _ _ _ _ (hne h), Below.heap_setCell _ _ _ _ (hne h)])

theorem Rd.beside {w : World} {k : Nat} {kd : IntKind} {p : Option Addr} {xs : List Nat} (h : Rd w kd p xs) (hne : 0 < xs.length → blk p ≠ k) (u0 u1 u2 : Value) :
    Rd (((w.setCell ⟨k, 0, none⟩ u0).setCell ⟨k, 1, none⟩ u1).setCell ⟨k, 2, none⟩ u2) kd p xs :=
  h.same (fun h => by rw [Below.heap_setCell _ _ _ _ (hne h), Below.heap_setCell _ _ _ _ (hne h), Below.heap_setCell _ _ _ _ (hne h)])

theorem TabW.beside {w : World} {k : Nat} (h : TabW w) (hk : 0 < k) (u0 u1 u2 : Value) : TabW (((w.setCell ⟨k, 0, none⟩ u0).setCell ⟨k, 1, none⟩ u1).setCell ⟨k, 2, none⟩ u2) :=
  h.below (((Below.refl k w).setCell (Nat.le_refl _) _ |>.setCell (Nat.le_refl _) _).setCell (Nat.le_refl _) _) hk

theorem Below.beside {w w' : World} {B k : Nat} (h : Below B w w') (hk : B ≤ k) (u0 u1 u2 : Value) : Below B w (((w'.setCell ⟨k, 0, none⟩ u0).setCell ⟨k, 1, none⟩ u1).setCell ⟨k, 2, none⟩ u2) :=
  ((h.setCell hk _).setCell hk _).setCell hk _

end Go.Proofs.YtlegnbigddhmlaaDoor
