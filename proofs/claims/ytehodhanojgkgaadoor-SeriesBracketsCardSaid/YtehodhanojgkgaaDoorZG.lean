/- ball: around.
   ball: Of, Check, check.
   ball: Check, check.
   ball: check. -/
import Derived.Test.YtehodhanojgkgaaDoorZDyad12
import Derived.Test.YtehodhanojgkgaaDoorZDyad11
import Derived.Test.YtehodhanojgkgaaDoorZE
import Derived.Test.YtehodhanojgkgaaDoorZA
import Derived.Deep.LoopGhost
namespace Go.Proofs.YtehodhanojgkgaaDoor
open Go.RowKit Go.Slip

/-- A number as it lies in memory. -/
structure Rw where
  g : Bool
  p : Option Addr
  c : Nat
  m : Nat
  e : Int

def Rw.v (a : Rw) : Dv := ⟨a.g, a.m, a.e⟩

/-- Where it lies, and how long it is. -/
structure InW (w : World) (base : Nat) (a : Rw) : Prop where
  ow : Own w base .u32 58 a.p a.c (dig B32 a.m)
  len : (dig B32 a.m).length ≤ 1000000
  lo : -1000000 ≤ a.e
  hi : a.e ≤ 1000000

theorem InW.past {w w' : World} {base : Nat} {a : Rw} (h : InW w base a) (hb : Below w.heap.size w w') : InW w' base a := ⟨h.ow.past hb, h.len, h.lo, h.hi⟩
theorem InW.drew {w : World} {base : Nat} {a : Rw} (h : InW w base a) : InW w.drew base a := ⟨h.ow.drew, h.len, h.lo, h.hi⟩
theorem InW.mono {w : World} {base base' : Nat} {a : Rw} (h : InW w base a) (hb : base' ≤ base) : InW w base' a := ⟨h.ow.mono hb, h.len, h.lo, h.hi⟩
theorem InW.only {w w' : World} {base k : Nat} {a : Rw} (h : InW w base a) (hb : Only k w w') (hne : a.p.isSome = true → blk a.p ≠ k) : InW w' base a := ⟨h.ow.only hb hne, h.len, h.lo, h.hi⟩

def lowR (a : Rw) (l : List Rw) : Rw := l.foldl (fun s x => if pCmp x.v s.v < 0 then x else s) a
def highR (a : Rw) (l : List Rw) : Rw := l.foldl (fun s x => if 0 < pCmp x.v s.v then x else s) a

theorem lowR_v (l : List Rw) : ∀ a : Rw, (lowR a l).v = lowD a.v (l.map Rw.v) := by
  induction l with
  | nil => intro a; rfl
  | cons y l ih =>
    intro a
    show (lowR (if pCmp y.v a.v < 0 then y else a) l).v = lowD (if pCmp y.v a.v < 0 then y.v else a.v) (l.map Rw.v)
    rw [ih]; congr 1; split <;> rfl

theorem highR_v (l : List Rw) : ∀ a : Rw, (highR a l).v = highD a.v (l.map Rw.v) := by
  induction l with
  | nil => intro a; rfl
  | cons y l ih =>
    intro a
    show (highR (if 0 < pCmp y.v a.v then y else a) l).v = highD (if 0 < pCmp y.v a.v then y.v else a.v) (l.map Rw.v)
    rw [ih]; congr 1; split <;> rfl

theorem lowR_take (l : List Rw) (a : Rw) (i : Nat) (h : i < l.length) : lowR a (l.take (i + 1)) = if pCmp l[i].v (lowR a (l.take i)).v < 0 then l[i] else lowR a (l.take i) := by
  unfold lowR
  rw [List.take_succ_eq_append_getElem h, List.foldl_append]
  rfl

theorem highR_take (l : List Rw) (a : Rw) (i : Nat) (h : i < l.length) : highR a (l.take (i + 1)) = if 0 < pCmp l[i].v (highR a (l.take i)).v then l[i] else highR a (l.take i) := by
  unfold highR
  rw [List.take_succ_eq_append_getElem h, List.foldl_append]
  rfl

/-- The number of three cells at a block's place. -/
structure El (w : World) (g o : Nat) (a : Rw) : Prop where
  c0 : w.cell? ⟨g, o, none⟩ = some (.bool a.g)
  c1 : w.cell? ⟨g, o + 1, none⟩ = some (.slice a.p (dig B32 a.m).length a.c)
  c2 : w.cell? ⟨g, o + 2, none⟩ = some (.int .i64 a.e)
  lt : g < w.heap.size

theorem El.e3 {w : World} {g o : Nat} {a : Rw} (h : El w g o a) : w.cell? ⟨g, o, none⟩ = some (.bool a.g) ∧ w.cell? ⟨g, o + 1, none⟩ = some (.slice a.p (dig B32 a.m).length a.c) ∧ w.cell? ⟨g, o + 2, none⟩ = some (.int .i64 a.e) := ⟨h.c0, h.c1, h.c2⟩
theorem El.below {w w' : World} {B g o : Nat} {a : Rw} (h : El w g o a) (hb : Below B w w') (hB : g < B) : El w' g o a :=
  ⟨by rw [Below.cell hb hB]; exact h.c0, by rw [Below.cell hb hB]; exact h.c1, by rw [Below.cell hb hB]; exact h.c2, Nat.lt_of_lt_of_le h.lt hb.size⟩
theorem El.past {w w' : World} {g o : Nat} {a : Rw} (h : El w g o a) (hb : Below w.heap.size w w') : El w' g o a := h.below hb h.lt
theorem El.drew {w : World} {g o : Nat} {a : Rw} (h : El w g o a) : El w.drew g o a := ⟨h.c0, h.c1, h.c2, h.lt⟩
theorem El.laid {w : World} {g o : Nat} {a : Rw} (h : El w g o a) (ob : Obj) : El (w.alloc ob) g o a := h.past (below_lay1 _ _)
theorem El.set {w : World} {g o k i : Nat} {a : Rw} {v : Value} (h : El w g o a) (hne : g < k) : El (w.setCell ⟨k, i, none⟩ v) g o a :=
  h.below ((Below.refl k w).setCell (p := ⟨k, i, none⟩) (Nat.le_refl _) v) hne

/-- Block b is of this type: so no row of numbers lies in it. -/
def Tb (w : World) (b : Nat) (t : TypeId) : Prop := ∃ vs fz, w.heap[b]? = some (.cells vs t fz)
theorem Tb.lt {w : World} {b : Nat} {t : TypeId} (h : Tb w b t) : b < w.heap.size := by
  obtain ⟨_, _, h⟩ := h
  exact (Array.getElem?_eq_some_iff.1 h).1
theorem Tb.past {w w' : World} {b : Nat} {t : TypeId} (h : Tb w b t) (hb : Below w.heap.size w w') : Tb w' b t := by
  have hl := h.lt
  obtain ⟨vs, fz, h⟩ := h
  exact ⟨vs, fz, (hb.block _ hl).trans h⟩
theorem Tb.drew {w : World} {b : Nat} {t : TypeId} (h : Tb w b t) : Tb w.drew b t := h
theorem Tb.only {w w' : World} {b k : Nat} {t : TypeId} (h : Tb w b t) (hb : Only k w w') (hne : b ≠ k) : Tb w' b t := by
  obtain ⟨vs, fz, h⟩ := h
  exact ⟨vs, fz, (hb.block _ hne).trans h⟩
theorem _root_.Go.Slip.Own.ne_tb {w : World} {base b : Nat} {k : IntKind} {e t : TypeId} {p : Option Addr} {c : Nat} {xs : List Nat} (h : Own w base k e p c xs) (hb : Tb w b t) (hne : e ≠ t) (hp : p.isSome = true) : blk p ≠ b := by
  obtain ⟨vs, fz, hb⟩ := hb
  rcases h.2 with ⟨h1, _⟩ | ⟨g, cap, cur, hv, _, hg, _⟩
  · simp only [Value.slice.injEq] at h1
    rw [h1.1] at hp; simp at hp
  · simp only [Value.slice.injEq] at hv
    obtain ⟨rfl, _, rfl⟩ := hv
    intro h2
    have h3 : g = b := h2
    rw [h3, hb] at hg
    simp only [Option.some.injEq, Obj.cells.injEq] at hg
    exact hne hg.2.1.symm
theorem wp_layT1 {P : Program} {c : Code} {Q : Exit → Act → World → Prop} {a : Act} {w : World} {v1 : Array Value} {t1 : TypeId} (h : ∀ W, Below w.heap.size w W → w.heap.size < W.heap.size → Bx W w.heap.size v1 → Tb W w.heap.size t1 → c.wp P Q a W) : c.wp P Q a (w.alloc (.cells v1 t1)) :=
  h _ (below_lay1 _ _) (by simp) (bx_new _ _ _) ⟨v1, (0, 0), by show (w.heap.push _)[_]? = _; simp⟩

/-- A ball that a call leaves. -/
def GivesB (w : World) (base : Nat) (l h : Dv) (en : Ending) (w' : World) : Prop :=
  ∃ p c q d, en = .returned (.agg #[.bool l.neg, .slice p (dig B32 l.m).length c, .int .i64 l.e, .bool h.neg, .slice q (dig B32 h.m).length d, .int .i64 h.e]) ∧
    Own w' base .u32 58 p c (dig B32 l.m) ∧ Own w' base .u32 58 q d (dig B32 h.m) ∧ Below w.heap.size w w'

theorem cmpW_any (x s : Rw) (b b' : Nat) (w : World) (hx : InW w b x) (hs : InW w b' s) :
    Calls Tryd.prog 54 #[.agg #[.bool x.g, .slice x.p (dig B32 x.m).length x.c, .int .i64 x.e], .agg #[.bool s.g, .slice s.p (dig B32 s.m).length s.c, .int .i64 s.e]] w fun en w' => en = .returned (.int .i64 (pCmp x.v s.v)) ∧ Below w.heap.size w w' :=
  cmpD_any x.g s.g x.p s.p _ x.c _ s.c x.e s.e x.m s.m w hx.ow.rd hs.ow.rd rfl rfl hx.len hs.len ⟨hx.lo, hx.hi⟩ ⟨hs.lo, hs.hi⟩

theorem cutW_any (s : Rw) (base b : Nat) (up : Bool) (w : World) (hs : InW w base s) (hb : b ≤ 1000000) (hT : TabW w) (hbase : base ≤ w.heap.size) :
    Calls Tryd.prog 53 #[.agg #[.bool s.g, .slice s.p (dig B32 s.m).length s.c, .int .i64 s.e], .int .i64 b, .bool up] w (GivesD w base (pCut s.v b up)) :=
  cutD_any s.g s.p _ s.c base s.e s.m b up w hs.ow rfl hs.len ⟨hs.lo, hs.hi⟩ hb hT hbase

set_option maxHeartbeats 4000000 in
set_option maxRecDepth 100000 in
theorem around_any (b g c base : Nat) (L : List Rw) (w : World) (n : Nat) (hn : n = L.length) (hL : 2 ≤ L.length) (hc : L.length ≤ c) (hl : L.length ≤ 1000)
    (hcell : ∀ j (h : j < L.length), w.cell? ⟨g, j * 3, none⟩ = some (.bool L[j].g) ∧ w.cell? ⟨g, j * 3 + 1, none⟩ = some (.slice L[j].p (dig B32 L[j].m).length L[j].c) ∧ w.cell? ⟨g, j * 3 + 2, none⟩ = some (.int .i64 L[j].e))
    (hr : ∀ j (h : j < L.length), InW w base L[j]) (hg : g < w.heap.size) (hb : b ≤ 1000000) (hT : TabW w) (hbase : base ≤ w.heap.size) :
    Calls Tryd.prog 82 #[.int .i64 b, .slice (some ⟨g, 0, none⟩) n c] w (GivesB w base (pCut (lowR (L[0]'(by omega)) L.tail).v b false) (pCut (highR (L[0]'(by omega)) L.tail).v b true)) := by
  subst hn
  obtain ⟨a0, hA0⟩ : ∃ a0, a0 = L[0]'(by omega) := ⟨_, rfl⟩
  have HA := Lib.hid hA0
  obtain ⟨k0, k1, k2⟩ := hcell 0 (by omega)
  have hr0 := hr 0 (by omega)
  rw [← hA0] at k0 k1 k2 hr0 ⊢
  simp only [Nat.zero_mul, Nat.zero_add] at k0 k1 k2
  have HC := Lib.hid hcell
  have HR := Lib.hid hr
  clear hcell hr hA0
  have E : El w g 0 a0 := ⟨k0, k1, k2, hg⟩
  clear k0 k1 k2
  go_enter Tryd.func82, Tryd.ntmps82
  go_wp2_with fail
  refine wp_layT1 (fun W1 hb1 hz1 R RT => ?_)
  have hs1 := hb1
  replace E := E.past hb1
  go_cut [5, 6] (fun s5 s6 wx => ∃ bl bh : Nat, s5 = .pointer (some ⟨bl, 0, none⟩) ∧ s6 = .pointer (some ⟨bh, 0, none⟩) ∧ bl ≠ bh ∧ W1.heap.size ≤ bl ∧ W1.heap.size ≤ bh ∧ Bx wx bl #[.bool a0.g, .slice a0.p (dig B32 a0.m).length a0.c, .int .i64 a0.e] ∧ Bx wx bh #[.bool a0.g, .slice a0.p (dig B32 a0.m).length a0.c, .int .i64 a0.e] ∧ Below W1.heap.size W1 wx)
  case first =>
    have hgW := hs1.size
    have hL0 : 0 < L.length := by omega
    have hL1 : (0 : Int) < (L.length : Int) := by omega
    go_region_held3 (fun w' => w'.cell? ⟨g, 0, none⟩ = some (.bool a0.g) ∧ w'.cell? ⟨g, 1, none⟩ = some (.slice a0.p (dig B32 a0.m).length a0.c) ∧ w'.cell? ⟨g, 2, none⟩ = some (.int .i64 a0.e))
      (((refine El.e3 (o := 0) ?_); (repeat (first | with_reducible exact E | with_reducible refine El.drew ?_ | with_reducible refine El.laid ?_ _ | (with_reducible refine El.set ?_ (by first | omega | (simp; omega)))))))
      (fail)
    all_goals (go_wp2_with fail)
    all_goals go_meet
    · exact ⟨_, _, rfl, rfl, by omega, by omega, by omega, ((bx_new W1 _ _).laid _).drew, (by have h := (bx_new (W1.alloc (.cells #[.bool a0.g, .slice a0.p (dig B32 a0.m).length a0.c, .int .i64 a0.e] 62)) #[.bool a0.g, .slice a0.p (dig B32 a0.m).length a0.c, .int .i64 a0.e] 62).drew; rw [World.size_alloc] at h; exact h), (below_lay2 W1 _ _).drew⟩
    · exact ⟨_, _, rfl, rfl, by omega, by omega, by omega, (by have h := (bx_new (W1.alloc (.cells #[.bool a0.g, .slice a0.p (dig B32 a0.m).length a0.c, .int .i64 a0.e] 62)) #[.bool a0.g, .slice a0.p (dig B32 a0.m).length a0.c, .int .i64 a0.e] 62).drew; rw [World.size_alloc] at h; exact h), ((bx_new W1 _ _).laid _).drew, (below_lay2 W1 _ _).drew⟩
  case rest =>
    obtain ⟨bl, bh, rfl, rfl, hne, hbl, hbh, LO, HI, hbc⟩ := hcut
    have hs2 := hs1.trans (hbc.mono hs1.size)
    replace R := R.past hbc
    replace RT := RT.past hbc
    have hzW := hs1.size
    have c1 : (1 : Int) ≤ (L.length : Int) := by omega
    have c2 : (L.length : Int) ≤ (c : Int) := by omega
    have c3 : (c == 1) = false := beq_eq_false_iff_ne.2 (by omega)
    clear hbc E
    go_wp2_with fail
    obtain ⟨N, hN⟩ : ∃ N, N = L.length - 1 := ⟨_, rfl⟩
    have HT0 : Hid (L.tail.length = N) := by rw [List.length_tail, hN]; exact rfl
    rw [← hN]
    have hN1 : N + 1 = L.length := by omega
    have HN := Lib.hid hN
    clear hN
    clear c1 c2 c3
    generalize c - 1 = c' at *
    go_loopg [18] N (fun gk iv wr => ∃ (i : Nat) (s t : Rw), iv = .int .i64 i ∧ gk + i = N ∧ Below w.heap.size w wr ∧ Bx wr bl #[.bool s.g, .slice s.p (dig B32 s.m).length s.c, .int .i64 s.e] ∧ Bx wr bh #[.bool t.g, .slice t.p (dig B32 t.m).length t.c, .int .i64 t.e] ∧ Bx wr w.heap.size #[.bool false, .slice none 0 0, .int .i64 0, .bool false, .slice none 0 0, .int .i64 0] ∧ InW w base s ∧ InW w base t ∧ Tb wr w.heap.size 64 ∧ Hid (s = lowR a0 (L.tail.take i) ∧ t = highR a0 (L.tail.take i)))
    case atStart => exact ⟨0, a0, a0, rfl, by omega, hs2, LO, HI, R, hr0, hr0, RT, ⟨rfl, rfl⟩⟩
    case round =>
      obtain ⟨i, s, t, rfl, hgk, hb2, LO, HI, R, hs, ht, RT, HF⟩ := hrel
      by_cases hlt : i < N
      · have hi1 : i + 1 < L.length := by omega
        obtain ⟨k0, k1, k2⟩ := HC.out (i + 1) hi1
        have hx := HR.out (i + 1) hi1
        have HLi : Hid (L.tail[i]'(by rw [List.length_tail]; omega) = L[i + 1]) := List.getElem_tail _
        obtain ⟨x, hX⟩ : ∃ x, x = L[i + 1] := ⟨_, rfl⟩
        rw [← hX] at k0 k1 k2 hx HLi
        have HLT : Hid (lowR a0 (L.tail.take (i + 1)) = if pCmp x.v s.v < 0 then x else s) := by
          have := lowR_take L.tail a0 i (by rw [List.length_tail]; omega)
          rw [HLi.out, ← HF.out.1] at this; exact this
        have HHT : Hid (highR a0 (L.tail.take (i + 1)) = if 0 < pCmp x.v t.v then x else t) := by
          have := highR_take L.tail a0 i (by rw [List.length_tail]; omega)
          rw [HLi.out, ← HF.out.2] at this; exact this
        rw [show (i + 1) * 3 = 3 + i * 3 by omega] at k0 k1 k2
        have E : El w g (3 + i * 3) x := ⟨k0, k1, k2, hg⟩
        replace E := E.past hb2
        obtain ⟨k0, k1, k2⟩ := E.e3
        have hhx := hx.past hb2
        have hhs := hs.past hb2
        have hht := ht.past hb2
        have hX0 := Lib.hid hX
        clear hX
        go_upto_region 5 with (fail)
        have hbl1 := LO.lt
        have hbh1 := HI.lt
        have hRl := R.lt
        refine wp_lay1 (fun W4 hb4 hz4 X => ?_)
        replace LO := LO.past hb4
        replace HI := HI.past hb4
        replace R := R.past hb4
        replace hhx := hhx.past hb4
        replace hhs := hhs.past hb4
        replace hht := hht.past hb4
        replace RT := RT.past hb4
        have hs4 := hb2.trans (hb4.mono hb2.size)
        have hXl := X.lt
        obtain ⟨X_0, X_1, X_2⟩ := X.e3
        obtain ⟨LO_0, LO_1, LO_2⟩ := LO.e3
        go_wp2_with fail
        clear X_0 X_1 X_2 LO_0 LO_1 LO_2
        ((with_reducible refine ((cmpW_any x s _ _ _ hhx hhs)).mono ?_))
        rintro e5 w5 ⟨rfl, hb5⟩
        replace LO := LO.past hb5
        replace HI := HI.past hb5
        replace R := R.past hb5
        replace X := X.past hb5
        replace hhx := hhx.past hb5
        replace hhs := hhs.past hb5
        replace hht := hht.past hb5
        replace RT := RT.past hb5
        have hs5 := hs4.trans (hb5.mono hs4.size)
        obtain ⟨C, hC0⟩ : ∃ C, pCmp x.v s.v = C := ⟨_, rfl⟩
        rw [hC0] at HLT ⊢
        clear hC0
        obtain ⟨D, hD0⟩ : ∃ D, pCmp x.v t.v = D := ⟨_, rfl⟩
        rw [hD0] at HHT
        have HDD := Lib.hid hD0
        clear hD0
        by_cases hC : C < 0
        · have t1 : decide (C < 0) = true := decide_eq_true hC
          rw [if_pos hC] at HLT
          obtain ⟨X_0, X_1, X_2⟩ := X.e3
          obtain ⟨LO_0, LO_1, LO_2⟩ := LO.e3
          have LO_f0 := LO.f 0
          have LO_f1 := LO.f 1
          have LO_f2 := LO.f 2
          go_upto_region 7 with (fail)
          clear X_0 X_1 X_2 LO_0 LO_1 LO_2 LO_f0 LO_f1 LO_f2
          refine wp_put3 LO (fun W6 hO6 LO => ?_)
          replace X := X.only hO6 (by omega)
          replace HI := HI.only hO6 (by omega)
          replace R := R.only hO6 (by omega)
          replace RT := RT.only hO6 (by omega)
          replace hhx := hhx.only hO6 (fun h => by have := (hx.ow.blk_lt h).2; omega)
          replace hht := hht.only hO6 (fun h => by have := (ht.ow.blk_lt h).2; omega)
          have hs6 := hs5.trans (hO6.below (B := w.heap.size) (by omega))
          clear hs5 hO6 hb5
          obtain ⟨X_0, X_1, X_2⟩ := X.e3
          obtain ⟨HI_0, HI_1, HI_2⟩ := HI.e3
          go_wp2_with fail
          clear X_0 X_1 X_2 HI_0 HI_1 HI_2
          ((with_reducible refine ((cmpW_any x t _ _ _ hhx hht)).mono ?_))
          rintro e7 w7 ⟨rfl, hb7⟩
          replace X := X.past hb7
          replace LO := LO.past hb7
          replace HI := HI.past hb7
          replace R := R.past hb7
          replace hhx := hhx.past hb7
          replace hht := hht.past hb7
          replace RT := RT.past hb7
          have hs7 := hs6.trans (hb7.mono hs6.size)
          rw [HDD.out]
          by_cases hD : 0 < D
          · have t2 : decide (0 < D) = true := decide_eq_true hD
            rw [if_pos hD] at HHT
            obtain ⟨X_0, X_1, X_2⟩ := X.e3
            obtain ⟨HI_0, HI_1, HI_2⟩ := HI.e3
            have HI_f0 := HI.f 0
            have HI_f1 := HI.f 1
            have HI_f2 := HI.f 2
            go_upto_region 9 with (fail)
            clear X_0 X_1 X_2 HI_0 HI_1 HI_2 HI_f0 HI_f1 HI_f2
            refine wp_put3 HI (fun W8 hO8 HI => ?_)
            replace LO := LO.only hO8 (by omega)
            replace R := R.only hO8 (by omega)
            replace RT := RT.only hO8 (by omega)
            have hs8 := hs7.trans (hO8.below (B := w.heap.size) (by omega))
            clear hs7 hO8 hb7 t1 t2
            go_wp2_with fail
            go_roundg (gk - 1)
            case measure => omega
            case rel => exact ⟨i + 1, x, x, by go_num, by omega, hs8, LO, HI, R, hx, hx, RT, ⟨HLT.out.symm, HHT.out.symm⟩⟩
          · have t2 : decide (0 < D) = false := decide_eq_false hD
            rw [if_neg hD] at HHT
            go_upto_region 9 with (fail)
            clear hb7 t1 t2
            go_wp2_with fail
            go_roundg (gk - 1)
            case measure => omega
            case rel => exact ⟨i + 1, x, t, by go_num, by omega, hs7, LO, HI, R, hx, ht, RT, ⟨HLT.out.symm, HHT.out.symm⟩⟩
        · have t1 : decide (C < 0) = false := decide_eq_false hC
          rw [if_neg hC] at HLT
          go_upto_region 7 with (fail)
          have hs6 := hs5
          obtain ⟨W6, hW6⟩ : ∃ W6, W6 = w5 := ⟨_, rfl⟩
          subst hW6
          clear hs5
          obtain ⟨X_0, X_1, X_2⟩ := X.e3
          obtain ⟨HI_0, HI_1, HI_2⟩ := HI.e3
          go_wp2_with fail
          clear X_0 X_1 X_2 HI_0 HI_1 HI_2
          ((with_reducible refine ((cmpW_any x t _ _ _ hhx hht)).mono ?_))
          rintro e7 w7 ⟨rfl, hb7⟩
          replace X := X.past hb7
          replace LO := LO.past hb7
          replace HI := HI.past hb7
          replace R := R.past hb7
          replace hhx := hhx.past hb7
          replace hht := hht.past hb7
          replace RT := RT.past hb7
          have hs7 := hs6.trans (hb7.mono hs6.size)
          rw [HDD.out]
          by_cases hD : 0 < D
          · have t2 : decide (0 < D) = true := decide_eq_true hD
            rw [if_pos hD] at HHT
            obtain ⟨X_0, X_1, X_2⟩ := X.e3
            obtain ⟨HI_0, HI_1, HI_2⟩ := HI.e3
            have HI_f0 := HI.f 0
            have HI_f1 := HI.f 1
            have HI_f2 := HI.f 2
            go_upto_region 9 with (fail)
            clear X_0 X_1 X_2 HI_0 HI_1 HI_2 HI_f0 HI_f1 HI_f2
            refine wp_put3 HI (fun W8 hO8 HI => ?_)
            replace LO := LO.only hO8 (by omega)
            replace R := R.only hO8 (by omega)
            replace RT := RT.only hO8 (by omega)
            have hs8 := hs7.trans (hO8.below (B := w.heap.size) (by omega))
            clear hs7 hO8 hb7 t1 t2
            go_wp2_with fail
            go_roundg (gk - 1)
            case measure => omega
            case rel => exact ⟨i + 1, s, x, by go_num, by omega, hs8, LO, HI, R, hs, hx, RT, ⟨HLT.out.symm, HHT.out.symm⟩⟩
          · have t2 : decide (0 < D) = false := decide_eq_false hD
            rw [if_neg hD] at HHT
            go_upto_region 9 with (fail)
            clear hb7 t1 t2
            go_wp2_with fail
            go_roundg (gk - 1)
            case measure => omega
            case rel => exact ⟨i + 1, s, t, by go_num, by omega, hs7, LO, HI, R, hs, ht, RT, ⟨HLT.out.symm, HHT.out.symm⟩⟩
      · have hiN : i = N := by omega
        have hHF := HF.out
        rw [show L.tail.take i = L.tail by rw [hiN, ← HT0.out, List.take_length]] at hHF
        have HSL := Lib.hid (congrArg (fun z => pCut (Rw.v z) b false) hHF.1)
        have HSH := Lib.hid (congrArg (fun z => pCut (Rw.v z) b true) hHF.2)
        clear hHF hiN
        have hhs := hs.past hb2
        have hht := ht.past hb2
        have HCL := fun W h1 h2 h3 => Lib.hid (cutW_any s base b false W h1 hb h2 h3)
        have HCH := fun W h1 h2 h3 => Lib.hid (cutW_any t base b true W h1 hb h2 h3)
        obtain ⟨dl, hdl⟩ : ∃ dl, pCut s.v b false = dl := ⟨_, rfl⟩
        obtain ⟨dh, hdh⟩ : ∃ dh, pCut t.v b true = dh := ⟨_, rfl⟩
        rw [hdl] at HCL
        rw [hdh] at HCH
        have HDL := Lib.hid (HSL.out.symm.trans hdl)
        have HDH := Lib.hid (HSH.out.symm.trans hdh)
        clear hdl hdh HSL HSH
        have hTr := hT.past hb2
        have hbW : base ≤ wr.drew.heap.size := Nat.le_trans hbase hb2.size
        have hzW2 := hb2.size
        have hzd : wr.drew.heap.size = wr.heap.size := rfl
        have HZD := Lib.hid hzd
        clear hzd
        have hsl := fun h => (hs.ow.blk_lt h).2
        have htl := fun h => (ht.ow.blk_lt h).2
        go_upto_region 10 with (fail)
        go_region_held3 (fun w' => (w'.cell? ⟨bl, 0, none⟩ = some (.bool s.g) ∧ w'.cell? ⟨bl, 1, none⟩ = some (.slice s.p (dig B32 s.m).length s.c) ∧ w'.cell? ⟨bl, 2, none⟩ = some (.int .i64 s.e)) ∧
            (w'.cell? ⟨bh, 0, none⟩ = some (.bool t.g) ∧ w'.cell? ⟨bh, 1, none⟩ = some (.slice t.p (dig B32 t.m).length t.c) ∧ w'.cell? ⟨bh, 2, none⟩ = some (.int .i64 t.e)))
          (first
            | with_reducible exact ⟨LO.e3, HI.e3⟩
            | with_reducible exact ⟨LO.drew.e3, HI.drew.e3⟩
            | with_reducible exact ⟨(LO.drew.past hbx).e3, (HI.drew.past hbx).e3⟩
            | with_reducible exact ⟨(LO.drew.past hby).e3, (HI.drew.past hby).e3⟩
            | with_reducible exact ⟨((LO.drew.past hbx).past hby).e3, ((HI.drew.past hbx).past hby).e3⟩
            | with_reducible exact ⟨((LO.drew.past hby).past hbx).e3, ((HI.drew.past hby).past hbx).e3⟩
            | with_reducible exact ⟨(((LO.drew.past hbx).past hby).only (only6 _ _ _ _ _ _ _ _) (by omega)).e3, (((HI.drew.past hbx).past hby).only (only6 _ _ _ _ _ _ _ _) (by omega)).e3⟩
            | with_reducible exact ⟨(((LO.drew.past hby).past hbx).only (only6 _ _ _ _ _ _ _ _) (by omega)).e3, (((HI.drew.past hby).past hbx).only (only6 _ _ _ _ _ _ _ _) (by omega)).e3⟩)
          (first
            | (go_at_call_of 53 (Value.agg #[.bool s.g, .slice s.p (dig B32 s.m).length s.c, .int .i64 s.e]); (first | with_reducible refine (HCL _ hhs.drew hTr.drew hbW).out.mono ?_ | with_reducible refine (HCL _ (hhs.drew.past hby) (hTr.drew.past hby) (Nat.le_trans hbW hby.size)).out.mono ?_); rintro ex wx ⟨px, cx, rfl, hox, hbx⟩; (first | (have RR := (R.drew.past hby).past hbx; obtain ⟨R_0, R_1, R_2, R_3, R_4, R_5⟩ := RR.e6; have R_f0 := RR.f 0; have R_f1 := RR.f 1; have R_f2 := RR.f 2; have R_f3 := RR.f 3; have R_f4 := RR.f 4; have R_f5 := RR.f 5) | skip))
            | (go_at_call_of 53 (Value.agg #[.bool t.g, .slice t.p (dig B32 t.m).length t.c, .int .i64 t.e]); (first | with_reducible refine (HCH _ hht.drew hTr.drew hbW).out.mono ?_ | with_reducible refine (HCH _ (hht.drew.past hbx) (hTr.drew.past hbx) (Nat.le_trans hbW hbx.size)).out.mono ?_); rintro ey wy ⟨py, cy, rfl, hoy, hby⟩; (first | (have RR := (R.drew.past hbx).past hby; obtain ⟨R_0, R_1, R_2, R_3, R_4, R_5⟩ := RR.e6; have R_f0 := RR.f 0; have R_f1 := RR.f 1; have R_f2 := RR.f 2; have R_f3 := RR.f 3; have R_f4 := RR.f 4; have R_f5 := RR.f 5) | skip)))
        all_goals (go_wp2_with fail)
        all_goals (refine bodyPost_ret (v := .agg #[.bool dl.neg, .slice px (dig B32 dl.m).length cx, .int .i64 dl.e, .bool dh.neg, .slice py (dig B32 dh.m).length cy, .int .i64 dh.e]) (by simp [results, Tryd.results82, go_sem, R_0, R_1, R_2, R_3, R_4, R_5]) rfl ?_)
        all_goals rw [show pCut (lowR a0 L.tail).v b false = dl from HDL.out, show pCut (highR a0 L.tail).v b true = dh from HDH.out]
        · have ho1 := hox.past hby
          have hTT := (RT.drew.past hbx).past hby
          have hO := only6 wy w.heap.size (.bool dl.neg) (.slice px (dig B32 dl.m).length cx) (.int .i64 dl.e) (.bool dh.neg) (.slice py (dig B32 dh.m).length cy) (.int .i64 dh.e)
          exact ⟨px, cx, py, cy, rfl, ho1.only hO (ho1.ne_tb hTT (by decide)), hoy.only hO (hoy.ne_tb hTT (by decide)),
            ((hb2.drew.trans (hbx.mono hzW2)).trans (hby.mono (Nat.le_trans hzW2 hbx.size))).trans (hO.below (Nat.le_refl _))⟩

end Go.Proofs.YtehodhanojgkgaaDoor

namespace Go.Proofs.YtehodhanojgkgaaDoor
open Go.RowKit Go.Slip

theorem ofDin_any (a : Din) (w : World) (ha : InD w a) (he : errDy a = 0) (hT : TabW w) :
    Calls Tryd.prog 71 #[.agg #[.bool a.g, .slice a.p a.xs.length a.c, .int .i64 a.e]] w (GivesD w w.heap.size (dyV a)) := by
  obtain ⟨m, hx, hv, hl, e1, e2⟩ := ha.ok he
  have h := ofD_any a.g a.p a.xs.length a.c a.e m w (by rw [← hx]; exact ha.rd) (by rw [hx]) ha.cap (by omega) ⟨by omega, by omega⟩ hT
  rw [show dyV a = bare ⟨a.g, m, a.e⟩ by unfold dyV; rw [hv]]
  exact h

theorem givesB_close {w wk : World} {base base' b : Nat} {l h : Dv} {p q : Option Addr} {c d : Nat} {v0 v1 v2 v3 v4 v5 : Value} (hs : Below w.heap.size w wk) (ho : Own wk base' .u32 58 p c (dig B32 l.m)) (hq : Own wk base' .u32 58 q d (dig B32 h.m))
    (hb : base ≤ base') (hB : w.heap.size ≤ b) (hne : p.isSome = true → blk p ≠ b) (hne2 : q.isSome = true → blk q ≠ b) :
    GivesB w base l h (.returned (.agg #[.bool l.neg, .slice p (dig B32 l.m).length c, .int .i64 l.e, .bool h.neg, .slice q (dig B32 h.m).length d, .int .i64 h.e]))
      ((((((wk.setCell ⟨b, 0, none⟩ v0).setCell ⟨b, 1, none⟩ v1).setCell ⟨b, 2, none⟩ v2).setCell ⟨b, 3, none⟩ v3).setCell ⟨b, 4, none⟩ v4).setCell ⟨b, 5, none⟩ v5) :=
  have hO := only6 wk b v0 v1 v2 v3 v4 v5
  ⟨p, c, q, d, rfl, (ho.mono hb).only hO hne, (hq.mono hb).only hO hne2, hs.trans (hO.below hB)⟩

set_option maxHeartbeats 2000000 in
set_option maxRecDepth 100000 in
theorem ballOf_any (a b : Din) (w : World) (ha : InD w a) (hb : InD w b) (hea : errDy a = 0) (heb : errDy b = 0) (hT : TabW w) :
    Calls Tryd.prog 50 #[.agg #[.bool a.g, .slice a.p a.xs.length a.c, .int .i64 a.e, .bool b.g, .slice b.p b.xs.length b.c, .int .i64 b.e]] w (GivesB w w.heap.size (dyV a) (dyV b)) := by
  have HA := fun W h1 h2 => Lib.hid (ofDin_any a W h1 hea h2)
  have HB := fun W h1 h2 => Lib.hid (ofDin_any b W h1 heb h2)
  generalize dyV a = va at *
  generalize dyV b = vb at *
  clear hea heb
  go_enter Tryd.func50, Tryd.ntmps50
  go_wp2_with fail
  refine wp_lay2 (fun W1 hb1 hz1 A R => ?_)
  replace ha := ha.past hb1
  replace hb := hb.past hb1
  replace hT := hT.past hb1
  have hs1 := hb1
  have hRl := R.lt
  have hzd : W1.drew.heap.size = W1.heap.size := rfl
  have HZD := Lib.hid hzd
  clear hzd
  go_region_held3 (fun w' => w'.cell? ⟨w.heap.size, 0, none⟩ = some (.bool a.g) ∧ w'.cell? ⟨w.heap.size, 1, none⟩ = some (.slice a.p a.xs.length a.c) ∧ w'.cell? ⟨w.heap.size, 2, none⟩ = some (.int .i64 a.e) ∧ w'.cell? ⟨w.heap.size, 3, none⟩ = some (.bool b.g) ∧ w'.cell? ⟨w.heap.size, 4, none⟩ = some (.slice b.p b.xs.length b.c) ∧ w'.cell? ⟨w.heap.size, 5, none⟩ = some (.int .i64 b.e))
    (first
      | with_reducible exact A.e6
      | with_reducible exact A.drew.e6
      | with_reducible exact (A.drew.past hbx).e6
      | with_reducible exact ((A.drew.past hbx).past hby).e6
      | with_reducible exact (((A.drew.past hbx).past hby).only (only6 _ _ _ _ _ _ _ _) (by omega)).e6)
    (first
      | (go_at_call_of 71 (Value.agg #[.bool a.g, .slice a.p a.xs.length a.c, .int .i64 a.e]); ((with_reducible refine (HA _ ha.drew hT.drew).out.mono ?_)); rintro ex wx ⟨px, cx, rfl, hox, hbx⟩)
      | (go_at_call_of 71 (Value.agg #[.bool b.g, .slice b.p b.xs.length b.c, .int .i64 b.e]); ((with_reducible refine (HB _ (hb.drew.past hbx) (hT.drew.past hbx)).out.mono ?_)); rintro ey wy ⟨py, cy, rfl, hoy, hby⟩; (have RR := (R.drew.past hbx).past hby); obtain ⟨R_0, R_1, R_2, R_3, R_4, R_5⟩ := RR.e6; (have R_f0 := RR.f 0); (have R_f1 := RR.f 1); (have R_f2 := RR.f 2); (have R_f3 := RR.f 3); (have R_f4 := RR.f 4); have R_f5 := RR.f 5))
  all_goals (go_wp2_with fail)
  all_goals (refine bodyPost_ret (v := .agg #[.bool va.neg, .slice px (dig B32 va.m).length cx, .int .i64 va.e, .bool vb.neg, .slice py (dig B32 vb.m).length cy, .int .i64 vb.e]) (by simp [results, Tryd.results50, go_sem, R_0, R_1, R_2, R_3, R_4, R_5]) rfl ?_)
  have hzd := HZD.out
  have hz1 := hs1.size
  have hzx := hbx.size
  exact givesB_close ((hs1.drew.trans (hbx.mono hs1.size)).trans (hby.mono (Nat.le_trans hs1.size hbx.size))) (hox.past hby) (hoy.mono hbx.size) (by omega) (by omega) (fun h => by have := ((hox.past hby).blk_lt h).1; omega) (fun h => by have := (hoy.blk_lt h).1; omega)

end Go.Proofs.YtehodhanojgkgaaDoor

namespace Go.Proofs.YtehodhanojgkgaaDoor
open Go.RowKit Go.Slip

/-- What is wrong with a ball. -/
def errBall (a b : Din) : Int := if errDy2 a b = 0 then (if 0 < pCmp (dyV a) (dyV b) then 4 else 0) else errDy2 a b

theorem errBall_ok {a b : Din} (h : errBall a b = 0) : errDy a = 0 ∧ errDy b = 0 ∧ pCmp (dyV a) (dyV b) ≤ 0 := by
  unfold errBall at h
  by_cases h1 : errDy2 a b = 0
  · rw [if_pos h1] at h
    obtain ⟨h2, h3⟩ := errDy2_ok h1
    refine ⟨h2, h3, ?_⟩
    split at h
    · omega
    · omega
  · rw [if_neg h1] at h; exact absurd h h1

/-- The number of a dyad that came in and was made bare, as it lies in memory. -/
theorem dyV_inW {w w' : World} {a : Din} {base : Nat} {p : Option Addr} {c : Nat} (ha : InD w a) (he : errDy a = 0) (ho : Own w' base .u32 58 p c (dig B32 (dyV a).m)) :
    InW w' base ⟨(dyV a).neg, p, c, (dyV a).m, (dyV a).e⟩ := by
  obtain ⟨h1, h2, h3⟩ := dyV_bd ha he
  exact ⟨ho, by simp only; omega, by simp only; omega, by simp only; omega⟩

set_option maxHeartbeats 4000000 in
set_option maxRecDepth 100000 in
theorem ballCheck_any (a b : Din) (w : World) (ha : InD w a) (hb : InD w b) (hT : TabW w) :
    Calls Tryd.prog 49 #[.agg #[.bool a.g, .slice a.p a.xs.length a.c, .int .i64 a.e, .bool b.g, .slice b.p b.xs.length b.c, .int .i64 b.e]] w fun en w' => en = .returned (.int .i64 (errBall a b)) ∧ Below w.heap.size w w' := by
  have HE := Lib.hid (show errBall a b = if errDy a = 0 then (if errDy b = 0 then (if 0 < pCmp (dyV a) (dyV b) then 4 else 0) else errDy b) else errDy a by
    unfold errBall errDy2
    by_cases h1 : errDy a = 0
    · simp only [if_pos h1]
    · simp only [if_neg h1])
  have HCA := fun W (h : InD W a) => Lib.hid (dyCheckOne_any a W h.rd h.len)
  have HCB := fun W (h : InD W b) => Lib.hid (dyCheckOne_any b W h.rd h.len)
  have HOA := fun W (he : errDy a = 0) h1 h2 => Lib.hid (ofDin_any a W h1 he h2)
  have HOB := fun W (he : errDy b = 0) h1 h2 => Lib.hid (ofDin_any b W h1 he h2)
  have HWA := fun W base p c (he : errDy a = 0) h => dyV_inW (w' := W) (base := base) (p := p) (c := c) ha he h
  have HWB := fun W base p c (he : errDy b = 0) h => dyV_inW (w' := W) (base := base) (p := p) (c := c) hb he h
  obtain ⟨ea, hea⟩ : ∃ ea, errDy a = ea := ⟨_, rfl⟩
  obtain ⟨eb, heb⟩ : ∃ eb, errDy b = eb := ⟨_, rfl⟩
  rw [hea] at HE HCA HOA HWA
  rw [heb] at HE HCB HOB HWB
  clear hea heb
  go_enter Tryd.func49, Tryd.ntmps49
  go_wp2_with fail
  refine wp_lay2 (fun W1 hb1 hz1 A L => ?_)
  have hs1 := hb1
  obtain ⟨LB, hLB⟩ : ∃ LB, w.heap.size + 1 = LB := ⟨_, rfl⟩
  rw [hLB] at L ⊢
  have HLB := Lib.hid hLB
  clear hLB
  go_loopg [12] 2 (fun gk iv wr => ∃ (i : Nat), iv = .int .i64 i ∧ gk + i = 2 ∧ Below w.heap.size w wr ∧ Bx wr w.heap.size #[.bool a.g, .slice a.p a.xs.length a.c, .int .i64 a.e, .bool b.g, .slice b.p b.xs.length b.c, .int .i64 b.e] ∧ Bx wr LB #[.bool a.g, .slice a.p a.xs.length a.c, .int .i64 a.e, .bool b.g, .slice b.p b.xs.length b.c, .int .i64 b.e] ∧ Hid ((1 ≤ i → ea = 0) ∧ (2 ≤ i → eb = 0)))
  case atStart => exact ⟨0, rfl, rfl, hs1, A, L, ⟨fun h => by omega, fun h => by omega⟩⟩
  case round =>
    obtain ⟨i, rfl, hgk, hb2, A, L, HF⟩ := hrel
    have hA2 := ha.past hb2
    have hB2 := hb.past hb2
    have hT2 := hT.past hb2
    by_cases hi0 : i = 0
    · subst hi0
      obtain rfl : gk = 2 := by omega
      obtain ⟨L_0, L_1, L_2, L_3, L_4, L_5⟩ := L.e6
      go_upto_region 4 with (fail)
      clear L_0 L_1 L_2 L_3 L_4 L_5
      refine wp_lay1 (fun W4 hb4 hz4 X => ?_)
      replace A := A.past hb4
      replace L := L.past hb4
      have hs4 := hb2.trans (hb4.mono hb2.size)
      obtain ⟨X_0, X_1, X_2⟩ := X.e3
      go_wp2_with fail
      clear X_0 X_1 X_2
      ((with_reducible refine ((HCA _ (hA2.past hb4)).out).mono ?_))
      rintro e5 w5 ⟨rfl, hb5⟩
      replace A := A.past hb5
      replace L := L.past hb5
      replace X := X.past hb5
      have hs5 := hs4.trans (hb5.mono hs4.size)
      by_cases h0 : ea = 0
      · have t1 : (ea == 0) = true := by simpa using h0
        have t2 : (ea != 0) = false := by simpa using h0
        have H0 := Lib.hid h0
        clear h0
        go_upto_region 7 with (fail)
        go_wp2_with fail
        go_roundg 1
        case measure => omega
        case rel => exact ⟨1, by go_num, rfl, hs5, A, L, ⟨fun _ => H0.out, fun h => by omega⟩⟩
      · have t1 : (ea == 0) = false := beq_eq_false_iff_ne.2 h0
        have t2 : (ea != 0) = true := by rw [bne, t1]; rfl
        have HEE := Lib.hid (HE.out.trans (if_neg h0))
        clear h0
        go_wp2
        go_ret
        exact ⟨ret_int HEE.out.symm, hs5⟩
    · by_cases hi1 : i = 1
      · subst hi1
        obtain rfl : gk = 1 := by omega
        have H0 := Lib.hid (HF.out.1 (Nat.le_refl _))
        obtain ⟨L_0, L_1, L_2, L_3, L_4, L_5⟩ := L.e6
        go_upto_region 4 with (fail)
        clear L_0 L_1 L_2 L_3 L_4 L_5
        refine wp_lay1 (fun W4 hb4 hz4 X => ?_)
        replace A := A.past hb4
        replace L := L.past hb4
        have hs4 := hb2.trans (hb4.mono hb2.size)
        obtain ⟨X_0, X_1, X_2⟩ := X.e3
        go_wp2_with fail
        clear X_0 X_1 X_2
        ((with_reducible refine ((HCB _ (hB2.past hb4)).out).mono ?_))
        rintro e5 w5 ⟨rfl, hb5⟩
        replace A := A.past hb5
        replace L := L.past hb5
        replace X := X.past hb5
        have hs5 := hs4.trans (hb5.mono hs4.size)
        by_cases h0 : eb = 0
        · have t1 : (eb == 0) = true := by simpa using h0
          have t2 : (eb != 0) = false := by simpa using h0
          have H1 := Lib.hid h0
          clear h0
          go_upto_region 7 with (fail)
          go_wp2_with fail
          go_roundg 0
          case measure => omega
          case rel => exact ⟨2, by go_num, rfl, hs5, A, L, ⟨fun _ => H0.out, fun _ => H1.out⟩⟩
        · have t1 : (eb == 0) = false := beq_eq_false_iff_ne.2 h0
          have t2 : (eb != 0) = true := by rw [bne, t1]; rfl
          have HEE := Lib.hid (HE.out.trans ((if_pos H0.out).trans (if_neg h0)))
          clear h0
          go_wp2
          go_ret
          exact ⟨ret_int HEE.out.symm, hs5⟩
      · obtain rfl : i = 2 := by omega
        obtain rfl : gk = 0 := by omega
        have H0 := Lib.hid (HF.out.1 (by omega))
        have H1 := Lib.hid (HF.out.2 (Nat.le_refl _))
        have HEE := Lib.hid (HE.out.trans ((if_pos H0.out).trans (if_pos H1.out)))
        have HOA := fun W h1 h2 => HOA W H0.out h1 h2
        have HOB := fun W h1 h2 => HOB W H1.out h1 h2
        have HWA := fun W base p c h => HWA W base p c H0.out h
        have HWB := fun W base p c h => HWB W base p c H1.out h
        generalize dyV a = va at *
        generalize dyV b = vb at *
        obtain ⟨C, hC⟩ : ∃ C, pCmp va vb = C := ⟨_, rfl⟩
        rw [hC] at HEE
        have HC := Lib.hid hC
        clear hC
        go_upto_region 8 with (fail)
        go_region_held3 (fun w' => w'.cell? ⟨w.heap.size, 0, none⟩ = some (.bool a.g) ∧ w'.cell? ⟨w.heap.size, 1, none⟩ = some (.slice a.p a.xs.length a.c) ∧ w'.cell? ⟨w.heap.size, 2, none⟩ = some (.int .i64 a.e) ∧ w'.cell? ⟨w.heap.size, 3, none⟩ = some (.bool b.g) ∧ w'.cell? ⟨w.heap.size, 4, none⟩ = some (.slice b.p b.xs.length b.c) ∧ w'.cell? ⟨w.heap.size, 5, none⟩ = some (.int .i64 b.e))
          (first
            | with_reducible exact A.e6
            | with_reducible exact A.drew.e6
            | with_reducible exact (A.drew.past hbx).e6
            | with_reducible exact ((A.drew.past hbx).past hby).e6
            | with_reducible exact (((A.drew.past hbx).past hby).past hbz).e6)
          (first
            | (go_at_call_of 71 (Value.agg #[.bool a.g, .slice a.p a.xs.length a.c, .int .i64 a.e]); ((with_reducible refine (HOA _ hA2.drew hT2.drew).out.mono ?_)); rintro ex wx ⟨px, cx, rfl, hox, hbx⟩)
            | (go_at_call_of 71 (Value.agg #[.bool b.g, .slice b.p b.xs.length b.c, .int .i64 b.e]); ((with_reducible refine (HOB _ (hB2.drew.past hbx) (hT2.drew.past hbx)).out.mono ?_)); rintro ey wy ⟨py, cy, rfl, hoy, hby⟩)
            | (go_at_call 54; ((with_reducible refine (cmpW_any ⟨va.neg, px, cx, va.m, va.e⟩ ⟨vb.neg, py, cy, vb.m, vb.e⟩ _ _ _ (HWA _ _ _ _ (hox.past hby)) (HWB _ _ _ _ hoy)).mono ?_)); rw [show pCmp (Rw.v ⟨va.neg, px, cx, va.m, va.e⟩) (Rw.v ⟨vb.neg, py, cy, vb.m, vb.e⟩) = C from HC.out]; rintro ez wz ⟨rfl, hbz⟩))
        have hsz := ((hb2.drew.trans (hbx.mono hb2.size)).trans (hby.mono (Nat.le_trans hb2.size hbx.size))).trans (hbz.mono (Nat.le_trans (Nat.le_trans hb2.size hbx.size) hby.size))
        by_cases hC : 0 < C
        · have HEF := Lib.hid (HEE.out.trans (if_pos hC))
          go_wp2
          go_ret
          exact ⟨ret_int HEF.out.symm, hsz⟩
        · have HEF := Lib.hid (HEE.out.trans (if_neg hC))
          go_wp2
          go_ret
          exact ⟨ret_int HEF.out.symm, hsz⟩

end Go.Proofs.YtehodhanojgkgaaDoor

namespace Go.Proofs.YtehodhanojgkgaaDoor
open Go.RowKit Go.Slip

structure In2 (w : World) (x : Din × Din) : Prop where
  a : InD w x.1
  b : InD w x.2
theorem In2.past {w w' : World} {x : Din × Din} (h : In2 w x) (hb : Below w.heap.size w w') : In2 w' x := ⟨h.a.past hb, h.b.past hb⟩

end Go.Proofs.YtehodhanojgkgaaDoor
