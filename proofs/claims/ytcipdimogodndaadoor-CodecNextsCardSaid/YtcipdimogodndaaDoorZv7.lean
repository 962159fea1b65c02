/- codec: open, Decode, Class, Size, Grid.
   codec: Encode.
   Decimal digits, four by four, and what is stripped of them: plain arithmetic. No program is in sight here.
   A product and a sum in place; the number that decimal digits make: plain arithmetic. No program is in sight here.
   The references' numbers of machine numbers, and of decimal digits.
   The references' division: of more than one digit.
   The references' SameNat, SameDyad, whatever the two are; ToDyad.
   The references on balls: OfBall, DSign, CheckBall, SameBall.
   What the references call, said of whole numbers over one power of 2.
   The reference's formats: FormatOf, OpenPattern, place.
   The reference's bits of a pattern: BitsOf, Value.
   The reference's Value, and what DecodeOf's closure tells.
   The reference's DecodeOf.
   What the laws of chapter 5 begin with: codecBegun.
   The next pattern: the plain law of its number. No program is in sight here.
   codec: Next.
   More steps over slices of any values. No program is in sight here.
   The reference's bits of a number, and its pattern of bits. -/
import Derived.Deep.LoopGhost
import Derived.Deep.RegionHeld3
import Derived.Test.YtcipdimogodndaaDoorZv1
import Derived.Test.YtcipdimogodndaaDoorZv2
import Derived.Test.YtcipdimogodndaaDoorZv3
import Derived.Test.YtcipdimogodndaaDoorZv4
import Derived.Test.YtcipdimogodndaaDoorZv5
import Derived.Test.YtcipdimogodndaaDoorZv6
namespace Go.Proofs.YtcipdimogodndaaDoor
open Go.RowKit Go.Slip

def errPat (n : Int) (s : ByteArray) : Int := if IsFm n then (if s.size = (fmt n).size then 0 else 1) else 6

theorem open_ok (n : Int) (s : ByteArray) (w : World) (hn : IsFm n) (hs : s.size = (fmt n).size) :
    Calls Tryd.prog 58 #[.int .i64 n, .string s] w fun en w' => en = .returned (.tuple #[.agg #[.int .i64 (((fmt n).size : Nat) : Int), .int .i64 (((fmt n).E : Nat) : Int), .int .i64 (((fmt n).F : Nat) : Int), .int .i64 (fmt n).g.rad, .int .i64 (fmt n).g.digs, .int .i64 (fmt n).g.lo, .int .i64 (fmt n).g.hi, .bool (fmt n).g.grad, .bool (fmt n).hid, .bool (fmt n).inf, .bool (fmt n).res, .func (.func (ordF (fmt n))) #[] #[]], .int .i64 0]) ∧ Below w.heap.size w w' := by
  have HF := fun W => Lib.hid (forms_any n hn W)
  generalize fmt n = f at *
  have I := Inv.start w [] True.intro
  refine zstart [.v (.int .i64 n), .v (.string s)] I Tryd.func58 ?_
  refine zg I (fun Al W I => (HF W).out) fun Al V Iv hz hB K k => ?_
  rintro _ W ⟨rfl, hb⟩
  refine ⟨_, rfl, k _ _ hb fun I => ?_⟩
  clear k K
  refine zb I 20 (((s.size : Nat) : Int) != ((f.size : Nat) : Int)) (false) (by simp [hs]) fun Al W I => ?_
  exact zret I fun Al W I => ⟨rfl, I.below⟩
theorem open_one (n : Int) (s : ByteArray) (w : World) (hn : IsFm n) (hs : s.size ≠ (fmt n).size) :
    Calls Tryd.prog 58 #[.int .i64 n, .string s] w fun en w' => en = .returned (.tuple #[.agg #[.int .i64 (((fmt n).size : Nat) : Int), .int .i64 (((fmt n).E : Nat) : Int), .int .i64 (((fmt n).F : Nat) : Int), .int .i64 (fmt n).g.rad, .int .i64 (fmt n).g.digs, .int .i64 (fmt n).g.lo, .int .i64 (fmt n).g.hi, .bool (fmt n).g.grad, .bool (fmt n).hid, .bool (fmt n).inf, .bool (fmt n).res, .func (.func (ordF (fmt n))) #[] #[]], .int .i64 1]) ∧ Below w.heap.size w w' := by
  have HF := fun W => Lib.hid (forms_any n hn W)
  generalize fmt n = f at *
  have I := Inv.start w [] True.intro
  refine zstart [.v (.int .i64 n), .v (.string s)] I Tryd.func58 ?_
  refine zg I (fun Al W I => (HF W).out) fun Al V Iv hz hB K k => ?_
  rintro _ W ⟨rfl, hb⟩
  refine ⟨_, rfl, k _ _ hb fun I => ?_⟩
  clear k K
  refine zb I 20 (((s.size : Nat) : Int) != ((f.size : Nat) : Int)) (true) (bne_iff_ne.2 (fun h => hs (by omega))) fun Al W I => ?_
  exact zret I fun Al W I => ⟨rfl, I.below⟩
theorem open_six (n : Int) (s : ByteArray) (w : World) (hn : ¬ IsFm n) :
    Calls Tryd.prog 58 #[.int .i64 n, .string s] w fun en w' => en = .returned (.tuple #[.agg #[.int .i64 0, .int .i64 0, .int .i64 0, .int .i64 0, .int .i64 0, .int .i64 0, .int .i64 0, .bool false, .bool false, .bool false, .bool false, .nilFunc], .int .i64 6]) ∧ Below w.heap.size w w' := by
  have HF := fun W => Lib.hid (forms_not n hn W)
  have I := Inv.start w [] True.intro
  refine zstart [.v (.int .i64 n), .v (.string s)] I Tryd.func58 ?_
  refine zg I (fun Al W I => (HF W).out) fun Al V Iv hz hB K k => ?_
  rintro _ W ⟨rfl, hb⟩
  refine ⟨_, rfl, k _ _ hb fun I => ?_⟩
  clear k K
  exact zret I fun Al W I => ⟨rfl, I.below⟩

def GivesVe (w : World) (v : Vl) (er : Int) (en : Ending) (w' : World) : Prop :=
  ∃ p c, en = .returned (.tuple #[.agg #[.int .i64 ((v.cls : Nat) : Int), .bool v.neg, .slice p (dig B32 v.d).length c, .int .i64 v.pow], .int .i64 er]) ∧ Own w' w.heap.size .u32 91 p c (dig B32 v.d) ∧ Below w.heap.size w w'
def zeroVl : Vl := ⟨0, false, 0, 0⟩
def decP (n : Int) (s : ByteArray) : Vl := if errPat n s = 0 then (fmt n).valN (numOfS (fmt n) s) else zeroVl
theorem errPat_zero {n : Int} {s : ByteArray} : errPat n s = 0 ↔ IsFm n ∧ s.size = (fmt n).size := by
  unfold errPat
  by_cases h1 : IsFm n
  · rw [if_pos h1]
    by_cases h2 : s.size = (fmt n).size
    · rw [if_pos h2]; simp [h1, h2]
    · rw [if_neg h2]; simp [h2]
  · rw [if_neg h1]; simp [h1]
theorem givesVe_err {w w' : World} {er : Int} {en : Ending} (h : en = .returned (.tuple #[.agg #[.int .i64 0, .bool false, .slice none 0 0, .int .i64 0], .int .i64 er])) (hb : Below w.heap.size w w') : GivesVe w zeroVl er en w' := by
  refine ⟨none, 0, ?_, ?_, hb⟩
  · rw [h]; show _ = Ending.returned (.tuple #[.agg #[_, _, .slice none (dig B32 0).length 0, _], _]); rw [dig_zero]; rfl
  · show Own _ _ _ _ _ _ (dig B32 0); rw [dig_zero]; exact Own.nil _ _ _ _

theorem Decode_any (n : Int) (s : ByteArray) (w : World) (hT : TabW w) :
    Calls Tryd.prog 23 #[.int .i64 n, .string s] w (GivesVe w (decP n s) (errPat n s)) := by
  by_cases hn : IsFm n
  · by_cases hs : s.size = (fmt n).size
    · have h0 : errPat n s = 0 := errPat_zero.2 ⟨hn, hs⟩
      have hd : decP n s = (fmt n).valN (numOfS (fmt n) s) := by unfold decP; rw [if_pos h0]
      rw [hd, h0]
      have HF := fun W => Lib.hid (open_ok n s W hn hs)
      have HD := fun W h => Lib.hid (decode_any (fmt n) s W (good_fm hn) hs h)
      generalize (fmt n).valN (numOfS (fmt n) s) = v at *
      generalize (fmt n).neg (numOfS (fmt n) s) = g at *
      generalize fmt n = f at *
      have I := Inv.start w [tabF] ⟨hT, True.intro⟩
      refine zstart [.v (.int .i64 n), .v (.string s)] I Tryd.func23 ?_
      refine zg I (fun Al W I => (HF W).out) fun Al V Iv hz hB K k => ?_
      rintro _ W ⟨rfl, hb⟩
      refine ⟨_, rfl, k _ _ hb fun I => ?_⟩
      clear k K
      refine zg I (fun Al W I => (HD W I.fa.1).out) fun Al V Iv hz hB K k => ?_
      rintro _ W ⟨p23, c23, rfl, o23, hb⟩
      refine ⟨_, rfl, k _ _ hb fun I => ?_⟩
      clear k K
      have I := I.own o23
      exact zret I fun Al W I => ⟨p23, c23, rfl, I.fa.1.mono (by omega), I.below⟩
    · have h0 : errPat n s = 1 := by unfold errPat; rw [if_pos hn, if_neg hs]
      have hd : decP n s = zeroVl := by unfold decP; rw [if_neg (by omega)]
      rw [hd, h0]
      have HF := fun W => Lib.hid (open_one n s W hn hs)
      generalize fmt n = f at *
      have I := Inv.start w [] True.intro
      refine zstart [.v (.int .i64 n), .v (.string s)] I Tryd.func23 ?_
      refine zg I (fun Al W I => (HF W).out) fun Al V Iv hz hB K k => ?_
      rintro _ W ⟨rfl, hb⟩
      refine ⟨_, rfl, k _ _ hb fun I => ?_⟩
      clear k K
      exact zret I fun Al W I => givesVe_err rfl I.below
  · have h0 : errPat n s = 6 := by unfold errPat; rw [if_neg hn]
    have hd : decP n s = zeroVl := by unfold decP; rw [if_neg (by omega)]
    rw [hd, h0]
    have HF := fun W => Lib.hid (open_six n s W hn)
    have I := Inv.start w [] True.intro
    refine zstart [.v (.int .i64 n), .v (.string s)] I Tryd.func23 ?_
    refine zg I (fun Al W I => (HF W).out) fun Al V Iv hz hB K k => ?_
    rintro _ W ⟨rfl, hb⟩
    refine ⟨_, rfl, k _ _ hb fun I => ?_⟩
    clear k K
    exact zret I fun Al W I => givesVe_err rfl I.below

theorem fmt_not {n : Int} (h : ¬ IsFm n) : fmt n = ⟨0, 0, 0, ⟨0, 0, 0, 0, false⟩, 0, false⟩ := by
  unfold IsFm at h
  unfold fmt
  rw [if_neg (by omega), if_neg (by omega), if_neg (by omega), if_neg (by omega), if_neg (by omega), if_neg (by omega), if_neg (by omega), if_neg (by omega)]
end Go.Proofs.YtcipdimogodndaaDoor

namespace Go.Proofs.YtcipdimogodndaaDoor
open Go.RowKit Go.Slip

def numD (f : Fm) (a : Din) : Dv := bare ⟨a.g, val B32 a.xs, wid f.g * a.e⟩
def errEnc (f : Fm) (cls : Int) (a : Din) : Int :=
  if cls < 1 ∨ 5 < cls then 6
  else if errNat a.xs ≠ 0 then errNat a.xs
  else if ((cls = 3 ∨ cls = 4) ∧ f.inf = false) ∨ (cls = 5 ∧ f.res = false) then 5
  else if cls = 2 then
    if a.e < -20000 ∨ 20000 < a.e then 3
    else if a.xs.length = 0 ∨ inGridD (numD f a) f.g = false then 4 else 0
  else if 0 < a.xs.length ∨ a.e ≠ 0 ∨ (a.g = true ∧ (4 ≤ cls ∨ f.res = true)) then 4 else 0
def encOut (f : Fm) (cls : Int) (a : Din) : ByteArray := strOf (f.strP (f.encP cls.toNat a.g (numD f a)))
def GivesS (w : World) (er : Int) (s : ByteArray) (en : Ending) (w' : World) : Prop :=
  en = .returned (.tuple #[.string (if er = 0 then s else strOf []), .int .i64 er]) ∧ Below w.heap.size w w'
theorem givesS_err {w w' : World} {er r : Int} {s : ByteArray} {en : Ending} (h : er = r) (hr : r ≠ 0) (he : en = .returned (.tuple #[.string ⟨#[]⟩, .int .i64 r])) (hb : Below w.heap.size w w') : GivesS w er s en w' := by
  subst h
  exact ⟨by rw [he, if_neg hr]; rfl, hb⟩
theorem givesS_ok {w w' : World} {er : Int} {s t : ByteArray} {en : Ending} (h : er = 0) (hs : s = t) (he : en = .returned (.tuple #[.string t, .int .i64 0])) (hb : Below w.heap.size w w') : GivesS w er s en w' := by
  subst h hs
  exact ⟨by rw [he, if_pos rfl], hb⟩

theorem numD_bd {f : Fm} {w : World} {a : Din} (ha : InD w a) (h : errNat a.xs = 0) (he : -20000 ≤ a.e ∧ a.e ≤ 20000) : (dig B32 (numD f a).m).length ≤ 1200 ∧ -100000 ≤ (numD f a).e ∧ (numD f a).e ≤ 150000 := by
  obtain ⟨h1, h2⟩ := errNat_ok ha.lt h
  have hl : (dig B32 (val B32 a.xs)).length ≤ 1200 := by rw [← h1]; exact h2
  have k1 := bare_len B32_two (⟨a.g, val B32 a.xs, wid f.g * a.e⟩ : Dv)
  have wp := wid_pos f.g
  have hmu := mul_bd (wd := wid f.g) (k := a.e) (B := 20000) wp.2 he
  refine ⟨Nat.le_trans k1 hl, ?_⟩
  unfold numD
  by_cases h0 : val B32 a.xs = 0
  · rw [h0, bare_zero]; simp
  · have ht := tz_lt_blen (m := val B32 a.xs) (by omega)
    have hb := blen_len32 (val B32 a.xs)
    unfold bare
    rw [if_neg h0]
    simp only
    omega

theorem join_nil (f : Fm) (g : Bool) (E : Int) (e : Nat) (hE : E = e) (w : World) (G : GoodF f) (he : e < 2 ^ f.E) :
    Calls Tryd.prog 75 #[.agg #[.int .i64 ((f.size : Nat) : Int), .int .i64 ((f.E : Nat) : Int), .int .i64 ((f.F : Nat) : Int), .int .i64 f.g.rad, .int .i64 f.g.digs, .int .i64 f.g.lo, .int .i64 f.g.hi, .bool f.g.grad, .bool f.hid, .bool f.inf, .bool f.res, .func (.func (ordF f)) #[] #[]], .agg #[.bool g, .int .i64 E, .slice none 0 0]] w fun en w' => en = .returned (.string (strOf (f.str g e 0))) ∧ Below w.heap.size w w' := by
  have := join_int f g E e 0 hE none 0 w G (by rw [dig_zero]; exact Rd.nil _ _ _) he (Nat.pow_pos (by omega))
  rw [dig_zero] at this
  exact this

set_option maxHeartbeats 4000000 in
set_option maxRecDepth 100000 in
theorem encode_fm (n : Int) (cls : Int) (a : Din) (w : World) (hn : IsFm n) (ha : InD w a) (hT : TabW w) :
    Calls Tryd.prog 29 #[.int .i64 n, .agg #[.int .i64 cls, .bool a.g, .slice a.p a.xs.length a.c, .int .i64 a.e]] w (GivesS w (errEnc (fmt n) cls a) (encOut (fmt n) cls a)) := by
  have G := good_fm hn
  have HF := fun W => Lib.hid (forms_any n hn W)
  generalize fmt n = f at *
  have HR : ∀ (W : World), errNat a.xs = 0 → Rd W .u32 a.p a.xs → -20000 ≤ a.e ∧ a.e ≤ 20000 → TabW W → Hid (Calls Tryd.prog 71 #[.agg #[.int .i64 ((f.size : Nat) : Int), .int .i64 ((f.E : Nat) : Int), .int .i64 ((f.F : Nat) : Int), .int .i64 f.g.rad, .int .i64 f.g.digs, .int .i64 f.g.lo, .int .i64 f.g.hi, .bool f.g.grad, .bool f.hid, .bool f.inf, .bool f.res, .func (.func (ordF f)) #[] #[]], .agg #[.int .i64 cls, .bool a.g, .slice a.p a.xs.length a.c, .int .i64 a.e]] W (GivesD W W.heap.size (numD f a))) := by
    intro W h1 h2 h3 h4
    obtain ⟨k1, k2⟩ := errNat_ok ha.lt h1
    have hc := ha.cap
    have := raw_any f a.g (val B32 a.xs) a.e cls a.p a.c W (by rw [← k1]; exact h2) (by rw [← k1]; exact hc) (by rw [← k1]; omega) ⟨by omega, by omega⟩ h4
    rw [← k1] at this
    exact Lib.hid this
  have hB : Bare (numD f a) := bare_bare _
  have hbd := fun h h2 => numD_bd (f := f) ha h h2
  have hkp := keeps_eq hB (goodG_of G.g)
  have hxl : 0 < a.xs.length ↔ a.xs.length ≠ 0 := by omega
  have hm0 : errNat a.xs = 0 → a.xs.length ≠ 0 → (numD f a).m ≠ 0 := fun h1 h2 h3 => by
    obtain ⟨k1, _⟩ := errNat_ok ha.lt h1
    have h4 : val B32 a.xs ≠ 0 := fun h => h2 (by rw [k1]; exact (dig_len_zero B32_two _).2 h)
    unfold numD bare at h3
    rw [if_neg h4] at h3
    simp only at h3
    have := (tz_spec (val B32 a.xs) (by omega)).2
    rw [h3] at this
    simp at this
  have hige := fun h => inGrid_e (a := numD f a) G.g hB h
  have z2 := G.e2
  have z3 := G.f2
  have z4 := G.f1
  have hsh := shl_one (E := f.E) (by omega)
  have h0T : 0 < 2 ^ f.E := Nat.pow_pos (by omega)
  have h0T2 : 2 ^ f.E ≤ 2 ^ 15 := Nat.pow_le_pow_right (by omega) (by omega)
  have HSH := Lib.hid hsh
  have hlen := ha.len
  have hhid : f.inf = true → (f.hid = true ↔ f.ext = false) := fun h => by
    have h1 : f.fam = 1 := by unfold Fm.inf at h; simpa using h
    unfold Fm.hid
    rw [h1]
    cases f.ext <;> simp
  have rd := ha.rd
  unfold encOut
  obtain ⟨d, hD⟩ : ∃ d, numD f a = d := ⟨_, rfl⟩
  rw [hD] at HR hB hbd hkp hm0 hige ⊢
  have e1 : f.encP 1 a.g d = ⟨a.g, 0, 0⟩ := rfl
  have e2 : f.encP 2 a.g d = f.numP d := rfl
  have e3 : f.encP 3 a.g d = ⟨a.g, 2 ^ f.E - 1, if f.ext then 2 ^ 63 else 0⟩ := rfl
  have e4 : f.encP 4 a.g d = ⟨a.g, 2 ^ f.E - 1, if f.ext then 2 ^ 63 + 2 ^ 62 else 2 ^ (f.F - 1)⟩ := rfl
  have e5 : f.encP 5 a.g d = ⟨true, 0, 0⟩ := rfl
  have hF1 : 2 ^ (f.F - 1) < 2 ^ f.F := Nat.pow_lt_pow_right (by omega) (by omega)
  have hF0 : 0 < 2 ^ f.F := Nat.pow_pos (by omega)
  have hx64 : f.ext = true → 2 ^ f.F = 2 ^ 64 := fun h => by rw [(G.ext h).2.1]
  have hext : f.inf = true → f.hid = false → f.ext = true := fun h1 h2 => by
    cases hx : f.ext with
    | true => rfl
    | false => have := (hhid h1).2 hx; rw [h2] at this; cases this
  have hJ := fun (W : World) (g : Bool) (E : Int) (e x : Nat) (hE : E = e) (p : Option Addr) (c : Nat) h h1 h2 => Lib.hid (join_int f g E e x hE p c W G h h1 h2)
  have hJ0 := fun (W : World) (g : Bool) (E : Int) (e : Nat) (hE : E = e) h1 => Lib.hid (join_nil f g E e hE W G h1)
  have h63 : (dig B32 (2 ^ 63)).length ≤ 2 := dig_le_pow (n := 64) (by omega) (by omega)
  have h62 : (dig B32 (2 ^ 62)).length ≤ 2 := dig_le_pow (n := 64) (by omega) (by omega)
  generalize 2 ^ f.E = P at *
  clear hsh ha
  have I := Inv.start w [rdF .u32 a.p a.xs, tabF] ⟨rd, hT, True.intro⟩
  refine zstart [.v (.int .i64 n), .v (.agg #[.int .i64 cls, .bool a.g, .slice a.p a.xs.length a.c, .int .i64 a.e])] I Tryd.func29 ?_
  refine zg I (fun Al W I => (HF W).out) fun Al V Iv hz hB K k => ?_
  rintro _ W ⟨rfl, hb⟩
  refine ⟨_, rfl, k _ _ hb fun I => ?_⟩
  clear k K
  rcases Bool.eq_false_or_eq_true (decide (cls < 1)) with f21 | f21
  · skip
    refine zb I 21 (decide (cls < 1)) (true) (f21) fun Al W I => ?_
    have hE : errEnc f cls a = 6 := by unfold errEnc; rw [if_pos (by first | (have := of_decide_eq_true f21; omega) | (have := of_decide_eq_true f25; omega))]
    have hN : (6 : Int) ≠ 0 := by decide
    exact zret I fun Al W I => givesS_err hE hN rfl I.below
  refine zb I 21 (decide (cls < 1)) (false) (f21) fun Al W I => ?_
  rcases Bool.eq_false_or_eq_true (decide (cls > 5)) with f25 | f25
  · skip
    refine zb I 25 (decide (cls > 5)) (true) (f25) fun Al W I => ?_
    have hE : errEnc f cls a = 6 := by unfold errEnc; rw [if_pos (by first | (have := of_decide_eq_true f21; omega) | (have := of_decide_eq_true f25; omega))]
    have hN : (6 : Int) ≠ 0 := by decide
    exact zret I fun Al W I => givesS_err hE hN rfl I.below
  refine zb I 25 (decide (cls > 5)) (false) (f25) fun Al W I => ?_
  have c1 : ¬ (cls < 1 ∨ 5 < cls) := by have := of_decide_eq_false f21; have := of_decide_eq_false f25; omega
  refine zg I (fun Al W I => natCheck1_any a.p _ a.c a.xs W I.fa.1 rfl hlen) fun Al V Iv hz hB K k => ?_
  rintro _ W ⟨rfl, hb⟩
  refine ⟨_, rfl, k _ _ hb fun I => ?_⟩
  clear k K
  rcases Bool.eq_false_or_eq_true ((errNat a.xs) != 0) with f31 | f31
  · skip
    refine zb I 31 ((errNat a.xs) != 0) (true) (f31) fun Al W I => ?_
    have hN : errNat a.xs ≠ 0 := bne_iff_ne.1 f31
    have hE : errEnc f cls a = errNat a.xs := by unfold errEnc; rw [if_neg c1, if_pos hN]
    exact zret I fun Al W I => givesS_err hE hN rfl I.below
  refine zb I 31 ((errNat a.xs) != 0) (false) (f31) fun Al W I => ?_
  have c2 : errNat a.xs = 0 := by simpa using f31
  rcases Bool.eq_false_or_eq_true (cls == 3) with f35 | f35
  · skip
    refine zb I 35 (cls == 3) (true) (f35) fun Al W I => ?_
    rcases Bool.eq_false_or_eq_true (f.inf) with f43 | f43
    · skip
      refine zb I 43 (f.inf) (true) (f43) fun Al W I => ?_
      refine zb I 49 (cls == 5) (false) (beq_eq_false_iff_ne.2 (by have := beq_iff_eq.1 f35; omega)) fun Al W I => ?_
      have c3 : ¬ (((cls = 3 ∨ cls = 4) ∧ f.inf = false) ∨ (cls = 5 ∧ f.res = false)) := fun h => by rcases h with ⟨h, k⟩ | ⟨h, k⟩ <;> first | (rw [f43] at k; cases k; done) | (rw [f52] at k; cases k; done) | (have q := beq_iff_eq.1 f35; omega) | (have q := beq_iff_eq.1 f39; omega) | (have q := beq_eq_false_iff_ne.1 f35; have q2 := beq_eq_false_iff_ne.1 f39; omega) | (have q := beq_eq_false_iff_ne.1 f49; omega)
      refine zb I 58 (cls == 2) (false) (beq_eq_false_iff_ne.2 (by have := beq_iff_eq.1 f35; omega)) fun Al W I => ?_
      have c58 : cls ≠ 2 := by first | (have := beq_iff_eq.1 f35; omega) | (have := beq_iff_eq.1 f39; omega) | (have := beq_iff_eq.1 f49; omega) | exact beq_eq_false_iff_ne.1 f58
      rcases Bool.eq_false_or_eq_true (decide (((a.xs.length : Nat) : Int) > 0)) with f88 | f88
      · skip
        refine zb I 88 (decide (((a.xs.length : Nat) : Int) > 0)) (true) (f88) fun Al W I => ?_
        have hE : errEnc f cls a = 4 := by unfold errEnc; rw [if_neg c1, if_neg (by omega), if_neg c3, if_neg c58, if_pos (by first | (have := of_decide_eq_true f88; omega) | exact .inr (.inl (bne_iff_ne.1 f92)) | exact .inr (.inr ⟨f96, .inr f103⟩) | exact .inr (.inr ⟨f96, .inl (by first | (have := beq_iff_eq.1 f39; omega) | (have := beq_iff_eq.1 f49; omega))⟩))]
        have hN : (4 : Int) ≠ 0 := by decide
        exact zret I fun Al W I => givesS_err hE hN rfl I.below
      refine zb I 88 (decide (((a.xs.length : Nat) : Int) > 0)) (false) (f88) fun Al W I => ?_
      rcases Bool.eq_false_or_eq_true (a.e != 0) with f92 | f92
      · skip
        refine zb I 92 (a.e != 0) (true) (f92) fun Al W I => ?_
        have hE : errEnc f cls a = 4 := by unfold errEnc; rw [if_neg c1, if_neg (by omega), if_neg c3, if_neg c58, if_pos (by first | (have := of_decide_eq_true f88; omega) | exact .inr (.inl (bne_iff_ne.1 f92)) | exact .inr (.inr ⟨f96, .inr f103⟩) | exact .inr (.inr ⟨f96, .inl (by first | (have := beq_iff_eq.1 f39; omega) | (have := beq_iff_eq.1 f49; omega))⟩))]
        have hN : (4 : Int) ≠ 0 := by decide
        exact zret I fun Al W I => givesS_err hE hN rfl I.below
      refine zb I 92 (a.e != 0) (false) (f92) fun Al W I => ?_
      rcases Bool.eq_false_or_eq_true (a.g) with f96 | f96
      · skip
        refine zb I 96 (a.g) (true) (f96) fun Al W I => ?_
        refine zb I 100 (decide (cls ≥ 4)) (false) (decide_eq_false (by have := beq_iff_eq.1 f35; omega)) fun Al W I => ?_
        rcases Bool.eq_false_or_eq_true (f.res) with f103 | f103
        · skip
          refine zb I 103 (f.res) (true) (f103) fun Al W I => ?_
          have hE : errEnc f cls a = 4 := by unfold errEnc; rw [if_neg c1, if_neg (by omega), if_neg c3, if_neg c58, if_pos (by first | (have := of_decide_eq_true f88; omega) | exact .inr (.inl (bne_iff_ne.1 f92)) | exact .inr (.inr ⟨f96, .inr f103⟩) | exact .inr (.inr ⟨f96, .inl (by first | (have := beq_iff_eq.1 f39; omega) | (have := beq_iff_eq.1 f49; omega))⟩))]
          have hN : (4 : Int) ≠ 0 := by decide
          exact zret I fun Al W I => givesS_err hE hN rfl I.below
        refine zb I 103 (f.res) (false) (f103) fun Al W I => ?_
        have hE : errEnc f cls a = 0 := by unfold errEnc; rw [if_neg c1, if_neg (by omega), if_neg c3, if_neg c58, if_neg (fun h => by rcases h with h | h | ⟨h, k⟩ <;> first | (have := of_decide_eq_false f88; omega) | (rw [show (a.e != 0) = true from bne_iff_ne.2 h] at f92; cases f92; done) | (rw [f96] at h; cases h; done) | (rcases k with k | k <;> first | (have := beq_iff_eq.1 f35; omega) | (have := beq_eq_false_iff_ne.1 f49; have := beq_eq_false_iff_ne.1 f35; have := beq_eq_false_iff_ne.1 f39; omega) | (rw [f103] at k; cases k; done)))]
        refine zbin I 109 _ (fun _ _ _ _ _ => bin_shl .i64 (1) .i64 ((f.E : Nat) : Int) (((P : Nat) : Int)) (by omega) ((HSH.out))) fun Al W I => ?_
        refine zi I 110 .i64 (((P : Nat) : Int) - 1) (((P - 1 : Nat) : Int)) ((by rw [show (((P : Nat) : Int) - 1) = ((P - 1 : Nat) : Int) by omega]; exact IntWalk.i64_in _ (by omega))) fun Al W I => ?_
        refine zb I 117 (cls == 3) (true) (f35) fun Al W I => ?_
        rcases Bool.eq_false_or_eq_true (f.hid) with f121 | f121
        · skip
          refine zb I 121 (f.hid) (true) (f121) fun Al W I => ?_
          refine zg I (fun Al W I => have hz := I.bel.size; (hJ0 W a.g ((P - 1 : Nat) : Int) (P - 1) rfl (by omega)).out) fun Al V Iv hz hB K k => ?_
          rintro _ W ⟨rfl, hb⟩
          have hS : strOf (f.strP (f.encP cls.toNat a.g d)) = strOf (f.str a.g (P - 1) 0) := by rw [show cls.toNat = 3 by have := beq_iff_eq.1 f35; omega, e3, if_neg (by rw [(hhid f43).1 f121]; simp)]; rfl
          refine ⟨_, rfl, k _ _ hb fun I => ?_⟩
          clear k K
          exact zret I fun Al W I => givesS_ok hE hS rfl I.below
        refine zb I 121 (f.hid) (false) (f121) fun Al W I => ?_
        refine zg I (fun Al W I => have hz := I.bel.size; two_any 63 (2 ^ 63) 63 W (by omega) rfl rfl) fun Al V Iv hz hB K k => ?_
        rintro _ W ⟨p123, c123, rfl, o123, hb⟩
        refine ⟨_, rfl, k _ _ hb fun I => ?_⟩
        clear k K
        have I := I.own o123
        refine zg I (fun Al W I => have hz := I.bel.size; (hJ W a.g ((P - 1 : Nat) : Int) (P - 1) (2 ^ 63) rfl p123 c123 I.fa.1.rd (by omega) (by rw [hx64 (hext f43 f121)]; omega)).out) fun Al V Iv hz hB K k => ?_
        rintro _ W ⟨rfl, hb⟩
        have hS : strOf (f.strP (f.encP cls.toNat a.g d)) = strOf (f.str a.g (P - 1) (2 ^ 63)) := by rw [show cls.toNat = 3 by have := beq_iff_eq.1 f35; omega, e3, if_pos (hext f43 f121)]; rfl
        refine ⟨_, rfl, k _ _ hb fun I => ?_⟩
        clear k K
        exact zret I fun Al W I => givesS_ok hE hS rfl I.below
      refine zb I 96 (a.g) (false) (f96) fun Al W I => ?_
      have hE : errEnc f cls a = 0 := by unfold errEnc; rw [if_neg c1, if_neg (by omega), if_neg c3, if_neg c58, if_neg (fun h => by rcases h with h | h | ⟨h, k⟩ <;> first | (have := of_decide_eq_false f88; omega) | (rw [show (a.e != 0) = true from bne_iff_ne.2 h] at f92; cases f92; done) | (rw [f96] at h; cases h; done) | (rcases k with k | k <;> first | (have := beq_iff_eq.1 f35; omega) | (have := beq_eq_false_iff_ne.1 f49; have := beq_eq_false_iff_ne.1 f35; have := beq_eq_false_iff_ne.1 f39; omega) | (rw [f103] at k; cases k; done)))]
      refine zbin I 109 _ (fun _ _ _ _ _ => bin_shl .i64 (1) .i64 ((f.E : Nat) : Int) (((P : Nat) : Int)) (by omega) ((HSH.out))) fun Al W I => ?_
      refine zi I 110 .i64 (((P : Nat) : Int) - 1) (((P - 1 : Nat) : Int)) ((by rw [show (((P : Nat) : Int) - 1) = ((P - 1 : Nat) : Int) by omega]; exact IntWalk.i64_in _ (by omega))) fun Al W I => ?_
      refine zb I 117 (cls == 3) (true) (f35) fun Al W I => ?_
      rcases Bool.eq_false_or_eq_true (f.hid) with f121 | f121
      · skip
        refine zb I 121 (f.hid) (true) (f121) fun Al W I => ?_
        refine zg I (fun Al W I => have hz := I.bel.size; (hJ0 W a.g ((P - 1 : Nat) : Int) (P - 1) rfl (by omega)).out) fun Al V Iv hz hB K k => ?_
        rintro _ W ⟨rfl, hb⟩
        have hS : strOf (f.strP (f.encP cls.toNat a.g d)) = strOf (f.str a.g (P - 1) 0) := by rw [show cls.toNat = 3 by have := beq_iff_eq.1 f35; omega, e3, if_neg (by rw [(hhid f43).1 f121]; simp)]; rfl
        refine ⟨_, rfl, k _ _ hb fun I => ?_⟩
        clear k K
        exact zret I fun Al W I => givesS_ok hE hS rfl I.below
      refine zb I 121 (f.hid) (false) (f121) fun Al W I => ?_
      refine zg I (fun Al W I => have hz := I.bel.size; two_any 63 (2 ^ 63) 63 W (by omega) rfl rfl) fun Al V Iv hz hB K k => ?_
      rintro _ W ⟨p123, c123, rfl, o123, hb⟩
      refine ⟨_, rfl, k _ _ hb fun I => ?_⟩
      clear k K
      have I := I.own o123
      refine zg I (fun Al W I => have hz := I.bel.size; (hJ W a.g ((P - 1 : Nat) : Int) (P - 1) (2 ^ 63) rfl p123 c123 I.fa.1.rd (by omega) (by rw [hx64 (hext f43 f121)]; omega)).out) fun Al V Iv hz hB K k => ?_
      rintro _ W ⟨rfl, hb⟩
      have hS : strOf (f.strP (f.encP cls.toNat a.g d)) = strOf (f.str a.g (P - 1) (2 ^ 63)) := by rw [show cls.toNat = 3 by have := beq_iff_eq.1 f35; omega, e3, if_pos (hext f43 f121)]; rfl
      refine ⟨_, rfl, k _ _ hb fun I => ?_⟩
      clear k K
      exact zret I fun Al W I => givesS_ok hE hS rfl I.below
    refine zb I 43 (f.inf) (false) (f43) fun Al W I => ?_
    have hE : errEnc f cls a = 5 := by unfold errEnc; rw [if_neg c1, if_neg (by omega), if_pos (by first | exact .inl ⟨.inl (beq_iff_eq.1 f35), f43⟩ | exact .inl ⟨.inr (beq_iff_eq.1 f39), f43⟩ | exact .inr ⟨beq_iff_eq.1 f49, f52⟩)]
    have hN : (5 : Int) ≠ 0 := by decide
    exact zret I fun Al W I => givesS_err hE hN rfl I.below
  refine zb I 35 (cls == 3) (false) (f35) fun Al W I => ?_
  rcases Bool.eq_false_or_eq_true (cls == 4) with f39 | f39
  · skip
    refine zb I 39 (cls == 4) (true) (f39) fun Al W I => ?_
    rcases Bool.eq_false_or_eq_true (f.inf) with f43 | f43
    · skip
      refine zb I 43 (f.inf) (true) (f43) fun Al W I => ?_
      refine zb I 49 (cls == 5) (false) (beq_eq_false_iff_ne.2 (by have := beq_iff_eq.1 f39; omega)) fun Al W I => ?_
      have c3 : ¬ (((cls = 3 ∨ cls = 4) ∧ f.inf = false) ∨ (cls = 5 ∧ f.res = false)) := fun h => by rcases h with ⟨h, k⟩ | ⟨h, k⟩ <;> first | (rw [f43] at k; cases k; done) | (rw [f52] at k; cases k; done) | (have q := beq_iff_eq.1 f35; omega) | (have q := beq_iff_eq.1 f39; omega) | (have q := beq_eq_false_iff_ne.1 f35; have q2 := beq_eq_false_iff_ne.1 f39; omega) | (have q := beq_eq_false_iff_ne.1 f49; omega)
      refine zb I 58 (cls == 2) (false) (beq_eq_false_iff_ne.2 (by have := beq_iff_eq.1 f39; omega)) fun Al W I => ?_
      have c58 : cls ≠ 2 := by first | (have := beq_iff_eq.1 f35; omega) | (have := beq_iff_eq.1 f39; omega) | (have := beq_iff_eq.1 f49; omega) | exact beq_eq_false_iff_ne.1 f58
      rcases Bool.eq_false_or_eq_true (decide (((a.xs.length : Nat) : Int) > 0)) with f88 | f88
      · skip
        refine zb I 88 (decide (((a.xs.length : Nat) : Int) > 0)) (true) (f88) fun Al W I => ?_
        have hE : errEnc f cls a = 4 := by unfold errEnc; rw [if_neg c1, if_neg (by omega), if_neg c3, if_neg c58, if_pos (by first | (have := of_decide_eq_true f88; omega) | exact .inr (.inl (bne_iff_ne.1 f92)) | exact .inr (.inr ⟨f96, .inr f103⟩) | exact .inr (.inr ⟨f96, .inl (by first | (have := beq_iff_eq.1 f39; omega) | (have := beq_iff_eq.1 f49; omega))⟩))]
        have hN : (4 : Int) ≠ 0 := by decide
        exact zret I fun Al W I => givesS_err hE hN rfl I.below
      refine zb I 88 (decide (((a.xs.length : Nat) : Int) > 0)) (false) (f88) fun Al W I => ?_
      rcases Bool.eq_false_or_eq_true (a.e != 0) with f92 | f92
      · skip
        refine zb I 92 (a.e != 0) (true) (f92) fun Al W I => ?_
        have hE : errEnc f cls a = 4 := by unfold errEnc; rw [if_neg c1, if_neg (by omega), if_neg c3, if_neg c58, if_pos (by first | (have := of_decide_eq_true f88; omega) | exact .inr (.inl (bne_iff_ne.1 f92)) | exact .inr (.inr ⟨f96, .inr f103⟩) | exact .inr (.inr ⟨f96, .inl (by first | (have := beq_iff_eq.1 f39; omega) | (have := beq_iff_eq.1 f49; omega))⟩))]
        have hN : (4 : Int) ≠ 0 := by decide
        exact zret I fun Al W I => givesS_err hE hN rfl I.below
      refine zb I 92 (a.e != 0) (false) (f92) fun Al W I => ?_
      rcases Bool.eq_false_or_eq_true (a.g) with f96 | f96
      · skip
        refine zb I 96 (a.g) (true) (f96) fun Al W I => ?_
        refine zb I 100 (decide (cls ≥ 4)) (true) (decide_eq_true (by have := beq_iff_eq.1 f39; omega)) fun Al W I => ?_
        have hE : errEnc f cls a = 4 := by unfold errEnc; rw [if_neg c1, if_neg (by omega), if_neg c3, if_neg c58, if_pos (by first | (have := of_decide_eq_true f88; omega) | exact .inr (.inl (bne_iff_ne.1 f92)) | exact .inr (.inr ⟨f96, .inr f103⟩) | exact .inr (.inr ⟨f96, .inl (by first | (have := beq_iff_eq.1 f39; omega) | (have := beq_iff_eq.1 f49; omega))⟩))]
        have hN : (4 : Int) ≠ 0 := by decide
        exact zret I fun Al W I => givesS_err hE hN rfl I.below
      refine zb I 96 (a.g) (false) (f96) fun Al W I => ?_
      have hE : errEnc f cls a = 0 := by unfold errEnc; rw [if_neg c1, if_neg (by omega), if_neg c3, if_neg c58, if_neg (fun h => by rcases h with h | h | ⟨h, k⟩ <;> first | (have := of_decide_eq_false f88; omega) | (rw [show (a.e != 0) = true from bne_iff_ne.2 h] at f92; cases f92; done) | (rw [f96] at h; cases h; done) | (rcases k with k | k <;> first | (have := beq_iff_eq.1 f35; omega) | (have := beq_eq_false_iff_ne.1 f49; have := beq_eq_false_iff_ne.1 f35; have := beq_eq_false_iff_ne.1 f39; omega) | (rw [f103] at k; cases k; done)))]
      refine zbin I 109 _ (fun _ _ _ _ _ => bin_shl .i64 (1) .i64 ((f.E : Nat) : Int) (((P : Nat) : Int)) (by omega) ((HSH.out))) fun Al W I => ?_
      refine zi I 110 .i64 (((P : Nat) : Int) - 1) (((P - 1 : Nat) : Int)) ((by rw [show (((P : Nat) : Int) - 1) = ((P - 1 : Nat) : Int) by omega]; exact IntWalk.i64_in _ (by omega))) fun Al W I => ?_
      refine zb I 117 (cls == 3) (false) (f35) fun Al W I => ?_
      refine zb I 126 (cls == 4) (true) (f39) fun Al W I => ?_
      refine zi I 130 .i64 (((f.F : Nat) : Int) - 1) (((f.F - 1 : Nat) : Int)) ((by rw [show (((f.F : Nat) : Int) - 1) = ((f.F - 1 : Nat) : Int) by omega]; exact IntWalk.i64_in _ (by omega))) fun Al W I => ?_
      refine zg I (fun Al W I => have hz := I.bel.size; two_any (f.F - 1) (2 ^ (f.F - 1)) _ W (by omega) rfl rfl) fun Al V Iv hz hB K k => ?_
      rintro _ W ⟨p131, c131, rfl, o131, hb⟩
      refine ⟨_, rfl, k _ _ hb fun I => ?_⟩
      clear k K
      have I := I.own o131
      rcases Bool.eq_false_or_eq_true (f.hid) with f135 | f135
      · skip
        refine zb I 135 (f.hid) (true) (f135) fun Al W I => ?_
        refine zg I (fun Al W I => have hz := I.bel.size; (hJ W a.g ((P - 1 : Nat) : Int) (P - 1) (2 ^ (f.F - 1)) rfl p131 c131 I.fa.1.rd (by omega) hF1).out) fun Al V Iv hz hB K k => ?_
        rintro _ W ⟨rfl, hb⟩
        have hS : strOf (f.strP (f.encP cls.toNat a.g d)) = strOf (f.str a.g (P - 1) (2 ^ (f.F - 1))) := by rw [show cls.toNat = 4 by have := beq_iff_eq.1 f39; omega, e4, if_neg (by rw [(hhid f43).1 f135]; simp)]; rfl
        refine ⟨_, rfl, k _ _ hb fun I => ?_⟩
        clear k K
        exact zret I fun Al W I => givesS_ok hE hS rfl I.below
      refine zb I 135 (f.hid) (false) (f135) fun Al W I => ?_
      refine zg I (fun Al W I => have hz := I.bel.size; two_any 63 (2 ^ 63) 63 W (by omega) rfl rfl) fun Al V Iv hz hB K k => ?_
      rintro _ W ⟨p137, c137, rfl, o137, hb⟩
      refine ⟨_, rfl, k _ _ hb fun I => ?_⟩
      clear k K
      have I := I.own o137
      refine zg I (fun Al W I => have hz := I.bel.size; two_any 62 (2 ^ 62) 62 W (by omega) rfl rfl) fun Al V Iv hz hB K k => ?_
      rintro _ W ⟨p138, c138, rfl, o138, hb⟩
      refine ⟨_, rfl, k _ _ hb fun I => ?_⟩
      clear k K
      have I := I.own o138
      refine zg I (fun Al W I => have hz := I.bel.size; sadd p137 p138 _ _ c137 c138 (2 ^ 63) (2 ^ 62) (2 ^ 63 + 2 ^ 62) W I.fa.2.1.rd I.fa.1.rd rfl rfl (by omega) (by omega) rfl) fun Al V Iv hz hB K k => ?_
      rintro _ W ⟨p139, c139, rfl, o139, hb⟩
      refine ⟨_, rfl, k _ _ hb fun I => ?_⟩
      clear k K
      have I := I.own o139
      refine zg I (fun Al W I => have hz := I.bel.size; (hJ W a.g ((P - 1 : Nat) : Int) (P - 1) (2 ^ 63 + 2 ^ 62) rfl p139 c139 I.fa.1.rd (by omega) (by rw [hx64 (hext f43 f135)]; omega)).out) fun Al V Iv hz hB K k => ?_
      rintro _ W ⟨rfl, hb⟩
      have hS : strOf (f.strP (f.encP cls.toNat a.g d)) = strOf (f.str a.g (P - 1) (2 ^ 63 + 2 ^ 62)) := by rw [show cls.toNat = 4 by have := beq_iff_eq.1 f39; omega, e4, if_pos (hext f43 f135)]; rfl
      refine ⟨_, rfl, k _ _ hb fun I => ?_⟩
      clear k K
      exact zret I fun Al W I => givesS_ok hE hS rfl I.below
    refine zb I 43 (f.inf) (false) (f43) fun Al W I => ?_
    have hE : errEnc f cls a = 5 := by unfold errEnc; rw [if_neg c1, if_neg (by omega), if_pos (by first | exact .inl ⟨.inl (beq_iff_eq.1 f35), f43⟩ | exact .inl ⟨.inr (beq_iff_eq.1 f39), f43⟩ | exact .inr ⟨beq_iff_eq.1 f49, f52⟩)]
    have hN : (5 : Int) ≠ 0 := by decide
    exact zret I fun Al W I => givesS_err hE hN rfl I.below
  refine zb I 39 (cls == 4) (false) (f39) fun Al W I => ?_
  rcases Bool.eq_false_or_eq_true (cls == 5) with f49 | f49
  · skip
    refine zb I 49 (cls == 5) (true) (f49) fun Al W I => ?_
    rcases Bool.eq_false_or_eq_true (f.res) with f52 | f52
    · skip
      refine zb I 52 (f.res) (true) (f52) fun Al W I => ?_
      have c3 : ¬ (((cls = 3 ∨ cls = 4) ∧ f.inf = false) ∨ (cls = 5 ∧ f.res = false)) := fun h => by rcases h with ⟨h, k⟩ | ⟨h, k⟩ <;> first | (rw [f43] at k; cases k; done) | (rw [f52] at k; cases k; done) | (have q := beq_iff_eq.1 f35; omega) | (have q := beq_iff_eq.1 f39; omega) | (have q := beq_eq_false_iff_ne.1 f35; have q2 := beq_eq_false_iff_ne.1 f39; omega) | (have q := beq_eq_false_iff_ne.1 f49; omega)
      refine zb I 58 (cls == 2) (false) (beq_eq_false_iff_ne.2 (by have := beq_iff_eq.1 f49; omega)) fun Al W I => ?_
      have c58 : cls ≠ 2 := by first | (have := beq_iff_eq.1 f35; omega) | (have := beq_iff_eq.1 f39; omega) | (have := beq_iff_eq.1 f49; omega) | exact beq_eq_false_iff_ne.1 f58
      rcases Bool.eq_false_or_eq_true (decide (((a.xs.length : Nat) : Int) > 0)) with f88 | f88
      · skip
        refine zb I 88 (decide (((a.xs.length : Nat) : Int) > 0)) (true) (f88) fun Al W I => ?_
        have hE : errEnc f cls a = 4 := by unfold errEnc; rw [if_neg c1, if_neg (by omega), if_neg c3, if_neg c58, if_pos (by first | (have := of_decide_eq_true f88; omega) | exact .inr (.inl (bne_iff_ne.1 f92)) | exact .inr (.inr ⟨f96, .inr f103⟩) | exact .inr (.inr ⟨f96, .inl (by first | (have := beq_iff_eq.1 f39; omega) | (have := beq_iff_eq.1 f49; omega))⟩))]
        have hN : (4 : Int) ≠ 0 := by decide
        exact zret I fun Al W I => givesS_err hE hN rfl I.below
      refine zb I 88 (decide (((a.xs.length : Nat) : Int) > 0)) (false) (f88) fun Al W I => ?_
      rcases Bool.eq_false_or_eq_true (a.e != 0) with f92 | f92
      · skip
        refine zb I 92 (a.e != 0) (true) (f92) fun Al W I => ?_
        have hE : errEnc f cls a = 4 := by unfold errEnc; rw [if_neg c1, if_neg (by omega), if_neg c3, if_neg c58, if_pos (by first | (have := of_decide_eq_true f88; omega) | exact .inr (.inl (bne_iff_ne.1 f92)) | exact .inr (.inr ⟨f96, .inr f103⟩) | exact .inr (.inr ⟨f96, .inl (by first | (have := beq_iff_eq.1 f39; omega) | (have := beq_iff_eq.1 f49; omega))⟩))]
        have hN : (4 : Int) ≠ 0 := by decide
        exact zret I fun Al W I => givesS_err hE hN rfl I.below
      refine zb I 92 (a.e != 0) (false) (f92) fun Al W I => ?_
      rcases Bool.eq_false_or_eq_true (a.g) with f96 | f96
      · skip
        refine zb I 96 (a.g) (true) (f96) fun Al W I => ?_
        refine zb I 100 (decide (cls ≥ 4)) (true) (decide_eq_true (by have := beq_iff_eq.1 f49; omega)) fun Al W I => ?_
        have hE : errEnc f cls a = 4 := by unfold errEnc; rw [if_neg c1, if_neg (by omega), if_neg c3, if_neg c58, if_pos (by first | (have := of_decide_eq_true f88; omega) | exact .inr (.inl (bne_iff_ne.1 f92)) | exact .inr (.inr ⟨f96, .inr f103⟩) | exact .inr (.inr ⟨f96, .inl (by first | (have := beq_iff_eq.1 f39; omega) | (have := beq_iff_eq.1 f49; omega))⟩))]
        have hN : (4 : Int) ≠ 0 := by decide
        exact zret I fun Al W I => givesS_err hE hN rfl I.below
      refine zb I 96 (a.g) (false) (f96) fun Al W I => ?_
      have hE : errEnc f cls a = 0 := by unfold errEnc; rw [if_neg c1, if_neg (by omega), if_neg c3, if_neg c58, if_neg (fun h => by rcases h with h | h | ⟨h, k⟩ <;> first | (have := of_decide_eq_false f88; omega) | (rw [show (a.e != 0) = true from bne_iff_ne.2 h] at f92; cases f92; done) | (rw [f96] at h; cases h; done) | (rcases k with k | k <;> first | (have := beq_iff_eq.1 f35; omega) | (have := beq_eq_false_iff_ne.1 f49; have := beq_eq_false_iff_ne.1 f35; have := beq_eq_false_iff_ne.1 f39; omega) | (rw [f103] at k; cases k; done)))]
      refine zbin I 109 _ (fun _ _ _ _ _ => bin_shl .i64 (1) .i64 ((f.E : Nat) : Int) (((P : Nat) : Int)) (by omega) ((HSH.out))) fun Al W I => ?_
      refine zi I 110 .i64 (((P : Nat) : Int) - 1) (((P - 1 : Nat) : Int)) ((by rw [show (((P : Nat) : Int) - 1) = ((P - 1 : Nat) : Int) by omega]; exact IntWalk.i64_in _ (by omega))) fun Al W I => ?_
      refine zb I 117 (cls == 3) (false) (f35) fun Al W I => ?_
      refine zb I 126 (cls == 4) (false) (f39) fun Al W I => ?_
      refine zb I 142 (cls == 5) (true) (f49) fun Al W I => ?_
      refine zg I (fun Al W I => (hJ0 W true 0 0 rfl h0T).out) fun Al V Iv hz hB K k => ?_
      rintro _ W ⟨rfl, hb⟩
      have hS : strOf (f.strP (f.encP cls.toNat a.g d)) = strOf (f.str true 0 0) := by rw [show cls.toNat = 5 by have := beq_iff_eq.1 f49; omega, e5]; rfl
      refine ⟨_, rfl, k _ _ hb fun I => ?_⟩
      clear k K
      exact zret I fun Al W I => givesS_ok hE hS rfl I.below
    refine zb I 52 (f.res) (false) (f52) fun Al W I => ?_
    have hE : errEnc f cls a = 5 := by unfold errEnc; rw [if_neg c1, if_neg (by omega), if_pos (by first | exact .inl ⟨.inl (beq_iff_eq.1 f35), f43⟩ | exact .inl ⟨.inr (beq_iff_eq.1 f39), f43⟩ | exact .inr ⟨beq_iff_eq.1 f49, f52⟩)]
    have hN : (5 : Int) ≠ 0 := by decide
    exact zret I fun Al W I => givesS_err hE hN rfl I.below
  refine zb I 49 (cls == 5) (false) (f49) fun Al W I => ?_
  have c3 : ¬ (((cls = 3 ∨ cls = 4) ∧ f.inf = false) ∨ (cls = 5 ∧ f.res = false)) := fun h => by rcases h with ⟨h, k⟩ | ⟨h, k⟩ <;> first | (rw [f43] at k; cases k; done) | (rw [f52] at k; cases k; done) | (have q := beq_iff_eq.1 f35; omega) | (have q := beq_iff_eq.1 f39; omega) | (have q := beq_eq_false_iff_ne.1 f35; have q2 := beq_eq_false_iff_ne.1 f39; omega) | (have q := beq_eq_false_iff_ne.1 f49; omega)
  rcases Bool.eq_false_or_eq_true (cls == 2) with f58 | f58
  · skip
    refine zb I 58 (cls == 2) (true) (f58) fun Al W I => ?_
    have c58 : cls = 2 := beq_iff_eq.1 f58
    rcases Bool.eq_false_or_eq_true (decide (a.e < (-20000))) with f61 | f61
    · skip
      refine zb I 61 (decide (a.e < (-20000))) (true) (f61) fun Al W I => ?_
      have hE : errEnc f cls a = 3 := by unfold errEnc; rw [if_neg c1, if_neg (by omega), if_neg c3, if_pos c58, if_pos (by first | (have := of_decide_eq_true f61; omega) | (have := of_decide_eq_true f65; omega))]
      have hN : (3 : Int) ≠ 0 := by decide
      exact zret I fun Al W I => givesS_err hE hN rfl I.below
    refine zb I 61 (decide (a.e < (-20000))) (false) (f61) fun Al W I => ?_
    rcases Bool.eq_false_or_eq_true (decide (a.e > 20000)) with f65 | f65
    · skip
      refine zb I 65 (decide (a.e > 20000)) (true) (f65) fun Al W I => ?_
      have hE : errEnc f cls a = 3 := by unfold errEnc; rw [if_neg c1, if_neg (by omega), if_neg c3, if_pos c58, if_pos (by first | (have := of_decide_eq_true f61; omega) | (have := of_decide_eq_true f65; omega))]
      have hN : (3 : Int) ≠ 0 := by decide
      exact zret I fun Al W I => givesS_err hE hN rfl I.below
    refine zb I 65 (decide (a.e > 20000)) (false) (f65) fun Al W I => ?_
    by_cases h70 : a.xs.length = 0
    · skip
      by_cases h77 : inGridD d f.g = true
      · skip
        have c4 : -20000 ≤ a.e ∧ a.e ≤ 20000 := by have := of_decide_eq_false f61; have := of_decide_eq_false f65; omega
        have hb1 := hbd c2 c4
        refine zd [] I fun Al W I => ?_
        refine zk [0, 1, 2] I fun I => ?_
        refine zkb 3 I (((a.xs.length : Nat) : Int) == 0) (true) (beq_iff_eq.2 (by omega)) fun I => ?_
        refine zk [4, 5, 6, 7, 8, 9, 10, 11, 12] I fun I => ?_
        have hE : errEnc f cls a = 4 := by unfold errEnc; rw [if_neg c1, if_neg (by omega), if_neg c3, if_pos c58, if_neg (by omega), if_pos (by first | exact .inl h70 | exact .inr (by rw [hD]; simpa using h77))]
        have hN : (4 : Int) ≠ 0 := by decide
        exact zret I fun Al W I => givesS_err hE hN rfl I.below
      have c4 : -20000 ≤ a.e ∧ a.e ≤ 20000 := by have := of_decide_eq_false f61; have := of_decide_eq_false f65; omega
      have hb1 := hbd c2 c4
      refine zd [] I fun Al W I => ?_
      refine zk [0, 1, 2] I fun I => ?_
      refine zkb 3 I (((a.xs.length : Nat) : Int) == 0) (true) (beq_iff_eq.2 (by omega)) fun I => ?_
      refine zk [4, 5, 6, 7, 8, 9, 10, 11, 12] I fun I => ?_
      have hE : errEnc f cls a = 4 := by unfold errEnc; rw [if_neg c1, if_neg (by omega), if_neg c3, if_pos c58, if_neg (by omega), if_pos (by first | exact .inl h70 | exact .inr (by rw [hD]; simpa using h77))]
      have hN : (4 : Int) ≠ 0 := by decide
      exact zret I fun Al W I => givesS_err hE hN rfl I.below
    by_cases h77 : inGridD d f.g = true
    · skip
      have c4 : -20000 ≤ a.e ∧ a.e ≤ 20000 := by have := of_decide_eq_false f61; have := of_decide_eq_false f65; omega
      have hb1 := hbd c2 c4
      refine zd [] I fun Al W I => ?_
      refine zk [0, 1, 2] I fun I => ?_
      refine zkb 3 I (((a.xs.length : Nat) : Int) == 0) (false) (beq_eq_false_iff_ne.2 (by omega)) fun I => ?_
      refine zk [4, 5, 6, 8, 9] I fun I => ?_
      refine zo 7 I (fun I => ?_)
      refine zg I (fun Al W I => (HR W c2 I.fa.1 c4 I.fa.2.1).out) fun Al V Iv hz hB K k => ?_
      rintro _ W ⟨p74, c74, rfl, o74, hb⟩
      refine ⟨_, rfl, k _ _ hb fun I => ?_⟩
      clear k K
      have I := I.own o74
      refine zo 10 I (fun I => ?_)
      refine zg I (fun Al W I => have hz := I.bel.size; gkeeps_any d.neg p74 c74 d.e d.m f.g W I.fa.1.rd (by omega) (by omega) (goodG_of G.g)) fun Al V Iv hz hB K k => ?_
      rintro _ W ⟨rfl, hb⟩
      refine ⟨_, congrArg (fun b => Ending.returned (.bool b)) (show (keepsD ⟨d.neg, d.m, d.e⟩ f.g) = true from hkp.trans h77), k _ _ hb fun I => ?_⟩
      clear k K
      refine zk [11, 12] I fun I => ?_
      have hi := hige h77
      refine zd [] I fun Al W I => ?_
      refine zk [0, 1, 2] I fun I => ?_
      refine zo 3 I (fun I => ?_)
      refine zg I (fun Al W I => (HR W c2 I.fa.2.1 c4 I.fa.2.2.1).out) fun Al V Iv hz hB K k => ?_
      rintro _ W ⟨p83, c83, rfl, o83, hb⟩
      refine ⟨_, rfl, k _ _ hb fun I => ?_⟩
      clear k K
      have I := I.own o83
      refine zo 4 I (fun I => ?_)
      refine zg I (fun Al W I => have hz := I.bel.size; number_any f d p83 c83 W G I.fa.1.rd hb1.1 (by omega) h77 (hm0 c2 h70)) fun Al V Iv hz hB K k => ?_
      rintro _ W ⟨rfl, hb⟩
      refine ⟨_, rfl, k _ _ hb fun I => ?_⟩
      clear k K
      refine zk [5, 6] I fun I => ?_
      have hE : errEnc f cls a = 0 := by unfold errEnc; rw [if_neg c1, if_neg (by omega), if_neg c3, if_pos c58, if_neg (by omega), if_neg (fun h => by rcases h with h | h <;> first | exact h70 h | (rw [hD, h77] at h; cases h; done))]
      exact zret I (v := fun Al => .tuple #[.string (strOf (f.strP (f.numP d))), .int .i64 0]) fun Al W I => givesS_ok hE (by rw [show cls.toNat = 2 by omega, e2]) rfl I.below
    have c4 : -20000 ≤ a.e ∧ a.e ≤ 20000 := by have := of_decide_eq_false f61; have := of_decide_eq_false f65; omega
    have hb1 := hbd c2 c4
    refine zd [] I fun Al W I => ?_
    refine zk [0, 1, 2] I fun I => ?_
    refine zkb 3 I (((a.xs.length : Nat) : Int) == 0) (false) (beq_eq_false_iff_ne.2 (by omega)) fun I => ?_
    refine zk [4, 5, 6, 8, 9] I fun I => ?_
    refine zo 7 I (fun I => ?_)
    refine zg I (fun Al W I => (HR W c2 I.fa.1 c4 I.fa.2.1).out) fun Al V Iv hz hB K k => ?_
    rintro _ W ⟨p74, c74, rfl, o74, hb⟩
    refine ⟨_, rfl, k _ _ hb fun I => ?_⟩
    clear k K
    have I := I.own o74
    refine zo 10 I (fun I => ?_)
    refine zg I (fun Al W I => have hz := I.bel.size; gkeeps_any d.neg p74 c74 d.e d.m f.g W I.fa.1.rd (by omega) (by omega) (goodG_of G.g)) fun Al V Iv hz hB K k => ?_
    rintro _ W ⟨rfl, hb⟩
    refine ⟨_, congrArg (fun b => Ending.returned (.bool b)) (show (keepsD ⟨d.neg, d.m, d.e⟩ f.g) = false from hkp.trans (by simpa using h77)), k _ _ hb fun I => ?_⟩
    clear k K
    refine zk [11, 12] I fun I => ?_
    have hE : errEnc f cls a = 4 := by unfold errEnc; rw [if_neg c1, if_neg (by omega), if_neg c3, if_pos c58, if_neg (by omega), if_pos (by first | exact .inl h70 | exact .inr (by rw [hD]; simpa using h77))]
    have hN : (4 : Int) ≠ 0 := by decide
    exact zret I fun Al W I => givesS_err hE hN rfl I.below
  refine zb I 58 (cls == 2) (false) (f58) fun Al W I => ?_
  have c58 : cls ≠ 2 := by first | (have := beq_iff_eq.1 f35; omega) | (have := beq_iff_eq.1 f39; omega) | (have := beq_iff_eq.1 f49; omega) | exact beq_eq_false_iff_ne.1 f58
  rcases Bool.eq_false_or_eq_true (decide (((a.xs.length : Nat) : Int) > 0)) with f88 | f88
  · skip
    refine zb I 88 (decide (((a.xs.length : Nat) : Int) > 0)) (true) (f88) fun Al W I => ?_
    have hE : errEnc f cls a = 4 := by unfold errEnc; rw [if_neg c1, if_neg (by omega), if_neg c3, if_neg c58, if_pos (by first | (have := of_decide_eq_true f88; omega) | exact .inr (.inl (bne_iff_ne.1 f92)) | exact .inr (.inr ⟨f96, .inr f103⟩) | exact .inr (.inr ⟨f96, .inl (by first | (have := beq_iff_eq.1 f39; omega) | (have := beq_iff_eq.1 f49; omega))⟩))]
    have hN : (4 : Int) ≠ 0 := by decide
    exact zret I fun Al W I => givesS_err hE hN rfl I.below
  refine zb I 88 (decide (((a.xs.length : Nat) : Int) > 0)) (false) (f88) fun Al W I => ?_
  rcases Bool.eq_false_or_eq_true (a.e != 0) with f92 | f92
  · skip
    refine zb I 92 (a.e != 0) (true) (f92) fun Al W I => ?_
    have hE : errEnc f cls a = 4 := by unfold errEnc; rw [if_neg c1, if_neg (by omega), if_neg c3, if_neg c58, if_pos (by first | (have := of_decide_eq_true f88; omega) | exact .inr (.inl (bne_iff_ne.1 f92)) | exact .inr (.inr ⟨f96, .inr f103⟩) | exact .inr (.inr ⟨f96, .inl (by first | (have := beq_iff_eq.1 f39; omega) | (have := beq_iff_eq.1 f49; omega))⟩))]
    have hN : (4 : Int) ≠ 0 := by decide
    exact zret I fun Al W I => givesS_err hE hN rfl I.below
  refine zb I 92 (a.e != 0) (false) (f92) fun Al W I => ?_
  rcases Bool.eq_false_or_eq_true (a.g) with f96 | f96
  · skip
    refine zb I 96 (a.g) (true) (f96) fun Al W I => ?_
    refine zb I 100 (decide (cls ≥ 4)) (false) (decide_eq_false (by have := beq_eq_false_iff_ne.1 f49; have := beq_eq_false_iff_ne.1 f35; have := beq_eq_false_iff_ne.1 f39; omega)) fun Al W I => ?_
    rcases Bool.eq_false_or_eq_true (f.res) with f103 | f103
    · skip
      refine zb I 103 (f.res) (true) (f103) fun Al W I => ?_
      have hE : errEnc f cls a = 4 := by unfold errEnc; rw [if_neg c1, if_neg (by omega), if_neg c3, if_neg c58, if_pos (by first | (have := of_decide_eq_true f88; omega) | exact .inr (.inl (bne_iff_ne.1 f92)) | exact .inr (.inr ⟨f96, .inr f103⟩) | exact .inr (.inr ⟨f96, .inl (by first | (have := beq_iff_eq.1 f39; omega) | (have := beq_iff_eq.1 f49; omega))⟩))]
      have hN : (4 : Int) ≠ 0 := by decide
      exact zret I fun Al W I => givesS_err hE hN rfl I.below
    refine zb I 103 (f.res) (false) (f103) fun Al W I => ?_
    have hE : errEnc f cls a = 0 := by unfold errEnc; rw [if_neg c1, if_neg (by omega), if_neg c3, if_neg c58, if_neg (fun h => by rcases h with h | h | ⟨h, k⟩ <;> first | (have := of_decide_eq_false f88; omega) | (rw [show (a.e != 0) = true from bne_iff_ne.2 h] at f92; cases f92; done) | (rw [f96] at h; cases h; done) | (rcases k with k | k <;> first | (have := beq_iff_eq.1 f35; omega) | (have := beq_eq_false_iff_ne.1 f49; have := beq_eq_false_iff_ne.1 f35; have := beq_eq_false_iff_ne.1 f39; omega) | (rw [f103] at k; cases k; done)))]
    refine zbin I 109 _ (fun _ _ _ _ _ => bin_shl .i64 (1) .i64 ((f.E : Nat) : Int) (((P : Nat) : Int)) (by omega) ((HSH.out))) fun Al W I => ?_
    refine zi I 110 .i64 (((P : Nat) : Int) - 1) (((P - 1 : Nat) : Int)) ((by rw [show (((P : Nat) : Int) - 1) = ((P - 1 : Nat) : Int) by omega]; exact IntWalk.i64_in _ (by omega))) fun Al W I => ?_
    refine zb I 117 (cls == 3) (false) (f35) fun Al W I => ?_
    refine zb I 126 (cls == 4) (false) (f39) fun Al W I => ?_
    refine zb I 142 (cls == 5) (false) (f49) fun Al W I => ?_
    refine zg I (fun Al W I => (hJ0 W a.g 0 0 rfl h0T).out) fun Al V Iv hz hB K k => ?_
    rintro _ W ⟨rfl, hb⟩
    have hS : strOf (f.strP (f.encP cls.toNat a.g d)) = strOf (f.str a.g 0 0) := by rw [show cls.toNat = 1 by have := beq_eq_false_iff_ne.1 f49; have := beq_eq_false_iff_ne.1 f35; have := beq_eq_false_iff_ne.1 f39; omega, e1]; rfl
    refine ⟨_, rfl, k _ _ hb fun I => ?_⟩
    clear k K
    exact zret I fun Al W I => givesS_ok hE hS rfl I.below
  refine zb I 96 (a.g) (false) (f96) fun Al W I => ?_
  have hE : errEnc f cls a = 0 := by unfold errEnc; rw [if_neg c1, if_neg (by omega), if_neg c3, if_neg c58, if_neg (fun h => by rcases h with h | h | ⟨h, k⟩ <;> first | (have := of_decide_eq_false f88; omega) | (rw [show (a.e != 0) = true from bne_iff_ne.2 h] at f92; cases f92; done) | (rw [f96] at h; cases h; done) | (rcases k with k | k <;> first | (have := beq_iff_eq.1 f35; omega) | (have := beq_eq_false_iff_ne.1 f49; have := beq_eq_false_iff_ne.1 f35; have := beq_eq_false_iff_ne.1 f39; omega) | (rw [f103] at k; cases k; done)))]
  refine zbin I 109 _ (fun _ _ _ _ _ => bin_shl .i64 (1) .i64 ((f.E : Nat) : Int) (((P : Nat) : Int)) (by omega) ((HSH.out))) fun Al W I => ?_
  refine zi I 110 .i64 (((P : Nat) : Int) - 1) (((P - 1 : Nat) : Int)) ((by rw [show (((P : Nat) : Int) - 1) = ((P - 1 : Nat) : Int) by omega]; exact IntWalk.i64_in _ (by omega))) fun Al W I => ?_
  refine zb I 117 (cls == 3) (false) (f35) fun Al W I => ?_
  refine zb I 126 (cls == 4) (false) (f39) fun Al W I => ?_
  refine zb I 142 (cls == 5) (false) (f49) fun Al W I => ?_
  refine zg I (fun Al W I => (hJ0 W a.g 0 0 rfl h0T).out) fun Al V Iv hz hB K k => ?_
  rintro _ W ⟨rfl, hb⟩
  have hS : strOf (f.strP (f.encP cls.toNat a.g d)) = strOf (f.str a.g 0 0) := by rw [show cls.toNat = 1 by have := beq_eq_false_iff_ne.1 f49; have := beq_eq_false_iff_ne.1 f35; have := beq_eq_false_iff_ne.1 f39; omega, e1]; rfl
  refine ⟨_, rfl, k _ _ hb fun I => ?_⟩
  clear k K
  exact zret I fun Al W I => givesS_ok hE hS rfl I.below
end Go.Proofs.YtcipdimogodndaaDoor

namespace Go.Slip

def GrpIn (N : Nat) (D : List Nat) (i d A : Nat) : Prop := (∀ x ∈ D, x < 10) ∧ d < 10 ^ (4 - i) ∧ N = val 10 D + 10 ^ D.length * (d + 10 ^ (4 - i) * A)
def GrpOut (N : Nat) (D : List Nat) (A : Nat) : Prop := (∀ x ∈ D, x < 10) ∧ N = val 10 D + 10 ^ D.length * A

theorem GrpOut.start (N : Nat) : GrpOut N [] N := ⟨by simp, by simp⟩

theorem GrpOut.enter {N : Nat} {D : List Nat} {A : Nat} (h : GrpOut N D A) : GrpIn N D 0 (A % 10000) (A / 10000) := by
  refine ⟨h.1, Nat.mod_lt _ (by omega), ?_⟩
  rw [h.2]
  congr 2
  have := Nat.mod_add_div A 10000
  show A = A % 10000 + 10000 * (A / 10000)
  omega

theorem GrpIn.step {N : Nat} {D : List Nat} {i d A : Nat} (h : GrpIn N D i d A) (hi : i < 4) : GrpIn N (D ++ [d % 10]) (i + 1) (d / 10) A := by
  obtain ⟨h1, h2, h3⟩ := h
  have e : 4 - i = 4 - (i + 1) + 1 := by omega
  rw [e, Nat.pow_succ] at h2 h3
  refine ⟨fun x hx => ?_, by omega, ?_⟩
  · rcases List.mem_append.1 hx with hx | hx
    · exact h1 x hx
    · simp at hx; omega
  · rw [h3, val_snoc, List.length_append, List.length_singleton, Nat.pow_succ]
    have := Nat.mod_add_div d 10
    generalize d % 10 = s at *
    generalize d / 10 = q at *
    subst this
    grind

theorem GrpIn.leave {N : Nat} {D : List Nat} {d A : Nat} (h : GrpIn N D 4 d A) : GrpOut N D A := by
  obtain ⟨h1, h2, h3⟩ := h
  have hd : d = 0 := by simpa using h2
  subst hd
  exact ⟨h1, by rw [h3]; simp⟩

theorem GrpOut.size {N : Nat} {D : List Nat} {A : Nat} (h : GrpOut N D A) (hA : 0 < A) : D.length ≤ 16 * (dig B16 N).length := by
  have h1 : 10 ^ D.length ≤ N := by
    rw [h.2]
    have := Nat.le_mul_of_pos_right (10 ^ D.length) hA
    omega
  have h2 := (dig_len_le B16_two N _).1 (Nat.le_refl _)
  have h3 : B16 ^ (dig B16 N).length = 2 ^ (16 * (dig B16 N).length) := by rw [Nat.pow_mul]; congr 1
  have h4 : 2 ^ D.length ≤ 10 ^ D.length := Nat.pow_le_pow_left (by omega) _
  have h5 : 2 ^ D.length < 2 ^ (16 * (dig B16 N).length) := by rw [← h3]; omega
  exact Nat.le_of_lt ((Nat.pow_lt_pow_iff_right (by omega)).1 h5)

end Go.Slip

namespace Go.Slip

def MaRel (L X : List Nat) (ten d0 i d : Nat) : Prop :=
  (∀ x ∈ L, x < B32) ∧ L.length = X.length ∧ (∀ j, i ≤ j → dg L j = dg X j) ∧ val B32 (L.take i) + d * B32 ^ i = val B32 (X.take i) * ten + d0

theorem MaRel.start {X : List Nat} (h : ∀ x ∈ X, x < B32) (ten d0 : Nat) : MaRel X X ten d0 0 d0 := ⟨h, rfl, fun _ _ => rfl, by simp⟩

theorem MaRel.step {L X : List Nat} {ten d0 i d : Nat} (h : MaRel L X ten d0 i d) (hi : i < X.length) (t : Nat) (ht : t = dg X i * ten + d) : MaRel (L.set i (t % B32)) X ten d0 (i + 1) (t / B32) := by
  obtain ⟨h1, h2, h3, h4⟩ := h
  refine ⟨set_lt L h1 i _ (Nat.mod_lt _ B32_pos), by simpa using h2, fun j hj => ?_, ?_⟩
  · rw [dg_set_ne (by omega)]; exact h3 j (by omega)
  · rw [val_take_succ, take_set_same, dg_set_same (by omega), val_take_succ, Nat.pow_succ]
    have h5 := Nat.div_add_mod t B32
    generalize t / B32 = q at *
    generalize t % B32 = r at *
    have e : B32 ^ i * (B32 * q + r) = B32 ^ i * (dg X i * ten + d) := by rw [h5, ht]
    grind

theorem MaRel.done0 {L : List Nat} {ten d0 a : Nat} (h : MaRel L (dig B32 a) ten d0 (dig B32 a).length 0) (h1 : 0 < ten) : L = dig B32 (a * ten + d0) := by
  have h4 := h.2.2.2
  rw [List.take_length, val_dig B32_two, ← h.2.1, List.take_length] at h4
  obtain ⟨m, rfl⟩ : ∃ m, ten = m + 1 := ⟨ten - 1, by omega⟩
  have e : a * (m + 1) + d0 = a + (a * m + d0) := by grind
  rw [e] at h4 ⊢
  exact add_end0 B32_two L a _ h.1 h.2.1 (by omega)

theorem MaRel.done1 {L : List Nat} {ten d0 a d : Nat} (h : MaRel L (dig B32 a) ten d0 (dig B32 a).length d) (h1 : 0 < d) (h2 : d < B32) : L ++ [d] = dig B32 (a * ten + d0) := by
  have h4 := h.2.2.2
  rw [List.take_length, val_dig B32_two, ← h.2.1, List.take_length] at h4
  exact add_end1 B32_two L d _ h.1 h1 h2 h4

end Go.Slip

namespace Go.Proofs.YtcipdimogodndaaDoor
open Go.RowKit Go.Slip

set_option maxHeartbeats 1000000 in
theorem refFrom_any (N : Nat) (w : World) (hN : N ≤ 9223372036854775807) :
    Calls Tryd.prog 80 #[.int .i64 N] w (GivesR w .i64 (dig B16 N)) := by
  have hlN : (dig B16 N).length ≤ 4 := (dig_len_le B16_two N 4).2 (by unfold B16; omega)
  go_enter Tryd.func80, Tryd.ntmps80
  go_wp2
  go_loopg [0, 3] N (fun g nv ov wr => ∃ (m : Nat) (t : Option Addr) (e : Nat) (O : List Nat), nv = .int .i64 m ∧ ov = .slice t O.length e ∧ m ≤ g ∧ m ≤ 9223372036854775807 ∧ Hid (O ++ dig B16 m = dig B16 N) ∧
      Own wr w.heap.size .i64 3 t e O ∧ Below w.heap.size w wr)
  case atStart => exact ⟨N, none, 0, [], rfl, rfl, Nat.le_refl _, hN, rfl, Own.nil _ _ _ _, Below.refl _ _⟩
  case round =>
    obtain ⟨m, t, e, O, rfl, rfl, hg, hm, HR, hoq, hb⟩ := hrel
    have hOl : O.length ≤ 4 := by have := congrArg List.length HR.out; rw [List.length_append] at this; omega
    by_cases h0 : 0 < m
    · have HS : Hid ((O ++ [m % B16]) ++ dig B16 (m / B16) = dig B16 N) := by
        show _ = _
        rw [← HR.out, dig_pos B16_two h0, List.append_assoc]; rfl
      go_wp2_with (first
        | (refine wpl_build1 rfl _ _ rfl tyN _ ?_ rfl ?_; omega; intro p2 w2 ho2 hb2 hz2 hp2)
        | (at_builtin; refine wpl_append rfl _ _ _ rfl tyN _ _ _ _ _ (hoq.past hb2) rfl _ _ _ _ ho2.rd rfl rfl rfl ?_ ?_ ?_; (simp; omega); (have := hb2.size; have := hb.size; omega); intro p3 c3 w3 ho3 hg3 hb3 hn3))
      have hb4 := hb.trans ((hb2.mono hb.size).trans hb3)
      have e4 : ((m : Int) % 65536).toNat = m % B16 := by unfold B16; omega
      rw [e4] at ho3
      go_roundg (m / 65536)
      case measure => omega
      case rel => exact ⟨m / 65536, p3, c3, _, by go_num, by simp, Nat.le_refl _, by omega, HS, ho3, hb4⟩
    · obtain rfl : m = 0 := by omega
      have HD : Hid (O = dig B16 N) := by show _ = _; rw [← HR.out, dig_zero, List.append_nil]
      go_wp2
      go_ret
      exact givesR_of HD.out rfl hoq hb

end Go.Proofs.YtcipdimogodndaaDoor

namespace Go.Proofs.YtcipdimogodndaaDoor
open Go.RowKit Go.Slip

theorem _root_.Go.Slip.SmallRel.skip {B : Nat} {L xs : List Nat} {d k r : Nat} (h : SmallRel B L xs d (k + 1) r) (hk : k < xs.length) (hL : k < L.length) (hx : dg xs k < B) (hz : dg L k = 0) (hlt : r * B + dg xs k < d) : SmallRel B L xs d k (r * B + dg xs k) := by
  have h1 := (h.step hk hL hx).1
  rw [Nat.div_eq_of_lt hlt, Nat.mod_eq_of_lt hlt, set_same L k hz] at h1
  exact h1

theorem div_digit {B R j : Nat} : R / B ^ j = B * (R / B ^ (j + 1)) + R / B ^ j % B := by
  rw [Nat.pow_succ, ← Nat.div_div_eq_div_mul, Nat.div_add_mod]

theorem dg_dig {B : Nat} (hB : 2 ≤ B) (R j : Nat) : dg (dig B R) j = R / B ^ j % B := by
  have h1 := val_drop_div (B := B) (by omega) (dig B R) (dig_lt hB R) j
  have h2 := val_drop0 B (dig B R) j
  rw [val_dig hB] at h1
  rw [h1] at h2
  rw [h2, Nat.add_mul_mod_self_left, Nat.mod_eq_of_lt (getD_lt (by omega) _ (dig_lt hB R) j)]

theorem top_step {R n k tp : Nat} (hk : k ≤ n) (h : tp = R / B16 ^ (n + 1 - k)) : 65536 * tp + dg (dig B16 R) (n - k) = R / B16 ^ (n - k) := by
  rw [dg_dig B16_two, h, show n + 1 - k = n - k + 1 by omega]
  exact (div_digit (B := B16)).symm

theorem top_lt {R n k : Nat} (hk : k ≤ n + 1) (h : R < B16 ^ (n + 1)) : R / B16 ^ (n + 1 - k) < B16 ^ k := by
  rw [Nat.div_lt_iff_lt_mul (Nat.pow_pos B16_pos), ← Nat.pow_add, show k + (n + 1 - k) = n + 1 by omega]
  exact h

theorem top_under {b n : Nat} (h2 : (dig B16 b).length = n + 2) : dg (dig B16 b) (n + 1) * 65536 + dg (dig B16 b) n = b / B16 ^ n ∧ B16 ≤ b / B16 ^ n := by
  have hb : b < B16 ^ (n + 2) := (dig_len_le B16_two b _).1 (by omega)
  have h0 : 0 < b := by
    have := dig_len_zero B16_two b
    omega
  have h1 := dig_len_pow B16_two b h0
  rw [h2] at h1
  have e1 : b / B16 ^ (n + 2) = 0 := Nat.div_eq_of_lt hb
  have e2 : b / B16 ^ n = B16 * (b / B16 ^ (n + 1)) + b / B16 ^ n % B16 := div_digit
  have e3 : b / B16 ^ (n + 1) = B16 * (b / B16 ^ (n + 2)) + b / B16 ^ (n + 1) % B16 := div_digit
  rw [dg_dig B16_two, dg_dig B16_two]
  have e4 : b / B16 ^ (n + 1) % B16 = b / B16 ^ (n + 1) := by rw [e1] at e3; omega
  refine ⟨by rw [e4, show (65536 : Nat) = B16 from rfl, Nat.mul_comm]; exact e2.symm, ?_⟩
  rw [Nat.le_div_iff_mul_le (Nat.pow_pos B16_pos), Nat.mul_comm, ← Nat.pow_succ]
  exact h1

set_option maxHeartbeats 4000000 in
set_option maxRecDepth 100000 in
theorem refInto_more (p q : Option Addr) (n m c e0 : Nat) (a b nn : Nat) (w : World) (hp : Rd w .i64 p (dig B16 a)) (hq : Rd w .i64 q (dig B16 b)) (hn : n = (dig B16 a).length) (hm : m = (dig B16 b).length)
    (hl : (dig B16 a).length ≤ 100000000) (hl2 : (dig B16 b).length ≤ 100000000) (h2 : (dig B16 b).length = nn + 2) :
    Calls Tryd.prog 121 #[.slice p n c, .slice q m e0] w (GivesR2 w .i64 (dig B16 (a / b)) (dig B16 (a % b))) := by
  subst hn hm
  have HA := Lib.hid (val_dig B16_two a)
  have HXL := Lib.hid (dig_lt B16_two a)
  generalize dig B16 a = xs at *
  obtain ⟨hun, hub⟩ := top_under h2
  obtain ⟨ys, hys⟩ : ∃ ys, ys = dig B16 b := ⟨_, rfl⟩
  rw [← hys] at hq hl2 h2 hun ⊢
  obtain ⟨b1, hb1⟩ : ∃ b1, dg ys (nn + 1) = b1 := ⟨_, rfl⟩
  obtain ⟨b0, hb0⟩ : ∃ b0, dg ys nn = b0 := ⟨_, rfl⟩
  rw [hb1, hb0] at hun
  have hb1l : b1 < 65536 := by rw [← hb1, hys]; exact getD_lt (B := 65536) (by omega) _ (dig_lt B16_two b) _
  have hb0l : b0 < 65536 := by rw [← hb0, hys]; exact getD_lt (B := 65536) (by omega) _ (dig_lt B16_two b) _
  obtain ⟨un, hunn⟩ : ∃ un, un = b1 * 65536 + b0 := ⟨_, rfl⟩
  rw [← hunn] at hun
  have hul : un < 4294967296 := by omega
  have HUN := Lib.hid hun
  have HUB := Lib.hid (show B16 ≤ un by rw [hun]; exact hub)
  have eun : (b1 : Int) * 65536 + (b0 : Nat) = (un : Nat) := by omega
  have HYS := Lib.hid hys
  have HN := Lib.hid h2
  have y2 : 2 ≤ ys.length := by omega
  have hsx := hp.solid
  have hsy := hq.solid
  have t1 : ((ys.length : Int) == 1) = false := beq_eq_false_iff_ne.2 (by omega)
  have hcb1 := hq.cells (ys.length - 1) (by omega)
  have hcb0 := hq.cells (ys.length - 2) (by omega)
  rw [show ys.length - 1 = nn + 1 by omega, hb1, show nn + 1 = ys.length - 1 by omega] at hcb1
  rw [show ys.length - 2 = nn by omega, hb0, show nn = ys.length - 2 by omega] at hcb0
  have HB : Hid (0 < b) := by
    have := dig_len_zero B16_two b
    rw [← hys] at this
    show 0 < b
    omega
  have HBL := Lib.hid (show b < B16 ^ (nn + 2) from (dig_len_le B16_two b _).1 (by rw [← hys]; omega))
  clear hys h2 hun hub hunn hb1 hb0
  go_enter Tryd.func121, Tryd.ntmps121
  go_wp2_with (refine wpl_make rfl _ _ _ rfl tyN .i64 .i64 xs.length _ _ rfl rfl ?_ ?_ ?_ ?_; omega; omega; omega; intro p1 c1 w1 ho1 hb1 hz1)
  have hsz1 := hb1.size
  have hp1l : p1.isSome = true → blk p1 < w1.heap.size := fun h => (ho1.blk_lt h).2
  go_loopw [10, 11] (fun rv iv wr => ∃ (k r : Nat) (L : List Nat) (pr : Option Addr) (cr : Nat), iv = .int .i64 ((k : Int) - 1) ∧ rv = .slice pr (dig B16 r).length cr ∧ k ≤ xs.length ∧ Hid (L.length = xs.length) ∧ Rd wr .i64 pr (dig B16 r) ∧ (dig B16 r).length ≤ cr ∧
      (0 < (dig B16 r).length → w1.heap.size ≤ blk pr) ∧ Own wr w.heap.size .i64 3 p1 c1 L ∧ Below w.heap.size w wr ∧ w1.heap.size ≤ wr.heap.size ∧ Hid (SmallRel B16 L xs b k r ∧ ∀ i, i < k → dg L i = 0))
    (fun _ iv _ => (intOf iv + 1).toNat)
  case atStart => exact ⟨xs.length, 0, _, none, 0, rfl, by rw [dig_zero]; rfl, Nat.le_refl _, List.length_replicate, by rw [dig_zero]; exact Rd.nil _ _ _, by rw [dig_zero]; simp, by rw [dig_zero]; simp, ho1, hb1, Nat.le_refl _,
    ⟨⟨fun x hx => by rw [(List.mem_replicate.1 hx).2]; exact B16_pos, HB.out, by simp⟩, fun i _ => dg_replicate _ _⟩⟩
  case round =>
    obtain ⟨k, r, L, pr, cr, rfl, rfl, hk, hL, hrr, hrc, hrb, hoL, hbL, hszL, HR⟩ := hrel
    have hpL := hp.past hbL
    have hqL := hq.past hbL
    by_cases h0 : 0 < k
    · obtain ⟨j, rfl⟩ : ∃ j, k = j + 1 := ⟨k - 1, by omega⟩
      have ej : ((j + 1 : Nat) : Int) - 1 = j := by omega
      rw [ej]
      have hc1 := hpL.cells j (by omega)
      have hxd := getD_lt (B := 65536) (by omega) xs HXL.out j
      obtain ⟨x, hx⟩ : ∃ x, dg xs j = x := ⟨_, rfl⟩
      rw [hx] at hc1 hxd
      obtain ⟨R, hRR⟩ : ∃ R, R = r * B16 + x := ⟨_, rfl⟩
      have HX := Lib.hid hx
      have HRR := Lib.hid hRR
      have hrl : (dig B16 r).length ≤ ys.length := by rw [HYS.out]; exact dig_len_mono B16_two (Nat.le_of_lt HR.out.1.2.1)
      have HLD : Hid (∀ y ∈ [x] ++ dig B16 r, y < B16) := by
        intro y hy
        rcases List.mem_append.1 hy with h | h
        · simp at h; rw [h]; exact hxd
        · exact dig_lt B16_two r y h
      have HVR : Hid (val B16 ([x] ++ dig B16 r) = R) := by
        show val B16 ([x] ++ dig B16 r) = R
        rw [List.singleton_append, val_cons, val_dig B16_two, hRR, Nat.mul_comm B16 r]; omega
      have HRB := Lib.hid (show R < b * B16 by have := HR.out.1.push (by rw [hx]; exact hxd); rw [hRR, ← hx, Nat.mul_comm r B16]; omega)
      clear hx hRR ej
      have hxs := hsx
      go_wp2_with (first
        | (refine wpl_build1 rfl _ _ rfl tyN _ ?_ rfl ?_; omega; intro p2 w2 ho2 hb2 hz2 hp2)
        | (at_builtin; rw [Int.toNat_natCast] at ho2; refine wpl_append rfl _ _ _ rfl tyN _ _ _ _ _ ho2 rfl _ _ _ _ (hrr.past hb2) rfl rfl rfl ?_ ?_ ?_; (simp; omega); (have := hb2.size; omega); intro p3 c3 w3 ho3 hg3 hb3 hn3))
      refine (refTrim_any p3 _ c3 ([x] ++ dig B16 r) _ ho3.rd rfl ho3.le_cap HLD.out (by simp; omega)).mono ?_
      rintro e w4 ⟨rfl, rfl⟩
      rw [HVR.out]
      have hrt := ho3.take (dig B16 (val B16 ([x] ++ dig B16 r))).length
      rw [take_dig_len B16_two _ HLD.out, HVR.out] at hrt
      have hrn : 0 < (dig B16 R).length → w1.heap.size ≤ blk p3 := fun h => by
        have := (hrt.blk_lt (hrt.rd.solid h).1).1
        omega
      have hb23 := hb2.trans hb3
      have hoL3 := hoL.past hb23
      have hs3 := hbL.trans (hb23.mono hbL.size)
      have hsz3 : w1.heap.size ≤ w3.heap.size := Nat.le_trans hszL hb23.size
      have hrR := hrt.rd
      have hrl2 : (dig B16 R).length ≤ ys.length + 1 := by
        rw [dig_len_le B16_two, HN.out, show nn + 2 + 1 = (nn + 2) + 1 by omega, Nat.pow_succ]
        exact Nat.lt_of_lt_of_le HRB.out (Nat.mul_le_mul_right _ (Nat.le_of_lt HBL.out))
      clear hb2 hb3 hz2 hp2 ho2 ho3 hg3 hn3 hb23 hrt hrr hrc hrb hoL hbL hszL hpL hc1
      have hq3 := hq.past hs3
      have hq3b : Rd w3 .i64 q (dig B16 b) := by rw [← HYS.out]; exact hq3
      have lyb := Lib.hid (show ys.length = (dig B16 b).length by rw [← HYS.out])
      have lyb2 : (dig B16 b).length ≤ 100000000 := by rw [← HYS.out]; exact hl2
      go_wp2_with fail
      refine (refCmp_any p3 q _ _ _ e0 R b _ hrR hq3b rfl lyb.out (by omega) (by omega)).mono ?_
      rintro e w5 ⟨rfl, hb5⟩
      have hrR := hrR.past hb5
      have hoL5 := hoL3.past hb5
      have hs5 := hs3.trans (hb5.mono hs3.size)
      have hsz5 : w1.heap.size ≤ w5.heap.size := Nat.le_trans hsz3 hb5.size
      have hsb5 := hs5.size
      have hq5 := hq.past hs5
      clear hb5 hoL3 hs3 hsz3 hq3 hq3b
      by_cases hRb : R < b
      · have hC : cmpN R b ≤ -1 := by rw [cmpN_lt hRb]; omega
        have HS : Hid (SmallRel B16 L xs b j R ∧ ∀ i, i < j → dg L i = 0) := by
          have h := HR.out.1.skip (by omega) (by rw [hL.out]; omega) (by rw [HX.out]; exact hxd) (HR.out.2 j (by omega)) (by rw [HX.out, ← HRR.out]; exact hRb)
          rw [HX.out, ← HRR.out] at h
          exact ⟨h, fun i hi => HR.out.2 i (by omega)⟩
        clear hRb
        go_wp2_with fail
        go_roundw
        case rel => exact ⟨j, R, L, p3, _, rfl, rfl, by omega, hL, hrR, Nat.le_refl _, hrn, hoL5, hs5, hsz5, HS⟩
        case measure => first | (simp [intOf]; done) | (simp [intOf]; omega)
      · have hC : 0 ≤ cmpN R b := by unfold cmpN; rw [if_neg hRb]; split <;> omega
        have HRb := Lib.hid hRb
        have hsr := hrR.solid
        have c1 := hq5.cells (ys.length - 1) (by omega)
        have c0 := hq5.cells (ys.length - 2) (by omega)
        have i1 := (hq.cells (ys.length - 1) (by omega)).symm.trans hcb1
        have i0 := (hq.cells (ys.length - 2) (by omega)).symm.trans hcb0
        simp only [Option.some.injEq, Value.int.injEq, true_and] at i1 i0
        rw [i1] at c1
        rw [i0] at c0
        clear i1 i0 hRb
        have f1 : (0 : Int) ≤ (ys.length : Int) - 1 := by omega
        have f2 : (ys.length : Int) - 1 < (ys.length : Int) := by omega
        have f3 : (0 : Int) ≤ (ys.length : Int) - 2 := by omega
        have f4 : (ys.length : Int) - 2 < (ys.length : Int) := by omega
        have e1 : IntKind.i64.wrap ((ys.length : Int) - 1) = (ys.length : Int) - 1 := IntWalk.i64_in _ (by omega)
        have e2 : IntKind.i64.wrap ((ys.length : Int) - 2) = (ys.length : Int) - 2 := IntWalk.i64_in _ (by omega)
        have e3 : ((ys.length : Int) - 1).toNat = ys.length - 1 := by omega
        have e4 : ((ys.length : Int) - 2).toNat = ys.length - 2 := by omega
        have e5 : IntKind.i64.wrap ((b1 : Int) * 65536) = (b1 : Int) * 65536 := IntWalk.i64_in _ (by omega)
        have e6 : IntKind.i64.wrap (un : Int) = (un : Int) := IntWalk.i64_in _ (by omega)
        go_wp2_with fail
        go_quiet (fail)
        clear f1 f2 f3 f4 e1 e2 e3 e4 e5 e6 c1 c0
        have hrR := hrR.drewN nq
        have hoL6 := hoL5.drewN nq
        have hs6 := below_drewN hs5 nq
        have hq6 := hq5.drewN nq
        have hsz6 : w1.heap.size ≤ (w5.drewN nq).heap.size := hsz5
        generalize w5.drewN nq = w6 at *
        clear hoL5 hs5 hq5 hsz5 hsb5
        go_wp2_with fail
        have HRn := Lib.hid (show R < B16 ^ (ys.length + 1) by rw [HN.out, Nat.pow_succ]; exact Nat.lt_of_lt_of_le HRB.out (Nat.mul_le_mul_right _ (Nat.le_of_lt HBL.out)))
        go_loop [12, 14] (fun tv kv => ∃ (kk tp : Nat), kv = .int .i64 kk ∧ tv = .int .i64 tp ∧ kk ≤ 3 ∧ tp < 281474976710656 ∧ (kk < 3 → tp < 4294967296) ∧ Hid (tp = R / B16 ^ (ys.length + 1 - kk))) (fun _ kv => 3 - (intOf kv).toNat)
        case atStart => exact ⟨0, 0, rfl, rfl, by omega, by omega, fun _ => by omega, (show 0 = R / B16 ^ (ys.length + 1 - 0) from (Nat.div_eq_of_lt HRn.out).symm)⟩
        case round =>
          obtain ⟨kk, tp, rfl, rfl, hkk, htp, htp2, HT⟩ := hrel
          by_cases hk3 : kk < 3
          · have htp3 := htp2 hk3
            obtain ⟨dd, hdd⟩ : ∃ dd, dg (dig B16 R) (ys.length - kk) = dd := ⟨_, rfl⟩
            have hstep := top_step (R := R) (n := ys.length) (k := kk) (by omega) HT.out
            rw [hdd] at hstep
            have hlt := top_lt (R := R) (n := ys.length) (k := kk + 1) (by omega) HRn.out
            rw [show ys.length + 1 - (kk + 1) = ys.length - kk by omega, ← hstep] at hlt
            have hlt3 : 65536 * tp + dd < 281474976710656 := Nat.lt_of_lt_of_le hlt (Nat.le_trans (Nat.pow_le_pow_right B16_pos (show kk + 1 ≤ 3 by omega)) (by decide))
            have hlt2 : kk + 1 < 3 → 65536 * tp + dd < 4294967296 := fun h => Nat.lt_of_lt_of_le hlt (Nat.le_trans (Nat.pow_le_pow_right B16_pos (show kk + 1 ≤ 2 by omega)) (by decide))
            have HS : Hid (65536 * tp + dd = R / B16 ^ (ys.length + 1 - (kk + 1))) := by rw [show ys.length + 1 - (kk + 1) = ys.length - kk by omega]; exact hstep
            have hddl : dd < 65536 := by rw [← hdd]; exact getD_lt (B := 65536) (by omega) _ (dig_lt B16_two R) _
            have g1 : (0 : Int) ≤ (ys.length : Int) - (kk : Int) := by omega
            have g3 : ((ys.length : Int) - (kk : Int)).toNat = ys.length - kk := by omega
            clear hlt hstep
            by_cases hat : ys.length - kk < (dig B16 R).length
            · have hcr := hrR.cells (ys.length - kk) hat
              rw [hdd] at hcr
              have g2 : (ys.length : Int) - (kk : Int) < ((dig B16 R).length : Int) := by omega
              have HL2 := Lib.hid hlt2
              clear hat hdd hlt2 htp2
              go_wp2_with fail
              go_round
              case rel => exact ⟨kk + 1, 65536 * tp + dd, by go_num, by go_num, by omega, hlt3, HL2.out, HS⟩
              case measure => simp [intOf]; omega
            · have hd0 : dd = 0 := by rw [← hdd]; exact dg_of_ge (by omega)
              subst hd0
              have g2 : ((dig B16 R).length : Int) ≤ (ys.length : Int) - (kk : Int) := by omega
              have HL2 := Lib.hid hlt2
              clear hat hdd hlt2 htp2
              go_wp2_with fail
              go_round
              case rel => exact ⟨kk + 1, 65536 * tp + 0, by go_num, by go_num, by omega, hlt3, HL2.out, HS⟩
              case measure => simp [intOf]; omega
          · obtain rfl : kk = 3 := by omega
            have hT : tp = R / B16 ^ nn := by have := HT.out; rw [HN.out, show nn + 2 + 1 - 3 = nn by omega] at this; exact this
            obtain ⟨ht1, ht2⟩ := into_trial (P := B16 ^ nn) (Nat.pow_pos B16_pos) (by rw [← HUN.out]; exact HUB.out) HRB.out
            rw [← hT, ← HUN.out] at ht1 ht2
            have hqd : R / b < 65536 := by rw [Nat.div_lt_iff_lt_mul HB.out, Nat.mul_comm]; exact HRB.out
            obtain ⟨xq, hxq⟩ : ∃ xq, xq = tp / (un + 1) := ⟨_, rfl⟩
            obtain ⟨qd, hqq⟩ : ∃ qd, qd = R / b := ⟨_, rfl⟩
            rw [← hxq, ← hqq] at ht1 ht2
            rw [← hqq] at hqd
            have ex : (tp : Int) / ((un : Int) + 1) = (xq : Nat) := by rw [hxq]; rfl
            have HQD := Lib.hid hqq
            have hu1 : (1 : Int) ≤ (un : Int) + 1 := by omega
            clear hT hxq hqq hk3 htp2
            go_wp2_with fail
            obtain ⟨d0, hd0⟩ : ∃ d0 : Nat, (d0 : Int) = min 65535 (max 0 ((xq : Int) - 1) + 4) := ⟨(min 65535 (max 0 ((xq : Int) - 1) + 4)).toNat, by omega⟩
            have hd1 : qd ≤ d0 := by omega
            have hd2 : d0 ≤ 65535 := by omega
            have HD0 := Lib.hid hd0
            clear hd0 ex ht1 ht2 hu1
            go_loopg [10, 17] d0 (fun g rv dv wr2 => ∃ (d : Nat), d = g ∧ rv = .slice p3 (dig B16 R).length (dig B16 R).length ∧ dv = .int .i64 d ∧ qd ≤ d ∧ d ≤ 65535 ∧ Below w6.heap.size w6 wr2)
            case atStart => exact ⟨d0, rfl, rfl, congrArg (Value.int .i64) HD0.out.symm, hd1, hd2, Below.refl _ _⟩
            case round =>
              obtain ⟨d, rfl, rfl, rfl, hqd1, hdl, hb7⟩ := hrel
              have ld : (dig B16 d).length ≤ 1 := (dig_len_le B16_two d 1).2 (by unfold B16; omega)
              have lbd : (dig B16 (b * d)).length ≤ 100000001 := by have := dig_len_mul B16_two b d; omega
              go_wp2_with fail
              ((with_reducible refine (refFrom_any d _ (by omega)).mono ?_))
              rintro e w8 ⟨p8, c8, rfl, hr8, -, -, hb8⟩
              have hs8 := hb7.trans (hb8.mono hb7.size)
              have hq8 : Rd w8 .i64 q (dig B16 b) := by rw [← HYS.out]; exact hq6.past hs8
              clear hb7 hb8
              go_wp2_with fail
              ((with_reducible refine (refTimes_any q p8 _ _ e0 c8 b d _ hq8 hr8 lyb.out rfl (by omega)).mono ?_))
              rintro e w9 ⟨p9, c9, rfl, hr9, -, -, hb9⟩
              have hs9 := hs8.trans (hb9.mono hs8.size)
              clear hs8 hb9 hr8 hq8
              go_wp2_with fail
              ((with_reducible refine (refCmp_any p9 p3 _ _ c9 _ (b * d) R _ hr9 (hrR.past hs9) rfl rfl (by omega) (by omega)).mono ?_))
              rintro e w10 ⟨rfl, hb10⟩
              have hs10 := hs9.trans (hb10.mono hs9.size)
              have hr10 := hr9.past hb10
              have hrR10 := hrR.past hs10
              clear hs9 hb10 hr9
              by_cases hle : b * d ≤ R
              · have hC2 : cmpN (b * d) R ≤ 0 := by unfold cmpN; split; omega; rw [if_neg (by omega)]; omega
                have hdq : d = qd := by
                  have : d ≤ qd := by rw [HQD.out, Nat.le_div_iff_mul_le HB.out, Nat.mul_comm]; exact hle
                  omega
                have HMM := Lib.hid (show R - b * d = R % b by rw [hdq, HQD.out]; have := Nat.div_add_mod R b; omega)
                have HS : Hid (SmallRel B16 (L.set j d) xs b j (R % b) ∧ ∀ i, i < j → dg (L.set j d) i = 0) := by
                  have h := (HR.out.1.step (by omega) (by rw [hL.out]; omega) (by rw [HX.out]; exact hxd)).1
                  rw [HX.out, ← HRR.out, ← HQD.out, ← hdq] at h
                  exact ⟨h, fun i hi => by rw [dg_set_ne (by omega)]; exact HR.out.2 i (by omega)⟩
                have HLE := Lib.hid hle
                clear hdq hle
                go_wp2_with fail
                ((with_reducible refine (refLess_any p3 p9 _ _ _ c9 R (b * d) _ hrR10 hr10 rfl rfl (by omega) HLE.out).mono ?_))
                rw [HMM.out]
                rintro e w11 ⟨p11, c11, rfl, hr11, hl11, hk11, hb11⟩
                have hs11 := hs10.trans (hb11.mono hs10.size)
                have hk12 : 0 < (dig B16 (R % b)).length → w1.heap.size ≤ blk p11 := fun h => by
                  have := hk11 h
                  have := hs10.size
                  omega
                have hoL11 := hoL6.past hs11
                have hbw11 := hs6.trans (hs11.mono hs6.size)
                have hsz11 : w1.heap.size ≤ w11.heap.size := Nat.le_trans hsz6 hs11.size
                have hsL := hoL11.solid
                rw [hL.out] at hsL
                have hjL : j < L.length := by rw [hL.out]; omega
                have hps := Lib.hid (hoL11.rd.solid (by omega)).1
                clear hs10 hb11 hrR10 hr10 hk11 hC2
                go_wp2_with (refine wpl_store rfl _ _ _ rfl 3 tyN _ _ _ _ hoL11 j hjL _ ?_ rfl rfl ?_; omega; intro w12 ho12 hg12 hb12)
                rw [Int.toNat_natCast] at ho12
                have hz12 := hg12.size
                go_roundw
                case rel => exact ⟨j, R % b, _, p11, c11, rfl, rfl, by omega, (by show (List.set _ _ _).length = _; rw [List.length_set]; exact hL.out), hr11.written hg12 (fun h0 h1 => by have := hk12 h0; have := hp1l h1; omega) hps.out, hl11, hk12, ho12, hbw11.trans hb12, Nat.le_trans hsz11 hz12, HS⟩
                case measure => first | (simp [intOf]; done) | (simp [intOf]; omega)
              · have hC2 : 1 ≤ cmpN (b * d) R := by rw [cmpN_gt (by omega)]; omega
                have hd1 : qd ≤ d - 1 ∧ 1 ≤ d := by
                  have : qd ≠ d := by
                    intro h
                    have h1 := Nat.div_mul_le_self R b
                    rw [← HQD.out, h, Nat.mul_comm] at h1
                    exact hle h1
                  omega
                obtain ⟨hd3, hd4⟩ := hd1
                have ed : (d : Int) - 1 = ((d - 1 : Nat) : Int) := by omega
                clear hle
                go_wp2_with fail
                go_roundg (d - 1)
                case measure => omega
                case rel => exact ⟨d - 1, rfl, rfl, rfl, hd3, by omega, hs10⟩
    · obtain rfl : k = 0 := by omega
      obtain ⟨hv, hm⟩ := HR.out.1.done HA.out
      have HM := Lib.hid hm
      have HV := Lib.hid hv
      have HLB := Lib.hid HR.out.1.1
      clear hv hm
      go_wp2_with fail
      refine (refTrim_any p1 xs.length c1 L _ hoL.rd hL.out.symm (by rw [hL.out]; exact hL.out ▸ hoL.le_cap) HLB.out (by rw [hL.out]; omega)).mono ?_
      rintro e w3 ⟨rfl, rfl⟩
      rw [HV.out]
      go_wp2_with fail
      go_ret2
      have ht := take_dig_len B16_two L HLB.out
      have ho3 := hoL.take (dig B16 (val B16 L)).length
      rw [ht, HV.out] at ho3
      rw [← HM.out]
      exact ⟨p1, _, pr, _, rfl, ho3.rd, Nat.le_refl _, own_blk ho3, hrr, hrc, fun h => Nat.le_trans hsz1 (hrb h), hbL⟩

theorem refInto_all (p q : Option Addr) (n m c e0 : Nat) (a b : Nat) (w : World) (hp : Rd w .i64 p (dig B16 a)) (hq : Rd w .i64 q (dig B16 b)) (hn : n = (dig B16 a).length) (hm : m = (dig B16 b).length)
    (hl : (dig B16 a).length ≤ 100000000) (hl2 : (dig B16 b).length ≤ 100000000) (hb : 0 < b) :
    Calls Tryd.prog 121 #[.slice p n c, .slice q m e0] w (GivesR2 w .i64 (dig B16 (a / b)) (dig B16 (a % b))) := by
  by_cases h1 : (dig B16 b).length = 1
  · obtain ⟨h2, h3⟩ := dig_of_len_one B16_two h1
    rw [h1] at hm
    rw [dig_small B16_two h2 h3] at hq
    exact refInto_one p q n m c e0 a b w hp hq hn hm (by omega) h2 h3
  · have h0 : (dig B16 b).length ≠ 0 := by
      have := dig_len_zero B16_two b
      omega
    exact refInto_more p q n m c e0 a b ((dig B16 b).length - 2) w hp hq hn hm hl hl2 (by omega)

end Go.Proofs.YtcipdimogodndaaDoor

namespace Go.Proofs.YtcipdimogodndaaDoor
open Go.RowKit Go.Slip

instance decDv : DecidableEq Dv := fun a b => decidable_of_iff (a.neg = b.neg ∧ a.m = b.m ∧ a.e = b.e) ⟨fun h => Dv.ext' h.1 h.2.1 h.2.2, fun h => by subst h; exact ⟨rfl, rfl, rfl⟩⟩

end Go.Proofs.YtcipdimogodndaaDoor

namespace Go.Proofs.YtcipdimogodndaaDoor
open Go.RowKit Go.Slip

structure InF (w : World) (base : Nat) (a : Rw) : Prop where
  rd : Rd w .i64 a.p (dig B16 a.m)
  cap : (dig B16 a.m).length ≤ a.c
  len : (dig B16 a.m).length ≤ 1000000
  lo : -1000000 ≤ a.e
  hi : a.e ≤ 1000000
  at_ : 0 < (dig B16 a.m).length → base ≤ blk a.p

theorem InF.past {w w' : World} {base : Nat} {a : Rw} (h : InF w base a) (hb : Below w.heap.size w w') : InF w' base a := ⟨h.rd.past hb, h.cap, h.len, h.lo, h.hi, h.at_⟩
theorem InF.drew {w : World} {base : Nat} {a : Rw} (h : InF w base a) : InF w.drew base a := ⟨h.rd.drew, h.cap, h.len, h.lo, h.hi, h.at_⟩
theorem InF.mono {w : World} {base base' : Nat} {a : Rw} (h : InF w base a) (hb : base' ≤ base) : InF w base' a := ⟨h.rd, h.cap, h.len, h.lo, h.hi, fun k => Nat.le_trans hb (h.at_ k)⟩
theorem InF.only {w w' : World} {base k : Nat} {a : Rw} (h : InF w base a) (hb : Only k w w') (hne : 0 < (dig B16 a.m).length → blk a.p ≠ k) : InF w' base a := ⟨h.rd.only hb hne, h.cap, h.len, h.lo, h.hi, h.at_⟩
theorem InF.lt {w : World} {base : Nat} {a : Rw} (h : InF w base a) : 0 < (dig B16 a.m).length → blk a.p < w.heap.size := fun k => h.rd.lt k

end Go.Proofs.YtcipdimogodndaaDoor

namespace Go.Proofs.YtcipdimogodndaaDoor
open Go.RowKit Go.Slip

def GRf (w : World) (xs : List Nat) (en : Ending) (w' : World) : Prop :=
  ∃ p c, en = .returned (.slice p xs.length c) ∧ Rf w' w.heap.size p c xs ∧ Below w.heap.size w w'
theorem GivesR.grf {w w' : World} {xs : List Nat} {en : Ending} (h : GivesR w .i64 xs en w') : GRf w xs en w' := by
  obtain ⟨p, c, h1, h2, h3, h4, h5⟩ := h
  exact ⟨p, c, h1, rf_ofR h2 h3 h4, h5⟩
def GNf (w : World) (base : Nat) (d : Dv) (en : Ending) (w' : World) : Prop :=
  ∃ p c, en = .returned (.agg #[.bool d.neg, .slice p (dig B16 d.m).length c, .int .i64 d.e]) ∧ Rf w' base p c (dig B16 d.m) ∧ Below w.heap.size w w'

theorem rfrom (N : Int) (n : Nat) (h : N = n) (hn : n ≤ 9223372036854775807) (w : World) : Calls Tryd.prog 80 #[.int .i64 N] w (GRf w (dig B16 n)) := by
  subst h; exact (refFrom_any n w hn).mono fun _ _ => GivesR.grf
theorem rpow2 (N : Int) (n : Nat) (h : N = n) (hn : n ≤ 1000000000) (w : World) : Calls Tryd.prog 62 #[.int .i64 N] w (GRf w (dig B16 (2 ^ n))) := by
  subst h; exact (refPow2_any n w hn).mono fun _ _ => GivesR.grf

theorem rplus (p q : Option Addr) (n m c d : Nat) (a b x : Nat) (w : World) (hp : Rd w .i64 p (dig B16 a)) (hq : Rd w .i64 q (dig B16 b)) (hn : n = (dig B16 a).length) (hm : m = (dig B16 b).length)
    (hl : (dig B16 a).length ≤ 100000000) (hl2 : (dig B16 b).length ≤ 100000000) (h : a + b = x) :
    Calls Tryd.prog 65 #[.slice p n c, .slice q m d] w (GRf w (dig B16 x)) := by
  subst h; exact (refPlus_any p q n m c d a b w hp hq hn hm (by omega)).mono fun _ _ => GivesR.grf
theorem rtimes (p q : Option Addr) (n m c d : Nat) (a b x : Nat) (w : World) (hp : Rd w .i64 p (dig B16 a)) (hq : Rd w .i64 q (dig B16 b)) (hn : n = (dig B16 a).length) (hm : m = (dig B16 b).length)
    (hl : (dig B16 a).length ≤ 100000000) (hl2 : (dig B16 b).length ≤ 100000000) (h : a * b = x) :
    Calls Tryd.prog 110 #[.slice p n c, .slice q m d] w (GRf w (dig B16 x)) := by
  subst h; exact (refTimes_any p q n m c d a b w hp hq hn hm (by omega)).mono fun _ _ => GivesR.grf
theorem rless (p q : Option Addr) (n m c d : Nat) (a b x : Nat) (w : World) (hp : Rd w .i64 p (dig B16 a)) (hq : Rd w .i64 q (dig B16 b)) (hn : n = (dig B16 a).length) (hm : m = (dig B16 b).length)
    (hl : (dig B16 a).length ≤ 100000000) (hab : b ≤ a) (h : a - b = x) :
    Calls Tryd.prog 78 #[.slice p n c, .slice q m d] w (GRf w (dig B16 x)) := by
  subst h; exact (refLess_any p q n m c d a b w hp hq hn hm (by omega) hab).mono fun _ _ => GivesR.grf
theorem gnf_of {w w' : World} {d : Dv} {en : Ending} (h : GivesF w (fun _ => False) d en w') : GNf w w.heap.size d en w' := by
  obtain ⟨p, c, h1, h2, h3, h4, h5⟩ := h
  exact ⟨p, c, h1, rf_of h2 h3 h4, h5⟩
theorem rbared (g : Bool) (p : Option Addr) (n c : Nat) (e : Int) (m : Nat) (d : Dv) (w : World) (hp : Rd w .i64 p (dig B16 m)) (hn : n = (dig B16 m).length) (hl : (dig B16 m).length ≤ 1000000) (he : -1000000 ≤ e ∧ e ≤ 1000000) (h : bare ⟨g, m, e⟩ = d) :
    Calls Tryd.prog 48 #[.agg #[.bool g, .slice p n c, .int .i64 e]] w (GNf w w.heap.size d) := by
  subst h
  exact (refBared_any g p n c e m w hp hn (by omega) (by omega)).mono fun _ _ => gnf_of
end Go.Proofs.YtcipdimogodndaaDoor

namespace Go.Proofs.YtcipdimogodndaaDoor
open Go.RowKit Go.Slip

theorem refTwo_any (s e f d l g k : Int) (w : World) : Calls Tryd.prog 82 #[.int .i64 s, .int .i64 e, .int .i64 f, .int .i64 d, .int .i64 l, .int .i64 g, .int .i64 k] w
    fun en w' => en = .returned (.agg #[.int .i64 s, .int .i64 e, .int .i64 f, .int .i64 2, .int .i64 d, .int .i64 l, .int .i64 g, .bool (k == 1), .int .i64 k]) ∧ Below w.heap.size w w' := by
  have I := Inv.start w [] True.intro
  refine zstart [.v (.int .i64 s), .v (.int .i64 e), .v (.int .i64 f), .v (.int .i64 d), .v (.int .i64 l), .v (.int .i64 g), .v (.int .i64 k)] I Tryd.func82 ?_
  exact zret I fun Al W I => ⟨rfl, I.below⟩

set_option maxRecDepth 100000 in
theorem refFormat_ok (n : Int) (hn : IsFm n) (w : World) : Calls Tryd.prog 34 #[.int .i64 n] w
    fun e w' => e = .returned (.tuple #[.agg #[.int .i64 (((fmt n).size : Nat) : Int), .int .i64 (((fmt n).E : Nat) : Int), .int .i64 (((fmt n).F : Nat) : Int), .int .i64 (fmt n).g.rad, .int .i64 (fmt n).g.digs, .int .i64 (fmt n).g.lo, .int .i64 (fmt n).g.hi, .bool (fmt n).g.grad, .int .i64 (((fmt n).fam : Nat) : Int)], .bool true]) ∧ Below w.heap.size w w' := by
  rcases fm_cases hn with rfl | rfl | rfl | rfl | rfl | rfl | rfl | rfl
  · skip
    have I := Inv.start w [] True.intro
    refine zstart [.v (.int .i64 1)] I Tryd.func34 ?_
    refine zg I (fun Al W I => refTwo_any 4 8 23 24 (-149) 104 1 W) fun Al V Iv hz hB K k => ?_
    rintro _ W ⟨rfl, hb⟩
    refine ⟨_, rfl, k _ _ hb fun I => ?_⟩
    clear k K
    exact zret I (v := fun Al => .tuple #[.agg #[.int .i64 4, .int .i64 8, .int .i64 23, .int .i64 2, .int .i64 24, .int .i64 (-149), .int .i64 104, .bool true, .int .i64 1], .bool true]) fun Al W I => ⟨by kernel_rfl, I.below⟩
  · skip
    have I := Inv.start w [] True.intro
    refine zstart [.v (.int .i64 2)] I Tryd.func34 ?_
    refine zg I (fun Al W I => refTwo_any 8 11 52 53 (-1074) 971 1 W) fun Al V Iv hz hB K k => ?_
    rintro _ W ⟨rfl, hb⟩
    refine ⟨_, rfl, k _ _ hb fun I => ?_⟩
    clear k K
    exact zret I (v := fun Al => .tuple #[.agg #[.int .i64 8, .int .i64 11, .int .i64 52, .int .i64 2, .int .i64 53, .int .i64 (-1074), .int .i64 971, .bool true, .int .i64 1], .bool true]) fun Al W I => ⟨by kernel_rfl, I.below⟩
  · skip
    have I := Inv.start w [] True.intro
    refine zstart [.v (.int .i64 3)] I Tryd.func34 ?_
    refine zg I (fun Al W I => refTwo_any 10 15 64 64 (-16445) 16320 1 W) fun Al V Iv hz hB K k => ?_
    rintro _ W ⟨rfl, hb⟩
    refine ⟨_, rfl, k _ _ hb fun I => ?_⟩
    clear k K
    exact zret I (v := fun Al => .tuple #[.agg #[.int .i64 10, .int .i64 15, .int .i64 64, .int .i64 2, .int .i64 64, .int .i64 (-16445), .int .i64 16320, .bool true, .int .i64 1], .bool true]) fun Al W I => ⟨by kernel_rfl, I.below⟩
  · skip
    have I := Inv.start w [] True.intro
    refine zstart [.v (.int .i64 4)] I Tryd.func34 ?_
    exact zret I (v := fun Al => .tuple #[.agg #[.int .i64 4, .int .i64 7, .int .i64 24, .int .i64 16, .int .i64 6, .int .i64 (-70), .int .i64 57, .bool false, .int .i64 2], .bool true]) fun Al W I => ⟨by kernel_rfl, I.below⟩
  · skip
    have I := Inv.start w [] True.intro
    refine zstart [.v (.int .i64 5)] I Tryd.func34 ?_
    exact zret I (v := fun Al => .tuple #[.agg #[.int .i64 8, .int .i64 7, .int .i64 56, .int .i64 16, .int .i64 14, .int .i64 (-78), .int .i64 49, .bool false, .int .i64 2], .bool true]) fun Al W I => ⟨by kernel_rfl, I.below⟩
  · skip
    have I := Inv.start w [] True.intro
    refine zstart [.v (.int .i64 6)] I Tryd.func34 ?_
    refine zg I (fun Al W I => refTwo_any 4 8 23 24 (-151) 103 3 W) fun Al V Iv hz hB K k => ?_
    rintro _ W ⟨rfl, hb⟩
    refine ⟨_, rfl, k _ _ hb fun I => ?_⟩
    clear k K
    exact zret I (v := fun Al => .tuple #[.agg #[.int .i64 4, .int .i64 8, .int .i64 23, .int .i64 2, .int .i64 24, .int .i64 (-151), .int .i64 103, .bool false, .int .i64 3], .bool true]) fun Al W I => ⟨by kernel_rfl, I.below⟩
  · skip
    have I := Inv.start w [] True.intro
    refine zstart [.v (.int .i64 7)] I Tryd.func34 ?_
    refine zg I (fun Al W I => refTwo_any 8 8 55 56 (-183) 71 3 W) fun Al V Iv hz hB K k => ?_
    rintro _ W ⟨rfl, hb⟩
    refine ⟨_, rfl, k _ _ hb fun I => ?_⟩
    clear k K
    exact zret I (v := fun Al => .tuple #[.agg #[.int .i64 8, .int .i64 8, .int .i64 55, .int .i64 2, .int .i64 56, .int .i64 (-183), .int .i64 71, .bool false, .int .i64 3], .bool true]) fun Al W I => ⟨by kernel_rfl, I.below⟩
  · skip
    have I := Inv.start w [] True.intro
    refine zstart [.v (.int .i64 8)] I Tryd.func34 ?_
    refine zg I (fun Al W I => refTwo_any 8 11 52 53 (-1076) 970 3 W) fun Al V Iv hz hB K k => ?_
    rintro _ W ⟨rfl, hb⟩
    refine ⟨_, rfl, k _ _ hb fun I => ?_⟩
    clear k K
    exact zret I (v := fun Al => .tuple #[.agg #[.int .i64 8, .int .i64 11, .int .i64 52, .int .i64 2, .int .i64 53, .int .i64 (-1076), .int .i64 970, .bool false, .int .i64 3], .bool true]) fun Al W I => ⟨by kernel_rfl, I.below⟩
set_option maxRecDepth 100000 in
theorem refFormat_not (n : Int) (hn : ¬ IsFm n) (w : World) : Calls Tryd.prog 34 #[.int .i64 n] w
    fun e w' => e = .returned (.tuple #[.agg #[.int .i64 (((fmt n).size : Nat) : Int), .int .i64 (((fmt n).E : Nat) : Int), .int .i64 (((fmt n).F : Nat) : Int), .int .i64 (fmt n).g.rad, .int .i64 (fmt n).g.digs, .int .i64 (fmt n).g.lo, .int .i64 (fmt n).g.hi, .bool (fmt n).g.grad, .int .i64 (((fmt n).fam : Nat) : Int)], .bool false]) ∧ Below w.heap.size w w' := by
  rw [fmt_not hn]
  unfold IsFm at hn
  have I := Inv.start w [] True.intro
  refine zstart [.v (.int .i64 n)] I Tryd.func34 ?_
  refine zb I 7 (n == 1) (false) (beq_eq_false_iff_ne.2 (by omega)) fun Al W I => ?_
  refine zb I 11 (n == 2) (false) (beq_eq_false_iff_ne.2 (by omega)) fun Al W I => ?_
  refine zb I 15 (n == 3) (false) (beq_eq_false_iff_ne.2 (by omega)) fun Al W I => ?_
  refine zb I 19 (n == 4) (false) (beq_eq_false_iff_ne.2 (by omega)) fun Al W I => ?_
  refine zb I 23 (n == 5) (false) (beq_eq_false_iff_ne.2 (by omega)) fun Al W I => ?_
  refine zb I 27 (n == 6) (false) (beq_eq_false_iff_ne.2 (by omega)) fun Al W I => ?_
  refine zb I 31 (n == 7) (false) (beq_eq_false_iff_ne.2 (by omega)) fun Al W I => ?_
  refine zb I 35 (n == 8) (false) (beq_eq_false_iff_ne.2 (by omega)) fun Al W I => ?_
  exact zret I (v := fun Al => .tuple #[.agg #[.int .i64 0, .int .i64 0, .int .i64 0, .int .i64 0, .int .i64 0, .int .i64 0, .int .i64 0, .bool false, .int .i64 0], .bool false]) fun Al W I => ⟨by kernel_rfl, I.below⟩
theorem refFormat_any (n : Int) (w : World) : Calls Tryd.prog 34 #[.int .i64 n] w
    fun e w' => e = .returned (.tuple #[.agg #[.int .i64 (((fmt n).size : Nat) : Int), .int .i64 (((fmt n).E : Nat) : Int), .int .i64 (((fmt n).F : Nat) : Int), .int .i64 (fmt n).g.rad, .int .i64 (fmt n).g.digs, .int .i64 (fmt n).g.lo, .int .i64 (fmt n).g.hi, .bool (fmt n).g.grad, .int .i64 (((fmt n).fam : Nat) : Int)], .bool (decide (IsFm n))]) ∧ Below w.heap.size w w' := by
  by_cases hn : IsFm n
  · rw [decide_eq_true hn]; exact refFormat_ok n hn w
  · rw [decide_eq_false hn]; exact refFormat_not n hn w

theorem refOpen_any (n : Int) (s : ByteArray) (w : World) : Calls Tryd.prog 24 #[.int .i64 n, .string s] w
    fun e w' => e = .returned (.int .i64 (errPat n s)) ∧ Below w.heap.size w w' := by
  by_cases hn : IsFm n
  · have HF := fun W => Lib.hid (refFormat_ok n hn W)
    by_cases hs : s.size = (fmt n).size
    · rw [errPat_zero.2 ⟨hn, hs⟩]
      generalize fmt n = f at *
      have I := Inv.start w [] True.intro
      refine zstart [.v (.int .i64 n), .v (.string s)] I Tryd.func24 ?_
      refine zg I (fun Al W I => (HF W).out) fun Al V Iv hz hB K k => ?_
      rintro _ W ⟨rfl, hb⟩
      refine ⟨_, rfl, k _ _ hb fun I => ?_⟩
      clear k K
      refine zb I 18 (((s.size : Nat) : Int) != ((f.size : Nat) : Int)) (false) (by simp [hs]) fun Al W I => ?_
      exact zret I fun Al W I => ⟨rfl, I.below⟩
    · rw [show errPat n s = 1 by unfold errPat; rw [if_pos hn, if_neg hs]]
      generalize fmt n = f at *
      have I := Inv.start w [] True.intro
      refine zstart [.v (.int .i64 n), .v (.string s)] I Tryd.func24 ?_
      refine zg I (fun Al W I => (HF W).out) fun Al V Iv hz hB K k => ?_
      rintro _ W ⟨rfl, hb⟩
      refine ⟨_, rfl, k _ _ hb fun I => ?_⟩
      clear k K
      refine zb I 18 (((s.size : Nat) : Int) != ((f.size : Nat) : Int)) (true) (bne_iff_ne.2 (fun h => hs (by omega))) fun Al W I => ?_
      exact zret I fun Al W I => ⟨rfl, I.below⟩
  · have HF := fun W => Lib.hid (refFormat_not n hn W)
    rw [show errPat n s = 6 by unfold errPat; rw [if_neg hn]]
    generalize fmt n = f at *
    have I := Inv.start w [] True.intro
    refine zstart [.v (.int .i64 n), .v (.string s)] I Tryd.func24 ?_
    refine zg I (fun Al W I => (HF W).out) fun Al V Iv hz hB K k => ?_
    rintro _ W ⟨rfl, hb⟩
    refine ⟨_, rfl, k _ _ hb fun I => ?_⟩
    clear k K
    exact zret I fun Al W I => ⟨rfl, I.below⟩

theorem ext_is {n : Int} (h : IsFm n) : (fmt n).ext = decide (n = 3) := by
  rcases fm_cases h with rfl | rfl | rfl | rfl | rfl | rfl | rfl | rfl <;> rfl

theorem refPlace_any (n : Int) (i : Nat) (w : World) (hn : IsFm n) (hi : i < (fmt n).size) : Calls Tryd.prog 109 #[.int .i64 n, .int .i64 (i : Int)] w
    fun e w' => e = .returned (.int .i64 ((plc (fmt n).ord (fmt n).size i : Nat) : Int)) ∧ Below w.heap.size w w' := by
  have HF := fun W => Lib.hid (refFormat_ok n hn W)
  have G := good_fm hn
  have z1 := G.sz
  have he := ext_is hn
  generalize fmt n = f at *
  by_cases h3 : n = 3
  · rw [decide_eq_true h3] at he
    have hp : ((plc f.ord f.size i : Nat) : Int) = (f.size : Int) - 1 - i := by unfold plc Fm.ord; rw [he, if_pos rfl, if_pos rfl]; omega
    rw [hp]
    have I := Inv.start w [] True.intro
    refine zstart [.v (.int .i64 n), .v (.int .i64 ((i : Nat) : Int))] I Tryd.func109 ?_
    refine zg I (fun Al W I => (HF W).out) fun Al V Iv hz hB K k => ?_
    rintro _ W ⟨rfl, hb⟩
    refine ⟨_, rfl, k _ _ hb fun I => ?_⟩
    clear k K
    refine zb I 14 (n == 3) (true) (beq_iff_eq.2 h3) fun Al W I => ?_
    refine zi I 17 .i64 (((f.size : Nat) : Int) - 1) (((f.size : Nat) : Int) - 1) (IntWalk.i64_in _ (by omega)) fun Al W I => ?_
    refine zi I 19 .i64 ((((f.size : Nat) : Int) - 1) - ((i : Nat) : Int)) ((((f.size : Nat) : Int) - 1) - ((i : Nat) : Int)) (IntWalk.i64_in _ (by omega)) fun Al W I => ?_
    exact zret I fun Al W I => ⟨rfl, I.below⟩
  · rw [decide_eq_false h3] at he
    by_cases hf : f.fam = 3
    · have hp : ((plc f.ord f.size i : Nat) : Int) = (i : Int) + 1 - 2 * ((i % 2 : Nat) : Int) := by unfold plc Fm.ord; rw [he, if_neg (show ¬ (false = true) by simp), if_pos hf, if_neg (by omega), if_pos rfl]; omega
      rw [hp]
      have I := Inv.start w [] True.intro
      refine zstart [.v (.int .i64 n), .v (.int .i64 ((i : Nat) : Int))] I Tryd.func109 ?_
      refine zg I (fun Al W I => (HF W).out) fun Al V Iv hz hB K k => ?_
      rintro _ W ⟨rfl, hb⟩
      refine ⟨_, rfl, k _ _ hb fun I => ?_⟩
      clear k K
      refine zb I 14 (n == 3) (false) (beq_eq_false_iff_ne.2 h3) fun Al W I => ?_
      refine zb I 23 (((f.fam : Nat) : Int) == 3) (true) (beq_iff_eq.2 (by omega)) fun Al W I => ?_
      refine zi I 25 .i64 (((i : Nat) : Int) + 1) (((i : Nat) : Int) + 1) (IntWalk.i64_in _ (by omega)) fun Al W I => ?_
      refine zbin I 27 _ (fun _ _ _ _ _ => bin_rem .i64 ((i : Nat) : Int) (2) (((i % 2 : Nat) : Int)) ((show (2 : Int) ≠ 0 by omega)) ((by exact (Int.ofNat_tmod i 2).symm))) fun Al W I => ?_
      refine zi I 28 .i64 ((2 : Int) * ((i % 2 : Nat) : Int)) ((2 : Int) * ((i % 2 : Nat) : Int)) (IntWalk.i64_in _ (by omega)) fun Al W I => ?_
      refine zi I 29 .i64 ((((i : Nat) : Int) + 1) - ((2 : Int) * ((i % 2 : Nat) : Int))) ((((i : Nat) : Int) + 1) - ((2 : Int) * ((i % 2 : Nat) : Int))) (IntWalk.i64_in _ (by omega)) fun Al W I => ?_
      exact zret I fun Al W I => ⟨rfl, I.below⟩
    · have hp : ((plc f.ord f.size i : Nat) : Int) = (i : Int) := by unfold plc Fm.ord; rw [he, if_neg (show ¬ (false = true) by simp), if_neg hf, if_neg (by omega), if_neg (by omega)]
      rw [hp]
      have I := Inv.start w [] True.intro
      refine zstart [.v (.int .i64 n), .v (.int .i64 ((i : Nat) : Int))] I Tryd.func109 ?_
      refine zg I (fun Al W I => (HF W).out) fun Al V Iv hz hB K k => ?_
      rintro _ W ⟨rfl, hb⟩
      refine ⟨_, rfl, k _ _ hb fun I => ?_⟩
      clear k K
      refine zb I 14 (n == 3) (false) (beq_eq_false_iff_ne.2 h3) fun Al W I => ?_
      refine zb I 23 (((f.fam : Nat) : Int) == 3) (false) (beq_eq_false_iff_ne.2 (by omega)) fun Al W I => ?_
      exact zret I fun Al W I => ⟨rfl, I.below⟩
end Go.Proofs.YtcipdimogodndaaDoor

namespace Go.Slip
theorem byteBits_succ (c : Nat) {j : Nat} (h : j < 8) : (byteBits c).take (j + 1) = (byteBits c).take j ++ [c / (128 / 2 ^ j) % 2 == 1] := by
  match j, h with
  | 0, _ => rfl
  | 1, _ => rfl
  | 2, _ => rfl
  | 3, _ => rfl
  | 4, _ => rfl
  | 5, _ => rfl
  | 6, _ => rfl
  | 7, _ => rfl
theorem pow128 {k j : Nat} (h : k = 128 / 2 ^ j) (hj : j ≤ 8) : k = 0 ↔ j = 8 := by
  subst h
  match j, hj with
  | 0, _ => decide
  | 1, _ => decide
  | 2, _ => decide
  | 3, _ => decide
  | 4, _ => decide
  | 5, _ => decide
  | 6, _ => decide
  | 7, _ => decide
  | 8, _ => decide
theorem le128 {k j : Nat} (h : k = 128 / 2 ^ j) : k ≤ 128 := by rw [h]; exact Nat.div_le_self _ _
theorem bitsB_append : ∀ (x y : List Nat), bitsB (x ++ y) = bitsB x ++ bitsB y
  | [], _ => rfl
  | c :: r, y => by show byteBits c ++ bitsB (r ++ y) = _; rw [bitsB_append r y]; simp [bitsB]
theorem bitsB_succ (L : List Nat) {i : Nat} (h : i < L.length) : bitsB (L.take (i + 1)) = bitsB (L.take i) ++ (byteBits (dg L i)).take 8 := by
  rw [← List.take_append_getElem h, bitsB_append, dg_of_lt h]
  congr 1
end Go.Slip
namespace Go.Proofs.YtcipdimogodndaaDoor
open Go.RowKit Go.Slip

def GBs (w : World) (bs : List Bool) (en : Ending) (w' : World) : Prop :=
  ∃ p c, en = .returned (.slice p bs.length c) ∧ OwnV w' w.heap.size 4 p c (bs.map Value.bool) ∧ Below w.heap.size w w'

set_option maxRecDepth 100000 in
theorem refBitsOf_any (n : Int) (s : ByteArray) (w : World) (hn : IsFm n) (hs : s.size = (fmt n).size) :
    Calls Tryd.prog 60 #[.int .i64 n, .string s] w (GBs w (bitsB (ordL (fmt n).ord (bytesOf s)))) := by
  have G := good_fm hn
  have z1 := G.sz
  have HP := fun i W h => Lib.hid (refPlace_any n i W hn h)
  generalize fmt n = f at *
  have hl0 : (bytesOf s).length = f.size := by rw [bytesOf_length, hs]
  have hlL : (ordL f.ord (bytesOf s)).length = f.size := by rw [ordL_len, hl0]
  have hbL := ordL_bytes (o := f.ord) (xs := bytesOf s) (fun _ => by omega) (bytesOf_lt s)
  have hdg : ∀ i, i < f.size → dg (bytesOf s) (plc f.ord f.size i) = dg (ordL f.ord (bytesOf s)) i := fun i hi => by rw [dg_ordL (by omega), hl0]
  have hpl : ∀ i, i < f.size → plc f.ord f.size i < s.size := fun i hi => by rw [hs]; exact plc_lt (fun _ => by omega) hi
  generalize ordL f.ord (bytesOf s) = L at *
  have hsucc := fun i (h : i < f.size) => bitsB_succ L (i := i) (by omega)
  have hdb := dg_bd hbL
  have hlen : ∀ i, i ≤ f.size → (bitsB (L.take i)).length = 8 * i := fun i hi => by rw [bitsB_len, List.length_take]; omega
  have hall : L.take f.size = L := List.take_of_length_le (by omega)
  clear hbL hl0
  refine calls_of_wp Tryd.func60 rfl ?_
  refine sx_frame (a' := ⟨((.int .i64 n) :: (.string s) :: us 32 []).toArray, []⟩) (by kernel_rfl) ?_
  refine yq ?_
  refine yq ?_
  refine wp_seq ?_
  refine yq ?_
  refine wp_block ?_
  refine sx_frame (a' := ⟨((.int .i64 n) :: (.string s) :: us 2 ((.slice none 0 0) :: (.slice none 0 0) :: (.int .i64 0) :: us 27 [])).toArray, []⟩) (by kernel_rfl) ?_
  refine sx_loop2 (fun (gk : Nat) U0 a' w' => ∃ (i : Nat) (p5 : Option Addr) (c5 : Nat) (n5 : Nat), a' = ⟨((.int .i64 n) :: (.string s) :: us 2 ((.slice none 0 0) :: (.slice p5 n5 c5) :: (.int .i64 ((i : Nat) : Int)) :: uvs U0 7 26 (undef :: []))).toArray, []⟩ ∧ (OwnV w' w.heap.size 4 p5 c5 ((bitsB (L.take i)).map Value.bool)) ∧ Below w.heap.size w w' ∧ (n5 = 8 * i) ∧ (gk + i = f.size)) f.size ?_ (fun Gx hGx => ?_)
  · skip
    exact ⟨0, none, 0, 0, by kernel_rfl, (by rw [List.take_zero]; exact OwnV.nil _ _ _), Below.refl _ _, (by omega), (by omega)⟩
  rintro gk0 U0 _ V1 ⟨i, p5, c5, n5, rfl, o5, hbV1, hn5, hgk⟩
  refine hGx _ _ _ ?_
  clear hGx Gx
  have hzV1 := hbV1.size
  refine wp_seq ?_
  refine ye ?_
  rcases Bool.eq_false_or_eq_true (decide (((i : Nat) : Int) < ((s.size : Nat) : Int))) with f12 | f12
  · skip
    refine yb 3 rfl 12 (decide (((i : Nat) : Int) < ((s.size : Nat) : Int))) (true) (f12) ?_
    refine yzt 0 ?_
    refine yT ?_
    refine wp_skip ?_
    refine sx_then ?_
    refine wp_seq ?_
    refine wp_block ?_
    refine ye ?_
    refine yc 3 rfl 18 ((HP i V1 (by have := of_decide_eq_true f12; omega)).out) (fun Gx hGx => ?_)
    rintro eV2 V2 ⟨rfl, hbV2⟩
    have hzV2 := hbV2.size
    refine ⟨_, rfl, hGx _ _ ?_⟩
    clear hGx Gx
    refine yv 0 rfl 19 (.int .u8 ((dg L i : Nat) : Int)) ?_ (exec_six uStr (m := plc f.ord f.size i) (by kernel_rfl) (by kernel_rfl) (hpl i (by have := of_decide_eq_true f12; omega)) (by rw [hdg i (by have := of_decide_eq_true f12; omega)]))
    refine ya 0 rfl 20 .i64 ((dg L i : Nat) : Int) (((dg L i : Nat) : Int)) ((IntWalk.i64_in _ (by have := hdb i; omega))) ?_
    refine yzt 1 ?_
    refine yq ?_
    refine wp_block ?_
    refine sx_frame (a' := ⟨((.int .i64 n) :: (.string s) :: us 2 ((.slice none 0 0) :: (.slice p5 n5 c5) :: (.int .i64 ((i : Nat) : Int)) :: (.int .i64 ((dg L i : Nat) : Int)) :: (.int .i64 128) :: (.int .i64 ((i : Nat) : Int)) :: (.string s) :: (.int .i64 ((s.size : Nat) : Int)) :: (.bool true) :: uvs U0 13 2 ((.string s) :: (.int .i64 n) :: (.int .i64 ((i : Nat) : Int)) :: (.int .i64 ((plc f.ord f.size i : Nat) : Int)) :: (.int .u8 ((dg L i : Nat) : Int)) :: (.int .i64 ((dg L i : Nat) : Int)) :: uvs U0 21 12 (undef :: [])))).toArray, []⟩) (by kernel_rfl) ?_
    refine sx_loop2 (fun (gk : Nat) U1 a' w' => ∃ (j : Nat) (k : Nat) (p7 : Option Addr) (c7 : Nat) (n7 : Nat), a' = ⟨((.int .i64 n) :: (.string s) :: us 2 ((.slice none 0 0) :: (.slice p7 n7 c7) :: (.int .i64 ((i : Nat) : Int)) :: (.int .i64 ((dg L i : Nat) : Int)) :: (.int .i64 ((k : Nat) : Int)) :: (.int .i64 ((i : Nat) : Int)) :: (.string s) :: (.int .i64 ((s.size : Nat) : Int)) :: (.bool true) :: uvs U0 13 2 ((.string s) :: (.int .i64 n) :: (.int .i64 ((i : Nat) : Int)) :: (.int .i64 ((plc f.ord f.size i : Nat) : Int)) :: (.int .u8 ((dg L i : Nat) : Int)) :: (.int .i64 ((dg L i : Nat) : Int)) :: uvs U1 21 12 (undef :: [])))).toArray, []⟩ ∧ (OwnV w' w.heap.size 4 p7 c7 ((bitsB (L.take i) ++ (byteBits (dg L i)).take j).map Value.bool)) ∧ Below w.heap.size w w' ∧ (n7 = 8 * i + j) ∧ (k = 128 / 2 ^ j) ∧ (gk + j = 8)) 8 ?_ (fun Gx hGx => ?_)
    · skip
      replace o5 := (o5.past hbV2)
      exact ⟨0, 128, p5, c5, n5, by kernel_rfl, (by rw [List.take_zero, List.append_nil]; exact o5), (bthru hbV1 hbV2), hn5, (by decide), (by omega)⟩
    rintro gk1 U1 _ V3 ⟨j, k, p7, c7, n7, rfl, o7, hbV3, hn7, hk, hgk1⟩
    refine hGx _ _ _ ?_
    clear hGx Gx
    have hzV3 := hbV3.size
    refine wp_seq ?_
    have hi8 : (bitsB (L.take i)).length = 8 * i := hlen i (by have := of_decide_eq_true f12; omega)
    have hk0 : k = 0 ↔ j = 8 := pow128 hk (by omega)
    refine ye ?_
    rcases Bool.eq_false_or_eq_true (decide (((k : Nat) : Int) > 0)) with f22 | f22
    · skip
      refine yb 1 rfl 22 (decide (((k : Nat) : Int) > 0)) (true) (f22) ?_
      refine yzt 0 ?_
      refine yT ?_
      refine wp_skip ?_
      refine sx_then ?_
      refine wp_seq ?_
      refine wp_block ?_
      refine sx_region ?_
      refine yv 3 rfl 28 (.int .i64 ((dg L i / k : Nat) : Int)) ?_ (exec_quo (X := (((dg L i : Nat) : Int))) (Y := ((k : Nat) : Int)) ((dg L i / k : Nat) : Int) (by kernel_rfl) (by kernel_rfl) ((by have := of_decide_eq_true f22; omega)) ((by rw [show ((dg L i : Nat) : Int).tdiv ((k : Nat) : Int) = ((dg L i / k : Nat) : Int) from (Int.ofNat_tdiv _ _).symm]; have h1 := hdb i; have h2 := Nat.div_le_self (dg L i) k; generalize dg L i / k = qq at *; exact IntWalk.i64_in _ (by omega))))
      refine yv 0 rfl 29 (.int .i64 ((dg L i / k % 2 : Nat) : Int)) ?_ (exec_rem (X := (((dg L i / k : Nat) : Int))) (Y := (2)) ((dg L i / k % 2 : Nat) : Int) (by kernel_rfl) (by kernel_rfl) ((show (2 : Int) ≠ 0 by omega)) ((by exact (Int.ofNat_tmod _ 2).symm)))
      refine yb 0 rfl 30 (((dg L i / k % 2 : Nat) : Int) == 1) ((dg L i / k % 2 == 1)) ((by exact nat_beq_one _)) ?_
      refine ywv 0 rfl 31 (.slice (some ⟨V3.heap.size, 0, none⟩) 1 1) #[.bool (dg L i / k % 2 == 1)] 4 (fun V4 hbV4 hzV4 b31 => ?_)
      replace o7 := (o7.past hbV4)
      refine sapv 32 tvBools w.heap.size p7 n7 c7 _ o7 (by simp [hi8, byteBits_len]; omega) (some ⟨V3.heap.size, 0, none⟩) 1 1 [Value.bool (dg L i / k % 2 == 1)] (rdv_lit b31) rfl rfl (by simp [hi8, byteBits_len]; omega) (by omega) (8 * i + (j + 1)) (by simp [hi8, byteBits_len]; have := of_decide_eq_true f22; omega) (fun p32 c32 V5 o32 hjV5 => ?_)
      have hbV5 : Below w.heap.size w V5 := (bthru hbV3 hbV4).trans (hjV5.mono (by omega))
      have hzV5 := hbV5.size
      refine yz 1 ?_
      refine sx_inblock ?_
      refine sx_then ?_
      refine sx_region ?_
      refine yv 1 rfl 24 (.int .i64 ((k / 2 : Nat) : Int)) ?_ (exec_quo (X := ((k : Nat) : Int)) (Y := (2)) ((k / 2 : Nat) : Int) (by kernel_rfl) (by kernel_rfl) ((show (2 : Int) ≠ 0 by omega)) ((by rw [show ((k : Nat) : Int).tdiv 2 = ((k / 2 : Nat) : Int) from (Int.ofNat_tdiv k 2).symm]; exact IntWalk.i64_in _ (by have := le128 hk; omega))))
      refine yz 1 ?_
      refine sx_then ?_
      refine ⟨gk1 - 1, (by have := of_decide_eq_true f22; omega), ?_⟩
      exact ⟨j + 1, k / 2, p32, c32, 8 * i + (j + 1), by kernel_rfl, (by rw [byteBits_succ _ (show j < 8 by have := of_decide_eq_true f22; omega), ← hk, ← List.append_assoc, List.map_append (l₁ := _ ++ _)]; exact o32), hbV5, rfl, (by rw [hk, Nat.div_div_eq_div_mul, Nat.pow_succ]), (by have := of_decide_eq_true f22; omega)⟩
    refine yb 1 rfl 22 (decide (((k : Nat) : Int) > 0)) (false) (f22) ?_
    refine yzt 0 ?_
    refine yF ?_
    refine wp_exit ?_
    repeat (with_reducible refine sx_thenexit ?_)
    refine sx_exit (id := 2) ?_
    refine sx_inblock ?_
    refine sx_then ?_
    refine sx_region ?_
    refine ya 1 rfl 14 .i64 (((i : Nat) : Int) + 1) (((i + 1 : Nat) : Int)) ((by rw [show (((i : Nat) : Int) + 1) = ((i + 1 : Nat) : Int) by omega]; exact IntWalk.i64_in _ (by have := of_decide_eq_true f12; omega))) ?_
    refine yz 1 ?_
    refine sx_then ?_
    refine ⟨gk0 - 1, (by have := of_decide_eq_true f12; omega), ?_⟩
    exact ⟨i + 1, p7, c7, n7, by kernel_rfl, (by rw [hsucc i (by have := of_decide_eq_true f12; omega), ← hk0.1 (by have := of_decide_eq_false f22; omega)]; exact o7), hbV3, (by have := hk0.1 (by have := of_decide_eq_false f22; omega); omega), (by have := of_decide_eq_true f12; omega)⟩
  refine yb 3 rfl 12 (decide (((i : Nat) : Int) < ((s.size : Nat) : Int))) (false) (f12) ?_
  refine yzt 0 ?_
  refine yF ?_
  refine wp_exit ?_
  repeat (with_reducible refine sx_thenexit ?_)
  refine sx_exit (id := 0) ?_
  refine sx_then ?_
  refine yq ?_
  refine wp_ret ?_
  repeat (first | with_reducible refine sx_thenret ?_ | with_reducible refine sx_blockret ?_)
  refine yret (.slice p5 n5 c5) (res1 Tryd.results60 rvt) ?_
  have hi : i = f.size := by have := of_decide_eq_false f12; omega
  have hL8 : (bitsB L).length = n5 := by rw [← hall, hlen _ (Nat.le_refl _)]; omega
  rw [hi, hall] at o5
  exact ⟨p5, c5, by rw [hL8], o5, hbV1⟩
end Go.Proofs.YtcipdimogodndaaDoor

namespace Go.Slip
theorem vb_take_succ' (bs : List Bool) {i : Nat} (h : i < bs.length) : vb (bs.take i) * 2 + (bs.getD i false).toNat = vb (bs.take (i + 1)) := by
  rw [vb_take_succ bs i h, Nat.mul_comm, List.getD_eq_getElem?_getD, List.getElem?_eq_getElem h]
  rfl
theorem map_getD (bs : List Bool) {i : Nat} (h : i < bs.length) : (bs.map Value.bool)[i]? = some (.bool (bs.getD i false)) := by
  rw [List.getElem?_map, List.getD_eq_getElem?_getD, List.getElem?_eq_getElem h]
  rfl
end Go.Slip
namespace Go.Proofs.YtcipdimogodndaaDoor
open Go.RowKit Go.Slip

theorem dig16_two : dig B16 2 = [2] := by rw [dig_pos B16_two (by omega), show 2 / B16 = 0 by unfold B16; omega, dig_zero, show 2 % B16 = 2 by unfold B16; omega]
theorem rf_two {w : World} {b : Nat} {t : TypeId} (h : Bt w b t #[.int .i64 2]) : Rf w b (some ⟨b, 0, none⟩) 1 (dig B16 2) := by rw [dig16_two]; exact rf_lit (k := 2) h
theorem len16_two : 1 = (dig B16 2).length := by rw [dig16_two]; rfl
theorem dig16_le_pow {x n k : Nat} (h : x < 2 ^ n) (hk : n ≤ 16 * k) : (dig B16 x).length ≤ k := by
  rw [dig_len_le B16_two]
  unfold B16
  rw [show (65536 : Nat) = 2 ^ 16 from rfl, ← Nat.pow_mul]
  exact Nat.lt_of_lt_of_le h (Nat.pow_le_pow_right (by omega) hk)

set_option maxRecDepth 100000 in
theorem refValue_any (bs : List Bool) (p : Option Addr) (n c : Nat) (w : World) (hp : RdV w p (bs.map Value.bool)) (hn : n = bs.length) (hl : bs.length ≤ 200) :
    Calls Tryd.prog 61 #[.slice p n c] w (GRf w (dig B16 (vb bs))) := by
  subst hn
  have hd : ∀ i, (dig B16 (vb (bs.take i))).length ≤ 100 := fun i => dig16_le_pow (n := 200) (Nat.lt_of_lt_of_le (vb_lt _) (Nat.pow_le_pow_right (by omega) (by rw [List.length_take]; omega))) (by omega)
  have hd2 : ∀ i, (dig B16 (vb (bs.take i) * 2)).length ≤ 101 := fun i => dig16_le_pow (n := 201) (by have h := vb_lt (bs.take i); have h2 : 2 ^ (bs.take i).length ≤ 2 ^ 200 := Nat.pow_le_pow_right (by omega) (by rw [List.length_take]; omega); rw [show 201 = 200 + 1 from rfl, Nat.pow_succ]; generalize 2 ^ 200 = T at *; omega) (by omega)
  have hsucc := fun i h => vb_take_succ' bs (i := i) h
  have hall : bs.take bs.length = bs := List.take_length
  have hget := fun i h => map_getD bs (i := i) h
  have hln : (bs.map Value.bool).length = bs.length := List.length_map ..
  refine calls_of_wp Tryd.func61 rfl ?_
  refine sx_frame (a' := ⟨((.slice p bs.length c) :: us 21 []).toArray, []⟩) (by kernel_rfl) ?_
  refine yq ?_
  refine yq ?_
  refine wp_seq ?_
  refine yq ?_
  refine wp_block ?_
  refine sx_frame (a' := ⟨((.slice p bs.length c) :: undef :: (.slice none 0 0) :: (.slice none 0 0) :: (.int .i64 0) :: us 17 []).toArray, []⟩) (by kernel_rfl) ?_
  refine sx_loop2 (fun (gk : Nat) U0 a' w' => ∃ (i : Nat) (p3 : Option Addr) (c3 : Nat) (n3 : Nat), a' = ⟨((.slice p bs.length c) :: undef :: (.slice none 0 0) :: (.slice p3 n3 c3) :: (.int .i64 ((i : Nat) : Int)) :: uvs U0 5 16 (undef :: [])).toArray, []⟩ ∧ (Rf w' w.heap.size p3 c3 (dig B16 (vb (bs.take i)))) ∧ Below w.heap.size w w' ∧ (n3 = (dig B16 (vb (bs.take i))).length) ∧ (gk + i = bs.length)) bs.length ?_ (fun Gx hGx => ?_)
  · skip
    exact ⟨0, none, 0, 0, by kernel_rfl, (by rw [List.take_zero, vb_nil, dig_zero]; exact rf_nil _ _ _), Below.refl _ _, (by rw [List.take_zero, vb_nil, dig_zero]; rfl), (by omega)⟩
  rintro gk0 U0 _ V1 ⟨i, p3, c3, n3, rfl, o3, hbV1, hn3, hgk⟩
  refine hGx _ _ _ ?_
  clear hGx Gx
  have hzV1 := hbV1.size
  have lo3 := fun h => o3.lt h
  refine wp_seq ?_
  refine ye ?_
  rcases Bool.eq_false_or_eq_true (decide (((i : Nat) : Int) < ((bs.length : Nat) : Int))) with f8 | f8
  · skip
    refine yb 3 rfl 8 (decide (((i : Nat) : Int) < ((bs.length : Nat) : Int))) (true) (f8) ?_
    refine yzt 0 ?_
    refine yT ?_
    refine wp_skip ?_
    refine sx_then ?_
    refine wp_seq ?_
    refine wp_block ?_
    refine ye ?_
    refine ywv 1 rfl 12 (.slice (some ⟨V1.heap.size, 0, none⟩) 1 1) #[.int .i64 2] 3 (fun V2 hbV2 hzV2 b12 => ?_)
    replace o3 := (o3.past hbV2)
    refine yc 0 rfl 13 (rtimes p3 (some ⟨V1.heap.size, 0, none⟩) n3 1 c3 1 (vb (bs.take i)) 2 (vb (bs.take i) * 2) V2 o3.rd (rf_two b12).rd hn3 len16_two (by have := hd i; omega) (by rw [dig16_two]; decide) rfl) (fun Gx hGx => ?_)
    rintro eV3 V3 ⟨p13, c13, rfl, o13, hbV3⟩
    have hzV3 := hbV3.size
    have lo13 := fun h => o13.lt h
    refine ⟨_, rfl, hGx _ _ ?_⟩
    clear hGx Gx
    refine yzt 1 ?_
    refine ye ?_
    replace hp := (hp.past (bthru (bthru hbV1 hbV2) hbV3))
    refine yv 2 rfl 16 (.pointer (some (at_ p i))) ?_ (exec_ixv (p := p) (n := bs.length) (c := c) (m := i) tvBools (by have h := hp.solid; rw [hln] at h; exact h) (by kernel_rfl) (by kernel_rfl) (by have := of_decide_eq_true f8; omega))
    rcases Bool.eq_false_or_eq_true (bs.getD i false) with f17 | f17
    · skip
      refine yv 0 rfl 17 (.bool true) ?_ ((show _ = Result.ok (Next.value (.bool (bs.getD i false))) _ from (exec_ldv hp ldBool (m := i) (by kernel_rfl) (hget i (by have := of_decide_eq_true f8; omega)))).trans (congrArg (fun z => Result.ok (Next.value (.bool z)) _) (show (bs.getD i false) = true from f17)))
      refine yzt 0 ?_
      refine yT ?_
      refine sx_region ?_
      refine ywv 1 rfl 19 (.slice (some ⟨V3.heap.size, 0, none⟩) 1 1) #[.int .i64 1] 3 (fun V4 hbV4 hzV4 b19 => ?_)
      replace o13 := (o13.past hbV4)
      refine yc 0 rfl 20 (rplus p13 (some ⟨V3.heap.size, 0, none⟩) _ 1 c13 1 (vb (bs.take i) * 2) 1 (vb (bs.take (i + 1))) V4 o13.rd (rf_one b19).rd rfl len16_one (by have := hd2 i; omega) (by rw [dig16_one]; decide) (by rw [← hsucc i (by have := of_decide_eq_true f8; omega), f17, Bool.toNat_true])) (fun Gx hGx => ?_)
      rintro eV5 V5 ⟨p20, c20, rfl, o20, hbV5⟩
      have hzV5 := hbV5.size
      have lo20 := fun h => o20.lt h
      refine ⟨_, rfl, hGx _ _ ?_⟩
      clear hGx Gx
      refine yz 1 ?_
      refine sx_inblock ?_
      refine sx_then ?_
      refine sx_region ?_
      refine ya 1 rfl 10 .i64 (((i : Nat) : Int) + 1) (((i + 1 : Nat) : Int)) ((by rw [show (((i : Nat) : Int) + 1) = ((i + 1 : Nat) : Int) by omega]; exact IntWalk.i64_in _ (by have := of_decide_eq_true f8; omega))) ?_
      refine yz 1 ?_
      refine sx_then ?_
      refine ⟨gk0 - 1, (by have := of_decide_eq_true f8; omega), ?_⟩
      exact ⟨i + 1, p20, c20, (dig B16 (vb (bs.take (i + 1)))).length, by kernel_rfl, o20.mono (by omega), (bthru (bthru (bthru (bthru hbV1 hbV2) hbV3) hbV4) hbV5), rfl, (by have := of_decide_eq_true f8; omega)⟩
    refine yv 0 rfl 17 (.bool false) ?_ ((show _ = Result.ok (Next.value (.bool (bs.getD i false))) _ from (exec_ldv hp ldBool (m := i) (by kernel_rfl) (hget i (by have := of_decide_eq_true f8; omega)))).trans (congrArg (fun z => Result.ok (Next.value (.bool z)) _) (show (bs.getD i false) = false from f17)))
    refine yzt 0 ?_
    refine yF ?_
    refine wp_skip ?_
    refine sx_inblock ?_
    refine sx_then ?_
    refine sx_region ?_
    refine ya 1 rfl 10 .i64 (((i : Nat) : Int) + 1) (((i + 1 : Nat) : Int)) ((by rw [show (((i : Nat) : Int) + 1) = ((i + 1 : Nat) : Int) by omega]; exact IntWalk.i64_in _ (by have := of_decide_eq_true f8; omega))) ?_
    refine yz 1 ?_
    refine sx_then ?_
    refine ⟨gk0 - 1, (by have := of_decide_eq_true f8; omega), ?_⟩
    exact ⟨i + 1, p13, c13, (dig B16 (vb (bs.take i) * 2)).length, by kernel_rfl, (by rw [← hsucc i (by have := of_decide_eq_true f8; omega), f17, Bool.toNat_false, Nat.add_zero]; exact o13.mono (by omega)), (bthru (bthru hbV1 hbV2) hbV3), (by rw [← hsucc i (by have := of_decide_eq_true f8; omega), f17, Bool.toNat_false, Nat.add_zero]), (by have := of_decide_eq_true f8; omega)⟩
  refine yb 3 rfl 8 (decide (((i : Nat) : Int) < ((bs.length : Nat) : Int))) (false) (f8) ?_
  refine yzt 0 ?_
  refine yF ?_
  refine wp_exit ?_
  repeat (with_reducible refine sx_thenexit ?_)
  refine sx_exit (id := 0) ?_
  refine sx_then ?_
  refine yq ?_
  refine wp_ret ?_
  repeat (first | with_reducible refine sx_thenret ?_ | with_reducible refine sx_blockret ?_)
  refine yret (.slice p3 n3 c3) (res1 Tryd.results61 rvt) ?_
  have hi : i = bs.length := by have := of_decide_eq_false f8; omega
  rw [hi, hall] at o3 hn3
  exact ⟨p3, c3, by rw [hn3], o3.mono (by omega), hbV1⟩

def GivesVr (w : World) (v : Vr) (en : Ending) (w' : World) : Prop :=
  ∃ p c, en = .returned (.agg #[.int .i64 ((v.cls : Nat) : Int), .bool v.neg, .bool v.x.neg, .slice p (dig B16 v.x.m).length c, .int .i64 v.x.e]) ∧ Rf w' w.heap.size p c (dig B16 v.x.m) ∧ Below w.heap.size w w'
theorem givesVr_none {w w' : World} {k : Nat} {n : Bool} {en : Ending} (h : en = .returned (.agg #[.int .i64 ((k : Nat) : Int), .bool n, .bool false, .slice none 0 0, .int .i64 0])) (hb : Below w.heap.size w w') : GivesVr w ⟨k, n, ⟨false, 0, 0⟩⟩ en w' := by
  refine ⟨none, 0, ?_, ?_, hb⟩
  · rw [h, dig_zero]; rfl
  · rw [dig_zero]; exact rf_nil _ _ _

set_option maxRecDepth 100000 in
theorem refNumber_any (f : Fm) (g : Bool) (bg bf x : Nat) (p : Option Addr) (c b0 : Nat) (pw : Int) (w : World) (hp : Rf w b0 p c (dig B16 x)) (hl : (dig B16 x).length ≤ 1000) (hpw : -100000 ≤ pw ∧ pw ≤ 100000)
    (Bg : Bt w bg 4 #[.bool g]) (Bf : Bt w bf 79 #[.int .i64 ((f.size : Nat) : Int), .int .i64 ((f.E : Nat) : Int), .int .i64 ((f.F : Nat) : Int), .int .i64 f.g.rad, .int .i64 f.g.digs, .int .i64 f.g.lo, .int .i64 f.g.hi, .bool f.g.grad, .int .i64 ((f.fam : Nat) : Int)]) :
    Calls Tryd.prog 63 #[.slice p (dig B16 x).length c, .int .i64 pw, .pointer (some ⟨bg, 0, none⟩), .pointer (some ⟨bf, 0, none⟩)] w (GivesVr w (f.vr g ⟨2, x, pw⟩)) := by
  have hx0 := dig_len_zero B16_two x
  have wp := wid_pos f.g
  have lg := Bg.lt
  have lf := Bf.lt
  have hmu := mul_bd (wd := wid f.g) (k := pw) (B := 100000) wp.2 hpw
  by_cases h0 : x = 0
  · have hv : f.vr g ⟨2, x, pw⟩ = ⟨1, g, ⟨false, 0, 0⟩⟩ := by unfold Fm.vr Dc.c; simp [h0]
    have hb0 : bare ⟨g, x, wid f.g * pw⟩ = ⟨false, 0, 0⟩ := by rw [h0]; rfl
    rw [hv]
    generalize hmw : (wid f.g : Int) * pw = mw at *
    have HMW := Lib.hid hmw
    clear hmw
    have I := Inv.startR w [bg, bf] [⟨4, [.v (.bool g)], true⟩, ⟨79, [.v (.int .i64 ((f.size : Nat) : Int)), .v (.int .i64 ((f.E : Nat) : Int)), .v (.int .i64 ((f.F : Nat) : Int)), .v (.int .i64 f.g.rad), .v (.int .i64 f.g.digs), .v (.int .i64 f.g.lo), .v (.int .i64 f.g.hi), .v (.bool f.g.grad), .v (.int .i64 ((f.fam : Nat) : Int))], true⟩] [rfF b0 p c (dig B16 x)] ⟨Bg, Bf, True.intro⟩ ⟨hp, True.intro⟩
    refine zstart [.v (.slice p (dig B16 x).length c), .v (.int .i64 pw), .p 0 0, .p 1 0] I Tryd.func63 ?_
    refine zcut I none (fun fr bx gs => ∃ (U1 : Nat → Value) (p16 : Option Addr) (c16 : Nat), fr = (.v (.slice p (dig B16 x).length c) :: .v (.int .i64 pw) :: .p 0 0 :: .p 1 0 :: su 2 (.p 2 0 :: .p 3 0 :: sw U1 8 12 (.v undef :: sw U1 21 5 [])) : List SV) ∧ bx = [⟨4, [.v (.bool g)], true⟩, ⟨79, [.v (.int .i64 ((f.size : Nat) : Int)), .v (.int .i64 ((f.E : Nat) : Int)), .v (.int .i64 ((f.F : Nat) : Int)), .v (.int .i64 f.g.rad), .v (.int .i64 f.g.digs), .v (.int .i64 f.g.lo), .v (.int .i64 f.g.hi), .v (.bool f.g.grad), .v (.int .i64 ((f.fam : Nat) : Int))], true⟩, ⟨61, [.v (.int .i64 0), .v (.bool false), .v (.bool false), .v (.slice none 0 0), .v (.int .i64 0)], false⟩, ⟨34, [.v (.bool false), .v (.slice p16 (dig B16 0).length c16), .v (.int .i64 0)], false⟩] ∧ gs = [rfF w.heap.size p16 c16 (dig B16 0), rfF b0 p c (dig B16 x)]) ?_ ?_
    · intro J hJ Al W I
      refine zd [] I fun Al W I => ?_
      refine zk [0, 1, 2, 3, 5] I fun I => ?_
      refine zo2 4 9 I (fun I => ?_) (fun I => ?_)
      · skip
        refine zg I (fun Al W I => refWidth_any f.g W) fun Al V Iv hz hB K k => ?_
        rintro _ W ⟨rfl, hb⟩
        refine ⟨_, rfl, k _ _ hb fun I => ?_⟩
        clear k K
        refine zki 6 I .i64 (((wid f.g : Nat) : Int) * pw) (mw) ((by rw [HMW.out]; exact IntWalk.i64_in _ (by omega))) fun I => ?_
        refine zk [7] I fun I => ?_
        refine zo2 8 9 I (fun I => ?_) (fun I => ?_)
        · skip
          refine zg I (fun Al W I => have hz := I.bel.size; rbared g p _ c mw x ⟨false, 0, 0⟩ W I.fa.1.rd rfl (by omega) (by omega) hb0) fun Al V Iv hz hB K k => ?_
          rintro _ W ⟨p16, c16, rfl, o16, hb⟩
          refine ⟨_, rfl, k _ _ hb fun I => ?_⟩
          clear k K
          have I := I.rf o16 (hB _) Iv
          refine zo 9 I (fun I => ?_)
          refine zn I fun Al W I => ?_
          refine zo 10 I (fun I => ?_)
          refine zn I fun Al W I => ?_
          exact zback I J fun Al W U I => hJ _ _ _ _ _ ⟨U, p16, c16, rfl, rfl, rfl⟩ (I.pick [0, 1])
        refine zn I fun Al W I => ?_
        refine zo 8 I (fun I => ?_)
        refine zg I (fun Al W I => have hz := I.bel.size; rbared g p _ c mw x ⟨false, 0, 0⟩ W I.fa.1.rd rfl (by omega) (by omega) hb0) fun Al V Iv hz hB K k => ?_
        rintro _ W ⟨p16, c16, rfl, o16, hb⟩
        refine ⟨_, rfl, k _ _ hb fun I => ?_⟩
        clear k K
        have I := I.rf o16 (hB _) Iv
        refine zo 10 I (fun I => ?_)
        refine zn I fun Al W I => ?_
        exact zback I J fun Al W U I => hJ _ _ _ _ _ ⟨U, p16, c16, rfl, rfl, rfl⟩ (I.pick [0, 1])
      refine zn I fun Al W I => ?_
      refine zo 4 I (fun I => ?_)
      refine zg I (fun Al W I => refWidth_any f.g W) fun Al V Iv hz hB K k => ?_
      rintro _ W ⟨rfl, hb⟩
      refine ⟨_, rfl, k _ _ hb fun I => ?_⟩
      clear k K
      refine zki 6 I .i64 (((wid f.g : Nat) : Int) * pw) (mw) ((by rw [HMW.out]; exact IntWalk.i64_in _ (by omega))) fun I => ?_
      refine zk [7] I fun I => ?_
      refine zo 8 I (fun I => ?_)
      refine zg I (fun Al W I => have hz := I.bel.size; rbared g p _ c mw x ⟨false, 0, 0⟩ W I.fa.1.rd rfl (by omega) (by omega) hb0) fun Al V Iv hz hB K k => ?_
      rintro _ W ⟨p16, c16, rfl, o16, hb⟩
      refine ⟨_, rfl, k _ _ hb fun I => ?_⟩
      clear k K
      have I := I.rf o16 (hB _) Iv
      refine zo 10 I (fun I => ?_)
      refine zn I fun Al W I => ?_
      exact zback I J fun Al W U I => hJ _ _ _ _ _ ⟨U, p16, c16, rfl, rfl, rfl⟩ (I.pick [0, 1])
    rintro _ _ _ ⟨U1, p16, c16, rfl, rfl, rfl⟩ Al W I
    refine zb I 20 ((((dig B16 0).length : Nat) : Int) == 0) (true) (beq_iff_eq.2 (by rw [dig_zero]; rfl)) fun Al W I => ?_
    exact zret I fun Al W I => givesVr_none rfl I.below
  · have hv : f.vr g ⟨2, x, pw⟩ = ⟨2, g, bare ⟨g, x, wid f.g * pw⟩⟩ := by unfold Fm.vr Dc.c; simp [h0]
    have hne : (bare ⟨g, x, wid f.g * pw⟩ : Dv).m ≠ 0 := by
      unfold bare
      rw [if_neg h0]
      have := (tz_spec x (by omega)).2
      intro h
      simp only at h
      rw [h] at this
      simp at this
    rw [hv]
    generalize hmw : (wid f.g : Int) * pw = mw at *
    have HMW := Lib.hid hmw
    clear hmw
    generalize hd : bare ⟨g, x, mw⟩ = d at *
    have HD := Lib.hid hd
    clear hd
    have hd0 := dig_len_zero B16_two d.m
    have I := Inv.startR w [bg, bf] [⟨4, [.v (.bool g)], true⟩, ⟨79, [.v (.int .i64 ((f.size : Nat) : Int)), .v (.int .i64 ((f.E : Nat) : Int)), .v (.int .i64 ((f.F : Nat) : Int)), .v (.int .i64 f.g.rad), .v (.int .i64 f.g.digs), .v (.int .i64 f.g.lo), .v (.int .i64 f.g.hi), .v (.bool f.g.grad), .v (.int .i64 ((f.fam : Nat) : Int))], true⟩] [rfF b0 p c (dig B16 x)] ⟨Bg, Bf, True.intro⟩ ⟨hp, True.intro⟩
    refine zstart [.v (.slice p (dig B16 x).length c), .v (.int .i64 pw), .p 0 0, .p 1 0] I Tryd.func63 ?_
    refine zcut I none (fun fr bx gs => ∃ (U1 : Nat → Value) (p16 : Option Addr) (c16 : Nat), fr = (.v (.slice p (dig B16 x).length c) :: .v (.int .i64 pw) :: .p 0 0 :: .p 1 0 :: su 2 (.p 2 0 :: .p 3 0 :: sw U1 8 12 (.v undef :: sw U1 21 5 [])) : List SV) ∧ bx = [⟨4, [.v (.bool g)], true⟩, ⟨79, [.v (.int .i64 ((f.size : Nat) : Int)), .v (.int .i64 ((f.E : Nat) : Int)), .v (.int .i64 ((f.F : Nat) : Int)), .v (.int .i64 f.g.rad), .v (.int .i64 f.g.digs), .v (.int .i64 f.g.lo), .v (.int .i64 f.g.hi), .v (.bool f.g.grad), .v (.int .i64 ((f.fam : Nat) : Int))], true⟩, ⟨61, [.v (.int .i64 0), .v (.bool false), .v (.bool false), .v (.slice none 0 0), .v (.int .i64 0)], false⟩, ⟨34, [.v (.bool d.neg), .v (.slice p16 (dig B16 d.m).length c16), .v (.int .i64 d.e)], false⟩] ∧ gs = [rfF w.heap.size p16 c16 (dig B16 d.m), rfF b0 p c (dig B16 x)]) ?_ ?_
    · intro J hJ Al W I
      refine zd [] I fun Al W I => ?_
      refine zk [0, 1, 2, 3, 5] I fun I => ?_
      refine zo2 4 9 I (fun I => ?_) (fun I => ?_)
      · skip
        refine zg I (fun Al W I => refWidth_any f.g W) fun Al V Iv hz hB K k => ?_
        rintro _ W ⟨rfl, hb⟩
        refine ⟨_, rfl, k _ _ hb fun I => ?_⟩
        clear k K
        refine zki 6 I .i64 (((wid f.g : Nat) : Int) * pw) (mw) ((by rw [HMW.out]; exact IntWalk.i64_in _ (by omega))) fun I => ?_
        refine zk [7] I fun I => ?_
        refine zo2 8 9 I (fun I => ?_) (fun I => ?_)
        · skip
          refine zg I (fun Al W I => have hz := I.bel.size; rbared g p _ c mw x d W I.fa.1.rd rfl (by omega) (by omega) HD.out) fun Al V Iv hz hB K k => ?_
          rintro _ W ⟨p16, c16, rfl, o16, hb⟩
          refine ⟨_, rfl, k _ _ hb fun I => ?_⟩
          clear k K
          have I := I.rf o16 (hB _) Iv
          refine zo 9 I (fun I => ?_)
          refine zn I fun Al W I => ?_
          refine zo 10 I (fun I => ?_)
          refine zn I fun Al W I => ?_
          exact zback I J fun Al W U I => hJ _ _ _ _ _ ⟨U, p16, c16, rfl, rfl, rfl⟩ (I.pick [0, 1])
        refine zn I fun Al W I => ?_
        refine zo 8 I (fun I => ?_)
        refine zg I (fun Al W I => have hz := I.bel.size; rbared g p _ c mw x d W I.fa.1.rd rfl (by omega) (by omega) HD.out) fun Al V Iv hz hB K k => ?_
        rintro _ W ⟨p16, c16, rfl, o16, hb⟩
        refine ⟨_, rfl, k _ _ hb fun I => ?_⟩
        clear k K
        have I := I.rf o16 (hB _) Iv
        refine zo 10 I (fun I => ?_)
        refine zn I fun Al W I => ?_
        exact zback I J fun Al W U I => hJ _ _ _ _ _ ⟨U, p16, c16, rfl, rfl, rfl⟩ (I.pick [0, 1])
      refine zn I fun Al W I => ?_
      refine zo 4 I (fun I => ?_)
      refine zg I (fun Al W I => refWidth_any f.g W) fun Al V Iv hz hB K k => ?_
      rintro _ W ⟨rfl, hb⟩
      refine ⟨_, rfl, k _ _ hb fun I => ?_⟩
      clear k K
      refine zki 6 I .i64 (((wid f.g : Nat) : Int) * pw) (mw) ((by rw [HMW.out]; exact IntWalk.i64_in _ (by omega))) fun I => ?_
      refine zk [7] I fun I => ?_
      refine zo 8 I (fun I => ?_)
      refine zg I (fun Al W I => have hz := I.bel.size; rbared g p _ c mw x d W I.fa.1.rd rfl (by omega) (by omega) HD.out) fun Al V Iv hz hB K k => ?_
      rintro _ W ⟨p16, c16, rfl, o16, hb⟩
      refine ⟨_, rfl, k _ _ hb fun I => ?_⟩
      clear k K
      have I := I.rf o16 (hB _) Iv
      refine zo 10 I (fun I => ?_)
      refine zn I fun Al W I => ?_
      exact zback I J fun Al W U I => hJ _ _ _ _ _ ⟨U, p16, c16, rfl, rfl, rfl⟩ (I.pick [0, 1])
    rintro _ _ _ ⟨U1, p16, c16, rfl, rfl, rfl⟩ Al W I
    refine zb I 20 ((((dig B16 d.m).length : Nat) : Int) == 0) (false) (beq_eq_false_iff_ne.2 (by omega)) fun Al W I => ?_
    exact zret I fun Al W I => ⟨p16, c16, rfl, I.fa.1.mono (by omega), I.below⟩
end Go.Proofs.YtcipdimogodndaaDoor

namespace Go.Slip
theorem all_take_succ' (r : List Bool) {i : Nat} (h : i < r.length) : (r.take (i + 1)).all id = ((r.take i).all id && r.getD i false) := by
  rw [all_take_succ r i h, List.getD_eq_getElem?_getD, List.getElem?_eq_getElem h]
  rfl
theorem plus_lt122 {X F d : Nat} (h : X < 2 ^ F) (hF : F ≤ 64) (hd : d ≤ 120) : X + 2 ^ d < 2 ^ 122 := by
  have h1 : 2 ^ F ≤ 2 ^ 64 := Nat.pow_le_pow_right (by omega) hF
  have h2 : 2 ^ d ≤ 2 ^ 120 := Nat.pow_le_pow_right (by omega) hd
  omega
theorem cmpN_neg {a b : Nat} (h : cmpN a b < 0) : a < b := by
  unfold cmpN at h
  split at h
  · assumption
  · split at h <;> omega
theorem cmpN_nonneg {a b : Nat} (h : ¬ cmpN a b < 0) : ¬ a < b := fun k => by
  apply h
  rw [cmpN_lt k]
  decide
theorem rdv_tail {w : World} {p : Option Addr} {x : Bool} {r : List Bool} (h : RdV w p ((x :: r).map Value.bool)) (E : Nat) : RdV w (p.map (·.add (1 + E))) ((r.drop E).map Value.bool) := by
  have := h.drop (1 + E)
  rw [show ((x :: r).map Value.bool).drop (1 + E) = (r.drop E).map Value.bool by rw [Nat.add_comm, List.map_cons, List.drop_succ_cons, List.map_drop]] at this
  exact this
end Go.Slip
namespace Go.Proofs.YtcipdimogodndaaDoor
open Go.RowKit Go.Slip

def GivesVrb (w : World) (v : Vr) (g : Bool) (en : Ending) (w' : World) : Prop :=
  ∃ p c, en = .returned (.tuple #[.agg #[.int .i64 ((v.cls : Nat) : Int), .bool v.neg, .bool v.x.neg, .slice p (dig B16 v.x.m).length c, .int .i64 v.x.e], .bool g]) ∧ Rf w' w.heap.size p c (dig B16 v.x.m) ∧ Below w.heap.size w w'
theorem givesVrb_none {w w' : World} {v : Vr} {k : Nat} {n g : Bool} {en : Ending} (hv : v = ⟨k, n, ⟨false, 0, 0⟩⟩) (h : en = .returned (.tuple #[.agg #[.int .i64 ((k : Nat) : Int), .bool n, .bool false, .slice none 0 0, .int .i64 0], .bool g])) (hb : Below w.heap.size w w') : GivesVrb w v g en w' := by
  subst hv
  refine ⟨none, 0, ?_, ?_, hb⟩
  · rw [h, dig_zero]; rfl
  · rw [dig_zero]; exact rf_nil _ _ _
theorem givesVrb_of {w w' : World} {v u : Vr} {g : Bool} {p : Option Addr} {c base : Nat} {en : Ending} (hv : v = u) (h : en = .returned (.tuple #[.agg #[.int .i64 ((u.cls : Nat) : Int), .bool u.neg, .bool u.x.neg, .slice p (dig B16 u.x.m).length c, .int .i64 u.x.e], .bool g])) (ho : Rf w' base p c (dig B16 u.x.m)) (hB : w.heap.size ≤ base) (hb : Below w.heap.size w w') : GivesVrb w v g en w' := by
  subst hv
  exact ⟨p, c, h, ho.mono hB, hb⟩

theorem vr_num (f : Fm) (g : Bool) {k : Nat} (hk : k ≠ 2) : f.vr g ⟨k, 0, 0⟩ = ⟨k, if k ≤ 3 then g else false, ⟨false, 0, 0⟩⟩ := by
  unfold Fm.vr Dc.c
  simp [hk]

set_option maxHeartbeats 4000000 in
set_option maxRecDepth 100000 in
theorem refDecodeOf_any (n : Int) (s : ByteArray) (w : World) (hn : IsFm n) (hs : s.size = (fmt n).size) :
    Calls Tryd.prog 25 #[.int .i64 n, .string s] w (GivesVrb w ((fmt n).refN (numOfS (fmt n) s)) ((fmt n).neg (numOfS (fmt n) s))) := by
  have G := good_fm hn
  have hext := ext_is hn
  have HF := fun W => Lib.hid (refFormat_ok n hn W)
  have HB := fun W => Lib.hid (refBitsOf_any n s W hn hs)
  generalize fmt n = f at *
  have z1 := G.sz
  have z2 := G.e2
  have z3 := G.f2
  have z4 := G.bits
  have z5 := G.lo
  have z6 := G.f1
  have hl0 : (bytesOf s).length = f.size := by rw [bytesOf_length, hs]
  have hlL : (ordL f.ord (bytesOf s)).length = f.size := by rw [ordL_len, hl0]
  have hN : numOfS f s = vb (bitsB (ordL f.ord (bytesOf s))) := (vb_bits _ (ordL_bytes (fun _ => by omega) (bytesOf_lt s))).symm
  have hlB : (bitsB (ordL f.ord (bytesOf s))).length = 1 + f.E + f.F := by rw [bitsB_len, hlL]; omega
  rw [hN]
  clear hN
  generalize bitsB (ordL f.ord (bytesOf s)) = bs at *
  obtain ⟨x, r, rfl⟩ : ∃ x r, bs = x :: r := by
    cases bs with
    | nil => simp at hlB; omega
    | cons x r => exact ⟨x, r, rfl⟩
  have hr : r.length = f.E + f.F := by rw [List.length_cons] at hlB; omega
  unfold Fm.refN Fm.decN
  rw [bits_neg hr, bits_exp hr, bits_frac hr]
  have hEl : (r.take f.E).length = f.E := by rw [List.length_take]; omega
  have hXl : (r.drop f.E).length = f.F := by rw [List.length_drop]; omega
  have hones := vb_ones (r.take f.E)
  rw [hEl] at hones
  have hElt := vb_lt (r.take f.E)
  rw [hEl] at hElt
  have hXlt := vb_lt (r.drop f.E)
  rw [hXl] at hXlt
  have HV := fun W p m c h hm => Lib.hid (refValue_any (r.drop f.E) p m c W h hm (by omega))
  have hvt := fun i h => vb_take_succ' r (i := i) h
  have hat := fun i h => all_take_succ' r (i := i) h
  have hev : ∀ i, i ≤ f.E → vb (r.take i) < 32768 := fun i hi => Nat.lt_of_lt_of_le (vb_lt _) (by rw [List.length_take, show (32768 : Nat) = 2 ^ 15 from rfl]; exact Nat.pow_le_pow_right (by omega) (by omega))
  have hget := fun i h => map_getD r (i := i) h
  generalize hEE : vb (r.take f.E) = EE at *
  generalize hXX : vb (r.drop f.E) = X at *
  have hXd := dig16_le_pow hXlt (k := 4) (by omega)
  have hX0 := dig_len_zero B16_two X
  have h15 : EE < 32768 := Nat.lt_of_lt_of_le hElt (by rw [show (32768 : Nat) = 2 ^ 15 from rfl]; exact Nat.pow_le_pow_right (by omega) (by omega))
  have hg := goodG_of G.g
  have hd1 := hg.d1
  have hd2 := hg.d2
  obtain ⟨dN, hdN⟩ : ∃ dN : Nat, f.g.digs - 1 = (dN : Int) := ⟨(f.g.digs - 1).toNat, by omega⟩
  have hdl : (dig B16 (2 ^ dN)).length ≤ 8 := dig16_le_pow (n := 121) (Nat.pow_lt_pow_right (by omega) (by omega)) (by omega)
  have hd1F := G.d1
  have hextF := G.ext
  have hfam := G.fam
  have hln : (List.map Value.bool (x :: r)).length = (x :: r).length := List.length_map ..
  have hlr : (x :: r).length = 1 + f.E + f.F := hlB
  clear hXX hl0 hlL hXl hs
  have I := Inv.start w [] True.intro
  refine zstart [.v (.int .i64 n), .v (.string s)] I Tryd.func25 ?_
  refine zg I (fun Al W I => (HF W).out) fun Al V Iv hz hB K k => ?_
  rintro _ W ⟨rfl, hb⟩
  refine ⟨_, rfl, k _ _ hb fun I => ?_⟩
  clear k K
  refine zg I (fun Al W I => (HB W).out) fun Al V Iv hz hB K k => ?_
  rintro _ W ⟨p8, c8, rfl, o8, hb⟩
  refine ⟨_, rfl, k _ _ hb fun I => ?_⟩
  clear k K
  have I := I.ownv o8
  refine zx I 26 (fun _ => .pointer (some (at_ p8 0))) (fun Al W I => vo_ixv (p := p8) (n := (x :: r).length) (c := c8) (m := 0) tvBools (by have h := I.fa.1.rd.solid; rw [hln] at h; exact h) (by omega)) fun Al W I => ?_
  refine zx I 27 (fun _ => .bool x) (fun Al W I => vo_ldv I.fa.1.rd ldBool (m := 0) rfl) fun Al W I => ?_
  refine zloop I (fun gk fr bx gs => ∃ (U900 : Nat → Value) (i : Nat) (e : Nat) (o : Bool), fr = (.v (.int .i64 n) :: .v (.string s) :: su 2 (.p 0 0 :: .v (.bool false) :: .p 1 0 :: .v (U900 7) :: .v (.slice p8 (x :: r).length c8) :: .p 2 0 :: .v (.int .i64 ((e : Nat) : Int)) :: .v (.bool o) :: .v (.int .i64 ((i + 1 : Nat) : Int)) :: su 4 (sw U900 17 48 (su 2 (sw U900 67 8 (.v undef :: sw U900 76 2 (su 2 (sw U900 80 15 (su 2 (sw U900 97 3 (.v undef :: sw U900 101 12 (.v undef :: sw U900 114 11 (.v undef :: sw U900 126 2 (.v undef :: sw U900 129 6 (.v undef :: sw U900 136 12 [])))))))))))))) : List SV) ∧ bx = [⟨61, [.v (.int .i64 0), .v (.bool false), .v (.bool false), .v (.slice none 0 0), .v (.int .i64 0)], false⟩, ⟨79, [.v (.int .i64 ((f.size : Nat) : Int)), .v (.int .i64 ((f.E : Nat) : Int)), .v (.int .i64 ((f.F : Nat) : Int)), .v (.int .i64 f.g.rad), .v (.int .i64 f.g.digs), .v (.int .i64 f.g.lo), .v (.int .i64 f.g.hi), .v (.bool f.g.grad), .v (.int .i64 ((f.fam : Nat) : Int))], false⟩, ⟨4, [.v (.bool x)], false⟩] ∧ gs = [ownvF w.heap.size 4 p8 c8 ((x :: r).map Value.bool)] ∧ (e = vb (r.take i)) ∧ (o = (r.take i).all id) ∧ (gk + i = f.E)) f.E (fun Al W U I => ⟨_, ⟨U, 0, 0, true, rfl, rfl, rfl, rfl, rfl, (by omega)⟩, I.pick [0]⟩) ?_
  rintro J gk0 _ _ _ ⟨U900, i, e, o, rfl, rfl, rfl, he, ho, hgk⟩ hJ Al W I
  have hel : e < 32768 := by rw [he]; exact hev i (by omega)
  rcases Bool.eq_false_or_eq_true (decide (((i + 1 : Nat) : Int) ≤ ((f.E : Nat) : Int))) with f31 | f31
  · skip
    refine zb I 31 (decide (((i + 1 : Nat) : Int) ≤ ((f.E : Nat) : Int))) (true) (f31) fun Al W I => ?_
    refine zi I 35 .i64 ((2 : Int) * ((e : Nat) : Int)) (((2 * e : Nat) : Int)) ((by rw [show ((2 : Int) * ((e : Nat) : Int)) = ((2 * e : Nat) : Int) by omega]; exact IntWalk.i64_in _ (by omega))) fun Al W I => ?_
    refine zx I 38 (fun _ => .pointer (some (at_ p8 (i + 1)))) (fun Al W I => vo_ixv (p := p8) (n := (x :: r).length) (c := c8) (m := i + 1) tvBools (by have h := I.fa.1.rd.solid; rw [hln] at h; exact h) (by have := of_decide_eq_true f31; omega)) fun Al W I => ?_
    rcases Bool.eq_false_or_eq_true (r.getD i false) with f39 | f39
    · skip
      refine zx I 39 (fun _ => .bool true) (fun Al W I => (vo_ldv I.fa.1.rd ldBool (m := i + 1) (by rw [List.map_cons, List.getElem?_cons_succ]; exact hget i (by have := of_decide_eq_true f31; omega))).trans (congrArg (fun z => Result.ok (Value.bool z) W) (show (r.getD i false) = true from f39))) fun Al W I => ?_
      refine zi I 41 .i64 (((2 * e : Nat) : Int) + 1) (((2 * e + 1 : Nat) : Int)) ((by rw [show (((2 * e : Nat) : Int) + 1) = ((2 * e + 1 : Nat) : Int) by omega]; exact IntWalk.i64_in _ (by omega))) fun Al W I => ?_
      rcases Bool.eq_false_or_eq_true (o) with f43 | f43
      · skip
        refine zb I 43 (o) (true) (f43) fun Al W I => ?_
        refine zx I 46 (fun _ => .pointer (some (at_ p8 (i + 1)))) (fun Al W I => vo_ixv (p := p8) (n := (x :: r).length) (c := c8) (m := i + 1) tvBools (by have h := I.fa.1.rd.solid; rw [hln] at h; exact h) (by have := of_decide_eq_true f31; omega)) fun Al W I => ?_
        refine zx I 47 (fun _ => .bool true) (fun Al W I => (vo_ldv I.fa.1.rd ldBool (m := i + 1) (by rw [List.map_cons, List.getElem?_cons_succ]; exact hget i (by have := of_decide_eq_true f31; omega))).trans (congrArg (fun z => Result.ok (Value.bool z) W) (show (r.getD i false) = true from f39))) fun Al W I => ?_
        refine zi I 33 .i64 (((i + 1 : Nat) : Int) + 1) (((i + 1 + 1 : Nat) : Int)) ((by rw [show (((i + 1 : Nat) : Int) + 1) = ((i + 1 + 1 : Nat) : Int) by omega]; exact IntWalk.i64_in _ (by have := of_decide_eq_true f31; omega))) fun Al W I => ?_
        exact zback I J fun Al W U I => hJ (gk0 - 1) _ _ _ _ _ ((by have := of_decide_eq_true f31; omega)) ⟨U, i + 1, 2 * e + 1, true, rfl, rfl, rfl, (by rw [← hvt i (by have := of_decide_eq_true f31; omega), f39, he, Bool.toNat_true, Nat.mul_comm]), (by rw [hat i (by have := of_decide_eq_true f31; omega), f39, ← ho, f43]; rfl), (by have := of_decide_eq_true f31; omega)⟩ (I.pick [0])
      refine zb I 43 (o) (false) (f43) fun Al W I => ?_
      refine zi I 33 .i64 (((i + 1 : Nat) : Int) + 1) (((i + 1 + 1 : Nat) : Int)) ((by rw [show (((i + 1 : Nat) : Int) + 1) = ((i + 1 + 1 : Nat) : Int) by omega]; exact IntWalk.i64_in _ (by have := of_decide_eq_true f31; omega))) fun Al W I => ?_
      exact zback I J fun Al W U I => hJ (gk0 - 1) _ _ _ _ _ ((by have := of_decide_eq_true f31; omega)) ⟨U, i + 1, 2 * e + 1, false, rfl, rfl, rfl, (by rw [← hvt i (by have := of_decide_eq_true f31; omega), f39, he, Bool.toNat_true, Nat.mul_comm]), (by rw [hat i (by have := of_decide_eq_true f31; omega), f39, ← ho, f43]; rfl), (by have := of_decide_eq_true f31; omega)⟩ (I.pick [0])
    refine zx I 39 (fun _ => .bool false) (fun Al W I => (vo_ldv I.fa.1.rd ldBool (m := i + 1) (by rw [List.map_cons, List.getElem?_cons_succ]; exact hget i (by have := of_decide_eq_true f31; omega))).trans (congrArg (fun z => Result.ok (Value.bool z) W) (show (r.getD i false) = false from f39))) fun Al W I => ?_
    rcases Bool.eq_false_or_eq_true (o) with f43 | f43
    · skip
      refine zb I 43 (o) (true) (f43) fun Al W I => ?_
      refine zx I 46 (fun _ => .pointer (some (at_ p8 (i + 1)))) (fun Al W I => vo_ixv (p := p8) (n := (x :: r).length) (c := c8) (m := i + 1) tvBools (by have h := I.fa.1.rd.solid; rw [hln] at h; exact h) (by have := of_decide_eq_true f31; omega)) fun Al W I => ?_
      refine zx I 47 (fun _ => .bool false) (fun Al W I => (vo_ldv I.fa.1.rd ldBool (m := i + 1) (by rw [List.map_cons, List.getElem?_cons_succ]; exact hget i (by have := of_decide_eq_true f31; omega))).trans (congrArg (fun z => Result.ok (Value.bool z) W) (show (r.getD i false) = false from f39))) fun Al W I => ?_
      refine zi I 33 .i64 (((i + 1 : Nat) : Int) + 1) (((i + 1 + 1 : Nat) : Int)) ((by rw [show (((i + 1 : Nat) : Int) + 1) = ((i + 1 + 1 : Nat) : Int) by omega]; exact IntWalk.i64_in _ (by have := of_decide_eq_true f31; omega))) fun Al W I => ?_
      exact zback I J fun Al W U I => hJ (gk0 - 1) _ _ _ _ _ ((by have := of_decide_eq_true f31; omega)) ⟨U, i + 1, 2 * e, false, rfl, rfl, rfl, (by rw [← hvt i (by have := of_decide_eq_true f31; omega), f39, he, Bool.toNat_false, Nat.mul_comm, Nat.add_zero]), (by rw [hat i (by have := of_decide_eq_true f31; omega), f39, ← ho, f43]; rfl), (by have := of_decide_eq_true f31; omega)⟩ (I.pick [0])
    refine zb I 43 (o) (false) (f43) fun Al W I => ?_
    refine zi I 33 .i64 (((i + 1 : Nat) : Int) + 1) (((i + 1 + 1 : Nat) : Int)) ((by rw [show (((i + 1 : Nat) : Int) + 1) = ((i + 1 + 1 : Nat) : Int) by omega]; exact IntWalk.i64_in _ (by have := of_decide_eq_true f31; omega))) fun Al W I => ?_
    exact zback I J fun Al W U I => hJ (gk0 - 1) _ _ _ _ _ ((by have := of_decide_eq_true f31; omega)) ⟨U, i + 1, 2 * e, false, rfl, rfl, rfl, (by rw [← hvt i (by have := of_decide_eq_true f31; omega), f39, he, Bool.toNat_false, Nat.mul_comm, Nat.add_zero]), (by rw [hat i (by have := of_decide_eq_true f31; omega), f39, ← ho, f43]; rfl), (by have := of_decide_eq_true f31; omega)⟩ (I.pick [0])
  refine zb I 31 (decide (((i + 1 : Nat) : Int) ≤ ((f.E : Nat) : Int))) (false) (f31) fun Al W I => ?_
  have hiE : i = f.E := by have := of_decide_eq_false f31; omega
  have heE : e = EE := by rw [he, hiE, hEE]
  have hoE : o = true ↔ EE = 2 ^ f.E - 1 := by rw [ho, hiE]; exact hones
  clear he ho hgk hel hev hget hvt hat hones hEE
  subst heE
  refine zi I 52 .i64 ((1 : Int) + ((f.E : Nat) : Int)) (((1 + f.E : Nat) : Int)) ((by rw [show ((1 : Int) + ((f.E : Nat) : Int)) = ((1 + f.E : Nat) : Int) by omega]; exact IntWalk.i64_in _ (by omega))) fun Al W I => ?_
  refine zx I 53 (fun _ => .slice (p8.map (·.add (1 + f.E))) ((x :: r).length - (1 + f.E)) (c8 - (1 + f.E))) (fun Al W I => vo_tlv tvBools (m := 1 + f.E) (by omega) (by have := I.fa.1.le_cap; rw [hln] at this; omega) (by have := I.fa.1.le_cap; rw [hln] at this; omega)) fun Al W I => ?_
  refine zg I (fun Al W I => have hz := I.bel.size; (HV W (p8.map (·.add (1 + f.E))) ((x :: r).length - (1 + f.E)) (c8 - (1 + f.E)) (rdv_tail I.fa.1.rd f.E) (by rw [List.length_drop, hlr]; omega)).out) fun Al V Iv hz hB K k => ?_
  rintro _ W ⟨p54, c54, rfl, o54, hb⟩
  refine ⟨_, rfl, k _ _ hb fun I => ?_⟩
  clear k K
  have I := I.rf o54 (hB _) Iv
  refine zi I 58 .i64 (f.g.digs - 1) ((dN : Int)) ((by rw [hdN]; exact IntWalk.i64_in _ (by omega))) fun Al W I => ?_
  refine zg I (fun Al W I => have hz := I.bel.size; rpow2 ((dN : Nat) : Int) dN rfl (by omega) W) fun Al V Iv hz hB K k => ?_
  rintro _ W ⟨p59, c59, rfl, o59, hb⟩
  refine ⟨_, rfl, k _ _ hb fun I => ?_⟩
  clear k K
  have I := I.rf o59 (hB _) Iv
  rcases Bool.eq_false_or_eq_true (((f.fam : Nat) : Int) == 2) with f67 | f67
  · skip
    refine zb I 67 (((f.fam : Nat) : Int) == 2) (true) (f67) fun Al W I => ?_
    refine zd [0] I fun Al W I => ?_
    refine zk [0, 1, 2, 3] I fun I => ?_
    refine zki 4 I .i64 (f.g.lo + ((e : Nat) : Int)) (f.g.lo + ((e : Nat) : Int)) (IntWalk.i64_in _ (by omega)) fun I => ?_
    refine zk [6] I fun I => ?_
    refine zo 5 I (fun I => ?_)
    refine zg I (fun Al W I => have hz := I.bel.size; refNumber_any f x (lk 0 Al 2) (lk 0 Al 1) (X) p54 c54 _ (f.g.lo + (e : Int)) W I.fa.2.1 (by omega) (by omega) (I.box 2 4 #[.bool x]) (I.box 1 79 #[.int .i64 ((f.size : Nat) : Int), .int .i64 ((f.E : Nat) : Int), .int .i64 ((f.F : Nat) : Int), .int .i64 f.g.rad, .int .i64 f.g.digs, .int .i64 f.g.lo, .int .i64 f.g.hi, .bool f.g.grad, .int .i64 ((f.fam : Nat) : Int)])) fun Al V Iv hz hB K k => ?_
    rintro _ W ⟨pN, cN, rfl, oN, hb⟩
    have hD : f.dec x e X = ⟨2, X, f.g.lo + (e : Int)⟩ := by unfold Fm.dec; rw [if_pos (by have := beq_iff_eq.1 f67; omega)]
    refine ⟨_, rfl, k _ _ hb fun I => ?_⟩
    clear k K
    have I := I.rf oN (hB _) Iv
    refine zo 7 I (fun I => ?_)
    refine zn I fun Al W I => ?_
    refine zk [8] I fun I => ?_
    exact zret I (v := fun Al => .tuple #[.agg #[.int .i64 (((f.vr x ⟨2, X, f.g.lo + (e : Int)⟩).cls : Nat) : Int), .bool ((f.vr x ⟨2, X, f.g.lo + (e : Int)⟩).neg), .bool ((f.vr x ⟨2, X, f.g.lo + (e : Int)⟩).x.neg), .slice pN (dig B16 (f.vr x ⟨2, X, f.g.lo + (e : Int)⟩).x.m).length cN, .int .i64 ((f.vr x ⟨2, X, f.g.lo + (e : Int)⟩).x.e)], .bool x]) fun Al W I => givesVrb_of (by rw [hD]) rfl I.fa.1 (by omega) I.below
  refine zb I 67 (((f.fam : Nat) : Int) == 2) (false) (f67) fun Al W I => ?_
  rcases Bool.eq_false_or_eq_true (((f.fam : Nat) : Int) == 3) with f76 | f76
  · skip
    refine zb I 76 (((f.fam : Nat) : Int) == 3) (true) (f76) fun Al W I => ?_
    rcases Bool.eq_false_or_eq_true (((e : Nat) : Int) == 0) with f78 | f78
    · skip
      refine zb I 78 (((e : Nat) : Int) == 0) (true) (f78) fun Al W I => ?_
      rcases Bool.eq_false_or_eq_true (x) with f79 | f79
      · skip
        refine zb I 79 (x) (true) (f79) fun Al W I => ?_
        refine zd [0] I fun Al W I => ?_
        have hD : f.dec x e X = ⟨5, 0, 0⟩ := by unfold Fm.dec; rw [if_neg (by have := beq_iff_eq.1 f76; omega), if_neg (by have := beq_iff_eq.1 f76; omega), if_pos ⟨by have := beq_iff_eq.1 f76; omega, by have := beq_iff_eq.1 f78; omega⟩, if_pos f79]
        refine zk [0, 1] I fun I => ?_
        refine zo 2 I (fun I => ?_)
        refine zn I fun Al W I => ?_
        refine zk [3] I fun I => ?_
        exact zret I (v := fun Al => .tuple #[.agg #[.int .i64 5, .bool false, .bool false, .slice none 0 0, .int .i64 0], .bool x]) fun Al W I => givesVrb_none (by rw [hD, vr_num f x (by omega), if_neg (by omega)]) rfl I.below
      refine zb I 79 (x) (false) (f79) fun Al W I => ?_
      refine zd [0] I fun Al W I => ?_
      have hD : f.dec x e X = ⟨1, 0, 0⟩ := by unfold Fm.dec; rw [if_neg (by have := beq_iff_eq.1 f76; omega), if_neg (by have := beq_iff_eq.1 f76; omega), if_pos ⟨by have := beq_iff_eq.1 f76; omega, by have := beq_iff_eq.1 f78; omega⟩, if_neg (by rw [f79]; simp)]
      refine zk [0, 1] I fun I => ?_
      refine zo 2 I (fun I => ?_)
      refine zn I fun Al W I => ?_
      refine zk [3] I fun I => ?_
      exact zret I (v := fun Al => .tuple #[.agg #[.int .i64 1, .bool false, .bool false, .slice none 0 0, .int .i64 0], .bool x]) fun Al W I => givesVrb_none (by rw [hD, vr_num f x (by omega), if_pos (by omega), f79]) rfl I.below
    refine zb I 78 (((e : Nat) : Int) == 0) (false) (f78) fun Al W I => ?_
    refine zd [0] I fun Al W I => ?_
    refine zk [0, 1, 2, 4, 5] I fun I => ?_
    refine zki 6 I .i64 (f.g.lo + ((e : Nat) : Int)) (f.g.lo + ((e : Nat) : Int)) (IntWalk.i64_in _ (by omega)) fun I => ?_
    refine zki 7 I .i64 ((f.g.lo + ((e : Nat) : Int)) - 1) ((f.g.lo + ((e : Nat) : Int)) - 1) (IntWalk.i64_in _ (by omega)) fun I => ?_
    refine zk [9] I fun I => ?_
    refine zo 3 I (fun I => ?_)
    have q76 : f.fam = 3 := by have := beq_iff_eq.1 f76; omega
    have q78 : e ≠ 0 := by have := beq_eq_false_iff_ne.1 f78; omega
    have qx : f.ext = false := by cases hh : f.ext with | false => rfl | true => exact absurd (hextF hh).1 (by omega)
    have qF : dN = f.F := by have := hd1F (by omega) qx; omega
    refine zg I (fun Al W I => have hz := I.bel.size; rplus p54 p59 _ _ c54 c59 X (2 ^ dN) (X + 2 ^ dN) W I.fa.2.1.rd I.fa.1.rd rfl rfl (by omega) (by omega) rfl) fun Al V Iv hz hB K k => ?_
    rintro _ W ⟨p87, c87, rfl, o87, hb⟩
    refine ⟨_, rfl, k _ _ hb fun I => ?_⟩
    clear k K
    have I := I.rf o87 (hB _) Iv
    refine zo 8 I (fun I => ?_)
    refine zg I (fun Al W I => have hz := I.bel.size; refNumber_any f x (lk 0 Al 2) (lk 0 Al 1) (X + 2 ^ dN) p87 c87 _ (f.g.lo + (e : Int) - 1) W I.fa.1 (by have := dig16_le_pow (x := X + 2 ^ dN) (n := 122) (k := 8) (plus_lt122 hXlt (by omega) (by omega)) (by omega); omega) (by omega) (I.box 2 4 #[.bool x]) (I.box 1 79 #[.int .i64 ((f.size : Nat) : Int), .int .i64 ((f.E : Nat) : Int), .int .i64 ((f.F : Nat) : Int), .int .i64 f.g.rad, .int .i64 f.g.digs, .int .i64 f.g.lo, .int .i64 f.g.hi, .bool f.g.grad, .int .i64 ((f.fam : Nat) : Int)])) fun Al V Iv hz hB K k => ?_
    rintro _ W ⟨pN, cN, rfl, oN, hb⟩
    have hD : f.dec x e X = ⟨2, X + 2 ^ dN, f.g.lo + e - 1⟩ := by unfold Fm.dec; rw [if_neg (by omega), if_neg (by omega), if_neg (by omega), if_neg q78, if_pos qx, qF]
    refine ⟨_, rfl, k _ _ hb fun I => ?_⟩
    clear k K
    have I := I.rf oN (hB _) Iv
    refine zo 10 I (fun I => ?_)
    refine zn I fun Al W I => ?_
    refine zk [11] I fun I => ?_
    exact zret I (v := fun Al => .tuple #[.agg #[.int .i64 (((f.vr x ⟨2, X + 2 ^ dN, f.g.lo + (e : Int) - 1⟩).cls : Nat) : Int), .bool ((f.vr x ⟨2, X + 2 ^ dN, f.g.lo + (e : Int) - 1⟩).neg), .bool ((f.vr x ⟨2, X + 2 ^ dN, f.g.lo + (e : Int) - 1⟩).x.neg), .slice pN (dig B16 (f.vr x ⟨2, X + 2 ^ dN, f.g.lo + (e : Int) - 1⟩).x.m).length cN, .int .i64 ((f.vr x ⟨2, X + 2 ^ dN, f.g.lo + (e : Int) - 1⟩).x.e)], .bool x]) fun Al W I => givesVrb_of (by rw [hD]) rfl I.fa.1 (by omega) I.below
  refine zb I 76 (((f.fam : Nat) : Int) == 3) (false) (f76) fun Al W I => ?_
  have q1 : f.fam = 1 := by have := beq_eq_false_iff_ne.1 f67; have := beq_eq_false_iff_ne.1 f76; omega
  rcases Bool.eq_false_or_eq_true (n == 3) with f95 | f95
  · skip
    refine zb I 95 (n == 3) (true) (f95) fun Al W I => ?_
    have qx : f.ext = true := by rw [hext]; exact decide_eq_true (beq_iff_eq.1 f95)
    have qN : dN = 63 := by have := (hextF qx).2.2; omega
    rcases Bool.eq_false_or_eq_true (o) with f96 | f96
    · skip
      refine zb I 96 (o) (true) (f96) fun Al W I => ?_
      refine zg I (fun Al W I => have hz := I.bel.size; refCmp_any p54 p59 _ _ c54 c59 X (2 ^ dN) W I.fa.2.1.rd I.fa.1.rd rfl rfl (by omega) (by omega)) fun Al V Iv hz hB K k => ?_
      rintro _ W ⟨rfl, hb⟩
      refine ⟨_, rfl, k _ _ hb fun I => ?_⟩
      clear k K
      rcases Bool.eq_false_or_eq_true ((cmpN X (2 ^ dN)) == 0) with f100 | f100
      · skip
        refine zb I 100 ((cmpN X (2 ^ dN)) == 0) (true) (f100) fun Al W I => ?_
        refine zd [0] I fun Al W I => ?_
        have hD : f.dec x e X = ⟨3, 0, 0⟩ := by unfold Fm.dec; rw [if_neg (by omega), if_pos ⟨q1, hoE.1 f96⟩, if_pos (.inr ⟨qx, by have := cmpN_zero (beq_iff_eq.1 f100); rw [qN] at this; exact this⟩)]
        refine zk [0, 1, 2] I fun I => ?_
        refine zo 3 I (fun I => ?_)
        refine zn I fun Al W I => ?_
        refine zk [4] I fun I => ?_
        exact zret I (v := fun Al => .tuple #[.agg #[.int .i64 3, .bool x, .bool false, .slice none 0 0, .int .i64 0], .bool x]) fun Al W I => givesVrb_none (by rw [hD, vr_num f x (by omega), if_pos (by omega)]) rfl I.below
      refine zb I 100 ((cmpN X (2 ^ dN)) == 0) (false) (f100) fun Al W I => ?_
      refine zd [0] I fun Al W I => ?_
      have hD : f.dec x e X = ⟨4, 0, 0⟩ := by unfold Fm.dec; rw [if_neg (by omega), if_pos ⟨q1, hoE.1 f96⟩, if_neg (fun h => by rcases h with h | h <;> first | (have k := h.1; rw [qx] at k; cases k; done) | (have k := beq_eq_false_iff_ne.1 f100; apply k; rw [qN, h.2]; exact cmpN_eq _))]
      refine zk [0, 1] I fun I => ?_
      refine zo 2 I (fun I => ?_)
      refine zn I fun Al W I => ?_
      refine zk [3] I fun I => ?_
      exact zret I (v := fun Al => .tuple #[.agg #[.int .i64 4, .bool false, .bool false, .slice none 0 0, .int .i64 0], .bool x]) fun Al W I => givesVrb_none (by rw [hD, vr_num f x (by omega), if_neg (by omega)]) rfl I.below
    refine zb I 96 (o) (false) (f96) fun Al W I => ?_
    have qo : ¬ (f.fam = 1 ∧ e = 2 ^ f.E - 1) := fun h => by have k := hoE.2 h.2; first | (rw [f96] at k; cases k; done)
    rcases Bool.eq_false_or_eq_true (decide (((e : Nat) : Int) > 0)) with f107 | f107
    · skip
      refine zb I 107 (decide (((e : Nat) : Int) > 0)) (true) (f107) fun Al W I => ?_
      refine zg I (fun Al W I => have hz := I.bel.size; refCmp_any p54 p59 _ _ c54 c59 X (2 ^ dN) W I.fa.2.1.rd I.fa.1.rd rfl rfl (by omega) (by omega)) fun Al V Iv hz hB K k => ?_
      rintro _ W ⟨rfl, hb⟩
      refine ⟨_, rfl, k _ _ hb fun I => ?_⟩
      clear k K
      rcases Bool.eq_false_or_eq_true (decide ((cmpN X (2 ^ dN)) < 0)) with f112 | f112
      · skip
        refine zb I 112 (decide ((cmpN X (2 ^ dN)) < 0)) (true) (f112) fun Al W I => ?_
        refine zd [0] I fun Al W I => ?_
        have hD : f.dec x e X = ⟨4, 0, 0⟩ := by unfold Fm.dec; rw [if_neg (by omega), if_neg qo, if_neg (by omega), if_neg (by have := of_decide_eq_true f107; omega), if_neg (by rw [qx]; simp), if_pos (by have k := cmpN_neg (of_decide_eq_true f112); rw [qN] at k; exact k)]
        refine zk [0, 1] I fun I => ?_
        refine zo 2 I (fun I => ?_)
        refine zn I fun Al W I => ?_
        refine zk [3] I fun I => ?_
        exact zret I (v := fun Al => .tuple #[.agg #[.int .i64 4, .bool false, .bool false, .slice none 0 0, .int .i64 0], .bool x]) fun Al W I => givesVrb_none (by rw [hD, vr_num f x (by omega), if_neg (by omega)]) rfl I.below
      refine zb I 112 (decide ((cmpN X (2 ^ dN)) < 0)) (false) (f112) fun Al W I => ?_
      refine zd [0] I fun Al W I => ?_
      refine zk [0, 1, 2, 3] I fun I => ?_
      refine zki 4 I .i64 (((e : Nat) : Int) - 1) (((e : Nat) : Int) - 1) (IntWalk.i64_in _ (by omega)) fun I => ?_
      refine zkm 5 I .i64 (if ((((e : Nat) : Int) - 1) : Int) > 0 then (((e : Nat) : Int) - 1) else 0) (((e - 1 : Nat) : Int)) ((by split <;> omega)) fun I => ?_
      refine zki 6 I .i64 (f.g.lo + ((e - 1 : Nat) : Int)) (f.g.lo + ((e - 1 : Nat) : Int)) (IntWalk.i64_in _ (by omega)) fun I => ?_
      refine zk [8] I fun I => ?_
      refine zo 7 I (fun I => ?_)
      refine zg I (fun Al W I => have hz := I.bel.size; refNumber_any f x (lk 0 Al 2) (lk 0 Al 1) X p54 c54 _ (f.g.lo + ((e - 1 : Nat) : Int)) W I.fa.2.1 (by omega) (by omega) (I.box 2 4 #[.bool x]) (I.box 1 79 #[.int .i64 ((f.size : Nat) : Int), .int .i64 ((f.E : Nat) : Int), .int .i64 ((f.F : Nat) : Int), .int .i64 f.g.rad, .int .i64 f.g.digs, .int .i64 f.g.lo, .int .i64 f.g.hi, .bool f.g.grad, .int .i64 ((f.fam : Nat) : Int)])) fun Al V Iv hz hB K k => ?_
      rintro _ W ⟨pN, cN, rfl, oN, hb⟩
      have hD : f.dec x e X = ⟨2, X, f.g.lo + ((e - 1 : Nat) : Int)⟩ := by unfold Fm.dec; rw [if_neg (by omega), if_neg qo, if_neg (by omega), if_neg (by have := of_decide_eq_true f107; omega), if_neg (by rw [qx]; simp), if_neg (by have k := cmpN_nonneg (of_decide_eq_false f112); rw [qN] at k; exact k)]; simp only [Dc.mk.injEq, true_and]; have := of_decide_eq_true f107; omega
      refine ⟨_, rfl, k _ _ hb fun I => ?_⟩
      clear k K
      have I := I.rf oN (hB _) Iv
      refine zo 9 I (fun I => ?_)
      refine zn I fun Al W I => ?_
      refine zk [10] I fun I => ?_
      exact zret I (v := fun Al => .tuple #[.agg #[.int .i64 (((f.vr x ⟨2, X, f.g.lo + ((e - 1 : Nat) : Int)⟩).cls : Nat) : Int), .bool ((f.vr x ⟨2, X, f.g.lo + ((e - 1 : Nat) : Int)⟩).neg), .bool ((f.vr x ⟨2, X, f.g.lo + ((e - 1 : Nat) : Int)⟩).x.neg), .slice pN (dig B16 (f.vr x ⟨2, X, f.g.lo + ((e - 1 : Nat) : Int)⟩).x.m).length cN, .int .i64 ((f.vr x ⟨2, X, f.g.lo + ((e - 1 : Nat) : Int)⟩).x.e)], .bool x]) fun Al W I => givesVrb_of (by rw [hD]) rfl I.fa.1 (by omega) I.below
    refine zb I 107 (decide (((e : Nat) : Int) > 0)) (false) (f107) fun Al W I => ?_
    refine zd [0] I fun Al W I => ?_
    refine zk [0, 1, 2, 3] I fun I => ?_
    refine zki 4 I .i64 (((e : Nat) : Int) - 1) (((e : Nat) : Int) - 1) (IntWalk.i64_in _ (by omega)) fun I => ?_
    refine zkm 5 I .i64 (if ((((e : Nat) : Int) - 1) : Int) > 0 then (((e : Nat) : Int) - 1) else 0) (((e - 1 : Nat) : Int)) ((by split <;> omega)) fun I => ?_
    refine zki 6 I .i64 (f.g.lo + ((e - 1 : Nat) : Int)) (f.g.lo + ((e - 1 : Nat) : Int)) (IntWalk.i64_in _ (by omega)) fun I => ?_
    refine zk [8] I fun I => ?_
    refine zo 7 I (fun I => ?_)
    refine zg I (fun Al W I => have hz := I.bel.size; refNumber_any f x (lk 0 Al 2) (lk 0 Al 1) X p54 c54 _ (f.g.lo + ((e - 1 : Nat) : Int)) W I.fa.2.1 (by omega) (by omega) (I.box 2 4 #[.bool x]) (I.box 1 79 #[.int .i64 ((f.size : Nat) : Int), .int .i64 ((f.E : Nat) : Int), .int .i64 ((f.F : Nat) : Int), .int .i64 f.g.rad, .int .i64 f.g.digs, .int .i64 f.g.lo, .int .i64 f.g.hi, .bool f.g.grad, .int .i64 ((f.fam : Nat) : Int)])) fun Al V Iv hz hB K k => ?_
    rintro _ W ⟨pN, cN, rfl, oN, hb⟩
    have hD : f.dec x e X = ⟨2, X, f.g.lo + ((e - 1 : Nat) : Int)⟩ := by unfold Fm.dec; rw [if_neg (by omega), if_neg qo, if_neg (by omega), if_pos (by have := of_decide_eq_false f107; omega)]; simp only [Dc.mk.injEq, true_and]; have := of_decide_eq_false f107; omega
    refine ⟨_, rfl, k _ _ hb fun I => ?_⟩
    clear k K
    have I := I.rf oN (hB _) Iv
    refine zo 9 I (fun I => ?_)
    refine zn I fun Al W I => ?_
    refine zk [10] I fun I => ?_
    exact zret I (v := fun Al => .tuple #[.agg #[.int .i64 (((f.vr x ⟨2, X, f.g.lo + ((e - 1 : Nat) : Int)⟩).cls : Nat) : Int), .bool ((f.vr x ⟨2, X, f.g.lo + ((e - 1 : Nat) : Int)⟩).neg), .bool ((f.vr x ⟨2, X, f.g.lo + ((e - 1 : Nat) : Int)⟩).x.neg), .slice pN (dig B16 (f.vr x ⟨2, X, f.g.lo + ((e - 1 : Nat) : Int)⟩).x.m).length cN, .int .i64 ((f.vr x ⟨2, X, f.g.lo + ((e - 1 : Nat) : Int)⟩).x.e)], .bool x]) fun Al W I => givesVrb_of (by rw [hD]) rfl I.fa.1 (by omega) I.below
  refine zb I 95 (n == 3) (false) (f95) fun Al W I => ?_
  have qx : f.ext = false := by rw [hext]; exact decide_eq_false (beq_eq_false_iff_ne.1 f95)
  have qF : dN = f.F := by have := hd1F (by omega) qx; omega
  rcases Bool.eq_false_or_eq_true (o) with f125 | f125
  · skip
    refine zb I 125 (o) (true) (f125) fun Al W I => ?_
    rcases Bool.eq_false_or_eq_true ((((dig B16 X).length : Nat) : Int) == 0) with f128 | f128
    · skip
      refine zb I 128 ((((dig B16 X).length : Nat) : Int) == 0) (true) (f128) fun Al W I => ?_
      refine zd [0] I fun Al W I => ?_
      have hD : f.dec x e X = ⟨3, 0, 0⟩ := by unfold Fm.dec; rw [if_neg (by omega), if_pos ⟨q1, hoE.1 f125⟩, if_pos (.inl ⟨qx, hX0.1 (by have := beq_iff_eq.1 f128; omega)⟩)]
      refine zk [0, 1, 2] I fun I => ?_
      refine zo 3 I (fun I => ?_)
      refine zn I fun Al W I => ?_
      refine zk [4] I fun I => ?_
      exact zret I (v := fun Al => .tuple #[.agg #[.int .i64 3, .bool x, .bool false, .slice none 0 0, .int .i64 0], .bool x]) fun Al W I => givesVrb_none (by rw [hD, vr_num f x (by omega), if_pos (by omega)]) rfl I.below
    refine zb I 128 ((((dig B16 X).length : Nat) : Int) == 0) (false) (f128) fun Al W I => ?_
    refine zd [0] I fun Al W I => ?_
    have hD : f.dec x e X = ⟨4, 0, 0⟩ := by unfold Fm.dec; rw [if_neg (by omega), if_pos ⟨q1, hoE.1 f125⟩, if_neg (fun h => by rcases h with h | h <;> first | (have k := h.1; rw [qx] at k; cases k; done) | (have k := beq_eq_false_iff_ne.1 f128; have k2 := hX0.2 h.2; omega))]
    refine zk [0, 1] I fun I => ?_
    refine zo 2 I (fun I => ?_)
    refine zn I fun Al W I => ?_
    refine zk [3] I fun I => ?_
    exact zret I (v := fun Al => .tuple #[.agg #[.int .i64 4, .bool false, .bool false, .slice none 0 0, .int .i64 0], .bool x]) fun Al W I => givesVrb_none (by rw [hD, vr_num f x (by omega), if_neg (by omega)]) rfl I.below
  refine zb I 125 (o) (false) (f125) fun Al W I => ?_
  have qo : ¬ (f.fam = 1 ∧ e = 2 ^ f.E - 1) := fun h => by have k := hoE.2 h.2; rw [f125] at k; cases k
  rcases Bool.eq_false_or_eq_true (decide (((e : Nat) : Int) > 0)) with f135 | f135
  · skip
    refine zb I 135 (decide (((e : Nat) : Int) > 0)) (true) (f135) fun Al W I => ?_
    refine zg I (fun Al W I => have hz := I.bel.size; rplus p54 p59 _ _ c54 c59 X (2 ^ dN) (X + 2 ^ dN) W I.fa.2.1.rd I.fa.1.rd rfl rfl (by omega) (by omega) rfl) fun Al V Iv hz hB K k => ?_
    rintro _ W ⟨p138, c138, rfl, o138, hb⟩
    refine ⟨_, rfl, k _ _ hb fun I => ?_⟩
    clear k K
    have I := I.rf o138 (hB _) Iv
    refine zd [0] I fun Al W I => ?_
    refine zk [0, 1, 2, 3] I fun I => ?_
    refine zki 4 I .i64 (((e : Nat) : Int) - 1) (((e : Nat) : Int) - 1) (IntWalk.i64_in _ (by omega)) fun I => ?_
    refine zkm 5 I .i64 (if ((((e : Nat) : Int) - 1) : Int) > 0 then (((e : Nat) : Int) - 1) else 0) (((e - 1 : Nat) : Int)) ((by split <;> omega)) fun I => ?_
    refine zki 6 I .i64 (f.g.lo + ((e - 1 : Nat) : Int)) (f.g.lo + ((e - 1 : Nat) : Int)) (IntWalk.i64_in _ (by omega)) fun I => ?_
    refine zk [8] I fun I => ?_
    refine zo 7 I (fun I => ?_)
    refine zg I (fun Al W I => have hz := I.bel.size; refNumber_any f x (lk 0 Al 2) (lk 0 Al 1) (X + 2 ^ dN) p138 c138 _ (f.g.lo + ((e - 1 : Nat) : Int)) W I.fa.1 (by have := dig16_le_pow (x := X + 2 ^ dN) (n := 122) (k := 8) (plus_lt122 hXlt (by omega) (by omega)) (by omega); omega) (by omega) (I.box 2 4 #[.bool x]) (I.box 1 79 #[.int .i64 ((f.size : Nat) : Int), .int .i64 ((f.E : Nat) : Int), .int .i64 ((f.F : Nat) : Int), .int .i64 f.g.rad, .int .i64 f.g.digs, .int .i64 f.g.lo, .int .i64 f.g.hi, .bool f.g.grad, .int .i64 ((f.fam : Nat) : Int)])) fun Al V Iv hz hB K k => ?_
    rintro _ W ⟨pN, cN, rfl, oN, hb⟩
    have hD : f.dec x e X = ⟨2, X + 2 ^ dN, f.g.lo + ((e - 1 : Nat) : Int)⟩ := by unfold Fm.dec; rw [if_neg (by omega), if_neg qo, if_neg (by omega), if_neg (by have := of_decide_eq_true f135; omega), if_pos qx, qF]; simp only [Dc.mk.injEq, true_and]; have := of_decide_eq_true f135; omega
    refine ⟨_, rfl, k _ _ hb fun I => ?_⟩
    clear k K
    have I := I.rf oN (hB _) Iv
    refine zo 9 I (fun I => ?_)
    refine zn I fun Al W I => ?_
    refine zk [10] I fun I => ?_
    exact zret I (v := fun Al => .tuple #[.agg #[.int .i64 (((f.vr x ⟨2, X + 2 ^ dN, f.g.lo + ((e - 1 : Nat) : Int)⟩).cls : Nat) : Int), .bool ((f.vr x ⟨2, X + 2 ^ dN, f.g.lo + ((e - 1 : Nat) : Int)⟩).neg), .bool ((f.vr x ⟨2, X + 2 ^ dN, f.g.lo + ((e - 1 : Nat) : Int)⟩).x.neg), .slice pN (dig B16 (f.vr x ⟨2, X + 2 ^ dN, f.g.lo + ((e - 1 : Nat) : Int)⟩).x.m).length cN, .int .i64 ((f.vr x ⟨2, X + 2 ^ dN, f.g.lo + ((e - 1 : Nat) : Int)⟩).x.e)], .bool x]) fun Al W I => givesVrb_of (by rw [hD]) rfl I.fa.1 (by omega) I.below
  refine zb I 135 (decide (((e : Nat) : Int) > 0)) (false) (f135) fun Al W I => ?_
  refine zd [0] I fun Al W I => ?_
  refine zk [0, 1, 2, 3] I fun I => ?_
  refine zki 4 I .i64 (((e : Nat) : Int) - 1) (((e : Nat) : Int) - 1) (IntWalk.i64_in _ (by omega)) fun I => ?_
  refine zkm 5 I .i64 (if ((((e : Nat) : Int) - 1) : Int) > 0 then (((e : Nat) : Int) - 1) else 0) (((e - 1 : Nat) : Int)) ((by split <;> omega)) fun I => ?_
  refine zki 6 I .i64 (f.g.lo + ((e - 1 : Nat) : Int)) (f.g.lo + ((e - 1 : Nat) : Int)) (IntWalk.i64_in _ (by omega)) fun I => ?_
  refine zk [8] I fun I => ?_
  refine zo 7 I (fun I => ?_)
  refine zg I (fun Al W I => have hz := I.bel.size; refNumber_any f x (lk 0 Al 2) (lk 0 Al 1) X p54 c54 _ (f.g.lo + ((e - 1 : Nat) : Int)) W I.fa.2.1 (by omega) (by omega) (I.box 2 4 #[.bool x]) (I.box 1 79 #[.int .i64 ((f.size : Nat) : Int), .int .i64 ((f.E : Nat) : Int), .int .i64 ((f.F : Nat) : Int), .int .i64 f.g.rad, .int .i64 f.g.digs, .int .i64 f.g.lo, .int .i64 f.g.hi, .bool f.g.grad, .int .i64 ((f.fam : Nat) : Int)])) fun Al V Iv hz hB K k => ?_
  rintro _ W ⟨pN, cN, rfl, oN, hb⟩
  have hD : f.dec x e X = ⟨2, X, f.g.lo + ((e - 1 : Nat) : Int)⟩ := by unfold Fm.dec; rw [if_neg (by omega), if_neg qo, if_neg (by omega), if_pos (by have := of_decide_eq_false f135; omega)]; simp only [Dc.mk.injEq, true_and]; have := of_decide_eq_false f135; omega
  refine ⟨_, rfl, k _ _ hb fun I => ?_⟩
  clear k K
  have I := I.rf oN (hB _) Iv
  refine zo 9 I (fun I => ?_)
  refine zn I fun Al W I => ?_
  refine zk [10] I fun I => ?_
  exact zret I (v := fun Al => .tuple #[.agg #[.int .i64 (((f.vr x ⟨2, X, f.g.lo + ((e - 1 : Nat) : Int)⟩).cls : Nat) : Int), .bool ((f.vr x ⟨2, X, f.g.lo + ((e - 1 : Nat) : Int)⟩).neg), .bool ((f.vr x ⟨2, X, f.g.lo + ((e - 1 : Nat) : Int)⟩).x.neg), .slice pN (dig B16 (f.vr x ⟨2, X, f.g.lo + ((e - 1 : Nat) : Int)⟩).x.m).length cN, .int .i64 ((f.vr x ⟨2, X, f.g.lo + ((e - 1 : Nat) : Int)⟩).x.e)], .bool x]) fun Al W I => givesVrb_of (by rw [hD]) rfl I.fa.1 (by omega) I.below
end Go.Proofs.YtcipdimogodndaaDoor

namespace Go.Slip
theorem bytesOf_strOf {xs : List Nat} (h : ∀ x ∈ xs, x < 256) : bytesOf (strOf xs) = xs := by
  unfold bytesOf strOf
  simp only [List.map_map]
  rw [show (xs.map (UInt8.toNat ∘ UInt8.ofNat)) = xs.map id from List.map_congr_left fun x hx => by
    have := h x hx
    simp only [Function.comp, id]
    rw [UInt8.toNat_ofNat']
    omega]
  simp
theorem rd_lit4 {w : World} {b : Nat} {t : TypeId} {k : IntKind} {x0 x1 x2 x3 : Nat} (h : Bt w b t #[.int k (x0 : Int), .int k (x1 : Int), .int k (x2 : Int), .int k (x3 : Int)]) : Rd w k (some ⟨b, 0, none⟩) [x0, x1, x2, x3] := by
  refine ⟨fun _ => ⟨rfl, rfl⟩, fun j hj => ?_⟩
  obtain ⟨h0, h1, h2, h3⟩ := h.bx.e4
  simp only [List.length_cons, List.length_nil] at hj
  match j, hj with
  | 0, _ => exact h0
  | 1, _ => exact h1
  | 2, _ => exact h2
  | 3, _ => exact h3
theorem rd_lit1 {w : World} {b : Nat} {t : TypeId} {k : IntKind} {x0 : Nat} (h : Bt w b t #[.int k (x0 : Int)]) : Rd w k (some ⟨b, 0, none⟩) [x0] := by
  refine ⟨fun _ => ⟨rfl, rfl⟩, fun j hj => ?_⟩
  simp only [List.length_cons, List.length_nil] at hj
  obtain rfl : j = 0 := by omega
  exact h.e1
theorem exec_seq {P : Program} {a : Act} {w : World} {x y : Operand} {dst : Option Tmp} {t t2 tt : TypeId} {pos : String} {af : Array Edge} {g : Option (Nat × Bool)} {s : ByteArray} (hx : a.eval x = .string s) (hy : a.eval y = .string s) :
    (execOp a.eval ⟨dst, .binOp .eql t x y tt, t2, pos, af, g⟩).run P w = .ok (.value (.bool true)) w := by
  unfold execOp
  simp only [hx, hy]
  simp [go_sem, eqGuard]
end Go.Slip
namespace Go.Proofs.YtcipdimogodndaaDoor
open Go.RowKit Go.Slip

def errEncN (n cls : Int) (a : Din) : Int := if IsFm n then errEnc (fmt n) cls a else 6
theorem Encode_any (n : Int) (cls : Int) (a : Din) (w : World) (ha : InD w a) (hT : TabW w) :
    Calls Tryd.prog 29 #[.int .i64 n, .agg #[.int .i64 cls, .bool a.g, .slice a.p a.xs.length a.c, .int .i64 a.e]] w (GivesS w (errEncN n cls a) (encOut (fmt n) cls a)) := by
  unfold errEncN
  by_cases hn : IsFm n
  · rw [if_pos hn]; exact encode_fm n cls a w hn ha hT
  · rw [if_neg hn]
    have HF := fun W => Lib.hid (forms_not n hn W)
    generalize encOut (fmt n) cls a = s
    have hT116 : SxAgg Tryd.prog 116 12 := sxAgg_of (by kernel_rfl) (by kernel_rfl)
    refine calls_of_wp Tryd.func29 rfl ?_
    refine sx_frame (a' := ⟨((.int .i64 n) :: (.agg #[.int .i64 cls, .bool a.g, .slice a.p a.xs.length a.c, .int .i64 a.e]) :: us 145 []).toArray, []⟩) (by kernel_rfl) ?_
    refine ye ?_
    refine yw 0 rfl 3 #[.int .i64 cls, .bool a.g, .slice a.p a.xs.length a.c, .int .i64 a.e] 56 (fun V1 hbV1 hzV1 b3 => ?_)
    refine yzt 2 ?_
    refine ye ?_
    refine yc 1 rfl 13 ((HF V1).out) (fun Gx hGx => ?_)
    rintro eV2 V2 ⟨rfl, hbV2⟩
    have hzV2 := hbV2.size
    refine ⟨_, rfl, hGx _ _ ?_⟩
    clear hGx Gx
    refine yw 3 rfl 6 #[.int .i64 0, .int .i64 0, .int .i64 0, .int .i64 0, .int .i64 0, .int .i64 0, .int .i64 0, .bool false, .bool false, .bool false, .bool false, .nilFunc] 116 (fun V3 hbV3 hzV3 b6 => ?_)
    have boV4 := b6
    refine ysw 0 rfl b6 hT116 #[.int .i64 0, .int .i64 0, .int .i64 0, .int .i64 0, .int .i64 0, .int .i64 0, .int .i64 0, .bool false, .bool false, .bool false, .bool false, .nilFunc] ?_
    clear b6
    intro V4 hOV4 b6
    have hzV4 := hOV4.size
    refine yzt 1 ?_
    refine wp_seq ?_
    refine yq ?_
    refine yT ?_
    refine yq ?_
    refine wp_ret ?_
    repeat (first | with_reducible refine sx_thenret ?_ | with_reducible refine sx_blockret ?_)
    refine yret (.tuple #[Go.Value.string (ByteArray.mk #[]), .int .i64 6]) (res2 Tryd.results29 rvt rvt) ?_
    exact givesS_err (r := 6) rfl (by decide) rfl ((bthru (bthru hbV1 hbV2) hbV3).trans (hOV4.below (by omega)))

def a5 : Din := ⟨false, none, 0, [], 0⟩
theorem beg_num : numOfS (fmt 1) (strOf [64, 64, 0, 0]) = 1077936128 := by
  unfold numOfS
  rw [bytesOf_strOf (by decide)]
  decide +kernel
theorem beg_err : errPat 1 (strOf [64, 64, 0, 0]) = 0 := errPat_zero.2 ⟨by decide, by rw [strOf_size]; rfl⟩
theorem beg_dec : decP 1 (strOf [64, 64, 0, 0]) = ⟨2, false, 3, 0⟩ := by
  unfold decP
  rw [if_pos beg_err, beg_num]
  have hd : (fmt 1).decN 1077936128 = ⟨2, 12582912, -22⟩ := by kernel_rfl
  have hg : (fmt 1).neg 1077936128 = false := by decide +kernel
  unfold Fm.valN Fm.vl
  rw [hd, hg]
  have ht : tz 12582912 = 22 := tz_mul 3 22 rfl
  have hw : wid (fmt 1).g = 1 := by decide
  unfold Dc.c
  simp [ht, hw]
theorem beg_enc : errEncN 6 5 a5 = 0 ∧ encOut (fmt 6) 5 a5 = strOf [0, 128, 0, 0] := by
  refine ⟨by decide +kernel, ?_⟩
  show strOf ((fmt 6).strP ((fmt 6).encP 5 a5.g (numD (fmt 6) a5))) = _
  have h1 : (fmt 6).encP 5 a5.g (numD (fmt 6) a5) = ⟨true, 0, 0⟩ := rfl
  have h2 : (fmt 6).strP ⟨true, 0, 0⟩ = [0, 128, 0, 0] := by decide +kernel
  rw [h1, h2]

set_option maxRecDepth 100000 in
theorem codecBegun_any (w : World) (hT : TabW w) : Calls Tryd.prog 27 #[] w fun en w' => en = .returned (.bool true) ∧ Below w.heap.size w w' := by
  have HD := fun W h => Lib.hid (Decode_any 1 (strOf [64, 64, 0, 0]) W h)
  rw [beg_dec, beg_err] at HD
  have HE : ∀ W, TabW W → Hid (Calls Tryd.prog 29 #[.int .i64 6, .agg #[.int .i64 5, .bool false, .slice none 0 0, .int .i64 0]] W fun en w' => en = .returned (.tuple #[.string (strOf [0, 128, 0, 0]), .int .i64 0]) ∧ Below W.heap.size W w') := by
    intro W h
    have := Encode_any 6 5 a5 W ⟨Rd.nil _ _ _, by simp [a5], by simp [a5], by simp [a5]⟩ h
    rw [beg_enc.1, beg_enc.2] at this
    unfold GivesS at this
    rw [if_pos rfl] at this
    exact Lib.hid this
  have e3 : dig B32 3 = [3] := dig_small B32_two (by omega) (by unfold B32; omega)
  have hT3 : SxOne Tryd.prog 3 := sxOne_of (by kernel_rfl) (by kernel_rfl)
  have hT23 : SxOne Tryd.prog 23 := sxOne_of (by kernel_rfl) (by kernel_rfl)
  have hT56 : SxAgg Tryd.prog 56 4 := sxAgg_of (by kernel_rfl) (by kernel_rfl)
  refine calls_of_wp Tryd.func27 rfl ?_
  refine sx_frame (a' := ⟨(us 44 []).toArray, []⟩) (by kernel_rfl) ?_
  refine yq ?_
  refine ye ?_
  refine ywv 0 rfl 6 (.slice (some ⟨w.heap.size, 0, none⟩) 4 4) #[.int .u8 64, .int .u8 64, .int .u8 0, .int .u8 0] 5 (fun V1 hbV1 hzV1 b6 => ?_)
  refine yv 0 rfl 7 (.string (strOf [64, 64, 0, 0])) ?_ (exec_str (p := some ⟨w.heap.size, 0, none⟩) (n := 4) (c := 4) (xs := [64, 64, 0, 0]) uBytes uByte uStr (rd_lit4 b6) rfl (by kernel_rfl))
  replace hT := (hT.past hbV1)
  refine yc 0 rfl 8 ((HD V1 hT).out) (fun Gx hGx => ?_)
  rintro eV2 V2 ⟨p8, c8, rfl, o8, hbV2⟩
  have hzV2 := hbV2.size
  refine ⟨_, rfl, hGx _ _ ?_⟩
  clear hGx Gx
  refine yw 3 rfl 1 #[.int .i64 0, .bool false, .slice none 0 0, .int .i64 0] 56 (fun V3 hbV3 hzV3 b1 => ?_)
  have boV4 := b1
  refine ysw 0 rfl b1 hT56 #[.int .i64 2, .bool false, .slice p8 (dig B32 3).length c8, .int .i64 0] ?_
  clear b1
  intro V4 hOV4 b1
  have hzV4 := hOV4.size
  refine yzt 1 ?_
  refine ye ?_
  replace hT := (hT.past ((bthru hbV2 hbV3).trans (hOV4.below (by omega))))
  refine yc 1 rfl 13 ((HE V4 hT).out) (fun Gx hGx => ?_)
  rintro eV5 V5 ⟨rfl, hbV5⟩
  have hzV5 := hbV5.size
  refine ⟨_, rfl, hGx _ _ ?_⟩
  clear hGx Gx
  refine yzt 5 ?_
  refine ye ?_
  replace b1 := (b1.past hbV5)
  refine yl 4 rfl 20 b1 hT3 0 ?_
  refine yl 4 rfl 25 b1 hT23 2 ?_
  refine ywv 0 rfl 26 (.slice (some ⟨V5.heap.size, 0, none⟩) 1 1) #[.int .u32 3] 91 (fun V6 hbV6 hzV6 b26 => ?_)
  replace o8 := (o8.past (bthru (bthru (hbV3.trans (hOV4.below (by omega))) hbV5) hbV6))
  refine yc 0 rfl 27 (refSameNat_any p8 (some ⟨V5.heap.size, 0, none⟩) _ c8 1 1 (dig B32 3) [3] V6 o8.rd (rd_lit1 b26) rfl rfl e3 (by rw [e3]; decide)) (fun Gx hGx => ?_)
  rintro eV7 V7 ⟨rfl, hbV7⟩
  have hzV7 := hbV7.size
  refine ⟨_, rfl, hGx _ _ ?_⟩
  clear hGx Gx
  replace b1 := (b1.past (bthru hbV6 hbV7))
  refine yl 3 rfl 31 b1 hT3 3 ?_
  refine ywv 8 rfl 40 (.slice (some ⟨V7.heap.size, 0, none⟩) 4 4) #[.int .u8 0, .int .u8 128, .int .u8 0, .int .u8 0] 5 (fun V8 hbV8 hzV8 b40 => ?_)
  refine yv 0 rfl 41 (.string (strOf [0, 128, 0, 0])) ?_ (exec_str (p := some ⟨V7.heap.size, 0, none⟩) (n := 4) (c := 4) (xs := [0, 128, 0, 0]) uBytes uByte uStr (rd_lit4 b40) rfl (by kernel_rfl))
  refine yv 0 rfl 42 (.bool true) ?_ (exec_seq (s := strOf [0, 128, 0, 0]) (by kernel_rfl) (by kernel_rfl))
  refine yzt 2 ?_
  refine wp_ret ?_
  repeat (first | with_reducible refine sx_thenret ?_ | with_reducible refine sx_blockret ?_)
  refine yret (.bool true) (res1 Tryd.results27 rvt) ?_
  exact ⟨rfl, (bthru (bthru (bthru (bthru ((bthru (bthru hbV1 hbV2) hbV3).trans (hOV4.below (by omega))) hbV5) hbV6) hbV7) hbV8)⟩

end Go.Proofs.YtcipdimogodndaaDoor

namespace Go.Slip

theorem norm_one (e : Int) : norm 1 e = ⟨false, 1, e⟩ := by
  have h : ofZ 1 e = ⟨false, 1, e⟩ := by unfold ofZ; simp
  show bare (ofZ 1 e) = _
  rw [h]
  exact bare_of (.inl rfl)
theorem least_in {g : Gd} (G : GoodG g) : inGridD (leastD g) g = true := by
  have wp := wid_pos g
  have hd := G.d1
  have hl := G.le
  obtain ⟨D, hD⟩ : ∃ D : Nat, g.digs = D := ⟨g.digs.toNat, by omega⟩
  cases hg : g.grad with
  | true =>
    have h := inGrid_norm G hD (z := 1) (k := g.lo) (by show 1 < _; exact Nat.one_lt_two_pow (by have := Nat.mul_pos (show 0 < wid g by omega) (show 0 < D by omega); omega)) (.inr (.inr ⟨hg, rfl⟩)) (by omega) (by omega)
    have e : norm 1 (wid g * g.lo) = leastD g := by
      unfold leastD
      rw [hg]
      simp only [if_true, Int.add_zero]
      exact norm_one _
    rwa [e] at h
  | false =>
    have hp := Nat.pow_pos (n := wid g * (D - 1)) (show 0 < 2 by omega)
    have hna : ((2 : Int) ^ (wid g * (D - 1))).natAbs = 2 ^ (wid g * (D - 1)) := by rw [Int.natAbs_pow]; rfl
    have h := inGrid_norm G hD (z := 1 * 2 ^ (wid g * (D - 1))) (k := g.lo) (by rw [Int.one_mul, hna]; exact Nat.pow_lt_pow_right (by omega) (Nat.mul_lt_mul_of_pos_left (by omega) (by omega))) (.inr (.inl (by rw [Int.one_mul, hna]; exact Nat.le_refl _))) (by omega) (by omega)
    rw [norm_shift] at h
    have e : norm 1 (wid g * g.lo + (wid g * (D - 1) : Nat)) = leastD g := by
      unfold leastD
      rw [hg]
      have e1 : (wid g : Int) * g.lo + ((wid g * (D - 1) : Nat) : Int) = wid g * (g.lo + (g.digs - 1)) := by
        rw [Int.mul_add, Int.natCast_mul, hD]
        congr 2
        omega
      rw [e1]
      exact norm_one _
    rwa [e] at h

theorem pStep_ok {a : Dv} {g : Gd} (G : GoodG g) (h : (pStep a g).2 = true) : inGridD (pStep a g).1 g = true ∧ Bare (pStep a g).1 := by
  unfold pStep at h ⊢
  split
  · exact ⟨least_in G, .inl rfl⟩
  · rename_i h0
    rw [if_neg h0] at h
    split
    · rename_i h1
      rw [if_pos h1] at h
      exact ⟨h, rPlus_bare _ _⟩
    · rename_i h1
      rw [if_neg h1] at h
      split
      · rename_i h2
        rw [if_pos h2] at h
        split
        · exact ⟨rfl, .inr rfl⟩
        · rename_i h3
          rw [if_neg h3] at h
          exact ⟨h, rPlus_bare _ _⟩
      · rename_i h2
        rw [if_neg h2] at h
        exact ⟨h, rPlus_bare _ _⟩

theorem dig32_len_pow {x k n : Nat} (h : x < 2 ^ k) (hk : k ≤ 32 * n) : (dig B32 x).length ≤ n := by
  rw [dig_len_le B32_two]
  unfold B32
  rw [show (4294967296 : Nat) = 2 ^ 32 from rfl, ← Nat.pow_mul]
  exact Nat.lt_of_lt_of_le h (Nat.pow_le_pow_right (by omega) hk)
theorem dig16_pow {x k n : Nat} (h : x < 2 ^ k) (hk : k ≤ 16 * n) : (dig B16 x).length ≤ n := by
  rw [dig_len_le B16_two]
  unfold B16
  rw [show (65536 : Nat) = 2 ^ 16 from rfl, ← Nat.pow_mul]
  exact Nat.lt_of_lt_of_le h (Nat.pow_le_pow_right (by omega) hk)
theorem grid_len {a : Dv} {g : Gd} (hg : errG g = 0) (hin : inGridD a g = true) : (dig B32 a.m).length ≤ 1200 := by
  obtain ⟨w1, w2, w3⟩ := goodG_wide hg
  by_cases h0 : a.m = 0
  · rw [h0, dig_zero]; simp
  · unfold inGridD at hin
    rw [if_neg h0] at hin
    have hd := (goodG_of hg).d1
    by_cases h1 : a.e < wid g * g.lo ∨ wid g * (g.hi + g.digs) < topD a
    · rw [if_pos h1] at hin; cases hin
    · have e1 : (wid g : Int) * (g.hi + g.digs) = wid g * g.hi + wid g * g.digs := Int.mul_add _ _ _
      have e : topD a = a.e + blen a.m := rfl
      rw [e1, e] at h1
      exact dig32_len_pow ((blen_le _ _).1 (Nat.le_refl (blen a.m))) (by omega)

theorem num_same (f : Fm) (g : Bool) (d : Dc) : bare ⟨(f.vl g d).neg, (f.vl g d).d, wid f.g * (f.vl g d).pow⟩ = (f.vr g d).x := by
  by_cases h : d.c = 2
  · unfold Fm.vl Fm.vr
    simp only [h, if_true]
    have hw := wid_pos f.g
    rw [if_pos (by omega)]
    have e : (wid f.g : Int) * (d.p + (tz d.m / wid f.g : Nat)) = wid f.g * d.p + ((tz d.m / wid f.g * wid f.g : Nat) : Int) := by
      rw [Int.mul_add, Int.natCast_mul, Int.mul_comm (wid f.g : Int) ((tz d.m / wid f.g : Nat) : Int)]
    rw [e, ← bare_shift]
    have hm : d.m ≠ 0 := by
      intro h0
      unfold Dc.c at h
      split at h
      · omega
      · rename_i k
        exact k ⟨h, h0⟩
    have hdv : 2 ^ (tz d.m / wid f.g * wid f.g) ∣ d.m := Nat.dvd_trans (Nat.pow_dvd_pow 2 (Nat.div_mul_le_self _ _)) ⟨d.m / 2 ^ tz d.m, ((tz_spec d.m (by omega)).1).symm⟩
    rw [Nat.div_mul_cancel hdv]
  · unfold Fm.vl Fm.vr
    simp only [if_neg h]
    exact bare_zero _ _

theorem dSign_iff (d : Dv) : dSign d = 0 ↔ d.m = 0 := by unfold dSign; by_cases h : d.m = 0 <;> cases d.neg <;> simp [h]
end Go.Slip

namespace Go.Proofs.YtcipdimogodndaaDoor
open Go.RowKit Go.Slip

def fromN (x : Dv) (up : Bool) : Dv := if up = true then x else dMinus x
def nextN (x : Dv) (g : Gd) (up : Bool) : Dv := fromN (pStep (fromN x up) g).1 up
def errNx (cls : Nat) (x : Dv) (g : Gd) (up : Bool) : Int := if 2 < cls ∨ inGridD x g = false then 4 else if (pStep (fromN x up) g).2 = false then 5 else 0
def outNx (f : Fm) (x : Dv) (up : Bool) : ByteArray := if (nextN x f.g up).m = 0 then strOf (f.str false 0 0) else strOf (f.strP (f.numP (nextN x f.g up)))
def errNext (n : Int) (s : ByteArray) (up : Bool) : Int := if errPat n s = 0 then errNx ((fmt n).refN (numOfS (fmt n) s)).cls ((fmt n).refN (numOfS (fmt n) s)).x (fmt n).g up else errPat n s
def nextOut (n : Int) (s : ByteArray) (up : Bool) : ByteArray := outNx (fmt n) ((fmt n).refN (numOfS (fmt n) s)).x up

structure PatN (f : Fm) (v : Vl) (x : Dv) : Prop where
  same : bare ⟨v.neg, v.d, wid f.g * v.pow⟩ = x
  bare : Bare x
  vlen : (dig B32 v.d).length ≤ 1000
  len : (dig B32 x.m).length ≤ 1000
  len16 : (dig B16 x.m).length ≤ 1000
  pl : -100000 ≤ v.pow
  ph : v.pow ≤ 100000
  lo : -100000 ≤ x.e
  hi : x.e ≤ 100000
  c1 : 1 ≤ v.cls
theorem patN_aux {f : Fm} {g : Bool} {D : Dc} (k1 : 1 ≤ D.c) (k2 : D.m < 2 ^ (f.F + 1)) (k3 : -16445 ≤ D.p ∧ D.p ≤ 16323) (z2 : f.F ≤ 64) : PatN f (f.vl g D) (f.vr g D).x := by
  have hs := num_same f g D
  have hml : (dig B32 D.m).length ≤ 3 := dig_le_pow k2 (by omega)
  have hml16 : (dig B16 D.m).length ≤ 5 := dig16_pow k2 (by omega)
  have hw := wid_pos f.g
  have hmu := mul_bd (wd := wid f.g) (k := D.p) (B := 16445) hw.2 (by omega)
  have hvd : (dig B32 (f.vl g D).d).length ≤ 3 := by
    unfold Fm.vl
    simp only
    split
    · exact Nat.le_trans (dig_len_mono B32_two (Nat.div_le_self _ _)) hml
    · simp [dig_zero]
  have hvp : -100000 ≤ (f.vl g D).pow ∧ (f.vl g D).pow ≤ 100000 := by
    unfold Fm.vl
    simp only
    split
    · have h1 : tz D.m ≤ 32000 := tz_bd D.m (by omega)
      have h2 := Nat.div_le_self (tz D.m) (wid f.g)
      obtain ⟨q, hq⟩ : ∃ q : Nat, tz D.m / wid f.g = q := ⟨_, rfl⟩
      rw [hq] at h2 ⊢
      omega
    · omega
  have hx : (dig B32 (f.vr g D).x.m).length ≤ 3 ∧ (dig B16 (f.vr g D).x.m).length ≤ 5 ∧ -100000 ≤ (f.vr g D).x.e ∧ (f.vr g D).x.e ≤ 100000 := by
    unfold Fm.vr
    simp only
    split
    · have := bare_e (⟨g, D.m, wid f.g * D.p⟩ : Dv) (n := 3) hml (lo := -80000) (hi := 70000) (by simp only; omega) (by simp only; omega) (by omega) (by omega)
      exact ⟨Nat.le_trans (bare_len B32_two _) hml, Nat.le_trans (bare_len B16_two _) hml16, by omega, by omega⟩
    · simp [dig_zero]
  exact ⟨hs, by rw [← hs]; exact bare_bare _, by omega, by omega, by omega, hvp.1, hvp.2, by omega, by omega, k1⟩

theorem patN_of {f : Fm} (G : GoodF f) (s : ByteArray) : PatN f (f.valN (numOfS f s)) (f.refN (numOfS f s)).x := by
  have he : f.exp (numOfS f s) < 2 ^ f.E := Nat.mod_lt _ (Nat.pow_pos (by omega))
  have hx : f.frac (numOfS f s) < 2 ^ f.F := Nat.mod_lt _ (Nat.pow_pos (by omega))
  refine patN_aux ?_ (dec_m (f := f) (f.neg (numOfS f s)) (e := f.exp (numOfS f s)) hx) (dec_p G (f.neg (numOfS f s)) (frac := f.frac (numOfS f s)) he) G.f2
  have := dec_cls f (f.neg (numOfS f s)) (f.exp (numOfS f s)) (f.frac (numOfS f s))
  unfold Fm.decN Dc.c
  split <;> omega

set_option maxHeartbeats 4000000 in
set_option maxRecDepth 100000 in
theorem next_fm (n : Int) (s : ByteArray) (up : Bool) (w : World) (hn : IsFm n) (hs : s.size = (fmt n).size) (hT : TabW w) :
    Calls Tryd.prog 36 #[.int .i64 n, .string s, .bool up] w (GivesS w (errNx ((fmt n).refN (numOfS (fmt n) s)).cls ((fmt n).refN (numOfS (fmt n) s)).x (fmt n).g up) (outNx (fmt n) ((fmt n).refN (numOfS (fmt n) s)).x up)) := by
  have G := good_fm hn
  have HF := fun W => Lib.hid (open_ok n s W hn hs)
  have HD := fun W h => Lib.hid (decode_any (fmt n) s W G hs h)
  have PN := patN_of G s
  have hcl : ((fmt n).refN (numOfS (fmt n) s)).cls = ((fmt n).valN (numOfS (fmt n) s)).cls := rfl
  rw [hcl]
  generalize ((fmt n).refN (numOfS (fmt n) s)).x = x at *
  generalize (fmt n).valN (numOfS (fmt n) s) = v at *
  generalize (fmt n).neg (numOfS (fmt n) s) = g at *
  generalize fmt n = f at *
  obtain ⟨hsm, hB, hvl, hxl, _, hpl, hph, hlo, hhi, hc1⟩ := PN
  have hg := G.g
  have GG := goodG_of hg
  have hkp := keeps_eq hB GG
  have hPe : 0 < 2 ^ f.E := Nat.pow_pos (by omega)
  have HR : ∀ (W : World) p c, Own W w.heap.size .u32 91 p c (dig B32 v.d) → TabW W → Hid (Calls Tryd.prog 71 #[.agg #[.int .i64 ((f.size : Nat) : Int), .int .i64 ((f.E : Nat) : Int), .int .i64 ((f.F : Nat) : Int), .int .i64 f.g.rad, .int .i64 f.g.digs, .int .i64 f.g.lo, .int .i64 f.g.hi, .bool f.g.grad, .bool f.hid, .bool f.inf, .bool f.res, .func (.func (ordF f)) #[] #[]], .agg #[.int .i64 ((v.cls : Nat) : Int), .bool v.neg, .slice p (dig B32 v.d).length c, .int .i64 v.pow]] W (GivesD W W.heap.size x)) := by
    intro W p c h1 h2
    have := raw_any f v.neg v.d v.pow v.cls p c W h1.rd h1.le_cap (by omega) ⟨hpl, hph⟩ h2
    rw [hsm] at this
    exact Lib.hid this
  obtain ⟨x1, h1⟩ : ∃ x1, fromN x up = x1 := ⟨_, rfl⟩
  have hm1 : x1.m = x.m ∧ x1.e = x.e ∧ inGridD x1 f.g = inGridD x f.g ∧ Bare x1 := by
    subst h1
    unfold fromN
    split
    · exact ⟨rfl, rfl, rfl, hB⟩
    · exact ⟨rfl, rfl, rfl, dMinus_bare hB⟩
  obtain ⟨x2, h2⟩ : ∃ x2, (pStep x1 f.g).1 = x2 := ⟨_, rfl⟩
  obtain ⟨ok, hok⟩ : ∃ ok, (pStep x1 f.g).2 = ok := ⟨_, rfl⟩
  have hin2 := fun h : ok = true => pStep_ok (a := x1) GG (hok.trans h)
  rw [h2] at hin2
  obtain ⟨x3, h3⟩ : ∃ x3, fromN x2 up = x3 := ⟨_, rfl⟩
  have hm3 : x3.m = x2.m ∧ x3.e = x2.e ∧ inGridD x3 f.g = inGridD x2 f.g := by
    subst h3
    unfold fromN
    split <;> exact ⟨rfl, rfl, rfl⟩
  have HG : ∀ (W : World) p c base, Own W base .u32 91 p c (dig B32 x1.m) → inGridD x f.g = true → TabW W → base ≤ W.heap.size → Hid (Calls Tryd.prog 84 #[.agg #[.bool x1.neg, .slice p (dig B32 x1.m).length c, .int .i64 x1.e], .agg #[.int .i64 f.g.rad, .int .i64 f.g.digs, .int .i64 f.g.lo, .int .i64 f.g.hi, .bool f.g.grad]] W (GivesDB W base x2 ok)) := by
    intro W p c base k1 k2 k3 k4
    obtain ⟨q1, q2, q3, q4⟩ := hm1
    have q5 : (dig B32 x1.m).length ≤ 1200 := by rw [q1]; omega
    have he := inGrid_e hg hB k2
    have := gafter_any x1.neg p c base x1.m x1.e f.g W k1 q4 q5 (by omega) GG (q3.trans k2) k3 k4
    rw [show (⟨x1.neg, x1.m, x1.e⟩ : Dv) = x1 from rfl, h2, hok] at this
    exact Lib.hid this
  have hE : errNx v.cls x f.g up = if 2 < v.cls ∨ inGridD x f.g = false then 4 else if ok = false then 5 else 0 := by unfold errNx; rw [h1, hok]
  have hO : outNx f x up = if x3.m = 0 then strOf (f.str false 0 0) else strOf (f.strP (f.numP x3)) := by
    have h : nextN x f.g up = x3 := by unfold nextN; rw [h1, h2, h3]
    unfold outNx
    rw [h]
  rw [hE, hO]
  have hl3 := fun h : ok = true => grid_len hg (hin2 h).1
  have he3 := fun h : ok = true => inGrid_e hg (hin2 h).2 (hin2 h).1
  have hup : up = true → x1 = x ∧ x3 = x2 := fun h => by rw [← h1, ← h3, h]; exact ⟨rfl, rfl⟩
  have hdn : up = false → x1 = dMinus x ∧ x3 = dMinus x2 := fun h => by rw [← h1, ← h3, h]; exact ⟨rfl, rfl⟩
  clear hE hO h1 h2 h3 hok
  cases up with
  | true =>
    obtain ⟨e1, e3⟩ := hup rfl
    subst e1 e3
    clear hup hdn
    have I := Inv.start w [tabF] ⟨hT, True.intro⟩
    refine zstart [.v (.int .i64 n), .v (.string s), .v (.bool true)] I Tryd.func36 ?_
    refine zg I (fun Al W I => (HF W).out) fun Al V Iv hz hB K k => ?_
    rintro _ W ⟨rfl, hb⟩
    refine ⟨_, rfl, k _ _ hb fun I => ?_⟩
    clear k K
    refine zg I (fun Al W I => (HD W I.fa.1).out) fun Al V Iv hz hB K k => ?_
    rintro _ W ⟨p26, c26, rfl, o26, hb⟩
    refine ⟨_, rfl, k _ _ hb fun I => ?_⟩
    clear k K
    have I := I.own o26
    rcases Bool.eq_false_or_eq_true (((v.cls : Nat) : Int) != 2) with f31 | f31
    · skip
      refine zb I 31 (((v.cls : Nat) : Int) != 2) (true) (f31) fun Al W I => ?_
      rcases Bool.eq_false_or_eq_true (((v.cls : Nat) : Int) != 1) with f35 | f35
      · skip
        refine zb I 35 (((v.cls : Nat) : Int) != 1) (true) (f35) fun Al W I => ?_
        have hE : 2 < v.cls ∨ inGridD x1 f.g = false := .inl (by have := bne_iff_ne.1 f31; have := bne_iff_ne.1 f35; omega)
        refine zret I (v := fun Al => .tuple #[Go.Value.string (ByteArray.mk #[]), .int .i64 4]) fun Al W I => ?_
        first | exact givesS_err (r := 4) (if_pos hE) (by decide) rfl I.below | exact givesS_err (r := 5) ((if_neg hE).trans (if_pos f55)) (by decide) rfl I.below
      refine zb I 35 (((v.cls : Nat) : Int) != 1) (false) (f35) fun Al W I => ?_
      refine zg I (fun Al W I => have hz := I.bel.size; (HR W p26 c26 (I.fa.1.mono (by omega)) I.fa.2.1).out) fun Al V Iv hz hB K k => ?_
      rintro _ W ⟨p39, c39, rfl, o39, hb⟩
      refine ⟨_, rfl, k _ _ hb fun I => ?_⟩
      clear k K
      have I := I.own o39
      by_cases hk : inGridD x1 f.g = true
      · skip
        refine zg I (fun Al W I => have hz := I.bel.size; gkeeps_any x1.neg p39 c39 x1.e x1.m f.g W I.fa.1.rd (by omega) (by omega) GG) fun Al V Iv hz hB K k => ?_
        rintro _ W ⟨rfl, hb⟩
        refine ⟨_, congrArg (fun b => Ending.returned (.bool b)) (show (keepsD ⟨x1.neg, x1.m, x1.e⟩ f.g) = true from hkp.trans hk), k _ _ hb fun I => ?_⟩
        clear k K
        have hE : ¬ (2 < v.cls ∨ inGridD x1 f.g = false) := fun h => by rcases h with h | h <;> first | (rw [hk] at h; cases h; done) | (have := bne_eq_false_iff_eq.1 f31; omega) | (have := bne_eq_false_iff_eq.1 f35; omega)
        refine zg I (fun Al W I => have hz := I.bel.size; (HG W p39 c39 _ I.fa.1 hk I.fa.2.2.1 (by omega)).out) fun Al V Iv hz hB K k => ?_
        rintro _ W ⟨p53, c53, rfl, o53, hb⟩
        refine ⟨_, rfl, k _ _ hb fun I => ?_⟩
        clear k K
        have I := I.own o53
        rcases Bool.eq_false_or_eq_true (ok) with f55 | f55
        · skip
          refine zb I 55 (ok) (true) (f55) fun Al W I => ?_
          by_cases h0 : x3.m = 0
          · skip
            have hl := hl3 f55
            have hee := he3 f55
            refine zg I (fun Al W I => signD_any x3.neg p53 _ c53 x3.e x3.m W rfl) fun Al V Iv hz hB K k => ?_
            rintro _ W ⟨rfl, hb⟩
            refine ⟨_, rfl, k _ _ hb fun I => ?_⟩
            clear k K
            refine zb I 60 ((dSign ⟨x3.neg, x3.m, x3.e⟩) == 0) (true) (beq_iff_eq.2 ((dSign_iff x3).2 h0)) fun Al W I => ?_
            refine zg I (fun Al W I => join_nil f false 0 0 rfl W G hPe) fun Al V Iv hz hB K k => ?_
            rintro _ W ⟨rfl, hb⟩
            refine ⟨_, rfl, k _ _ hb fun I => ?_⟩
            clear k K
            exact zret I (v := fun Al => .tuple #[.string (strOf (f.str false 0 0)), .int .i64 0]) fun Al W I => givesS_ok (by rw [if_neg hE, if_neg (by rw [f55]; simp)]) (by rw [if_pos h0]) rfl I.below
          have hl := hl3 f55
          have hee := he3 f55
          refine zg I (fun Al W I => signD_any x3.neg p53 _ c53 x3.e x3.m W rfl) fun Al V Iv hz hB K k => ?_
          rintro _ W ⟨rfl, hb⟩
          refine ⟨_, rfl, k _ _ hb fun I => ?_⟩
          clear k K
          refine zb I 60 ((dSign ⟨x3.neg, x3.m, x3.e⟩) == 0) (false) (beq_eq_false_iff_ne.2 (fun h => h0 ((dSign_iff x3).1 h))) fun Al W I => ?_
          refine zg I (fun Al W I => have hz := I.bel.size; number_any f x3 p53 c53 W G I.fa.1.rd hl (by omega) (hin2 f55).1 h0) fun Al V Iv hz hB K k => ?_
          rintro _ W ⟨rfl, hb⟩
          refine ⟨_, rfl, k _ _ hb fun I => ?_⟩
          clear k K
          exact zret I (v := fun Al => .tuple #[.string (strOf (f.strP (f.numP x3))), .int .i64 0]) fun Al W I => givesS_ok (by rw [if_neg hE, if_neg (by rw [f55]; simp)]) (by rw [if_neg h0]) rfl I.below
        refine zb I 55 (ok) (false) (f55) fun Al W I => ?_
        refine zret I (v := fun Al => .tuple #[Go.Value.string (ByteArray.mk #[]), .int .i64 5]) fun Al W I => ?_
        first | exact givesS_err (r := 4) (if_pos hE) (by decide) rfl I.below | exact givesS_err (r := 5) ((if_neg hE).trans (if_pos f55)) (by decide) rfl I.below
      refine zg I (fun Al W I => have hz := I.bel.size; gkeeps_any x1.neg p39 c39 x1.e x1.m f.g W I.fa.1.rd (by omega) (by omega) GG) fun Al V Iv hz hB K k => ?_
      rintro _ W ⟨rfl, hb⟩
      refine ⟨_, congrArg (fun b => Ending.returned (.bool b)) (show (keepsD ⟨x1.neg, x1.m, x1.e⟩ f.g) = false from hkp.trans (by simpa using hk)), k _ _ hb fun I => ?_⟩
      clear k K
      have hE : 2 < v.cls ∨ inGridD x1 f.g = false := .inr (by simpa using hk)
      refine zret I (v := fun Al => .tuple #[Go.Value.string (ByteArray.mk #[]), .int .i64 4]) fun Al W I => ?_
      first | exact givesS_err (r := 4) (if_pos hE) (by decide) rfl I.below | exact givesS_err (r := 5) ((if_neg hE).trans (if_pos f55)) (by decide) rfl I.below
    refine zb I 31 (((v.cls : Nat) : Int) != 2) (false) (f31) fun Al W I => ?_
    refine zg I (fun Al W I => have hz := I.bel.size; (HR W p26 c26 (I.fa.1.mono (by omega)) I.fa.2.1).out) fun Al V Iv hz hB K k => ?_
    rintro _ W ⟨p39, c39, rfl, o39, hb⟩
    refine ⟨_, rfl, k _ _ hb fun I => ?_⟩
    clear k K
    have I := I.own o39
    by_cases hk : inGridD x1 f.g = true
    · skip
      refine zg I (fun Al W I => have hz := I.bel.size; gkeeps_any x1.neg p39 c39 x1.e x1.m f.g W I.fa.1.rd (by omega) (by omega) GG) fun Al V Iv hz hB K k => ?_
      rintro _ W ⟨rfl, hb⟩
      refine ⟨_, congrArg (fun b => Ending.returned (.bool b)) (show (keepsD ⟨x1.neg, x1.m, x1.e⟩ f.g) = true from hkp.trans hk), k _ _ hb fun I => ?_⟩
      clear k K
      have hE : ¬ (2 < v.cls ∨ inGridD x1 f.g = false) := fun h => by rcases h with h | h <;> first | (rw [hk] at h; cases h; done) | (have := bne_eq_false_iff_eq.1 f31; omega) | (have := bne_eq_false_iff_eq.1 f35; omega)
      refine zg I (fun Al W I => have hz := I.bel.size; (HG W p39 c39 _ I.fa.1 hk I.fa.2.2.1 (by omega)).out) fun Al V Iv hz hB K k => ?_
      rintro _ W ⟨p53, c53, rfl, o53, hb⟩
      refine ⟨_, rfl, k _ _ hb fun I => ?_⟩
      clear k K
      have I := I.own o53
      rcases Bool.eq_false_or_eq_true (ok) with f55 | f55
      · skip
        refine zb I 55 (ok) (true) (f55) fun Al W I => ?_
        by_cases h0 : x3.m = 0
        · skip
          have hl := hl3 f55
          have hee := he3 f55
          refine zg I (fun Al W I => signD_any x3.neg p53 _ c53 x3.e x3.m W rfl) fun Al V Iv hz hB K k => ?_
          rintro _ W ⟨rfl, hb⟩
          refine ⟨_, rfl, k _ _ hb fun I => ?_⟩
          clear k K
          refine zb I 60 ((dSign ⟨x3.neg, x3.m, x3.e⟩) == 0) (true) (beq_iff_eq.2 ((dSign_iff x3).2 h0)) fun Al W I => ?_
          refine zg I (fun Al W I => join_nil f false 0 0 rfl W G hPe) fun Al V Iv hz hB K k => ?_
          rintro _ W ⟨rfl, hb⟩
          refine ⟨_, rfl, k _ _ hb fun I => ?_⟩
          clear k K
          exact zret I (v := fun Al => .tuple #[.string (strOf (f.str false 0 0)), .int .i64 0]) fun Al W I => givesS_ok (by rw [if_neg hE, if_neg (by rw [f55]; simp)]) (by rw [if_pos h0]) rfl I.below
        have hl := hl3 f55
        have hee := he3 f55
        refine zg I (fun Al W I => signD_any x3.neg p53 _ c53 x3.e x3.m W rfl) fun Al V Iv hz hB K k => ?_
        rintro _ W ⟨rfl, hb⟩
        refine ⟨_, rfl, k _ _ hb fun I => ?_⟩
        clear k K
        refine zb I 60 ((dSign ⟨x3.neg, x3.m, x3.e⟩) == 0) (false) (beq_eq_false_iff_ne.2 (fun h => h0 ((dSign_iff x3).1 h))) fun Al W I => ?_
        refine zg I (fun Al W I => have hz := I.bel.size; number_any f x3 p53 c53 W G I.fa.1.rd hl (by omega) (hin2 f55).1 h0) fun Al V Iv hz hB K k => ?_
        rintro _ W ⟨rfl, hb⟩
        refine ⟨_, rfl, k _ _ hb fun I => ?_⟩
        clear k K
        exact zret I (v := fun Al => .tuple #[.string (strOf (f.strP (f.numP x3))), .int .i64 0]) fun Al W I => givesS_ok (by rw [if_neg hE, if_neg (by rw [f55]; simp)]) (by rw [if_neg h0]) rfl I.below
      refine zb I 55 (ok) (false) (f55) fun Al W I => ?_
      refine zret I (v := fun Al => .tuple #[Go.Value.string (ByteArray.mk #[]), .int .i64 5]) fun Al W I => ?_
      first | exact givesS_err (r := 4) (if_pos hE) (by decide) rfl I.below | exact givesS_err (r := 5) ((if_neg hE).trans (if_pos f55)) (by decide) rfl I.below
    refine zg I (fun Al W I => have hz := I.bel.size; gkeeps_any x1.neg p39 c39 x1.e x1.m f.g W I.fa.1.rd (by omega) (by omega) GG) fun Al V Iv hz hB K k => ?_
    rintro _ W ⟨rfl, hb⟩
    refine ⟨_, congrArg (fun b => Ending.returned (.bool b)) (show (keepsD ⟨x1.neg, x1.m, x1.e⟩ f.g) = false from hkp.trans (by simpa using hk)), k _ _ hb fun I => ?_⟩
    clear k K
    have hE : 2 < v.cls ∨ inGridD x1 f.g = false := .inr (by simpa using hk)
    refine zret I (v := fun Al => .tuple #[Go.Value.string (ByteArray.mk #[]), .int .i64 4]) fun Al W I => ?_
    first | exact givesS_err (r := 4) (if_pos hE) (by decide) rfl I.below | exact givesS_err (r := 5) ((if_neg hE).trans (if_pos f55)) (by decide) rfl I.below
  | false =>
    obtain ⟨e1, e3⟩ := hdn rfl
    subst e1 e3
    clear hup hdn
    have I := Inv.start w [tabF] ⟨hT, True.intro⟩
    refine zstart [.v (.int .i64 n), .v (.string s), .v (.bool false)] I Tryd.func36 ?_
    refine zg I (fun Al W I => (HF W).out) fun Al V Iv hz hB K k => ?_
    rintro _ W ⟨rfl, hb⟩
    refine ⟨_, rfl, k _ _ hb fun I => ?_⟩
    clear k K
    refine zg I (fun Al W I => (HD W I.fa.1).out) fun Al V Iv hz hB K k => ?_
    rintro _ W ⟨p26, c26, rfl, o26, hb⟩
    refine ⟨_, rfl, k _ _ hb fun I => ?_⟩
    clear k K
    have I := I.own o26
    rcases Bool.eq_false_or_eq_true (((v.cls : Nat) : Int) != 2) with f31 | f31
    · skip
      refine zb I 31 (((v.cls : Nat) : Int) != 2) (true) (f31) fun Al W I => ?_
      rcases Bool.eq_false_or_eq_true (((v.cls : Nat) : Int) != 1) with f35 | f35
      · skip
        refine zb I 35 (((v.cls : Nat) : Int) != 1) (true) (f35) fun Al W I => ?_
        have hE : 2 < v.cls ∨ inGridD x f.g = false := .inl (by have := bne_iff_ne.1 f31; have := bne_iff_ne.1 f35; omega)
        refine zret I (v := fun Al => .tuple #[Go.Value.string (ByteArray.mk #[]), .int .i64 4]) fun Al W I => ?_
        first | exact givesS_err (r := 4) (if_pos hE) (by decide) rfl I.below | exact givesS_err (r := 5) ((if_neg hE).trans (if_pos f55)) (by decide) rfl I.below
      refine zb I 35 (((v.cls : Nat) : Int) != 1) (false) (f35) fun Al W I => ?_
      refine zg I (fun Al W I => have hz := I.bel.size; (HR W p26 c26 (I.fa.1.mono (by omega)) I.fa.2.1).out) fun Al V Iv hz hB K k => ?_
      rintro _ W ⟨p39, c39, rfl, o39, hb⟩
      refine ⟨_, rfl, k _ _ hb fun I => ?_⟩
      clear k K
      have I := I.own o39
      by_cases hk : inGridD x f.g = true
      · skip
        refine zg I (fun Al W I => have hz := I.bel.size; gkeeps_any x.neg p39 c39 x.e x.m f.g W I.fa.1.rd (by omega) (by omega) GG) fun Al V Iv hz hB K k => ?_
        rintro _ W ⟨rfl, hb⟩
        refine ⟨_, congrArg (fun b => Ending.returned (.bool b)) (show (keepsD ⟨x.neg, x.m, x.e⟩ f.g) = true from hkp.trans hk), k _ _ hb fun I => ?_⟩
        clear k K
        have hE : ¬ (2 < v.cls ∨ inGridD x f.g = false) := fun h => by rcases h with h | h <;> first | (rw [hk] at h; cases h; done) | (have := bne_eq_false_iff_eq.1 f31; omega) | (have := bne_eq_false_iff_eq.1 f35; omega)
        refine zg I (fun Al W I => opp_any x.neg p39 _ c39 x.e x.m W rfl) fun Al V Iv hz hB K k => ?_
        rintro _ W ⟨rfl, hb⟩
        refine ⟨_, rfl, k _ _ hb fun I => ?_⟩
        clear k K
        refine zg I (fun Al W I => have hz := I.bel.size; (HG W p39 c39 _ I.fa.1 hk I.fa.2.2.1 (by omega)).out) fun Al V Iv hz hB K k => ?_
        rintro _ W ⟨p53, c53, rfl, o53, hb⟩
        refine ⟨_, rfl, k _ _ hb fun I => ?_⟩
        clear k K
        have I := I.own o53
        rcases Bool.eq_false_or_eq_true (ok) with f55 | f55
        · skip
          refine zb I 55 (ok) (true) (f55) fun Al W I => ?_
          by_cases h0 : x2.m = 0
          · skip
            have hl := hl3 f55
            have hee := he3 f55
            refine zg I (fun Al W I => signD_any x2.neg p53 _ c53 x2.e x2.m W rfl) fun Al V Iv hz hB K k => ?_
            rintro _ W ⟨rfl, hb⟩
            refine ⟨_, rfl, k _ _ hb fun I => ?_⟩
            clear k K
            refine zb I 60 ((dSign ⟨x2.neg, x2.m, x2.e⟩) == 0) (true) (beq_iff_eq.2 ((dSign_iff x2).2 h0)) fun Al W I => ?_
            refine zg I (fun Al W I => join_nil f false 0 0 rfl W G hPe) fun Al V Iv hz hB K k => ?_
            rintro _ W ⟨rfl, hb⟩
            refine ⟨_, rfl, k _ _ hb fun I => ?_⟩
            clear k K
            exact zret I (v := fun Al => .tuple #[.string (strOf (f.str false 0 0)), .int .i64 0]) fun Al W I => givesS_ok (by rw [if_neg hE, if_neg (by rw [f55]; simp)]) (by rw [if_pos (show (dMinus x2).m = 0 from h0)]) rfl I.below
          have hl := hl3 f55
          have hee := he3 f55
          refine zg I (fun Al W I => signD_any x2.neg p53 _ c53 x2.e x2.m W rfl) fun Al V Iv hz hB K k => ?_
          rintro _ W ⟨rfl, hb⟩
          refine ⟨_, rfl, k _ _ hb fun I => ?_⟩
          clear k K
          refine zb I 60 ((dSign ⟨x2.neg, x2.m, x2.e⟩) == 0) (false) (beq_eq_false_iff_ne.2 (fun h => h0 ((dSign_iff x2).1 h))) fun Al W I => ?_
          refine zg I (fun Al W I => opp_any x2.neg p53 _ c53 x2.e x2.m W rfl) fun Al V Iv hz hB K k => ?_
          rintro _ W ⟨rfl, hb⟩
          refine ⟨_, rfl, k _ _ hb fun I => ?_⟩
          clear k K
          refine zg I (fun Al W I => have hz := I.bel.size; number_any f (dMinus x2) p53 c53 W G I.fa.1.rd hl (by show -60000 ≤ x2.e ∧ x2.e ≤ 60000; omega) (hin2 f55).1 h0) fun Al V Iv hz hB K k => ?_
          rintro _ W ⟨rfl, hb⟩
          refine ⟨_, rfl, k _ _ hb fun I => ?_⟩
          clear k K
          exact zret I (v := fun Al => .tuple #[.string (strOf (f.strP (f.numP (dMinus x2)))), .int .i64 0]) fun Al W I => givesS_ok (by rw [if_neg hE, if_neg (by rw [f55]; simp)]) (by rw [if_neg (show ¬ (dMinus x2).m = 0 from h0)]) rfl I.below
        refine zb I 55 (ok) (false) (f55) fun Al W I => ?_
        refine zret I (v := fun Al => .tuple #[Go.Value.string (ByteArray.mk #[]), .int .i64 5]) fun Al W I => ?_
        first | exact givesS_err (r := 4) (if_pos hE) (by decide) rfl I.below | exact givesS_err (r := 5) ((if_neg hE).trans (if_pos f55)) (by decide) rfl I.below
      refine zg I (fun Al W I => have hz := I.bel.size; gkeeps_any x.neg p39 c39 x.e x.m f.g W I.fa.1.rd (by omega) (by omega) GG) fun Al V Iv hz hB K k => ?_
      rintro _ W ⟨rfl, hb⟩
      refine ⟨_, congrArg (fun b => Ending.returned (.bool b)) (show (keepsD ⟨x.neg, x.m, x.e⟩ f.g) = false from hkp.trans (by simpa using hk)), k _ _ hb fun I => ?_⟩
      clear k K
      have hE : 2 < v.cls ∨ inGridD x f.g = false := .inr (by simpa using hk)
      refine zret I (v := fun Al => .tuple #[Go.Value.string (ByteArray.mk #[]), .int .i64 4]) fun Al W I => ?_
      first | exact givesS_err (r := 4) (if_pos hE) (by decide) rfl I.below | exact givesS_err (r := 5) ((if_neg hE).trans (if_pos f55)) (by decide) rfl I.below
    refine zb I 31 (((v.cls : Nat) : Int) != 2) (false) (f31) fun Al W I => ?_
    refine zg I (fun Al W I => have hz := I.bel.size; (HR W p26 c26 (I.fa.1.mono (by omega)) I.fa.2.1).out) fun Al V Iv hz hB K k => ?_
    rintro _ W ⟨p39, c39, rfl, o39, hb⟩
    refine ⟨_, rfl, k _ _ hb fun I => ?_⟩
    clear k K
    have I := I.own o39
    by_cases hk : inGridD x f.g = true
    · skip
      refine zg I (fun Al W I => have hz := I.bel.size; gkeeps_any x.neg p39 c39 x.e x.m f.g W I.fa.1.rd (by omega) (by omega) GG) fun Al V Iv hz hB K k => ?_
      rintro _ W ⟨rfl, hb⟩
      refine ⟨_, congrArg (fun b => Ending.returned (.bool b)) (show (keepsD ⟨x.neg, x.m, x.e⟩ f.g) = true from hkp.trans hk), k _ _ hb fun I => ?_⟩
      clear k K
      have hE : ¬ (2 < v.cls ∨ inGridD x f.g = false) := fun h => by rcases h with h | h <;> first | (rw [hk] at h; cases h; done) | (have := bne_eq_false_iff_eq.1 f31; omega) | (have := bne_eq_false_iff_eq.1 f35; omega)
      refine zg I (fun Al W I => opp_any x.neg p39 _ c39 x.e x.m W rfl) fun Al V Iv hz hB K k => ?_
      rintro _ W ⟨rfl, hb⟩
      refine ⟨_, rfl, k _ _ hb fun I => ?_⟩
      clear k K
      refine zg I (fun Al W I => have hz := I.bel.size; (HG W p39 c39 _ I.fa.1 hk I.fa.2.2.1 (by omega)).out) fun Al V Iv hz hB K k => ?_
      rintro _ W ⟨p53, c53, rfl, o53, hb⟩
      refine ⟨_, rfl, k _ _ hb fun I => ?_⟩
      clear k K
      have I := I.own o53
      rcases Bool.eq_false_or_eq_true (ok) with f55 | f55
      · skip
        refine zb I 55 (ok) (true) (f55) fun Al W I => ?_
        by_cases h0 : x2.m = 0
        · skip
          have hl := hl3 f55
          have hee := he3 f55
          refine zg I (fun Al W I => signD_any x2.neg p53 _ c53 x2.e x2.m W rfl) fun Al V Iv hz hB K k => ?_
          rintro _ W ⟨rfl, hb⟩
          refine ⟨_, rfl, k _ _ hb fun I => ?_⟩
          clear k K
          refine zb I 60 ((dSign ⟨x2.neg, x2.m, x2.e⟩) == 0) (true) (beq_iff_eq.2 ((dSign_iff x2).2 h0)) fun Al W I => ?_
          refine zg I (fun Al W I => join_nil f false 0 0 rfl W G hPe) fun Al V Iv hz hB K k => ?_
          rintro _ W ⟨rfl, hb⟩
          refine ⟨_, rfl, k _ _ hb fun I => ?_⟩
          clear k K
          exact zret I (v := fun Al => .tuple #[.string (strOf (f.str false 0 0)), .int .i64 0]) fun Al W I => givesS_ok (by rw [if_neg hE, if_neg (by rw [f55]; simp)]) (by rw [if_pos (show (dMinus x2).m = 0 from h0)]) rfl I.below
        have hl := hl3 f55
        have hee := he3 f55
        refine zg I (fun Al W I => signD_any x2.neg p53 _ c53 x2.e x2.m W rfl) fun Al V Iv hz hB K k => ?_
        rintro _ W ⟨rfl, hb⟩
        refine ⟨_, rfl, k _ _ hb fun I => ?_⟩
        clear k K
        refine zb I 60 ((dSign ⟨x2.neg, x2.m, x2.e⟩) == 0) (false) (beq_eq_false_iff_ne.2 (fun h => h0 ((dSign_iff x2).1 h))) fun Al W I => ?_
        refine zg I (fun Al W I => opp_any x2.neg p53 _ c53 x2.e x2.m W rfl) fun Al V Iv hz hB K k => ?_
        rintro _ W ⟨rfl, hb⟩
        refine ⟨_, rfl, k _ _ hb fun I => ?_⟩
        clear k K
        refine zg I (fun Al W I => have hz := I.bel.size; number_any f (dMinus x2) p53 c53 W G I.fa.1.rd hl (by show -60000 ≤ x2.e ∧ x2.e ≤ 60000; omega) (hin2 f55).1 h0) fun Al V Iv hz hB K k => ?_
        rintro _ W ⟨rfl, hb⟩
        refine ⟨_, rfl, k _ _ hb fun I => ?_⟩
        clear k K
        exact zret I (v := fun Al => .tuple #[.string (strOf (f.strP (f.numP (dMinus x2)))), .int .i64 0]) fun Al W I => givesS_ok (by rw [if_neg hE, if_neg (by rw [f55]; simp)]) (by rw [if_neg (show ¬ (dMinus x2).m = 0 from h0)]) rfl I.below
      refine zb I 55 (ok) (false) (f55) fun Al W I => ?_
      refine zret I (v := fun Al => .tuple #[Go.Value.string (ByteArray.mk #[]), .int .i64 5]) fun Al W I => ?_
      first | exact givesS_err (r := 4) (if_pos hE) (by decide) rfl I.below | exact givesS_err (r := 5) ((if_neg hE).trans (if_pos f55)) (by decide) rfl I.below
    refine zg I (fun Al W I => have hz := I.bel.size; gkeeps_any x.neg p39 c39 x.e x.m f.g W I.fa.1.rd (by omega) (by omega) GG) fun Al V Iv hz hB K k => ?_
    rintro _ W ⟨rfl, hb⟩
    refine ⟨_, congrArg (fun b => Ending.returned (.bool b)) (show (keepsD ⟨x.neg, x.m, x.e⟩ f.g) = false from hkp.trans (by simpa using hk)), k _ _ hb fun I => ?_⟩
    clear k K
    have hE : 2 < v.cls ∨ inGridD x f.g = false := .inr (by simpa using hk)
    refine zret I (v := fun Al => .tuple #[Go.Value.string (ByteArray.mk #[]), .int .i64 4]) fun Al W I => ?_
    first | exact givesS_err (r := 4) (if_pos hE) (by decide) rfl I.below | exact givesS_err (r := 5) ((if_neg hE).trans (if_pos f55)) (by decide) rfl I.below

theorem Next_any (n : Int) (s : ByteArray) (up : Bool) (w : World) (hT : TabW w) :
    Calls Tryd.prog 36 #[.int .i64 n, .string s, .bool up] w (GivesS w (errNext n s up) (nextOut n s up)) := by
  unfold errNext nextOut
  by_cases hn : IsFm n
  · by_cases hs : s.size = (fmt n).size
    · rw [if_pos (errPat_zero.2 ⟨hn, hs⟩)]
      exact next_fm n s up w hn hs hT
    · have h0 : errPat n s = 1 := by unfold errPat; rw [if_pos hn, if_neg hs]
      rw [h0, if_neg (by decide)]
      generalize outNx (fmt n) ((fmt n).refN (numOfS (fmt n) s)).x up = o
      have HF := fun W => Lib.hid (open_one n s W hn hs)
      generalize fmt n = f at *
      have I := Inv.start w [] True.intro
      refine zstart [.v (.int .i64 n), .v (.string s), .v (.bool up)] I Tryd.func36 ?_
      refine zg I (fun Al W I => (HF W).out) fun Al V Iv hz hB K k => ?_
      rintro _ W ⟨rfl, hb⟩
      refine ⟨_, rfl, k _ _ hb fun I => ?_⟩
      clear k K
      exact zret I fun Al W I => givesS_err (r := 1) rfl (by decide) rfl I.below
  · have h0 : errPat n s = 6 := by unfold errPat; rw [if_neg hn]
    rw [h0, if_neg (by decide)]
    generalize outNx (fmt n) ((fmt n).refN (numOfS (fmt n) s)).x up = o
    have HF := fun W => Lib.hid (open_six n s W hn)
    have I := Inv.start w [] True.intro
    refine zstart [.v (.int .i64 n), .v (.string s), .v (.bool up)] I Tryd.func36 ?_
    refine zg I (fun Al W I => (HF W).out) fun Al V Iv hz hB K k => ?_
    rintro _ W ⟨rfl, hb⟩
    refine ⟨_, rfl, k _ _ hb fun I => ?_⟩
    clear k K
    exact zret I fun Al W I => givesS_err (r := 6) rfl (by decide) rfl I.below
end Go.Proofs.YtcipdimogodndaaDoor

namespace Go.Slip
open Go.RowKit

theorem ownv_of_bt {w : World} {b : Nat} {t : TypeId} {vs : Array Value} (h : Bt w b t vs) {base : Nat} (hb : base ≤ b) (hm : vs.size ≤ maxLen) : OwnV w base t (some ⟨b, 0, none⟩) vs.size vs.toList := by
  unfold OwnV
  rw [Array.length_toList]
  exact ⟨by simp, .inr ⟨b, vs.size, vs, rfl, hb, h, Nat.le_refl _, hm, by simp, by rw [Nat.mul_one, List.take_of_length_le (by simp)]⟩⟩
theorem RdV.grown {w w' : World} {p : Option Addr} {vs : List Value} {row : Option Nat} (h : RdV w p vs) (hg : w.grownBy w' row) (hne : 0 < vs.length → some (blk p) ≠ row) : RdV w' p vs :=
  h.same fun h0 => hg.block _ (h.lt h0) (hne h0)
theorem Rf.grown {w w' : World} {base : Nat} {p : Option Addr} {c : Nat} {xs : List Nat} {row : Option Nat} (h : Rf w base p c xs) (hg : w.grownBy w' row) (hne : 0 < xs.length → some (blk p) ≠ row) : Rf w' base p c xs :=
  ⟨h.rd.same fun h0 => hg.block _ (h.rd.lt h0) (hne h0), h.cap, h.at_⟩

section
variable {P : Program} {ops : Array Oper} {Q : Exit → Act → World → Prop} {a : Act} {w : World} {rest : List Oper} {o : Oper} {K : Act → World → Prop}
theorem sapvk (d : Nat) {s x : Operand} {t : TypeId} {e : TypeId} {z : Value} {bytes : Nat} (hty : SlTyV P t e z bytes) (base : Nat) (p : Option Addr) (n c : Nat) (xs : List Value) (hown : OwnV w base e p c xs) (hn : n = xs.length)
    (q : Option Addr) (m c2 : Nat) (ys : List Value) (hrd : RdV w q ys) (hm : m = ys.length) (hone : ys.all (·.oneCell') = true) (hb : xs.length + ys.length ≤ 4000000000) (hbase : base ≤ w.heap.size) (l : Nat) (hl : xs.length + ys.length = l)
    (h : ∀ p' c' w', OwnV w' base e p' c' (xs ++ ys) → Below base w w' → K (a.put (some d) (.slice p' l c')) w')
    (hs : a.eval s = .slice p n c := by kernel_rfl) (hx : a.eval x = .slice q m c2 := by kernel_rfl)
    (ho : o.op = .call { callee := .builtin .append, args := #[s, x], argTypes := #[t, t] } := by rfl) (hd : o.dst = some d := by kernel_rfl)
    (hw : Region.wanted o (yielded ops a.tmps) = true := by kernel_rfl) : OpW P ops Q o K a w := by
  subst hl
  rw [← List.length_append] at h
  exact opw_app (some d) hd s x t ho hty base p n c xs hown hn q m c2 ys hrd hm hone hs hx hb hbase hw h
theorem sputg {x y : Operand} {t ts : TypeId} {z : Value} {bytes : Nat} (hty : SlTyV P ts t z bytes)
    (base : Nat) (p : Option Addr) (c : Nat) (vs : List Value) (hown : OwnV w base t p c vs) (j : Nat) (hj : j < vs.length) (v : Value)
    (h : ∀ w', OwnV w' base t p c (vs.set j v) → w.grownBy w' (some (blk p)) → Below base w w' → WpL P ops Q rest (a.put none undef) w')
    (hx : a.eval x = .pointer (some (at_ p j)) := by kernel_rfl) (hy : a.eval y = v := by kernel_rfl) (hv : v.cells = #[v] := by kernel_rfl) (h5 : v.oneCell' = true := by kernel_rfl)
    (ho : o.op = .store t x y := by rfl) (hd : o.dst = none := by kernel_rfl) (hw : Region.wanted o (yielded ops a.tmps) = true := by kernel_rfl) : WpL P ops Q (o :: rest) a w :=
  wpList_of (opw_put none hd x y t ho hty base p c vs hown j hj v hv h5 hx hy hw fun w' h1 h2 h3 => h w' h1 h2 h3)
end
theorem all_bool (bs : List Bool) : (bs.map Value.bool).all (·.oneCell') = true := by rw [List.all_map]; simp [Function.comp, Value.oneCell']
end Go.Slip

namespace Go.Slip
theorem bitsN_succ : ∀ (k a : Nat), bitsN a (k + 1) = (a / 2 ^ k % 2 == 1) :: bitsN a k
  | 0, a => by simp [bitsN]
  | k + 1, a => by
    rw [bitsN, bitsN_succ k (a / 2)]
    rw [Nat.div_div_eq_div_mul, ← Nat.pow_succ']
    rfl
def BL (a j k : Nat) : List Value := List.replicate j (.bool false) ++ (bitsN a k).map Value.bool
theorem BL_len (a j k : Nat) : (BL a j k).length = j + k := by unfold BL; rw [List.length_append, List.length_replicate, List.length_map, bitsN_len]
theorem BL_set (a j k : Nat) : (BL a (j + 1) k).set j (.bool (a / 2 ^ k % 2 == 1)) = BL a j (k + 1) := by
  unfold BL
  rw [List.replicate_succ', List.append_assoc, List.set_append_right _ _ (by rw [List.length_replicate]; exact Nat.le_refl _), List.length_replicate, Nat.sub_self, bitsN_succ]
  rfl
theorem vb_take_bit (bs : List Bool) (i k : Nat) (h : i + k < bs.length) : vb ((bs.drop i).take k) * 2 + (bs.getD (i + k) false).toNat = vb ((bs.drop i).take (k + 1)) := by
  have := vb_take_succ' (bs.drop i) (i := k) (by rw [List.length_drop]; omega)
  rw [← this]
  congr 2
  rw [List.getD_eq_getElem?_getD, List.getD_eq_getElem?_getD, List.getElem?_drop]
end Go.Slip
namespace Go.Proofs.YtcipdimogodndaaDoor
open Go.RowKit Go.Slip

theorem rd_two {w : World} {b : Nat} {t : TypeId} (h : Bt w b t #[.int .i64 2]) : Rd w .i64 (some ⟨b, 0, none⟩) (dig B16 2) := (rf_two h).rd
theorem len_mod2 (a : Nat) : decide (((((dig B16 (a % 2)).length : Nat) : Int)) > 0) = (a % 2 == 1) := by
  have h := dig_len_zero B16_two (a % 2)
  rcases Nat.mod_two_eq_zero_or_one a with k | k
  · rw [k] at h ⊢; rw [decide_eq_false (by omega)]; rfl
  · rw [k] at h ⊢; rw [decide_eq_true (by omega)]; rfl
theorem rhalf (p q : Option Addr) (n c e0 : Nat) (a x : Nat) (w : World) (hp : Rd w .i64 p (dig B16 a)) (hq : Rd w .i64 q (dig B16 2)) (hn : n = (dig B16 a).length) (hl : (dig B16 a).length ≤ 1000000) (hx : a / 2 = x) :
    Calls Tryd.prog 121 #[.slice p n c, .slice q 1 e0] w fun en w' => ∃ p c r d, en = .returned (.tuple #[.slice p (dig B16 x).length c, .slice r (dig B16 (a % 2)).length d]) ∧ Rf w' w.heap.size p c (dig B16 x) ∧ Below w.heap.size w w' := by
  subst hx
  exact (refInto_all p q n 1 c e0 a 2 w hp hq hn len16_two (by omega) (by rw [dig16_two]; decide) (by omega)).mono fun e w' ⟨p, c, q, d, h1, h2, h3, h4, _, _, _, h8⟩ => ⟨p, c, q, d, h1, rf_ofR h2 h3 h4, h8⟩

set_option maxRecDepth 100000 in
theorem refBitsOfN_any (a many : Nat) (p : Option Addr) (c b0 : Nat) (w : World) (hp : Rf w b0 p c (dig B16 a)) (hl : (dig B16 a).length ≤ 1000) (hm : many ≤ 1000) :
    Calls Tryd.prog 79 #[.slice p (dig B16 a).length c, .int .i64 (many : Int)] w (GBs w (bitsN a many)) := by
  have hdl : ∀ k, (dig B16 (a / 2 ^ k)).length ≤ 1000 := fun k => Nat.le_trans (dig_len_mono B16_two (Nat.div_le_self _ _)) hl
  have hnx : ∀ k, a / 2 ^ k / 2 = a / 2 ^ (k + 1) := fun k => by rw [Nat.div_div_eq_div_mul, Nat.pow_succ]
  have hset := BL_set a
  have hlen := BL_len a
  refine calls_of_wp Tryd.func79 rfl ?_
  refine sx_frame (a' := ⟨((.slice p (dig B16 a).length c) :: (.int .i64 ((many : Nat) : Int)) :: us 29 []).toArray, []⟩) (by kernel_rfl) ?_
  refine yq ?_
  refine ye ?_
  refine yn 1 rfl ?_
  refine smkv 10 tvBools many (by omega) (fun p10 c10 V1 b10 hjV1 => ?_)
  have hbV1 : Below w.heap.size w V1 := (Below.refl _ _).trans (hjV1.mono (by omega))
  have hzV1 := hbV1.size
  refine yzt 1 ?_
  refine wp_seq ?_
  refine ye ?_
  refine ya 1 rfl 12 .i64 (((many : Nat) : Int) - 1) (((many : Nat) : Int) - 1) ((IntWalk.i64_in _ (by omega))) ?_
  refine yzt 1 ?_
  refine wp_block ?_
  refine sx_frame (a' := ⟨((.slice p (dig B16 a).length c) :: (.int .i64 ((many : Nat) : Int)) :: us 2 ((.slice none 0 0) :: (.slice p10 many c10) :: (.int .i64 (((many : Nat) : Int) - 1)) :: us 2 ((.int .i64 ((many : Nat) : Int)) :: (.slice p10 many c10) :: (.int .i64 ((many : Nat) : Int)) :: (.int .i64 (((many : Nat) : Int) - 1)) :: us 18 []))).toArray, []⟩) (by kernel_rfl) ?_
  refine sx_loop2 (fun (gk : Nat) U0 a' w' => ∃ (j : Nat) (k : Nat) (p0 : Option Addr) (c0 : Nat) (n0 : Nat), a' = ⟨((.slice p0 n0 c0) :: (.int .i64 ((many : Nat) : Int)) :: us 2 ((.slice none 0 0) :: (.slice p10 many c10) :: (.int .i64 (((j : Nat) : Int) - 1)) :: uvs U0 7 2 ((.int .i64 ((many : Nat) : Int)) :: (.slice p10 many c10) :: (.int .i64 ((many : Nat) : Int)) :: (.int .i64 (((many : Nat) : Int) - 1)) :: uvs U0 13 17 (undef :: [])))).toArray, []⟩ ∧ (OwnV w' w.heap.size 4 p10 c10 (BL a j k)) ∧ (Rd w' .i64 p0 (dig B16 (a / 2 ^ k))) ∧ Below w.heap.size w w' ∧ (n0 = (dig B16 (a / 2 ^ k)).length) ∧ (j + k = many) ∧ (gk = j)) many ?_ (fun Gx hGx => ?_)
  · skip
    exact ⟨many, 0, p, c, (dig B16 a).length, by kernel_rfl, (by rw [show BL a many 0 = List.replicate many (.bool false) by unfold BL bitsN; simp]; exact b10), (by rw [Nat.pow_zero, Nat.div_one]; exact (hp.past hbV1).rd), hbV1, (by rw [Nat.pow_zero, Nat.div_one]), (by omega), rfl⟩
  rintro gk0 U0 _ V2 ⟨j, k, p0, c0, n0, rfl, r10, q0, hbV2, hn0, hjk, hgk⟩
  refine hGx _ _ _ ?_
  clear hGx Gx
  have hzV2 := hbV2.size
  refine wp_seq ?_
  refine ye ?_
  rcases Bool.eq_false_or_eq_true (decide ((((j : Nat) : Int) - 1) ≥ 0)) with f14 | f14
  · skip
    refine yb 1 rfl 14 (decide ((((j : Nat) : Int) - 1) ≥ 0)) (true) (f14) ?_
    refine yzt 0 ?_
    refine yT ?_
    refine wp_skip ?_
    refine sx_then ?_
    refine wp_seq ?_
    refine wp_block ?_
    refine ye ?_
    refine ywv 1 rfl 19 (.slice (some ⟨V2.heap.size, 0, none⟩) 1 1) #[.int .i64 2] 3 (fun V3 hbV3 hzV3 b19 => ?_)
    replace r10 := (r10.past hbV3)
    have hbk := (OwnV.blk_lt r10 ((OwnV.rd r10).solid (by rw [hlen]; have := of_decide_eq_true f14; omega)).1).2
    replace q0 := (q0.past hbV3)
    refine yc 0 rfl 20 (rhalf p0 (some ⟨V2.heap.size, 0, none⟩) n0 c0 1 (a / 2 ^ k) (a / 2 ^ (k + 1)) V3 q0 (rd_two b19) hn0 (by have := hdl k; omega) (hnx k)) (fun Gx hGx => ?_)
    rintro eV4 V4 ⟨p20, c20, r20, d20, rfl, o20, hbV4⟩
    have hzV4 := hbV4.size
    have lo20 := fun h => o20.lt h
    refine ⟨_, rfl, hGx _ _ ?_⟩
    clear hGx Gx
    refine yzt 5 ?_
    refine ye ?_
    refine yb 4 rfl 27 (decide ((((dig B16 (a / 2 ^ k % 2)).length : Nat) : Int) > 0)) ((a / 2 ^ k % 2 == 1)) ((len_mod2 (a / 2 ^ k))) ?_
    replace r10 := (r10.past hbV4)
    refine yv 0 rfl 28 (.pointer (some (at_ p10 (j - 1)))) ?_ (exec_ixv (p := p10) (n := many) (c := c10) (m := j - 1) tvBools (by have h := r10.rd.solid; rw [hlen, hjk] at h; exact h) (by kernel_rfl) (by rw [show ((j - 1 : Nat) : Int) = ((j : Nat) : Int) - 1 by have := of_decide_eq_true f14; omega]; kernel_rfl) (by have := of_decide_eq_true f14; omega))
    refine sputg tvBools w.heap.size p10 c10 _ r10 (j - 1) (by rw [hlen]; have := of_decide_eq_true f14; omega) (.bool (a / 2 ^ k % 2 == 1)) (fun V5 n10 hg10 hjV5 => ?_)
    have hbV5 : Below w.heap.size w V5 := (bthru (bthru hbV2 hbV3) hbV4).trans (hjV5.mono (by omega))
    have hzV5 := hbV5.size
    have o21 := Rf.grown o20 hg10 (fun h0 he => by have h1 := (o20.lt h0).1; simp only [Option.some.injEq] at he; omega)
    have lo21 := fun h => o21.lt h
    refine yzt 0 ?_
    refine yr ?_
    refine sx_inblock ?_
    refine sx_then ?_
    refine sx_region ?_
    refine ya 1 rfl 16 .i64 ((((j : Nat) : Int) - 1) - 1) ((((j - 1 : Nat) : Int) - 1)) ((by rw [show ((((j : Nat) : Int) - 1) - 1) = (((j - 1 : Nat) : Int) - 1) by have := of_decide_eq_true f14; omega]; exact IntWalk.i64_in _ (by omega))) ?_
    refine yz 1 ?_
    refine sx_then ?_
    refine ⟨gk0 - 1, (by have := of_decide_eq_true f14; omega), ?_⟩
    exact ⟨j - 1, k + 1, p20, c20, (dig B16 (a / 2 ^ (k + 1))).length, by kernel_rfl, (by have e := hset (j - 1) k; rw [show j - 1 + 1 = j by have := of_decide_eq_true f14; omega] at e; rw [← e]; exact n10), o21.rd, hbV5, rfl, (by have := of_decide_eq_true f14; omega), (by omega)⟩
  refine yb 1 rfl 14 (decide ((((j : Nat) : Int) - 1) ≥ 0)) (false) (f14) ?_
  refine yzt 0 ?_
  refine yF ?_
  refine wp_exit ?_
  repeat (with_reducible refine sx_thenexit ?_)
  refine sx_exit (id := 0) ?_
  refine sx_then ?_
  refine yq ?_
  refine wp_ret ?_
  repeat (first | with_reducible refine sx_thenret ?_ | with_reducible refine sx_blockret ?_)
  refine yret (.slice p10 many c10) (res1 Tryd.results79 rvt) ?_
  have hj : j = 0 := by have := of_decide_eq_false f14; omega
  have hk : k = many := by omega
  subst hj hk
  exact ⟨p10, c10, by rw [bitsN_len], (by have h := r10; rw [show BL a 0 k = (bitsN a k).map Value.bool from rfl] at h; exact h), hbV2⟩

set_option maxRecDepth 100000 in
theorem refPatternOf_any (n : Int) (bs : List Bool) (m : Nat) (p : Option Addr) (c : Nat) (w : World) (hn : IsFm n) (hp : RdV w p (bs.map Value.bool)) (hm : m = bs.length) (hl : bs.length = 8 * (fmt n).size) :
    Calls Tryd.prog 81 #[.int .i64 n, .slice p m c] w fun en w' => ∃ L : List Nat, en = .returned (.string (strOf L)) ∧ L.length = (fmt n).size ∧ (∀ i, i < (fmt n).size → dg L (plc (fmt n).ord (fmt n).size i) = vb ((bs.drop (8 * i)).take 8)) ∧ Below w.heap.size w w' := by
  subst hm
  have G := good_fm hn
  have z1 := G.sz
  have HP := fun i W h => Lib.hid (refPlace_any n i W hn h)
  generalize fmt n = f at *
  have hpl : ∀ i, i < f.size → plc f.ord f.size i < f.size := fun i hi => plc_lt (fun _ => by omega) hi
  have hpp : ∀ i j, i < f.size → j < f.size → i ≠ j → plc f.ord f.size i ≠ plc f.ord f.size j := fun i j hi hj hne h => hne (by rw [← plc_plc (o := f.ord) hi, h, plc_plc hj])
  have hvb : ∀ i k, vb ((bs.drop i).take k) < 2 ^ k := fun i k => Nat.lt_of_lt_of_le (vb_lt _) (Nat.pow_le_pow_right (by omega) (by rw [List.length_take]; omega))
  have hv8 : ∀ i, vb ((bs.drop i).take 8) < 256 := fun i => hvb i 8
  have hvk : ∀ i k, k ≤ 8 → vb ((bs.drop i).take k) ≤ 255 := fun i k hk => by have h1 := hvb i k; have h2 : 2 ^ k ≤ 2 ^ 8 := Nat.pow_le_pow_right (by omega) hk; omega
  have hbit := vb_take_bit bs
  have hget := fun i h => map_getD bs (i := i) h
  have hstep : ∀ (L : List Nat) (i t : Nat), L.length = f.size → i < f.size → (∀ j, j < i → dg L (plc f.ord f.size j) = vb ((bs.drop (8 * j)).take 8)) → t = vb ((bs.drop (8 * i)).take 8) → ∀ j, j < i + 1 → dg (L.set (plc f.ord f.size i) t) (plc f.ord f.size j) = vb ((bs.drop (8 * j)).take 8) := by
    intro L i t hL hi hD ht j hj
    rcases Nat.lt_or_ge j i with h | h
    · rw [dg_set_ne (hpp i j hi (by omega) (by omega))]
      exact hD j h
    · obtain rfl : j = i := by omega
      rw [dg_set_same (by rw [hL]; exact hpl j hi), ht]
  have hln : (bs.map Value.bool).length = bs.length := List.length_map ..
  refine calls_of_wp Tryd.func81 rfl ?_
  refine sx_frame (a' := ⟨((.int .i64 n) :: (.slice p bs.length c) :: us 41 []).toArray, []⟩) (by kernel_rfl) ?_
  refine yq ?_
  refine ye ?_
  refine yv 2 rfl 11 (.int .i64 ((f.size : Nat) : Int)) ?_ (exec_quo (X := (((bs.length : Nat) : Int))) (Y := (8)) ((f.size : Nat) : Int) (by kernel_rfl) (by kernel_rfl) ((by decide)) ((by rw [hl, show ((8 * f.size : Nat) : Int).tdiv 8 = ((f.size : Nat) : Int) by rw [show ((8 : Int)) = ((8 : Nat) : Int) from rfl, ← Int.ofNat_tdiv]; congr 1; omega]; exact IntWalk.i64_in _ (by omega))))
  refine smkn 12 tvBytes f.size (by omega) (fun p12 c12 V1 b12 hjV1 => ?_)
  have hbV1 : Below w.heap.size w V1 := (Below.refl _ _).trans (hjV1.mono (by omega))
  have hzV1 := hbV1.size
  refine yzt 1 ?_
  refine wp_seq ?_
  refine yq ?_
  refine wp_block ?_
  refine sx_frame (a' := ⟨((.int .i64 n) :: (.slice p bs.length c) :: us 2 ((Go.Value.string (ByteArray.mk #[])) :: (.slice p12 f.size c12) :: (.int .i64 0) :: us 2 ((.slice p bs.length c) :: (.int .i64 ((bs.length : Nat) : Int)) :: (.int .i64 ((f.size : Nat) : Int)) :: (.slice p12 f.size c12) :: us 30 []))).toArray, []⟩) (by kernel_rfl) ?_
  refine sx_loop2 (fun (gk : Nat) U0 a' w' => ∃ (i : Nat) (L : List Nat), a' = ⟨((.int .i64 n) :: (.slice p bs.length c) :: us 2 ((Go.Value.string (ByteArray.mk #[])) :: (.slice p12 f.size c12) :: (.int .i64 ((i : Nat) : Int)) :: uvs U0 7 2 ((.slice p bs.length c) :: (.int .i64 ((bs.length : Nat) : Int)) :: (.int .i64 ((f.size : Nat) : Int)) :: (.slice p12 f.size c12) :: uvs U0 13 28 (us 2 [])))).toArray, []⟩ ∧ (Own w' w.heap.size .u8 5 p12 c12 L) ∧ Below w.heap.size w w' ∧ (L.length = f.size) ∧ (∀ j, j < i → dg L (plc f.ord f.size j) = vb ((bs.drop (8 * j)).take 8)) ∧ (gk + i = f.size)) f.size ?_ (fun Gx hGx => ?_)
  · skip
    exact ⟨0, List.replicate f.size 0, by kernel_rfl, b12, hbV1, List.length_replicate, (fun j hj => by omega), (by omega)⟩
  rintro gk0 U0 _ V2 ⟨i, L, rfl, r12, hbV2, hL, hD, hgk⟩
  refine hGx _ _ _ ?_
  clear hGx Gx
  have hzV2 := hbV2.size
  refine wp_seq ?_
  refine ye ?_
  rcases Bool.eq_false_or_eq_true (decide (((i : Nat) : Int) < ((f.size : Nat) : Int))) with f16 | f16
  · skip
    refine yb 3 rfl 16 (decide (((i : Nat) : Int) < ((f.size : Nat) : Int))) (true) (f16) ?_
    refine yzt 0 ?_
    refine yT ?_
    refine wp_skip ?_
    refine sx_then ?_
    refine wp_seq ?_
    refine wp_block ?_
    refine yq ?_
    refine wp_seq ?_
    refine yq ?_
    refine wp_block ?_
    refine sx_frame (a' := ⟨((.int .i64 n) :: (.slice p bs.length c) :: us 2 ((Go.Value.string (ByteArray.mk #[])) :: (.slice p12 f.size c12) :: (.int .i64 ((i : Nat) : Int)) :: (.int .i64 0) :: (.int .i64 0) :: (.slice p bs.length c) :: (.int .i64 ((bs.length : Nat) : Int)) :: (.int .i64 ((f.size : Nat) : Int)) :: (.slice p12 f.size c12) :: (.int .i64 ((i : Nat) : Int)) :: (.slice p12 f.size c12) :: (.int .i64 ((f.size : Nat) : Int)) :: (.bool true) :: uvs U0 17 24 (us 2 []))).toArray, []⟩) (by kernel_rfl) ?_
    refine sx_loop2 (fun (gk : Nat) U1 a' w' => ∃ (k : Nat) (t : Nat), a' = ⟨((.int .i64 n) :: (.slice p bs.length c) :: us 2 ((Go.Value.string (ByteArray.mk #[])) :: (.slice p12 f.size c12) :: (.int .i64 ((i : Nat) : Int)) :: (.int .i64 ((t : Nat) : Int)) :: (.int .i64 ((k : Nat) : Int)) :: (.slice p bs.length c) :: (.int .i64 ((bs.length : Nat) : Int)) :: (.int .i64 ((f.size : Nat) : Int)) :: (.slice p12 f.size c12) :: (.int .i64 ((i : Nat) : Int)) :: (.slice p12 f.size c12) :: (.int .i64 ((f.size : Nat) : Int)) :: (.bool true) :: uvs U0 17 2 (uvs U1 19 15 (uvs U0 34 7 (us 2 []))))).toArray, []⟩ ∧ Below V2.heap.size V2 w' ∧ (t = vb ((bs.drop (8 * i)).take k)) ∧ (gk + k = 8)) 8 ?_ (fun Gx hGx => ?_)
    · skip
      exact ⟨0, 0, by kernel_rfl, Below.refl _ _, rfl, (by omega)⟩
    rintro gk1 U1 _ V3 ⟨k, t, rfl, hbV3, ht, hgk1⟩
    refine hGx _ _ _ ?_
    clear hGx Gx
    have hzV3 := hbV3.size
    refine wp_seq ?_
    have hi := of_decide_eq_true f16
    have ht8 : t ≤ 255 := by rw [ht]; exact hvk _ k (by omega)
    refine ye ?_
    rcases Bool.eq_false_or_eq_true (decide (((k : Nat) : Int) < 8)) with f20 | f20
    · skip
      refine yb 1 rfl 20 (decide (((k : Nat) : Int) < 8)) (true) (f20) ?_
      refine yzt 0 ?_
      refine yT ?_
      refine wp_skip ?_
      refine sx_then ?_
      refine wp_seq ?_
      refine wp_block ?_
      refine ye ?_
      refine ya 1 rfl 24 .i64 ((2 : Int) * ((t : Nat) : Int)) (((2 * t : Nat) : Int)) ((by rw [show ((2 : Int) * ((t : Nat) : Int)) = ((2 * t : Nat) : Int) by omega]; exact IntWalk.i64_in _ (by omega))) ?_
      refine yzt 1 ?_
      refine ye ?_
      refine ya 2 rfl 27 .i64 ((8 : Int) * ((i : Nat) : Int)) (((8 * i : Nat) : Int)) ((by rw [show ((8 : Int) * ((i : Nat) : Int)) = ((8 * i : Nat) : Int) by omega]; exact IntWalk.i64_in _ (by omega))) ?_
      refine ya 1 rfl 29 .i64 (((8 * i : Nat) : Int) + ((k : Nat) : Int)) (((8 * i + k : Nat) : Int)) ((by rw [show (((8 * i : Nat) : Int) + ((k : Nat) : Int)) = ((8 * i + k : Nat) : Int) by omega]; exact IntWalk.i64_in _ (by omega))) ?_
      have hp_w3 := hp.past (bthru hbV2 hbV3)
      refine yv 0 rfl 30 (.pointer (some (at_ p (8 * i + k)))) ?_ (exec_ixv (p := p) (n := bs.length) (c := c) (m := 8 * i + k) tvBools (by have h := hp_w3.solid; rw [hln] at h; exact h) (by kernel_rfl) (by kernel_rfl) (by have := of_decide_eq_true f20; omega))
      rcases Bool.eq_false_or_eq_true (bs.getD (8 * i + k) false) with f31 | f31
      · skip
        refine yv 0 rfl 31 (.bool true) ?_ ((show _ = Result.ok (Next.value (.bool (bs.getD (8 * i + k) false))) _ from (exec_ldv hp_w3 ldBool (m := 8 * i + k) (by kernel_rfl) (hget (8 * i + k) (by have := of_decide_eq_true f20; omega)))).trans (congrArg (fun z => Result.ok (Next.value (.bool z)) _) (show (bs.getD (8 * i + k) false) = true from f31)))
        refine yzt 0 ?_
        refine yT ?_
        refine sx_region ?_
        refine ya 1 rfl 33 .i64 (((2 * t : Nat) : Int) + 1) (((2 * t + 1 : Nat) : Int)) ((by rw [show (((2 * t : Nat) : Int) + 1) = ((2 * t + 1 : Nat) : Int) by omega]; exact IntWalk.i64_in _ (by omega))) ?_
        refine yz 1 ?_
        refine sx_inblock ?_
        refine sx_then ?_
        refine sx_region ?_
        refine ya 1 rfl 22 .i64 (((k : Nat) : Int) + 1) (((k + 1 : Nat) : Int)) ((by rw [show (((k : Nat) : Int) + 1) = ((k + 1 : Nat) : Int) by omega]; exact IntWalk.i64_in _ (by omega))) ?_
        refine yz 1 ?_
        refine sx_then ?_
        refine ⟨gk1 - 1, (by have := of_decide_eq_true f20; omega), ?_⟩
        exact ⟨k + 1, 2 * t + 1, by kernel_rfl, hbV3, (by rw [← hbit (8 * i) k (by have := of_decide_eq_true f20; omega), f31, ht, Bool.toNat_true, Nat.mul_comm]), (by have := of_decide_eq_true f20; omega)⟩
      refine yv 0 rfl 31 (.bool false) ?_ ((show _ = Result.ok (Next.value (.bool (bs.getD (8 * i + k) false))) _ from (exec_ldv hp_w3 ldBool (m := 8 * i + k) (by kernel_rfl) (hget (8 * i + k) (by have := of_decide_eq_true f20; omega)))).trans (congrArg (fun z => Result.ok (Next.value (.bool z)) _) (show (bs.getD (8 * i + k) false) = false from f31)))
      refine yzt 0 ?_
      refine yF ?_
      refine wp_skip ?_
      refine sx_inblock ?_
      refine sx_then ?_
      refine sx_region ?_
      refine ya 1 rfl 22 .i64 (((k : Nat) : Int) + 1) (((k + 1 : Nat) : Int)) ((by rw [show (((k : Nat) : Int) + 1) = ((k + 1 : Nat) : Int) by omega]; exact IntWalk.i64_in _ (by omega))) ?_
      refine yz 1 ?_
      refine sx_then ?_
      refine ⟨gk1 - 1, (by have := of_decide_eq_true f20; omega), ?_⟩
      exact ⟨k + 1, 2 * t, by kernel_rfl, hbV3, (by rw [← hbit (8 * i) k (by have := of_decide_eq_true f20; omega), f31, ht, Bool.toNat_false, Nat.mul_comm, Nat.add_zero]), (by have := of_decide_eq_true f20; omega)⟩
    refine yb 1 rfl 20 (decide (((k : Nat) : Int) < 8)) (false) (f20) ?_
    refine yzt 0 ?_
    refine yF ?_
    refine wp_exit ?_
    repeat (with_reducible refine sx_thenexit ?_)
    refine sx_exit (id := 2) ?_
    refine sx_then ?_
    refine sx_region ?_
    refine yc 3 rfl 37 ((HP i V3 (by omega)).out) (fun Gx hGx => ?_)
    rintro eV4 V4 ⟨rfl, hbV4⟩
    have hzV4 := hbV4.size
    refine ⟨_, rfl, hGx _ _ ?_⟩
    clear hGx Gx
    refine ya 1 rfl 39 .u8 ((t : Nat) : Int) (((t : Nat) : Int)) ((by rw [u8_wrap, Nat.mod_eq_of_lt (by omega)])) ?_
    replace r12 := (r12.past (bthru hbV3 hbV4))
    refine yv 0 rfl 40 (.pointer (some (at_ p12 (plc f.ord f.size i)))) ?_ (exec_ixv (p := p12) (n := f.size) (c := c12) (m := plc f.ord f.size i) tvBytes (by have h := r12.solid; rw [hL] at h; exact h) (by kernel_rfl) (by kernel_rfl) (hpl i (by omega)))
    refine sputn tvBytes w.heap.size p12 c12 L r12 (plc f.ord f.size i) (by rw [hL]; exact hpl i (by omega)) t (fun V5 n12 hjV5 => ?_)
    have hbV5 : Below w.heap.size w V5 := (bthru (bthru hbV2 hbV3) hbV4).trans (hjV5.mono (by omega))
    have hzV5 := hbV5.size
    refine yz 0 ?_
    refine sx_inblock ?_
    refine sx_then ?_
    refine sx_region ?_
    refine ya 1 rfl 18 .i64 (((i : Nat) : Int) + 1) (((i + 1 : Nat) : Int)) ((by rw [show (((i : Nat) : Int) + 1) = ((i + 1 : Nat) : Int) by omega]; exact IntWalk.i64_in _ (by omega))) ?_
    refine yz 1 ?_
    refine sx_then ?_
    refine ⟨gk0 - 1, (by omega), ?_⟩
    exact ⟨i + 1, L.set (plc f.ord f.size i) t, by kernel_rfl, n12, hbV5, (by rw [List.length_set]; exact hL), (hstep L i t hL (by omega) hD (by rw [ht, show k = 8 by have := of_decide_eq_false f20; omega])), (by omega)⟩
  refine yb 3 rfl 16 (decide (((i : Nat) : Int) < ((f.size : Nat) : Int))) (false) (f16) ?_
  refine yzt 0 ?_
  refine yF ?_
  refine wp_exit ?_
  repeat (with_reducible refine sx_thenexit ?_)
  refine sx_exit (id := 0) ?_
  refine sx_then ?_
  refine ye ?_
  refine yv 1 rfl 42 (.string (strOf L)) ?_ (exec_str (p := p12) (n := f.size) (c := c12) uBytes uByte uStr r12.rd hL.symm (by kernel_rfl))
  refine yzt 1 ?_
  refine wp_ret ?_
  repeat (first | with_reducible refine sx_thenret ?_ | with_reducible refine sx_blockret ?_)
  refine yret (.string (strOf L)) (res1 Tryd.results81 rvt) ?_
  have hi : i = f.size := by have := of_decide_eq_false f16; omega
  exact ⟨L, rfl, hL, fun j hj => hD j (by omega), hbV2⟩
end Go.Proofs.YtcipdimogodndaaDoor
