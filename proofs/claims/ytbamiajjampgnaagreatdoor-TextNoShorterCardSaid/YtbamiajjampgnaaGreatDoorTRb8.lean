/- text: decimal digits of a ratio. -/
import Derived.Test.YtbamiajjampgnaaGreatDoorTRb1
import Derived.Test.YtbamiajjampgnaaGreatDoorTRb2
import Derived.Test.YtbamiajjampgnaaGreatDoorTRb3
import Derived.Test.YtbamiajjampgnaaGreatDoorTRb4
import Derived.Test.YtbamiajjampgnaaGreatDoorTRb5
import Derived.Test.YtbamiajjampgnaaGreatDoorTRb6
import Derived.Test.YtbamiajjampgnaaGreatDoorTRb7
set_option maxHeartbeats 8000000
set_option maxRecDepth 100000
namespace Go.Slip
open Go.RowKit
theorem n1x {N D k : Nat} {P : Int} (h : theP N D = P) : decM N D k = if k < (b0j (dT N D (k - 1 - P))).length then ((b0j (dT N D (k - 1 - P))).take k, P + 1) else (b0j (dT N D (k - 1 - P)), P) := by subst h; rfl
theorem q1v {x : Int} (h : -40000 ≤ x ∧ x ≤ 40000) : -20000 ≤ (x * 30103).tdiv 100000 ∧ (x * 30103).tdiv 100000 ≤ 20000 := by
 rcases Int.le_total 0 x with h1 | h1
 · rw [Int.tdiv_eq_ediv_of_nonneg (by omega)]; omega
 · rw [show x * 30103 = -((-x) * 30103) by omega, Int.neg_tdiv, Int.tdiv_eq_ediv_of_nonneg (by omega)]; omega
end Go.Slip
namespace Go.Proofs.YtbamiajjampgnaaGreatDoor
open Go.RowKit Go.Slip
theorem n1y (n : Nat) : bits .and .u32 ((dg (dig B32 n) 0 : Nat) : Int) 1 = ((n % 2 : Nat) : Int) := by
 have h0 : dg (dig B32 n) 0 = n % 4294967296 := by
  by_cases h : n = 0
  · subst h; rw [a0d]; rfl
  · rw [d0b a0a (by omega)]; rfl
 rw [h0]
 have h := u32_and_nat (n % 4294967296) 1 (by omega) (by omega)
 rw [show ((1 : Nat) : Int) = 1 from rfl] at h
 rw [h, Nat.and_one_is_mod]
 omega
theorem m0a (g : Bool) (num : Nat) (E : Int) (k : Nat) (p q : Option Addr) (a b b1 b2 : Nat) (w : World) (hp : Own w b1 .u32 143 p a (dig B32 num)) (hq : Own w b2 .u32 143 q b (dig B32 1)) (h0 : 0 < num) (hl : (dig B32 num).length ≤ 100) (hE : -30000 ≤ E ∧ E ≤ 30000) (hk : 1 ≤ k ∧ k ≤ 100) :
 Calls Tryz.prog 67 #[.agg #[.bool g, .slice p (dig B32 num).length a, .slice q (dig B32 1).length b, .int .i64 E], .int .i64 (k : Int)] w fun en w' => en = .returned (.tuple #[.string (a0c (decM (numP num E) (denP 1 E) k).1), .int .i64 (decM (numP num E) (denP 1 E) k).2]) ∧ Below w.heap.size w w' := by
 have hN0 : 0 < numP num E := k0p h0 E
 have hD0 : 0 < denP 1 E := e0n (by omega) E
 have hP := l0k hN0 hD0
 have hbd := hP.bd hD0
 have hlong := fun x => hP.long hD0 hk.1 x
 have hshort := fun x => hP.short hD0 hk.1 x
 have hdec := n1x (k := k) (rfl : theP (numP num E) (denP 1 E) = _)
 have hlo : 0 < q10 (numP num E) (denP 1 E) (k - 1 - theP (numP num E) (denP 1 E)) := Nat.lt_of_lt_of_le (c0w (k - 1)) ((j0p hD0 _ _).2 ((hP.iff _).2 (by omega)))
 have HSc := fun u W hp hq hu => hi0 (x0i g num E u p q a b W hp hq (by omega) (by omega) hu)
 have bn := c0x num
 have bN : blen (numP num E) ≤ 33300 := by
  refine Nat.le_trans ((b0h _ (blen num + E.toNat)).2 ?_) (by omega)
  unfold numP
  have h1 := (b0h num _).1 (Nat.le_refl _)
  calc num * 2 ^ E.toNat < 2 ^ blen num * 2 ^ E.toNat := Nat.mul_lt_mul_of_pos_right h1 (Nat.pow_pos (by omega))
   _ = 2 ^ (blen num + E.toNat) := (Nat.pow_add _ _ _).symm
 have bD : blen (denP 1 E) ≤ 30001 := by
  refine Nat.le_trans ((b0h _ ((-E).toNat + 1)).2 ?_) (by omega)
  unfold denP
  rw [Nat.one_mul]
  exact Nat.pow_lt_pow_right (by omega) (by omega)
 have hql : ∀ u : Int, -100000 ≤ u ∧ u ≤ 100000 → (dig B32 (q10 (numP num E) (denP 1 E) u)).length ≤ 200000 ∧ (dig B32 (d10 (denP 1 E) u)).length ≤ 200000 := fun u hu => by
  have l10 : ∀ j : Nat, j ≤ 100000 → (dig B32 (10 ^ j)).length ≤ 100001 := fun j hj => i0r (K := 100001) a0a (by decide) (by omega) (by omega)
  have k1 := l10 u.toNat (by omega)
  have k2 := l10 (-u).toNat (by omega)
  have m1 := b0q a0a (numP num E) (10 ^ u.toNat)
  have m2 := b0q a0a (denP 1 E) (10 ^ (-u).toNat)
  have c1 := y0q _ _ bN
  have c2 := y0q _ _ bD
  refine ⟨Nat.le_trans (a0m a0a (Nat.div_le_self _ _)) ?_, ?_⟩
  · unfold n10; omega
  · unfold d10; omega
 have hrl : ∀ u : Int, r10 (numP num E) (denP 1 E) u < d10 (denP 1 E) u := fun u => Nat.mod_lt _ (r0m hD0 u)
 have hdT : ∀ u, dT (numP num E) (denP 1 E) u = q10 (numP num E) (denP 1 E) u + if upT (numP num E) (denP 1 E) u then 1 else 0 := fun u => rfl
 have hup : ∀ u, upT (numP num E) (denP 1 E) u = decide (0 < cmpN (r10 (numP num E) (denP 1 E) u * 2) (d10 (denP 1 E) u) ∨ (cmpN (r10 (numP num E) (denP 1 E) u * 2) (d10 (denP 1 E) u) = 0 ∧ q10 (numP num E) (denP 1 E) u % 2 = 1)) := fun u => by unfold upT; rw [Bool.decide_or, Bool.decide_and]
 have hP2 : -12000 ≤ theP (numP num E) (denP 1 E) ∧ theP (numP num E) (denP 1 E) ≤ 12000 := by omega
 generalize decM (numP num E) (denP 1 E) k = R at *
 generalize theP (numP num E) (denP 1 E) = P at *
 clear hbd bN bD hN0 hD0 hP
 generalize numP num E = N at *
 generalize denP 1 E = D at *
 have HL := fun W p c x h hl => hi0 ((g0j p _ c x W h rfl hl).mono fun _ _ ⟨h1, h2⟩ => ⟨h1, h2 ▸ Below.refl _ _⟩ : Calls Tryz.prog 136 #[.slice p (dig B32 x).length c] W fun en W' => en = .returned (.int .i64 ((blen x : Nat) : Int)) ∧ Below W.heap.size W W')
 have HDe := fun W p c x h hl => hi0 (w0y p _ c x W h rfl hl)
 have HSh := fun W p c x h hl => hi0 (sshl p _ c x 1 (x * 2) 1 W h rfl hl (by omega) rfl (by rw [Nat.pow_one]))
 have HCm := fun W p q c d x y h h2 hl hl2 => hi0 (f0d p q _ _ c d x y W h h2 rfl rfl hl hl2)
 have HO := fun W => hi0 (sof 1 1 rfl (by omega) W)
 have HAd := fun W p q c d x h h2 hl => hi0 (sadd p q _ _ c d x 1 _ W h h2 rfl rfl hl (Nat.le_trans ((a0f a0a 1 1).2 (by decide)) (by omega)) rfl)
 have l1 := (b0h 1 1).2 (by decide)
 have d1 : (dig B32 1).length ≤ 1 := (a0f a0a 1 1).2 (by decide)
 have hes := fun x h => @q1v x h
 have I := Inv.start w [ownF b1 .u32 143 p a (dig B32 num), ownF b2 .u32 143 q b (dig B32 1)] ⟨hp, hq, True.intro⟩
 refine a0h [.v (.agg #[.bool g, .slice p (dig B32 num).length a, .slice q (dig B32 1).length b, .int .i64 E]), .v (.int .i64 (k : Int))] I Tryz.func67 ?_
 refine zd [] I fun Al W I => ?_
 refine zk [0, 1, 3, 4, 7, 8] I fun I => ?_
 refine zo 2 I fun I => ?_
 refine zq I (fun Al W I => have hzW := I.bel.size; (HL W p a num I.fa.1.rd (by omega)).out) fun Al W I => ?_
 refine zo 5 I fun I => ?_
 refine zq I (fun Al W I => have hzW := I.bel.size; (HL W q b 1 I.fa.2.1.rd (by omega)).out) fun Al W I => ?_
 refine zki 6 I .i64 (((blen num : Nat) : Int) - ((blen 1 : Nat) : Int)) (((blen num : Int) - blen 1)) (iwo) fun I => ?_
 refine zki 9 I .i64 (((blen num : Int) - blen 1) + E) (((blen num : Int) - blen 1 + E)) (iwo) fun I => ?_
 refine zk [10] I fun I => ?_
 refine zi I 24 .i64 (((blen num : Int) - blen 1 + E) * 30103) ((((blen num : Int) - blen 1 + E) * 30103)) ((by exact iwo)) fun Al W I => ?_
 refine zbin I 25 _ (fun _ _ _ _ _ => v0v .i64 ((((blen num : Int) - blen 1 + E) * 30103)) (100000) (((((blen num : Int) - blen 1 + E) * 30103).tdiv 100000)) (by omega) ((by have := hes ((blen num : Int) - blen 1 + E) (by omega); exact iwo))) fun Al W I => ?_
 refine n0e I (fun gk fr bx gs => ∃ (U900 : Nat → Value) (pw : Int), fr = (.v (.agg #[.bool g, .slice p (dig B32 num).length a, .slice q (dig B32 1).length b, .int .i64 E]) :: .v (.int .i64 (k : Int)) :: .p 0 0 :: .v undef :: sw U900 4 2 (.v (.int .i64 ((blen num : Int) - blen 1 + E)) :: .v (.int .i64 pw) :: sw U900 8 81 []) : List SV) ∧ bx = [⟨25, [.v (.bool g), .v (.slice p (dig B32 num).length a), .v (.slice q (dig B32 1).length b), .v (.int .i64 E)], false⟩] ∧ gs = [ownF b1 .u32 143 p a (dig B32 num), ownF b2 .u32 143 q b (dig B32 1)] ∧ (-20000 ≤ pw ∧ pw ≤ 20000) ∧ (gk = (pw - P).natAbs)) (((((blen num : Int) - blen 1 + E) * 30103).tdiv 100000 - P).natAbs) (fun Al W U I => ⟨_, ⟨U, _, rfl, rfl, rfl, (by have := hes ((blen num : Int) - blen 1 + E) (by omega); omega), rfl⟩, I.pick [0, 1]⟩) ?_
 rintro J0 gk0 _ _ _ ⟨U900, pw, rfl, rfl, rfl, hpw, hgk⟩ hJ0 Al W I
 have hq2 := hql ((k : Int) - 1 - pw) (by omega)
 have hl2 := hlong pw
 have hs2 := hshort pw
 refine zi I 29 .i64 ((k : Int) - 1) (((k : Int) - 1)) ((by exact iwo)) fun Al W I => ?_
 refine zi I 31 .i64 (((k : Int) - 1) - pw) (((k : Int) - 1 - pw)) ((by exact iwo)) fun Al W I => ?_
 refine zg I (fun Al W I => have hzW := I.bel.size; (HSc ((k : Int) - 1 - pw) W I.fa.1.rd I.fa.2.1.rd (by omega)).out) fun Al V Iv _ hB _ kz => ?_
 rintro _ W ⟨p32, c32, q32, d32, r32, z32, rfl, o32, s32, v32, hb⟩
 refine ⟨_, rfl, kz _ _ hb fun I => ?_⟩
 have I := I.own o32
 have I := I.own s32
 have I := I.own v32
 refine zq I (fun Al W I => have hzW := I.bel.size; (HDe W p32 c32 (q10 N D ((k : Int) - 1 - pw)) I.fa.2.2.1.rd (by omega)).out) fun Al W I => ?_
 rcases Bool.eq_false_or_eq_true (decide ((((a0c (b0j (q10 N D ((k : Int) - 1 - pw)))).size : Nat) : Int) > (k : Int))) with f42 | f42
 · refine zb I 42 (decide ((((a0c (b0j (q10 N D ((k : Int) - 1 - pw)))).size : Nat) : Int) > (k : Int))) (true) (f42) fun Al W I => ?_
   have hlt : pw < P := hl2.1 (by have := oTr f42; rw [a0o] at this; omega)
   refine zi I 44 .i64 (pw + 1) ((pw + 1)) ((by exact iwo)) fun Al W I => ?_
   exact a0n I J0 fun Al W U I => hJ0 ((pw + 1 - P).natAbs) _ _ _ _ _ ((by omega)) ⟨U, (pw + 1), rfl, rfl, rfl, (by omega), rfl⟩ (I.pick [3, 4])
 refine zb I 42 (decide ((((a0c (b0j (q10 N D ((k : Int) - 1 - pw)))).size : Nat) : Int) > (k : Int))) (false) (f42) fun Al W I => ?_
 rcases Bool.eq_false_or_eq_true (decide ((((a0c (b0j (q10 N D ((k : Int) - 1 - pw)))).size : Nat) : Int) < (k : Int))) with f49 | f49
 · refine zb I 49 (decide ((((a0c (b0j (q10 N D ((k : Int) - 1 - pw)))).size : Nat) : Int) < (k : Int))) (true) (f49) fun Al W I => ?_
   have hgt : P < pw := hs2.1 (by first | exact .inl (by have := oTr f49; rw [a0o] at this; omega) | exact .inr (by have := beq_iff_eq.1 f53; have := a0e a0a (q10 N D ((k : Int) - 1 - pw)); omega))
   refine zi I 56 .i64 (pw - 1) ((pw - 1)) ((by exact iwo)) fun Al W I => ?_
   exact a0n I J0 fun Al W U I => hJ0 ((pw - 1 - P).natAbs) _ _ _ _ _ ((by omega)) ⟨U, (pw - 1), rfl, rfl, rfl, (by omega), rfl⟩ (I.pick [3, 4])
 refine zb I 49 (decide ((((a0c (b0j (q10 N D ((k : Int) - 1 - pw)))).size : Nat) : Int) < (k : Int))) (false) (f49) fun Al W I => ?_
 rcases Bool.eq_false_or_eq_true ((((dig B32 (q10 N D ((k : Int) - 1 - pw))).length : Nat) : Int) == 0) with f53 | f53
 · refine zb I 53 ((((dig B32 (q10 N D ((k : Int) - 1 - pw))).length : Nat) : Int) == 0) (true) (f53) fun Al W I => ?_
   have hgt : P < pw := hs2.1 (by first | exact .inl (by have := oTr f49; rw [a0o] at this; omega) | exact .inr (by have := beq_iff_eq.1 f53; have := a0e a0a (q10 N D ((k : Int) - 1 - pw)); omega))
   refine zi I 56 .i64 (pw - 1) ((pw - 1)) ((by exact iwo)) fun Al W I => ?_
   exact a0n I J0 fun Al W U I => hJ0 ((pw - 1 - P).natAbs) _ _ _ _ _ ((by omega)) ⟨U, (pw - 1), rfl, rfl, rfl, (by omega), rfl⟩ (I.pick [3, 4])
 refine zb I 53 ((((dig B32 (q10 N D ((k : Int) - 1 - pw))).length : Nat) : Int) == 0) (false) (f53) fun Al W I => ?_
 have hpP : pw = P := by have h1 : ¬ pw < P := fun h => oFa f42 (by rw [a0o]; have := hl2.2 h; omega); have h2 : ¬ P < pw := fun h => (hs2.2 h).elim (fun h => oFa f49 (by rw [a0o]; omega)) (fun h => bnF f53 (by have := a0e a0a (q10 N D ((k : Int) - 1 - pw)); omega)); omega
 subst hpP
 refine zqo I (fun Al W I => have hzW := I.bel.size; (HSh W q32 d32 (r10 N D ((k : Int) - 1 - pw)) I.fa.2.1.rd (by have := a0m a0a (Nat.le_of_lt (hrl ((k : Int) - 1 - pw))); omega)).out) fun Al W p58 c58 I => ?_
 refine zq I (fun Al W I => have hzW := I.bel.size; (HCm W p58 r32 c58 z32 (r10 N D ((k : Int) - 1 - pw) * 2) (d10 D ((k : Int) - 1 - pw)) I.fa.1.rd I.fa.2.1.rd (by have := a0m a0a (Nat.le_of_lt (hrl ((k : Int) - 1 - pw))); have := b0q a0a (r10 N D ((k : Int) - 1 - pw)) 2; have := (a0f a0a 2 1).2 (by decide); omega) (by omega)).out) fun Al W I => ?_
 refine zcut I (some 3000010) (fun fr bx gs => ∃ (U1 : Nat → Value) (up : Bool), fr = (.v (.agg #[.bool g, .slice p (dig B32 num).length a, .slice q (dig B32 1).length b, .int .i64 E]) :: .v (.int .i64 (k : Int)) :: .p 0 0 :: .v undef :: sw U900 4 2 (.v (.int .i64 ((blen num : Int) - blen 1 + E)) :: .v (.int .i64 pw) :: .v (.slice p32 (dig B32 (q10 N D ((k : Int) - 1 - pw))).length c32) :: .v (.slice q32 (dig B32 (r10 N D ((k : Int) - 1 - pw))).length d32) :: .v (.slice r32 (dig B32 (d10 D ((k : Int) - 1 - pw))).length z32) :: .v (.string (a0c (b0j (q10 N D ((k : Int) - 1 - pw))))) :: .v (.int .i64 (cmpN (r10 N D ((k : Int) - 1 - pw) * 2) (d10 D ((k : Int) - 1 - pw)))) :: sw U1 13 25 (.v (.bool false) :: sw U1 39 6 (.v (.bool false) :: sw U1 46 27 (.v (.bool up) :: sw U1 74 7 (.v (U900 81) :: sw U1 82 7 []))))) : List SV) ∧ bx = [⟨25, [.v (.bool g), .v (.slice p (dig B32 num).length a), .v (.slice q (dig B32 1).length b), .v (.int .i64 E)], false⟩] ∧ gs = [ownF w.heap.size .u32 143 p58 c58 (dig B32 (r10 N D ((k : Int) - 1 - pw) * 2)), ownF w.heap.size .u32 143 r32 z32 (dig B32 (d10 D ((k : Int) - 1 - pw))), ownF w.heap.size .u32 143 q32 d32 (dig B32 (r10 N D ((k : Int) - 1 - pw))), ownF w.heap.size .u32 143 p32 c32 (dig B32 (q10 N D ((k : Int) - 1 - pw))), ownF b1 .u32 143 p a (dig B32 num), ownF b2 .u32 143 q b (dig B32 1)] ∧ (up = upT N D ((k : Int) - 1 - pw))) ?_ ?_
 · intro J hJ Al W I
   rcases Bool.eq_false_or_eq_true (decide ((cmpN (r10 N D ((k : Int) - 1 - pw) * 2) (d10 D ((k : Int) - 1 - pw))) > 0)) with f62 | f62
   · refine zb I 62 (decide ((cmpN (r10 N D ((k : Int) - 1 - pw) * 2) (d10 D ((k : Int) - 1 - pw))) > 0)) (true) (f62) fun Al W I => ?_
     exact a0n I J fun Al W U I => hJ _ _ _ _ _ ⟨U, true, rfl, rfl, rfl, (by rw [hup]; symm; first | exact dTr (.inl (oTr f62)) | exact dFa (fun h => h.elim (oFa f62) (fun h => bnF f65 h.1)) | exact dTr (.inr ⟨beq_iff_eq.1 f65, by have := beq_iff_eq.1 f71; omega⟩) | exact dFa (fun h => h.elim (oFa f62) (fun h => bnF f71 (by have := h.2; omega))))⟩ (I.pick [0, 1, 2, 3, 4, 5])
   refine zb I 62 (decide ((cmpN (r10 N D ((k : Int) - 1 - pw) * 2) (d10 D ((k : Int) - 1 - pw))) > 0)) (false) (f62) fun Al W I => ?_
   rcases Bool.eq_false_or_eq_true ((cmpN (r10 N D ((k : Int) - 1 - pw) * 2) (d10 D ((k : Int) - 1 - pw))) == 0) with f65 | f65
   · refine zb I 65 ((cmpN (r10 N D ((k : Int) - 1 - pw) * 2) (d10 D ((k : Int) - 1 - pw))) == 0) (true) (f65) fun Al W I => ?_
     refine zx I 68 (fun _ => .pointer (some (at_ p32 0))) (fun Al W I => (y0l (m := 0) (n := (dig B32 (q10 N D ((k : Int) - 1 - pw))).length) (c := c32) p1x I.fa.2.2.2.1.rd.solid (by have := a0e a0a (q10 N D ((k : Int) - 1 - pw)); omega))) fun Al W I => ?_
     refine zx I 69 (fun _ => .int .u32 ((dg (dig B32 (q10 N D ((k : Int) - 1 - pw))) 0 : Nat) : Int)) (fun Al W I => (e1x I.fa.2.2.2.1.rd i1k (by have := a0e a0a (q10 N D ((k : Int) - 1 - pw)); omega))) fun Al W I => ?_
     refine zbin I 70 _ (fun _ _ _ _ _ => v0w .u32 ((dg (dig B32 (q10 N D ((k : Int) - 1 - pw))) 0 : Nat) : Int) (1) (((q10 N D ((k : Int) - 1 - pw) % 2 : Nat) : Int)) ((by exact n1y _))) fun Al W I => ?_
     rcases Bool.eq_false_or_eq_true (((q10 N D ((k : Int) - 1 - pw) % 2 : Nat) : Int) == 1) with f71 | f71
     · refine zb I 71 (((q10 N D ((k : Int) - 1 - pw) % 2 : Nat) : Int) == 1) (true) (f71) fun Al W I => ?_
       exact a0n I J fun Al W U I => hJ _ _ _ _ _ ⟨U, true, rfl, rfl, rfl, (by rw [hup]; symm; first | exact dTr (.inl (oTr f62)) | exact dFa (fun h => h.elim (oFa f62) (fun h => bnF f65 h.1)) | exact dTr (.inr ⟨beq_iff_eq.1 f65, by have := beq_iff_eq.1 f71; omega⟩) | exact dFa (fun h => h.elim (oFa f62) (fun h => bnF f71 (by have := h.2; omega))))⟩ (I.pick [0, 1, 2, 3, 4, 5])
     refine zb I 71 (((q10 N D ((k : Int) - 1 - pw) % 2 : Nat) : Int) == 1) (false) (f71) fun Al W I => ?_
     exact a0n I J fun Al W U I => hJ _ _ _ _ _ ⟨U, false, rfl, rfl, rfl, (by rw [hup]; symm; first | exact dTr (.inl (oTr f62)) | exact dFa (fun h => h.elim (oFa f62) (fun h => bnF f65 h.1)) | exact dTr (.inr ⟨beq_iff_eq.1 f65, by have := beq_iff_eq.1 f71; omega⟩) | exact dFa (fun h => h.elim (oFa f62) (fun h => bnF f71 (by have := h.2; omega))))⟩ (I.pick [0, 1, 2, 3, 4, 5])
   refine zb I 65 ((cmpN (r10 N D ((k : Int) - 1 - pw) * 2) (d10 D ((k : Int) - 1 - pw))) == 0) (false) (f65) fun Al W I => ?_
   exact a0n I J fun Al W U I => hJ _ _ _ _ _ ⟨U, false, rfl, rfl, rfl, (by rw [hup]; symm; first | exact dTr (.inl (oTr f62)) | exact dFa (fun h => h.elim (oFa f62) (fun h => bnF f65 h.1)) | exact dTr (.inr ⟨beq_iff_eq.1 f65, by have := beq_iff_eq.1 f71; omega⟩) | exact dFa (fun h => h.elim (oFa f62) (fun h => bnF f71 (by have := h.2; omega))))⟩ (I.pick [0, 1, 2, 3, 4, 5])
 rintro _ _ _ ⟨U1, up, rfl, rfl, rfl, hup2⟩ Al W I
 refine zcut I (some 2000073) (fun fr bx gs => ∃ (U2 : Nat → Value) (s : LN) (pf : Int), fr = (.v (.agg #[.bool g, .slice p (dig B32 num).length a, .slice q (dig B32 1).length b, .int .i64 E]) :: .v (.int .i64 (k : Int)) :: .p 0 0 :: .v undef :: sw U900 4 2 (.v (.int .i64 ((blen num : Int) - blen 1 + E)) :: .v (.int .i64 pf) :: .v (.slice p32 (dig B32 (q10 N D ((k : Int) - 1 - pw))).length c32) :: .v (.slice q32 (dig B32 (r10 N D ((k : Int) - 1 - pw))).length d32) :: .v (.slice r32 (dig B32 (d10 D ((k : Int) - 1 - pw))).length z32) :: .v (.string (a0c s)) :: .v (.int .i64 (cmpN (r10 N D ((k : Int) - 1 - pw) * 2) (d10 D ((k : Int) - 1 - pw)))) :: sw U2 13 25 (.v (.bool false) :: sw U2 39 6 (.v (.bool false) :: sw U2 46 27 (.v (.bool up) :: sw U2 74 15 [])))) : List SV) ∧ bx = [⟨25, [.v (.bool g), .v (.slice p (dig B32 num).length a), .v (.slice q (dig B32 1).length b), .v (.int .i64 E)], false⟩] ∧ gs = [ownF w.heap.size .u32 143 p58 c58 (dig B32 (r10 N D ((k : Int) - 1 - pw) * 2)), ownF w.heap.size .u32 143 r32 z32 (dig B32 (d10 D ((k : Int) - 1 - pw))), ownF w.heap.size .u32 143 q32 d32 (dig B32 (r10 N D ((k : Int) - 1 - pw))), ownF w.heap.size .u32 143 p32 c32 (dig B32 (q10 N D ((k : Int) - 1 - pw))), ownF b1 .u32 143 p a (dig B32 num), ownF b2 .u32 143 q b (dig B32 1)] ∧ (R = (s, pf))) ?_ ?_
 · intro J hJ Al W I
   rcases Bool.eq_false_or_eq_true up with rfl | rfl
   · refine zqo I (fun Al W I => (HO W).out) fun Al W p75 c75 I => ?_
     refine zqo I (fun Al W I => have hzW := I.bel.size; (HAd W p32 p75 c32 c75 (q10 N D ((k : Int) - 1 - pw)) I.fa.2.2.2.2.1.rd I.fa.1.rd (by omega)).out) fun Al W p76 c76 I => ?_
     refine zq I (fun Al W I => have hzW := I.bel.size; (HDe W p76 c76 (q10 N D ((k : Int) - 1 - pw) + 1) I.fa.1.rd (by have := j0g a0a (q10 N D ((k : Int) - 1 - pw)) 1; omega)).out) fun Al W I => ?_
     rcases Bool.eq_false_or_eq_true (decide ((((a0c (b0j (q10 N D ((k : Int) - 1 - pw) + 1))).size : Nat) : Int) > (k : Int))) with f81 | f81
     · refine zb I 81 (decide ((((a0c (b0j (q10 N D ((k : Int) - 1 - pw) + 1))).size : Nat) : Int) > (k : Int))) (true) (f81) fun Al W I => ?_
       refine zx I 84 (fun _ => .string (a0c ((b0j (q10 N D ((k : Int) - 1 - pw) + 1)).take k))) (fun Al W I => (by rw [show (b0j (q10 N D ((k : Int) - 1 - pw) + 1)).take k = ((b0j (q10 N D ((k : Int) - 1 - pw) + 1)).take k).drop 0 from rfl, ← j0u (s0r _)]; exact i0g uSt (.inl ⟨rfl, rfl⟩) (.inr rfl) (Nat.zero_le _) (by have := oTr f81; omega))) fun Al W I => ?_
       refine zi I 86 .i64 (pw + 1) ((pw + 1)) ((by exact iwo)) fun Al W I => ?_
       exact a0n I J fun Al W U I => hJ _ _ _ _ _ ⟨U, ((b0j (q10 N D ((k : Int) - 1 - pw) + 1)).take k), (pw + 1), rfl, rfl, rfl, (by rw [hdec, hdT, ← hup2, if_pos rfl, if_pos (by have := oTr f81; rw [a0o] at this; omega)])⟩ (I.pick [2, 3, 4, 5, 6, 7])
     refine zb I 81 (decide ((((a0c (b0j (q10 N D ((k : Int) - 1 - pw) + 1))).size : Nat) : Int) > (k : Int))) (false) (f81) fun Al W I => ?_
     exact a0n I J fun Al W U I => hJ _ _ _ _ _ ⟨U, (b0j (q10 N D ((k : Int) - 1 - pw) + 1)), pw, rfl, rfl, rfl, (by rw [hdec, hdT, ← hup2, if_pos rfl, if_neg (by have := oFa f81; rw [a0o] at this; omega)])⟩ (I.pick [2, 3, 4, 5, 6, 7])
   exact a0n I J fun Al W U I => hJ _ _ _ _ _ ⟨U, (b0j (q10 N D ((k : Int) - 1 - pw))), pw, rfl, rfl, rfl, (by rw [hdec, hdT, ← hup2, if_neg Bool.false_ne_true, Nat.add_zero, if_neg (by have h := fun h => Int.lt_irrefl _ (hl2.1 h); omega)])⟩ (I.pick [0, 1, 2, 3, 4, 5])
 rintro _ _ _ ⟨U2, s, pf, rfl, rfl, rfl, hs⟩ Al W I
 exact zret I (v := fun Al => .tuple #[.string (a0c s), .int .i64 pf]) fun Al W I => ⟨by rw [hs], I.below⟩
theorem m0l {P : Program} {W : World} {l : List Nat} {b : Bool} (h : Byt l) (hb : l = [] ↔ b = false) {t : TypeId} {x y : Operand} : (do eqGuard .neq t x y (.string (a0c l)) (.string ⟨#[]⟩); binOp .neq t (.string (a0c l)) (.string ⟨#[]⟩) : Sem Value).run P W = .ok (.bool b) W :=
 z0h ((s0o h).trans hb)
structure NumV (f : Fm) (v : Vl) (r : Vr) : Prop where
 d0 : 0 < v.d
 x0 : r.x.m ≠ 0
 ng : r.x.neg = v.neg
 dec : ∀ k, decM (numP v.d (wid f.g * v.pow)) (denP 1 (wid f.g * v.pow)) k = numX r.x k
 len : (dig B32 v.d).length ≤ 3
 e : -30000 ≤ wid f.g * v.pow ∧ wid f.g * v.pow ≤ 30000
theorem j0v {n : Int} {s : ByteArray} (h0 : a0w n s = 0) (hc : (refD n s).cls = 2) : NumV (fmt n) (decP n s) (refD n s) := by
 obtain ⟨hn, hs⟩ := b0f.1 h0
 have G := c0i hn
 have V := g0d h0
 have F := (h0m (s := s) hn).ok
 have hd : decP n s = (fmt n).valN (a0y (fmt n) s) := by unfold decP; rw [if_pos h0]
 have he : (fmt n).exp (a0y (fmt n) s) < 2 ^ (fmt n).E := Nat.mod_lt _ (Nat.pow_pos (by omega))
 have hx : (fmt n).frac (a0y (fmt n) s) < 2 ^ (fmt n).F := Nat.mod_lt _ (Nat.pow_pos (by omega))
 have hm := h1t (f := fmt n) ((fmt n).neg (a0y (fmt n) s)) (e := (fmt n).exp (a0y (fmt n) s)) hx
 have hD := fun k => m1y (f := fmt n) (g := (fmt n).neg (a0y (fmt n) s)) (d := (fmt n).decN (a0y (fmt n) s)) hc k
 have hlen : (dig B32 (decP n s).d).length ≤ 3 := by
  rw [hd]
  unfold Fm.valN Fm.vl
  simp only
  split
  · exact Nat.le_trans (a0m a0a (Nat.div_le_self _ _)) (b0d hm (by have := G.f2; omega))
  · rw [a0d]; exact Nat.zero_le _
 have hd0 : 0 < (decP n s).d := by rw [hd]; exact (hD 1).2.1
 refine ⟨hd0, (hD 1).2.2, ?_, fun k => by rw [hd]; exact (hD k).1, hlen, ?_⟩
 · rw [(F.x2 hc).2, V.neg]
 · have hnum := V.num hc
   have hlo := F.lo
   have hhi := F.hi
   have hb : bare ⟨(decP n s).neg, (decP n s).d, wid (fmt n).g * (decP n s).pow⟩ = ⟨(decP n s).neg, (decP n s).d / 2 ^ tz (decP n s).d, wid (fmt n).g * (decP n s).pow + tz (decP n s).d⟩ := m0f (by omega)
   rw [← hnum, hb] at hlo hhi
   simp only at hlo hhi
   have ht : tz (decP n s).d ≤ 100 := by
    have h1 := (b0w (decP n s).d hd0).1
    have h2 : 2 ^ tz (decP n s).d ≤ (decP n s).d := by
     have h3 : 0 < (decP n s).d / 2 ^ tz (decP n s).d := Nat.pos_of_ne_zero fun h => by rw [h, Nat.mul_zero] at h1; omega
     calc 2 ^ tz (decP n s).d = 2 ^ tz (decP n s).d * 1 := (Nat.mul_one _).symm
      _ ≤ 2 ^ tz (decP n s).d * ((decP n s).d / 2 ^ tz (decP n s).d) := Nat.mul_le_mul_left _ h3
      _ = _ := h1
    have h4 := (b0h (decP n s).d (blen (decP n s).d)).1 (Nat.le_refl _)
    have h5 := c0x (decP n s).d
    have h6 : tz (decP n s).d < blen (decP n s).d := (Nat.pow_lt_pow_iff_right (by omega : 1 < 2)).1 (Nat.lt_of_le_of_lt h2 h4)
    omega
   omega
def z0o (r : Vr) (k : Nat) : List Nat := if r.cls = 2 then numT r.neg (numX r.x k).1 (numX r.x k).2 else i0i r.cls r.neg
def c0u (n k : Int) (s : ByteArray) : Int := if a0w n s = 0 then (if k < 1 ∨ 60 < k then 3 else 0) else a0w n s
def e0r (n k : Int) (s : ByteArray) : ByteArray := if c0u n k s = 0 then a0c (z0o (refD n s) k.toNat) else a0c []
theorem m0m {s : List Nat} (h : ∀ y ∈ s, 48 ≤ y ∧ y ≤ 57) : Byt s := fun y hy => by have := h y hy; omega
theorem u0t (n k : Int) (s : ByteArray) (w : World) (hT : TabW w) (hP : PowW w) : Calls Tryz.prog 25 #[.int .i64 n, .string s, .int .i64 k] w fun en w' => en = .returned (.tuple #[.string (e0r n k s), .int .i64 (c0u n k s)]) ∧ Below w.heap.size w w' := by
 have HD := fun W h => hi0 (e0j n s W h)
 have e1 : a0w n s ≠ 0 → c0u n k s = a0w n s ∧ e0r n k s = a0c [] := fun h => by
  have h1 : c0u n k s = a0w n s := by unfold c0u; rw [if_neg h]
  unfold e0r
  rw [h1, if_neg h]
  exact ⟨rfl, rfl⟩
 have e2 : a0w n s = 0 → (k < 1 ∨ 60 < k) → c0u n k s = 3 ∧ e0r n k s = a0c [] := fun h h' => by
  have h1 : c0u n k s = 3 := by unfold c0u; rw [if_pos h, if_pos h']
  unfold e0r
  rw [h1]
  exact ⟨rfl, rfl⟩
 have e3 : a0w n s = 0 → ¬ (k < 1 ∨ 60 < k) → c0u n k s = 0 ∧ e0r n k s = a0c (z0o (refD n s) k.toNat) := fun h h' => by
  have h1 : c0u n k s = 0 := by unfold c0u; rw [if_pos h, if_neg h']
  unfold e0r
  rw [h1]
  exact ⟨rfl, rfl⟩
 have hV := fun h => g0d (n := n) (s := s) h
 have hF : a0w n s = 0 → VrOk (refD n s) := fun h => (h0m (n := n) (s := s) (b0f.1 h).1).ok
 have hN := fun h h2 => j0v (n := n) (s := s) h h2
 unfold z0o at e3
 generalize refD n s = r at *
 generalize decP n s = v at *
 generalize c0u n k s = eo at *
 generalize e0r n k s = oo at *
 generalize a0w n s = er at *
 have HW := fun p c b W (h : Own W b .u32 143 p c (dig B32 v.d)) (h2 : 1 ≤ v.cls ∧ v.cls ≤ 5) h3 => hi0 (z0n v p c b W h h2 h3)
 have HV := fun p c b W (h : Own W b .u32 143 p c (dig B32 v.d)) h2 => hi0 (q0d n v p c b W h h2)
 have HDc := fun (N : NumV (fmt n) v r) (hk : ¬ (k < 1 ∨ 60 < k)) p q a b b1 b2 W (h1 : Own W b1 .u32 143 p a (dig B32 v.d)) (h2 : Own W b2 .u32 143 q b (dig B32 1)) => hi0 (by
   have h := m0a v.neg v.d (wid (fmt n).g * v.pow) k.toNat p q a b b1 b2 W h1 h2 N.d0 (by have := N.len; omega) N.e (by omega)
   rw [N.dec, show (k.toNat : Int) = k by omega] at h
   exact h : Calls Tryz.prog 67 #[.agg #[.bool v.neg, .slice p (dig B32 v.d).length a, .slice q (dig B32 1).length b, .int .i64 (wid (fmt n).g * v.pow)], .int .i64 k] W fun en w' => en = .returned (.tuple #[.string (a0c (numX r.x k.toNat).1), .int .i64 (numX r.x k.toNat).2]) ∧ Below W.heap.size W w')
 have HNu := fun W (F : VrOk r) (N : NumV (fmt n) v r) (hk : ¬ (k < 1 ∨ 60 < k)) (h : PowW W) => hi0 (by
   have A := g0c (k := k.toNat) N.x0 F.len (by omega)
   have B := s0i (k := k.toNat) N.x0 F.len ⟨F.lo, F.hi⟩ (by omega)
   exact k0w v.neg (numX r.x k.toNat).1 (numX r.x k.toNat).2 W (m0m A.2.1) (fun h => by have := A.1; rw [h, List.length_nil] at this; omega) (by omega) (by omega) h)
 generalize wid (fmt n).g * v.pow = E at *
 obtain ⟨wb, hwb⟩ : ∃ wb : Bool, (i0i v.cls v.neg = [] ↔ wb = false) := ⟨decide (v.cls ≠ 2), by rw [c0o]; simp⟩
 have I := Inv.start w [tabF, powF] ⟨hT, hP, True.intro⟩
 refine a0h [.v (.int .i64 n), .v (.string s), .v (.int .i64 k)] I Tryz.func25 ?_
 refine zqo I (fun Al W I => (HD W I.fa.1).out) fun Al W p16 c16 I => ?_
 rcases Bool.eq_false_or_eq_true (er != 0) with f20 | f20
 · refine zb I 20 (er != 0) (true) (f20) fun Al W I => ?_
   refine zret I (v := fun Al => .tuple #[Go.Value.string (ByteArray.mk #[]), .int .i64 er]) fun Al W I => ?_
   first | (obtain ⟨h1, h2⟩ := e1 (bne_iff_ne.1 f20); rw [h1, h2]; exact ⟨rfl, I.below⟩) | (obtain ⟨h1, h2⟩ := e2 (bne_eq_false_iff_eq.1 f20) (by first | exact .inl (oTr f23) | exact .inr (oTr f26)); rw [h1, h2]; exact ⟨rfl, I.below⟩) | (rw [q1, q2, if_pos hc, ← V.neg]; exact ⟨rfl, I.below⟩) | (have hc : r.cls ≠ 2 := fun h => (by have := hwb.1 (c0o.2 (V.cls.trans h)); rw [this] at f31; cases f31); rw [q1, q2, if_neg hc, ← V.cls, ← V.neg]; exact ⟨rfl, I.below⟩)
 refine zb I 20 (er != 0) (false) (f20) fun Al W I => ?_
 rcases Bool.eq_false_or_eq_true (decide (k < 1)) with f23 | f23
 · refine zb I 23 (decide (k < 1)) (true) (f23) fun Al W I => ?_
   refine zret I (v := fun Al => .tuple #[Go.Value.string (ByteArray.mk #[]), .int .i64 3]) fun Al W I => ?_
   first | (obtain ⟨h1, h2⟩ := e1 (bne_iff_ne.1 f20); rw [h1, h2]; exact ⟨rfl, I.below⟩) | (obtain ⟨h1, h2⟩ := e2 (bne_eq_false_iff_eq.1 f20) (by first | exact .inl (oTr f23) | exact .inr (oTr f26)); rw [h1, h2]; exact ⟨rfl, I.below⟩) | (rw [q1, q2, if_pos hc, ← V.neg]; exact ⟨rfl, I.below⟩) | (have hc : r.cls ≠ 2 := fun h => (by have := hwb.1 (c0o.2 (V.cls.trans h)); rw [this] at f31; cases f31); rw [q1, q2, if_neg hc, ← V.cls, ← V.neg]; exact ⟨rfl, I.below⟩)
 refine zb I 23 (decide (k < 1)) (false) (f23) fun Al W I => ?_
 rcases Bool.eq_false_or_eq_true (decide (k > 60)) with f26 | f26
 · refine zb I 26 (decide (k > 60)) (true) (f26) fun Al W I => ?_
   refine zret I (v := fun Al => .tuple #[Go.Value.string (ByteArray.mk #[]), .int .i64 3]) fun Al W I => ?_
   first | (obtain ⟨h1, h2⟩ := e1 (bne_iff_ne.1 f20); rw [h1, h2]; exact ⟨rfl, I.below⟩) | (obtain ⟨h1, h2⟩ := e2 (bne_eq_false_iff_eq.1 f20) (by first | exact .inl (oTr f23) | exact .inr (oTr f26)); rw [h1, h2]; exact ⟨rfl, I.below⟩) | (rw [q1, q2, if_pos hc, ← V.neg]; exact ⟨rfl, I.below⟩) | (have hc : r.cls ≠ 2 := fun h => (by have := hwb.1 (c0o.2 (V.cls.trans h)); rw [this] at f31; cases f31); rw [q1, q2, if_neg hc, ← V.cls, ← V.neg]; exact ⟨rfl, I.below⟩)
 refine zb I 26 (decide (k > 60)) (false) (f26) fun Al W I => ?_
 have h0 : er = 0 := bne_eq_false_iff_eq.1 f20
 have hk : ¬ (k < 1 ∨ 60 < k) := fun h => h.elim (oFa f23) (oFa f26)
 obtain ⟨q1, q2⟩ := e3 h0 hk
 have V := hV h0
 have F := hF h0
 refine zq I (fun Al W I => (HW p16 c16 _ W I.fa.1 (by rw [V.cls]; exact F.c) I.fa.2.1).out) fun Al W I => ?_
 rcases Bool.eq_false_or_eq_true (wb) with f31 | f31
 · refine zbin I 31 (.bool true) (fun _ _ _ _ W => ((m0l (k0v _ _) hwb)).trans (congrArg (fun z => Result.ok (Value.bool z) W) (show (wb) = true from f31))) fun Al W I => ?_
   refine zret I (v := fun Al => .tuple #[.string (a0c (i0i v.cls v.neg)), .int .i64 0]) fun Al W I => ?_
   first | (obtain ⟨h1, h2⟩ := e1 (bne_iff_ne.1 f20); rw [h1, h2]; exact ⟨rfl, I.below⟩) | (obtain ⟨h1, h2⟩ := e2 (bne_eq_false_iff_eq.1 f20) (by first | exact .inl (oTr f23) | exact .inr (oTr f26)); rw [h1, h2]; exact ⟨rfl, I.below⟩) | (rw [q1, q2, if_pos hc, ← V.neg]; exact ⟨rfl, I.below⟩) | (have hc : r.cls ≠ 2 := fun h => (by have := hwb.1 (c0o.2 (V.cls.trans h)); rw [this] at f31; cases f31); rw [q1, q2, if_neg hc, ← V.cls, ← V.neg]; exact ⟨rfl, I.below⟩)
 refine zbin I 31 (.bool false) (fun _ _ _ _ W => ((m0l (k0v _ _) hwb)).trans (congrArg (fun z => Result.ok (Value.bool z) W) (show (wb) = false from f31))) fun Al W I => ?_
 have hc : r.cls = 2 := by rw [← V.cls]; exact c0o.1 (hwb.2 f31)
 have N := hN h0 hc
 refine zqo I (fun Al W I => have hzW := I.bel.size; (HV p16 c16 _ W I.fa.1 (by have := V.lo; have := V.hi; omega)).out) fun Al W q36 d36 I => ?_
 refine zq I (fun Al W I => (HDc N hk p16 q36 c16 d36 _ _ W I.fa.2.1 I.fa.1).out) fun Al W I => ?_
 refine zq I (fun Al W I => (HNu W F N hk I.fa.2.2.2.1).out) fun Al W I => ?_
 refine zret I (v := fun Al => .tuple #[.string (a0c (numT v.neg (numX r.x k.toNat).1 (numX r.x k.toNat).2)), .int .i64 0]) fun Al W I => ?_
 first | (obtain ⟨h1, h2⟩ := e1 (bne_iff_ne.1 f20); rw [h1, h2]; exact ⟨rfl, I.below⟩) | (obtain ⟨h1, h2⟩ := e2 (bne_eq_false_iff_eq.1 f20) (by first | exact .inl (oTr f23) | exact .inr (oTr f26)); rw [h1, h2]; exact ⟨rfl, I.below⟩) | (rw [q1, q2, if_pos hc, ← V.neg]; exact ⟨rfl, I.below⟩) | (have hc : r.cls ≠ 2 := fun h => (by have := hwb.1 (c0o.2 (V.cls.trans h)); rw [this] at f31; cases f31); rw [q1, q2, if_neg hc, ← V.cls, ← V.neg]; exact ⟨rfl, I.below⟩)
theorem x0j {l : List Nat} (h : errT l.length (numl l) = 0) : a1y (ratL l) := by
 unfold errT at h
 by_cases h1 : 400 < l.length
 · rw [if_pos h1] at h; cases h
 · rw [if_neg h1] at h
   cases hn : numl l with
   | none => rw [hn] at h; cases h
   | some q =>
    rw [hn] at h
    by_cases h2 : q.pow < -6000 ∨ 6000 < q.pow
    · have h : (if q.pow < -6000 ∨ 6000 < q.pow then (3 : Int) else 0) = 0 := h
      rw [if_pos h2] at h; cases h
    · rw [(z0k h1 hn h2).2]
      have hd := o0j hn
      exact f1g hd.1 (by omega) (by omega)
def fitQ (n : Int) (R : Bool × Nat × Nat × Int) (way : Int) : Vr × Nat := if R.2.1 = 0 then (⟨1, false, vz⟩, 0) else (fmt n).placedM (a0q R.1 R.2.1 R.2.2.1 R.2.2.2 (fmt n).g way) way
def errQ (n way : Int) : Int := if IsFm n then (if 1 ≤ way ∧ way ≤ 5 then 0 else 6) else 6
def outQ (n way : Int) (R : Bool × Nat × Nat × Int) : ByteArray := if errQ n way = 0 then strR n (fitQ n R way).1 else a0c []
def flQ (n way : Int) (R : Bool × Nat × Nat × Int) : Nat := if errQ n way = 0 then (fitQ n R way).2 else 0
theorem z0p (n way : Int) (R : Bool × Nat × Nat × Int) (p q : Option Addr) (c d b1 b2 : Nat) (w : World) (hp : Own w b1 .u32 143 p c (dig B32 R.2.1)) (hq : Own w b2 .u32 143 q d (dig B32 R.2.2.1)) (hR : a1y R) (hT : TabW w) :
 Calls Tryz.prog 58 #[.int .i64 n, .agg #[.bool R.1, .slice p (dig B32 R.2.1).length c, .slice q (dig B32 R.2.2.1).length d, .int .i64 R.2.2.2], .int .i64 way] w fun en w' => en = .returned (.tuple #[.string (outQ n way R), .int .i64 ((flQ n way R : Nat) : Int), .int .i64 (errQ n way)]) ∧ Below w.heap.size w w' := by
 obtain ⟨hd0, hln, hld, he⟩ := hR
 have ha : InR w ⟨R.1, p, c, dig B32 R.2.1, q, d, dig B32 R.2.2.1, R.2.2.2⟩ := ⟨hp.rd, by show (dig B32 R.2.1).length ≤ _; omega, b0i a0a _, hq.rd, by show (dig B32 R.2.2.1).length ≤ _; omega, b0i a0a _⟩
 have hzl := a0e a0a R.2.1
 have hyl := a0e a0a R.2.2.1
 have eF : fitR n ⟨R.1, p, c, dig B32 R.2.1, q, d, dig B32 R.2.2.1, R.2.2.2⟩ way = fitQ n R way := by
  unfold fitR fitQ
  simp only [b0b a0a]
  by_cases h : R.2.1 = 0
  · rw [if_pos h, if_pos (hzl.2 h)]
  · rw [if_neg h, if_neg (fun k => h (hzl.1 k))]
 have eE : fitE n ⟨R.1, p, c, dig B32 R.2.1, q, d, dig B32 R.2.2.1, R.2.2.2⟩ way = errQ n way := by
  unfold fitE errQ
  by_cases hn : IsFm n
  · rw [if_pos hn, if_pos hn]
    have h1 : e0x ⟨R.1, p, c, dig B32 R.2.1, q, d, dig B32 R.2.2.1, R.2.2.2⟩ = 0 := by
     unfold e0x
     simp only [Go.Slip.o0z, if_neg (show ¬ 1200 < (dig B32 R.2.1).length by omega), if_neg (show ¬ 1200 < (dig B32 R.2.2.1).length by omega)]
     rw [if_neg (by simp), if_neg (by simp), if_neg (by omega)]
    unfold c0e
    rw [h1, (c0i hn).g, if_neg (by simp), if_neg (by simp)]
    by_cases hw : 1 ≤ way ∧ way ≤ 5
    · rw [if_neg (by omega), if_pos hw]
    · rw [if_pos (by omega), if_neg hw]
  · rw [if_neg hn, if_neg hn]
 by_cases h0 : errQ n way = 0
 · have := n1m n _ way w ha hT (by rw [eE]; exact h0)
   rw [eF] at this
   unfold outQ flQ
   rw [if_pos h0, if_pos h0, h0]
   exact this
 · have := j1k n _ way w ha hT (by rw [eE]; exact h0)
   rw [eE] at this
   unfold outQ flQ
   rw [if_neg h0, if_neg h0]
   exact this
def c0f (n way : Int) (l : List Nat) : Int := if IsFm n then (if errT l.length (numl l) = 0 then errQ n way else errT l.length (numl l)) else 6
def outP (n way : Int) (l : List Nat) : ByteArray := if c0f n way l = 0 then strR n (fitQ n (ratL l) way).1 else a0c []
def flP' (n way : Int) (l : List Nat) : Nat := if c0f n way l = 0 then (fitQ n (ratL l) way).2 else 0
theorem l0r (n : Int) (t : ByteArray) (way : Int) (w : World) (hT : TabW w) : Calls Tryz.prog 15 #[.int .i64 n, .string t, .int .i64 way] w fun en w' => en = .returned (.tuple #[.string (outP n way (a0b t)), .int .i64 ((flP' n way (a0b t) : Nat) : Int), .int .i64 (c0f n way (a0b t))]) ∧ Below w.heap.size w w' := by
 have HS := fun W => hi0 (i1x n W)
 have HR := fun W h => hi0 (o0k t W h)
 have hok := @x0j (a0b t)
 have HF := fun p q c d b1 b2 W h1 h2 h3 h4 => hi0 (z0p n way (ratL (a0b t)) p q c d b1 b2 W h1 h2 h3 h4)
 have e1 : d0l n ≠ 0 → c0f n way (a0b t) = d0l n ∧ outP n way (a0b t) = a0c [] ∧ flP' n way (a0b t) = 0 := fun h => by
  have hn : ¬ IsFm n := fun k => h (by unfold d0l; rw [if_pos k])
  have h1 : c0f n way (a0b t) = 6 := by unfold c0f; rw [if_neg hn]
  have h2 : d0l n = 6 := by unfold d0l; rw [if_neg hn]
  unfold outP flP'
  rw [h1, h2]
  exact ⟨rfl, rfl, rfl⟩
 have e2 : d0l n = 0 → errT (a0b t).length (numl (a0b t)) ≠ 0 → c0f n way (a0b t) = errT (a0b t).length (numl (a0b t)) ∧ outP n way (a0b t) = a0c [] ∧ flP' n way (a0b t) = 0 := fun h h' => by
  have hn : IsFm n := by unfold d0l at h; split at h; assumption; omega
  have h1 : c0f n way (a0b t) = errT (a0b t).length (numl (a0b t)) := by unfold c0f; rw [if_pos hn, if_neg h']
  unfold outP flP'
  rw [h1, if_neg h', if_neg h']
  exact ⟨rfl, rfl, rfl⟩
 have e3 : d0l n = 0 → errT (a0b t).length (numl (a0b t)) = 0 → c0f n way (a0b t) = errQ n way ∧ outP n way (a0b t) = outQ n way (ratL (a0b t)) ∧ flP' n way (a0b t) = flQ n way (ratL (a0b t)) := fun h h' => by
  have hn : IsFm n := by unfold d0l at h; split at h; assumption; omega
  have h1 : c0f n way (a0b t) = errQ n way := by unfold c0f; rw [if_pos hn, if_pos h']
  unfold outP flP' outQ flQ
  rw [h1]
  exact ⟨rfl, rfl, rfl⟩
 generalize c0f n way (a0b t) = ep at *
 generalize outP n way (a0b t) = op at *
 generalize flP' n way (a0b t) = fp at *
 generalize errT (a0b t).length (numl (a0b t)) = er at *
 generalize outQ n way (ratL (a0b t)) = oq at *
 generalize flQ n way (ratL (a0b t)) = fq at *
 generalize errQ n way = eq at *
 generalize ratL (a0b t) = R at *
 generalize (fmt n).size = sz at *
 generalize d0l n = ef at *
 have I := Inv.start w [tabF] ⟨hT, True.intro⟩
 refine a0h [.v (.int .i64 n), .v (.string t), .v (.int .i64 way)] I Tryz.func15 ?_
 refine zq I (fun Al W I => (HS W).out) fun Al W I => ?_
 rcases Bool.eq_false_or_eq_true (ef != 0) with f19 | f19
 · refine zb I 19 (ef != 0) (true) (f19) fun Al W I => ?_
   refine zret I (v := fun Al => .tuple #[Go.Value.string (ByteArray.mk #[]), .int .i64 0, .int .i64 ef]) fun Al W I => ?_
   first | (obtain ⟨h1, h2, h3⟩ := e1 (by simpa using f19); rw [h1, h2, h3]; exact ⟨rfl, I.below⟩) | (obtain ⟨h1, h2, h3⟩ := e2 (by simpa using f19) (by simpa using f27); rw [h1, h2, h3]; exact ⟨rfl, I.below⟩) | (obtain ⟨h1, h2, h3⟩ := e3 (by simpa using f19) (by simpa using f27); rw [h1, h2, h3]; exact ⟨rfl, I.below⟩)
 refine zb I 19 (ef != 0) (false) (f19) fun Al W I => ?_
 refine zg I (fun Al W I => (HR W I.fa.1).out) fun Al V Iv _ hB _ kz => ?_
 rintro _ W ⟨p23, c23, q23, d23, rfl, o23, r23, hb⟩
 refine ⟨_, rfl, kz _ _ hb fun I => ?_⟩
 have I := I.own o23
 have I := I.own r23
 rcases Bool.eq_false_or_eq_true (er != 0) with f27 | f27
 · refine zb I 27 (er != 0) (true) (f27) fun Al W I => ?_
   refine zret I (v := fun Al => .tuple #[Go.Value.string (ByteArray.mk #[]), .int .i64 0, .int .i64 er]) fun Al W I => ?_
   first | (obtain ⟨h1, h2, h3⟩ := e1 (by simpa using f19); rw [h1, h2, h3]; exact ⟨rfl, I.below⟩) | (obtain ⟨h1, h2, h3⟩ := e2 (by simpa using f19) (by simpa using f27); rw [h1, h2, h3]; exact ⟨rfl, I.below⟩) | (obtain ⟨h1, h2, h3⟩ := e3 (by simpa using f19) (by simpa using f27); rw [h1, h2, h3]; exact ⟨rfl, I.below⟩)
 refine zb I 27 (er != 0) (false) (f27) fun Al W I => ?_
 refine zq I (fun Al W I => (HF p23 q23 c23 d23 _ _ W I.fa.2.1 I.fa.1 (hok (by simpa using f27)) I.fa.2.2.1).out) fun Al W I => ?_
 refine zret I (v := fun Al => .tuple #[.string oq, .int .i64 (fq : Int), .int .i64 eq]) fun Al W I => ?_
 first | (obtain ⟨h1, h2, h3⟩ := e1 (by simpa using f19); rw [h1, h2, h3]; exact ⟨rfl, I.below⟩) | (obtain ⟨h1, h2, h3⟩ := e2 (by simpa using f19) (by simpa using f27); rw [h1, h2, h3]; exact ⟨rfl, I.below⟩) | (obtain ⟨h1, h2, h3⟩ := e3 (by simpa using f19) (by simpa using f27); rw [h1, h2, h3]; exact ⟨rfl, I.below⟩)
theorem z0q {g : Bool} {s : List Nat} {p : Int} (h : Byt s) : Byt (numT g s p) := by
 unfold numT
 refine Byt.append ?_ (Byt.append (h.take 1) (Byt.append ?_ fun y hy => ?_))
 · intro y hy; cases g <;> simp at hy; omega
 · intro y hy
   split at hy
   · rcases List.mem_cons.1 hy with h1 | h1
     · omega
     · exact h.drop 1 y h1
   · cases hy
 · rcases List.mem_cons.1 hy with h1 | h1
   · omega
   · exact f1y p y h1
theorem z0r {g : Bool} {s : List Nat} {p : Int} (hp : -100000 < p ∧ p < 100000) (h0 : 1 ≤ s.length) : (numT g s p).length ≤ s.length + 10 := by
 have hil : (f0v p).length ≤ 6 := by
  have h : (b0j p.natAbs).length ≤ 5 := (b0l _ 5 (by omega)).2 (by omega)
  unfold f0v
  split
  · rw [List.length_cons, show (-p).toNat = p.natAbs by omega]; omega
  · rw [show p.toNat = p.natAbs by omega]; omega
 unfold numT
 have h1 : (if g = true then [45] else [] : List Nat).length ≤ 1 := by cases g <;> simp
 have h2 : (if 1 < s.length then 46 :: s.drop 1 else [] : List Nat).length ≤ s.length := by split <;> simp; omega
 rw [List.length_append, List.length_append, List.length_append, List.length_cons, List.length_take]
 omega
theorem u0u {n : Int} {r : Vr} {k : Nat} (hn : IsFm n) (h0 : r.x.m ≠ 0) (F : VrOk r) (hin : a0v r.x (fmt n).g = true) (hk : 1 ≤ k ∧ k ≤ 60) :
 errT (a0b (a0c (numT r.x.neg (numX r.x k).1 (numX r.x k).2))).length (numl (a0b (a0c (numT r.x.neg (numX r.x k).1 (numX r.x k).2)))) = 0 ∧ ratL (a0b (a0c (numT r.x.neg (numX r.x k).1 (numX r.x k).2))) = ratX r.x k := by
 have A := g0c (k := k) h0 F.len hk.1
 have B := m1z (k := k) (c0i hn).g h0 F.len hin hk.1
 rw [a0s (z0q (m0m A.2.1))]
 have hl := z0r (g := r.x.neg) (s := (numX r.x k).1) (p := (numX r.x k).2) (by omega) (by omega)
 have hN := t0m (neg := r.x.neg) A.1 hk.1 A.2.1 (show -100000 < (numX r.x k).2 ∧ (numX r.x k).2 < 100000 by omega)
 unfold ratX
 generalize numX r.x k = q at *
 generalize numT r.x.neg q.1 q.2 = L at *
 exact z0k (by omega) hN (by simp only; omega)
theorem g1b {n : Int} {r : Vr} {k : Nat} (hn : IsFm n) (h0 : r.x.m ≠ 0) (F : VrOk r) (hin : a0v r.x (fmt n).g = true) (hk : 1 ≤ k ∧ k ≤ 60) : a1y (ratX r.x k) ∧ 0 < (ratX r.x k).2.1 ∧ (ratX r.x k).1 = r.x.neg := by
 have h := u0u hn h0 F hin hk
 have A := g0c (k := k) h0 F.len hk.1
 have hq : a1y (ratX r.x k) := h.2 ▸ x0j h.1
 clear h
 unfold ratX at *
 obtain ⟨g, num, den, e, hr⟩ : ∃ g num den e, f0e ⟨r.x.neg, (numX r.x k).1, (numX r.x k).2 - ((k - 1 : Nat) : Int)⟩ = (g, num, den, e) := ⟨_, _, _, _, rfl⟩
 obtain ⟨a1, a2, _, _⟩ := t0n (by simp only; omega) hr
 rw [hr] at hq ⊢
 exact ⟨hq, a2, a1⟩
theorem g1c {n : Int} {r : Vr} {k : Nat} (hn : IsFm n) (h0 : r.x.m ≠ 0) (F : VrOk r) (hin : a0v r.x (fmt n).g = true) (hk : 1 ≤ k ∧ k ≤ 60) : ResF (fmt n) (d0f (fmt n) r.x k) ∧ (fitQ n (ratX r.x k) 1).1 = d0f (fmt n) r.x k := by
 have R := g1b hn h0 F hin hk
 have hf : (fitQ n (ratX r.x k) 1).1 = d0f (fmt n) r.x k := by
  unfold fitQ
  rw [if_neg (by have := R.2.1; omega)]
  rfl
 exact ⟨(l0q (c0i hn) R.1.d0).1, hf⟩
theorem z0s {n : Int} {s : ByteArray} (h0 : a0w n s = 0) : decP n s = (fmt n).toV (refD n s) := by
 obtain ⟨hn, hs⟩ := b0f.1 h0
 have he : (fmt n).exp (a0y (fmt n) s) < 2 ^ (fmt n).E := Nat.mod_lt _ (Nat.pow_pos (by omega))
 have hp := m1n (c0i hn) ((fmt n).neg (a0y (fmt n) s)) (frac := (fmt n).frac (a0y (fmt n) s)) he
 unfold decP
 rw [if_pos h0]
 exact (h1u _ _ ((fmt n).decN (a0y (fmt n) s)) (by unfold Fm.decN; omega) (by unfold Fm.decN; omega)).symm
theorem j1s {n : Int} {s t : ByteArray} (h1 : a0w n s = 0) (h2 : a0w n t = 0) (hc : (refD n s).cls = 2) (hc2 : (refD n t).cls = 2 → (refD n t).x.neg = (refD n t).neg) :
 decide ((decP n s).cls = (decP n t).cls ∧ (decP n s).neg = (decP n t).neg ∧ (decP n s).pow = (decP n t).pow ∧ (decP n s).d = (decP n t).d) =
  decide ((refD n t).cls = 2 ∧ (refD n t).x.neg = (refD n s).x.neg ∧ (refD n t).x.m = (refD n s).x.m ∧ (refD n t).x.e = (refD n s).x.e) := by
 have V := g0d h1
 have U := g0d h2
 have F := (h0m (s := s) (b0f.1 h1).1).ok
 rw [decide_eq_decide]
 constructor
 · rintro ⟨q1, q2, q3, q4⟩
   have k2 : (refD n t).cls = 2 := by rw [← U.cls, ← q1, V.cls]; exact hc
   have := U.num k2
   rw [← q2, ← q3, ← q4, V.num hc] at this
   exact ⟨k2, by rw [this], by rw [this], by rw [this]⟩
 · rintro ⟨q1, q2, q3, q4⟩
   have hx : (refD n t).x = (refD n s).x := by
    cases hq : (refD n t).x; cases hq' : (refD n s).x
    rw [hq, hq'] at q2 q3 q4
    simp only at q2 q3 q4
    rw [q2, q3, q4]
   have hr : refD n t = refD n s := by
    have hng : (refD n t).neg = (refD n s).neg := by rw [← hc2 q1, ← (F.x2 hc).2, hx]
    cases hq : refD n t; cases hq' : refD n s
    rw [hq, hq'] at hx hng
    rw [hq] at q1
    rw [hq'] at hc
    simp only at hx hng q1 hc
    rw [hx, hng, q1, hc]
   rw [z0s h1, z0s h2, hr]
   exact ⟨rfl, rfl, rfl, rfl⟩
theorem bad1 {x o u g : Bool} (h : (!x) = true) : true = !(x && (!o && (!u || g))) := by revert h; cases x <;> simp
theorem bad2 {x o u g : Bool} (h : o = true) : true = !(x && (!o && (!u || g))) := by subst h; cases x <;> simp
theorem bad3 {x o u g : Bool} (h : (!x) = false) (h2 : o = false) (h3 : u = false) : false = !(x && (!o && (!u || g))) := by subst h2 h3; revert h; cases x <;> simp
theorem bad4 {x o u g : Bool} (h : (!x) = false) (h2 : o = false) (h3 : u = true) : (!g) = !(x && (!o && (!u || g))) := by subst h2 h3; revert h; cases x <;> simp
structure h0o (n : Int) (v : Vl) (r : Vr) (k : Nat) : Prop where
 er : errT (a0b (a0c (numT v.neg (numX r.x k).1 (numX r.x k).2))).length (numl (a0b (a0c (numT v.neg (numX r.x k).1 (numX r.x k).2)))) = 0
 rt : ratL (a0b (a0c (numT v.neg (numX r.x k).1 (numX r.x k).2))) = ratX r.x k
 ok : a1y (ratX r.x k)
 out : outQ n 1 (ratX r.x k) = strR n (d0f (fmt n) r.x k)
 eq : errQ n 1 = 0
 pat : a0w n (strR n (d0f (fmt n) r.x k)) = 0
 ref : refD n (strR n (d0f (fmt n) r.x k)) = d0f (fmt n) r.x k
 same : decide (v.cls = (decP n (strR n (d0f (fmt n) r.x k))).cls ∧ v.neg = (decP n (strR n (d0f (fmt n) r.x k))).neg ∧ v.pow = (decP n (strR n (d0f (fmt n) r.x k))).pow ∧ v.d = (decP n (strR n (d0f (fmt n) r.x k))).d) = okX (fmt n) r.x k
 len : (dig B32 (decP n (strR n (d0f (fmt n) r.x k))).d).length ≤ 1000
theorem g1d {n : Int} {s : ByteArray} {k : Nat} (h0 : a0w n s = 0) (hc : (refD n s).cls = 2) (hin : a0v (refD n s).x (fmt n).g = true) (hk : 1 ≤ k ∧ k ≤ 60) : h0o n (decP n s) (refD n s) k := by
 have hn := (b0f.1 h0).1
 have F := (h0m (s := s) hn).ok
 have N := j0v h0 hc
 have A := u0u hn N.x0 F hin hk
 have B := g1b hn N.x0 F hin hk
 have C := g1c hn N.x0 F hin hk
 have D := z0g hn C.1
 have eQ : errQ n 1 = 0 := by unfold errQ; rw [if_pos hn, if_pos (by omega)]
 rw [N.ng] at A
 have hs := j1s h0 D.1 hc (fun h => by rw [D.2] at h ⊢; exact (C.1.c2 h).2.2.2)
 rw [D.2] at hs
 exact ⟨A.1, A.2, B.1, by unfold outQ; rw [if_pos eQ, C.2], eQ, D.1, D.2, hs, (g0d D.1).len⟩
def u0v (f : Fm) (r : Vr) : List Nat := if r.cls = 2 then numT r.neg (numX r.x (c0r f r.x)).1 (numX r.x (c0r f r.x)).2 else i0i r.cls r.neg
def b0y (n : Int) (s : ByteArray) : Int := if a0w n s = 0 then (if (refD n s).cls = 2 ∧ a0v (refD n s).x (fmt n).g = false then 4 else 0) else a0w n s
def d0a (n : Int) (s : ByteArray) : ByteArray := if b0y n s = 0 then a0c (u0v (fmt n) (refD n s)) else a0c []
theorem i0j (n : Int) (s : ByteArray) (w : World) (hT : TabW w) (hP : PowW w) : Calls Tryz.prog 21 #[.int .i64 n, .string s] w fun en w' => en = .returned (.tuple #[.string (d0a n s), .int .i64 (b0y n s)]) ∧ Below w.heap.size w w' := by
 have HD := fun W h => hi0 (e0j n s W h)
 have e1 : a0w n s ≠ 0 → b0y n s = a0w n s ∧ d0a n s = a0c [] := fun h => by
  have h1 : b0y n s = a0w n s := by unfold b0y; rw [if_neg h]
  unfold d0a
  rw [h1, if_neg h]
  exact ⟨rfl, rfl⟩
 have e2 : a0w n s = 0 → (refD n s).cls = 2 → a0v (refD n s).x (fmt n).g = false → b0y n s = 4 ∧ d0a n s = a0c [] := fun h h' h'' => by
  have h1 : b0y n s = 4 := by unfold b0y; rw [if_pos h, if_pos ⟨h', h''⟩]
  unfold d0a
  rw [h1]
  exact ⟨rfl, rfl⟩
 have e3 : a0w n s = 0 → ((refD n s).cls = 2 → a0v (refD n s).x (fmt n).g = true) → b0y n s = 0 ∧ d0a n s = a0c (u0v (fmt n) (refD n s)) := fun h h' => by
  have h1 : b0y n s = 0 := by unfold b0y; rw [if_pos h, if_neg (fun k => by have := h' k.1; rw [k.2] at this; cases this)]
  unfold d0a
  rw [h1]
  exact ⟨rfl, rfl⟩
 have hV := fun h => g0d (n := n) (s := s) h
 have hF : a0w n s = 0 → VrOk (refD n s) := fun h => (h0m (n := n) (s := s) (b0f.1 h).1).ok
 have hN := fun h h2 => j0v (n := n) (s := s) h h2
 have hG : a0w n s = 0 → f0c (fmt n).g := fun h => c0a (c0i (b0f.1 h).1).g
 have hB := fun (h : a0w n s = 0) h2 h3 k hk => g1d (k := k) h h2 h3 hk
 have hS : a0w n s = 0 → (refD n s).cls = 2 → a0v (refD n s).x (fmt n).g = true → _ := fun h h2 h3 => o0a (f := fmt n) (x := (refD n s).x) (c0i (b0f.1 h).1).g (f1j (b0f.1 h).1) (hF h).bare h3 (hN h h2).x0
 unfold u0v at e3
 generalize refD n s = r at *
 generalize decP n s = v at *
 generalize b0y n s = eo at *
 generalize d0a n s = oo at *
 generalize a0w n s = er at *
 have HGr := fun W => hi0 (z0d n W)
 have HW := fun p c b W (h : Own W b .u32 143 p c (dig B32 v.d)) (h2 : 1 ≤ v.cls ∧ v.cls ≤ 5) h3 => hi0 (z0n v p c b W h h2 h3)
 have HV := fun p c b W (h : Own W b .u32 143 p c (dig B32 v.d)) h2 => hi0 (q0d n v p c b W h h2)
 have HFt := fun (N : NumV (fmt n) v r) (G : f0c (fmt n).g) p q c d W h1 h2 => hi0 (u0m v.neg p q c d v.d 1 (wid (fmt n).g * v.pow) (fmt n).g 1 W h1 h2 (by have := N.len; omega) (Nat.le_trans ((a0f a0a 1 1).2 (by decide)) (by omega)) N.d0 (by omega) (by have := N.e; omega) G (by omega) (by omega))
 have hX := fun (N : NumV (fmt n) v r) (G : f0c (fmt n).g) => a1z (s := v.neg) (e := wid (fmt n).g * v.pow) (way := 1) N.d0 G
 have hbx : er = 0 → r.cls = 2 → bare ⟨v.neg, v.d, wid (fmt n).g * v.pow⟩ = r.x := fun h h2 => (hV h).num h2
 have HDc := fun (N : NumV (fmt n) v r) (k : Nat) (hk : 1 ≤ k ∧ k ≤ 60) p q a b b1 b2 W (h1 : Own W b1 .u32 143 p a (dig B32 v.d)) (h2 : Own W b2 .u32 143 q b (dig B32 1)) => hi0 (by
   have h := m0a v.neg v.d (wid (fmt n).g * v.pow) k p q a b b1 b2 W h1 h2 N.d0 (by have := N.len; omega) N.e (by omega)
   rw [N.dec] at h
   exact h : Calls Tryz.prog 67 #[.agg #[.bool v.neg, .slice p (dig B32 v.d).length a, .slice q (dig B32 1).length b, .int .i64 (wid (fmt n).g * v.pow)], .int .i64 (k : Int)] W fun en w' => en = .returned (.tuple #[.string (a0c (numX r.x k).1), .int .i64 (numX r.x k).2]) ∧ Below W.heap.size W w')
 have HNu := fun (F : VrOk r) (N : NumV (fmt n) v r) (k : Nat) (hk : 1 ≤ k ∧ k ≤ 60) W (h : PowW W) => hi0 (by
   have A := g0c (k := k) N.x0 F.len (by omega)
   have B := s0i (k := k) N.x0 F.len ⟨F.lo, F.hi⟩ (by omega)
   exact k0w v.neg (numX r.x k).1 (numX r.x k).2 W (m0m A.2.1) (fun h => by have := A.1; rw [h, List.length_nil] at this; omega) (by omega) (by omega) h)
 have HRa := fun (k : Nat) (B : h0o n v r k) W h => hi0 (by
   have h := o0k (a0c (numT v.neg (numX r.x k).1 (numX r.x k).2)) W h
   rw [B.er, B.rt] at h
   exact h : Calls Tryz.prog 11 #[.string (a0c (numT v.neg (numX r.x k).1 (numX r.x k).2))] W (m0k W 0 (ratX r.x k)))
 have HFq := fun (k : Nat) (B : h0o n v r k) p q c d b1 b2 W h1 h2 h3 => hi0 (by
   have h := z0p n 1 (ratX r.x k) p q c d b1 b2 W h1 h2 B.ok h3
   rw [B.out, B.eq] at h
   exact h)
 have HD2 := fun (k : Nat) (B : h0o n v r k) W h => hi0 (by
   have h := e0j n (strR n (d0f (fmt n) r.x k)) W h
   rw [B.pat] at h
   exact h)
 have HSa := fun (N : NumV (fmt n) v r) (k : Nat) (B : h0o n v r k) p q c d b1 b2 W h1 h2 => hi0 (by
   have h := j1r v (decP n (strR n (d0f (fmt n) r.x k))) p q c d b1 b2 W h1 h2 (by have := N.len; omega) (by have := B.len; omega)
   rw [B.same] at h
   exact h)
 generalize a0q v.neg v.d 1 (wid (fmt n).g * v.pow) (fmt n).g 1 = P at *
 generalize wid (fmt n).g * v.pow = E at *
 obtain ⟨wb, hwb⟩ : ∃ wb : Bool, (i0i v.cls v.neg = [] ↔ wb = false) := ⟨decide (v.cls ≠ 2), by rw [c0o]; simp⟩
 have I := Inv.start w [tabF, powF] ⟨hT, hP, True.intro⟩
 refine a0h [.v (.int .i64 n), .v (.string s)] I Tryz.func21 ?_
 refine zqo I (fun Al W I => (HD W I.fa.1).out) fun Al W p16 c16 I => ?_
 rcases Bool.eq_false_or_eq_true (er != 0) with f31 | f31
 · refine zb I 31 (er != 0) (true) (f31) fun Al W I => ?_
   refine zret I (v := fun Al => .tuple #[Go.Value.string (ByteArray.mk #[]), .int .i64 er]) fun Al W I => ?_
   first | (obtain ⟨h1, h2⟩ := e1 (bne_iff_ne.1 f31); rw [h1, h2]; exact ⟨rfl, I.below⟩) | (have hc : r.cls ≠ 2 := fun h => (by have := hwb.1 (c0o.2 (VR.cls.trans h)); rw [this] at f36; cases f36); obtain ⟨q1, q2⟩ := e3 h0 (fun h => absurd h hc); rw [q1, q2, if_neg hc, ← VR.cls, ← VR.neg]; exact ⟨rfl, I.below⟩) | (obtain ⟨h1, h2⟩ := e2 h0 hc (by simpa using hbd.symm); rw [h1, h2]; exact ⟨rfl, I.below⟩) | (have hkk : k = c0r (fmt n) r.x := (by rcases Nat.lt_or_ge k (c0r (fmt n) r.x) with h | h; (have := s4 k hk1.1 h; rw [this] at f100; cases f100); omega); obtain ⟨q1, q2⟩ := e3 h0 (fun _ => hin); rw [q1, q2, if_pos hc, ← VR.neg, hkk]; exact ⟨rfl, I.below⟩)
 refine zb I 31 (er != 0) (false) (f31) fun Al W I => ?_
 have h0 : er = 0 := bne_eq_false_iff_eq.1 f31
 have VR := hV h0
 have F := hF h0
 have G := hG h0
 refine zq I (fun Al W I => (HW p16 c16 _ W I.fa.1 (by rw [VR.cls]; exact F.c) I.fa.2.1).out) fun Al W I => ?_
 rcases Bool.eq_false_or_eq_true (wb) with f36 | f36
 · refine zbin I 36 (.bool true) (fun _ _ _ _ W => ((m0l (k0v _ _) hwb)).trans (congrArg (fun z => Result.ok (Value.bool z) W) (show (wb) = true from f36))) fun Al W I => ?_
   refine zret I (v := fun Al => .tuple #[.string (a0c (i0i v.cls v.neg)), .int .i64 0]) fun Al W I => ?_
   first | (obtain ⟨h1, h2⟩ := e1 (bne_iff_ne.1 f31); rw [h1, h2]; exact ⟨rfl, I.below⟩) | (have hc : r.cls ≠ 2 := fun h => (by have := hwb.1 (c0o.2 (VR.cls.trans h)); rw [this] at f36; cases f36); obtain ⟨q1, q2⟩ := e3 h0 (fun h => absurd h hc); rw [q1, q2, if_neg hc, ← VR.cls, ← VR.neg]; exact ⟨rfl, I.below⟩) | (obtain ⟨h1, h2⟩ := e2 h0 hc (by simpa using hbd.symm); rw [h1, h2]; exact ⟨rfl, I.below⟩) | (have hkk : k = c0r (fmt n) r.x := (by rcases Nat.lt_or_ge k (c0r (fmt n) r.x) with h | h; (have := s4 k hk1.1 h; rw [this] at f100; cases f100); omega); obtain ⟨q1, q2⟩ := e3 h0 (fun _ => hin); rw [q1, q2, if_pos hc, ← VR.neg, hkk]; exact ⟨rfl, I.below⟩)
 refine zbin I 36 (.bool false) (fun _ _ _ _ W => ((m0l (k0v _ _) hwb)).trans (congrArg (fun z => Result.ok (Value.bool z) W) (show (wb) = false from f36))) fun Al W I => ?_
 have hc : r.cls = 2 := by rw [← VR.cls]; exact c0o.1 (hwb.2 f36)
 have N := hN h0 hc
 have hX := hX N G
 rw [hbx h0 hc] at hX
 refine zq I (fun Al W I => (HGr W).out) fun Al W I => ?_
 refine zqo I (fun Al W I => have hzW := I.bel.size; (HV p16 c16 _ W I.fa.1 (by have := VR.lo; have := VR.hi; omega)).out) fun Al W q36 d36 I => ?_
 refine zqo I (fun Al W I => (HFt N G p16 q36 c16 d36 W I.fa.2.1.rd I.fa.1.rd).out) fun Al W p48 c48 I => ?_
 refine zcut I (some 3000010) (fun fr bx gs => ∃ (U1 : Nat → Value) (bd : Bool), fr = (.v (.int .i64 n) :: .v (.string s) :: su 2 (.v (Go.Value.string (ByteArray.mk #[])) :: .v (.int .i64 0) :: .p 0 0 :: .v (.int .i64 er) :: .v (.string (a0c (i0i v.cls v.neg))) :: .p 1 0 :: .v (U1 10) :: .p 2 0 :: .p 3 0 :: su 5 (.v (U1 18) :: .v undef :: .v (U1 20) :: su 2 (sw U1 23 8 (.v (.bool false) :: sw U1 32 4 (.v (.bool false) :: sw U1 37 27 (.v (.bool bd) :: sw U1 65 26 (.v undef :: sw U1 92 8 (.v undef :: .v (U1 101) :: [])))))))) : List SV) ∧ bx = [⟨66, [.v (.int .i64 (v.cls : Int)), .v (.bool v.neg), .v (.slice p16 (dig B32 v.d).length c16), .v (.int .i64 v.pow)], false⟩, ⟨40, [.v (.int .i64 ((fmt n).g.rad)), .v (.int .i64 ((fmt n).g.digs)), .v (.int .i64 ((fmt n).g.lo)), .v (.int .i64 ((fmt n).g.hi)), .v (.bool ((fmt n).g.grad))], false⟩, ⟨25, [.v (.bool v.neg), .v (.slice p16 (dig B32 v.d).length c16), .v (.slice q36 (dig B32 1).length d36), .v (.int .i64 E)], false⟩, ⟨116, [.v (.bool P.neg), .v (.slice p48 (dig B32 P.d).length c48), .v (.int .i64 P.pow), .v (.bool P.exact), .v (.bool P.over), .v (.bool P.under)], false⟩] ∧ gs = [ownF w.heap.size .u32 143 p48 c48 (dig B32 P.d), ownF w.heap.size .u32 143 q36 d36 (dig B32 1), ownF w.heap.size .u32 143 p16 c16 (dig B32 v.d), tabF, powF] ∧ (bd = !a0v r.x (fmt n).g)) ?_ ?_
 · intro J hJ Al W I
   rcases Bool.eq_false_or_eq_true (!P.exact) with f51 | f51
   · refine zb I 51 (!P.exact) (true) (f51) fun Al W I => ?_
     exact a0n I J fun Al W U I => hJ _ _ _ _ _ ⟨U, true, rfl, rfl, rfl, (by rw [← hX]; unfold okP; first | exact bad1 f51 | exact bad2 f54 | exact bad3 f51 f54 f58 | exact bad4 f51 f54 f58)⟩ (I.pick [0, 1, 2, 3, 4])
   refine zb I 51 (!P.exact) (false) (f51) fun Al W I => ?_
   rcases Bool.eq_false_or_eq_true (P.over) with f54 | f54
   · refine zb I 54 (P.over) (true) (f54) fun Al W I => ?_
     exact a0n I J fun Al W U I => hJ _ _ _ _ _ ⟨U, true, rfl, rfl, rfl, (by rw [← hX]; unfold okP; first | exact bad1 f51 | exact bad2 f54 | exact bad3 f51 f54 f58 | exact bad4 f51 f54 f58)⟩ (I.pick [0, 1, 2, 3, 4])
   refine zb I 54 (P.over) (false) (f54) fun Al W I => ?_
   rcases Bool.eq_false_or_eq_true (P.under) with f58 | f58
   · refine zb I 58 (P.under) (true) (f58) fun Al W I => ?_
     exact a0n I J fun Al W U I => hJ _ _ _ _ _ ⟨U, !((fmt n).g.grad), rfl, rfl, rfl, (by rw [← hX]; unfold okP; first | exact bad1 f51 | exact bad2 f54 | exact bad3 f51 f54 f58 | exact bad4 f51 f54 f58)⟩ (I.pick [0, 1, 2, 3, 4])
   refine zb I 58 (P.under) (false) (f58) fun Al W I => ?_
   exact a0n I J fun Al W U I => hJ _ _ _ _ _ ⟨U, false, rfl, rfl, rfl, (by rw [← hX]; unfold okP; first | exact bad1 f51 | exact bad2 f54 | exact bad3 f51 f54 f58 | exact bad4 f51 f54 f58)⟩ (I.pick [0, 1, 2, 3, 4])
 rintro _ _ _ ⟨U1, bd, rfl, rfl, rfl, hbd⟩ Al W I
 refine zcut I (some 2000064) (fun fr bx gs => ∃ (U2 : Nat → Value) , fr = (.v (.int .i64 n) :: .v (.string s) :: su 2 (sw U2 4 2 (.p 0 0 :: .v (.int .i64 er) :: .v (.string (a0c (i0i v.cls v.neg))) :: .p 1 0 :: .v (U2 10) :: .p 2 0 :: .p 3 0 :: su 5 (.v (U2 18) :: .v undef :: .v (U2 20) :: su 2 (sw U2 23 8 (.v (.bool false) :: sw U2 32 4 (.v (.bool false) :: sw U2 37 27 (.v (.bool bd) :: sw U2 65 26 (.v undef :: sw U2 92 8 (.v undef :: .v (U2 101) :: []))))))))) : List SV) ∧ bx = [⟨66, [.v (.int .i64 (v.cls : Int)), .v (.bool v.neg), .v (.slice p16 (dig B32 v.d).length c16), .v (.int .i64 v.pow)], false⟩, ⟨40, [.v (.int .i64 ((fmt n).g.rad)), .v (.int .i64 ((fmt n).g.digs)), .v (.int .i64 ((fmt n).g.lo)), .v (.int .i64 ((fmt n).g.hi)), .v (.bool ((fmt n).g.grad))], false⟩, ⟨25, [.v (.bool v.neg), .v (.slice p16 (dig B32 v.d).length c16), .v (.slice q36 (dig B32 1).length d36), .v (.int .i64 E)], false⟩, ⟨116, [.v (.bool P.neg), .v (.slice p48 (dig B32 P.d).length c48), .v (.int .i64 P.pow), .v (.bool P.exact), .v (.bool P.over), .v (.bool P.under)], false⟩] ∧ gs = [ownF w.heap.size .u32 143 p48 c48 (dig B32 P.d), ownF w.heap.size .u32 143 q36 d36 (dig B32 1), ownF w.heap.size .u32 143 p16 c16 (dig B32 v.d), tabF, powF] ∧ (a0v r.x (fmt n).g = true)) ?_ ?_
 · intro J hJ Al W I
   rcases Bool.eq_false_or_eq_true bd with rfl | rfl
   · refine zret I (v := fun Al => .tuple #[Go.Value.string (ByteArray.mk #[]), .int .i64 4]) fun Al W I => ?_
     first | (obtain ⟨h1, h2⟩ := e1 (bne_iff_ne.1 f31); rw [h1, h2]; exact ⟨rfl, I.below⟩) | (have hc : r.cls ≠ 2 := fun h => (by have := hwb.1 (c0o.2 (VR.cls.trans h)); rw [this] at f36; cases f36); obtain ⟨q1, q2⟩ := e3 h0 (fun h => absurd h hc); rw [q1, q2, if_neg hc, ← VR.cls, ← VR.neg]; exact ⟨rfl, I.below⟩) | (obtain ⟨h1, h2⟩ := e2 h0 hc (by simpa using hbd.symm); rw [h1, h2]; exact ⟨rfl, I.below⟩) | (have hkk : k = c0r (fmt n) r.x := (by rcases Nat.lt_or_ge k (c0r (fmt n) r.x) with h | h; (have := s4 k hk1.1 h; rw [this] at f100; cases f100); omega); obtain ⟨q1, q2⟩ := e3 h0 (fun _ => hin); rw [q1, q2, if_pos hc, ← VR.neg, hkk]; exact ⟨rfl, I.below⟩)
   exact a0n I J fun Al W U I => hJ _ _ _ _ _ ⟨U, rfl, rfl, rfl, (by simpa using hbd.symm)⟩ (I.pick [0, 1, 2, 3, 4])
 rintro _ _ _ ⟨U2, rfl, rfl, rfl, hin⟩ Al W I
 obtain ⟨s1, s2, s3, s4⟩ := hS h0 hc hin
 have hB := hB h0 hc hin
 refine n0e I (fun gk fr bx gs => ∃ (U900 : Nat → Value) (k : Nat), fr = (.v (.int .i64 n) :: .v (.string s) :: su 2 (sw U900 4 2 (.p 0 0 :: .v (.int .i64 er) :: .v (.string (a0c (i0i v.cls v.neg))) :: .p 1 0 :: .v (U900 10) :: .p 2 0 :: .p 3 0 :: .v (.int .i64 (k : Int)) :: sw U900 14 17 (.v (.bool false) :: sw U900 32 4 (.v (.bool false) :: sw U900 37 27 (.v (.bool bd) :: sw U900 65 37 []))))) : List SV) ∧ bx = [⟨66, [.v (.int .i64 (v.cls : Int)), .v (.bool v.neg), .v (.slice p16 (dig B32 v.d).length c16), .v (.int .i64 v.pow)], false⟩, ⟨40, [.v (.int .i64 ((fmt n).g.rad)), .v (.int .i64 ((fmt n).g.digs)), .v (.int .i64 ((fmt n).g.lo)), .v (.int .i64 ((fmt n).g.hi)), .v (.bool ((fmt n).g.grad))], false⟩, ⟨25, [.v (.bool v.neg), .v (.slice p16 (dig B32 v.d).length c16), .v (.slice q36 (dig B32 1).length d36), .v (.int .i64 E)], false⟩, ⟨116, [.v (.bool P.neg), .v (.slice p48 (dig B32 P.d).length c48), .v (.int .i64 P.pow), .v (.bool P.exact), .v (.bool P.over), .v (.bool P.under)], false⟩] ∧ gs = [ownF w.heap.size .u32 143 p48 c48 (dig B32 P.d), ownF w.heap.size .u32 143 q36 d36 (dig B32 1), ownF w.heap.size .u32 143 p16 c16 (dig B32 v.d), tabF, powF] ∧ (1 ≤ k ∧ k ≤ c0r (fmt n) r.x) ∧ (gk + k = 31)) 30 (fun Al W U I => ⟨_, ⟨U, 1, rfl, rfl, rfl, (by omega), rfl⟩, I.pick [0, 1, 2, 3, 4]⟩) ?_
 rintro J0 gk0 _ _ _ ⟨U900, k, rfl, rfl, rfl, hk1, hgk⟩ hJ0 Al W I
 have B := hB k (by omega)
 refine zq I (fun Al W I => have hzW := I.bel.size; (HDc N k (by omega) p16 q36 c16 d36 _ _ W I.fa.2.2.1 I.fa.2.1).out) fun Al W I => ?_
 refine zq I (fun Al W I => have hzW := I.bel.size; (HNu F N k (by omega) W I.fa.2.2.2.2.1).out) fun Al W I => ?_
 refine zg I (fun Al W I => (HRa k B W I.fa.2.2.2.1).out) fun Al V Iv _ hB _ kz => ?_
 rintro _ W ⟨p80, c80, q80, d80, rfl, o80, r80, hb⟩
 refine ⟨_, rfl, kz _ _ hb fun I => ?_⟩
 have I := I.own o80
 have I := I.own r80
 refine zq I (fun Al W I => (HFq k B p80 q80 c80 d80 _ _ W I.fa.2.1 I.fa.1 I.fa.2.2.2.2.2.1).out) fun Al W I => ?_
 refine zqo I (fun Al W I => (HD2 k B W I.fa.2.2.2.2.2.1).out) fun Al W p95 c95 I => ?_
 by_cases f100 : okX (fmt n) r.x k = true
 · refine zqd I (fun Al W I => (HSa N k B p16 p95 c16 c95 _ _ W I.fa.2.2.2.2.2.1 I.fa.1).out) (show (okX (fmt n) r.x k) = true from f100) fun Al W I => ?_
   refine zret I (v := fun Al => .tuple #[.string (a0c (numT v.neg (numX r.x k).1 (numX r.x k).2)), .int .i64 0]) fun Al W I => ?_
   first | (obtain ⟨h1, h2⟩ := e1 (bne_iff_ne.1 f31); rw [h1, h2]; exact ⟨rfl, I.below⟩) | (have hc : r.cls ≠ 2 := fun h => (by have := hwb.1 (c0o.2 (VR.cls.trans h)); rw [this] at f36; cases f36); obtain ⟨q1, q2⟩ := e3 h0 (fun h => absurd h hc); rw [q1, q2, if_neg hc, ← VR.cls, ← VR.neg]; exact ⟨rfl, I.below⟩) | (obtain ⟨h1, h2⟩ := e2 h0 hc (by simpa using hbd.symm); rw [h1, h2]; exact ⟨rfl, I.below⟩) | (have hkk : k = c0r (fmt n) r.x := (by rcases Nat.lt_or_ge k (c0r (fmt n) r.x) with h | h; (have := s4 k hk1.1 h; rw [this] at f100; cases f100); omega); obtain ⟨q1, q2⟩ := e3 h0 (fun _ => hin); rw [q1, q2, if_pos hc, ← VR.neg, hkk]; exact ⟨rfl, I.below⟩)
 refine zqd I (fun Al W I => (HSa N k B p16 p95 c16 c95 _ _ W I.fa.2.2.2.2.2.1 I.fa.1).out) (show (okX (fmt n) r.x k) = false from (by simpa using f100)) fun Al W I => ?_
 refine zi I 66 .i64 ((k : Int) + 1) (((k + 1 : Nat) : Int)) ((by rw [show ((k : Int) + 1) = ((k + 1 : Nat) : Int) by omega]; exact iwo)) fun Al W I => ?_
 exact q1e 4 I J0 fun Al W U I => hJ0 (gk0 - 1) _ _ _ _ _ ((by omega)) ⟨U, k + 1, rfl, rfl, rfl, (by have : k ≠ c0r (fmt n) r.x := fun h => (f100 (by rw [h]; exact s3)).elim; omega), (by omega)⟩ (I.pick [3, 4, 5, 6, 7])
theorem o0l : c0f 2 1 [48, 46, 49] = 0 ∧ flP' 2 1 [48, 46, 49] = 1 ∧ 0 < (ratL [48, 46, 49]).2.1 ∧ 0 < (ratL [48, 46, 49]).2.2.1 := by decide +kernel
theorem g1e : (fitQ 2 (ratL [48, 46, 49]) 1).1.cls = 2 ∧ (fitQ 2 (ratL [48, 46, 49]) 1).1.neg = false ∧ (fitQ 2 (ratL [48, 46, 49]) 1).1.x.neg = false ∧ (fitQ 2 (ratL [48, 46, 49]) 1).1.x.m = 3602879701896397 ∧ (fitQ 2 (ratL [48, 46, 49]) 1).1.x.e = -55 := by decide +kernel
theorem x0k : a0v ⟨false, 3602879701896397, -55⟩ (fmt 2).g = true ∧ u0v (fmt 2) ⟨2, false, ⟨false, 3602879701896397, -55⟩⟩ = [49, 101, 45, 49] := by decide +kernel
theorem g1f : b0y 2 (outP 2 1 [48, 46, 49]) = 0 ∧ d0a 2 (outP 2 1 [48, 46, 49]) = a0c [49, 101, 45, 49] := by
 obtain ⟨a1, a2, a3, a4⟩ := o0l
 obtain ⟨b1, b2, b3, b4, b5⟩ := g1e
 obtain ⟨c1, c2⟩ := x0k
 have hn : IsFm 2 := by decide
 have R := (l0q (c0i hn) (neg := (ratL [48, 46, 49]).1) (num := (ratL [48, 46, 49]).2.1) (e := (ratL [48, 46, 49]).2.2.2) (way := 1) a4).1
 have hf : (fitQ 2 (ratL [48, 46, 49]) 1).1 = ((fmt 2).placedM (a0q (ratL [48, 46, 49]).1 (ratL [48, 46, 49]).2.1 (ratL [48, 46, 49]).2.2.1 (ratL [48, 46, 49]).2.2.2 (fmt 2).g 1) 1).1 := by
  unfold fitQ
  rw [if_neg (by omega)]
 rw [← hf] at R
 have hx : (fitQ 2 (ratL [48, 46, 49]) 1).1 = ⟨2, false, ⟨false, 3602879701896397, -55⟩⟩ := by
  generalize (fitQ 2 (ratL [48, 46, 49]) 1).1 = r at *
  obtain ⟨k, g, h, m, e⟩ := r
  simp only at b1 b2 b3 b4 b5
  rw [b1, b2, b3, b4, b5]
 rw [hx] at R
 have hP : outP 2 1 [48, 46, 49] = strR 2 ⟨2, false, ⟨false, 3602879701896397, -55⟩⟩ := by unfold outP; rw [if_pos a1, hx]
 obtain ⟨d1, d2⟩ := z0g hn R
 have he : b0y 2 (strR 2 ⟨2, false, ⟨false, 3602879701896397, -55⟩⟩) = 0 := by
  unfold b0y
  rw [if_pos d1, d2, if_neg (fun h => by have := h.2; rw [show (⟨2, false, ⟨false, 3602879701896397, -55⟩⟩ : Vr).x = ⟨false, 3602879701896397, -55⟩ from rfl, c1] at this; cases this)]
 rw [hP]
 refine ⟨he, ?_⟩
 unfold d0a
 rw [if_pos he, d2, c2]
theorem h0n (w : World) (hT : TabW w) (hP : PowW w) : Calls Tryz.prog 13 #[] w fun en w' => en = .returned (.bool true) ∧ Below w.heap.size w w' := by
 have HA := fun W h => hi0 (l0r 2 ⟨#[48, 46, 49]⟩ 1 W h)
 have HS := fun s W h h2 => hi0 (i0j 2 s W h h2)
 obtain ⟨a1, a2, _, _⟩ := o0l
 obtain ⟨b1, b2⟩ := g1f
 rw [show a0b ⟨#[48, 46, 49]⟩ = [48, 46, 49] from rfl, a1, a2, show ((1 : Nat) : Int) = 1 from rfl] at HA
 generalize outP 2 1 [48, 46, 49] = S at *
 have HS := HS S
 rw [b1, b2] at HS
 have I := Inv.start w [tabF, powF] ⟨hT, hP, True.intro⟩
 refine a0h [] I Tryz.func13 ?_
 refine zq I (fun Al W I => (HA W I.fa.1).out) fun Al W I => ?_
 refine zq I (fun Al W I => (HS W I.fa.1 I.fa.2.1).out) fun Al W I => ?_
 refine zbin I 28 _ (fun _ _ _ _ _ => (m0i (s := a0c [49, 101, 45, 49]) (r := ⟨#[49, 101, 45, 49]⟩) (iff_of_true rfl rfl))) fun Al W I => ?_
 exact zrb I
end Go.Proofs.YtbamiajjampgnaaGreatDoor
namespace Go.Slip
open Go.RowKit
theorem g1g (c : Nat) (l : List Nat) (k : Nat) : mayT c (l.drop k) = if k < l.length ∧ dg l k = c then (true, l.drop (k + 1)) else (false, l.drop k) := by
 by_cases h : k < l.length
 · rw [List.drop_eq_getElem_cons h, b0e h]
   show (if l[k] = c then _ else _) = _
   by_cases h2 : l[k] = c
   · rw [if_pos h2, if_pos ⟨h, h2⟩]
   · rw [if_neg h2, if_neg (fun h => h2 h.2)]
 · rw [List.drop_of_length_le (by omega), if_neg (fun k => h k.1)]
   rfl
def dOk (l : List Nat) (k : Nat) : Prop := k < l.length ∧ isDg (dg l k) = true
theorem d0h {l : List Nat} {k j : Nat} (hk : k + j ≤ l.length) (h : ∀ i, i < j → isDg (dg l (k + i)) = true) (hs : ¬ dOk l (k + j)) : (l.drop k).takeWhile isDg = (l.drop k).take j ∧ (l.drop k).dropWhile isDg = l.drop (k + j) := by
 have e : ∀ i, dg (l.drop k) i = dg l (k + i) := fun i => by unfold dg; rw [List.getElem?_drop]
 have h1 := k1z (l := l.drop k) (j := j) (by rw [List.length_drop]; omega) (fun i hi => by rw [e]; exact h i hi) (fun h2 => by
   rw [List.length_drop] at h2
   rw [e]
   cases h3 : isDg (dg l (k + j)) with
   | false => rfl
   | true => exact absurd ⟨by omega, h3⟩ hs)
 rw [List.drop_drop] at h1
 exact h1
theorem g0o {l : List Nat} {k j : Nat} (h : k + j < l.length) : (l.drop k).take (j + 1) = (l.drop k).take j ++ [dg l (k + j)] := by
 have h1 : j < (l.drop k).length := by rw [List.length_drop]; omega
 rw [List.take_succ_eq_append_getElem h1, List.getElem_drop, b0e h]
theorem n1z {l : List Nat} (hb : Byt l) {k : Nat} (h : k < l.length) : (a0c l).extract k (k + 1) = a0c [dg l k] := by
 rw [j0u hb, List.take_succ_eq_append_getElem h, List.drop_append_of_le_length (by rw [List.length_take]; omega), List.drop_of_length_le (by rw [List.length_take]; omega), b0e h]
 rfl
theorem m0n {P : Nat → Prop} {j : Nat} (h : ∀ i, i < j → P i) (k : P j) : ∀ i, i < j + 1 → P i := fun i hi => (Nat.lt_or_eq_of_le (Nat.le_of_lt_succ hi)).elim (fun h1 => h i h1) (fun h1 => h1 ▸ k)
theorem mq {C : Prop} [Decidable C] {g : Bool} {r A B : List Nat} (m : (g, r) = if C then (true, A) else (false, B)) : (C → g = true ∧ r = A) ∧ (¬ C → g = false ∧ r = B) ∧ (g = true → C ∧ r = A) ∧ (g = false → r = B) := by
 by_cases h : C
 · rw [if_pos h] at m
   injection m with m1 m2
   subst m1 m2
   exact ⟨fun _ => ⟨rfl, rfl⟩, fun k => absurd h k, fun _ => ⟨h, rfl⟩, fun k => by cases k⟩
 · rw [if_neg h] at m
   injection m with m1 m2
   subst m1 m2
   exact ⟨fun k => absurd k h, fun _ => ⟨rfl, rfl⟩, fun k => (by cases k), fun _ => rfl⟩
theorem mqd (c : Nat) (l : List Nat) (k : Nat) : (k < l.length ∧ dg l k = c → (mayT c (l.drop k)).1 = true ∧ (mayT c (l.drop k)).2 = l.drop (k + 1)) ∧ (¬ (k < l.length ∧ dg l k = c) → (mayT c (l.drop k)).1 = false ∧ (mayT c (l.drop k)).2 = l.drop k) ∧ ((mayT c (l.drop k)).1 = true → (k < l.length ∧ dg l k = c) ∧ (mayT c (l.drop k)).2 = l.drop (k + 1)) ∧ ((mayT c (l.drop k)).1 = false → (mayT c (l.drop k)).2 = l.drop k) :=
 mq (g := (mayT c (l.drop k)).1) (r := (mayT c (l.drop k)).2) (g1g c l k)
theorem o1a {n m c : Nat} (h : n < 10 ^ m) (hm : m < 6) (hc : 48 ≤ c ∧ c ≤ 57) : 10 * n + (c - 48) < 1000000 ∧ 10 * n + (c - 48) < 10 ^ (m + 1) := by
 have h1 : 10 ^ (m + 1) ≤ 10 ^ 6 := Nat.pow_le_pow_right (by omega) hm
 rw [Nat.pow_succ] at h1 ⊢
 omega
theorem g1h {n m : Nat} (h : n < 10 ^ m) (hm : m ≤ 5) : n < 100000 := Nat.lt_of_lt_of_le h (Nat.pow_le_pow_right (n := 10) (by omega) hm)
def numF (g : Bool) (D : List Nat) (r : List Nat) : Option Numl := match o0s r with | none => none | some (f, r) => numE g (D ++ f) (-(f.length : Int)) r
theorem o1b {g : Bool} {D l : List Nat} {a : Nat} (h : (mayT 46 (l.drop a)).1 = false) : numF g D (l.drop a) = numE g D 0 (l.drop a) := by
 unfold numF
 rw [i0h, h, if_neg Bool.false_ne_true, (mqd 46 l a).2.2.2 h]
 show numE g (D ++ []) _ _ = _
 rw [List.append_nil]
 rfl
theorem i0k {g : Bool} {D l : List Nat} {a : Nat} (h : (mayT 46 (l.drop a)).1 = true) (hd : ¬ dOk l (a + 1)) : numF g D (l.drop a) = none := by
 unfold numF
 have ha := (mqd 46 l a).2.2.1 h
 have ht := d0h (l := l) (k := a + 1) (j := 0) (by have := ha.1.1; omega) (fun i hi => absurd hi (Nat.not_lt_zero i)) hd
 rw [i0h, h, if_pos rfl, ha.2, ht.1, List.take_zero, if_pos rfl]
theorem g1i {g : Bool} {D l : List Nat} {a j : Nat} (h : (mayT 46 (l.drop a)).1 = true) (hd : dOk l (a + 1)) (hj : a + 1 + j ≤ l.length) (hall : ∀ i, i < j → isDg (dg l (a + 1 + i)) = true) (hs : ¬ dOk l (a + 1 + j)) :
 numF g D (l.drop a) = numE g (D ++ (l.drop (a + 1)).take j) (-(j : Int)) (l.drop (a + 1 + j)) := by
 unfold numF
 have ha := (mqd 46 l a).2.2.1 h
 have ht := d0h hj hall hs
 have hl : ((l.drop (a + 1)).take j).length = j := by rw [List.length_take, List.length_drop]; omega
 have hj0 : j ≠ 0 := fun k => by subst k; exact hs hd
 rw [i0h, h, if_pos rfl, ha.2, ht.1, ht.2, if_neg (fun k => by rw [k] at hl; exact hj0 hl.symm)]
 simp only
 rw [hl]
theorem o1c {l : List Nat} {a : Nat} (h : (mayT 101 (l.drop a)).1 = false) : powT (l.drop a) = some (0, l.drop a) := by
 rw [s0q, h, if_neg Bool.false_ne_true, (mqd 101 l a).2.2.2 h]
theorem i0v {l : List Nat} {a b j : Nat} {mi : Bool} (h : (mayT 101 (l.drop a)).1 = true) (hm : (mayT 45 (l.drop (a + 1))).1 = mi) (hr : (mayT 45 (l.drop (a + 1))).2 = l.drop b) (hj : b + j ≤ l.length) (hall : ∀ i, i < j → isDg (dg l (b + i)) = true) (hs : ¬ dOk l (b + j)) :
 powT (l.drop a) = if j = 0 ∨ 5 < j then none else some (if mi then -(a0k ((l.drop b).take j) : Int) else a0k ((l.drop b).take j), l.drop (b + j)) := by
 have ha := (mqd 101 l a).2.2.1 h
 have ht := d0h hj hall hs
 have hl : ((l.drop b).take j).length = j := by rw [List.length_take, List.length_drop]; omega
 rw [s0q, h, if_pos rfl, ha.2, hr, hm, ht.1, ht.2, hl]
 have e : ((l.drop b).take j = [] ∨ 5 < j) ↔ (j = 0 ∨ 5 < j) := by
  rw [← List.length_eq_zero_iff, hl]
 simp only [e]
theorem b1l (l : List Nat) {k : Nat} (h : k ≤ l.length) : (l.drop k).isEmpty = true ↔ k = l.length := by
 rw [List.isEmpty_iff, List.drop_eq_nil_iff]; omega
end Go.Slip
namespace Go.Proofs.YtbamiajjampgnaaGreatDoor
open Go.RowKit Go.Slip
theorem g1j (l : List Nat) (hb : Byt l) (k : Nat) (h : dOk l k) (w : World) : Calls Tryz.prog 85 #[.string (a0c l), .int .i64 (k : Int)] w fun en w' => en = .returned (.bool true) ∧ Below w.heap.size w w' := by
 have hg : a0b (a0c l) = l := a0s hb
 have hz := a0o l
 obtain ⟨h1, h2⟩ := h
 have h3 := c0d.1 h2
 generalize a0c l = s at *
 have I := Inv.start w [] True.intro
 refine a0h [.v (.string s), .v (.int .i64 (k : Int))] I Tryz.func85 ?_
 refine zb I 8 (decide ((k : Int) < (s.size : Int))) (true) (dTr (by omega)) fun Al W I => ?_
 refine zx I 12 (fun _ => .int .u8 ((dg l k : Nat) : Int)) (fun Al W I => (by rw [← hg]; exact l0y uSt rfl (by omega))) fun Al W I => ?_
 refine zb I 13 (decide (((dg l k : Nat) : Int) ≥ 48)) (true) (dTr (by omega)) fun Al W I => ?_
 refine zx I 18 (fun _ => .int .u8 ((dg l k : Nat) : Int)) (fun Al W I => (by rw [← hg]; exact l0y uSt rfl (by omega))) fun Al W I => ?_
 refine zb I 19 (decide (((dg l k : Nat) : Int) ≤ 57)) (true) (dTr (by omega)) fun Al W I => ?_
 exact zrb I
theorem j1t (l : List Nat) (hb : Byt l) (k : Nat) (h : ¬ dOk l k) (w : World) : Calls Tryz.prog 85 #[.string (a0c l), .int .i64 (k : Int)] w fun en w' => en = .returned (.bool false) ∧ Below w.heap.size w w' := by
 have hg : a0b (a0c l) = l := a0s hb
 have hz := a0o l
 generalize a0c l = s at *
 have I := Inv.start w [] True.intro
 refine a0h [.v (.string s), .v (.int .i64 (k : Int))] I Tryz.func85 ?_
 rcases Bool.eq_false_or_eq_true (decide ((k : Int) < (s.size : Int))) with f8 | f8
 · refine zb I 8 (decide ((k : Int) < (s.size : Int))) (true) (f8) fun Al W I => ?_
   refine zx I 12 (fun _ => .int .u8 ((dg l k : Nat) : Int)) (fun Al W I => (by rw [← hg]; exact l0y uSt rfl (by have := oTr f8; omega))) fun Al W I => ?_
   rcases Bool.eq_false_or_eq_true (decide (((dg l k : Nat) : Int) ≥ 48)) with f13 | f13
   · refine zb I 13 (decide (((dg l k : Nat) : Int) ≥ 48)) (true) (f13) fun Al W I => ?_
     refine zx I 18 (fun _ => .int .u8 ((dg l k : Nat) : Int)) (fun Al W I => (by rw [← hg]; exact l0y uSt rfl (by have := oTr f8; omega))) fun Al W I => ?_
     rcases Bool.eq_false_or_eq_true (decide (((dg l k : Nat) : Int) ≤ 57)) with f19 | f19
     · refine zb I 19 (decide (((dg l k : Nat) : Int) ≤ 57)) (true) (f19) fun Al W I => ?_
       refine zret I (v := fun Al => .bool true) fun Al W I => ?_
       first | exact ⟨rfl, I.below⟩ | exact absurd ⟨by have := oTr f8; omega, c0d.2 (by have := oTr f13; have := oTr f19; omega)⟩ h
     refine zb I 19 (decide (((dg l k : Nat) : Int) ≤ 57)) (false) (f19) fun Al W I => ?_
     refine zret I (v := fun Al => .bool false) fun Al W I => ?_
     first | exact ⟨rfl, I.below⟩ | exact absurd ⟨by have := oTr f8; omega, c0d.2 (by have := oTr f13; have := oTr f19; omega)⟩ h
   refine zb I 13 (decide (((dg l k : Nat) : Int) ≥ 48)) (false) (f13) fun Al W I => ?_
   refine zret I (v := fun Al => .bool false) fun Al W I => ?_
   first | exact ⟨rfl, I.below⟩ | exact absurd ⟨by have := oTr f8; omega, c0d.2 (by have := oTr f13; have := oTr f19; omega)⟩ h
 refine zb I 8 (decide ((k : Int) < (s.size : Int))) (false) (f8) fun Al W I => ?_
 refine zret I (v := fun Al => .bool false) fun Al W I => ?_
 first | exact ⟨rfl, I.below⟩ | exact absurd ⟨by have := oTr f8; omega, c0d.2 (by have := oTr f13; have := oTr f19; omega)⟩ h
theorem j0f (t : ByteArray) (w : World) (ht : t.size ≤ 1000) :
 Calls Tryz.prog 31 #[.string t] w fun en w' => ∃ g ds pw ok, en = .returned (.tuple #[.bool g, .string (a0c ds), .int .i64 pw, .bool ok]) ∧ (numl (a0b t) = (if ok = true then some ⟨g, ds, pw⟩ else none) ∧ Byt ds) ∧ Below w.heap.size w w' := by
 have hby := Byt.of t
 have hl0 : (a0b t).length ≤ 1000 := by rw [a0z]; exact ht
 have hN := x0g (a0b t)
 have hst := f0h t
 generalize a0b t = l at *
 rw [← hst]
 clear hst
 have HY := fun k h W => hi0 (g1j l hby k h W)
 have HN := fun k h W => hi0 (j1t l hby k h W)
 have hsz := a0o l
 have hg : a0b (a0c l) = l := a0s hby
 have hix : ∀ (W : World) (k : Nat), k < l.length → (VO.sx 9 (.string (a0c l)) (.int .i64 (k : Int))).sem.run Tryz.prog W = .ok (.int .u8 ((dg l k : Nat) : Int)) W := fun W k h => by rw [show dg l k = dg (a0b (a0c l)) k by rw [hg]]; exact l0y uSt rfl (by omega)
 have hsl : ∀ (W : World) (k : Nat), k < l.length → (VO.sl 9 (.string (a0c l)) (some (.int .i64 (k : Int))) (some (.int .i64 ((k : Nat) + 1 : Int))) none).sem.run Tryz.prog W = .ok (.string (a0c [dg l k])) W := fun W k h => by rw [← n1z hby h]; exact i0g uSt (.inr rfl) (.inr rfl) (by omega) (by omega)
 have hbd : ∀ k, dg l k < 256 := fun k => a0l (B := 256) (by omega) _ hby k
 generalize a0c l = s at *
 have q1 := mqd 45 l 0
 rw [List.drop_zero] at q1
 obtain ⟨g0, r0, e0⟩ : ∃ g r, mayT 45 l = (g, r) := ⟨_, _, rfl⟩
 rw [e0] at q1
 have hN1 : numl l = numF (mayT 45 l).1 ((mayT 45 l).2.takeWhile isDg) ((mayT 45 l).2.dropWhile isDg) := hN
 rw [e0] at hN1
 simp only at hN1 q1
 clear hN
 have I := Inv.start w [] True.intro
 refine a0h [.v (.string s)] I Tryz.func31 ?_
 refine zcut I (some 3000002) (fun fr bx gs => ∃ (U1 : Nat → Value) (g : Bool), fr = (.v (.string s) :: .v undef :: .v (.bool false) :: .v (Go.Value.string (ByteArray.mk #[])) :: .v (.int .i64 0) :: .v (.bool false) :: .v (.int .i64 0) :: .v (.bool g) :: su 5 (sw U1 13 8 (.v undef :: sw U1 22 4 (.v undef :: sw U1 27 18 (.v undef :: sw U1 46 5 (.v undef :: sw U1 52 2 (.v undef :: sw U1 55 12 (.v undef :: sw U1 68 9 (.v undef :: sw U1 78 12 (.v undef :: sw U1 91 4 (.v undef :: sw U1 96 3 (.v undef :: sw U1 100 15 (su 2 (sw U1 117 12 []))))))))))))) : List SV) ∧ bx = [] ∧ gs = [] ∧ (g0 = g)) ?_ ?_
 · intro J hJ Al W I
   rcases Bool.eq_false_or_eq_true (decide ((s.size : Int) > 0)) with f15 | f15
   · refine zb I 15 (decide ((s.size : Int) > 0)) (true) (f15) fun Al W I => ?_
     refine zx I 18 (fun _ => .int .u8 ((dg l 0 : Nat) : Int)) (fun Al W I => (hix W 0 (by have := oTr f15; omega))) fun Al W I => ?_
     rcases Bool.eq_false_or_eq_true (((dg l 0 : Nat) : Int) == 45) with f19 | f19
     · refine zb I 19 (((dg l 0 : Nat) : Int) == 45) (true) (f19) fun Al W I => ?_
       exact a0n I J fun Al W U I => hJ _ _ _ _ _ ⟨U, true, rfl, rfl, rfl, (by first | exact (q1.2.1 (fun k => by have := oFa f15; omega)).1 | exact (q1.1 ⟨by have := oTr f15; omega, by have := beq_iff_eq.1 f19; omega⟩).1 | exact (q1.2.1 (fun k => by have := bnF f19; omega)).1)⟩ (I.pick [])
     refine zb I 19 (((dg l 0 : Nat) : Int) == 45) (false) (f19) fun Al W I => ?_
     exact a0n I J fun Al W U I => hJ _ _ _ _ _ ⟨U, false, rfl, rfl, rfl, (by first | exact (q1.2.1 (fun k => by have := oFa f15; omega)).1 | exact (q1.1 ⟨by have := oTr f15; omega, by have := beq_iff_eq.1 f19; omega⟩).1 | exact (q1.2.1 (fun k => by have := bnF f19; omega)).1)⟩ (I.pick [])
   refine zb I 15 (decide ((s.size : Int) > 0)) (false) (f15) fun Al W I => ?_
   exact a0n I J fun Al W U I => hJ _ _ _ _ _ ⟨U, false, rfl, rfl, rfl, (by first | exact (q1.2.1 (fun k => by have := oFa f15; omega)).1 | exact (q1.1 ⟨by have := oTr f15; omega, by have := beq_iff_eq.1 f19; omega⟩).1 | exact (q1.2.1 (fun k => by have := bnF f19; omega)).1)⟩ (I.pick [])
 rintro _ _ _ ⟨U1, g, rfl, rfl, rfl, hgg⟩ Al W I
 refine zcut I (some 2000021) (fun fr bx gs => ∃ (U2 : Nat → Value) (a1 : Nat), fr = (.v (.string s) :: .v undef :: .v (.bool false) :: .v (Go.Value.string (ByteArray.mk #[])) :: .v (.int .i64 0) :: .v (.bool false) :: .v (.int .i64 (a1 : Int)) :: .v (.bool g) :: su 5 (sw U2 13 8 (.v (.bool g) :: sw U2 22 4 (.v undef :: sw U2 27 18 (.v undef :: sw U2 46 5 (.v undef :: sw U2 52 2 (.v undef :: sw U2 55 12 (.v undef :: sw U2 68 9 (.v undef :: sw U2 78 12 (.v undef :: sw U2 91 4 (.v undef :: sw U2 96 3 (.v undef :: sw U2 100 15 (su 2 (sw U2 117 12 []))))))))))))) : List SV) ∧ bx = [] ∧ gs = [] ∧ (r0 = l.drop a1) ∧ (a1 ≤ 1) ∧ (a1 ≤ l.length)) ?_ ?_
 · intro J hJ Al W I
   rcases Bool.eq_false_or_eq_true g with rfl | rfl
   · exact a0n I J fun Al W U I => hJ _ _ _ _ _ ⟨U, 1, rfl, rfl, rfl, (q1.2.2.1 hgg).2, (Nat.le_refl _), (q1.2.2.1 hgg).1.1⟩ (I.pick [])
   exact a0n I J fun Al W U I => hJ _ _ _ _ _ ⟨U, 0, rfl, rfl, rfl, (q1.2.2.2 hgg), (Nat.zero_le _), (Nat.zero_le _)⟩ (I.pick [])
 rintro _ _ _ ⟨U2, a1, rfl, rfl, rfl, hr0, ha1, ha1l⟩ Al W I
 refine n0e I (fun gk fr bx gs => ∃ (U900 : Nat → Value) (j : Nat) (D : LN), fr = (.v (.string s) :: .v undef :: .v (.bool false) :: .v (Go.Value.string (ByteArray.mk #[])) :: .v (.int .i64 0) :: .v (.bool false) :: .v (.int .i64 ((a1 + j : Nat) : Int)) :: .v (.bool g) :: .v (.string (a0c D)) :: .v (.int .i64 0) :: su 3 (sw U900 13 8 (.v (.bool g) :: sw U900 22 23 (.v undef :: sw U900 46 5 (.v undef :: sw U900 52 2 (.v undef :: sw U900 55 12 (.v undef :: sw U900 68 9 (.v undef :: sw U900 78 12 (.v undef :: sw U900 91 4 (.v undef :: sw U900 96 3 (.v undef :: sw U900 100 15 (su 2 (sw U900 117 12 [])))))))))))) : List SV) ∧ bx = [] ∧ gs = [] ∧ (D = (l.drop a1).take j) ∧ (∀ i, i < j → isDg (dg l (a1 + i)) = true) ∧ (a1 + j ≤ l.length) ∧ (gk + (a1 + j) = l.length + a1)) l.length (fun Al W U I => ⟨_, ⟨U, 0, [], rfl, rfl, rfl, rfl, (fun i hi => absurd hi (Nat.not_lt_zero i)), ha1l, (by omega)⟩, I.pick []⟩) ?_
 rintro J0 gk0 _ _ _ ⟨U900, j, D, rfl, rfl, rfl, hD, hall, hj, hgk⟩ hJ0 Al W I
 by_cases h6 : dOk l (a1 + j)
 · refine zq I (fun Al W I => (HY (a1 + j) h6 W).out) fun Al W I => ?_
   refine zi I 33 .i64 (((a1 + j : Nat) : Int) + 1) ((((a1 + j : Nat) : Int) + 1)) ((by exact IntWalk.i64_in _ (by have := h6.1; omega))) fun Al W I => ?_
   refine zx I 34 (fun _ => .string (a0c [dg l (a1 + j)])) (fun Al W I => (hsl W (a1 + j) h6.1)) fun Al W I => ?_
   refine zbin I 35 _ (fun _ _ _ _ _ => (f0i D [dg l (a1 + j)] (by rw [hD, List.length_take, List.length_drop]; simp only [List.length_cons, List.length_nil]; omega))) fun Al W I => ?_
   refine zi I 28 .i64 (((a1 + j : Nat) : Int) + 1) (((a1 + (j + 1) : Nat) : Int)) ((by exact IntWalk.i64_in _ (by have := h6.1; omega))) fun Al W I => ?_
   exact a0n I J0 fun Al W U I => hJ0 (gk0 - 1) _ _ _ _ _ ((by have := h6.1; omega)) ⟨U, j + 1, (D ++ [dg l (a1 + j)]), rfl, rfl, rfl, (by rw [hD, g0o h6.1]), (m0n hall h6.2), (by have := h6.1; omega), (by have := h6.1; omega)⟩ (I.pick [])
 refine zq I (fun Al W I => (HN (a1 + j) h6 W).out) fun Al W I => ?_
 refine zcut I (some 3000009) (fun fr bx gs => ∃ (U3 : Nat → Value) (p : Bool), fr = (.v (.string s) :: .v undef :: .v (.bool false) :: .v (Go.Value.string (ByteArray.mk #[])) :: .v (.int .i64 0) :: .v (.bool false) :: .v (.int .i64 ((a1 + j : Nat) : Int)) :: .v (.bool g) :: .v (.string (a0c D)) :: .v (.int .i64 0) :: su 3 (sw U3 13 8 (.v (.bool g) :: sw U3 22 4 (.v (.bool false) :: sw U3 27 18 (.v (.bool p) :: sw U3 46 5 (.v undef :: sw U3 52 2 (.v undef :: sw U3 55 12 (.v undef :: sw U3 68 9 (.v undef :: sw U3 78 12 (.v undef :: sw U3 91 4 (.v undef :: sw U3 96 3 (.v undef :: sw U3 100 15 (su 2 (sw U3 117 12 []))))))))))))) : List SV) ∧ bx = [] ∧ gs = [] ∧ ((mayT 46 (l.drop (a1 + j))).1 = p)) ?_ ?_
 · intro J hJ Al W I
   rcases Bool.eq_false_or_eq_true (decide (((a1 + j : Nat) : Int) < (s.size : Int))) with f39 | f39
   · refine zb I 39 (decide (((a1 + j : Nat) : Int) < (s.size : Int))) (true) (f39) fun Al W I => ?_
     refine zx I 43 (fun _ => .int .u8 ((dg l (a1 + j) : Nat) : Int)) (fun Al W I => (hix W (a1 + j) (by have := oTr f39; omega))) fun Al W I => ?_
     rcases Bool.eq_false_or_eq_true (((dg l (a1 + j) : Nat) : Int) == 46) with f44 | f44
     · refine zb I 44 (((dg l (a1 + j) : Nat) : Int) == 46) (true) (f44) fun Al W I => ?_
       exact a0n I J fun Al W U I => hJ _ _ _ _ _ ⟨U, true, rfl, rfl, rfl, (by first | exact ((mqd 46 l (a1 + j)).2.1 (fun k => by have := oFa f39; omega)).1 | exact ((mqd 46 l (a1 + j)).1 ⟨by have := oTr f39; omega, by have := beq_iff_eq.1 f44; omega⟩).1 | exact ((mqd 46 l (a1 + j)).2.1 (fun k => by have := bnF f44; omega)).1)⟩ (I.pick [])
     refine zb I 44 (((dg l (a1 + j) : Nat) : Int) == 46) (false) (f44) fun Al W I => ?_
     exact a0n I J fun Al W U I => hJ _ _ _ _ _ ⟨U, false, rfl, rfl, rfl, (by first | exact ((mqd 46 l (a1 + j)).2.1 (fun k => by have := oFa f39; omega)).1 | exact ((mqd 46 l (a1 + j)).1 ⟨by have := oTr f39; omega, by have := beq_iff_eq.1 f44; omega⟩).1 | exact ((mqd 46 l (a1 + j)).2.1 (fun k => by have := bnF f44; omega)).1)⟩ (I.pick [])
   refine zb I 39 (decide (((a1 + j : Nat) : Int) < (s.size : Int))) (false) (f39) fun Al W I => ?_
   exact a0n I J fun Al W U I => hJ _ _ _ _ _ ⟨U, false, rfl, rfl, rfl, (by first | exact ((mqd 46 l (a1 + j)).2.1 (fun k => by have := oFa f39; omega)).1 | exact ((mqd 46 l (a1 + j)).1 ⟨by have := oTr f39; omega, by have := beq_iff_eq.1 f44; omega⟩).1 | exact ((mqd 46 l (a1 + j)).2.1 (fun k => by have := bnF f44; omega)).1)⟩ (I.pick [])
 rintro _ _ _ ⟨U3, p, rfl, rfl, rfl, hp⟩ Al W I
 refine zcut I (some 2000045) (fun fr bx gs => ∃ (U4 : Nat → Value) (E : LN) (pw : Int) (a2 : Nat), fr = (.v (.string s) :: .v undef :: sw U4 2 4 (.v (.int .i64 (a2 : Int)) :: .v (.bool g) :: .v (.string (a0c E)) :: .v (.int .i64 pw) :: su 3 (sw U4 13 8 (.v (.bool g) :: sw U4 22 4 (.v (.bool false) :: sw U4 27 18 (.v (.bool p) :: sw U4 46 21 (.v undef :: sw U4 68 9 (.v undef :: sw U4 78 12 (.v undef :: sw U4 91 4 (.v undef :: sw U4 96 3 (.v undef :: sw U4 100 15 (su 2 (sw U4 117 12 [])))))))))))) : List SV) ∧ bx = [] ∧ gs = [] ∧ (numl l = numE g0 E pw (l.drop a2)) ∧ (a2 ≤ l.length) ∧ (Byt E) ∧ (-1000 ≤ pw ∧ pw ≤ 0)) ?_ ?_
 · intro J hJ Al W I
   rcases Bool.eq_false_or_eq_true p with rfl | rfl
   · refine zi I 47 .i64 (((a1 + j : Nat) : Int) + 1) (((a1 + j + 1 : Nat) : Int)) ((by exact iwo)) fun Al W I => ?_
     by_cases h11 : dOk l (a1 + j + 1)
     · refine zq I (fun Al W I => (HY (a1 + j + 1) h11 W).out) fun Al W I => ?_
       refine n0e I (fun gk fr bx gs => ∃ (U901 : Nat → Value) (k : Nat) (F : LN), fr = (.v (.string s) :: .v undef :: .v (.bool false) :: .v (Go.Value.string (ByteArray.mk #[])) :: .v (.int .i64 0) :: .v (.bool false) :: .v (.int .i64 ((a1 + j + 1 + k : Nat) : Int)) :: .v (.bool g) :: .v (.string (a0c F)) :: .v (.int .i64 (-(k : Int))) :: su 3 (sw U901 13 8 (.v (.bool g) :: sw U901 22 4 (.v (.bool false) :: sw U901 27 18 (.v (.bool true) :: sw U901 46 5 (.v (.bool false) :: sw U901 52 15 (.v undef :: sw U901 68 9 (.v undef :: sw U901 78 12 (.v undef :: sw U901 91 4 (.v undef :: sw U901 96 3 (.v undef :: sw U901 100 15 (su 2 (sw U901 117 12 [])))))))))))) : List SV) ∧ bx = [] ∧ gs = [] ∧ (F = D ++ (l.drop (a1 + j + 1)).take k) ∧ (∀ i, i < k → isDg (dg l (a1 + j + 1 + i)) = true) ∧ (a1 + j + 1 + k ≤ l.length) ∧ (gk + (a1 + j + 1 + k) = l.length + (a1 + j + 1))) l.length (fun Al W U I => ⟨_, ⟨U, 0, D, rfl, rfl, rfl, (by rw [List.take_zero, List.append_nil]), (fun i hi => absurd hi (Nat.not_lt_zero i)), (Nat.le_of_lt h11.1), (by omega)⟩, I.pick []⟩) ?_
       rintro J1 gk1 _ _ _ ⟨U901, k, F, rfl, rfl, rfl, hF, hall2, hk, hgk1⟩ hJ1 Al W I
       by_cases h13 : dOk l (a1 + j + 1 + k)
       · refine zq I (fun Al W I => (HY (a1 + j + 1 + k) h13 W).out) fun Al W I => ?_
         refine zi I 61 .i64 (((a1 + j + 1 + k : Nat) : Int) + 1) ((((a1 + j + 1 + k : Nat) : Int) + 1)) ((by exact IntWalk.i64_in _ (by have := h13.1; omega))) fun Al W I => ?_
         refine zx I 62 (fun _ => .string (a0c [dg l (a1 + j + 1 + k)])) (fun Al W I => (hsl W (a1 + j + 1 + k) h13.1)) fun Al W I => ?_
         refine zbin I 63 _ (fun _ _ _ _ _ => (f0i F [dg l (a1 + j + 1 + k)] (by rw [hF, hD, List.length_append, List.length_take, List.length_drop, List.length_take, List.length_drop]; simp only [List.length_cons, List.length_nil]; omega))) fun Al W I => ?_
         refine zi I 65 .i64 ((-(k : Int)) - 1) ((-((k + 1 : Nat) : Int))) ((by rw [show -(k : Int) - 1 = -((k + 1 : Nat) : Int) by omega]; exact iwo)) fun Al W I => ?_
         refine zi I 56 .i64 (((a1 + j + 1 + k : Nat) : Int) + 1) (((a1 + j + 1 + (k + 1) : Nat) : Int)) ((by exact IntWalk.i64_in _ (by have := h13.1; omega))) fun Al W I => ?_
         exact a0n I J1 fun Al W U I => hJ1 (gk1 - 1) _ _ _ _ _ ((by have := h13.1; omega)) ⟨U, k + 1, (F ++ [dg l (a1 + j + 1 + k)]), rfl, rfl, rfl, (by rw [hF, g0o h13.1, List.append_assoc]), (m0n hall2 h13.2), (by have := h13.1; omega), (by have := h13.1; omega)⟩ (I.pick [])
       refine zq I (fun Al W I => (HN (a1 + j + 1 + k) h13 W).out) fun Al W I => ?_
       exact a0n I J fun Al W U I => hJ _ _ _ _ _ ⟨U, F, (-(k : Int)), (a1 + j + 1 + k), rfl, rfl, rfl, (by rw [hN1, hr0, (d0h hj hall h6).1, (d0h hj hall h6).2, g1i hp h11 hk hall2 h13, hF, hD]), hk, (by rw [hF, hD]; exact ((hby.drop _).take _).append ((hby.drop _).take _)), (by omega)⟩ (I.pick [])
     refine zq I (fun Al W I => (HN (a1 + j + 1) h11 W).out) fun Al W I => ?_
     refine zret I (v := fun Al => .tuple #[.bool false, Go.Value.string (ByteArray.mk #[]), .int .i64 0, .bool false]) fun Al W I => ?_
     first | exact ⟨g, E, q, (l.drop a5).isEmpty, rfl, ⟨e0q (hgg ▸ hN2) f67 hQ (by omega), hbE⟩, I.below⟩ | exact ⟨false, [], 0, false, rfl, ⟨by rw [hN1, hr0, (d0h hj hall h6).1, (d0h hj hall h6).2, i0k hp h11]; rfl, fun _ h => (nomatch h)⟩, I.below⟩ | exact ⟨false, [], 0, false, rfl, ⟨by rw [hN2]; unfold numE; rw [if_pos (List.isEmpty_iff.1 f67)]; rfl, fun _ h => (nomatch h)⟩, I.below⟩ | exact ⟨false, [], 0, false, rfl, ⟨by rw [hN2]; unfold numE; rw [if_neg (fun h => by rw [h] at f67; cases f67), i0v hpe hmi hr3 hm hall3 h25, if_pos (by first | exact .inl (by have := oTr f111; omega) | exact .inr (by have := oTr f114; omega))]; rfl, fun _ h => (nomatch h)⟩, I.below⟩
   exact a0n I J fun Al W U I => hJ _ _ _ _ _ ⟨U, D, 0, (a1 + j), rfl, rfl, rfl, (by rw [hN1, hr0, (d0h hj hall h6).1, (d0h hj hall h6).2, o1b hp, hD]), hj, (by rw [hD]; exact (hby.drop _).take _), (by omega)⟩ (I.pick [])
 rintro _ _ _ ⟨U4, E, pw, a2, rfl, rfl, rfl, hN2, ha2, hbE, hpw⟩ Al W I
 rcases Bool.eq_false_or_eq_true (E.isEmpty) with f67 | f67
 · refine zbin I 67 (.bool true) (fun _ _ _ _ W => ((f0j hbE)).trans (congrArg (fun z => Result.ok (Value.bool z) W) (show (E.isEmpty) = true from f67))) fun Al W I => ?_
   refine zret I (v := fun Al => .tuple #[.bool false, Go.Value.string (ByteArray.mk #[]), .int .i64 0, .bool false]) fun Al W I => ?_
   first | exact ⟨g, E, q, (l.drop a5).isEmpty, rfl, ⟨e0q (hgg ▸ hN2) f67 hQ (by omega), hbE⟩, I.below⟩ | exact ⟨false, [], 0, false, rfl, ⟨by rw [hN1, hr0, (d0h hj hall h6).1, (d0h hj hall h6).2, i0k hp h11]; rfl, fun _ h => (nomatch h)⟩, I.below⟩ | exact ⟨false, [], 0, false, rfl, ⟨by rw [hN2]; unfold numE; rw [if_pos (List.isEmpty_iff.1 f67)]; rfl, fun _ h => (nomatch h)⟩, I.below⟩ | exact ⟨false, [], 0, false, rfl, ⟨by rw [hN2]; unfold numE; rw [if_neg (fun h => by rw [h] at f67; cases f67), i0v hpe hmi hr3 hm hall3 h25, if_pos (by first | exact .inl (by have := oTr f111; omega) | exact .inr (by have := oTr f114; omega))]; rfl, fun _ h => (nomatch h)⟩, I.below⟩
 refine zbin I 67 (.bool false) (fun _ _ _ _ W => ((f0j hbE)).trans (congrArg (fun z => Result.ok (Value.bool z) W) (show (E.isEmpty) = false from f67))) fun Al W I => ?_
 refine zcut I (some 3000019) (fun fr bx gs => ∃ (U5 : Nat → Value) (pe : Bool), fr = (.v (.string s) :: .v undef :: sw U4 2 4 (.v (.int .i64 (a2 : Int)) :: .v (.bool g) :: .v (.string (a0c E)) :: .v (.int .i64 pw) :: su 3 (sw U5 13 8 (.v (.bool g) :: sw U5 22 4 (.v (.bool false) :: sw U5 27 18 (.v (.bool p) :: sw U5 46 5 (.v (U4 51) :: sw U5 52 2 (.v (U4 54) :: sw U5 55 12 (.v (.bool false) :: sw U5 68 9 (.v (.bool pe) :: sw U5 78 12 (.v undef :: sw U5 91 4 (.v undef :: sw U5 96 3 (.v undef :: sw U5 100 15 (su 2 (sw U5 117 12 [])))))))))))))) : List SV) ∧ bx = [] ∧ gs = [] ∧ ((mayT 101 (l.drop a2)).1 = pe)) ?_ ?_
 · intro J hJ Al W I
   rcases Bool.eq_false_or_eq_true (decide ((a2 : Int) < (s.size : Int))) with f71 | f71
   · refine zb I 71 (decide ((a2 : Int) < (s.size : Int))) (true) (f71) fun Al W I => ?_
     refine zx I 75 (fun _ => .int .u8 ((dg l a2 : Nat) : Int)) (fun Al W I => (hix W a2 (by have := oTr f71; omega))) fun Al W I => ?_
     rcases Bool.eq_false_or_eq_true (((dg l a2 : Nat) : Int) == 101) with f76 | f76
     · refine zb I 76 (((dg l a2 : Nat) : Int) == 101) (true) (f76) fun Al W I => ?_
       exact a0n I J fun Al W U I => hJ _ _ _ _ _ ⟨U, true, rfl, rfl, rfl, (by first | exact ((mqd 101 l a2).2.1 (fun k => by have := oFa f71; omega)).1 | exact ((mqd 101 l a2).1 ⟨by have := oTr f71; omega, by have := beq_iff_eq.1 f76; omega⟩).1 | exact ((mqd 101 l a2).2.1 (fun k => by have := bnF f76; omega)).1)⟩ (I.pick [])
     refine zb I 76 (((dg l a2 : Nat) : Int) == 101) (false) (f76) fun Al W I => ?_
     exact a0n I J fun Al W U I => hJ _ _ _ _ _ ⟨U, false, rfl, rfl, rfl, (by first | exact ((mqd 101 l a2).2.1 (fun k => by have := oFa f71; omega)).1 | exact ((mqd 101 l a2).1 ⟨by have := oTr f71; omega, by have := beq_iff_eq.1 f76; omega⟩).1 | exact ((mqd 101 l a2).2.1 (fun k => by have := bnF f76; omega)).1)⟩ (I.pick [])
   refine zb I 71 (decide ((a2 : Int) < (s.size : Int))) (false) (f71) fun Al W I => ?_
   exact a0n I J fun Al W U I => hJ _ _ _ _ _ ⟨U, false, rfl, rfl, rfl, (by first | exact ((mqd 101 l a2).2.1 (fun k => by have := oFa f71; omega)).1 | exact ((mqd 101 l a2).1 ⟨by have := oTr f71; omega, by have := beq_iff_eq.1 f76; omega⟩).1 | exact ((mqd 101 l a2).2.1 (fun k => by have := bnF f76; omega)).1)⟩ (I.pick [])
 rintro _ _ _ ⟨U5, pe, rfl, rfl, rfl, hpe⟩ Al W I
 refine zcut I (some 2000077) (fun fr bx gs => ∃ (U6 : Nat → Value) (q : Int) (a5 : Nat), fr = (.v (.string s) :: .v undef :: sw U6 2 4 (.v (.int .i64 (a5 : Int)) :: .v (.bool g) :: .v (.string (a0c E)) :: .v (.int .i64 q) :: sw U6 10 11 (.v (.bool g) :: sw U6 22 4 (.v (.bool false) :: sw U6 27 18 (.v (.bool p) :: sw U6 46 5 (.v (U4 51) :: sw U6 52 2 (.v (U4 54) :: sw U6 55 12 (.v (.bool false) :: sw U6 68 9 (.v (.bool pe) :: sw U6 78 51 [])))))))) : List SV) ∧ bx = [] ∧ gs = [] ∧ (powT (l.drop a2) = some (q - pw, l.drop a5)) ∧ (a5 ≤ l.length)) ?_ ?_
 · intro J hJ Al W I
   rcases Bool.eq_false_or_eq_true pe with rfl | rfl
   · refine zi I 79 .i64 ((a2 : Int) + 1) (((a2 + 1 : Nat) : Int)) ((by exact iwo)) fun Al W I => ?_
     refine zcut I (some 3000021) (fun fr bx gs => ∃ (U7 : Nat → Value) (mi : Bool), fr = (.v (.string s) :: .v undef :: sw U4 2 4 (.v (.int .i64 ((a2 + 1 : Nat) : Int)) :: .v (.bool g) :: .v (.string (a0c E)) :: .v (.int .i64 pw) :: .v (.bool mi) :: su 2 (sw U7 13 8 (.v (.bool g) :: sw U7 22 4 (.v (.bool false) :: sw U7 27 18 (.v (.bool p) :: sw U7 46 5 (.v (U4 51) :: sw U7 52 2 (.v (U4 54) :: sw U7 55 12 (.v (.bool false) :: sw U7 68 9 (.v (.bool true) :: sw U7 78 12 (.v undef :: sw U7 91 4 (.v undef :: sw U7 96 3 (.v undef :: sw U7 100 15 (su 2 (sw U7 117 12 [])))))))))))))) : List SV) ∧ bx = [] ∧ gs = [] ∧ ((mayT 45 (l.drop (a2 + 1))).1 = mi)) ?_ ?_
     · intro J hJ Al W I
       rcases Bool.eq_false_or_eq_true (decide (((a2 + 1 : Nat) : Int) < (s.size : Int))) with f83 | f83
       · refine zb I 83 (decide (((a2 + 1 : Nat) : Int) < (s.size : Int))) (true) (f83) fun Al W I => ?_
         refine zx I 87 (fun _ => .int .u8 ((dg l (a2 + 1) : Nat) : Int)) (fun Al W I => (hix W (a2 + 1) (by have := oTr f83; omega))) fun Al W I => ?_
         rcases Bool.eq_false_or_eq_true (((dg l (a2 + 1) : Nat) : Int) == 45) with f88 | f88
         · refine zb I 88 (((dg l (a2 + 1) : Nat) : Int) == 45) (true) (f88) fun Al W I => ?_
           exact a0n I J fun Al W U I => hJ _ _ _ _ _ ⟨U, true, rfl, rfl, rfl, (by first | exact ((mqd 45 l (a2 + 1)).2.1 (fun k => by have := oFa f83; omega)).1 | exact ((mqd 45 l (a2 + 1)).1 ⟨by have := oTr f83; omega, by have := beq_iff_eq.1 f88; omega⟩).1 | exact ((mqd 45 l (a2 + 1)).2.1 (fun k => by have := bnF f88; omega)).1)⟩ (I.pick [])
         refine zb I 88 (((dg l (a2 + 1) : Nat) : Int) == 45) (false) (f88) fun Al W I => ?_
         exact a0n I J fun Al W U I => hJ _ _ _ _ _ ⟨U, false, rfl, rfl, rfl, (by first | exact ((mqd 45 l (a2 + 1)).2.1 (fun k => by have := oFa f83; omega)).1 | exact ((mqd 45 l (a2 + 1)).1 ⟨by have := oTr f83; omega, by have := beq_iff_eq.1 f88; omega⟩).1 | exact ((mqd 45 l (a2 + 1)).2.1 (fun k => by have := bnF f88; omega)).1)⟩ (I.pick [])
       refine zb I 83 (decide (((a2 + 1 : Nat) : Int) < (s.size : Int))) (false) (f83) fun Al W I => ?_
       exact a0n I J fun Al W U I => hJ _ _ _ _ _ ⟨U, false, rfl, rfl, rfl, (by first | exact ((mqd 45 l (a2 + 1)).2.1 (fun k => by have := oFa f83; omega)).1 | exact ((mqd 45 l (a2 + 1)).1 ⟨by have := oTr f83; omega, by have := beq_iff_eq.1 f88; omega⟩).1 | exact ((mqd 45 l (a2 + 1)).2.1 (fun k => by have := bnF f88; omega)).1)⟩ (I.pick [])
     rintro _ _ _ ⟨U7, mi, rfl, rfl, rfl, hmi⟩ Al W I
     refine zcut I (some 2000090) (fun fr bx gs => ∃ (U8 : Nat → Value) (a3 : Nat), fr = (.v (.string s) :: .v undef :: sw U4 2 4 (.v (.int .i64 (a3 : Int)) :: .v (.bool g) :: .v (.string (a0c E)) :: .v (.int .i64 pw) :: .v (.bool mi) :: su 2 (sw U8 13 8 (.v (.bool g) :: sw U8 22 4 (.v (.bool false) :: sw U8 27 18 (.v (.bool p) :: sw U8 46 5 (.v (U4 51) :: sw U8 52 2 (.v (U4 54) :: sw U8 55 12 (.v (.bool false) :: sw U8 68 9 (.v (.bool true) :: sw U8 78 12 (.v (.bool mi) :: sw U8 91 4 (.v undef :: sw U8 96 3 (.v undef :: sw U8 100 15 (su 2 (sw U8 117 12 [])))))))))))))) : List SV) ∧ bx = [] ∧ gs = [] ∧ ((mayT 45 (l.drop (a2 + 1))).2 = l.drop a3) ∧ (a3 ≤ l.length)) ?_ ?_
     · intro J hJ Al W I
       rcases Bool.eq_false_or_eq_true mi with rfl | rfl
       · refine zi I 92 .i64 (((a2 + 1 : Nat) : Int) + 1) (((a2 + 1 + 1 : Nat) : Int)) ((by exact iwo)) fun Al W I => ?_
         exact a0n I J fun Al W U I => hJ _ _ _ _ _ ⟨U, (a2 + 1 + 1), rfl, rfl, rfl, ((mqd 45 l (a2 + 1)).2.2.1 hmi).2, ((mqd 45 l (a2 + 1)).2.2.1 hmi).1.1⟩ (I.pick [])
       exact a0n I J fun Al W U I => hJ _ _ _ _ _ ⟨U, (a2 + 1), rfl, rfl, rfl, ((mqd 45 l (a2 + 1)).2.2.2 hmi), ((mqd 101 l a2).2.2.1 hpe).1.1⟩ (I.pick [])
     rintro _ _ _ ⟨U8, a3, rfl, rfl, rfl, hr3, ha3⟩ Al W I
     refine n0e I (fun gk fr bx gs => ∃ (U902 : Nat → Value) (m : Nat) (n : Nat), fr = (.v (.string s) :: .v undef :: sw U4 2 4 (.v (.int .i64 ((a3 + m : Nat) : Int)) :: .v (.bool g) :: .v (.string (a0c E)) :: .v (.int .i64 pw) :: .v (.bool mi) :: .v (.int .i64 (n : Int)) :: .v (.int .i64 (m : Int)) :: sw U902 13 8 (.v (.bool g) :: sw U902 22 4 (.v (.bool false) :: sw U902 27 18 (.v (.bool p) :: sw U902 46 5 (.v (U4 51) :: sw U902 52 2 (.v (U4 54) :: sw U902 55 12 (.v (.bool false) :: sw U902 68 9 (.v (.bool true) :: sw U902 78 12 (.v (.bool mi) :: sw U902 91 24 (su 2 (sw U902 117 12 []))))))))))) : List SV) ∧ bx = [] ∧ gs = [] ∧ (n < 10000000 ∧ (m ≤ 6 → n = a0k ((l.drop a3).take m) ∧ n < 10 ^ m)) ∧ (∀ i, i < m → isDg (dg l (a3 + i)) = true) ∧ (a3 + m ≤ l.length) ∧ (gk + (a3 + m) = l.length + a3)) l.length (fun Al W U I => ⟨_, ⟨U, 0, 0, rfl, rfl, rfl, ⟨by omega, fun _ => ⟨rfl, by omega⟩⟩, (fun i hi => absurd hi (Nat.not_lt_zero i)), ha3, (by omega)⟩, I.pick []⟩) ?_
     rintro J2 gk2 _ _ _ ⟨U902, m, n, rfl, rfl, rfl, hn, hall3, hm, hgk2⟩ hJ2 Al W I
     by_cases h25 : dOk l (a3 + m)
     · refine zq I (fun Al W I => (HY (a3 + m) h25 W).out) fun Al W I => ?_
       rcases Bool.eq_false_or_eq_true (decide ((m : Int) < 6)) with f99 | f99
       · refine zb I 99 (decide ((m : Int) < 6)) (true) (f99) fun Al W I => ?_
         have hst := o1a (hn.2 (by have := oTr f99; omega)).2 (by have := oTr f99; omega) (c0d.1 h25.2)
         refine zi I 101 .i64 ((10 : Int) * (n : Int)) (((10 * n : Nat) : Int)) ((by exact iwo)) fun Al W I => ?_
         refine zx I 104 (fun _ => .int .u8 ((dg l (a3 + m) : Nat) : Int)) (fun Al W I => (hix W (a3 + m) h25.1)) fun Al W I => ?_
         refine zi I 105 .i64 ((dg l (a3 + m) : Nat) : Int) ((dg l (a3 + m) : Nat) : Int) (iwo) fun Al W I => ?_
         refine zi I 106 .i64 (((10 * n : Nat) : Int) + ((dg l (a3 + m) : Nat) : Int)) (((10 * n + dg l (a3 + m) : Nat) : Int)) ((by exact IntWalk.i64_in _ (by have := hbd (a3 + m); omega))) fun Al W I => ?_
         refine zi I 107 .i64 (((10 * n + dg l (a3 + m) : Nat) : Int) - 48) (((10 * n + (dg l (a3 + m) - 48) : Nat) : Int)) ((by rw [show ((10 * n + dg l (a3 + m) : Nat) : Int) - 48 = ((10 * n + (dg l (a3 + m) - 48) : Nat) : Int) by have := (c0d.1 h25.2).1; omega]; exact iwo)) fun Al W I => ?_
         refine zi I 109 .i64 ((m : Int) + 1) (((m + 1 : Nat) : Int)) ((by exact IntWalk.i64_in _ (by have := h25.1; omega))) fun Al W I => ?_
         refine zi I 97 .i64 (((a3 + m : Nat) : Int) + 1) (((a3 + (m + 1) : Nat) : Int)) ((by exact IntWalk.i64_in _ (by have := h25.1; omega))) fun Al W I => ?_
         exact a0n I J2 fun Al W U I => hJ2 (gk2 - 1) _ _ _ _ _ ((by have := h25.1; omega)) ⟨U, m + 1, (10 * n + (dg l (a3 + m) - 48)), rfl, rfl, rfl, ⟨by omega, fun h => ⟨by rw [g0o h25.1, l0i, ← (hn.2 (by omega)).1], hst.2⟩⟩, (m0n hall3 h25.2), (by have := h25.1; omega), (by have := h25.1; omega)⟩ (I.pick [])
       refine zb I 99 (decide ((m : Int) < 6)) (false) (f99) fun Al W I => ?_
       refine zi I 109 .i64 ((m : Int) + 1) (((m + 1 : Nat) : Int)) ((by exact IntWalk.i64_in _ (by have := h25.1; omega))) fun Al W I => ?_
       refine zi I 97 .i64 (((a3 + m : Nat) : Int) + 1) (((a3 + (m + 1) : Nat) : Int)) ((by exact IntWalk.i64_in _ (by have := h25.1; omega))) fun Al W I => ?_
       exact a0n I J2 fun Al W U I => hJ2 (gk2 - 1) _ _ _ _ _ ((by have := h25.1; omega)) ⟨U, m + 1, n, rfl, rfl, rfl, ⟨hn.1, fun h => by have := oFa f99; omega⟩, (m0n hall3 h25.2), (by have := h25.1; omega), (by have := h25.1; omega)⟩ (I.pick [])
     refine zq I (fun Al W I => (HN (a3 + m) h25 W).out) fun Al W I => ?_
     rcases Bool.eq_false_or_eq_true (decide ((m : Int) < 1)) with f111 | f111
     · refine zb I 111 (decide ((m : Int) < 1)) (true) (f111) fun Al W I => ?_
       refine zret I (v := fun Al => .tuple #[.bool false, Go.Value.string (ByteArray.mk #[]), .int .i64 0, .bool false]) fun Al W I => ?_
       first | exact ⟨g, E, q, (l.drop a5).isEmpty, rfl, ⟨e0q (hgg ▸ hN2) f67 hQ (by omega), hbE⟩, I.below⟩ | exact ⟨false, [], 0, false, rfl, ⟨by rw [hN1, hr0, (d0h hj hall h6).1, (d0h hj hall h6).2, i0k hp h11]; rfl, fun _ h => (nomatch h)⟩, I.below⟩ | exact ⟨false, [], 0, false, rfl, ⟨by rw [hN2]; unfold numE; rw [if_pos (List.isEmpty_iff.1 f67)]; rfl, fun _ h => (nomatch h)⟩, I.below⟩ | exact ⟨false, [], 0, false, rfl, ⟨by rw [hN2]; unfold numE; rw [if_neg (fun h => by rw [h] at f67; cases f67), i0v hpe hmi hr3 hm hall3 h25, if_pos (by first | exact .inl (by have := oTr f111; omega) | exact .inr (by have := oTr f114; omega))]; rfl, fun _ h => (nomatch h)⟩, I.below⟩
     refine zb I 111 (decide ((m : Int) < 1)) (false) (f111) fun Al W I => ?_
     rcases Bool.eq_false_or_eq_true (decide ((m : Int) > 5)) with f114 | f114
     · refine zb I 114 (decide ((m : Int) > 5)) (true) (f114) fun Al W I => ?_
       refine zret I (v := fun Al => .tuple #[.bool false, Go.Value.string (ByteArray.mk #[]), .int .i64 0, .bool false]) fun Al W I => ?_
       first | exact ⟨g, E, q, (l.drop a5).isEmpty, rfl, ⟨e0q (hgg ▸ hN2) f67 hQ (by omega), hbE⟩, I.below⟩ | exact ⟨false, [], 0, false, rfl, ⟨by rw [hN1, hr0, (d0h hj hall h6).1, (d0h hj hall h6).2, i0k hp h11]; rfl, fun _ h => (nomatch h)⟩, I.below⟩ | exact ⟨false, [], 0, false, rfl, ⟨by rw [hN2]; unfold numE; rw [if_pos (List.isEmpty_iff.1 f67)]; rfl, fun _ h => (nomatch h)⟩, I.below⟩ | exact ⟨false, [], 0, false, rfl, ⟨by rw [hN2]; unfold numE; rw [if_neg (fun h => by rw [h] at f67; cases f67), i0v hpe hmi hr3 hm hall3 h25, if_pos (by first | exact .inl (by have := oTr f111; omega) | exact .inr (by have := oTr f114; omega))]; rfl, fun _ h => (nomatch h)⟩, I.below⟩
     refine zb I 114 (decide ((m : Int) > 5)) (false) (f114) fun Al W I => ?_
     refine zcut I (some 2000116) (fun fr bx gs => ∃ (U9 : Nat → Value) (nn : Int), fr = (.v (.string s) :: .v undef :: sw U4 2 4 (.v (.int .i64 ((a3 + m : Nat) : Int)) :: .v (.bool g) :: .v (.string (a0c E)) :: .v (.int .i64 pw) :: .v (.bool mi) :: .v (.int .i64 nn) :: .v (.int .i64 (m : Int)) :: sw U9 13 8 (.v (.bool g) :: sw U9 22 4 (.v (.bool false) :: sw U9 27 18 (.v (.bool p) :: sw U9 46 5 (.v (U4 51) :: sw U9 52 2 (.v (U4 54) :: sw U9 55 12 (.v (.bool false) :: sw U9 68 9 (.v (.bool true) :: sw U9 78 12 (.v (.bool mi) :: sw U9 91 4 (.v (.bool false) :: sw U9 96 3 (.v (U902 99) :: sw U9 100 15 (.v (.bool false) :: .v (.bool mi) :: sw U9 117 12 [])))))))))))) : List SV) ∧ bx = [] ∧ gs = [] ∧ (nn = if mi then -((a0k ((l.drop a3).take m) : Nat) : Int) else ((a0k ((l.drop a3).take m) : Nat) : Int)) ∧ (-100000 ≤ nn ∧ nn ≤ 100000)) ?_ ?_
     · intro J hJ Al W I
       rcases Bool.eq_false_or_eq_true mi with rfl | rfl
       · refine zi I 118 .i64 (0 - (n : Int)) ((-(n : Int))) ((by rw [Int.zero_sub]; exact iwo)) fun Al W I => ?_
         exact a0n I J fun Al W U I => hJ _ _ _ _ _ ⟨U, (-(n : Int)), rfl, rfl, rfl, (by rw [if_pos rfl, (hn.2 (by have := oFa f114; omega)).1]), (by have := g1h (hn.2 (by have := oFa f114; omega)).2 (by have := oFa f114; omega); omega)⟩ (I.pick [])
       exact a0n I J fun Al W U I => hJ _ _ _ _ _ ⟨U, (n : Int), rfl, rfl, rfl, (by rw [if_neg Bool.false_ne_true, (hn.2 (by have := oFa f114; omega)).1]), (by have := g1h (hn.2 (by have := oFa f114; omega)).2 (by have := oFa f114; omega); omega)⟩ (I.pick [])
     rintro _ _ _ ⟨U9, nn, rfl, rfl, rfl, hnn, hnb⟩ Al W I
     refine zi I 121 .i64 (pw + nn) ((pw + nn)) ((by exact iwo)) fun Al W I => ?_
     exact a0n I J fun Al W U I => hJ _ _ _ _ _ ⟨U, (pw + nn), (a3 + m), rfl, rfl, rfl, (by rw [i0v hpe hmi hr3 hm hall3 h25, if_neg (by have := oFa f111; have := oFa f114; omega), ← hnn]; congr 2; omega), hm⟩ (I.pick [])
   exact a0n I J fun Al W U I => hJ _ _ _ _ _ ⟨U, pw, a2, rfl, rfl, rfl, (by rw [o1c hpe]; congr 2; omega), ha2⟩ (I.pick [])
 rintro _ _ _ ⟨U6, q, a5, rfl, rfl, rfl, hQ, ha5⟩ Al W I
 refine zb I 128 ((a5 : Int) == (s.size : Int)) ((l.drop a5).isEmpty) ((by rw [Bool.eq_iff_iff, beq_iff_eq, b1l l ha5]; omega)) fun Al W I => ?_
 refine zret I (v := fun Al => .tuple #[.bool g, .string (a0c E), .int .i64 q, .bool ((l.drop a5).isEmpty)]) fun Al W I => ?_
 first | exact ⟨g, E, q, (l.drop a5).isEmpty, rfl, ⟨e0q (hgg ▸ hN2) f67 hQ (by omega), hbE⟩, I.below⟩ | exact ⟨false, [], 0, false, rfl, ⟨by rw [hN1, hr0, (d0h hj hall h6).1, (d0h hj hall h6).2, i0k hp h11]; rfl, fun _ h => (nomatch h)⟩, I.below⟩ | exact ⟨false, [], 0, false, rfl, ⟨by rw [hN2]; unfold numE; rw [if_pos (List.isEmpty_iff.1 f67)]; rfl, fun _ h => (nomatch h)⟩, I.below⟩ | exact ⟨false, [], 0, false, rfl, ⟨by rw [hN2]; unfold numE; rw [if_neg (fun h => by rw [h] at f67; cases f67), i0v hpe hmi hr3 hm hall3 h25, if_pos (by first | exact .inl (by have := oTr f111; omega) | exact .inr (by have := oTr f114; omega))]; rfl, fun _ h => (nomatch h)⟩, I.below⟩
end Go.Proofs.YtbamiajjampgnaaGreatDoor
namespace Go.Slip
open Go.RowKit
theorem x0l {n p : Nat} (h0 : 0 < p) (h : n % 5 = 0) : c0h n 1 p = c0h (n / 5) 1 (p - 1) := by
 cases p with
 | zero => omega
 | succ p => rw [c0h, if_pos ⟨h, rfl⟩]; rfl
theorem b1m {n d p : Nat} (h0 : 0 < p) (h : ¬ (n % 5 = 0 ∧ d = 1)) : c0h n d p = c0h n (d * 5) (p - 1) := by
 cases p with
 | zero => omega
 | succ p => rw [c0h, if_neg h]; rfl
theorem g0y : dig B16 5 = [5] := by rw [d0b (by decide) (by omega), Nat.mod_eq_of_lt (by decide), Nat.div_eq_of_lt (by decide), a0d]
theorem s0s {a b k : Nat} (h : a ≤ b) (hb : (dig B16 b).length ≤ k) : (dig B16 a).length ≤ k := Nat.le_trans (a0m a0g h) hb
theorem g0e (d : Nat) : (dig B16 d).length = 1 ∧ dg (dig B16 d) 0 = 1 ↔ d = 1 := by
 constructor
 · rintro ⟨h1, h2⟩
   have h3 := b0b a0g d
   cases hd : dig B16 d with
   | nil => rw [hd] at h1; cases h1
   | cons a r =>
    rw [hd] at h1 h2 h3
    obtain rfl : r = [] := by simpa using h1
    simp [dg] at h2
    subst h2
    simpa [val] using h3.symm
 · rintro rfl
   rw [show dig B16 1 = [1] by rw [d0b (by decide) (by omega), Nat.mod_eq_of_lt (by decide), Nat.div_eq_of_lt (by decide), a0d]]
   exact ⟨rfl, rfl⟩
theorem o1d {g : Bool} {ds : List Nat} {pw x y : Int} {m n d : Nat} (h0 : a0k ds ≠ 0) (hx : x ≤ 0) (h1 : 0 ≤ x ∨ x = pw) (h2 : x ≤ pw) (hm : m * 5 ^ x.toNat = a0k ds / 2 ^ tz (a0k ds) * 5 ^ pw.toNat) (hy : y = 0) (hl : c0h n d (-y).toNat = c0h m 1 (-x).toNat) :
 f0e ⟨g, ds, pw⟩ = (g, n, d, tz (a0k ds) + pw) := by
 subst hy
 have e0 : c0h n d (-(0 : Int)).toNat = (n, d) := rfl
 rw [e0] at hl
 rw [show x.toNat = 0 by omega, Nat.pow_zero, Nat.mul_one] at hm
 by_cases hp : 0 ≤ pw
 · obtain rfl : x = 0 := by omega
   have e1 : c0h m 1 (-(0 : Int)).toNat = (m, 1) := rfl
   rw [e1] at hl
   injection hl with e2 e3
   subst e2 e3
   rw [z0l h0 hp, ← hm]
 · obtain rfl : x = pw := by omega
   rw [show x.toNat = 0 by omega, Nat.pow_zero, Nat.mul_one] at hm
   rw [n0j, hm] at hl
   injection hl with e2 e3
   rw [z0m h0 hp rfl, e2, e3]
theorem g1k (g : Bool) (S : Nat) : ((bare ⟨g, S, 0⟩).m = 0 ↔ S = 0) ∧ (S ≠ 0 → (bare ⟨g, S, 0⟩).m = S / 2 ^ tz S ∧ (bare ⟨g, S, 0⟩).e = ((tz S : Nat) : Int)) := by
 by_cases h : S = 0
 · subst h
   exact ⟨iff_of_true rfl rfl, fun k => absurd rfl k⟩
 · have e : bare ⟨g, S, 0⟩ = ⟨g, S / 2 ^ tz S, 0 + tz S⟩ := by unfold bare; rw [if_neg h]
   have h2 := (b0w S (by omega)).2
   rw [e]
   exact ⟨⟨fun k => absurd k (by show S / 2 ^ tz S ≠ 0; omega), fun k => absurd k h⟩, fun _ => ⟨rfl, Int.zero_add _⟩⟩
end Go.Slip
namespace Go.Proofs.YtbamiajjampgnaaGreatDoor
open Go.RowKit Go.Slip
theorem tvNn : k0g Tryz.prog 29 3 (.int .i64 0) 8 := tyV (by kernel_rfl) (by kernel_rfl) (by omega) rfl rfl
def o0m (w : World) (er : Int) (R : Bool × Nat × Nat × Int) (en : Ending) (w' : World) : Prop :=
 ∃ p c q d, en = .returned (.tuple #[.agg #[.bool R.1, .slice p (dig B16 R.2.1).length c, .slice q (dig B16 R.2.2.1).length d, .int .i64 R.2.2.2], .int .i64 er]) ∧ Rf w' w.heap.size p c (dig B16 R.2.1) ∧ Rf w' w.heap.size q d (dig B16 R.2.2.1) ∧ Below w.heap.size w w'
theorem a0t {w w' : World} {er k : Int} {R : Bool × Nat × Nat × Int} {en : Ending} (h : er = k ∧ R = (false, 0, 0, 0)) (he : en = .returned (.tuple #[.agg #[.bool false, .slice none 0 0, .slice none 0 0, .int .i64 0], .int .i64 k])) (hb : Below w.heap.size w w') : o0m w er R en w' := by
 obtain ⟨rfl, rfl⟩ := h
 have e : dig B16 0 = [] := a0d _
 refine ⟨none, 0, none, 0, ?_, ?_, ?_, hb⟩
 · rw [he]; simp only [e]; rfl
 · show Rf _ _ _ _ (dig B16 0); rw [e]; exact c1j _ _ _
 · show Rf _ _ _ _ (dig B16 0); rw [e]; exact c1j _ _ _
theorem d0m {w w' : World} {p : Option Addr} {en : Ending} (he : en = .returned (.tuple #[.agg #[.bool false, .slice none 0 0, .slice p (dig B16 1).length 1, .int .i64 0], .int .i64 0])) (h : Rf w' w.heap.size p 1 (dig B16 1)) (hb : Below w.heap.size w w') : o0m w 0 (false, 0, 1, 0) en w' := by
 have e : dig B16 0 = [] := a0d _
 refine ⟨none, 0, p, 1, ?_, ?_, h, hb⟩
 · rw [he]; simp only [e]; rfl
 · show Rf _ _ _ _ (dig B16 0); rw [e]; exact c1j _ _ _
def GRq2 (w : World) (x y : Nat) (en : Ending) (w' : World) : Prop := ∃ p c q d, en = .returned (.tuple #[.slice p (dig B16 x).length c, .slice q (dig B16 y).length d]) ∧ Rf w' w.heap.size p c (dig B16 x) ∧ Below w.heap.size w w'
theorem q1w (p q : Option Addr) (c d a : Nat) (W : World) (hp : Rd W .i64 p (dig B16 a)) (hq : Rd W .i64 q (dig B16 5)) (h1 : (dig B16 a).length ≤ 100000000) : Calls Tryz.prog 54 #[.slice p (dig B16 a).length c, .slice q (dig B16 5).length d] W (GRq2 W (a / 5) (a % 5)) :=
 (w0z p q _ _ c d a 5 W hp hq rfl rfl h1 (by rw [g0y]; decide) (by omega)).mono fun e w' ⟨p, c, q, d, h1, h2, h3, h4, _, _, _, h8⟩ => ⟨p, c, q, d, h1, k1b h2 h3 h4, h8⟩
theorem u0w (t : ByteArray) (w : World) : Calls Tryz.prog 12 #[.string t] w (o0m w (errT (a0b t).length (numl (a0b t))) (ratL (a0b t))) := by
 have hz : t.size = (a0b t).length := (a0z t).symm
 have HN := fun W h => hi0 (j0f t W h)
 have h1 := @z0i (a0b t)
 have h2 := @z0j (a0b t)
 have h3 := @u0q (a0b t)
 have h4 := @z0k (a0b t)
 have h5 := @o0j (a0b t)
 generalize errT (a0b t).length (numl (a0b t)) = er at *
 generalize ratL (a0b t) = R at *
 generalize numl (a0b t) = N at *
 generalize (a0b t).length = L at *
 have HU := fun s h1 h2 W => hi0 ((m0c s W h1 h2).mono fun _ _ => i0c.grf)
 have HB := fun g p c m d W hp hl h => hi0 (q1o g p _ c 0 m d W hp rfl hl (by omega) h)
 have HT := fun p q c d a b W hp hq h1 h2 => hi0 (q1m p q _ _ c d a b _ W hp hq rfl rfl h1 h2 rfl)
 have HI := fun p q c d a W hp hq h1 => hi0 (q1w p q c d a W hp hq h1)
 have I := Inv.start w [] True.intro
 refine a0h [.v (.string t)] I Tryz.func12 ?_
 rcases Bool.eq_false_or_eq_true (decide ((t.size : Int) > 400)) with f16 | f16
 · refine zb I 14 (decide ((t.size : Int) > 400)) (true) (f16) fun Al W I => ?_
   refine zret I (v := fun Al => .tuple #[.agg #[.bool false, .slice none 0 0, .slice none 0 0, .int .i64 0], .int .i64 2]) fun Al W I => ?_
   first | exact a0t (h1 (by have := oTr f16; omega)) rfl I.below | exact a0t (h2 (by have := oFa f16; omega) (by rw [hN.1, if_neg (by simpa using f26)])) rfl I.below | exact a0t (h3 (by have := oFa f16; omega) hN2 (by first | exact .inl (oTr f29) | exact .inr (oTr f32))) rfl I.below | (rw [hrk.1, hrk.2, r0 (hbz.1.1 (by have := beq_iff_eq.1 f41; have := a0e a0g D.m; omega))]; exact d0m rfl {o42} I.below) | (rw [hrk.1, hrk.2, hre x y m n d hS0 (by have := oFa f54; omega) hx2 hx1 hx3 (by have := oFa f63; omega) hy2]; exact ⟨pn, cn, pd, cd, rfl, {xn}, {xd}, I.below⟩)
 refine zb I 14 (decide ((t.size : Int) > 400)) (false) (f16) fun Al W I => ?_
 refine zg I (fun Al W I => have hzW := I.bel.size; (HN W (by have := oFa f16; omega)).out) fun Al V Iv _ hB _ kz => ?_
 rintro _ W ⟨g, ds, pw, ok, rfl, hN, hb⟩
 refine ⟨_, rfl, kz _ _ hb fun I => ?_⟩
 rcases Bool.eq_false_or_eq_true (!ok) with f26 | f26
 · refine zb I 24 (!ok) (true) (f26) fun Al W I => ?_
   refine zret I (v := fun Al => .tuple #[.agg #[.bool false, .slice none 0 0, .slice none 0 0, .int .i64 0], .int .i64 1]) fun Al W I => ?_
   first | exact a0t (h1 (by have := oTr f16; omega)) rfl I.below | exact a0t (h2 (by have := oFa f16; omega) (by rw [hN.1, if_neg (by simpa using f26)])) rfl I.below | exact a0t (h3 (by have := oFa f16; omega) hN2 (by first | exact .inl (oTr f29) | exact .inr (oTr f32))) rfl I.below | (rw [hrk.1, hrk.2, r0 (hbz.1.1 (by have := beq_iff_eq.1 f41; have := a0e a0g D.m; omega))]; exact d0m rfl {o42} I.below) | (rw [hrk.1, hrk.2, hre x y m n d hS0 (by have := oFa f54; omega) hx2 hx1 hx3 (by have := oFa f63; omega) hy2]; exact ⟨pn, cn, pd, cd, rfl, {xn}, {xd}, I.below⟩)
 refine zb I 24 (!ok) (false) (f26) fun Al W I => ?_
 rcases Bool.eq_false_or_eq_true (decide (pw < (-6000))) with f29 | f29
 · have hN2 : N = some ⟨g, ds, pw⟩ := by rw [hN.1, if_pos (by simpa using f26)]
   refine zb I 27 (decide (pw < (-6000))) (true) (f29) fun Al W I => ?_
   refine zret I (v := fun Al => .tuple #[.agg #[.bool false, .slice none 0 0, .slice none 0 0, .int .i64 0], .int .i64 3]) fun Al W I => ?_
   first | exact a0t (h1 (by have := oTr f16; omega)) rfl I.below | exact a0t (h2 (by have := oFa f16; omega) (by rw [hN.1, if_neg (by simpa using f26)])) rfl I.below | exact a0t (h3 (by have := oFa f16; omega) hN2 (by first | exact .inl (oTr f29) | exact .inr (oTr f32))) rfl I.below | (rw [hrk.1, hrk.2, r0 (hbz.1.1 (by have := beq_iff_eq.1 f41; have := a0e a0g D.m; omega))]; exact d0m rfl {o42} I.below) | (rw [hrk.1, hrk.2, hre x y m n d hS0 (by have := oFa f54; omega) hx2 hx1 hx3 (by have := oFa f63; omega) hy2]; exact ⟨pn, cn, pd, cd, rfl, {xn}, {xd}, I.below⟩)
 have hN2 : N = some ⟨g, ds, pw⟩ := by rw [hN.1, if_pos (by simpa using f26)]
 refine zb I 27 (decide (pw < (-6000))) (false) (f29) fun Al W I => ?_
 rcases Bool.eq_false_or_eq_true (decide (pw > 6000)) with f32 | f32
 · refine zb I 30 (decide (pw > 6000)) (true) (f32) fun Al W I => ?_
   refine zret I (v := fun Al => .tuple #[.agg #[.bool false, .slice none 0 0, .slice none 0 0, .int .i64 0], .int .i64 3]) fun Al W I => ?_
   first | exact a0t (h1 (by have := oTr f16; omega)) rfl I.below | exact a0t (h2 (by have := oFa f16; omega) (by rw [hN.1, if_neg (by simpa using f26)])) rfl I.below | exact a0t (h3 (by have := oFa f16; omega) hN2 (by first | exact .inl (oTr f29) | exact .inr (oTr f32))) rfl I.below | (rw [hrk.1, hrk.2, r0 (hbz.1.1 (by have := beq_iff_eq.1 f41; have := a0e a0g D.m; omega))]; exact d0m rfl {o42} I.below) | (rw [hrk.1, hrk.2, hre x y m n d hS0 (by have := oFa f54; omega) hx2 hx1 hx3 (by have := oFa f63; omega) hy2]; exact ⟨pn, cn, pd, cd, rfl, {xn}, {xd}, I.below⟩)
 refine zb I 30 (decide (pw > 6000)) (false) (f32) fun Al W I => ?_
 have hdg := (h5 hN2).1
 have hdl := (h5 hN2).2
 have hrk := h4 (by have := oFa f16; omega) hN2 (fun (h : pw < -6000 ∨ 6000 < pw) => by have := oFa f29; have := oFa f32; omega)
 have hpw : -6000 ≤ pw ∧ pw ≤ 6000 := by have := oFa f29; have := oFa f32; omega
 have uz := HU (a0c ds) (by rw [a0o]; simp only at hdl; omega) (u0r hdg)
 have hSl : (dig B16 (a0k ds)).length ≤ 800 := Nat.le_trans (f1x (B := B16) (by decide) hdg) (by simp only at hdl; omega)
 rw [a0s (fun x hx => by have := c0d.1 (hdg x hx); omega)] at uz
 have r0 := q0c (q := ⟨g, ds, pw⟩)
 have hre := fun x y m n d => @o1d g ds pw x y m n d
 simp only at r0
 generalize a0k ds = S at *
 have hol : (dig B16 (S / 2 ^ tz S)).length ≤ 800 := Nat.le_trans (a0m a0g (Nat.div_le_self _ _)) hSl
 have hzb := z0a S (n := 801) (by have := g0f S; omega)
 obtain ⟨D, hD⟩ : ∃ D, bare ⟨g, S, 0⟩ = D := ⟨_, rfl⟩
 have hbd := fun p c W hp hl => HB g p c S D W hp hl hD
 have hbz := g1k g S
 rw [hD] at hbz
 refine zg I (fun Al W I => (uz W).out) fun Al V Iv _ hB _ kz => ?_
 rintro _ W ⟨p35, c35, rfl, o35, hb⟩
 refine ⟨_, rfl, kz _ _ hb fun I => ?_⟩
 have I := I.rf o35 (hB _) Iv
 refine zg I (fun Al W I => have hzW := I.bel.size; (hbd p35 c35 W I.fa.1.rd (by omega)).out) fun Al V Iv _ hB _ kz => ?_
 rintro _ W ⟨p37, c37, rfl, o37, hb⟩
 refine ⟨_, rfl, kz _ _ hb fun I => ?_⟩
 have I := I.rf o37 (hB _) Iv
 rcases Bool.eq_false_or_eq_true ((((dig B16 D.m).length : Nat) : Int) == 0) with f41 | f41
 · refine zb I 41 ((((dig B16 D.m).length : Nat) : Int) == 0) (true) (f41) fun Al W I => ?_
   refine zlv I 42 1 3 (dig B16 1) u0h fun Al W p42 I => ?_
   refine zret I (v := fun Al => .tuple #[.agg #[.bool false, .slice none 0 0, .slice p42 (dig B16 1).length 1, .int .i64 0], .int .i64 0]) fun Al W I => ?_
   first | exact a0t (h1 (by have := oTr f16; omega)) rfl I.below | exact a0t (h2 (by have := oFa f16; omega) (by rw [hN.1, if_neg (by simpa using f26)])) rfl I.below | exact a0t (h3 (by have := oFa f16; omega) hN2 (by first | exact .inl (oTr f29) | exact .inr (oTr f32))) rfl I.below | (rw [hrk.1, hrk.2, r0 (hbz.1.1 (by have := beq_iff_eq.1 f41; have := a0e a0g D.m; omega))]; exact d0m rfl I.fa.1 I.below) | (rw [hrk.1, hrk.2, hre x y m n d hS0 (by have := oFa f54; omega) hx2 hx1 hx3 (by have := oFa f63; omega) hy2]; exact ⟨pn, cn, pd, cd, rfl, {xn}, {xd}, I.below⟩)
 refine zb I 41 ((((dig B16 D.m).length : Nat) : Int) == 0) (false) (f41) fun Al W I => ?_
 have hS0 : S ≠ 0 := fun h => by have := a0e a0g D.m; have := bnF f41; have := hbz.1.2 h; omega
 obtain ⟨hDm, hDe⟩ := hbz.2 hS0
 rw [← hDm] at hol hre
 rw [← hDe] at hre
 obtain ⟨K6, hK6⟩ : ∃ K : Nat, K = 6000 := ⟨_, rfl⟩
 have h5l : (dig B16 (5 ^ K6)).length ≤ 6001 := i0r (K := 6001) a0g (by decide) (by omega) (by omega)
 have h5p : ∀ k : Nat, 0 < 5 ^ k := fun k => Nat.pow_pos (by omega)
 have hml : ∀ (m : Nat) (x : Int), m * 5 ^ x.toNat = D.m * 5 ^ pw.toNat → (dig B16 m).length ≤ 7000 := fun m x h => s0s (b := D.m * 5 ^ K6) (Nat.le_trans (Nat.le_mul_of_pos_right m (h5p x.toNat)) (by rw [h]; exact Nat.mul_le_mul_left _ (Nat.pow_le_pow_right (by omega) (by omega)))) (Nat.le_trans (b0q a0g _ _) (by omega))
 have hdl5 : ∀ (d : Nat) (y : Int), d * 5 ^ (-y).toNat ≤ 5 ^ K6 → (dig B16 d).length ≤ 6001 := fun d y h => s0s (Nat.le_trans (Nat.le_mul_of_pos_right d (h5p (-y).toNat)) h) h5l
 have h5five : (dig B16 5).length ≤ 10 := by rw [g0y]; decide
 refine zlv I 47 1 3 (dig B16 1) u0h fun Al W p47 I => ?_
 generalize hM6 : 5 ^ K6 = M6 at *
 refine zi I 51 .i64 (D.e + pw) ((D.e + pw)) ((by exact iwo)) fun Al W I => ?_
 refine n0e I (fun gk fr bx gs => ∃ (U900 : Nat → Value) (x : Int) (m : Nat) (pm : Option Addr) (cm : Nat), fr = (.v (.string t) :: .v undef :: .p 0 0 :: .v (.int .i64 0) :: .v (.bool g) :: .v (.string (a0c ds)) :: .v (.int .i64 x) :: .v (.bool ok) :: .p 1 0 :: .p 2 0 :: su 2 (sw U900 12 2 (.v (.bool false) :: sw U900 15 9 (.v (.bool false) :: sw U900 25 6 (.v (.bool false) :: sw U900 32 9 (.v (.bool false) :: sw U900 42 21 (.v undef :: sw U900 64 24 (.v undef :: sw U900 89 8 []))))))) : List SV) ∧ bx = [⟨31, [.v (.bool false), .v (.slice none 0 0), .v (.slice none 0 0), .v (.int .i64 0)], false⟩, ⟨47, [.v (.bool D.neg), .v (.slice p37 (dig B16 D.m).length c37), .v (.int .i64 D.e)], false⟩, ⟨31, [.v (.bool g), .v (.slice pm (dig B16 m).length cm), .v (.slice p47 (dig B16 1).length 1), .v (.int .i64 (D.e + pw))], false⟩] ∧ gs = [rfF w.heap.size pm cm (dig B16 m), rfF w.heap.size p47 1 (dig B16 1)] ∧ (x ≤ pw) ∧ (0 ≤ x ∨ x = pw) ∧ (m * 5 ^ x.toNat = D.m * 5 ^ pw.toNat) ∧ (gk = x.toNat)) pw.toNat (fun Al W U I => ⟨_, ⟨U, pw, D.m, p37, c37, rfl, rfl, rfl, (Int.le_refl _), .inr rfl, rfl, rfl⟩, I.pick [1, 0]⟩) ?_
 rintro J0 gk0 _ _ _ ⟨U900, x, m, pm, cm, rfl, rfl, rfl, hx1, hx2, hx3, hgk⟩ hJ0 Al W I
 rcases Bool.eq_false_or_eq_true (decide (x > 0)) with f54 | f54
 · refine zb I 54 (decide (x > 0)) (true) (f54) fun Al W I => ?_
   refine zlv I 59 5 3 (dig B16 5) g0y fun Al W p59 I => ?_
   refine zqr I (fun Al W I => have hzW := I.bel.size; (HT pm p59 cm 1 m 5 W I.fa.2.1.rd I.fa.1.rd (by have := hml m x hx3; omega) (by omega)).out) fun Al W p60 c60 I => ?_
   refine zi I 56 .i64 (x - 1) ((x - 1)) ((by have := oTr f54; exact iwo)) fun Al W I => ?_
   exact a0n I J0 fun Al W U I => hJ0 (gk0 - 1) _ _ _ _ _ ((by have := oTr f54; omega)) ⟨U, (x - 1), (m * 5), p60, c60, rfl, rfl, rfl, (by omega), (by have := oTr f54; omega), (by have := oTr f54; rw [← hx3, Nat.mul_assoc, show 5 * 5 ^ (x - 1).toNat = 5 ^ x.toNat by rw [show x.toNat = (x - 1).toNat + 1 by omega, Nat.pow_succ, Nat.mul_comm]]), (by have := oTr f54; omega)⟩ (I.pick [0, 3])
 refine zb I 54 (decide (x > 0)) (false) (f54) fun Al W I => ?_
 refine n0e I (fun gk fr bx gs => ∃ (U901 : Nat → Value) (y : Int) (n : Nat) (d : Nat) (pn : Option Addr) (cn : Nat) (pd : Option Addr) (cd : Nat), fr = (.v (.string t) :: .v undef :: .p 0 0 :: .v (.int .i64 0) :: .v (.bool g) :: .v (.string (a0c ds)) :: .v (.int .i64 y) :: .v (.bool ok) :: .p 1 0 :: .p 2 0 :: sw U901 10 4 (.v (.bool false) :: sw U901 15 9 (.v (.bool false) :: sw U901 25 6 (.v (.bool false) :: sw U901 32 9 (.v (.bool false) :: sw U901 42 12 (.v (.bool false) :: sw U901 55 42 []))))) : List SV) ∧ bx = [⟨31, [.v (.bool false), .v (.slice none 0 0), .v (.slice none 0 0), .v (.int .i64 0)], false⟩, ⟨47, [.v (.bool D.neg), .v (.slice p37 (dig B16 D.m).length c37), .v (.int .i64 D.e)], false⟩, ⟨31, [.v (.bool g), .v (.slice pn (dig B16 n).length cn), .v (.slice pd (dig B16 d).length cd), .v (.int .i64 (D.e + pw))], false⟩] ∧ gs = [rfF w.heap.size pd cd (dig B16 d), rfF w.heap.size pn cn (dig B16 n), rfF w.heap.size p47 1 (dig B16 1)] ∧ (y ≤ 0) ∧ (c0h n d (-y).toNat = c0h m 1 (-x).toNat) ∧ (n ≤ m) ∧ (d * 5 ^ (-y).toNat ≤ M6) ∧ (x ≤ y) ∧ (gk = (-y).toNat)) ((-x).toNat) (fun Al W U I => ⟨_, ⟨U, x, m, 1, pm, cm, p47, 1, rfl, rfl, rfl, (by have := oFa f54; omega), rfl, (Nat.le_refl _), (by rw [Nat.one_mul, ← hM6]; exact Nat.pow_le_pow_right (by omega) (by omega)), (Int.le_refl _), rfl⟩, I.pick [1, 0, 1]⟩) ?_
 rintro J1 gk1 _ _ _ ⟨U901, y, n, d, pn, cn, pd, cd, rfl, rfl, rfl, hy1, hy2, hy3, hy4, hy5, hgk2⟩ hJ1 Al W I
 rcases Bool.eq_false_or_eq_true (decide (y < 0)) with f63 | f63
 · refine zb I 63 (decide (y < 0)) (true) (f63) fun Al W I => ?_
   refine zlv I 69 5 3 (dig B16 5) g0y fun Al W p69 I => ?_
   refine zg I (fun Al W I => have hzW := I.bel.size; (HI pn p69 cn 1 n W I.fa.2.2.1.rd I.fa.1.rd (by have := s0s hy3 (hml m x hx3); omega)).out) fun Al V Iv _ hB _ kz => ?_
   rintro _ W ⟨p70, c70, q70, d70, rfl, o70, hb⟩
   refine ⟨_, rfl, kz _ _ hb fun I => ?_⟩
   have I := I.rf o70 (hB _) Iv
   refine zcut I (some 3000018) (fun fr bx gs => ∃ (U1 : Nat → Value) (bb : Bool), fr = (.v (.string t) :: .v undef :: .p 0 0 :: .v (.int .i64 0) :: .v (.bool g) :: .v (.string (a0c ds)) :: .v (.int .i64 y) :: .v (.bool ok) :: .p 1 0 :: .p 2 0 :: .v (.slice p70 (dig B16 (n / 5)).length c70) :: .v (.slice q70 (dig B16 (n % 5)).length d70) :: sw U1 12 2 (.v (.bool false) :: sw U1 15 9 (.v (.bool false) :: sw U1 25 6 (.v (.bool false) :: sw U1 32 9 (.v (.bool false) :: sw U1 42 12 (.v (.bool false) :: sw U1 55 8 (.v (.bool true) :: sw U1 64 24 (.v (.bool bb) :: sw U1 89 8 []))))))) : List SV) ∧ bx = [⟨31, [.v (.bool false), .v (.slice none 0 0), .v (.slice none 0 0), .v (.int .i64 0)], false⟩, ⟨47, [.v (.bool D.neg), .v (.slice p37 (dig B16 D.m).length c37), .v (.int .i64 D.e)], false⟩, ⟨31, [.v (.bool g), .v (.slice pn (dig B16 n).length cn), .v (.slice pd (dig B16 d).length cd), .v (.int .i64 (D.e + pw))], false⟩] ∧ gs = [rfF w.heap.size p70 c70 (dig B16 (n / 5)), rfF w.heap.size p69 1 (dig B16 5), rfF w.heap.size pd cd (dig B16 d), rfF w.heap.size pn cn (dig B16 n), rfF w.heap.size p47 1 (dig B16 1)] ∧ (bb = decide (n % 5 = 0 ∧ d = 1))) ?_ ?_
   · intro J hJ Al W I
     rcases Bool.eq_false_or_eq_true ((((dig B16 (n % 5)).length : Nat) : Int) == 0) with f75 | f75
     · refine zb I 75 ((((dig B16 (n % 5)).length : Nat) : Int) == 0) (true) (f75) fun Al W I => ?_
       rcases Bool.eq_false_or_eq_true ((((dig B16 d).length : Nat) : Int) == 1) with f80 | f80
       · refine zb I 80 ((((dig B16 d).length : Nat) : Int) == 1) (true) (f80) fun Al W I => ?_
         refine zx I 85 (fun _ => .pointer (some (at_ pd 0))) (fun Al W I => (y0l (m := 0) (n := (dig B16 d).length) (c := cd) tvNn I.fa.2.2.1.rd.solid (by have := beq_iff_eq.1 f80; omega))) fun Al W I => ?_
         refine zx I 86 (fun _ => .int .i64 ((dg (dig B16 d) 0 : Nat) : Int)) (fun Al W I => (e1x I.fa.2.2.1.rd q1u (by have := beq_iff_eq.1 f80; omega))) fun Al W I => ?_
         rcases Bool.eq_false_or_eq_true (((dg (dig B16 d) 0 : Nat) : Int) == 1) with f87 | f87
         · refine zb I 87 (((dg (dig B16 d) 0 : Nat) : Int) == 1) (true) (f87) fun Al W I => ?_
           exact a0n I J fun Al W U I => hJ _ _ _ _ _ ⟨U, true, rfl, rfl, rfl, (by have h5 := a0e a0g (n % 5); have h6 := g0e d; first | exact (decide_eq_true ⟨by have := beq_iff_eq.1 f75; omega, by have := beq_iff_eq.1 f80; have := beq_iff_eq.1 f87; omega⟩).symm | exact (dFa (fun k => by have h7 := h6.2 k.2; have := bnF f87; omega)).symm | exact (dFa (fun k => by have h7 := h6.2 k.2; have := bnF f80; omega)).symm | exact (dFa (fun k => by have := bnF f75; omega)).symm)⟩ (I.pick [0, 1, 2, 3, 4])
         refine zb I 87 (((dg (dig B16 d) 0 : Nat) : Int) == 1) (false) (f87) fun Al W I => ?_
         exact a0n I J fun Al W U I => hJ _ _ _ _ _ ⟨U, false, rfl, rfl, rfl, (by have h5 := a0e a0g (n % 5); have h6 := g0e d; first | exact (decide_eq_true ⟨by have := beq_iff_eq.1 f75; omega, by have := beq_iff_eq.1 f80; have := beq_iff_eq.1 f87; omega⟩).symm | exact (dFa (fun k => by have h7 := h6.2 k.2; have := bnF f87; omega)).symm | exact (dFa (fun k => by have h7 := h6.2 k.2; have := bnF f80; omega)).symm | exact (dFa (fun k => by have := bnF f75; omega)).symm)⟩ (I.pick [0, 1, 2, 3, 4])
       refine zb I 80 ((((dig B16 d).length : Nat) : Int) == 1) (false) (f80) fun Al W I => ?_
       exact a0n I J fun Al W U I => hJ _ _ _ _ _ ⟨U, false, rfl, rfl, rfl, (by have h5 := a0e a0g (n % 5); have h6 := g0e d; first | exact (decide_eq_true ⟨by have := beq_iff_eq.1 f75; omega, by have := beq_iff_eq.1 f80; have := beq_iff_eq.1 f87; omega⟩).symm | exact (dFa (fun k => by have h7 := h6.2 k.2; have := bnF f87; omega)).symm | exact (dFa (fun k => by have h7 := h6.2 k.2; have := bnF f80; omega)).symm | exact (dFa (fun k => by have := bnF f75; omega)).symm)⟩ (I.pick [0, 1, 2, 3, 4])
     refine zb I 75 ((((dig B16 (n % 5)).length : Nat) : Int) == 0) (false) (f75) fun Al W I => ?_
     exact a0n I J fun Al W U I => hJ _ _ _ _ _ ⟨U, false, rfl, rfl, rfl, (by have h5 := a0e a0g (n % 5); have h6 := g0e d; first | exact (decide_eq_true ⟨by have := beq_iff_eq.1 f75; omega, by have := beq_iff_eq.1 f80; have := beq_iff_eq.1 f87; omega⟩).symm | exact (dFa (fun k => by have h7 := h6.2 k.2; have := bnF f87; omega)).symm | exact (dFa (fun k => by have h7 := h6.2 k.2; have := bnF f80; omega)).symm | exact (dFa (fun k => by have := bnF f75; omega)).symm)⟩ (I.pick [0, 1, 2, 3, 4])
   rintro _ _ _ ⟨U1, bb, rfl, rfl, rfl, hbb⟩ Al W I
   refine zcut I (some 2000088) (fun fr bx gs => ∃ (U2 : Nat → Value) (n2 : Nat) (d2 : Nat) (pn2 : Option Addr) (cn2 : Nat) (pd2 : Option Addr) (cd2 : Nat), fr = (.v (.string t) :: .v undef :: .p 0 0 :: .v (.int .i64 0) :: .v (.bool g) :: .v (.string (a0c ds)) :: .v (.int .i64 y) :: .v (.bool ok) :: .p 1 0 :: .p 2 0 :: .v (.slice p70 (dig B16 (n / 5)).length c70) :: .v (.slice q70 (dig B16 (n % 5)).length d70) :: sw U2 12 2 (.v (.bool false) :: sw U2 15 9 (.v (.bool false) :: sw U2 25 6 (.v (.bool false) :: sw U2 32 9 (.v (.bool false) :: sw U2 42 12 (.v (.bool false) :: sw U2 55 8 (.v (.bool true) :: sw U2 64 24 (.v (.bool bb) :: sw U2 89 8 []))))))) : List SV) ∧ bx = [⟨31, [.v (.bool false), .v (.slice none 0 0), .v (.slice none 0 0), .v (.int .i64 0)], false⟩, ⟨47, [.v (.bool D.neg), .v (.slice p37 (dig B16 D.m).length c37), .v (.int .i64 D.e)], false⟩, ⟨31, [.v (.bool g), .v (.slice pn2 (dig B16 n2).length cn2), .v (.slice pd2 (dig B16 d2).length cd2), .v (.int .i64 (D.e + pw))], false⟩] ∧ gs = [rfF w.heap.size pd2 cd2 (dig B16 d2), rfF w.heap.size pn2 cn2 (dig B16 n2), rfF w.heap.size p47 1 (dig B16 1)] ∧ (c0h n2 d2 (-(y + 1)).toNat = c0h n d (-y).toNat) ∧ (n2 ≤ n) ∧ (d2 * 5 ^ (-(y + 1)).toNat ≤ M6)) ?_ ?_
   · intro J hJ Al W I
     rcases Bool.eq_false_or_eq_true bb with rfl | rfl
     · exact a0n I J fun Al W U I => hJ _ _ _ _ _ ⟨U, (n / 5), d, p70, c70, pd, cd, rfl, rfl, rfl, (by have h := oTr hbb.symm; have h1 := oTr f63; rw [show (-(y + 1)).toNat = (-y).toNat - 1 by omega, h.2]; exact (x0l (by omega) h.1).symm), (Nat.div_le_self _ _), (Nat.le_trans (Nat.mul_le_mul_left d (Nat.pow_le_pow_right (by omega) (by omega))) hy4)⟩ (I.pick [2, 0, 4])
     refine zlv I 93 5 3 (dig B16 5) g0y fun Al W p93 I => ?_
     refine zqr I (fun Al W I => have hzW := I.bel.size; (HT pd p93 cd 1 d 5 W I.fa.2.2.2.1.rd I.fa.1.rd (by have := hdl5 d y hy4; omega) (by omega)).out) fun Al W p94 c94 I => ?_
     exact a0n I J fun Al W U I => hJ _ _ _ _ _ ⟨U, n, (d * 5), pn, cn, p94, c94, rfl, rfl, rfl, (by have h := oFa hbb.symm; have h1 := oTr f63; rw [show (-(y + 1)).toNat = (-y).toNat - 1 by omega]; exact (b1m (by omega) h).symm), (Nat.le_refl _), (by have h1 := oTr f63; rw [Nat.mul_assoc, show 5 * 5 ^ (-(y + 1)).toNat = 5 ^ (-y).toNat by rw [show (-y).toNat = (-(y + 1)).toNat + 1 by omega, Nat.pow_succ, Nat.mul_comm]]; exact hy4)⟩ (I.pick [0, 5, 6])
   rintro _ _ _ ⟨U2, n2, d2, pn2, cn2, pd2, cd2, rfl, rfl, rfl, hz1, hz2, hz3⟩ Al W I
   refine zi I 65 .i64 (y + 1) ((y + 1)) ((by have := oTr f63; exact iwo)) fun Al W I => ?_
   exact a0n I J1 fun Al W U I => hJ1 ((-(y + 1)).toNat) _ _ _ _ _ ((by have := oTr f63; omega)) ⟨U, (y + 1), n2, d2, pn2, cn2, pd2, cd2, rfl, rfl, rfl, (by have := oTr f63; omega), (by rw [hz1, hy2]), (by omega), hz3, (by omega), rfl⟩ (I.pick [0, 1, 2])
 refine zb I 63 (decide (y < 0)) (false) (f63) fun Al W I => ?_
 refine zret I (v := fun Al => .tuple #[.agg #[.bool g, .slice pn (dig B16 n).length cn, .slice pd (dig B16 d).length cd, .int .i64 (D.e + pw)], .int .i64 0]) fun Al W I => ?_
 first | exact a0t (h1 (by have := oTr f16; omega)) rfl I.below | exact a0t (h2 (by have := oFa f16; omega) (by rw [hN.1, if_neg (by simpa using f26)])) rfl I.below | exact a0t (h3 (by have := oFa f16; omega) hN2 (by first | exact .inl (oTr f29) | exact .inr (oTr f32))) rfl I.below | (rw [hrk.1, hrk.2, r0 (hbz.1.1 (by have := beq_iff_eq.1 f41; have := a0e a0g D.m; omega))]; exact d0m rfl {o42} I.below) | (rw [hrk.1, hrk.2, hre x y m n d hS0 (by have := oFa f54; omega) hx2 hx1 hx3 (by have := oFa f63; omega) hy2]; exact ⟨pn, cn, pd, cd, rfl, I.fa.2.1, I.fa.1, I.below⟩)
theorem s0t (g : Bool) (num den : Nat) (e : Int) (p q r s : Option Addr) (a b c d b1 b2 b3 b4 : Nat) (w : World) (hp : Own w b1 .u32 143 p a (dig B32 num)) (hq : Own w b2 .u32 143 q b (dig B32 den)) (hr : Rf w b3 r c (dig B16 num)) (hs : Rf w b4 s d (dig B16 den)) (h1 : (dig B16 num).length ≤ 100000000) (h2 : (dig B16 den).length ≤ 100000000) :
 Calls Tryz.prog 14 #[.agg #[.bool g, .slice p (dig B32 num).length a, .slice q (dig B32 den).length b, .int .i64 e], .agg #[.bool g, .slice r (dig B16 num).length c, .slice s (dig B16 den).length d, .int .i64 e]] w fun en w' => en = .returned (.bool true) ∧ Below w.heap.size w w' := by
 have HT := fun p c n W hp hl => hi0 (e1h p _ c n _ W rfl hp rfl hl)
 have HS := fun p q c d n W hp hq hl => hi0 (j0e p q _ c _ d (dig B32 n) (dig B32 n) W hp hq rfl rfl rfl hl)
 have hl : ∀ n, (dig B16 n).length ≤ 100000000 → (dig B32 n).length ≤ 100000000 := fun n h => by have := g0f n; omega
 have e1 : (g == g) = true := by simp
 have e2 : (e == e) = true := by simp
 have I := Inv.start w [ownF b1 .u32 143 p a (dig B32 num), ownF b2 .u32 143 q b (dig B32 den), rfF b3 r c (dig B16 num), rfF b4 s d (dig B16 den)] ⟨hp, hq, hr, hs, True.intro⟩
 refine a0h [.v (.agg #[.bool g, .slice p (dig B32 num).length a, .slice q (dig B32 den).length b, .int .i64 e]), .v (.agg #[.bool g, .slice r (dig B16 num).length c, .slice s (dig B16 den).length d, .int .i64 e])] I Tryz.func14 ?_
 refine zd [] I fun Al W I => ?_
 refine zk [0, 1, 2, 3] I fun I => ?_
 refine zkb 4 I (g == g) (true) (e1) fun I => ?_
 refine zk [5, 6, 7, 8, 9] I fun I => ?_
 refine zo 10 I fun I => ?_
 refine zqo I (fun Al W I => have hzW := I.bel.size; (HT r c num W I.fa.2.2.1.rd (by omega)).out) fun Al W p15 c15 I => ?_
 refine zo 11 I fun I => ?_
 refine zq I (fun Al W I => have hzW := I.bel.size; (HS p p15 a c15 num W I.fa.2.1.rd I.fa.1.rd (by have := hl num h1; omega)).out) fun Al W I => ?_
 refine zk [12, 13, 14, 15, 16, 17] I fun I => ?_
 refine zo 18 I fun I => ?_
 refine zqo I (fun Al W I => have hzW := I.bel.size; (HT s d den W I.fa.2.2.2.2.1.rd (by omega)).out) fun Al W p23 c23 I => ?_
 refine zo 19 I fun I => ?_
 refine zq I (fun Al W I => have hzW := I.bel.size; (HS q p23 b c23 den W I.fa.2.2.2.1.rd I.fa.1.rd (by have := hl den h2; omega)).out) fun Al W I => ?_
 refine zk [20, 21, 22, 23, 24, 25] I fun I => ?_
 refine zkb 26 I (e == e) (true) (e2) fun I => ?_
 refine zk [27, 28] I fun I => ?_
 exact zrb I
theorem o0y (t : ByteArray) (w : World) (hT : TabW w) (hP : PowW w) : Calls Tryz.prog 3 #[.string t] w fun en w' => en = .returned (.bool true) ∧ Below w.heap.size w w' := by
 have HR := fun W h => hi0 (o0k t W h)
 have HX := fun W => hi0 (u0w t W)
 have HB := fun W h h2 => hi0 (h0n W h h2)
 have hl : (dig B16 (ratL (a0b t)).2.1).length ≤ 100000000 ∧ (dig B16 (ratL (a0b t)).2.2.1).length ≤ 100000000 := by
  by_cases h : errT (a0b t).length (numl (a0b t)) = 0
  · have R := x0j h
    have := t0e (ratL (a0b t)).2.1
    have := t0e (ratL (a0b t)).2.2.1
    have := R.ln
    have := R.ld
    omega
  · have h0 : ratL (a0b t) = (false, 0, 0, 0) := by unfold ratL; rw [if_neg h]
    rw [h0]
    show (dig B16 0).length ≤ _ ∧ (dig B16 0).length ≤ _
    rw [a0d]; decide
 generalize errT (a0b t).length (numl (a0b t)) = er at *
 generalize ratL (a0b t) = R at *
 have HS := fun p q r s a b c d b1 b2 b3 b4 W h1 h2 h3 h4 => hi0 (s0t R.1 R.2.1 R.2.2.1 R.2.2.2 p q r s a b c d b1 b2 b3 b4 W h1 h2 h3 h4 hl.1 hl.2)
 have I := Inv.start w [tabF, powF] ⟨hT, hP, True.intro⟩
 refine a0h [.v (.string t)] I Tryz.func3 ?_
 refine zg I (fun Al W I => (HR W I.fa.1).out) fun Al V Iv _ hB _ kz => ?_
 rintro _ W ⟨p23, c23, q23, d23, rfl, o23, r23, hb⟩
 refine ⟨_, rfl, kz _ _ hb fun I => ?_⟩
 have I := I.own o23
 have I := I.own r23
 refine zg I (fun Al W I => (HX W).out) fun Al V Iv _ hB _ kz => ?_
 rintro _ W ⟨p14, c14, q14, d14, rfl, o14, r14, hb⟩
 refine ⟨_, rfl, kz _ _ hb fun I => ?_⟩
 have I := I.rf o14 (hB _) Iv
 have I := I.rf r14 (hB _) Iv
 refine zq I (fun Al W I => (HB W I.fa.2.2.2.2.1 I.fa.2.2.2.2.2.1).out) fun Al W I => ?_
 refine zb I 21 (er == er) (true) (beq_self_eq_true er) fun Al W I => ?_
 refine zq I (fun Al W I => (HS p23 q23 p14 q14 c23 d23 c14 d14 _ _ _ _ W I.fa.2.2.2.1 I.fa.2.2.1 I.fa.2.1 I.fa.1).out) fun Al W I => ?_
 exact zrb I
theorem tvI : k0g Tryz.prog 29 3 (.int .i64 0) 8 := tyV (by kernel_rfl) (by kernel_rfl) (by omega) rfl rfl
theorem ixT {P : Program} {w : World} {t : TypeId} {e : TypeId} {z : Value} {bytes : Nat} {i : Int} {m : Nat} (hi : i = (m : Int)) (hty : k0g P t e z bytes) {p : Option Addr} {n c : Nat} (hp : i0w p n) (hm : m < n) : (VO.ix t (.slice p n c) (.int .i64 i)).sem.run P w = .ok (.pointer (some (at_ p m))) w := by subst hi; exact y0l hty hp hm
theorem x0m (n : Int) (w : World) (h : IsFm n) : Calls Tryz.prog 29 #[.int .i64 n, .int .i64 9] w fun en w' => en = .returned (.int .i64 n) ∧ Below w.heap.size w w' := by
 unfold IsFm at h
 have I := Inv.start w [] True.intro
 refine a0h [.v (.int .i64 n), .v (.int .i64 9)] I Tryz.func29 ?_
 refine zb I 6 (decide (n < 0)) (false) (dFa (by omega)) fun Al W I => ?_
 refine zbin I 12 _ (fun _ _ _ _ _ => l1z .i64 (n) (9) (n) (by omega) ((by rw [Int.tmod_eq_emod_of_nonneg (by omega), Int.emod_eq_of_lt (by omega) (by omega)]))) fun Al W I => ?_
 exact zrb I
theorem u0x {n : Int} {s : ByteArray} (h : a0w n s ≠ 0) : (decP n s).cls = 0 := by unfold decP; rw [if_neg h]; rfl
theorem q0f (n : Int) (s : ByteArray) (w : World) (hT : TabW w) : Calls Tryz.prog 27 #[.int .i64 n, .string s] w fun en w' => en = .returned (.int .i64 (((decP n s).cls : Nat) : Int)) ∧ Below w.heap.size w w' := by
 have HC := fun W h => hi0 (f1e n s W h)
 have hb := fun h => u0x (n := n) (s := s) h
 generalize (if a0w n s = 0 then (fmt n).neg (a0y (fmt n) s) else false) = g at *
 generalize a0w n s = er at *
 generalize (decP n s).cls = c at *
 have I := Inv.start w [tabF] ⟨hT, True.intro⟩
 refine a0h [.v (.int .i64 n), .v (.string s)] I Tryz.func27 ?_
 refine zq I (fun Al W I => (HC W I.fa.1).out) fun Al W I => ?_
 rcases Bool.eq_false_or_eq_true (er != 0) with f16 | f16
 · refine zb I 16 (er != 0) (true) (f16) fun Al W I => ?_
   exact zret I (v := fun Al => .int .i64 0) fun Al W I => ⟨by rw [hb (bne_iff_ne.1 f16)]; rfl, I.below⟩
 refine zb I 16 (er != 0) (false) (f16) fun Al W I => ?_
 exact zrb I
theorem o0n (a b : Vl) (p q : Option Addr) (c d b1 b2 : Nat) (w : World) (hp : Own w b1 .u32 143 p c (dig B32 a.d)) (hq : Own w b2 .u32 143 q d (dig B32 b.d)) (h1 : (dig B32 a.d).length ≤ 100000) (h2 : (dig B32 b.d).length ≤ 100000) :
 Calls Tryz.prog 30 #[.agg #[.int .i64 (a.cls : Int), .bool a.neg, .slice p (dig B32 a.d).length c, .int .i64 a.pow], .agg #[.int .i64 (b.cls : Int), .bool b.neg, .slice q (dig B32 b.d).length d, .int .i64 b.pow]] w fun en w' => en = .returned (.bool (decide (a.cls = b.cls ∧ a.neg = b.neg ∧ a.pow = b.pow ∧ a.d = b.d))) ∧ Below w.heap.size w w' := by
 have HC := fun W hp hq => hi0 (o0w p q _ c _ d (dig B32 a.d) (dig B32 b.d) W hp hq rfl rfl (by omega) (by omega))
 have hc : dig B32 a.d = dig B32 b.d ↔ a.d = b.d := ⟨fun h => by rw [← b0b a0a a.d, h, b0b a0a], fun h => by rw [h]⟩
 obtain ⟨ac, an, ad, ap⟩ := a
 obtain ⟨bc, bn, bd, bp⟩ := b
 simp only at HC hc hp hq h1 h2 ⊢
 rw [show decide (dig B32 ad = dig B32 bd) = decide (ad = bd) from decide_eq_decide.2 hc] at HC
 have I := Inv.start w [ownF b1 .u32 143 p c (dig B32 ad), ownF b2 .u32 143 q d (dig B32 bd)] ⟨hp, hq, True.intro⟩
 refine a0h [.v (.agg #[.int .i64 (ac : Int), .bool an, .slice p (dig B32 ad).length c, .int .i64 ap]), .v (.agg #[.int .i64 (bc : Int), .bool bn, .slice q (dig B32 bd).length d, .int .i64 bp])] I Tryz.func30 ?_
 refine zcut I (some 3000001) (fun fr bx gs => ∃ (U1 : Nat → Value) (r : Bool), fr = (.v (.agg #[.int .i64 (ac : Int), .bool an, .slice p (dig B32 ad).length c, .int .i64 ap]) :: .v (.agg #[.int .i64 (bc : Int), .bool bn, .slice q (dig B32 bd).length d, .int .i64 bp]) :: .p 0 0 :: .p 1 0 :: .v (.bool r) :: sw U1 5 26 [] : List SV) ∧ bx = [⟨66, [.v (.int .i64 (ac : Int)), .v (.bool an), .v (.slice p (dig B32 ad).length c), .v (.int .i64 ap)], false⟩, ⟨66, [.v (.int .i64 (bc : Int)), .v (.bool bn), .v (.slice q (dig B32 bd).length d), .v (.int .i64 bp)], false⟩] ∧ gs = [ownF b1 .u32 143 p c (dig B32 ad), ownF b2 .u32 143 q d (dig B32 bd)] ∧ (r = decide (ac = bc ∧ an = bn ∧ ap = bp ∧ ad = bd))) ?_ ?_
 · intro J hJ Al W I
   rcases Bool.eq_false_or_eq_true ((ac : Int) == (bc : Int)) with f9 | f9
   · refine zb I 9 ((ac : Int) == (bc : Int)) (true) (f9) fun Al W I => ?_
     rcases Bool.eq_false_or_eq_true (an == bn) with f15 | f15
     · refine zb I 15 (an == bn) (true) (f15) fun Al W I => ?_
       rcases Bool.eq_false_or_eq_true (ap == bp) with f22 | f22
       · refine zb I 22 (ap == bp) (true) (f22) fun Al W I => ?_
         refine zq I (fun Al W I => (HC W I.fa.1.rd I.fa.2.1.rd).out) fun Al W I => ?_
         exact a0n I J fun Al W U I => hJ _ _ _ _ _ ⟨U, decide (ad = bd), rfl, rfl, rfl, (by first | exact (dFa (fun h => by have := bnF f9; have := h.1; omega)).symm | exact (dFa (fun h => bnF f15 h.2.1)).symm | exact (dFa (fun h => bnF f22 h.2.2.1)).symm | exact decide_eq_decide.2 ⟨fun h => ⟨by have := beq_iff_eq.1 f9; omega, beq_iff_eq.1 f15, beq_iff_eq.1 f22, h⟩, fun h => h.2.2.2⟩)⟩ (I.pick [0, 1])
       refine zb I 22 (ap == bp) (false) (f22) fun Al W I => ?_
       exact a0n I J fun Al W U I => hJ _ _ _ _ _ ⟨U, false, rfl, rfl, rfl, (by first | exact (dFa (fun h => by have := bnF f9; have := h.1; omega)).symm | exact (dFa (fun h => bnF f15 h.2.1)).symm | exact (dFa (fun h => bnF f22 h.2.2.1)).symm | exact decide_eq_decide.2 ⟨fun h => ⟨by have := beq_iff_eq.1 f9; omega, beq_iff_eq.1 f15, beq_iff_eq.1 f22, h⟩, fun h => h.2.2.2⟩)⟩ (I.pick [0, 1])
     refine zb I 15 (an == bn) (false) (f15) fun Al W I => ?_
     exact a0n I J fun Al W U I => hJ _ _ _ _ _ ⟨U, false, rfl, rfl, rfl, (by first | exact (dFa (fun h => by have := bnF f9; have := h.1; omega)).symm | exact (dFa (fun h => bnF f15 h.2.1)).symm | exact (dFa (fun h => bnF f22 h.2.2.1)).symm | exact decide_eq_decide.2 ⟨fun h => ⟨by have := beq_iff_eq.1 f9; omega, beq_iff_eq.1 f15, beq_iff_eq.1 f22, h⟩, fun h => h.2.2.2⟩)⟩ (I.pick [0, 1])
   refine zb I 9 ((ac : Int) == (bc : Int)) (false) (f9) fun Al W I => ?_
   exact a0n I J fun Al W U I => hJ _ _ _ _ _ ⟨U, false, rfl, rfl, rfl, (by first | exact (dFa (fun h => by have := bnF f9; have := h.1; omega)).symm | exact (dFa (fun h => bnF f15 h.2.1)).symm | exact (dFa (fun h => bnF f22 h.2.2.1)).symm | exact decide_eq_decide.2 ⟨fun h => ⟨by have := beq_iff_eq.1 f9; omega, beq_iff_eq.1 f15, beq_iff_eq.1 f22, h⟩, fun h => h.2.2.2⟩)⟩ (I.pick [0, 1])
 rintro _ _ _ ⟨U1, r, rfl, rfl, rfl, hr⟩ Al W I
 exact zret I (v := fun Al => .bool r) fun Al W I => ⟨by rw [hr], I.below⟩
def x0n (n : Int) : Nat := if n = 1 ∨ n = 4 ∨ n = 6 then 9 else if n = 3 then 21 else if n = 5 ∨ n = 7 then 18 else 17
theorem j1u {n : Int} (hn : IsFm n) : 2 ^ (wid (fmt n).g * (fmt n).g.digs.toNat) < 10 ^ (x0n n - 1) ∧ 1 ≤ x0n n ∧ x0n n ≤ 60 := by
 rcases k0n hn with rfl | rfl | rfl | rfl | rfl | rfl | rfl | rfl <;> decide
theorem j1v {n : Int} (hn : IsFm n) : ∃ j : Nat, n = j ∧ j < 9 ∧ (#[.int .i64 0, .int .i64 9, .int .i64 17, .int .i64 21, .int .i64 9, .int .i64 18, .int .i64 9, .int .i64 18, .int .i64 17] : Array Value)[j]? = some (.int .i64 ((x0n n : Nat) : Int)) := by
 rcases k0n hn with rfl | rfl | rfl | rfl | rfl | rfl | rfl | rfl <;> exact ⟨_, rfl, by decide, rfl⟩
theorem q0g {n : Int} {v : Vl} {r : Vr} {k : Nat} (hn : IsFm n) (B : h0o n v r k) : c0f n 1 (a0b (a0c (numT v.neg (numX r.x k).1 (numX r.x k).2))) = 0 ∧ outP n 1 (a0b (a0c (numT v.neg (numX r.x k).1 (numX r.x k).2))) = strR n (d0f (fmt n) r.x k) := by
 have h : c0f n 1 (a0b (a0c (numT v.neg (numX r.x k).1 (numX r.x k).2))) = 0 := by unfold c0f; rw [if_pos hn, if_pos B.er, B.eq]
 have ho := B.out
 unfold outQ at ho
 rw [if_pos B.eq] at ho
 refine ⟨h, ?_⟩
 unfold outP
 rw [if_pos h, B.rt, ho]
theorem j1w {n : Int} {v : Vl} {r : Vr} {k : Nat} (B : h0o n v r k) (h : okX (fmt n) r.x k = true) : decP n (strR n (d0f (fmt n) r.x k)) = v := by
 have hs := B.same
 rw [h] at hs
 obtain ⟨q1, q2, q3, q4⟩ := oTr hs
 generalize decP n (strR n (d0f (fmt n) r.x k)) = u at *
 obtain ⟨a, b, c, d⟩ := v
 obtain ⟨a', b', c', d'⟩ := u
 simp only at q1 q2 q3 q4
 subst q1 q2 q3 q4
 rfl
theorem z0t {n : Int} {s : ByteArray} (h : b0y n s = 0) (hc : (decP n s).cls = 2) : a0w n s = 0 ∧ (refD n s).cls = 2 ∧ a0v (refD n s).x (fmt n).g = true ∧ d0a n s = a0c (numT (decP n s).neg (numX (refD n s).x (c0r (fmt n) (refD n s).x)).1 (numX (refD n s).x (c0r (fmt n) (refD n s).x)).2) := by
 have h0 : a0w n s = 0 := by
  by_cases h0 : a0w n s = 0
  · exact h0
  · rw [u0x h0] at hc; cases hc
 have V := g0d h0
 have hc2 : (refD n s).cls = 2 := by rw [← V.cls]; exact hc
 have hin : a0v (refD n s).x (fmt n).g = true := by
  have h1 := h
  unfold b0y at h1
  rw [if_pos h0] at h1
  cases hi : a0v (refD n s).x (fmt n).g
  · rw [if_pos ⟨hc2, hi⟩] at h1; cases h1
  · rfl
 refine ⟨h0, hc2, hin, ?_⟩
 unfold d0a u0v
 rw [if_pos h, if_pos hc2, V.neg]
theorem g1l {n : Int} {s : ByteArray} (h0 : a0w n s = 0) (hc : (refD n s).cls = 2) (hin : a0v (refD n s).x (fmt n).g = true) :
 1 ≤ c0r (fmt n) (refD n s).x ∧ c0r (fmt n) (refD n s).x ≤ 21 ∧ okX (fmt n) (refD n s).x (c0r (fmt n) (refD n s).x) = true ∧ ∀ j, 1 ≤ j → j < c0r (fmt n) (refD n s).x → okX (fmt n) (refD n s).x j = false := by
 have hn := (b0f.1 h0).1
 exact o0a (c0i hn).g (f1j hn) (h0m (s := s) hn).ok.bare hin (j0v h0 hc).x0
theorem u0y {n : Int} {s : ByteArray} {k : Nat} (h0 : a0w n s = 0) (hc : (refD n s).cls = 2) (hk : 1 ≤ k ∧ k ≤ 60) : c0u n k s = 0 ∧ e0r n k s = a0c (numT (decP n s).neg (numX (refD n s).x k).1 (numX (refD n s).x k).2) := by
 have h1 : c0u n k s = 0 := by unfold c0u; rw [if_pos h0, if_neg (by omega)]
 refine ⟨h1, ?_⟩
 unfold e0r z0o
 rw [if_pos h1, if_pos hc, Int.toNat_natCast, (g0d h0).neg]
theorem u0z (n : Int) (s : ByteArray) (w : World) (hT : TabW w) (hP : PowW w) : Calls Tryz.prog 7 #[.int .i64 n, .string s] w fun en w' => en = .returned (.bool true) ∧ Below w.heap.size w w' := by
 have HB := fun W h h2 => hi0 (h0n W h h2)
 have HS := fun W h h2 => hi0 (i0j n s W h h2)
 have HC := fun W h => hi0 (q0f n s W h)
 have HD := fun W h => hi0 (e0j n s W h)
 have hK := @z0t n s
 have hs2 := @g1l n s
 have hPr := @u0y n s
 have hBk := fun k h0 hc hin hk => g1d (n := n) (s := s) (k := k) h0 hc hin hk
 have hN := fun h0 hc => j0v (n := n) (s := s) h0 hc
 have hF : a0w n s = 0 → VrOk (refD n s) := fun h => (h0m (n := n) (s := s) (b0f.1 h).1).ok
 have hn : a0w n s = 0 → IsFm n := fun h => (b0f.1 h).1
 have HPr := fun k W h h2 => hi0 (u0t n k s W h h2)
 generalize b0y n s = es at *
 generalize d0a n s = ts at *
 generalize refD n s = r at *
 generalize decP n s = v at *
 generalize a0w n s = er at *
 have HCh := fun W (h : IsFm n) => hi0 (x0m n W h)
 have HPa := fun (k : Nat) (hn : IsFm n) (B : h0o n v r k) W h => hi0 (by
   have h := l0r n (a0c (numT v.neg (numX r.x k).1 (numX r.x k).2)) 1 W h
   obtain ⟨q1, q2⟩ := q0g hn B
   rw [q1, q2] at h
   exact h : Calls Tryz.prog 15 #[.int .i64 n, .string (a0c (numT v.neg (numX r.x k).1 (numX r.x k).2)), .int .i64 1] W fun en w' => en = .returned (.tuple #[.string (strR n (d0f (fmt n) r.x k)), .int .i64 ((flP' n 1 (a0b (a0c (numT v.neg (numX r.x k).1 (numX r.x k).2))) : Nat) : Int), .int .i64 0]) ∧ Below W.heap.size W w')
 have HD2 := fun (k : Nat) (B : h0o n v r k) (h : okX (fmt n) r.x k = true) W h2 => hi0 (by
   have h2 := e0j n (strR n (d0f (fmt n) r.x k)) W h2
   rw [B.pat, j1w B h] at h2
   exact h2 : Calls Tryz.prog 28 #[.int .i64 n, .string (strR n (d0f (fmt n) r.x k))] W (s0h W v 0))
 have HSv := fun (N : NumV (fmt n) v r) p q c d b1 b2 W h1 h2 => hi0 (by
   have h := o0n v v p q c d b1 b2 W h1 h2 (by have := N.len; omega) (by have := N.len; omega)
   rw [decide_eq_true (show v.cls = v.cls ∧ v.neg = v.neg ∧ v.pow = v.pow ∧ v.d = v.d from ⟨rfl, rfl, rfl, rfl⟩)] at h
   exact h : Calls Tryz.prog 30 #[.agg #[.int .i64 (v.cls : Int), .bool v.neg, .slice p (dig B32 v.d).length c, .int .i64 v.pow], .agg #[.int .i64 (v.cls : Int), .bool v.neg, .slice q (dig B32 v.d).length d, .int .i64 v.pow]] W fun en w' => en = .returned (.bool true) ∧ Below W.heap.size W w')
 have I := Inv.start w [tabF, powF] ⟨hT, hP, True.intro⟩
 refine a0h [.v (.int .i64 n), .v (.string s)] I Tryz.func7 ?_
 refine zq I (fun Al W I => (HB W I.fa.1 I.fa.2.1).out) fun Al W I => ?_
 refine zq I (fun Al W I => (HS W I.fa.1 I.fa.2.1).out) fun Al W I => ?_
 rcases Bool.eq_false_or_eq_true (es != 0) with f28 | f28
 · refine zb I 28 (es != 0) (true) (f28) fun Al W I => ?_
   exact zrb I
 refine zb I 28 (es != 0) (false) (f28) fun Al W I => ?_
 refine zq I (fun Al W I => (HC W I.fa.1).out) fun Al W I => ?_
 rcases Bool.eq_false_or_eq_true ((v.cls : Int) != 2) with f33 | f33
 · refine zb I 33 ((v.cls : Int) != 2) (true) (f33) fun Al W I => ?_
   exact zrb I
 refine zb I 33 ((v.cls : Int) != 2) (false) (f33) fun Al W I => ?_
 have hes : es = 0 := bne_eq_false_iff_eq.1 f28
 have hc : v.cls = 2 := by have := bne_eq_false_iff_eq.1 f33; omega
 obtain ⟨h0, hr, hin, rfl⟩ := hK hes hc
 subst h0
 have hn := hn rfl
 obtain ⟨k1, k2, k3, _⟩ := hs2 rfl hr hin
 obtain ⟨m1, m2, m3⟩ := j1u hn
 have N := hN rfl hr
 have B1 := hBk _ rfl hr hin ⟨k1, by omega⟩
 have B2 := hBk _ rfl hr hin ⟨m2, m3⟩
 have k4 : okX (fmt n) r.x (x0n n) = true := by unfold okX; rw [y0v (c0a (c0i hn).g) (hF rfl).bare hin N.x0 m1]; simp
 generalize c0r (fmt n) r.x = K at *
 obtain ⟨j, j1, j2, j3⟩ := j1v hn
 have HPr2 := HPr ((x0n n : Nat) : Int)
 obtain ⟨z1, z2⟩ := hPr rfl hr ⟨m2, m3⟩
 rw [z1, z2] at HPr2
 generalize x0n n = M at *
 refine zqo I (fun Al W I => (HD W I.fa.1).out) fun Al W p38 c38 I => ?_
 refine zq I (fun Al W I => (HPa K hn B1 W I.fa.2.1).out) fun Al W I => ?_
 refine zlb I 48 9 3 #[.int .i64 0, .int .i64 9, .int .i64 17, .int .i64 21, .int .i64 9, .int .i64 18, .int .i64 9, .int .i64 18, .int .i64 17] fun Al W bk I => ?_
 refine zq I (fun Al W I => (HCh W hn).out) fun Al W I => ?_
 refine zx I 51 (fun _ => .pointer (some (at_ (some ⟨bk, 0, none⟩) j))) (fun Al W I => (ixT j1 (m := j) (n := 9) (c := 9) tvI (fun _ => ⟨rfl, rfl⟩) j2)) fun Al W I => ?_
 refine zx I 52 (fun _ => .int .i64 (M : Int)) (fun Al W I => (n1k I.fa.1 q1u _ j3)) fun Al W I => ?_
 refine zq I (fun Al W I => (HPr2 W I.fa.2.2.1 I.fa.2.2.2.1).out) fun Al W I => ?_
 refine zq I (fun Al W I => (HPa M hn B2 W I.fa.2.2.1).out) fun Al W I => ?_
 refine zqo I (fun Al W I => (HD2 K B1 k3 W I.fa.2.2.1).out) fun Al W p84 c84 I => ?_
 refine zqo I (fun Al W I => (HD2 M B2 k4 W I.fa.2.2.2.1).out) fun Al W p90 c90 I => ?_
 refine zq I (fun Al W I => (HSv N p38 p84 c38 c84 _ _ W I.fa.2.2.2.1 I.fa.2.1).out) fun Al W I => ?_
 refine zq I (fun Al W I => (HSv N p38 p90 c38 c90 _ _ W I.fa.2.2.2.1 I.fa.1).out) fun Al W I => ?_
 exact zrb I
theorem j1x {n : Int} {s : ByteArray} {k : Nat} (h0 : a0w n s = 0) (hc : (refD n s).cls = 2) (hk : 1 ≤ k) (w : World) :
 (Calls Tryz.prog 31 #[.string (a0c (numT (decP n s).neg (numX (refD n s).x k).1 (numX (refD n s).x k).2))] w fun en w' => en = .returned (.tuple #[.bool (decP n s).neg, .string (a0c (numX (refD n s).x k).1), .int .i64 ((numX (refD n s).x k).2 - ((k - 1 : Nat) : Int)), .bool true]) ∧ Below w.heap.size w w') ∨ 60 < k := by
 rcases Nat.lt_or_ge 60 k with h | h
 · exact .inr h
 · left
   have hn := (b0f.1 h0).1
   have F := (h0m (s := s) hn).ok
   have N := j0v h0 hc
   have A := g0c (k := k) N.x0 F.len hk
   have B := s0i (k := k) N.x0 F.len ⟨F.lo, F.hi⟩ hk
   have hby := z0q (g := (decP n s).neg) (p := (numX (refD n s).x k).2) (m0m A.2.1)
   have hl := z0r (g := (decP n s).neg) (s := (numX (refD n s).x k).1) (p := (numX (refD n s).x k).2) (by omega) (by omega)
   have hq := t0m (neg := (decP n s).neg) A.1 hk A.2.1 (show -100000 < (numX (refD n s).x k).2 ∧ (numX (refD n s).x k).2 < 100000 by omega)
   refine (j0f (a0c (numT (decP n s).neg (numX (refD n s).x k).1 (numX (refD n s).x k).2)) w (by rw [a0o]; omega)).mono ?_
   rintro en w' ⟨g, ds, pw, ok, he, ⟨h1, h2⟩, hb⟩
   rw [a0s hby, hq] at h1
   cases ok
   · rw [if_neg (by simp)] at h1; cases h1
   · rw [if_pos rfl] at h1
     injection h1 with h1
     injection h1 with h3 h4 h5
     rw [he, ← h3, ← h4, ← h5]
     exact ⟨rfl, hb⟩
theorem l0s (n : Int) (s : ByteArray) (w : World) (hT : TabW w) (hP : PowW w) : Calls Tryz.prog 8 #[.int .i64 n, .string s] w fun en w' => en = .returned (.bool true) ∧ Below w.heap.size w w' := by
 have HB := fun W h h2 => hi0 (h0n W h h2)
 have HS := fun W h h2 => hi0 (i0j n s W h h2)
 have HC := fun W h => hi0 (q0f n s W h)
 have HD := fun W h => hi0 (e0j n s W h)
 have hK := @z0t n s
 have hs2 := @g1l n s
 have hPr := @u0y n s
 have HNm := fun k h0 hc hk (h6 : k ≤ 60) W => hi0 ((j1x (n := n) (s := s) (k := k) h0 hc hk W).elim id (fun h => absurd h6 (by omega)))
 have hBk := fun k h0 hc hin hk => g1d (n := n) (s := s) (k := k) h0 hc hin hk
 have hN := fun h0 hc => j0v (n := n) (s := s) h0 hc
 have hF : a0w n s = 0 → VrOk (refD n s) := fun h => (h0m (n := n) (s := s) (b0f.1 h).1).ok
 have hn : a0w n s = 0 → IsFm n := fun h => (b0f.1 h).1
 have HPr0 := fun k W h h2 => u0t n k s W h h2
 generalize b0y n s = es at *
 generalize d0a n s = ts at *
 generalize refD n s = r at *
 generalize decP n s = v at *
 generalize a0w n s = er at *
 have HPr := fun (i k : Nat) (hi : i = k) (h0 : er = 0) (hc : r.cls = 2) (hk : 1 ≤ k ∧ k ≤ 60) W (h : TabW W) (h2 : PowW W) => hi0 (by
   subst hi
   have h := HPr0 (i : Int) W h h2
   obtain ⟨q1, q2⟩ := hPr h0 hc hk
   rw [q1, q2] at h
   exact h : Calls Tryz.prog 25 #[.int .i64 n, .string s, .int .i64 (i : Int)] W fun en w' => en = .returned (.tuple #[.string (a0c (numT v.neg (numX r.x k).1 (numX r.x k).2)), .int .i64 0]) ∧ Below W.heap.size W w')
 have HPa := fun (k : Nat) (hn : IsFm n) (B : h0o n v r k) W h => hi0 (by
   have h := l0r n (a0c (numT v.neg (numX r.x k).1 (numX r.x k).2)) 1 W h
   obtain ⟨q1, q2⟩ := q0g hn B
   rw [q1, q2] at h
   exact h : Calls Tryz.prog 15 #[.int .i64 n, .string (a0c (numT v.neg (numX r.x k).1 (numX r.x k).2)), .int .i64 1] W fun en w' => en = .returned (.tuple #[.string (strR n (d0f (fmt n) r.x k)), .int .i64 ((flP' n 1 (a0b (a0c (numT v.neg (numX r.x k).1 (numX r.x k).2))) : Nat) : Int), .int .i64 0]) ∧ Below W.heap.size W w')
 have HD2 := fun (k : Nat) (B : h0o n v r k) W h2 => hi0 (by
   have h2 := e0j n (strR n (d0f (fmt n) r.x k)) W h2
   rw [B.pat] at h2
   exact h2 : Calls Tryz.prog 28 #[.int .i64 n, .string (strR n (d0f (fmt n) r.x k))] W (s0h W (decP n (strR n (d0f (fmt n) r.x k))) 0))
 have HSv := fun (N : NumV (fmt n) v r) (k : Nat) (B : h0o n v r k) p q c d b1 b2 W h1 h2 => hi0 (by
   have h := o0n v (decP n (strR n (d0f (fmt n) r.x k))) p q c d b1 b2 W h1 h2 (by have := N.len; omega) (by have := B.len; omega)
   rw [B.same] at h
   exact h : Calls Tryz.prog 30 #[.agg #[.int .i64 (v.cls : Int), .bool v.neg, .slice p (dig B32 v.d).length c, .int .i64 v.pow], .agg #[.int .i64 (((decP n (strR n (d0f (fmt n) r.x k))).cls : Nat) : Int), .bool (decP n (strR n (d0f (fmt n) r.x k))).neg, .slice q (dig B32 (decP n (strR n (d0f (fmt n) r.x k))).d).length d, .int .i64 (decP n (strR n (d0f (fmt n) r.x k))).pow]] W fun en w' => en = .returned (.bool (okX (fmt n) r.x k)) ∧ Below W.heap.size W w')
 clear HPr0
 have I := Inv.start w [tabF, powF] ⟨hT, hP, True.intro⟩
 refine a0h [.v (.int .i64 n), .v (.string s)] I Tryz.func8 ?_
 refine zq I (fun Al W I => (HB W I.fa.1 I.fa.2.1).out) fun Al W I => ?_
 refine zq I (fun Al W I => (HS W I.fa.1 I.fa.2.1).out) fun Al W I => ?_
 rcases Bool.eq_false_or_eq_true (es != 0) with f27 | f27
 · refine zb I 27 (es != 0) (true) (f27) fun Al W I => ?_
   refine zret I (v := fun Al => .bool true) fun Al W I => ?_
   first | exact ⟨by rw [k5]; rfl, I.below⟩ | exact ⟨rfl, I.below⟩
 refine zb I 27 (es != 0) (false) (f27) fun Al W I => ?_
 refine zq I (fun Al W I => (HC W I.fa.1).out) fun Al W I => ?_
 rcases Bool.eq_false_or_eq_true ((v.cls : Int) != 2) with f32 | f32
 · refine zb I 32 ((v.cls : Int) != 2) (true) (f32) fun Al W I => ?_
   refine zret I (v := fun Al => .bool true) fun Al W I => ?_
   first | exact ⟨by rw [k5]; rfl, I.below⟩ | exact ⟨rfl, I.below⟩
 refine zb I 32 ((v.cls : Int) != 2) (false) (f32) fun Al W I => ?_
 have hes : es = 0 := bne_eq_false_iff_eq.1 f27
 have hc : v.cls = 2 := by have := bne_eq_false_iff_eq.1 f32; omega
 obtain ⟨h0, hr, hin, rfl⟩ := hK hes hc
 subst h0
 have hn := hn rfl
 obtain ⟨k1, k2, k3, k4⟩ := hs2 rfl hr hin
 have N := hN rfl hr
 have hsz : (a0c (numX r.x (c0r (fmt n) r.x)).1).size = c0r (fmt n) r.x := by rw [a0o]; exact (g0c N.x0 (hF rfl).len k1).1
 generalize c0r (fmt n) r.x = K at *
 refine zq I (fun Al W I => have hzW := I.bel.size; (HNm K rfl hr k1 (by omega) W).out) fun Al W I => ?_
 refine zq I (fun Al W I => have hzW := I.bel.size; (HPr _ K hsz rfl hr (by omega) W I.fa.1 I.fa.2.1).out) fun Al W I => ?_
 refine zbin I 58 _ (fun _ _ _ _ _ => (z0h (s := a0c (numT v.neg (numX r.x K).1 (numX r.x K).2)) (r := a0c (numT v.neg (numX r.x K).1 (numX r.x K).2)) (iff_of_true rfl rfl))) fun Al W I => ?_
 rcases Bool.eq_false_or_eq_true (decide ((((a0c (numX r.x K).1).size : Nat) : Int) < 2)) with f62 | f62
 · refine zb I 62 (decide ((((a0c (numX r.x K).1).size : Nat) : Int) < 2)) (true) (f62) fun Al W I => ?_
   refine zret I (v := fun Al => .bool true) fun Al W I => ?_
   first | exact ⟨by rw [k5]; rfl, I.below⟩ | exact ⟨rfl, I.below⟩
 refine zb I 62 (decide ((((a0c (numX r.x K).1).size : Nat) : Int) < 2)) (false) (f62) fun Al W I => ?_
 refine zi I 68 .i64 ((((a0c (numX r.x K).1).size : Nat) : Int) - 1) (((K - 1 : Nat) : Int)) ((by rw [hsz, show (K : Int) - 1 = ((K - 1 : Nat) : Int) by have := oFa f62; rw [hsz] at this; omega]; exact iwo)) fun Al W I => ?_
 have hK2 : 2 ≤ K := by have := oFa f62; rw [hsz] at this; omega
 have B := hBk (K - 1) rfl hr hin (by omega)
 have k5 := k4 (K - 1) (by omega) (by omega)
 refine zq I (fun Al W I => have hzW := I.bel.size; (HPr (K - 1) (K - 1) rfl rfl hr (by omega) W I.fa.1 I.fa.2.1).out) fun Al W I => ?_
 refine zq I (fun Al W I => (HPa (K - 1) hn B W I.fa.1).out) fun Al W I => ?_
 refine zqo I (fun Al W I => (HD W I.fa.1).out) fun Al W p82 c82 I => ?_
 refine zqo I (fun Al W I => (HD2 (K - 1) B W I.fa.2.1).out) fun Al W p98 c98 I => ?_
 refine zq I (fun Al W I => (HSv N (K - 1) B p82 p98 c82 c98 _ _ W I.fa.2.1 I.fa.1).out) fun Al W I => ?_
 refine zret I (v := fun Al => .bool (!(okX (fmt n) r.x (K - 1)))) fun Al W I => ?_
 first | exact ⟨by rw [k5]; rfl, I.below⟩ | exact ⟨rfl, I.below⟩
end Go.Proofs.YtbamiajjampgnaaGreatDoor
