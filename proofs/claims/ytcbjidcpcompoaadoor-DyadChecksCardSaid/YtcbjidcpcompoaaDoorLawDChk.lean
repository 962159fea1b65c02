/- The law DyadChecks: its walk. -/
import Derived.Test.YtcbjidcpcompoaaDoorLawD1
import Derived.Test.YtcbjidcpcompoaaDoorRDy1
namespace Go.Proofs.YtcbjidcpcompoaaDoor
open Go.RowKit Go.Slip

set_option maxHeartbeats 2000000 in
theorem lawDChk_any (a : Din) (w : World) (ha : InD w a) (hT : TabW w) :
    Calls Tryd.prog 4 #[.agg #[.bool a.g, .slice a.p a.xs.length a.c, .int .i64 a.e]] w fun e w' => e = .returned (.bool true) ∧ Below w.heap.size w w' := by
  obtain ⟨W1, hW1⟩ : ∃ W1, W1 = w.alloc (.cells #[.bool a.g, .slice a.p a.xs.length a.c, .int .i64 a.e] 25) := ⟨_, rfl⟩
  have hs1 : Below w.heap.size w W1 := by rw [hW1]; exact (Below.refl _ _).alloc (Nat.le_refl _) _
  have A1 : Box3 W1 w.heap.size (.bool a.g) (.slice a.p a.xs.length a.c) (.int .i64 a.e) := by rw [hW1]; exact box3_new w _ _ _ _
  have ha1 := ha.past hs1
  have hT1 := hT.past hs1
  have HC := fun W h => Lib.hid (dyCheckOne_any a W h ha.len)
  have HD := fun W h => Lib.hid (refCheckDyad_any a W h ha.len)
  obtain ⟨er, her⟩ : ∃ er, errDy a = er := ⟨_, rfl⟩
  simp only [her] at HC HD
  clear her
  have HW1 := Lib.hid hW1
  clear hW1
  have t1 : (er == er) = true := by simp
  go_enter Tryd.func4, Tryd.ntmps4
  go_wp2_with fail
  rw [← HW1.out]
  clear HW1
  go_region_held3 (fun w' => w'.cell? ⟨w.heap.size, 0, none⟩ = some (.bool a.g) ∧ w'.cell? ⟨w.heap.size, 1, none⟩ = some (.slice a.p a.xs.length a.c) ∧ w'.cell? ⟨w.heap.size, 2, none⟩ = some (.int .i64 a.e))
    (first
           | exact ⟨(((A1.drew.past hb2).past hb3).past hb4).c0, (((A1.drew.past hb2).past hb3).past hb4).c1, (((A1.drew.past hb2).past hb3).past hb4).c2⟩
           | exact ⟨((A1.drew.past hb2).past hb3).c0, ((A1.drew.past hb2).past hb3).c1, ((A1.drew.past hb2).past hb3).c2⟩
           | exact ⟨((A1.drew.past hb2).past hb4).c0, ((A1.drew.past hb2).past hb4).c1, ((A1.drew.past hb2).past hb4).c2⟩
           | exact ⟨(A1.drew.past hb2).c0, (A1.drew.past hb2).c1, (A1.drew.past hb2).c2⟩
           | exact ⟨A1.drew.c0, A1.drew.c1, A1.drew.c2⟩
           | exact ⟨A1.c0, A1.c1, A1.c2⟩)
    (first
      | (go_at_call 17; refine (dyadBegun_any _ hT1.drew).mono ?_; rintro e2 w2 ⟨rfl, hb2⟩)
      | (go_at_call 19; refine (HC _ ?_).out.mono ?_; (first | exact (ha1.drew.past hb2).rd | exact ((ha1.drew.past hb2).past hb4).rd); rintro e3 w3 ⟨rfl, hb3⟩)
      | (go_at_call 20; refine (HD _ ?_).out.mono ?_; (first | exact (ha1.drew.past hb2).rd | exact ((ha1.drew.past hb2).past hb3).rd); rintro e4 w4 ⟨rfl, hb4⟩))
  all_goals (go_wp2_with fail)
  all_goals go_ret
  all_goals (first
    | exact ⟨rfl, ((hs1.drew.trans (hb2.mono hs1.size)).trans (hb3.mono (Nat.le_trans hs1.size hb2.size))).trans (hb4.mono (Nat.le_trans (Nat.le_trans hs1.size hb2.size) hb3.size))⟩
    | exact ⟨rfl, ((hs1.drew.trans (hb2.mono hs1.size)).trans (hb4.mono (Nat.le_trans hs1.size hb2.size))).trans (hb3.mono (Nat.le_trans (Nat.le_trans hs1.size hb2.size) hb4.size))⟩)

end Go.Proofs.YtcbjidcpcompoaaDoor
