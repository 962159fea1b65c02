/- From what a row says of an argument to what the walks ask: a slice of digits that came in reads as a list. -/
import Derived.Test.YtlegnbigddhmlaaZTy
import Derived.ProofKit
import Derived.OpenShut
import Derived.ShutString
import Derived.ChangeOld
import Derived.Below
namespace Go.Proofs.Ytlegnbigddhmlaa
open Go.RowKit Go.Slip

theorem cell_spot {w : World} {a : Addr} {v : Value} (h : w.cell? a = some v) : a.spot = none := by
  unfold World.cell? at h
  split at h
  · split at h
    · cases h
    · rename_i hs; simpa using hs
  · cases h

/-- A slice of unsigned 32-bit numbers that came in. -/
theorem rd_of_cells {w : World} {x : Addr} {len : Nat} {zs : List Int} (hl : len ≤ zs.length) (hc : ∀ i, i < zs.length → w.cell? (x.add i) = some (.int .u32 (zs.getD i 0))) (hw : ∀ n ∈ zs, (Lit.int .u32 n).wf = true) :
    ∃ xs : List Nat, Rd w .u32 (some x) xs ∧ len = xs.length ∧ ∀ d ∈ xs, d < B32 := by
  have hb : ∀ n ∈ zs, 0 ≤ n ∧ n < 4294967296 := by
    intro n hn
    have h := hw n hn
    simp [Lit.wf, IntKind.min, IntKind.max, IntKind.signed, IntKind.bits] at h
    omega
  refine ⟨(zs.take len).map Int.toNat, ⟨fun h0 => ?_, fun j hj => ?_⟩, by simp; omega, fun d hd => ?_⟩
  · simp at h0
    have h1 := hc 0 (by omega)
    refine ⟨rfl, ?_⟩
    have h2 := cell_spot h1
    simpa [Addr.add] using h2
  · simp only [List.length_map, List.length_take] at hj
    have hjz : j < zs.length := by omega
    have hspot : x.spot = none := by
      have h2 := cell_spot (hc 0 (by omega))
      simpa [Addr.add] using h2
    have hat : at_ (some x) j = x.add j := by
      unfold at_ Addr.add
      split
      · rename_i h0; subst h0; cases x; simp_all
      · rfl
    rw [hat, hc j hjz]
    have h1 : dg ((zs.take len).map Int.toNat) j = (zs.getD j 0).toNat := by
      rw [dg_of_lt (by simp; omega)]
      simp [List.getD, hjz]
    rw [h1]
    have h2 := hb (zs.getD j 0) (by rw [List.getD, List.getElem?_eq_getElem hjz]; exact List.getElem_mem hjz)
    rw [Int.toNat_of_nonneg h2.1]
  · obtain ⟨n, hn, rfl⟩ := List.mem_map.1 hd
    have := hb n (List.mem_of_mem_take hn)
    unfold B32; omega

theorem ownKnobTry : ownKnob Try.prog.godebug = none := by kernel_rfl
theorem laidOutTry : laidOutB Try.prog = true := by kernel_rfl

end Go.Proofs.Ytlegnbigddhmlaa
