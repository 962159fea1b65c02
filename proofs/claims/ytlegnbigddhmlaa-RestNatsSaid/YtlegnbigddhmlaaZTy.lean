/- The slice types of this translation: 'SlTy' of each. -/
import Derived.Test.YtlegnbigddhmlaaZB
import Derived.Test.YtlegnbigddhmlaaProg
import Derived.KernelRfl
namespace Go.Proofs.Ytlegnbigddhmlaa
open Go.RowKit Go.Slip

theorem tyOf {P : Program} {t e : TypeId} {k : IntKind} {bytes : Nat} (h1 : P.underlying t = some (.slice e))
    (h2 : (P.info? e).map (fun i => (i.zero, i.size, i.bytes)) = some (some (.int k 0), 1, bytes)) (h3 : bytes ≤ 8) : SlTy P t e k bytes := by
  refine ⟨h1, ?_, h3⟩
  cases h : P.info? e with
  | none => rw [h] at h2; simp at h2
  | some i => rw [h] at h2; simp at h2; exact ⟨i, rfl, h2.1, h2.2.1, h2.2.2⟩

theorem tyNat : SlTy Try.prog 23 26 .u32 4 := tyOf (by kernel_rfl) (by kernel_rfl) (by omega)

theorem tyN : SlTy Try.prog 37 3 .i64 8 := tyOf (by kernel_rfl) (by kernel_rfl) (by omega)

theorem tyBytes : SlTy Try.prog 72 5 .u8 1 := tyOf (by kernel_rfl) (by kernel_rfl) (by omega)

end Go.Proofs.Ytlegnbigddhmlaa
