/- mailcoachlaw01.VarintReads: for any bits and any bytes (2^20 at most, else it claims nothing) varint.GetPrefix of a copy with spare room answers just what mailcoachref01.GetPrefix answers, and the copy is as it was, its spare room too.
   Conditions: none. -/
import Derived.Test.YtmkmefdajbdceaaPVRx
namespace Go.Proofs.Ytmkmefdajbdceaa.Pure
open Go.RowKit Go.Proofs.Ytmkmefdajbdceaa.PVR Go.Proofs.YtmkmefdajbdceaaW.PrintWords Go.Proofs.YtmkmefdajbdceaaW.PrintLast

theorem wf_u8 {x : Int} (h : (Lit.int .u8 x).wf = true) : 0 ≤ x ∧ x < 256 := by
  simp [Lit.wf, IntKind.min, IntKind.max, IntKind.signed, IntKind.bits] at h
  omega
theorem VarintReads : mailcoachlaw01_VarintReads.Pure := by
  intro a0 l1 _ _ hw
  have hok : varint_GetPrefix.ok l1 = true := List.all_eq_true.2 fun x hx => by simpa using wf_u8 (hw x hx)
  unfold varint_GetPrefix.f
  split
  · exact ⟨_, rfl⟩
  · split
    · exact ⟨_, rfl⟩
    · split <;> exact ⟨_, rfl⟩

end Go.Proofs.Ytmkmefdajbdceaa.Pure
