/- The pure statement of WordChildren: Child and Split of the program answer as the reference's. No condition. -/
import Derived.Test.YtkiofmbecjfanaaPWordChildrenx1
import Derived.Test.YtkiofmbecjfanaaWordMath
namespace Go.Proofs.Ytkiofmbecjfanaa.Pure
open Go.RowKit Go.Proofs.Ytkiofmbecjfanaa.PWordChildren Go.Proofs.YtkiofmbecjfanaaW.PrintWords Go.Proofs.YtkiofmbecjfanaaW.PrintLast

theorem WordChildren : shutterlaw01_WordChildren.Pure := by
  intro a0 a1 a2 w0 w1 w2
  obtain ⟨h1, h2⟩ := bounds_u64 w1
  obtain ⟨h3, h4⟩ := bounds_u64 w2
  refine ⟨2, ?_⟩
  unfold shutterlaw01_WordChildren.f
  rw [Math.child_p (k := 0) (by omega) (by omega), Math.child_r (k := 0) (by omega) (by omega), Math.split_p (by omega) (by omega), Math.split_r (by omega) (by omega), Math.live_true 0]
  simp

end Go.Proofs.Ytkiofmbecjfanaa.Pure
