/- The pure statement of WordHandles: Handle and Unhandle of the program answer as the reference's. No condition. -/
import Derived.Test.YtkiofmbecjfanaaPWordHandlesx1
import Derived.Test.YtkiofmbecjfanaaWordMath
namespace Go.Proofs.Ytkiofmbecjfanaa.Pure
open Go.RowKit Go.Proofs.Ytkiofmbecjfanaa.PWordHandles Go.Proofs.YtkiofmbecjfanaaW.PrintWords Go.Proofs.YtkiofmbecjfanaaW.PrintLast

theorem WordHandles : shutterlaw01_WordHandles.Pure := by
  intro a0 a1 a2 w0 w1 w2
  obtain ⟨h1, h2⟩ := bounds_u64 w1
  obtain ⟨h3, h4⟩ := bounds_u64 w2
  refine ⟨2, ?_⟩
  unfold shutterlaw01_WordHandles.f
  rw [Math.handle_p (by omega) (by omega), Math.handle_r (by omega) (by omega), Math.unhandle_p (by omega) (by omega), Math.unhandle_r (by omega) (by omega), Math.live_true' 0]
  simp

end Go.Proofs.Ytkiofmbecjfanaa.Pure
