/- How the types of the frame laws open. -/
import Derived.Test.YtodbaadcpgkbdaaTy
namespace Go.Proofs.Ytodbaadcpgkbdaa.C
open Go.RowKit
theorem opens5 : Opens Try.prog 5 Ty.u8 := opens_u8 Try.underlying5 (by kernel_rfl)
theorem opensB : Opens Try.prog 22 (Ty.slice Ty.u8) := opens_slice Try.underlying22 (by kernel_rfl) opens5 (by decide)
theorem opensBB : Opens Try.prog 36 (Ty.slice (Ty.slice Ty.u8)) := opens_slice Try.underlying36 (by kernel_rfl) opensB (by decide)
end Go.Proofs.Ytodbaadcpgkbdaa.C
