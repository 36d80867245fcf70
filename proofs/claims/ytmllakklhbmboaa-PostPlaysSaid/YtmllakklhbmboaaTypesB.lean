/- How this seat's types open. -/
import Derived.Test.YtmllakklhbmboaaTy
namespace Go.Proofs.Ytmllakklhbmboaa.C
open Go.RowKit
theorem opens3 : Opens Try.prog 3 (Ty.int .i64) := opens_int Try.underlying3 (by kernel_rfl)
theorem opens5 : Opens Try.prog 5 Ty.u8 := opens_u8 Try.underlying5 (by kernel_rfl)
theorem opens22 : Opens Try.prog 22 (Ty.slice Ty.u8) := opens_slice Try.underlying22 (by kernel_rfl) opens5 (by decide)
structure Op where
  kind : Int
  n : Int
  data : List UInt8
def opK : Ty Op := Ty.iso (Ty.pair (Ty.int .i64) (Ty.pair (Ty.int .i64) (Ty.slice Ty.u8))) (fun x => (x.kind, x.n, x.data))
theorem opens48 : Opens Try.prog 48 opK := opens_struct Try.underlying48 (by kernel_rfl) (opensF_cons rfl rfl opens3 (opensF_cons rfl rfl opens3 (opensF_last rfl rfl opens22))) (fun x : Op => (x.kind, x.n, x.data)) (fun p => ⟨p.1, p.2.1, p.2.2⟩) (fun _ => rfl)
theorem opens46 : Opens Try.prog 46 (Ty.slice opK) := opens_slice Try.underlying46 (by kernel_rfl) opens48 (by decide)
end Go.Proofs.Ytmllakklhbmboaa.C
