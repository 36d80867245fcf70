/- slices.Grow of ranges is the library's (written by lay-plain.mjs out of one row 'shelf_lay_g Lays8.n4 Nm8 4 at Try 42', names turned). -/
import Derived.Shelf.Spec.SlicesGrow
import Derived.Test.YtoojifcpjbakgaaProg
namespace Go.Proofs
open Go.Shelf
def Ytoojifcpjbakgaa.Cl.growRg_ren : Go.Shelf.Ren := ⟨fun | 4 => 42 | n => n, fun | 22 => 24 | 25 => 46 | 3 => 3 | 4 => 4 | 9 => 9 | 20 => 20 | 0 => 0 | 2 => 3 | n => n, fun | n => n⟩
theorem Ytoojifcpjbakgaa.Cl.growRg : Go.Proofs.Lays8.n4 Try.prog Ytoojifcpjbakgaa.Cl.growRg_ren := {
  mixed := by kernel_rfl
  f4 := ⟨Try.f42.name, by decide, Try.func42.trans (congrArg some (by kernel_rfl))⟩
  t0 := Try.underlying0
  a0 := Try.isAgg0
  z0 := Try.sizeOf0
  v0 := Try.zeroValue0
  t3 := Try.underlying3
  a3 := Try.isAgg3
  z3 := Try.sizeOf3
  v3 := Try.zeroValue3
  t4 := Try.underlying4
  a4 := Try.isAgg4
  z4 := Try.sizeOf4
  v4 := Try.zeroValue4
  t9 := Try.underlying9
  a9 := Try.isAgg9
  z9 := Try.sizeOf9
  v9 := Try.zeroValue9
  t20 := Try.underlying20
  a20 := Try.isAgg20
  z20 := Try.sizeOf20
  v20 := Try.zeroValue20
  t22 := Try.underlying24
  a22 := Try.isAgg24
  z22 := Try.sizeOf24
  v22 := Try.zeroValue24 }
end Go.Proofs
