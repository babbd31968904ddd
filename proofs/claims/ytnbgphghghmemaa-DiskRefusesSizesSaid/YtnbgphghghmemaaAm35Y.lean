/- The numbers at which the kit's contracts of maps.Clone hold in this program (printed by layclone.py). -/
import Derived.Test.YtnbgphghghmemaaAmClone
import Derived.Test.YtnbgphghghmemaaProg
namespace Go.Proofs
open Go.RowKit Go.Maps Go.Sort Go.Shelf
def Try.clone53_ren : Go.Shelf.Ren := ⟨fun | 5 => 53 | 7 => 62 | n => n, fun | 23 => 68 | 25 => 3 | 3 => 74 | 4 => 4 | 20 => 20 | n => n, fun | n => n⟩
theorem Try.clone53 : Go.Proofs.SlLaysW.n5 Try.prog Try.clone53_ren := {
  mixed := by kernel_rfl,
  f5 := ⟨Try.f53.name, by decide, Try.func53.trans (congrArg some (by kernel_rfl))⟩,
  f7 := Try.func62.trans (congrArg some (by kernel_rfl)),
  t4 := Try.underlying4,
  a4 := Try.isAgg4,
  z4 := Try.sizeOf4,
  v4 := Try.zeroValue4,
  t20 := Try.underlying20,
  a20 := Try.isAgg20,
  z20 := Try.sizeOf20,
  v20 := Try.zeroValue20,
  t23 := Try.underlying68,
  a23 := Try.isAgg68,
  z23 := Try.sizeOf68,
  v23 := Try.zeroValue68 }
def Try.clone54_ren : Go.Shelf.Ren := ⟨fun | 5 => 54 | 7 => 62 | n => n, fun | 23 => 69 | 25 => 3 | 3 => 4 | 4 => 4 | 20 => 20 | n => n, fun | n => n⟩
theorem Try.clone54 : Go.Proofs.SlLaysW.n5 Try.prog Try.clone54_ren := {
  mixed := by kernel_rfl,
  f5 := ⟨Try.f54.name, by decide, Try.func54.trans (congrArg some (by kernel_rfl))⟩,
  f7 := Try.func62.trans (congrArg some (by kernel_rfl)),
  t4 := Try.underlying4,
  a4 := Try.isAgg4,
  z4 := Try.sizeOf4,
  v4 := Try.zeroValue4,
  t20 := Try.underlying20,
  a20 := Try.isAgg20,
  z20 := Try.sizeOf20,
  v20 := Try.zeroValue20,
  t23 := Try.underlying69,
  a23 := Try.isAgg69,
  z23 := Try.sizeOf69,
  v23 := Try.zeroValue69 }
end Go.Proofs
