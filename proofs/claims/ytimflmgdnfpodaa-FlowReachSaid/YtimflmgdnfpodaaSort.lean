/- The library's sort, at this program: it is the shelf's. -/
import Derived.Shelf.Sort.Plain
import Derived.KernelRfl
import Derived.Test.YtimflmgdnfpodaaProg
namespace Go.Proofs.YtimflmgdnfpodaaSort
open Go.Shelf
def ren : Go.Shelf.Ren := ⟨fun n => match n with
    | 125 => 41
    | 128 => 52
    | 129 => 53
    | 189 => 36
    | 215 => 59
    | 216 => 49
    | 257 => 40
    | 294 => 43
    | 295 => 44
    | 296 => 45
    | 297 => 46
    | 298 => 47
    | 299 => 48
    | 300 => 50
    | 301 => 51
    | 328 => 54
    | 329 => 55
    | 330 => 56
    | 331 => 57
    | 332 => 58
    | 343 => 60
    | n => n, fun n => match n with
    | 0 => 0
    | 3 => 3
    | 4 => 4
    | 5 => 5
    | 9 => 9
    | 28 => 24
    | 46 => 69
    | 51 => 81
    | 53 => 83
    | 131 => 78
    | 182 => 72
    | 183 => 73
    | 218 => 84
    | 222 => 88
    | 228 => 90
    | 229 => 91
    | n => n, fun n => n⟩
theorem lays : Lays.n189 Try.prog ren := {
  mixed := by kernel_rfl,
  f125 := by kernel_rfl,
  f128 := by kernel_rfl,
  f129 := by kernel_rfl,
  f189 := by kernel_rfl,
  f215 := by kernel_rfl,
  f216 := by kernel_rfl,
  f257 := by kernel_rfl,
  f294 := by kernel_rfl,
  f295 := by kernel_rfl,
  f296 := by kernel_rfl,
  f297 := by kernel_rfl,
  f298 := by kernel_rfl,
  f299 := by kernel_rfl,
  f300 := by kernel_rfl,
  f301 := by kernel_rfl,
  f328 := by kernel_rfl,
  f329 := by kernel_rfl,
  f330 := by kernel_rfl,
  f331 := by kernel_rfl,
  f332 := by kernel_rfl,
  f343 := by kernel_rfl,
  t0 := by kernel_rfl,
  a0 := fun w => by kernel_rfl,
  z0 := fun w => by kernel_rfl,
  v0 := fun w => by kernel_rfl,
  t3 := by kernel_rfl,
  a3 := fun w => by kernel_rfl,
  z3 := fun w => by kernel_rfl,
  v3 := fun w => by kernel_rfl,
  t4 := by kernel_rfl,
  a4 := fun w => by kernel_rfl,
  z4 := fun w => by kernel_rfl,
  v4 := fun w => by kernel_rfl,
  t5 := by kernel_rfl,
  a5 := fun w => by kernel_rfl,
  z5 := fun w => by kernel_rfl,
  v5 := fun w => by kernel_rfl,
  t9 := by kernel_rfl,
  a9 := fun w => by kernel_rfl,
  z9 := fun w => by kernel_rfl,
  v9 := fun w => by kernel_rfl,
  t28 := by kernel_rfl,
  a28 := fun w => by kernel_rfl,
  z28 := fun w => by kernel_rfl,
  v28 := fun w => by kernel_rfl,
  t46 := by kernel_rfl,
  a46 := fun w => by kernel_rfl,
  z46 := fun w => by kernel_rfl,
  v46 := fun w => by kernel_rfl,
  t51 := by kernel_rfl,
  a51 := fun w => by kernel_rfl,
  z51 := fun w => by kernel_rfl,
  v51 := fun w => by kernel_rfl,
  t53 := by kernel_rfl,
  a53 := fun w => by kernel_rfl,
  z53 := fun w => by kernel_rfl,
  v53 := fun w => by kernel_rfl,
  t131 := by kernel_rfl,
  a131 := fun w => by kernel_rfl,
  z131 := fun w => by kernel_rfl,
  v131 := fun w => by kernel_rfl,
  t182 := by kernel_rfl,
  a182 := fun w => by kernel_rfl,
  z182 := fun w => by kernel_rfl,
  v182 := fun w => by kernel_rfl,
  t183 := by kernel_rfl,
  a183 := fun w => by kernel_rfl,
  z183 := fun w => by kernel_rfl,
  v183 := fun w => by kernel_rfl,
  t218 := by kernel_rfl,
  a218 := fun w => by kernel_rfl,
  z218 := fun w => by kernel_rfl,
  v218 := fun w => by kernel_rfl,
  t222 := by kernel_rfl,
  a222 := fun w => by kernel_rfl,
  z222 := fun w => by kernel_rfl,
  v222 := fun w => by kernel_rfl,
  t228 := by kernel_rfl,
  a228 := fun w => by kernel_rfl,
  z228 := fun w => by kernel_rfl,
  v228 := fun w => by kernel_rfl,
  t229 := by kernel_rfl,
  a229 := fun w => by kernel_rfl,
  z229 := fun w => by kernel_rfl,
  v229 := fun w => by kernel_rfl }
end Go.Proofs.YtimflmgdnfpodaaSort
