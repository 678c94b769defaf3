/- The library's sort at another kind of integers: lines of the worked walks over toys so, turned by program. -/
import Derived.Test.YtaggadjiefgpoaaGreatDoorProg
import Derived.Lib.Walk
import Derived.Sort.Row
import Derived.Lib.Strings
namespace Go.Proofs.Eff.Sa

set_option maxHeartbeats 1000000 in
theorem So.cmp_isNaN_int (x : Int) (w : World) : Calls Tryz.prog 196 #[.int .u32 x] w fun e w' => e = .returned (.bool false) ∧ w' = w := by
  go_enter Tryz.func196, Tryz.ntmps196
  go_wp2
  go_ret
  exact ⟨by simp, rfl⟩

set_option maxHeartbeats 1000000 in
/-- cmp.Less[int]: IT RETURNS 'Sort.ltInt x y'; the world is as it was. -/
theorem So.cmp_Less_int (x y : Int) (w : World) : Calls Tryz.prog 161 #[.int .u32 x, .int .u32 y] w fun e w' => e = .returned (.bool (Sort.ltInt x y)) ∧ w' = w := by
  go_enter Tryz.func161, Tryz.ntmps161
  go_wp2_with (go_at_call 196; refine (So.cmp_isNaN_int _ _).mono ?_; rintro e w' ⟨rfl, rfl⟩)
  go_ret
  exact ⟨rfl, rfl⟩

end Go.Proofs.Eff.Sa

/- The library's sort at another kind of integers: lines of the worked walks over toys so, turned by program. -/
namespace Go.Proofs.Eff.Sb

set_option maxHeartbeats 1000000 in
theorem So.cmp_isNaN_int (x : Int) (w : World) : Calls Tryz.prog 200 #[.int .u64 x] w fun e w' => e = .returned (.bool false) ∧ w' = w := by
  go_enter Tryz.func200, Tryz.ntmps200
  go_wp2
  go_ret
  exact ⟨by simp, rfl⟩

set_option maxHeartbeats 1000000 in
/-- cmp.Less[int]: IT RETURNS 'Sort.ltInt x y'; the world is as it was. -/
theorem So.cmp_Less_int (x y : Int) (w : World) : Calls Tryz.prog 175 #[.int .u64 x, .int .u64 y] w fun e w' => e = .returned (.bool (Sort.ltInt x y)) ∧ w' = w := by
  go_enter Tryz.func175, Tryz.ntmps175
  go_wp2_with (go_at_call 200; refine (So.cmp_isNaN_int _ _).mono ?_; rintro e w' ⟨rfl, rfl⟩)
  go_ret
  exact ⟨rfl, rfl⟩

end Go.Proofs.Eff.Sb
