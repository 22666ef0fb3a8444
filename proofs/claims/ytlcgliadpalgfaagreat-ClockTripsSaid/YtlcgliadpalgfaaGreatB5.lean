/- The types of this program, as a table for the abstract machine. Printed by wip/tables.py. -/
import Derived.Calls
import Derived.Laws.Entries
import Derived.Laws.Cells
import Derived.Laws.BitsLemmas
import Derived.Laws.Slices
import Derived.Laws.StructEq
import Derived.ChangeKeysEq
import Derived.Laws.CopyRow
import Derived.Laws.AppendOwn
import Derived.Orders
import Derived.Test.YtlcgliadpalgfaaGreatRows
import Derived.Test.YtlcgliadpalgfaaGreatB0
import Derived.Test.YtlcgliadpalgfaaGreatB1
import Derived.Test.YtlcgliadpalgfaaGreatB2
import Derived.Test.YtlcgliadpalgfaaGreatB3
import Derived.Test.YtlcgliadpalgfaaGreatB4
set_option linter.unusedSimpArgs false
set_option linter.unusedVariables false
namespace Go.Proofs.YtlcgliadpalgfaaGreat.Vm
open Go Go.Proofs
set_option maxRecDepth 100000

def ti3 : Option TI := some { k := .int .i64, agg := false, size := 1, bytes := 8, zero := some (.int .i64 0) }
theorem ti3_ok : tiOf Tryz.prog 3 = ti3 := by kernel_rfl
theorem un3_ok : Tryz.prog.underlying 3 = some (.int .i64) := by kernel_rfl
def ti4 : Option TI := some { k := .bool, agg := false, size := 1, bytes := 1, zero := some (.bool false) }
theorem ti4_ok : tiOf Tryz.prog 4 = ti4 := by kernel_rfl
theorem un4_ok : Tryz.prog.underlying 4 = some (.bool) := by kernel_rfl
def ti5 : Option TI := some { k := .int .u8, agg := false, size := 1, bytes := 1, zero := some (.int .u8 0) }
theorem ti5_ok : tiOf Tryz.prog 5 = ti5 := by kernel_rfl
theorem un5_ok : Tryz.prog.underlying 5 = some (.int .u8) := by kernel_rfl
def ti9 : Option TI := some { k := .string, agg := false, size := 1, bytes := 16, zero := some (.string ⟨#[]⟩) }
theorem ti9_ok : tiOf Tryz.prog 9 = ti9 := by kernel_rfl
theorem un9_ok : Tryz.prog.underlying 9 = some (.string) := by kernel_rfl
def ti22 : Option TI := some { k := .slice 75 2 32, agg := false, size := 1, bytes := 24, zero := some (.slice none 0 0) }
theorem ti22_ok : tiOf Tryz.prog 22 = ti22 := by kernel_rfl
theorem un22_ok : Tryz.prog.underlying 22 = some (.slice 75) := by kernel_rfl
def ti23 : Option TI := some { k := .slice 28 3 40, agg := false, size := 1, bytes := 24, zero := some (.slice none 0 0) }
theorem ti23_ok : tiOf Tryz.prog 23 = ti23 := by kernel_rfl
theorem un23_ok : Tryz.prog.underlying 23 = some (.slice 28) := by kernel_rfl
def ti25 : Option TI := some { k := .struct [some (0, 1, false), some (1, 1, false), some (2, 1, false), some (3, 1, false), some (4, 1, false)], agg := true, size := 5, bytes := 88, zero := some (.agg #[.slice none 0 0, .slice none 0 0, .slice none 0 0, .int .i64 0, .int .i64 0]) }
theorem ti25_ok : tiOf Tryz.prog 25 = ti25 := by kernel_rfl
def ti26 : Option TI := some { k := .slice 123 4 32, agg := false, size := 1, bytes := 24, zero := some (.slice none 0 0) }
theorem ti26_ok : tiOf Tryz.prog 26 = ti26 := by kernel_rfl
theorem un26_ok : Tryz.prog.underlying 26 = some (.slice 123) := by kernel_rfl
def ti28 : Option TI := some { k := .struct [some (0, 1, false), some (1, 1, false), some (2, 1, false)], agg := true, size := 3, bytes := 40, zero := some (.agg #[.int .i64 0, .int .i64 0, .slice none 0 0]) }
theorem ti28_ok : tiOf Tryz.prog 28 = ti28 := by kernel_rfl
def ti29 : Option TI := some { k := .slice 3 1 8, agg := false, size := 1, bytes := 24, zero := some (.slice none 0 0) }
theorem ti29_ok : tiOf Tryz.prog 29 = ti29 := by kernel_rfl
theorem un29_ok : Tryz.prog.underlying 29 = some (.slice 3) := by kernel_rfl
def ti32 : Option TI := some { k := .ptr, agg := false, size := 1, bytes := 8, zero := some (.pointer none) }
theorem ti32_ok : tiOf Tryz.prog 32 = ti32 := by kernel_rfl
def ti36 : Option TI := some { k := .slice 25 5 88, agg := false, size := 1, bytes := 24, zero := some (.slice none 0 0) }
theorem ti36_ok : tiOf Tryz.prog 36 = ti36 := by kernel_rfl
theorem un36_ok : Tryz.prog.underlying 36 = some (.slice 25) := by kernel_rfl
def ti37 : Option TI := some { k := .func, agg := false, size := 1, bytes := 8, zero := some (.nilFunc) }
theorem ti37_ok : tiOf Tryz.prog 37 = ti37 := by kernel_rfl
def ti39 : Option TI := some { k := .int .i64, agg := false, size := 1, bytes := 8, zero := some (.int .i64 0) }
theorem ti39_ok : tiOf Tryz.prog 39 = ti39 := by kernel_rfl
theorem un39_ok : Tryz.prog.underlying 39 = some (.int .i64) := by kernel_rfl
def ti42 : Option TI := some { k := .slice 87 3 24, agg := false, size := 1, bytes := 24, zero := some (.slice none 0 0) }
theorem ti42_ok : tiOf Tryz.prog 42 = ti42 := by kernel_rfl
theorem un42_ok : Tryz.prog.underlying 42 = some (.slice 87) := by kernel_rfl
def ti50 : Option TI := some { k := .slice 52 3 24, agg := false, size := 1, bytes := 24, zero := some (.slice none 0 0) }
theorem ti50_ok : tiOf Tryz.prog 50 = ti50 := by kernel_rfl
theorem un50_ok : Tryz.prog.underlying 50 = some (.slice 52) := by kernel_rfl
def ti52 : Option TI := some { k := .struct [some (0, 1, false), some (1, 1, false), some (2, 1, false)], agg := true, size := 3, bytes := 24, zero := some (.agg #[.int .i64 0, .int .i64 0, .int .i64 0]) }
theorem ti52_ok : tiOf Tryz.prog 52 = ti52 := by kernel_rfl
theorem eqOk52_ok : eqOk Tryz.prog 52 3 = true := by decide +kernel
def ti54 : Option TI := some { k := .slice 50 1 24, agg := false, size := 1, bytes := 24, zero := some (.slice none 0 0) }
theorem ti54_ok : tiOf Tryz.prog 54 = ti54 := by kernel_rfl
theorem un54_ok : Tryz.prog.underlying 54 = some (.slice 50) := by kernel_rfl
def ti55 : Option TI := some { k := .slice 89 3 24, agg := false, size := 1, bytes := 24, zero := some (.slice none 0 0) }
theorem ti55_ok : tiOf Tryz.prog 55 = ti55 := by kernel_rfl
theorem un55_ok : Tryz.prog.underlying 55 = some (.slice 89) := by kernel_rfl
def ti60 : Option TI := some { k := .struct [some (0, 1, false), some (1, 1, false)], agg := true, size := 2, bytes := 16, zero := some (.agg #[.int .i64 0, .int .i64 0]) }
theorem ti60_ok : tiOf Tryz.prog 60 = ti60 := by kernel_rfl
theorem eqOk60_ok : eqOk Tryz.prog 60 2 = true := by decide +kernel
def ti66 : Option TI := some { k := .slice 29 1 24, agg := false, size := 1, bytes := 24, zero := some (.slice none 0 0) }
theorem ti66_ok : tiOf Tryz.prog 66 = ti66 := by kernel_rfl
theorem un66_ok : Tryz.prog.underlying 66 = some (.slice 29) := by kernel_rfl
def ti73 : Option TI := some { k := .slice 142 2 16, agg := false, size := 1, bytes := 24, zero := some (.slice none 0 0) }
theorem ti73_ok : tiOf Tryz.prog 73 = ti73 := by kernel_rfl
theorem un73_ok : Tryz.prog.underlying 73 = some (.slice 142) := by kernel_rfl
def ti75 : Option TI := some { k := .struct [some (0, 1, false), some (1, 1, false)], agg := true, size := 2, bytes := 32, zero := some (.agg #[.int .i64 0, .slice none 0 0]) }
theorem ti75_ok : tiOf Tryz.prog 75 = ti75 := by kernel_rfl
def ti80 : Option TI := some { k := .slice 60 2 16, agg := false, size := 1, bytes := 24, zero := some (.slice none 0 0) }
theorem ti80_ok : tiOf Tryz.prog 80 = ti80 := by kernel_rfl
theorem un80_ok : Tryz.prog.underlying 80 = some (.slice 60) := by kernel_rfl
def ti87 : Option TI := some { k := .struct [some (0, 1, false), some (1, 1, false), some (2, 1, false)], agg := true, size := 3, bytes := 24, zero := some (.agg #[.int .i64 0, .int .i64 0, .int .i64 0]) }
theorem ti87_ok : tiOf Tryz.prog 87 = ti87 := by kernel_rfl
theorem eqOk87_ok : eqOk Tryz.prog 87 3 = true := by decide +kernel
def ti89 : Option TI := some { k := .struct [some (0, 1, false), some (1, 1, false), some (2, 1, false)], agg := true, size := 3, bytes := 24, zero := some (.agg #[.int .i64 0, .int .i64 0, .int .i64 0]) }
theorem ti89_ok : tiOf Tryz.prog 89 = ti89 := by kernel_rfl
theorem eqOk89_ok : eqOk Tryz.prog 89 3 = true := by decide +kernel
def ti90 : Option TI := some { k := .int .u64, agg := false, size := 1, bytes := 8, zero := some (.int .u64 0) }
theorem ti90_ok : tiOf Tryz.prog 90 = ti90 := by kernel_rfl
theorem un90_ok : Tryz.prog.underlying 90 = some (.int .u64) := by kernel_rfl
def ti92 : Option TI := some { k := .struct [some (0, 1, false)], agg := true, size := 1, bytes := 8, zero := some (.agg #[.int .u64 0]) }
theorem ti92_ok : tiOf Tryz.prog 92 = ti92 := by kernel_rfl
theorem eqOk92_ok : eqOk Tryz.prog 92 1 = true := by decide +kernel
def ti93 : Option TI := some { k := .int .u64, agg := false, size := 1, bytes := 8, zero := some (.int .u64 0) }
theorem ti93_ok : tiOf Tryz.prog 93 = ti93 := by kernel_rfl
theorem un93_ok : Tryz.prog.underlying 93 = some (.int .u64) := by kernel_rfl
def ti101 : Option TI := some { k := .func, agg := false, size := 1, bytes := 8, zero := some (.nilFunc) }
theorem ti101_ok : tiOf Tryz.prog 101 = ti101 := by kernel_rfl
def ti102 : Option TI := some { k := .func, agg := false, size := 1, bytes := 8, zero := some (.nilFunc) }
theorem ti102_ok : tiOf Tryz.prog 102 = ti102 := by kernel_rfl
def ti105 : Option TI := some { k := .struct [some (0, 3, true), some (3, 1, false), some (4, 1, false)], agg := true, size := 5, bytes := 72, zero := some (.agg #[.int .i64 0, .int .i64 0, .slice none 0 0, .int .i64 0, .slice none 0 0]) }
theorem ti105_ok : tiOf Tryz.prog 105 = ti105 := by kernel_rfl
def ti111 : Option TI := some { k := .func, agg := false, size := 1, bytes := 8, zero := some (.nilFunc) }
theorem ti111_ok : tiOf Tryz.prog 111 = ti111 := by kernel_rfl
def ti117 : Option TI := some { k := .slice 23 1 24, agg := false, size := 1, bytes := 24, zero := some (.slice none 0 0) }
theorem ti117_ok : tiOf Tryz.prog 117 = ti117 := by kernel_rfl
theorem un117_ok : Tryz.prog.underlying 117 = some (.slice 23) := by kernel_rfl
def ti123 : Option TI := some { k := .struct [some (0, 1, false), some (1, 1, false), some (2, 1, false), some (3, 1, false)], agg := true, size := 4, bytes := 32, zero := some (.agg #[.int .i64 0, .int .i64 0, .int .i64 0, .int .i64 0]) }
theorem ti123_ok : tiOf Tryz.prog 123 = ti123 := by kernel_rfl
theorem eqOk123_ok : eqOk Tryz.prog 123 4 = true := by decide +kernel
def ti132 : Option TI := some { k := .func, agg := false, size := 1, bytes := 8, zero := some (.nilFunc) }
theorem ti132_ok : tiOf Tryz.prog 132 = ti132 := by kernel_rfl
def ti135 : Option TI := some { k := .slice 138 3 24, agg := false, size := 1, bytes := 24, zero := some (.slice none 0 0) }
theorem ti135_ok : tiOf Tryz.prog 135 = ti135 := by kernel_rfl
theorem un135_ok : Tryz.prog.underlying 135 = some (.slice 138) := by kernel_rfl
def ti138 : Option TI := some { k := .struct [some (0, 1, false), some (1, 1, false), some (2, 1, false)], agg := true, size := 3, bytes := 24, zero := some (.agg #[.int .i64 0, .int .i64 0, .int .i64 0]) }
theorem ti138_ok : tiOf Tryz.prog 138 = ti138 := by kernel_rfl
theorem eqOk138_ok : eqOk Tryz.prog 138 3 = true := by decide +kernel
def ti139 : Option TI := some { k := .int .i64, agg := false, size := 1, bytes := 8, zero := some (.int .i64 0) }
theorem ti139_ok : tiOf Tryz.prog 139 = ti139 := by kernel_rfl
theorem un139_ok : Tryz.prog.underlying 139 = some (.int .i64) := by kernel_rfl
def ti142 : Option TI := some { k := .struct [some (0, 1, false), some (1, 1, false)], agg := true, size := 2, bytes := 16, zero := some (.agg #[.int .i64 0, .int .i64 0]) }
theorem ti142_ok : tiOf Tryz.prog 142 = ti142 := by kernel_rfl
theorem eqOk142_ok : eqOk Tryz.prog 142 2 = true := by decide +kernel
def ti145 : Option TI := some { k := .func, agg := false, size := 1, bytes := 8, zero := some (.nilFunc) }
theorem ti145_ok : tiOf Tryz.prog 145 = ti145 := by kernel_rfl
def ti149 : Option TI := some { k := .func, agg := false, size := 1, bytes := 8, zero := some (.nilFunc) }
theorem ti149_ok : tiOf Tryz.prog 149 = ti149 := by kernel_rfl
def ti150 : Option TI := some { k := .array 3 2, agg := true, size := 6, bytes := 48, zero := some (.agg #[.int .i64 0, .int .i64 0, .int .i64 0, .int .i64 0, .int .i64 0, .int .i64 0]) }
theorem ti150_ok : tiOf Tryz.prog 150 = ti150 := by kernel_rfl
theorem eqOk150_ok : eqOk Tryz.prog 150 6 = true := by decide +kernel
def ti152 : Option TI := some { k := .struct [some (0, 1, false), some (1, 1, false), some (2, 6, true)], agg := true, size := 8, bytes := 64, zero := some (.agg #[.int .i64 0, .int .i64 0, .int .i64 0, .int .i64 0, .int .i64 0, .int .i64 0, .int .i64 0, .int .i64 0]) }
theorem ti152_ok : tiOf Tryz.prog 152 = ti152 := by kernel_rfl
theorem eqOk152_ok : eqOk Tryz.prog 152 8 = true := by decide +kernel
def ti155 : Option TI := some { k := .map, agg := false, size := 1, bytes := 8, zero := some (.map none) }
theorem ti155_ok : tiOf Tryz.prog 155 = ti155 := by kernel_rfl
theorem un155_ok : Tryz.prog.underlying 155 = some (.map 3 4) := by kernel_rfl
def ti159 : Option TI := some { k := .func, agg := false, size := 1, bytes := 8, zero := some (.nilFunc) }
theorem ti159_ok : tiOf Tryz.prog 159 = ti159 := by kernel_rfl
def ti161 : Option TI := some { k := .slice 164 3 24, agg := false, size := 1, bytes := 24, zero := some (.slice none 0 0) }
theorem ti161_ok : tiOf Tryz.prog 161 = ti161 := by kernel_rfl
theorem un161_ok : Tryz.prog.underlying 161 = some (.slice 164) := by kernel_rfl
def ti164 : Option TI := some { k := .struct [some (0, 1, false), some (1, 1, false), some (2, 1, false)], agg := true, size := 3, bytes := 24, zero := some (.agg #[.int .i64 0, .int .i64 0, .int .i64 0]) }
theorem ti164_ok : tiOf Tryz.prog 164 = ti164 := by kernel_rfl
theorem eqOk164_ok : eqOk Tryz.prog 164 3 = true := by decide +kernel
def ti166 : Option TI := some { k := .func, agg := false, size := 1, bytes := 8, zero := some (.nilFunc) }
theorem ti166_ok : tiOf Tryz.prog 166 = ti166 := by kernel_rfl
def ti173 : Option TI := some { k := .int .i64, agg := false, size := 1, bytes := 8, zero := some (.int .i64 0) }
theorem ti173_ok : tiOf Tryz.prog 173 = ti173 := by kernel_rfl
theorem un173_ok : Tryz.prog.underlying 173 = some (.int .i64) := by kernel_rfl
def ti181 : Option TI := some { k := .int .u32, agg := false, size := 1, bytes := 4, zero := some (.int .u32 0) }
theorem ti181_ok : tiOf Tryz.prog 181 = ti181 := by kernel_rfl
theorem un181_ok : Tryz.prog.underlying 181 = some (.int .u32) := by kernel_rfl
def ti183 : Option TI := some { k := .int .u64, agg := false, size := 1, bytes := 8, zero := some (.int .u64 0) }
theorem ti183_ok : tiOf Tryz.prog 183 = ti183 := by kernel_rfl
theorem un183_ok : Tryz.prog.underlying 183 = some (.int .u64) := by kernel_rfl
def ti186 : Option TI := some { k := .ptr, agg := false, size := 1, bytes := 8, zero := some (.pointer none) }
theorem ti186_ok : tiOf Tryz.prog 186 = ti186 := by kernel_rfl
def ti188 : Option TI := some { k := .ptr, agg := false, size := 1, bytes := 8, zero := some (.pointer none) }
theorem ti188_ok : tiOf Tryz.prog 188 = ti188 := by kernel_rfl

def tbTi (t : TypeId) : Option TI :=
  bif leN t 90 then
   bif leN t 37 then
    bif leN t 23 then
     bif leN t 5 then
      bif leN t 3 then
       bif eqN t 3 then ti3 else none
      else
       bif leN t 4 then
        bif eqN t 4 then ti4 else none
       else
        bif eqN t 5 then ti5 else none
     else
      bif leN t 9 then
       bif eqN t 9 then ti9 else none
      else
       bif leN t 22 then
        bif eqN t 22 then ti22 else none
       else
        bif eqN t 23 then ti23 else none
    else
     bif leN t 28 then
      bif leN t 25 then
       bif eqN t 25 then ti25 else none
      else
       bif leN t 26 then
        bif eqN t 26 then ti26 else none
       else
        bif eqN t 28 then ti28 else none
     else
      bif leN t 32 then
       bif leN t 29 then
        bif eqN t 29 then ti29 else none
       else
        bif eqN t 32 then ti32 else none
      else
       bif leN t 36 then
        bif eqN t 36 then ti36 else none
       else
        bif eqN t 37 then ti37 else none
   else
    bif leN t 60 then
     bif leN t 50 then
      bif leN t 39 then
       bif eqN t 39 then ti39 else none
      else
       bif leN t 42 then
        bif eqN t 42 then ti42 else none
       else
        bif eqN t 50 then ti50 else none
     else
      bif leN t 54 then
       bif leN t 52 then
        bif eqN t 52 then ti52 else none
       else
        bif eqN t 54 then ti54 else none
      else
       bif leN t 55 then
        bif eqN t 55 then ti55 else none
       else
        bif eqN t 60 then ti60 else none
    else
     bif leN t 75 then
      bif leN t 66 then
       bif eqN t 66 then ti66 else none
      else
       bif leN t 73 then
        bif eqN t 73 then ti73 else none
       else
        bif eqN t 75 then ti75 else none
     else
      bif leN t 87 then
       bif leN t 80 then
        bif eqN t 80 then ti80 else none
       else
        bif eqN t 87 then ti87 else none
      else
       bif leN t 89 then
        bif eqN t 89 then ti89 else none
       else
        bif eqN t 90 then ti90 else none
  else
   bif leN t 142 then
    bif leN t 111 then
     bif leN t 101 then
      bif leN t 92 then
       bif eqN t 92 then ti92 else none
      else
       bif leN t 93 then
        bif eqN t 93 then ti93 else none
       else
        bif eqN t 101 then ti101 else none
     else
      bif leN t 102 then
       bif eqN t 102 then ti102 else none
      else
       bif leN t 105 then
        bif eqN t 105 then ti105 else none
       else
        bif eqN t 111 then ti111 else none
    else
     bif leN t 132 then
      bif leN t 117 then
       bif eqN t 117 then ti117 else none
      else
       bif leN t 123 then
        bif eqN t 123 then ti123 else none
       else
        bif eqN t 132 then ti132 else none
     else
      bif leN t 138 then
       bif leN t 135 then
        bif eqN t 135 then ti135 else none
       else
        bif eqN t 138 then ti138 else none
      else
       bif leN t 139 then
        bif eqN t 139 then ti139 else none
       else
        bif eqN t 142 then ti142 else none
   else
    bif leN t 161 then
     bif leN t 150 then
      bif leN t 145 then
       bif eqN t 145 then ti145 else none
      else
       bif leN t 149 then
        bif eqN t 149 then ti149 else none
       else
        bif eqN t 150 then ti150 else none
     else
      bif leN t 155 then
       bif leN t 152 then
        bif eqN t 152 then ti152 else none
       else
        bif eqN t 155 then ti155 else none
      else
       bif leN t 159 then
        bif eqN t 159 then ti159 else none
       else
        bif eqN t 161 then ti161 else none
    else
     bif leN t 173 then
      bif leN t 164 then
       bif eqN t 164 then ti164 else none
      else
       bif leN t 166 then
        bif eqN t 166 then ti166 else none
       else
        bif eqN t 173 then ti173 else none
     else
      bif leN t 183 then
       bif leN t 181 then
        bif eqN t 181 then ti181 else none
       else
        bif eqN t 183 then ti183 else none
      else
       bif leN t 186 then
        bif eqN t 186 then ti186 else none
       else
        bif eqN t 188 then ti188 else none
def tbUn (t : TypeId) : Option TypeDesc :=
  bif leN t 54 then
   bif leN t 23 then
    bif leN t 5 then
     bif leN t 3 then
      bif eqN t 3 then some (.int .i64) else none
     else
      bif leN t 4 then
       bif eqN t 4 then some (.bool) else none
      else
       bif eqN t 5 then some (.int .u8) else none
    else
     bif leN t 9 then
      bif eqN t 9 then some (.string) else none
     else
      bif leN t 22 then
       bif eqN t 22 then some (.slice 75) else none
      else
       bif eqN t 23 then some (.slice 28) else none
   else
    bif leN t 36 then
     bif leN t 26 then
      bif eqN t 26 then some (.slice 123) else none
     else
      bif leN t 29 then
       bif eqN t 29 then some (.slice 3) else none
      else
       bif eqN t 36 then some (.slice 25) else none
    else
     bif leN t 42 then
      bif leN t 39 then
       bif eqN t 39 then some (.int .i64) else none
      else
       bif eqN t 42 then some (.slice 87) else none
     else
      bif leN t 50 then
       bif eqN t 50 then some (.slice 52) else none
      else
       bif eqN t 54 then some (.slice 50) else none
  else
   bif leN t 117 then
    bif leN t 73 then
     bif leN t 55 then
      bif eqN t 55 then some (.slice 89) else none
     else
      bif leN t 66 then
       bif eqN t 66 then some (.slice 29) else none
      else
       bif eqN t 73 then some (.slice 142) else none
    else
     bif leN t 90 then
      bif leN t 80 then
       bif eqN t 80 then some (.slice 60) else none
      else
       bif eqN t 90 then some (.int .u64) else none
     else
      bif leN t 93 then
       bif eqN t 93 then some (.int .u64) else none
      else
       bif eqN t 117 then some (.slice 23) else none
   else
    bif leN t 155 then
     bif leN t 135 then
      bif eqN t 135 then some (.slice 138) else none
     else
      bif leN t 139 then
       bif eqN t 139 then some (.int .i64) else none
      else
       bif eqN t 155 then some (.map 3 4) else none
    else
     bif leN t 173 then
      bif leN t 161 then
       bif eqN t 161 then some (.slice 164) else none
      else
       bif eqN t 173 then some (.int .i64) else none
     else
      bif leN t 181 then
       bif eqN t 181 then some (.int .u32) else none
      else
       bif eqN t 183 then some (.int .u64) else none
def tbEq (t : TypeId) (n : Nat) : Bool :=
  bif leN t 92 then
   bif leN t 60 then
    bif leN t 52 then
     bif eqN t 52 then eqN n 3 else false
    else
     bif eqN t 60 then eqN n 2 else false
   else
    bif leN t 87 then
     bif eqN t 87 then eqN n 3 else false
    else
     bif leN t 89 then
      bif eqN t 89 then eqN n 3 else false
     else
      bif eqN t 92 then eqN n 1 else false
  else
   bif leN t 142 then
    bif leN t 123 then
     bif eqN t 123 then eqN n 4 else false
    else
     bif leN t 138 then
      bif eqN t 138 then eqN n 3 else false
     else
      bif eqN t 142 then eqN n 2 else false
   else
    bif leN t 150 then
     bif eqN t 150 then eqN n 6 else false
    else
     bif leN t 152 then
      bif eqN t 152 then eqN n 8 else false
     else
      bif eqN t 164 then eqN n 3 else false
def tb : Tb := { ti := tbTi, un := tbUn, eqs := tbEq }

theorem lookT {α : Type} {b : Bool} {x y : α} {r : α} {C : Prop} (hx : x = r → C) (hy : y = r → C) : (bif b then x else y) = r → C := fun h => by
  cases b
  · exact hy h
  · exact hx h
theorem look {α : Type} {f : Nat → Option α} {t k : Nat} {e : Option α} {i : α} (hk : f k = e) : (bif eqN t k then e else none) = some i → f t = some i := fun h => by
  cases hb : eqN t k
  · rw [hb] at h; cases h
  · rw [hb] at h
    rw [eqN_ok hb]
    exact hk.trans h
theorem lookE {t k n m : Nat} {C : Nat → Nat → Prop} (hk : C k m) : (bif eqN t k then eqN n m else false) = true → C t n := fun h => by
  cases hb : eqN t k
  · rw [hb] at h; cases h
  · rw [hb] at h
    rw [eqN_ok hb, eqN_ok h]
    exact hk

theorem tbTi_ok (t : TypeId) (i : TI) : tbTi t = some i → tiOf Tryz.prog t = some i :=
  (lookT (lookT (lookT (lookT (lookT (look (f := tiOf Tryz.prog) ti3_ok) (lookT (look (f := tiOf Tryz.prog) ti4_ok) (look (f := tiOf Tryz.prog) ti5_ok))) (lookT (look (f := tiOf Tryz.prog) ti9_ok) (lookT (look (f := tiOf Tryz.prog) ti22_ok) (look (f := tiOf Tryz.prog) ti23_ok)))) (lookT (lookT (look (f := tiOf Tryz.prog) ti25_ok) (lookT (look (f := tiOf Tryz.prog) ti26_ok) (look (f := tiOf Tryz.prog) ti28_ok))) (lookT (lookT (look (f := tiOf Tryz.prog) ti29_ok) (look (f := tiOf Tryz.prog) ti32_ok)) (lookT (look (f := tiOf Tryz.prog) ti36_ok) (look (f := tiOf Tryz.prog) ti37_ok))))) (lookT (lookT (lookT (look (f := tiOf Tryz.prog) ti39_ok) (lookT (look (f := tiOf Tryz.prog) ti42_ok) (look (f := tiOf Tryz.prog) ti50_ok))) (lookT (lookT (look (f := tiOf Tryz.prog) ti52_ok) (look (f := tiOf Tryz.prog) ti54_ok)) (lookT (look (f := tiOf Tryz.prog) ti55_ok) (look (f := tiOf Tryz.prog) ti60_ok)))) (lookT (lookT (look (f := tiOf Tryz.prog) ti66_ok) (lookT (look (f := tiOf Tryz.prog) ti73_ok) (look (f := tiOf Tryz.prog) ti75_ok))) (lookT (lookT (look (f := tiOf Tryz.prog) ti80_ok) (look (f := tiOf Tryz.prog) ti87_ok)) (lookT (look (f := tiOf Tryz.prog) ti89_ok) (look (f := tiOf Tryz.prog) ti90_ok)))))) (lookT (lookT (lookT (lookT (look (f := tiOf Tryz.prog) ti92_ok) (lookT (look (f := tiOf Tryz.prog) ti93_ok) (look (f := tiOf Tryz.prog) ti101_ok))) (lookT (look (f := tiOf Tryz.prog) ti102_ok) (lookT (look (f := tiOf Tryz.prog) ti105_ok) (look (f := tiOf Tryz.prog) ti111_ok)))) (lookT (lookT (look (f := tiOf Tryz.prog) ti117_ok) (lookT (look (f := tiOf Tryz.prog) ti123_ok) (look (f := tiOf Tryz.prog) ti132_ok))) (lookT (lookT (look (f := tiOf Tryz.prog) ti135_ok) (look (f := tiOf Tryz.prog) ti138_ok)) (lookT (look (f := tiOf Tryz.prog) ti139_ok) (look (f := tiOf Tryz.prog) ti142_ok))))) (lookT (lookT (lookT (look (f := tiOf Tryz.prog) ti145_ok) (lookT (look (f := tiOf Tryz.prog) ti149_ok) (look (f := tiOf Tryz.prog) ti150_ok))) (lookT (lookT (look (f := tiOf Tryz.prog) ti152_ok) (look (f := tiOf Tryz.prog) ti155_ok)) (lookT (look (f := tiOf Tryz.prog) ti159_ok) (look (f := tiOf Tryz.prog) ti161_ok)))) (lookT (lookT (look (f := tiOf Tryz.prog) ti164_ok) (lookT (look (f := tiOf Tryz.prog) ti166_ok) (look (f := tiOf Tryz.prog) ti173_ok))) (lookT (lookT (look (f := tiOf Tryz.prog) ti181_ok) (look (f := tiOf Tryz.prog) ti183_ok)) (lookT (look (f := tiOf Tryz.prog) ti186_ok) (look (f := tiOf Tryz.prog) ti188_ok)))))))
theorem tbUn_ok (t : TypeId) (d : TypeDesc) : tbUn t = some d → Tryz.prog.underlying t = some d :=
  (lookT (lookT (lookT (lookT (look (f := Tryz.prog.underlying) un3_ok) (lookT (look (f := Tryz.prog.underlying) un4_ok) (look (f := Tryz.prog.underlying) un5_ok))) (lookT (look (f := Tryz.prog.underlying) un9_ok) (lookT (look (f := Tryz.prog.underlying) un22_ok) (look (f := Tryz.prog.underlying) un23_ok)))) (lookT (lookT (look (f := Tryz.prog.underlying) un26_ok) (lookT (look (f := Tryz.prog.underlying) un29_ok) (look (f := Tryz.prog.underlying) un36_ok))) (lookT (lookT (look (f := Tryz.prog.underlying) un39_ok) (look (f := Tryz.prog.underlying) un42_ok)) (lookT (look (f := Tryz.prog.underlying) un50_ok) (look (f := Tryz.prog.underlying) un54_ok))))) (lookT (lookT (lookT (look (f := Tryz.prog.underlying) un55_ok) (lookT (look (f := Tryz.prog.underlying) un66_ok) (look (f := Tryz.prog.underlying) un73_ok))) (lookT (lookT (look (f := Tryz.prog.underlying) un80_ok) (look (f := Tryz.prog.underlying) un90_ok)) (lookT (look (f := Tryz.prog.underlying) un93_ok) (look (f := Tryz.prog.underlying) un117_ok)))) (lookT (lookT (look (f := Tryz.prog.underlying) un135_ok) (lookT (look (f := Tryz.prog.underlying) un139_ok) (look (f := Tryz.prog.underlying) un155_ok))) (lookT (lookT (look (f := Tryz.prog.underlying) un161_ok) (look (f := Tryz.prog.underlying) un173_ok)) (lookT (look (f := Tryz.prog.underlying) un181_ok) (look (f := Tryz.prog.underlying) un183_ok))))))
theorem tbEq_ok (t n : Nat) : tbEq t n = true → eqOk Tryz.prog t n = true :=
  (lookT (lookT (lookT (lookE (C := fun t n => eqOk Tryz.prog t n = true) eqOk52_ok) (lookE (C := fun t n => eqOk Tryz.prog t n = true) eqOk60_ok)) (lookT (lookE (C := fun t n => eqOk Tryz.prog t n = true) eqOk87_ok) (lookT (lookE (C := fun t n => eqOk Tryz.prog t n = true) eqOk89_ok) (lookE (C := fun t n => eqOk Tryz.prog t n = true) eqOk92_ok)))) (lookT (lookT (lookE (C := fun t n => eqOk Tryz.prog t n = true) eqOk123_ok) (lookT (lookE (C := fun t n => eqOk Tryz.prog t n = true) eqOk138_ok) (lookE (C := fun t n => eqOk Tryz.prog t n = true) eqOk142_ok))) (lookT (lookE (C := fun t n => eqOk Tryz.prog t n = true) eqOk150_ok) (lookT (lookE (C := fun t n => eqOk Tryz.prog t n = true) eqOk152_ok) (lookE (C := fun t n => eqOk Tryz.prog t n = true) eqOk164_ok)))))
theorem hT : tb.Of ((fun _ => Tryz.prog : Unit → Program) ()) := ⟨tbTi_ok, tbUn_ok, tbEq_ok⟩
theorem hm : ((fun _ => Tryz.prog : Unit → Program) ()).follows .mixedOrders = true := by decide +kernel
/-- The table, with flags. -/
def tbF (kp rs : Bool) : Tb := { tb with kp, rs }
theorem hTF (kp rs : Bool) : (tbF kp rs).Of ((fun _ => Tryz.prog : Unit → Program) ()) := ⟨tbTi_ok, tbUn_ok, tbEq_ok⟩
end Go.Proofs.YtlcgliadpalgfaaGreat.Vm
