/- The types of this program, as a table for the abstract machine. Printed by wip/tables.py. -/
import Derived.Calls
import Derived.Laws.Entries
import Derived.Laws.Cells
import Derived.Laws.BitsLemmas
import Derived.Laws.Slices
import Derived.Laws.StructEq
import Derived.ChangeKeysEq
import Derived.Laws.CopyRow
import Derived.Laws.AppendOwn
import Derived.Orders
import Derived.Test.YtlcgliadpalgfaaRows
import Derived.Test.YtlcgliadpalgfaaB0
import Derived.Test.YtlcgliadpalgfaaB1
import Derived.Test.YtlcgliadpalgfaaB2
import Derived.Test.YtlcgliadpalgfaaB3
import Derived.Test.YtlcgliadpalgfaaB4
set_option linter.unusedSimpArgs false
set_option linter.unusedVariables false
namespace Go.Proofs.Ytlcgliadpalgfaa.Vm
open Go Go.Proofs
set_option maxRecDepth 100000

def ti3 : Option TI := some { k := .int .i64, agg := false, size := 1, bytes := 8, zero := some (.int .i64 0) }
theorem ti3_ok : tiOf Try.prog 3 = ti3 := by kernel_rfl
theorem un3_ok : Try.prog.underlying 3 = some (.int .i64) := by kernel_rfl
def ti4 : Option TI := some { k := .bool, agg := false, size := 1, bytes := 1, zero := some (.bool false) }
theorem ti4_ok : tiOf Try.prog 4 = ti4 := by kernel_rfl
theorem un4_ok : Try.prog.underlying 4 = some (.bool) := by kernel_rfl
def ti35 : Option TI := some { k := .int .i64, agg := false, size := 1, bytes := 8, zero := some (.int .i64 0) }
theorem ti35_ok : tiOf Try.prog 35 = ti35 := by kernel_rfl
theorem un35_ok : Try.prog.underlying 35 = some (.int .i64) := by kernel_rfl
def ti22 : Option TI := some { k := .slice 3 1 8, agg := false, size := 1, bytes := 24, zero := some (.slice none 0 0) }
theorem ti22_ok : tiOf Try.prog 22 = ti22 := by kernel_rfl
theorem un22_ok : Try.prog.underlying 22 = some (.slice 3) := by kernel_rfl
def ti51 : Option TI := some { k := .struct [some (0, 1, false), some (1, 1, false)], agg := true, size := 2, bytes := 32, zero := some (.agg #[.int .i64 0, .slice none 0 0]) }
theorem ti51_ok : tiOf Try.prog 51 = ti51 := by kernel_rfl
def ti28 : Option TI := some { k := .struct [some (0, 1, false), some (1, 1, false), some (2, 1, false), some (3, 1, false), some (4, 1, false)], agg := true, size := 5, bytes := 88, zero := some (.agg #[.slice none 0 0, .slice none 0 0, .slice none 0 0, .int .i64 0, .int .i64 0]) }
theorem ti28_ok : tiOf Try.prog 28 = ti28 := by kernel_rfl
def ti26 : Option TI := some { k := .slice 55 3 40, agg := false, size := 1, bytes := 24, zero := some (.slice none 0 0) }
theorem ti26_ok : tiOf Try.prog 26 = ti26 := by kernel_rfl
theorem un26_ok : Try.prog.underlying 26 = some (.slice 55) := by kernel_rfl
def ti34 : Option TI := some { k := .slice 44 3 24, agg := false, size := 1, bytes := 24, zero := some (.slice none 0 0) }
theorem ti34_ok : tiOf Try.prog 34 = ti34 := by kernel_rfl
theorem un34_ok : Try.prog.underlying 34 = some (.slice 44) := by kernel_rfl
def ti49 : Option TI := some { k := .slice 62 2 16, agg := false, size := 1, bytes := 24, zero := some (.slice none 0 0) }
theorem ti49_ok : tiOf Try.prog 49 = ti49 := by kernel_rfl
theorem un49_ok : Try.prog.underlying 49 = some (.slice 62) := by kernel_rfl
def ti57 : Option TI := some { k := .slice 73 3 24, agg := false, size := 1, bytes := 24, zero := some (.slice none 0 0) }
theorem ti57_ok : tiOf Try.prog 57 = ti57 := by kernel_rfl
theorem un57_ok : Try.prog.underlying 57 = some (.slice 73) := by kernel_rfl
def ti55 : Option TI := some { k := .struct [some (0, 1, false), some (1, 1, false), some (2, 1, false)], agg := true, size := 3, bytes := 40, zero := some (.agg #[.int .i64 0, .int .i64 0, .slice none 0 0]) }
theorem ti55_ok : tiOf Try.prog 55 = ti55 := by kernel_rfl
def ti53 : Option TI := some { k := .slice 92 4 32, agg := false, size := 1, bytes := 24, zero := some (.slice none 0 0) }
theorem ti53_ok : tiOf Try.prog 53 = ti53 := by kernel_rfl
theorem un53_ok : Try.prog.underlying 53 = some (.slice 92) := by kernel_rfl
def ti23 : Option TI := some { k := .ptr, agg := false, size := 1, bytes := 8, zero := some (.pointer none) }
theorem ti23_ok : tiOf Try.prog 23 = ti23 := by kernel_rfl
def ti25 : Option TI := some { k := .slice 51 2 32, agg := false, size := 1, bytes := 24, zero := some (.slice none 0 0) }
theorem ti25_ok : tiOf Try.prog 25 = ti25 := by kernel_rfl
theorem un25_ok : Try.prog.underlying 25 = some (.slice 51) := by kernel_rfl
def ti65 : Option TI := some { k := .slice 96 2 16, agg := false, size := 1, bytes := 24, zero := some (.slice none 0 0) }
theorem ti65_ok : tiOf Try.prog 65 = ti65 := by kernel_rfl
theorem un65_ok : Try.prog.underlying 65 = some (.slice 96) := by kernel_rfl
def ti44 : Option TI := some { k := .struct [some (0, 1, false), some (1, 1, false), some (2, 1, false)], agg := true, size := 3, bytes := 24, zero := some (.agg #[.int .i64 0, .int .i64 0, .int .i64 0]) }
theorem ti44_ok : tiOf Try.prog 44 = ti44 := by kernel_rfl
theorem eqOk44_ok : eqOk Try.prog 44 3 = true := by decide +kernel
def ti105 : Option TI := some { k := .int .u64, agg := false, size := 1, bytes := 8, zero := some (.int .u64 0) }
theorem ti105_ok : tiOf Try.prog 105 = ti105 := by kernel_rfl
theorem un105_ok : Try.prog.underlying 105 = some (.int .u64) := by kernel_rfl
def ti92 : Option TI := some { k := .struct [some (0, 1, false), some (1, 1, false), some (2, 1, false), some (3, 1, false)], agg := true, size := 4, bytes := 32, zero := some (.agg #[.int .i64 0, .int .i64 0, .int .i64 0, .int .i64 0]) }
theorem ti92_ok : tiOf Try.prog 92 = ti92 := by kernel_rfl
theorem eqOk92_ok : eqOk Try.prog 92 4 = true := by decide +kernel
def ti96 : Option TI := some { k := .struct [some (0, 1, false), some (1, 1, false)], agg := true, size := 2, bytes := 16, zero := some (.agg #[.int .i64 0, .int .i64 0]) }
theorem ti96_ok : tiOf Try.prog 96 = ti96 := by kernel_rfl
theorem eqOk96_ok : eqOk Try.prog 96 2 = true := by decide +kernel
def ti30 : Option TI := some { k := .slice 42 3 24, agg := false, size := 1, bytes := 24, zero := some (.slice none 0 0) }
theorem ti30_ok : tiOf Try.prog 30 = ti30 := by kernel_rfl
theorem un30_ok : Try.prog.underlying 30 = some (.slice 42) := by kernel_rfl
def ti62 : Option TI := some { k := .struct [some (0, 1, false), some (1, 1, false)], agg := true, size := 2, bytes := 16, zero := some (.agg #[.int .i64 0, .int .i64 0]) }
theorem ti62_ok : tiOf Try.prog 62 = ti62 := by kernel_rfl
theorem eqOk62_ok : eqOk Try.prog 62 2 = true := by decide +kernel
def ti73 : Option TI := some { k := .struct [some (0, 1, false), some (1, 1, false), some (2, 1, false)], agg := true, size := 3, bytes := 24, zero := some (.agg #[.int .i64 0, .int .i64 0, .int .i64 0]) }
theorem ti73_ok : tiOf Try.prog 73 = ti73 := by kernel_rfl
theorem eqOk73_ok : eqOk Try.prog 73 3 = true := by decide +kernel
def ti152 : Option TI := some { k := .slice 155 3 24, agg := false, size := 1, bytes := 24, zero := some (.slice none 0 0) }
theorem ti152_ok : tiOf Try.prog 152 = ti152 := by kernel_rfl
theorem un152_ok : Try.prog.underlying 152 = some (.slice 155) := by kernel_rfl
def ti42 : Option TI := some { k := .struct [some (0, 1, false), some (1, 1, false), some (2, 1, false)], agg := true, size := 3, bytes := 24, zero := some (.agg #[.int .i64 0, .int .i64 0, .int .i64 0]) }
theorem ti42_ok : tiOf Try.prog 42 = ti42 := by kernel_rfl
theorem eqOk42_ok : eqOk Try.prog 42 3 = true := by decide +kernel
def ti144 : Option TI := some { k := .struct [some (0, 1, false), some (1, 1, false), some (2, 1, false)], agg := true, size := 3, bytes := 24, zero := some (.agg #[.int .i64 0, .int .i64 0, .int .i64 0]) }
theorem ti144_ok : tiOf Try.prog 144 = ti144 := by kernel_rfl
theorem eqOk144_ok : eqOk Try.prog 144 3 = true := by decide +kernel
def ti191 : Option TI := some { k := .int .u64, agg := false, size := 1, bytes := 8, zero := some (.int .u64 0) }
theorem ti191_ok : tiOf Try.prog 191 = ti191 := by kernel_rfl
theorem un191_ok : Try.prog.underlying 191 = some (.int .u64) := by kernel_rfl
def ti141 : Option TI := some { k := .slice 144 3 24, agg := false, size := 1, bytes := 24, zero := some (.slice none 0 0) }
theorem ti141_ok : tiOf Try.prog 141 = ti141 := by kernel_rfl
theorem un141_ok : Try.prog.underlying 141 = some (.slice 144) := by kernel_rfl
def ti127 : Option TI := some { k := .struct [some (0, 3, true), some (3, 1, false), some (4, 1, false)], agg := true, size := 5, bytes := 72, zero := some (.agg #[.int .i64 0, .int .i64 0, .slice none 0 0, .int .i64 0, .slice none 0 0]) }
theorem ti127_ok : tiOf Try.prog 127 = ti127 := by kernel_rfl
def ti38 : Option TI := some { k := .slice 34 1 24, agg := false, size := 1, bytes := 24, zero := some (.slice none 0 0) }
theorem ti38_ok : tiOf Try.prog 38 = ti38 := by kernel_rfl
theorem un38_ok : Try.prog.underlying 38 = some (.slice 34) := by kernel_rfl
def ti155 : Option TI := some { k := .struct [some (0, 1, false), some (1, 1, false), some (2, 1, false)], agg := true, size := 3, bytes := 24, zero := some (.agg #[.int .i64 0, .int .i64 0, .int .i64 0]) }
theorem ti155_ok : tiOf Try.prog 155 = ti155 := by kernel_rfl
theorem eqOk155_ok : eqOk Try.prog 155 3 = true := by decide +kernel
def ti167 : Option TI := some { k := .struct [some (0, 1, false), some (1, 1, false), some (2, 6, true)], agg := true, size := 8, bytes := 64, zero := some (.agg #[.int .i64 0, .int .i64 0, .int .i64 0, .int .i64 0, .int .i64 0, .int .i64 0, .int .i64 0, .int .i64 0]) }
theorem ti167_ok : tiOf Try.prog 167 = ti167 := by kernel_rfl
theorem eqOk167_ok : eqOk Try.prog 167 8 = true := by decide +kernel
def ti74 : Option TI := some { k := .slice 22 1 24, agg := false, size := 1, bytes := 24, zero := some (.slice none 0 0) }
theorem ti74_ok : tiOf Try.prog 74 = ti74 := by kernel_rfl
theorem un74_ok : Try.prog.underlying 74 = some (.slice 22) := by kernel_rfl
def ti108 : Option TI := some { k := .int .u64, agg := false, size := 1, bytes := 8, zero := some (.int .u64 0) }
theorem ti108_ok : tiOf Try.prog 108 = ti108 := by kernel_rfl
theorem un108_ok : Try.prog.underlying 108 = some (.int .u64) := by kernel_rfl
def ti189 : Option TI := some { k := .int .u32, agg := false, size := 1, bytes := 4, zero := some (.int .u32 0) }
theorem ti189_ok : tiOf Try.prog 189 = ti189 := by kernel_rfl
theorem un189_ok : Try.prog.underlying 189 = some (.int .u32) := by kernel_rfl
def ti145 : Option TI := some { k := .int .i64, agg := false, size := 1, bytes := 8, zero := some (.int .i64 0) }
theorem ti145_ok : tiOf Try.prog 145 = ti145 := by kernel_rfl
theorem un145_ok : Try.prog.underlying 145 = some (.int .i64) := by kernel_rfl
def ti107 : Option TI := some { k := .struct [some (0, 1, false)], agg := true, size := 1, bytes := 8, zero := some (.agg #[.int .u64 0]) }
theorem ti107_ok : tiOf Try.prog 107 = ti107 := by kernel_rfl
theorem eqOk107_ok : eqOk Try.prog 107 1 = true := by decide +kernel
def ti182 : Option TI := some { k := .int .i64, agg := false, size := 1, bytes := 8, zero := some (.int .i64 0) }
theorem ti182_ok : tiOf Try.prog 182 = ti182 := by kernel_rfl
theorem un182_ok : Try.prog.underlying 182 = some (.int .i64) := by kernel_rfl
def ti5 : Option TI := some { k := .int .u8, agg := false, size := 1, bytes := 1, zero := some (.int .u8 0) }
theorem ti5_ok : tiOf Try.prog 5 = ti5 := by kernel_rfl
theorem un5_ok : Try.prog.underlying 5 = some (.int .u8) := by kernel_rfl
def ti123 : Option TI := some { k := .func, agg := false, size := 1, bytes := 8, zero := some (.nilFunc) }
theorem ti123_ok : tiOf Try.prog 123 = ti123 := by kernel_rfl
def ti196 : Option TI := some { k := .ptr, agg := false, size := 1, bytes := 8, zero := some (.pointer none) }
theorem ti196_ok : tiOf Try.prog 196 = ti196 := by kernel_rfl
def ti169 : Option TI := some { k := .map, agg := false, size := 1, bytes := 8, zero := some (.map none) }
theorem ti169_ok : tiOf Try.prog 169 = ti169 := by kernel_rfl
theorem un169_ok : Try.prog.underlying 169 = some (.map 3 4) := by kernel_rfl
def ti194 : Option TI := some { k := .ptr, agg := false, size := 1, bytes := 8, zero := some (.pointer none) }
theorem ti194_ok : tiOf Try.prog 194 = ti194 := by kernel_rfl
def ti137 : Option TI := some { k := .func, agg := false, size := 1, bytes := 8, zero := some (.nilFunc) }
theorem ti137_ok : tiOf Try.prog 137 = ti137 := by kernel_rfl
def ti47 : Option TI := some { k := .func, agg := false, size := 1, bytes := 8, zero := some (.nilFunc) }
theorem ti47_ok : tiOf Try.prog 47 = ti47 := by kernel_rfl
def ti160 : Option TI := some { k := .func, agg := false, size := 1, bytes := 8, zero := some (.nilFunc) }
theorem ti160_ok : tiOf Try.prog 160 = ti160 := by kernel_rfl
def ti177 : Option TI := some { k := .func, agg := false, size := 1, bytes := 8, zero := some (.nilFunc) }
theorem ti177_ok : tiOf Try.prog 177 = ti177 := by kernel_rfl
def ti151 : Option TI := some { k := .func, agg := false, size := 1, bytes := 8, zero := some (.nilFunc) }
theorem ti151_ok : tiOf Try.prog 151 = ti151 := by kernel_rfl
def ti130 : Option TI := some { k := .slice 26 1 24, agg := false, size := 1, bytes := 24, zero := some (.slice none 0 0) }
theorem ti130_ok : tiOf Try.prog 130 = ti130 := by kernel_rfl
theorem un130_ok : Try.prog.underlying 130 = some (.slice 26) := by kernel_rfl
def ti9 : Option TI := some { k := .string, agg := false, size := 1, bytes := 16, zero := some (.string ⟨#[]⟩) }
theorem ti9_ok : tiOf Try.prog 9 = ti9 := by kernel_rfl
theorem un9_ok : Try.prog.underlying 9 = some (.string) := by kernel_rfl
def ti163 : Option TI := some { k := .func, agg := false, size := 1, bytes := 8, zero := some (.nilFunc) }
theorem ti163_ok : tiOf Try.prog 163 = ti163 := by kernel_rfl
def ti173 : Option TI := some { k := .func, agg := false, size := 1, bytes := 8, zero := some (.nilFunc) }
theorem ti173_ok : tiOf Try.prog 173 = ti173 := by kernel_rfl
def ti165 : Option TI := some { k := .array 3 2, agg := true, size := 6, bytes := 48, zero := some (.agg #[.int .i64 0, .int .i64 0, .int .i64 0, .int .i64 0, .int .i64 0, .int .i64 0]) }
theorem ti165_ok : tiOf Try.prog 165 = ti165 := by kernel_rfl
theorem eqOk165_ok : eqOk Try.prog 165 6 = true := by decide +kernel
def ti136 : Option TI := some { k := .func, agg := false, size := 1, bytes := 8, zero := some (.nilFunc) }
theorem ti136_ok : tiOf Try.prog 136 = ti136 := by kernel_rfl
def ti134 : Option TI := some { k := .func, agg := false, size := 1, bytes := 8, zero := some (.nilFunc) }
theorem ti134_ok : tiOf Try.prog 134 = ti134 := by kernel_rfl

def tbTi (t : TypeId) : Option TI :=
  bif leN t 96 then
   bif leN t 38 then
    bif leN t 23 then
     bif leN t 5 then
      bif leN t 3 then
       bif eqN t 3 then ti3 else none
      else
       bif leN t 4 then
        bif eqN t 4 then ti4 else none
       else
        bif eqN t 5 then ti5 else none
     else
      bif leN t 9 then
       bif eqN t 9 then ti9 else none
      else
       bif leN t 22 then
        bif eqN t 22 then ti22 else none
       else
        bif eqN t 23 then ti23 else none
    else
     bif leN t 28 then
      bif leN t 25 then
       bif eqN t 25 then ti25 else none
      else
       bif leN t 26 then
        bif eqN t 26 then ti26 else none
       else
        bif eqN t 28 then ti28 else none
     else
      bif leN t 34 then
       bif leN t 30 then
        bif eqN t 30 then ti30 else none
       else
        bif eqN t 34 then ti34 else none
      else
       bif leN t 35 then
        bif eqN t 35 then ti35 else none
       else
        bif eqN t 38 then ti38 else none
   else
    bif leN t 55 then
     bif leN t 47 then
      bif leN t 42 then
       bif eqN t 42 then ti42 else none
      else
       bif leN t 44 then
        bif eqN t 44 then ti44 else none
       else
        bif eqN t 47 then ti47 else none
     else
      bif leN t 51 then
       bif leN t 49 then
        bif eqN t 49 then ti49 else none
       else
        bif eqN t 51 then ti51 else none
      else
       bif leN t 53 then
        bif eqN t 53 then ti53 else none
       else
        bif eqN t 55 then ti55 else none
    else
     bif leN t 65 then
      bif leN t 57 then
       bif eqN t 57 then ti57 else none
      else
       bif leN t 62 then
        bif eqN t 62 then ti62 else none
       else
        bif eqN t 65 then ti65 else none
     else
      bif leN t 74 then
       bif leN t 73 then
        bif eqN t 73 then ti73 else none
       else
        bif eqN t 74 then ti74 else none
      else
       bif leN t 92 then
        bif eqN t 92 then ti92 else none
       else
        bif eqN t 96 then ti96 else none
  else
   bif leN t 151 then
    bif leN t 130 then
     bif leN t 108 then
      bif leN t 105 then
       bif eqN t 105 then ti105 else none
      else
       bif leN t 107 then
        bif eqN t 107 then ti107 else none
       else
        bif eqN t 108 then ti108 else none
     else
      bif leN t 123 then
       bif eqN t 123 then ti123 else none
      else
       bif leN t 127 then
        bif eqN t 127 then ti127 else none
       else
        bif eqN t 130 then ti130 else none
    else
     bif leN t 137 then
      bif leN t 134 then
       bif eqN t 134 then ti134 else none
      else
       bif leN t 136 then
        bif eqN t 136 then ti136 else none
       else
        bif eqN t 137 then ti137 else none
     else
      bif leN t 144 then
       bif leN t 141 then
        bif eqN t 141 then ti141 else none
       else
        bif eqN t 144 then ti144 else none
      else
       bif leN t 145 then
        bif eqN t 145 then ti145 else none
       else
        bif eqN t 151 then ti151 else none
   else
    bif leN t 169 then
     bif leN t 160 then
      bif leN t 152 then
       bif eqN t 152 then ti152 else none
      else
       bif leN t 155 then
        bif eqN t 155 then ti155 else none
       else
        bif eqN t 160 then ti160 else none
     else
      bif leN t 165 then
       bif leN t 163 then
        bif eqN t 163 then ti163 else none
       else
        bif eqN t 165 then ti165 else none
      else
       bif leN t 167 then
        bif eqN t 167 then ti167 else none
       else
        bif eqN t 169 then ti169 else none
    else
     bif leN t 182 then
      bif leN t 173 then
       bif eqN t 173 then ti173 else none
      else
       bif leN t 177 then
        bif eqN t 177 then ti177 else none
       else
        bif eqN t 182 then ti182 else none
     else
      bif leN t 191 then
       bif leN t 189 then
        bif eqN t 189 then ti189 else none
       else
        bif eqN t 191 then ti191 else none
      else
       bif leN t 194 then
        bif eqN t 194 then ti194 else none
       else
        bif eqN t 196 then ti196 else none
def tbUn (t : TypeId) : Option TypeDesc :=
  bif leN t 53 then
   bif leN t 25 then
    bif leN t 5 then
     bif leN t 3 then
      bif eqN t 3 then some (.int .i64) else none
     else
      bif leN t 4 then
       bif eqN t 4 then some (.bool) else none
      else
       bif eqN t 5 then some (.int .u8) else none
    else
     bif leN t 9 then
      bif eqN t 9 then some (.string) else none
     else
      bif leN t 22 then
       bif eqN t 22 then some (.slice 3) else none
      else
       bif eqN t 25 then some (.slice 51) else none
   else
    bif leN t 34 then
     bif leN t 26 then
      bif eqN t 26 then some (.slice 55) else none
     else
      bif leN t 30 then
       bif eqN t 30 then some (.slice 42) else none
      else
       bif eqN t 34 then some (.slice 44) else none
    else
     bif leN t 38 then
      bif leN t 35 then
       bif eqN t 35 then some (.int .i64) else none
      else
       bif eqN t 38 then some (.slice 34) else none
     else
      bif leN t 49 then
       bif eqN t 49 then some (.slice 62) else none
      else
       bif eqN t 53 then some (.slice 92) else none
  else
   bif leN t 130 then
    bif leN t 74 then
     bif leN t 57 then
      bif eqN t 57 then some (.slice 73) else none
     else
      bif leN t 65 then
       bif eqN t 65 then some (.slice 96) else none
      else
       bif eqN t 74 then some (.slice 22) else none
    else
     bif leN t 105 then
      bif eqN t 105 then some (.int .u64) else none
     else
      bif leN t 108 then
       bif eqN t 108 then some (.int .u64) else none
      else
       bif eqN t 130 then some (.slice 26) else none
   else
    bif leN t 152 then
     bif leN t 141 then
      bif eqN t 141 then some (.slice 144) else none
     else
      bif leN t 145 then
       bif eqN t 145 then some (.int .i64) else none
      else
       bif eqN t 152 then some (.slice 155) else none
    else
     bif leN t 182 then
      bif leN t 169 then
       bif eqN t 169 then some (.map 3 4) else none
      else
       bif eqN t 182 then some (.int .i64) else none
     else
      bif leN t 189 then
       bif eqN t 189 then some (.int .u32) else none
      else
       bif eqN t 191 then some (.int .u64) else none
def tbEq (t : TypeId) (n : Nat) : Bool :=
  bif leN t 92 then
   bif leN t 44 then
    bif leN t 42 then
     bif eqN t 42 then eqN n 3 else false
    else
     bif eqN t 44 then eqN n 3 else false
   else
    bif leN t 62 then
     bif eqN t 62 then eqN n 2 else false
    else
     bif leN t 73 then
      bif eqN t 73 then eqN n 3 else false
     else
      bif eqN t 92 then eqN n 4 else false
  else
   bif leN t 144 then
    bif leN t 96 then
     bif eqN t 96 then eqN n 2 else false
    else
     bif leN t 107 then
      bif eqN t 107 then eqN n 1 else false
     else
      bif eqN t 144 then eqN n 3 else false
   else
    bif leN t 155 then
     bif eqN t 155 then eqN n 3 else false
    else
     bif leN t 165 then
      bif eqN t 165 then eqN n 6 else false
     else
      bif eqN t 167 then eqN n 8 else false
def tb : Tb := { ti := tbTi, un := tbUn, eqs := tbEq }

theorem lookT {α : Type} {b : Bool} {x y : α} {r : α} {C : Prop} (hx : x = r → C) (hy : y = r → C) : (bif b then x else y) = r → C := fun h => by
  cases b
  · exact hy h
  · exact hx h
theorem look {α : Type} {f : Nat → Option α} {t k : Nat} {e : Option α} {i : α} (hk : f k = e) : (bif eqN t k then e else none) = some i → f t = some i := fun h => by
  cases hb : eqN t k
  · rw [hb] at h; cases h
  · rw [hb] at h
    rw [eqN_ok hb]
    exact hk.trans h
theorem lookE {t k n m : Nat} {C : Nat → Nat → Prop} (hk : C k m) : (bif eqN t k then eqN n m else false) = true → C t n := fun h => by
  cases hb : eqN t k
  · rw [hb] at h; cases h
  · rw [hb] at h
    rw [eqN_ok hb, eqN_ok h]
    exact hk

theorem tbTi_ok (t : TypeId) (i : TI) : tbTi t = some i → tiOf Try.prog t = some i :=
  (lookT (lookT (lookT (lookT (lookT (look (f := tiOf Try.prog) ti3_ok) (lookT (look (f := tiOf Try.prog) ti4_ok) (look (f := tiOf Try.prog) ti5_ok))) (lookT (look (f := tiOf Try.prog) ti9_ok) (lookT (look (f := tiOf Try.prog) ti22_ok) (look (f := tiOf Try.prog) ti23_ok)))) (lookT (lookT (look (f := tiOf Try.prog) ti25_ok) (lookT (look (f := tiOf Try.prog) ti26_ok) (look (f := tiOf Try.prog) ti28_ok))) (lookT (lookT (look (f := tiOf Try.prog) ti30_ok) (look (f := tiOf Try.prog) ti34_ok)) (lookT (look (f := tiOf Try.prog) ti35_ok) (look (f := tiOf Try.prog) ti38_ok))))) (lookT (lookT (lookT (look (f := tiOf Try.prog) ti42_ok) (lookT (look (f := tiOf Try.prog) ti44_ok) (look (f := tiOf Try.prog) ti47_ok))) (lookT (lookT (look (f := tiOf Try.prog) ti49_ok) (look (f := tiOf Try.prog) ti51_ok)) (lookT (look (f := tiOf Try.prog) ti53_ok) (look (f := tiOf Try.prog) ti55_ok)))) (lookT (lookT (look (f := tiOf Try.prog) ti57_ok) (lookT (look (f := tiOf Try.prog) ti62_ok) (look (f := tiOf Try.prog) ti65_ok))) (lookT (lookT (look (f := tiOf Try.prog) ti73_ok) (look (f := tiOf Try.prog) ti74_ok)) (lookT (look (f := tiOf Try.prog) ti92_ok) (look (f := tiOf Try.prog) ti96_ok)))))) (lookT (lookT (lookT (lookT (look (f := tiOf Try.prog) ti105_ok) (lookT (look (f := tiOf Try.prog) ti107_ok) (look (f := tiOf Try.prog) ti108_ok))) (lookT (look (f := tiOf Try.prog) ti123_ok) (lookT (look (f := tiOf Try.prog) ti127_ok) (look (f := tiOf Try.prog) ti130_ok)))) (lookT (lookT (look (f := tiOf Try.prog) ti134_ok) (lookT (look (f := tiOf Try.prog) ti136_ok) (look (f := tiOf Try.prog) ti137_ok))) (lookT (lookT (look (f := tiOf Try.prog) ti141_ok) (look (f := tiOf Try.prog) ti144_ok)) (lookT (look (f := tiOf Try.prog) ti145_ok) (look (f := tiOf Try.prog) ti151_ok))))) (lookT (lookT (lookT (look (f := tiOf Try.prog) ti152_ok) (lookT (look (f := tiOf Try.prog) ti155_ok) (look (f := tiOf Try.prog) ti160_ok))) (lookT (lookT (look (f := tiOf Try.prog) ti163_ok) (look (f := tiOf Try.prog) ti165_ok)) (lookT (look (f := tiOf Try.prog) ti167_ok) (look (f := tiOf Try.prog) ti169_ok)))) (lookT (lookT (look (f := tiOf Try.prog) ti173_ok) (lookT (look (f := tiOf Try.prog) ti177_ok) (look (f := tiOf Try.prog) ti182_ok))) (lookT (lookT (look (f := tiOf Try.prog) ti189_ok) (look (f := tiOf Try.prog) ti191_ok)) (lookT (look (f := tiOf Try.prog) ti194_ok) (look (f := tiOf Try.prog) ti196_ok)))))))
theorem tbUn_ok (t : TypeId) (d : TypeDesc) : tbUn t = some d → Try.prog.underlying t = some d :=
  (lookT (lookT (lookT (lookT (look (f := Try.prog.underlying) un3_ok) (lookT (look (f := Try.prog.underlying) un4_ok) (look (f := Try.prog.underlying) un5_ok))) (lookT (look (f := Try.prog.underlying) un9_ok) (lookT (look (f := Try.prog.underlying) un22_ok) (look (f := Try.prog.underlying) un25_ok)))) (lookT (lookT (look (f := Try.prog.underlying) un26_ok) (lookT (look (f := Try.prog.underlying) un30_ok) (look (f := Try.prog.underlying) un34_ok))) (lookT (lookT (look (f := Try.prog.underlying) un35_ok) (look (f := Try.prog.underlying) un38_ok)) (lookT (look (f := Try.prog.underlying) un49_ok) (look (f := Try.prog.underlying) un53_ok))))) (lookT (lookT (lookT (look (f := Try.prog.underlying) un57_ok) (lookT (look (f := Try.prog.underlying) un65_ok) (look (f := Try.prog.underlying) un74_ok))) (lookT (look (f := Try.prog.underlying) un105_ok) (lookT (look (f := Try.prog.underlying) un108_ok) (look (f := Try.prog.underlying) un130_ok)))) (lookT (lookT (look (f := Try.prog.underlying) un141_ok) (lookT (look (f := Try.prog.underlying) un145_ok) (look (f := Try.prog.underlying) un152_ok))) (lookT (lookT (look (f := Try.prog.underlying) un169_ok) (look (f := Try.prog.underlying) un182_ok)) (lookT (look (f := Try.prog.underlying) un189_ok) (look (f := Try.prog.underlying) un191_ok))))))
theorem tbEq_ok (t n : Nat) : tbEq t n = true → eqOk Try.prog t n = true :=
  (lookT (lookT (lookT (lookE (C := fun t n => eqOk Try.prog t n = true) eqOk42_ok) (lookE (C := fun t n => eqOk Try.prog t n = true) eqOk44_ok)) (lookT (lookE (C := fun t n => eqOk Try.prog t n = true) eqOk62_ok) (lookT (lookE (C := fun t n => eqOk Try.prog t n = true) eqOk73_ok) (lookE (C := fun t n => eqOk Try.prog t n = true) eqOk92_ok)))) (lookT (lookT (lookE (C := fun t n => eqOk Try.prog t n = true) eqOk96_ok) (lookT (lookE (C := fun t n => eqOk Try.prog t n = true) eqOk107_ok) (lookE (C := fun t n => eqOk Try.prog t n = true) eqOk144_ok))) (lookT (lookE (C := fun t n => eqOk Try.prog t n = true) eqOk155_ok) (lookT (lookE (C := fun t n => eqOk Try.prog t n = true) eqOk165_ok) (lookE (C := fun t n => eqOk Try.prog t n = true) eqOk167_ok)))))
theorem hT : tb.Of ((fun _ => Try.prog : Unit → Program) ()) := ⟨tbTi_ok, tbUn_ok, tbEq_ok⟩
theorem hm : ((fun _ => Try.prog : Unit → Program) ()).follows .mixedOrders = true := by decide +kernel
/-- The table, with flags. -/
def tbF (kp rs : Bool) : Tb := { tb with kp, rs }
theorem hTF (kp rs : Bool) : (tbF kp rs).Of ((fun _ => Try.prog : Unit → Program) ()) := ⟨tbTi_ok, tbUn_ok, tbEq_ok⟩
end Go.Proofs.Ytlcgliadpalgfaa.Vm
