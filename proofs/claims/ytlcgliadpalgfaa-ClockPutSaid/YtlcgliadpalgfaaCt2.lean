/- The chapter's examples, run: they have their results. -/
import Derived.Test.YtlcgliadpalgfaaCt
set_option linter.unusedSimpArgs false
set_option linter.unusedVariables false
namespace Go.Proofs.Ytlcgliadpalgfaa.Vm
open Go Go.Proofs Sp
set_option maxRecDepth 100000

def okA : AV := iA 0
def fT : Fact := ⟨68, [bookX, legsX, iA 0], .tup [sl 3 [row [0, 60, 140], row [1, 1780, 1830]], .bool fun _ => true]⟩
theorem fT_ok : fT.Ok := fact [fL0, fL1] (consF fL0_ok (consF fL1_ok noF)) _ (fun _ => rfl) (fun _ => rfl) (by kernel_rfl)
def fTrip : Fact := ⟨19, [bookX, legsX, iA 0], .tup [sl 3 [row [0, 60, 140], row [1, 1780, 1830]], iA 0]⟩
theorem fTrip_ok : fTrip.Ok := fact [fT, fCk] (consF fT_ok (consF fCk_ok noF)) _ (fun _ => rfl) (fun _ => rfl) (by kernel_rfl)
def fRun : Fact := ⟨26, [bookX, iA 7, iA 2], .tup [sl 3 [row [0, 2910, 2910], row [2, 3160, 3160]], iA 0]⟩
theorem fRun_ok : fRun.Ok := fact [fR3, fCk] (consF fR3_ok (consF fCk_ok noF)) _ (fun _ => rfl) (fun _ => rfl) (by kernel_rfl)
def fSk : Fact := ⟨31, [forthA], .tup [sl 2 [row [1560, 1619]], iA 0]⟩
theorem fSk_ok : fSk.Ok := fact [] noF _ (fun _ => rfl) (fun _ => rfl) (by kernel_rfl)
def fWhen : Fact := ⟨44, [backA, iA 2, iA 130], .tup [sl 1 [row [2950], row [3010]], iA 0]⟩
theorem fWhen_ok : fWhen.Ok := fact [] noF _ (fun _ => rfl) (fun _ => rfl) (by kernel_rfl)
def fHour : Fact := ⟨46, [forthA, iA 1, iA 130, iA 0], .tup [iA 1560, iA 0]⟩
theorem fHour_ok : fHour.Ok := fact [] noF _ (fun _ => rfl) (fun _ => rfl) (by kernel_rfl)
def bT : AV := .bool fun _ => true
def lit (s : Nat) (rows : List (List AV)) : AV := .isl s (fun _ => (rows.length : Int)) (fun e => rows.getD (e ()).toNat (rows.headD [])) .exact
def e39 : Fact := ⟨39, [sl 1 [row [2950], row [3010]], lit 1 [row [2950], row [3010]]], bT⟩
theorem e39_ok : e39.Ok := fact [] noF _ (fun _ => rfl) (fun _ => rfl) (by kernel_rfl)
def e35 : Fact := ⟨35, [sl 2 [row [1560, 1619]], lit 2 [row [1560, 1619]]], bT⟩
theorem e35_ok : e35.Ok := fact [] noF _ (fun _ => rfl) (fun _ => rfl) (by kernel_rfl)
def e27 : Fact := ⟨27, [sl 3 [row [0, 2910, 2910], row [2, 3160, 3160]], lit 3 [row [0, 2910, 2910], row [2, 3160, 3160]]], bT⟩
theorem e27_ok : e27.Ok := fact [] noF _ (fun _ => rfl) (fun _ => rfl) (by kernel_rfl)
def e65 : Fact := ⟨65, [sl 3 [row [0, 60, 140], row [1, 1780, 1830]], lit 3 [row [0, 60, 140], row [1, 1780, 1830]]], bT⟩
theorem e65_ok : e65.Ok := fact [] noF _ (fun _ => rfl) (fun _ => rfl) (by kernel_rfl)
end Go.Proofs.Ytlcgliadpalgfaa.Vm
