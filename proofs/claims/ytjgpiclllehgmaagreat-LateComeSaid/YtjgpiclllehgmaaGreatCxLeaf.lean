/- The single steps of a goroutine as steps of its own. -/
import Derived.Calls
import Derived.Test.YtjgpiclllehgmaaGreatCxOwn
set_option linter.unusedSimpArgs false
set_option linter.unusedVariables false
namespace Go.Proofs.YtjgpiclllehgmaaGreat.Conc1
open Go Go.Conc
section
variable {P:Program} {pr:Nat→Prop}
theorem Ow.ctl {fr fr':Frame} {cs cs':List Frame} {w:World} (h:∀main w,stepG P main (G fr cs) w= .go (G fr' cs') w):Ow P pr ⟨fr,cs,w⟩ ⟨fr',cs',w⟩:=by
 refine⟨Unit,pure (),fun _=>(fr',cs'),(), #[],fun main w w' x es hr=>?_,rfl,rfl,fun e he=>by simp at he⟩
 have hr:((.ok () w:Result Unit),(#[]:Array Event))=(.ok x w',es):=hr
 simp only[Prod.mk.injEq,Result.ok.injEq]at hr
 obtain⟨⟨_,rfl⟩,rfl⟩:=hr
 rw[h main w,seen_none]
def opF (P:Program) (fr:Frame) (cs:List Frame):Next→Frame×List Frame
 |.value v=>(fr.finish v,cs)
 |.skip=>(fr.finish undef,cs)
 |.enter f args=>(Frame.enter P f args .normal,fr::cs)
 |.round l f tmps assign body=>(Frame.round l f tmps assign body .normal,fr::cs)
 |_=>(fr,cs)
def Next.plain:Next→Prop
 |.value _|.skip|.enter .. |.round .. =>True
 |_=>False
inductive Steps (P:Program) (pr:Nat→Prop):Cf→Cf→Prop
 |refl (a:Cf):Steps P pr a a
 |head {a b c:Cf}:Ow P pr a b→Steps P pr b c→Steps P pr a c
theorem Steps.trans {a b c:Cf} (h:Steps P pr a b) (h':Steps P pr b c):Steps P pr a c:=by
 induction h with
 |refl=>exact h'
 |head h _ ih=>exact .head h (ih h')
end
end Go.Proofs.YtjgpiclllehgmaaGreat.Conc1
