/- Lemmas. -/
import Derived.Calls
import Derived.Test.YtjgpiclllehgmaaGreatCxOwn
set_option linter.all false
namespace Go.Proofs.YtjgpiclllehgmaaGreat
namespace Conc1
open Go Go.Conc
section
variable {P:Program} {pr:Nat->Prop}
theorem Ow.ctl {fr H:Frame} {cs A:List Frame} {w:World} (h:∀main w,stepG P main (G fr cs) w= .go (G H A) w):Ow P pr ⟨fr,cs,w⟩ ⟨H,A,w⟩:=by
 refine⟨Unit,pure (),λ_=>(H,A),(), #[],λmain w I x es hr=>?_,rfl,rfl,λe J=>by simp at J⟩;have hr:((.ok () w:Result Unit),(#[]:Array Event))=(.ok x I,es):=hr;simp only[Prod.mk.injEq,Result.ok.injEq]at hr;obtain⟨⟨_,rfl⟩,rfl⟩:=hr;rw[h main w,seen_none]
def opF (P:Program) (fr:Frame) (cs:List Frame):Next->Frame×List Frame
 |.value v=>(fr.finish v,cs)
 |.skip=>(fr.finish undef,cs)
 |.enter f G=>(Frame.enter P f G .normal,fr::cs)
 |.round l f I A H=>(Frame.round l f I A H .normal,fr::cs)
 |_=>(fr,cs)
def Next.plain:Next->Prop
 |.value _|.skip|.enter .. |.round .. =>True
 |_=>False
inductive Steps (P:Program) (pr:Nat->Prop):Cf->Cf->Prop
 |refl (a:Cf):Steps P pr a a
 |head {a b c:Cf}:Ow P pr a b->Steps P pr b c->Steps P pr a c
theorem Steps.trans {a b c:Cf} (h:Steps P pr a b) (h':Steps P pr b c):Steps P pr a c:=by
 induction h with
 |refl=>exact h'
 |head h _ A=>exact .head h (A h')
end
end Conc1
end Go.Proofs.YtjgpiclllehgmaaGreat
