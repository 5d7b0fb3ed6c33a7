/- The closed facts of MaintNames's row and card, one by one. -/
import Derived.JoinedOf
import Derived.Test.YthjjgcfdhkhelaaGreatDoorChecked
import Derived.Test.YthjjgcfdhkhelaaGreatDoorCards
import GoSem.ClaimGoes
set_option maxRecDepth 100000
open Go.Proofs.Tryz
namespace Go.Proofs.YthjjgcfdhkhelaaGreatDoor
section
open Go
theorem EV {P:Program}{f:FuncId}{fn:Func}{s:ChangeSpec}{c:OpenClaim}
  (k0:c.wf (OpenSpec.ofChange s)=true)
  (k1:laidOutB P=true)
  (k2:mapsRowed P=true)
  (k3:fn.params.all (P.readableRec ·)=true)
  (k4:namedTie P c.named s.vars=true)
  (k5:(c.stops == [])=true)
  (k6:(P.stops == [])=true)
  (k7:(c.knobs == [])=true)
  (k8:(P.stopKnobs == [])=true)
  (k9:(c.inPlace == P.inPlace f)=true)
  (k10:(c.unfollowed == P.unfollowed f)=true)
  (k11:(c.recurses == P.recurses f)=true)
  (k12:(c.named == P.varsNamed f)=true)
  (k13:(c.maps == (fn.params.toList++s.plain.varTypes P).any (P.mapsRec ·))=true)
  (k14:(c.ifaces == (fn.params.toList++s.plain.varTypes P).any (P.ifacesRec ·))=true)
  (k15:(c.mapsOut == P.mapsAmong fn.resultTypes.toList)=true)
  (k16:(c.loops == (fn.params.toList++s.plain.varTypes P).any (P.loopsFrom ·))=true)
  (k17:(c.wideKeys == (fn.params.toList++s.plain.varTypes P++fn.resultTypes.toList).any (P.wideKeysFrom ·))=true)
  (k18:s.vars.all (P.varReadable ·)=true)
  (k19:fn.resultTypes.all (λt=>P.readableRec t && decide (t<P.types.size))=true)
  (k20:(c.ifacesOut == fn.resultTypes.toList.any (P.ifacesRec ·))=true)
  (k21:(c.loopsOut == fn.resultTypes.toList.any (P.loopsFrom ·))=true)
  (k22:(c.plainKeys == P.plainKeys)=true)
  (k23:c.shortTexts.isNone=true)
  (k24:P.stopsHeard=true)
  (k25:P.mayEnter=true)
  (k26:(c.lifted == P.liftsFinal)=true)
  (k27:(P.make == some c.make)=true)
  (k28:(c.kinds == (if c.domain.isEmpty then [] else fn.params.toList.map λt=>match P.underlying t with|some (.int k)=>some k|_=>none))=true)
  (k29:(c.pinned == c.pinnedBy)=true)
  (k30:(c.veiled == (fn.params.toList++s.plain.varTypes P++fn.resultTypes.toList).any (P.veiledRec ·))=true)
  (k31:c.veiledFits P fn.params.toList (fn.params.toList++s.plain.varTypes P++fn.resultTypes.toList)=true)
  : joinedFacts P f fn s c=true:=by
 unfold joinedFacts;simp only[Bool.and_eq_true];exact⟨⟨⟨⟨⟨⟨⟨⟨⟨⟨⟨⟨⟨⟨⟨⟨⟨⟨⟨⟨⟨⟨⟨⟨⟨⟨⟨⟨⟨⟨⟨k0,k1⟩,k2⟩,k3⟩,k4⟩,k5⟩,k6⟩,k7⟩,k8⟩,k9⟩,k10⟩,k11⟩,k12⟩,k13⟩,k14⟩,k15⟩,k16⟩,k17⟩,k18⟩,k19⟩,k20⟩,k21⟩,k22⟩,k23⟩,k24⟩,k25⟩,k26⟩,k27⟩,k28⟩,k29⟩,k30⟩,k31⟩
theorem EW:Rows.maintNamesRow.wf (OpenSpec.ofChange Rows.maintNamesSpec)=true:=by kernel_rfl
theorem EX:laidOutB Tryz.pinned.checked.prog=true:=by kernel_rfl
theorem EY:mapsRowed Tryz.pinned.checked.prog=true:=by kernel_rfl
theorem EZ:Tryz.f3.params.all (Tryz.pinned.checked.prog.readableRec ·)=true:=by kernel_rfl
theorem E8:namedTie Tryz.pinned.checked.prog Rows.maintNamesRow.named Rows.maintNamesSpec.vars=true:=by kernel_rfl
theorem Fa:(Rows.maintNamesRow.stops == [])=true:=by kernel_rfl
theorem Fb:(Tryz.pinned.checked.prog.stops == [])=true:=by kernel_rfl
theorem Fc:(Rows.maintNamesRow.knobs == [])=true:=by kernel_rfl
theorem Fd:(Tryz.pinned.checked.prog.stopKnobs == [])=true:=by kernel_rfl
theorem Fe:(Rows.maintNamesRow.inPlace == Tryz.pinned.checked.prog.inPlace 3)=true:=by kernel_rfl
theorem Ff:(Rows.maintNamesRow.unfollowed == Tryz.pinned.checked.prog.unfollowed 3)=true:=by kernel_rfl
theorem Fg:(Rows.maintNamesRow.recurses == Tryz.pinned.checked.prog.recurses 3)=true:=by kernel_rfl
theorem Fh:(Rows.maintNamesRow.named == Tryz.pinned.checked.prog.varsNamed 3)=true:=by kernel_rfl
theorem Fi:(Rows.maintNamesRow.maps == (Tryz.f3.params.toList++Rows.maintNamesSpec.plain.varTypes Tryz.pinned.checked.prog).any (Tryz.pinned.checked.prog.mapsRec ·))=true:=by kernel_rfl
theorem Fj:(Rows.maintNamesRow.ifaces == (Tryz.f3.params.toList++Rows.maintNamesSpec.plain.varTypes Tryz.pinned.checked.prog).any (Tryz.pinned.checked.prog.ifacesRec ·))=true:=by kernel_rfl
theorem Fk:(Rows.maintNamesRow.mapsOut == Tryz.pinned.checked.prog.mapsAmong Tryz.f3.resultTypes.toList)=true:=by kernel_rfl
theorem Fl:(Rows.maintNamesRow.loops == (Tryz.f3.params.toList++Rows.maintNamesSpec.plain.varTypes Tryz.pinned.checked.prog).any (Tryz.pinned.checked.prog.loopsFrom ·))=true:=by kernel_rfl
theorem Fm:(Rows.maintNamesRow.wideKeys == (Tryz.f3.params.toList++Rows.maintNamesSpec.plain.varTypes Tryz.pinned.checked.prog++Tryz.f3.resultTypes.toList).any (Tryz.pinned.checked.prog.wideKeysFrom ·))=true:=by kernel_rfl
theorem Fo:Rows.maintNamesSpec.vars.all (Tryz.pinned.checked.prog.varReadable ·)=true:=by kernel_rfl
theorem Fp:Tryz.f3.resultTypes.all (λt=>Tryz.pinned.checked.prog.readableRec t && decide (t<Tryz.pinned.checked.prog.types.size))=true:=by kernel_rfl
theorem Fq:(Rows.maintNamesRow.ifacesOut == Tryz.f3.resultTypes.toList.any (Tryz.pinned.checked.prog.ifacesRec ·))=true:=by kernel_rfl
theorem Fu:(Rows.maintNamesRow.loopsOut == Tryz.f3.resultTypes.toList.any (Tryz.pinned.checked.prog.loopsFrom ·))=true:=by kernel_rfl
theorem Fv:(Rows.maintNamesRow.plainKeys == Tryz.pinned.checked.prog.plainKeys)=true:=by kernel_rfl
theorem Fw:Rows.maintNamesRow.shortTexts.isNone=true:=by kernel_rfl
theorem Fx:Tryz.pinned.checked.prog.stopsHeard=true:=by kernel_rfl
theorem Fy:Tryz.pinned.checked.prog.mayEnter=true:=by kernel_rfl
theorem Fz:(Rows.maintNamesRow.lifted == Tryz.pinned.checked.prog.liftsFinal)=true:=by kernel_rfl
theorem FC:(Tryz.pinned.checked.prog.make == some Rows.maintNamesRow.make)=true:=by kernel_rfl
theorem FD:(Rows.maintNamesRow.kinds == (if Rows.maintNamesRow.domain.isEmpty then [] else Tryz.f3.params.toList.map λt=>match Tryz.pinned.checked.prog.underlying t with|some (.int k)=>some k|_=>none))=true:=by kernel_rfl
theorem FE:(Rows.maintNamesRow.pinned == Rows.maintNamesRow.pinnedBy)=true:=by kernel_rfl
theorem FG:(Rows.maintNamesRow.veiled == (Tryz.f3.params.toList++Rows.maintNamesSpec.plain.varTypes Tryz.pinned.checked.prog++Tryz.f3.resultTypes.toList).any (Tryz.pinned.checked.prog.veiledRec ·))=true:=by kernel_rfl
theorem FH:Rows.maintNamesRow.veiledFits Tryz.pinned.checked.prog Tryz.f3.params.toList (Tryz.f3.params.toList++Rows.maintNamesSpec.plain.varTypes Tryz.pinned.checked.prog++Tryz.f3.resultTypes.toList)=true:=by kernel_rfl
theorem FI:Tryz.f3.isInstance Tryz.pinned.checked.prog Rows.maintNamesRow.origin Rows.maintNamesRow.targs:=of_decide_eq_true (by kernel_rfl)
theorem FJ:Tryz.f3.isWrapper Tryz.pinned.checked.prog Rows.maintNamesRow.wrapper Rows.maintNamesRow.mainSum:=by unfold Func.isWrapper;rw[if_neg (by decide +kernel)];exact⟨rfl,rfl⟩
theorem FK:Tryz.pinned.checked.prog.funcNamed Rows.maintNamesRow.func=some 3:=by kernel_rfl
theorem FL:Rows.maintNamesRow.wfByText (OpenSpec.ofChange Rows.maintNamesSpec)=true:=by kernel_rfl
theorem FM:true=Tryz.pinned.checked.prog.looks []:=by kernel_rfl
theorem FN {P:Program}{c:OpenClaim}(hs:c.start = .entering)(h:P.funcs.any Func.goes=false):false=c.goesBy P:=by
 have h1:∀(g:Nat) (fn:Func),P.funcs[g]?=some fn→fn.goes=false:=by
  intro g fn e;obtain⟨hlt,e2⟩:=Array.getElem?_eq_some_iff.1 e;have h2:=Array.any_eq_false.1 h g hlt;rw[e2]at h2;simpa using h2
 have hg:∀f,P.goes f=false:=by
  intro f;unfold Program.goes;rw[h,Bool.and_false,Bool.or_false,List.any_eq_false];intro g _;cases e:P.funcs[g]? with
  | none=>simp
  | some fn=>simp[h1 g fn e]
 unfold OpenClaim.goesBy Program.goesAt Program.goesFrom;rw[hs];cases P.funcNamed c.func<;>simp[hg]
theorem FO:Tryz.pinned.checked.prog.funcs.any Func.goes=false:=by kernel_rfl
theorem FP:false=Rows.maintNamesRow.goesBy Tryz.pinned.checked.prog:=FN rfl FO
theorem maintNames_func:prog.funcNamed "souk/souklaw29.MaintNames" = some 3:=by kernel_rfl
end
end Go.Proofs.YthjjgcfdhkhelaaGreatDoor
