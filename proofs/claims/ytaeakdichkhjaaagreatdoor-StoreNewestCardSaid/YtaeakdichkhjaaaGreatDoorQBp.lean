/- The closed facts of StoreNewest's row and card, one by one. -/
import Derived.Test.YtaeakdichkhjaaaGreatDoorQBo
import Derived.Test.YtaeakdichkhjaaaGreatDoorQBh
import Derived.Test.YtaeakdichkhjaaaGreatDoorQAi
import Derived.Test.YtaeakdichkhjaaaGreatDoorTie
import Derived.Test.YtaeakdichkhjaaaGreatDoorCards
import Derived.SizedLaws
import Derived.Deep.Slices
import Derived.JoinedOf
open Go.Lib(hid)
namespace Go.Proofs.YtaeakdichkhjaaaGreatDoor
section
open Go.ChangeShapes Go.WideShapes Go.ChangeAt Go.RowKit
section
variable {H:Type} {enc:TypeId×Value→H} {P:Program} {w:World} {base:Nat} {spare:Nat→Bool} {held:Bool}
theorem zh {t0 t1 t2 t3 t4:TypeId}{args:Array Value}{ds:List (DataW H)}{ps:List MemPlace}(h:DataW.TrodAll enc P w base spare held [t0,t1,t2,t3,t4] args.toList ds ps) :
  ∃v0 v1 v2 v3 v4 d0 d1 d2 d3 d4 p0 p1 p2 p3 p4,args=#[v0,v1,v2,v3,v4]∧ds=[d0,d1,d2,d3,d4]∧ps=p0++(p1++(p2++(p3++p4)))∧DataW.Trod enc P w base spare held t0 v0 d0 p0∧DataW.Trod enc P w base spare held t1 v1 d1 p1∧DataW.Trod enc P w base spare held t2 v2 d2 p2∧DataW.Trod enc P w base spare held t3 v3 d3 p3∧DataW.Trod enc P w base spare held t4 v4 d4 p4:=by
 obtain⟨v0,vs0,d0,ds0,p0,q0,hargs,rfl,rfl,h0,r0⟩:=trodAll_cons h;obtain⟨v1,vs1,d1,ds1,p1,q1,rfl,rfl,rfl,h1,r1⟩:=trodAll_cons r0;obtain⟨v2,v3,v4,d2,d3,d4,p2,p3,p4,e,rfl,rfl,h2,h3,h4⟩:=trodAll_three (args:=vs1.toArray) (by simpa using r1);have e2:vs1=[v2,v3,v4]:=by simpa using congrArg Array.toList e
 exact⟨v0,v1,v2,v3,v4,d0,d1,d2,d3,d4,p0,p1,p2,p3,p4,by cases args;simp_all,rfl,by simp,h0,h1,h2,h3,h4⟩
theorem zj {t0 t1 t2 t3 t4:TypeId}{v0 v1 v2 v3 v4:Value}{d0 d1 d2 d3 d4:DataW H}{p0 p1 p2 p3 p4:List MemPlace}(h0:DataW.Trod enc P w base spare held t0 v0 d0 p0)(h1:DataW.Trod enc P w base spare held t1 v1 d1 p1)
  (h2:DataW.Trod enc P w base spare held t2 v2 d2 p2) (h3:DataW.Trod enc P w base spare held t3 v3 d3 p3) (h4:DataW.Trod enc P w base spare held t4 v4 d4 p4):DataW.TrodAll enc P w base spare held [t0,t1,t2,t3,t4] [v0,v1,v2,v3,v4] [d0,d1,d2,d3,d4] (p0++(p1++(p2++(p3++p4)))):=
 ⟨p0,p1++(p2++(p3++p4)),h0,trodAll_mk4 h1 h2 h3 h4,rfl⟩
end
set_option maxRecDepth 10000 in
theorem zk {W:World}{b0:Nat}{t e:TypeId}{v:Value}(ht:Tryz.prog.underlying t=some (.slice e))(hv:Value.okWide Tryz.prog W .any b0 t v):∃a n c,v = .slice a n c:=by
 unfold Value.okWide at hv;rw[ht]at hv;simp only at hv;unfold Cell.okWide at hv;rw[ht]at hv;cases v with
 | slice a n c=>exact⟨a,n,c,rfl⟩
 | _=>simp only at hv;unfold Cell.ok at hv;rw[ht]at hv;exact hv.elim
theorem zm {H:Type}{P:Program}{e:TypeId}:∀{l:List (DataW H)} {d:DataW H},d∈l→∀n∈d.weights P e,n∈DataW.weightsAll P e l
 | x::r,d,hd,n,hn=>by
  simp only[DataW.weightsAll,List.mem_append]
  rcases List.mem_cons.1 hd with rfl|hd
  ·exact .inl hn
  ·exact .inr (zm hd n hn)
 | [],_,hd,_,_=>by cases hd
set_option maxRecDepth 100000 in
theorem zq {H:Type}{enc:TypeId×Value→H}{W:World}{b0:Nat}{v:Value}{d:DataW H}{p:List MemPlace}(hv:Value.okWide Tryz.prog W .any b0 22 v)(h:DataW.Trod enc Tryz.prog W 0 (λ_=>true) true 22 v d p)
  (hw:∀n∈d.weights Tryz.prog 22,n≤reachBytes):∃l,FilesAt W v l∧l.length≤1099511627776*4∧(∀f∈l,f.name.length≤reachBytes∧f.firm.length≤reachBytes∧f.pend.length≤reachBytes):=by
 obtain⟨va,vn,vc,rfl⟩:=zk Tryz.underlying22 hv;obtain⟨fuel,h⟩:=h
 rcases Deep.open_slice Tryz.underlying22 h with⟨hc,_⟩|⟨a,len,cap,m,n,D,Pl,hc,_,hl,hm,hmm,hd,hx⟩
 ·have hc':va=none∧vn=0∧vc=0:=by simpa[Value.cells]using hc
  obtain⟨rfl,rfl,rfl⟩:=hc';exact⟨[],⟨none,0,rfl,.inl rfl⟩,by simp,by simp⟩
 ·have hc':va=some a∧vn=len∧vc=cap:=by simpa[Value.cells]using hc
  obtain⟨rfl,rfl,rfl⟩:=hc';have hmv:m=vc:=by simpa using hmm
  subst hmv;have e3:Tryz.prog.cellsOf 60=3:=by kernel_rfl
  have eB:Tryz.prog.bytesOf 60=48:=by kernel_rfl
  have hdd:d = .slice ((List.range vn).map D) ((List.range (m-vn)).map λj=>D (vn+j)):=by have:=congrArg Prod.fst hd;exact this
  have each:∀i,i<m→∃q:ByteArray×ByteArray×ByteArray,W.cell? (a.add (i*3))=some (.string q.1)∧W.cell? (a.add (i*3+1))=some (.string q.2.1)∧W.cell? (a.add (i*3+2))=some (.string q.2.2)∧D i = .agg [.lit (.string q.1.data.toList),.lit (.string q.2.1.data.toList),.lit (.string q.2.2.data.toList)]:=by
   intro i hi;obtain⟨cs',h1,h2⟩:=hx i hi;rw[e3]at h1;obtain⟨_,hlen,hcell⟩:=World.cells?_some h1;obtain⟨xs,k,_,hxy,_,hxl,hf⟩:=DataW.trod_struct Tryz.underlying60 h2
   match xs,hxl,cs',hlen with
   | [y0,y1,y2],_,[u0,u1,u2],_=>
    have g0:=hf 0 _ rfl;have g1:=hf 1 _ rfl;have g2:=hf 2 _ rfl;have c1:Tryz.prog.cellsOf 9=1:=by kernel_rfl
    simp[c1]at g0 g1 g2;obtain⟨s0,e0,f0,_⟩:=DataW.trod_string Tryz.underlying9 g0;obtain⟨s1,e1,f1,_⟩:=DataW.trod_string Tryz.underlying9 g1;obtain⟨s2,e2,f2,_⟩:=DataW.trod_string Tryz.underlying9 g2;have k0:=hcell 0 (by omega);have k1:=hcell 1 (by omega);have k2:=hcell 2 (by omega);rw[Deep.add_add]at k0 k1 k2;simp at e0 e1 e2;subst e0 e1 e2 f0 f1 f2;simp only[Prod.mk.injEq]at hxy;exact⟨(s0,s1,s2),by simpa using k0,by simpa using k1,by simpa using k2,by simpa using hxy.1⟩
  obtain⟨q,hq⟩:=Deep.choose_lt each;have hwt:∀i,i<vn→(q i).1.data.toList.length≤reachBytes∧(q i).2.1.data.toList.length≤reachBytes∧(q i).2.2.data.toList.length≤reachBytes:=by
   intro i hi;have hmem:D i∈(List.range vn).map D:=List.mem_map.2 ⟨i,List.mem_range.2 hi,rfl⟩;have hall:∀n∈(D i).weights Tryz.prog 60,n≤reachBytes:=λn hn=>hw n (by
    rw[hdd];simp only[DataW.weights,Tryz.underlying22,List.mem_cons,List.mem_append];exact .inr (.inl (zm hmem n hn)))
   rw[(hq i (by omega)).2.2.2]at hall;have hW:∀(A B C:List UInt8),(DataW.agg [.lit (.string A),.lit (.string B),.lit (.string C)]:DataW H).weights Tryz.prog 60=[A.length,B.length,C.length]:=by
    intro A B C;simp[DataW.weights,Tryz.underlying60,DataW.weightsEach]
   rw[hW]at hall;exact⟨hall _ (by simp),hall _ (by simp),hall _ (by simp)⟩
  have hlen:(vn+(m-vn))*48≤reachBytes:=hw _ (by
   rw[hdd];simp only[DataW.weights,Tryz.underlying22,List.mem_cons,List.length_map,List.length_range,eB];exact .inl trivial)
  have hr:reachBytes<2 ^ 47:=reachBytes_lt;refine⟨(List.range vn).map λi=>⟨(q i).1.data.toList,(q i).2.1.data.toList,(q i).2.2.data.toList⟩,⟨some a,m,by simp,?_⟩,by simp;omega,?_⟩
  ·by_cases h0:vn=0
   ·subst h0;exact .inl rfl
   ·obtain⟨b,o,sp⟩:=a
    have hsp:sp=none:=by simpa[Addr.add]using World.cell?_spot (hq 0 (by omega)).1
    subst hsp;refine .inr ⟨b,o,rfl,λi hi=>?_⟩;have hi':i<vn:=by simpa using hi
    obtain⟨k1,k2,k3,_⟩:=hq i (by omega);rw[add_plain]at k1 k2 k3;simp only[List.getElem_map,List.getElem_range];exact⟨_,_,_,rfl,rfl,rfl,k1,k2,k3⟩
  ·intro f hf
   obtain⟨i,hi,rfl⟩:=List.mem_map.1 hf;exact hwt i (List.mem_range.1 hi)
section
variable {H:Type} {enc:TypeId×Value→H} {P:Program} {w:World} {base:Nat} {spare:Nat→Bool} {held:Bool}
theorem zr {t0 t1 t2 t3 t4 t5:TypeId}{args:Array Value}{ds:List (DataW H)}{ps:List MemPlace}(h:DataW.TrodAll enc P w base spare held [t0,t1,t2,t3,t4,t5] args.toList ds ps) :
  ∃v0 v1 v2 v3 v4 v5 d0 d1 d2 d3 d4 d5 p0 p1 p2 p3 p4 p5,args=#[v0,v1,v2,v3,v4,v5]∧ds=[d0,d1,d2,d3,d4,d5]∧ps=p0++(p1++(p2++(p3++(p4++p5))))∧DataW.Trod enc P w base spare held t0 v0 d0 p0∧DataW.Trod enc P w base spare held t1 v1 d1 p1∧DataW.Trod enc P w base spare held t2 v2 d2 p2∧DataW.Trod enc P w base spare held t3 v3 d3 p3∧DataW.Trod enc P w base spare held t4 v4 d4 p4∧DataW.Trod enc P w base spare held t5 v5 d5 p5:=by
 obtain⟨v0,vs0,d0,ds0,p0,q0,hargs,rfl,rfl,h0,r0⟩:=trodAll_cons h;obtain⟨v1,v2,v3,v4,v5,d1,d2,d3,d4,d5,p1,p2,p3,p4,p5,e,rfl,rfl,h1,h2,h3,h4,h5⟩:=zh (args:=vs0.toArray) (by simpa using r0);have e2:vs0=[v1,v2,v3,v4,v5]:=by simpa using congrArg Array.toList e
 exact⟨v0,v1,v2,v3,v4,v5,d0,d1,d2,d3,d4,d5,p0,p1,p2,p3,p4,p5,by cases args;simp_all,rfl,by simp,h0,h1,h2,h3,h4,h5⟩
theorem zt {t0 t1 t2 t3 t4 t5:TypeId}{v0 v1 v2 v3 v4 v5:Value}{d0 d1 d2 d3 d4 d5:DataW H}{p0 p1 p2 p3 p4 p5:List MemPlace}(h0:DataW.Trod enc P w base spare held t0 v0 d0 p0)(h1:DataW.Trod enc P w base spare held t1 v1 d1 p1)
  (h2:DataW.Trod enc P w base spare held t2 v2 d2 p2) (h3:DataW.Trod enc P w base spare held t3 v3 d3 p3) (h4:DataW.Trod enc P w base spare held t4 v4 d4 p4) (h5:DataW.Trod enc P w base spare held t5 v5 d5 p5):DataW.TrodAll enc P w base spare held [t0,t1,t2,t3,t4,t5] [v0,v1,v2,v3,v4,v5] [d0,d1,d2,d3,d4,d5] (p0++(p1++(p2++(p3++(p4++p5))))):=
 ⟨p0,p1++(p2++(p3++(p4++p5))),h0,zj h1 h2 h3 h4 h5,rfl⟩
end
end
section
open Go.ChangeShapes Go.WideShapes Go.ChangeAt Go.RowKit
theorem zu {P:Program}{f:FuncId}{fn:Func}{s:ChangeSpec}{c:OpenClaim}
  (k0:c.wf (OpenSpec.ofChange s)=true)
  (k1:laidOutB P=true)
  (k2:mapsRowed P=true)
  (k3:fn.params.all (P.readableRec ·)=true)
  (k4:namedTie P c.named s.vars=true)
  (k5:(c.stops == [])=true)
  (k6:(P.stops == [])=true)
  (k7:(c.knobs == [])=true)
  (k8:(P.stopKnobs == [])=true)
  (k9:(c.inPlace == P.inPlace f)=true)
  (k10:(c.unfollowed == P.unfollowed f)=true)
  (k11:(c.recurses == P.recurses f)=true)
  (k12:(c.named == P.varsNamed f)=true)
  (k13:(c.maps == (fn.params.toList++s.plain.varTypes P).any (P.mapsRec ·))=true)
  (k14:(c.ifaces == (fn.params.toList++s.plain.varTypes P).any (P.ifacesRec ·))=true)
  (k15:(c.mapsOut == P.mapsAmong fn.resultTypes.toList)=true)
  (k16:(c.loops == (fn.params.toList++s.plain.varTypes P).any (P.loopsFrom ·))=true)
  (k17:(c.wideKeys == (fn.params.toList++s.plain.varTypes P++fn.resultTypes.toList).any (P.wideKeysFrom ·))=true)
  (k18:s.vars.all (P.varReadable ·)=true)
  (k19:fn.resultTypes.all (λt=>P.readableRec t && decide (t<P.types.size))=true)
  (k20:(c.ifacesOut == fn.resultTypes.toList.any (P.ifacesRec ·))=true)
  (k21:(c.loopsOut == fn.resultTypes.toList.any (P.loopsFrom ·))=true)
  (k22:(c.plainKeys == P.plainKeys)=true)
  (k23:c.shortTexts.isNone=true)
  (k24:P.stopsHeard=true)
  (k25:P.mayEnter=true)
  (k26:(c.lifted == P.liftsFinal)=true)
  (k27:(P.make == some c.make)=true)
  (k28:(c.kinds == (if c.domain.isEmpty then [] else fn.params.toList.map λt=>match P.underlying t with|some (.int k)=>some k|_=>none))=true)
  (k29:(c.pinned == c.pinnedBy)=true)
  (k30:(c.veiled == (fn.params.toList++s.plain.varTypes P++fn.resultTypes.toList).any (P.veiledRec ·))=true)
  (k31:c.veiledFits P fn.params.toList (fn.params.toList++s.plain.varTypes P++fn.resultTypes.toList)=true)
  : joinedFacts P f fn s c=true:=by
 unfold joinedFacts;simp only[Bool.and_eq_true];exact⟨⟨⟨⟨⟨⟨⟨⟨⟨⟨⟨⟨⟨⟨⟨⟨⟨⟨⟨⟨⟨⟨⟨⟨⟨⟨⟨⟨⟨⟨⟨k0,k1⟩,k2⟩,k3⟩,k4⟩,k5⟩,k6⟩,k7⟩,k8⟩,k9⟩,k10⟩,k11⟩,k12⟩,k13⟩,k14⟩,k15⟩,k16⟩,k17⟩,k18⟩,k19⟩,k20⟩,k21⟩,k22⟩,k23⟩,k24⟩,k25⟩,k26⟩,k27⟩,k28⟩,k29⟩,k30⟩,k31⟩
theorem zv:laidOutB Tryz.prog=true:=by kernel_rfl
theorem zw:Rows.storeNewestRow.wf (OpenSpec.ofChange Rows.storeNewestSpec)=true:=by kernel_rfl
theorem zx:laidOutB Tryz.pinned.checked.prog=true:=by kernel_rfl
theorem zy:mapsRowed Tryz.pinned.checked.prog=true:=by kernel_rfl
theorem zz:Tryz.f3.params.all (Tryz.pinned.checked.prog.readableRec ·)=true:=by kernel_rfl
theorem zA:namedTie Tryz.pinned.checked.prog Rows.storeNewestRow.named Rows.storeNewestSpec.vars=true:=by kernel_rfl
theorem zB:(Rows.storeNewestRow.stops == [])=true:=by kernel_rfl
theorem zD:(Tryz.pinned.checked.prog.stops == [])=true:=by kernel_rfl
theorem zE:(Rows.storeNewestRow.knobs == [])=true:=by kernel_rfl
theorem zF:(Tryz.pinned.checked.prog.stopKnobs == [])=true:=by kernel_rfl
theorem zG:(Rows.storeNewestRow.inPlace == Tryz.pinned.checked.prog.inPlace 3)=true:=by kernel_rfl
theorem zH:(Rows.storeNewestRow.unfollowed == Tryz.pinned.checked.prog.unfollowed 3)=true:=by kernel_rfl
theorem zI:(Rows.storeNewestRow.recurses == Tryz.pinned.checked.prog.recurses 3)=true:=by kernel_rfl
theorem zJ:(Rows.storeNewestRow.named == Tryz.pinned.checked.prog.varsNamed 3)=true:=by kernel_rfl
theorem zK:(Rows.storeNewestRow.maps == (Tryz.f3.params.toList++Rows.storeNewestSpec.plain.varTypes Tryz.pinned.checked.prog).any (Tryz.pinned.checked.prog.mapsRec ·))=true:=by kernel_rfl
theorem zL:(Rows.storeNewestRow.ifaces == (Tryz.f3.params.toList++Rows.storeNewestSpec.plain.varTypes Tryz.pinned.checked.prog).any (Tryz.pinned.checked.prog.ifacesRec ·))=true:=by kernel_rfl
theorem zM:(Rows.storeNewestRow.mapsOut == Tryz.pinned.checked.prog.mapsAmong Tryz.f3.resultTypes.toList)=true:=by kernel_rfl
theorem zN:(Rows.storeNewestRow.loops == (Tryz.f3.params.toList++Rows.storeNewestSpec.plain.varTypes Tryz.pinned.checked.prog).any (Tryz.pinned.checked.prog.loopsFrom ·))=true:=by kernel_rfl
theorem zO:(Rows.storeNewestRow.wideKeys == (Tryz.f3.params.toList++Rows.storeNewestSpec.plain.varTypes Tryz.pinned.checked.prog++Tryz.f3.resultTypes.toList).any (Tryz.pinned.checked.prog.wideKeysFrom ·))=true:=by kernel_rfl
theorem zP:Rows.storeNewestSpec.vars.all (Tryz.pinned.checked.prog.varReadable ·)=true:=by kernel_rfl
theorem zQ:Tryz.f3.resultTypes.all (λt=>Tryz.pinned.checked.prog.readableRec t && decide (t<Tryz.pinned.checked.prog.types.size))=true:=by kernel_rfl
theorem zR:(Rows.storeNewestRow.ifacesOut == Tryz.f3.resultTypes.toList.any (Tryz.pinned.checked.prog.ifacesRec ·))=true:=by kernel_rfl
theorem zS:(Rows.storeNewestRow.loopsOut == Tryz.f3.resultTypes.toList.any (Tryz.pinned.checked.prog.loopsFrom ·))=true:=by kernel_rfl
theorem zT:(Rows.storeNewestRow.plainKeys == Tryz.pinned.checked.prog.plainKeys)=true:=by kernel_rfl
theorem zU:Rows.storeNewestRow.shortTexts.isNone=true:=by kernel_rfl
theorem zW:Tryz.pinned.checked.prog.stopsHeard=true:=by kernel_rfl
theorem zX:Tryz.pinned.checked.prog.mayEnter=true:=by kernel_rfl
theorem zY:(Rows.storeNewestRow.lifted == Tryz.pinned.checked.prog.liftsFinal)=true:=by kernel_rfl
theorem zZ:(Tryz.pinned.checked.prog.make == some Rows.storeNewestRow.make)=true:=by kernel_rfl
theorem Aa:(Rows.storeNewestRow.kinds == (if Rows.storeNewestRow.domain.isEmpty then [] else Tryz.f3.params.toList.map λt=>match Tryz.pinned.checked.prog.underlying t with|some (.int k)=>some k|_=>none))=true:=by kernel_rfl
theorem Ab:(Rows.storeNewestRow.pinned == Rows.storeNewestRow.pinnedBy)=true:=by kernel_rfl
theorem Ac:(Rows.storeNewestRow.veiled == (Tryz.f3.params.toList++Rows.storeNewestSpec.plain.varTypes Tryz.pinned.checked.prog++Tryz.f3.resultTypes.toList).any (Tryz.pinned.checked.prog.veiledRec ·))=true:=by kernel_rfl
theorem Ad:Rows.storeNewestRow.veiledFits Tryz.pinned.checked.prog Tryz.f3.params.toList (Tryz.f3.params.toList++Rows.storeNewestSpec.plain.varTypes Tryz.pinned.checked.prog++Tryz.f3.resultTypes.toList)=true:=by kernel_rfl
theorem Ae:Tryz.f3.isInstance Tryz.pinned.checked.prog Rows.storeNewestRow.origin Rows.storeNewestRow.targs:=of_decide_eq_true (by kernel_rfl)
theorem Af:Tryz.f3.isWrapper Tryz.pinned.checked.prog Rows.storeNewestRow.wrapper Rows.storeNewestRow.mainSum:=by unfold Func.isWrapper;rw[if_neg (by decide +kernel)];exact⟨rfl,rfl⟩
theorem Ag:Tryz.pinned.checked.prog.funcNamed Rows.storeNewestRow.func=some 3:=by kernel_rfl
theorem Ah:Rows.storeNewestRow.wfByText (OpenSpec.ofChange Rows.storeNewestSpec)=true:=by kernel_rfl
theorem Ai:true=Tryz.pinned.checked.prog.looks []:=by kernel_rfl
theorem Aj:false=Rows.storeNewestRow.goesBy Tryz.pinned.checked.prog:=by kernel_rfl
theorem storeNewest_func:Tryz.prog.funcNamed "souk/souklaw27.StoreNewest" = some 3:=by kernel_rfl
end
end Go.Proofs.YtaeakdichkhjaaaGreatDoor
