/- A state, and projections, that came in. -/
import Derived.Test.YtaeakdichkhjaaaGreatDoorQAh
import Derived.Lib.SmallJoins
import Derived.SizedLaws
import Derived.Deep.Slices
set_option maxHeartbeats 1000000
open Go.Lib(hid)
namespace Go.Proofs.YtaeakdichkhjaaaGreatDoor
section
open Go.ChangeShapes Go.WideShapes Go.ChangeAt Go.RowKit
theorem vz {H:Type}{P:Program}{e:TypeId}:∀{l:List (DataW H)} {d:DataW H},d∈l→∀n∈d.weights P e,n∈DataW.weightsAll P e l
 | x::r,d,hd,n,hn=>by
  simp only[DataW.weightsAll,List.mem_append]
  rcases List.mem_cons.1 hd with rfl|hd
  ·exact .inl hn
  ·exact .inr (vz hd n hn)
 | [],_,hd,_,_=>by cases hd
theorem vA (b o j:Nat):(⟨b,o,none⟩:Addr).add j=⟨b,o+j,none⟩:=by unfold Addr.add;split<;>simp_all
theorem vB {H α:Type}[Inhabited α]{enc:TypeId×Value→H}{W:World}(cells:α→List Value)(k B:Nat)(t e:TypeId)(ht:Tryz.prog.underlying t=some (.slice e))(ek:Tryz.prog.cellsOf e=k)(eB:Tryz.prog.bytesOf e=B)(hk:0<k)(Good:α→DataW H→Prop)
  (hlen:∀q,(cells q).length=k)
  (each:∀(n:Nat) (cs:List Value) (x:DataW H×List MemPlace),DataW.trod enc Tryz.prog W 0 (λ_=>true) true n e cs=some x→cs.length=k→∃q,cs=cells q∧Good q x.1)
  {v:Value} {fuel:Nat} {d:DataW H} {p:List MemPlace} (h:DataW.trod enc Tryz.prog W 0 (λ_=>true) true fuel t [v]=some (d,p)) (hw:∀n∈d.weights Tryz.prog t,n≤reachBytes) :
  ∃l,SlAt cells k (λg=>g<W.heap.size) W v l∧l.length*B≤reachBytes∧∀x∈l,∃d',Good x d'∧∀n∈d'.weights Tryz.prog e,n≤reachBytes:=by
 rcases Deep.open_slice ht h with⟨hc,_⟩|⟨a,len,cap,m,n,D,Pl,hc,_,hl,hm,hmm,hd,hx⟩
 ·have hc':v = .slice none 0 0:=by simpa using hc
  subst hc';exact⟨[],SlAt.nil W,by simp,by simp⟩
 ·have hc':v = .slice (some a) len cap:=by simpa using hc
  subst hc';have hmv:m=cap:=by simpa using hmm
  subst hmv;have hdd:d = .slice ((List.range len).map D) ((List.range (m-len)).map λj=>D (len+j)):=by have:=congrArg Prod.fst hd;exact this
  have each2:∀i,i<m→∃q:α,(∀j u,(cells q)[j]?=some u→W.cell? (a.add (i*k+j))=some u)∧Good q (D i):=by
   intro i hi;obtain⟨cs',h1,h2⟩:=hx i hi;rw[ek]at h1;obtain⟨_,hlen',hcell⟩:=World.cells?_some h1;obtain⟨q,rfl,hg⟩:=each _ _ _ h2 hlen';refine⟨q,λj u hj=>?_,hg⟩;have hjl:=(List.getElem?_eq_some_iff.1 hj).1;rw[hlen q]at hjl;have k0:=hcell j hjl;rw[Deep.add_add]at k0;rw[k0];obtain⟨_,hj2⟩:=List.getElem?_eq_some_iff.1 hj
   first
    | (rw[List.getD_eq_getElem?_getD,hj];rfl)
    | exact hj
    | (simp only[hj2])
  obtain⟨q,hq⟩:=Deep.choose_lt each2;have hwt:∀i,i<len→∀n∈(D i).weights Tryz.prog e,n≤reachBytes:=by
   intro i hi n hn;have hmem:D i∈(List.range len).map D:=List.mem_map.2 ⟨i,List.mem_range.2 hi,rfl⟩;exact hw n (by
    rw[hdd];simp only[DataW.weights,ht,List.mem_cons,List.mem_append];exact .inr (.inl (vz hmem n hn)))
  have hlb:(len+(m-len))*B≤reachBytes:=hw _ (by
   rw[hdd];simp only[DataW.weights,ht,List.mem_cons,List.length_map,List.length_range,eB];exact .inl trivial)
  refine⟨(List.range len).map q,⟨some a,m,by simp,by simpa using hl,?_⟩,?_,?_⟩
  ·by_cases h0:len=0
   ·subst h0;exact .inl rfl
   ·obtain⟨b,o,sp⟩:=a
    have h9:=(hq 0 (by omega)).1 0 _ (List.getElem?_eq_getElem (by rw[hlen];exact hk));have hsp:sp=none:=by simpa[Addr.add]using World.cell?_spot h9
    subst hsp;rw[vA]at h9;refine .inr ⟨b,o,rfl,block_lt_of_cell h9,λi hi j u hu=>?_⟩;have hi':i<len:=by simpa using hi
    simp only[List.getElem_map,List.getElem_range]at hu;have:=(hq i (by omega)).1 j u hu
    rwa [vA]at this
  ·rw[List.length_map,List.length_range]
   refine Nat.le_trans ?_ hlb;exact Nat.mul_le_mul_right _ (by omega)
  ·intro x hx
   obtain⟨i,hi,rfl⟩:=List.mem_map.1 hx;exact⟨D i,(hq i (by have:=List.mem_range.1 hi;omega)).2,hwt i (List.mem_range.1 hi)⟩
def vC (x:AccD):Prop:=x.name.length≤reachBytes
instance:Inhabited AccD:=⟨⟨[],false⟩⟩
set_option maxRecDepth 100000 in
theorem vD {H:Type}{enc:TypeId×Value→H}{W:World}(n:Nat)(cs:List Value)(x:DataW H×List MemPlace)(h2:DataW.trod enc Tryz.prog W 0 (λ_=>true) true n 70 cs=some x)(hlen:cs.length=2) :
  ∃q:AccD,cs=AccD.cells q∧((∀n∈x.1.weights Tryz.prog 70,n≤reachBytes)→vC q):=by
 obtain⟨xs,k,_,hxy,_,hxl,hf⟩:=DataW.trod_struct Tryz.underlying70 h2
 match xs,hxl,cs,hlen with
 | [y0,y1],_,[u0,u1],_=>
  have g0:=hf 0 _ rfl;have g1:=hf 1 _ rfl;have c0:Tryz.prog.cellsOf 4=1:=by kernel_rfl
  have c1:Tryz.prog.cellsOf 9=1:=by kernel_rfl
  simp[c0,c1]at g0 g1;obtain⟨n0,e0,f0,_⟩:=DataW.trod_string Tryz.underlying9 g0;obtain⟨n1,e1,f1⟩:=DataW.trod_bool Tryz.underlying4 g1;simp at e0 e1;subst e0 f0 e1 f1;have hx1:x.1 = .agg [.lit (.string n0.data.toList),.lit (.bool n1)]:=by rw[hxy];simp
  refine⟨⟨n0.data.toList,n1⟩,by unfold AccD.cells;simp,λhwt=>?_⟩;unfold vC;dsimp only;exact hwt _ (by rw[hx1];simp[DataW.weights,Tryz.underlying70,DataW.weightsEach])
theorem vE {H:Type}{enc:TypeId×Value→H}{W:World}{v:Value}{fuel:Nat}{d:DataW H}{p:List MemPlace}(h:DataW.trod enc Tryz.prog W 0 (λ_=>true) true fuel 23 [v]=some (d,p))(hw:∀n∈d.weights Tryz.prog 23,n≤reachBytes) :
  ∃l,AccsAt (λg=>g<W.heap.size) W v l∧l.length*24≤reachBytes∧∀x∈l,vC x:=by
 obtain⟨l,hl,hlb,hall⟩:=vB AccD.cells 2 24 23 70 Tryz.underlying23 (by kernel_rfl) (by kernel_rfl) (by omega) (λq d=>(∀n∈d.weights Tryz.prog 70,n≤reachBytes)→vC q) (λ_=>rfl) (λn cs x h2 hlen=>vD n cs x h2 hlen) h hw;exact⟨l,hl,hlb,λx hx=>by obtain⟨d',h1,h2⟩:=hall x hx;exact h1 h2⟩
def vG (x:InsD):Prop:=x.name.length≤reachBytes∧(-9223372036854775808≤x.tick∧x.tick≤9223372036854775807)
instance:Inhabited InsD:=⟨⟨[],0,false⟩⟩
set_option maxRecDepth 100000 in
theorem vH {H:Type}{enc:TypeId×Value→H}{W:World}(n:Nat)(cs:List Value)(x:DataW H×List MemPlace)(h2:DataW.trod enc Tryz.prog W 0 (λ_=>true) true n 72 cs=some x)(hlen:cs.length=3) :
  ∃q:InsD,cs=InsD.cells q∧((∀n∈x.1.weights Tryz.prog 72,n≤reachBytes)→vG q):=by
 obtain⟨xs,k,_,hxy,_,hxl,hf⟩:=DataW.trod_struct Tryz.underlying72 h2
 match xs,hxl,cs,hlen with
 | [y0,y1,y2],_,[u0,u1,u2],_=>
  have g0:=hf 0 _ rfl;have g1:=hf 1 _ rfl;have g2:=hf 2 _ rfl;have c0:Tryz.prog.cellsOf 4=1:=by kernel_rfl
  have c1:Tryz.prog.cellsOf 2=1:=by kernel_rfl
  have c2:Tryz.prog.cellsOf 9=1:=by kernel_rfl
  simp[c0,c1,c2]at g0 g1 g2;obtain⟨n0,e0,f0,_⟩:=DataW.trod_string Tryz.underlying9 g0;obtain⟨n1,e1,f1,w1⟩:=DataW.trod_int Tryz.underlying2 g1;obtain⟨n2,e2,f2⟩:=DataW.trod_bool Tryz.underlying4 g2;simp at e0 e1 e2;subst e0 f0 e1 f1 e2 f2;have b1:=bounds_i64 w1;have hx1:x.1 = .agg [.lit (.string n0.data.toList),.lit (.int .i64 n1),.lit (.bool n2)]:=by rw[hxy];simp
  refine⟨⟨n0.data.toList,n1,n2⟩,by unfold InsD.cells;simp,λhwt=>?_⟩;unfold vG;dsimp only;exact⟨hwt _ (by rw[hx1];simp[DataW.weights,Tryz.underlying72,DataW.weightsEach]),b1⟩
theorem vI {H:Type}{enc:TypeId×Value→H}{W:World}{v:Value}{fuel:Nat}{d:DataW H}{p:List MemPlace}(h:DataW.trod enc Tryz.prog W 0 (λ_=>true) true fuel 24 [v]=some (d,p))(hw:∀n∈d.weights Tryz.prog 24,n≤reachBytes) :
  ∃l,InssAt (λg=>g<W.heap.size) W v l∧l.length*32≤reachBytes∧∀x∈l,vG x:=by
 obtain⟨l,hl,hlb,hall⟩:=vB InsD.cells 3 32 24 72 Tryz.underlying24 (by kernel_rfl) (by kernel_rfl) (by omega) (λq d=>(∀n∈d.weights Tryz.prog 72,n≤reachBytes)→vG q) (λ_=>rfl) (λn cs x h2 hlen=>vH n cs x h2 hlen) h hw;exact⟨l,hl,hlb,λx hx=>by obtain⟨d',h1,h2⟩:=hall x hx;exact h1 h2⟩
def vJ (x:RowD):Prop:=(-9223372036854775808≤x.acct∧x.acct≤9223372036854775807)∧(-9223372036854775808≤x.asset∧x.asset≤9223372036854775807)∧(-9223372036854775808≤x.free∧x.free≤9223372036854775807)∧(-9223372036854775808≤x.held∧x.held≤9223372036854775807)
instance:Inhabited RowD:=⟨⟨0,0,0,0⟩⟩
set_option maxRecDepth 100000 in
theorem vK {H:Type}{enc:TypeId×Value→H}{W:World}(n:Nat)(cs:List Value)(x:DataW H×List MemPlace)(h2:DataW.trod enc Tryz.prog W 0 (λ_=>true) true n 98 cs=some x)(hlen:cs.length=4) :
  ∃q:RowD,cs=RowD.cells q∧((∀n∈x.1.weights Tryz.prog 98,n≤reachBytes)→vJ q):=by
 obtain⟨xs,k,_,hxy,_,hxl,hf⟩:=DataW.trod_struct Tryz.underlying98 h2
 match xs,hxl,cs,hlen with
 | [y0,y1,y2,y3],_,[u0,u1,u2,u3],_=>
  have g0:=hf 0 _ rfl;have g1:=hf 1 _ rfl;have g2:=hf 2 _ rfl;have g3:=hf 3 _ rfl;have c0:Tryz.prog.cellsOf 3=1:=by kernel_rfl
  have c1:Tryz.prog.cellsOf 2=1:=by kernel_rfl
  simp[c0,c1]at g0 g1 g2 g3;obtain⟨n0,e0,f0,w0⟩:=DataW.trod_int Tryz.underlying3 g0;obtain⟨n1,e1,f1,w1⟩:=DataW.trod_int Tryz.underlying3 g1;obtain⟨n2,e2,f2,w2⟩:=DataW.trod_int Tryz.underlying2 g2;obtain⟨n3,e3,f3,w3⟩:=DataW.trod_int Tryz.underlying2 g3;simp at e0 e1 e2 e3;subst e0 f0 e1 f1 e2 f2 e3 f3;have b0:=bounds_i64 w0;have b1:=bounds_i64 w1;have b2:=bounds_i64 w2;have b3:=bounds_i64 w3;have hx1:x.1 = .agg [.lit (.int .i64 n0),.lit (.int .i64 n1),.lit (.int .i64 n2),.lit (.int .i64 n3)]:=by rw[hxy];simp
  refine⟨⟨n0,n1,n2,n3⟩,by unfold RowD.cells;simp,λhwt=>?_⟩;unfold vJ;dsimp only;exact⟨b0,b1,b2,b3⟩
theorem vL {H:Type}{enc:TypeId×Value→H}{W:World}{v:Value}{fuel:Nat}{d:DataW H}{p:List MemPlace}(h:DataW.trod enc Tryz.prog W 0 (λ_=>true) true fuel 25 [v]=some (d,p))(hw:∀n∈d.weights Tryz.prog 25,n≤reachBytes) :
  ∃l,RowsAt (λg=>g<W.heap.size) W v l∧l.length*32≤reachBytes∧∀x∈l,vJ x:=by
 obtain⟨l,hl,hlb,hall⟩:=vB RowD.cells 4 32 25 98 Tryz.underlying25 (by kernel_rfl) (by kernel_rfl) (by omega) (λq d=>(∀n∈d.weights Tryz.prog 98,n≤reachBytes)→vJ q) (λ_=>rfl) (λn cs x h2 hlen=>vK n cs x h2 hlen) h hw;exact⟨l,hl,hlb,λx hx=>by obtain⟨d',h1,h2⟩:=hall x hx;exact h1 h2⟩
def vM (x:OrdD):Prop:=(-9223372036854775808≤x.id∧x.id≤9223372036854775807)∧(-9223372036854775808≤x.acct∧x.acct≤9223372036854775807)∧(-9223372036854775808≤x.inst∧x.inst≤9223372036854775807)∧(0≤x.side∧x.side≤255)∧(-9223372036854775808≤x.price∧x.price≤9223372036854775807)∧(-9223372036854775808≤x.left∧x.left≤9223372036854775807)
instance:Inhabited OrdD:=⟨⟨0,0,0,0,0,0⟩⟩
set_option maxRecDepth 100000 in
theorem vN {H:Type}{enc:TypeId×Value→H}{W:World}(n:Nat)(cs:List Value)(x:DataW H×List MemPlace)(h2:DataW.trod enc Tryz.prog W 0 (λ_=>true) true n 101 cs=some x)(hlen:cs.length=6) :
  ∃q:OrdD,cs=OrdD.cells q∧((∀n∈x.1.weights Tryz.prog 101,n≤reachBytes)→vM q):=by
 obtain⟨xs,k,_,hxy,_,hxl,hf⟩:=DataW.trod_struct Tryz.underlying101 h2
 match xs,hxl,cs,hlen with
 | [y0,y1,y2,y3,y4,y5],_,[u0,u1,u2,u3,u4,u5],_=>
  have g0:=hf 0 _ rfl;have g1:=hf 1 _ rfl;have g2:=hf 2 _ rfl;have g3:=hf 3 _ rfl;have g4:=hf 4 _ rfl;have g5:=hf 5 _ rfl;have c0:Tryz.prog.cellsOf 3=1:=by kernel_rfl
  have c1:Tryz.prog.cellsOf 2=1:=by kernel_rfl
  have c2:Tryz.prog.cellsOf 5=1:=by kernel_rfl
  simp[c0,c1,c2]at g0 g1 g2 g3 g4 g5;obtain⟨n0,e0,f0,w0⟩:=DataW.trod_int Tryz.underlying2 g0;obtain⟨n1,e1,f1,w1⟩:=DataW.trod_int Tryz.underlying3 g1;obtain⟨n2,e2,f2,w2⟩:=DataW.trod_int Tryz.underlying3 g2;obtain⟨n3,e3,f3,w3⟩:=DataW.trod_int Tryz.underlying5 g3;obtain⟨n4,e4,f4,w4⟩:=DataW.trod_int Tryz.underlying2 g4;obtain⟨n5,e5,f5,w5⟩:=DataW.trod_int Tryz.underlying2 g5;simp at e0 e1 e2 e3 e4 e5;subst e0 f0 e1 f1 e2 f2 e3 f3 e4 f4 e5 f5;have b0:=bounds_i64 w0;have b1:=bounds_i64 w1;have b2:=bounds_i64 w2;have b3:=bounds_u8 w3;have b4:=bounds_i64 w4;have b5:=bounds_i64 w5;have hx1:x.1 = .agg [.lit (.int .i64 n0),.lit (.int .i64 n1),.lit (.int .i64 n2),.lit (.int .u8 n3),.lit (.int .i64 n4),.lit (.int .i64 n5)]:=by rw[hxy];simp
  refine⟨⟨n0,n1,n2,n3,n4,n5⟩,by unfold OrdD.cells;simp,λhwt=>?_⟩;unfold vM;dsimp only;exact⟨b0,b1,b2,b3,b4,b5⟩
theorem vO {H:Type}{enc:TypeId×Value→H}{W:World}{v:Value}{fuel:Nat}{d:DataW H}{p:List MemPlace}(h:DataW.trod enc Tryz.prog W 0 (λ_=>true) true fuel 26 [v]=some (d,p))(hw:∀n∈d.weights Tryz.prog 26,n≤reachBytes) :
  ∃l,OrdsAt (λg=>g<W.heap.size) W v l∧l.length*48≤reachBytes∧∀x∈l,vM x:=by
 obtain⟨l,hl,hlb,hall⟩:=vB OrdD.cells 6 48 26 101 Tryz.underlying26 (by kernel_rfl) (by kernel_rfl) (by omega) (λq d=>(∀n∈d.weights Tryz.prog 101,n≤reachBytes)→vM q) (λ_=>rfl) (λn cs x h2 hlen=>vN n cs x h2 hlen) h hw;exact⟨l,hl,hlb,λx hx=>by obtain⟨d',h1,h2⟩:=hall x hx;exact h1 h2⟩
def vP (x:BidD):Prop:=(-9223372036854775808≤x.acct∧x.acct≤9223372036854775807)∧(-9223372036854775808≤x.amount∧x.amount≤9223372036854775807)
instance:Inhabited BidD:=⟨⟨0,0⟩⟩
set_option maxRecDepth 100000 in
theorem vQ {H:Type}{enc:TypeId×Value→H}{W:World}(n:Nat)(cs:List Value)(x:DataW H×List MemPlace)(h2:DataW.trod enc Tryz.prog W 0 (λ_=>true) true n 150 cs=some x)(hlen:cs.length=2) :
  ∃q:BidD,cs=BidD.cells q∧((∀n∈x.1.weights Tryz.prog 150,n≤reachBytes)→vP q):=by
 obtain⟨xs,k,_,hxy,_,hxl,hf⟩:=DataW.trod_struct Tryz.underlying150 h2
 match xs,hxl,cs,hlen with
 | [y0,y1],_,[u0,u1],_=>
  have g0:=hf 0 _ rfl;have g1:=hf 1 _ rfl;have c0:Tryz.prog.cellsOf 3=1:=by kernel_rfl
  have c1:Tryz.prog.cellsOf 2=1:=by kernel_rfl
  simp[c0,c1]at g0 g1;obtain⟨n0,e0,f0,w0⟩:=DataW.trod_int Tryz.underlying3 g0;obtain⟨n1,e1,f1,w1⟩:=DataW.trod_int Tryz.underlying2 g1;simp at e0 e1;subst e0 f0 e1 f1;have b0:=bounds_i64 w0;have b1:=bounds_i64 w1;have hx1:x.1 = .agg [.lit (.int .i64 n0),.lit (.int .i64 n1)]:=by rw[hxy];simp
  refine⟨⟨n0,n1⟩,by unfold BidD.cells;simp,λhwt=>?_⟩;unfold vP;dsimp only;exact⟨b0,b1⟩
def vR (x:OpnD):Prop:=(-9223372036854775808≤x.acct∧x.acct≤9223372036854775807)∧(-9223372036854775808≤x.id∧x.id≤9223372036854775807)∧(-9223372036854775808≤x.inst∧x.inst≤9223372036854775807)∧(0≤x.side∧x.side≤255)∧(-9223372036854775808≤x.price∧x.price≤9223372036854775807)∧(-9223372036854775808≤x.left∧x.left≤9223372036854775807)
instance:Inhabited OpnD:=⟨⟨0,0,0,0,0,0⟩⟩
set_option maxRecDepth 100000 in
theorem vS {H:Type}{enc:TypeId×Value→H}{W:World}(n:Nat)(cs:List Value)(x:DataW H×List MemPlace)(h2:DataW.trod enc Tryz.prog W 0 (λ_=>true) true n 106 cs=some x)(hlen:cs.length=6) :
  ∃q:OpnD,cs=OpnD.cells q∧((∀n∈x.1.weights Tryz.prog 106,n≤reachBytes)→vR q):=by
 obtain⟨xs,k,_,hxy,_,hxl,hf⟩:=DataW.trod_struct Tryz.underlying106 h2
 match xs,hxl,cs,hlen with
 | [y0,y1,y2,y3,y4,y5],_,[u0,u1,u2,u3,u4,u5],_=>
  have g0:=hf 0 _ rfl;have g1:=hf 1 _ rfl;have g2:=hf 2 _ rfl;have g3:=hf 3 _ rfl;have g4:=hf 4 _ rfl;have g5:=hf 5 _ rfl;have c0:Tryz.prog.cellsOf 3=1:=by kernel_rfl
  have c1:Tryz.prog.cellsOf 2=1:=by kernel_rfl
  have c2:Tryz.prog.cellsOf 5=1:=by kernel_rfl
  simp[c0,c1,c2]at g0 g1 g2 g3 g4 g5;obtain⟨n0,e0,f0,w0⟩:=DataW.trod_int Tryz.underlying3 g0;obtain⟨n1,e1,f1,w1⟩:=DataW.trod_int Tryz.underlying2 g1;obtain⟨n2,e2,f2,w2⟩:=DataW.trod_int Tryz.underlying3 g2;obtain⟨n3,e3,f3,w3⟩:=DataW.trod_int Tryz.underlying5 g3;obtain⟨n4,e4,f4,w4⟩:=DataW.trod_int Tryz.underlying2 g4;obtain⟨n5,e5,f5,w5⟩:=DataW.trod_int Tryz.underlying2 g5;simp at e0 e1 e2 e3 e4 e5;subst e0 f0 e1 f1 e2 f2 e3 f3 e4 f4 e5 f5;have b0:=bounds_i64 w0;have b1:=bounds_i64 w1;have b2:=bounds_i64 w2;have b3:=bounds_u8 w3;have b4:=bounds_i64 w4;have b5:=bounds_i64 w5;have hx1:x.1 = .agg [.lit (.int .i64 n0),.lit (.int .i64 n1),.lit (.int .i64 n2),.lit (.int .u8 n3),.lit (.int .i64 n4),.lit (.int .i64 n5)]:=by rw[hxy];simp
  refine⟨⟨n0,n1,n2,n3,n4,n5⟩,by unfold OpnD.cells;simp,λhwt=>?_⟩;unfold vR;dsimp only;exact⟨b0,b1,b2,b3,b4,b5⟩
theorem vT {H:Type}{enc:TypeId×Value→H}{W:World}{v:Value}{fuel:Nat}{d:DataW H}{p:List MemPlace}(h:DataW.trod enc Tryz.prog W 0 (λ_=>true) true fuel 30 [v]=some (d,p))(hw:∀n∈d.weights Tryz.prog 30,n≤reachBytes) :
  ∃l,OpnsAt (λg=>g<W.heap.size) W v l∧l.length*48≤reachBytes∧∀x∈l,vR x:=by
 obtain⟨l,hl,hlb,hall⟩:=vB OpnD.cells 6 48 30 106 Tryz.underlying30 (by kernel_rfl) (by kernel_rfl) (by omega) (λq d=>(∀n∈d.weights Tryz.prog 106,n≤reachBytes)→vR q) (λ_=>rfl) (λn cs x h2 hlen=>vS n cs x h2 hlen) h hw;exact⟨l,hl,hlb,λx hx=>by obtain⟨d',h1,h2⟩:=hall x hx;exact h1 h2⟩
def vU (x:LotD):Prop:=(-9223372036854775808≤x.id∧x.id≤9223372036854775807)∧(-9223372036854775808≤x.seller∧x.seller≤9223372036854775807)∧(-9223372036854775808≤x.inst∧x.inst≤9223372036854775807)∧(-9223372036854775808≤x.qty∧x.qty≤9223372036854775807)
instance:Inhabited LotD:=⟨⟨0,0,0,0⟩⟩
set_option maxRecDepth 100000 in
theorem vV {H:Type}{enc:TypeId×Value→H}{W:World}(n:Nat)(cs:List Value)(x:DataW H×List MemPlace)(h2:DataW.trod enc Tryz.prog W 0 (λ_=>true) true n 109 cs=some x)(hlen:cs.length=4) :
  ∃q:LotD,cs=LotD.cells q∧((∀n∈x.1.weights Tryz.prog 109,n≤reachBytes)→vU q):=by
 obtain⟨xs,k,_,hxy,_,hxl,hf⟩:=DataW.trod_struct Tryz.underlying109 h2
 match xs,hxl,cs,hlen with
 | [y0,y1,y2,y3],_,[u0,u1,u2,u3],_=>
  have g0:=hf 0 _ rfl;have g1:=hf 1 _ rfl;have g2:=hf 2 _ rfl;have g3:=hf 3 _ rfl;have c0:Tryz.prog.cellsOf 3=1:=by kernel_rfl
  have c1:Tryz.prog.cellsOf 2=1:=by kernel_rfl
  simp[c0,c1]at g0 g1 g2 g3;obtain⟨n0,e0,f0,w0⟩:=DataW.trod_int Tryz.underlying2 g0;obtain⟨n1,e1,f1,w1⟩:=DataW.trod_int Tryz.underlying3 g1;obtain⟨n2,e2,f2,w2⟩:=DataW.trod_int Tryz.underlying3 g2;obtain⟨n3,e3,f3,w3⟩:=DataW.trod_int Tryz.underlying2 g3;simp at e0 e1 e2 e3;subst e0 f0 e1 f1 e2 f2 e3 f3;have b0:=bounds_i64 w0;have b1:=bounds_i64 w1;have b2:=bounds_i64 w2;have b3:=bounds_i64 w3;have hx1:x.1 = .agg [.lit (.int .i64 n0),.lit (.int .i64 n1),.lit (.int .i64 n2),.lit (.int .i64 n3)]:=by rw[hxy];simp
  refine⟨⟨n0,n1,n2,n3⟩,by unfold LotD.cells;simp,λhwt=>?_⟩;unfold vU;dsimp only;exact⟨b0,b1,b2,b3⟩
theorem vW {H:Type}{enc:TypeId×Value→H}{W:World}{v:Value}{fuel:Nat}{d:DataW H}{p:List MemPlace}(h:DataW.trod enc Tryz.prog W 0 (λ_=>true) true fuel 31 [v]=some (d,p))(hw:∀n∈d.weights Tryz.prog 31,n≤reachBytes) :
  ∃l,LotsAt (λg=>g<W.heap.size) W v l∧l.length*32≤reachBytes∧∀x∈l,vU x:=by
 obtain⟨l,hl,hlb,hall⟩:=vB LotD.cells 4 32 31 109 Tryz.underlying31 (by kernel_rfl) (by kernel_rfl) (by omega) (λq d=>(∀n∈d.weights Tryz.prog 109,n≤reachBytes)→vU q) (λ_=>rfl) (λn cs x h2 hlen=>vV n cs x h2 hlen) h hw;exact⟨l,hl,hlb,λx hx=>by obtain⟨d',h1,h2⟩:=hall x hx;exact h1 h2⟩
def vX (x:PosD):Prop:=(-9223372036854775808≤x.acct∧x.acct≤9223372036854775807)∧(-9223372036854775808≤x.inst∧x.inst≤9223372036854775807)∧(-9223372036854775808≤x.bought∧x.bought≤9223372036854775807)∧(-9223372036854775808≤x.sold∧x.sold≤9223372036854775807)∧(-9223372036854775808≤x.spent∧x.spent≤9223372036854775807)∧(-9223372036854775808≤x.got∧x.got≤9223372036854775807)
instance:Inhabited PosD:=⟨⟨0,0,0,0,0,0⟩⟩
set_option maxRecDepth 100000 in
theorem vY {H:Type}{enc:TypeId×Value→H}{W:World}(n:Nat)(cs:List Value)(x:DataW H×List MemPlace)(h2:DataW.trod enc Tryz.prog W 0 (λ_=>true) true n 112 cs=some x)(hlen:cs.length=6) :
  ∃q:PosD,cs=PosD.cells q∧((∀n∈x.1.weights Tryz.prog 112,n≤reachBytes)→vX q):=by
 obtain⟨xs,k,_,hxy,_,hxl,hf⟩:=DataW.trod_struct Tryz.underlying112 h2
 match xs,hxl,cs,hlen with
 | [y0,y1,y2,y3,y4,y5],_,[u0,u1,u2,u3,u4,u5],_=>
  have g0:=hf 0 _ rfl;have g1:=hf 1 _ rfl;have g2:=hf 2 _ rfl;have g3:=hf 3 _ rfl;have g4:=hf 4 _ rfl;have g5:=hf 5 _ rfl;have c0:Tryz.prog.cellsOf 3=1:=by kernel_rfl
  have c1:Tryz.prog.cellsOf 2=1:=by kernel_rfl
  simp[c0,c1]at g0 g1 g2 g3 g4 g5;obtain⟨n0,e0,f0,w0⟩:=DataW.trod_int Tryz.underlying3 g0;obtain⟨n1,e1,f1,w1⟩:=DataW.trod_int Tryz.underlying3 g1;obtain⟨n2,e2,f2,w2⟩:=DataW.trod_int Tryz.underlying2 g2;obtain⟨n3,e3,f3,w3⟩:=DataW.trod_int Tryz.underlying2 g3;obtain⟨n4,e4,f4,w4⟩:=DataW.trod_int Tryz.underlying2 g4;obtain⟨n5,e5,f5,w5⟩:=DataW.trod_int Tryz.underlying2 g5;simp at e0 e1 e2 e3 e4 e5;subst e0 f0 e1 f1 e2 f2 e3 f3 e4 f4 e5 f5;have b0:=bounds_i64 w0;have b1:=bounds_i64 w1;have b2:=bounds_i64 w2;have b3:=bounds_i64 w3;have b4:=bounds_i64 w4;have b5:=bounds_i64 w5;have hx1:x.1 = .agg [.lit (.int .i64 n0),.lit (.int .i64 n1),.lit (.int .i64 n2),.lit (.int .i64 n3),.lit (.int .i64 n4),.lit (.int .i64 n5)]:=by rw[hxy];simp
  refine⟨⟨n0,n1,n2,n3,n4,n5⟩,by unfold PosD.cells;simp,λhwt=>?_⟩;unfold vX;dsimp only;exact⟨b0,b1,b2,b3,b4,b5⟩
theorem vZ {H:Type}{enc:TypeId×Value→H}{W:World}{v:Value}{fuel:Nat}{d:DataW H}{p:List MemPlace}(h:DataW.trod enc Tryz.prog W 0 (λ_=>true) true fuel 32 [v]=some (d,p))(hw:∀n∈d.weights Tryz.prog 32,n≤reachBytes) :
  ∃l,PossAt (λg=>g<W.heap.size) W v l∧l.length*48≤reachBytes∧∀x∈l,vX x:=by
 obtain⟨l,hl,hlb,hall⟩:=vB PosD.cells 6 48 32 112 Tryz.underlying32 (by kernel_rfl) (by kernel_rfl) (by omega) (λq d=>(∀n∈d.weights Tryz.prog 112,n≤reachBytes)→vX q) (λ_=>rfl) (λn cs x h2 hlen=>vY n cs x h2 hlen) h hw;exact⟨l,hl,hlb,λx hx=>by obtain⟨d',h1,h2⟩:=hall x hx;exact h1 h2⟩
def wb (x:LinD):Prop:=(-9223372036854775808≤x.acct∧x.acct≤9223372036854775807)∧(-9223372036854775808≤x.seq∧x.seq≤9223372036854775807)∧(0≤x.kind∧x.kind≤255)∧(-9223372036854775808≤x.delta∧x.delta≤9223372036854775807)∧(-9223372036854775808≤x.balance∧x.balance≤9223372036854775807)
instance:Inhabited LinD:=⟨⟨0,0,0,0,0⟩⟩
set_option maxRecDepth 100000 in
theorem we {H:Type}{enc:TypeId×Value→H}{W:World}(n:Nat)(cs:List Value)(x:DataW H×List MemPlace)(h2:DataW.trod enc Tryz.prog W 0 (λ_=>true) true n 115 cs=some x)(hlen:cs.length=5) :
  ∃q:LinD,cs=LinD.cells q∧((∀n∈x.1.weights Tryz.prog 115,n≤reachBytes)→wb q):=by
 obtain⟨xs,k,_,hxy,_,hxl,hf⟩:=DataW.trod_struct Tryz.underlying115 h2
 match xs,hxl,cs,hlen with
 | [y0,y1,y2,y3,y4],_,[u0,u1,u2,u3,u4],_=>
  have g0:=hf 0 _ rfl;have g1:=hf 1 _ rfl;have g2:=hf 2 _ rfl;have g3:=hf 3 _ rfl;have g4:=hf 4 _ rfl;have c0:Tryz.prog.cellsOf 3=1:=by kernel_rfl
  have c1:Tryz.prog.cellsOf 2=1:=by kernel_rfl
  have c2:Tryz.prog.cellsOf 5=1:=by kernel_rfl
  simp[c0,c1,c2]at g0 g1 g2 g3 g4;obtain⟨n0,e0,f0,w0⟩:=DataW.trod_int Tryz.underlying3 g0;obtain⟨n1,e1,f1,w1⟩:=DataW.trod_int Tryz.underlying2 g1;obtain⟨n2,e2,f2,w2⟩:=DataW.trod_int Tryz.underlying5 g2;obtain⟨n3,e3,f3,w3⟩:=DataW.trod_int Tryz.underlying2 g3;obtain⟨n4,e4,f4,w4⟩:=DataW.trod_int Tryz.underlying2 g4;simp at e0 e1 e2 e3 e4;subst e0 f0 e1 f1 e2 f2 e3 f3 e4 f4;have b0:=bounds_i64 w0;have b1:=bounds_i64 w1;have b2:=bounds_u8 w2;have b3:=bounds_i64 w3;have b4:=bounds_i64 w4;have hx1:x.1 = .agg [.lit (.int .i64 n0),.lit (.int .i64 n1),.lit (.int .u8 n2),.lit (.int .i64 n3),.lit (.int .i64 n4)]:=by rw[hxy];simp
  refine⟨⟨n0,n1,n2,n3,n4⟩,by unfold LinD.cells;simp,λhwt=>?_⟩;unfold wb;dsimp only;exact⟨b0,b1,b2,b3,b4⟩
theorem wg {H:Type}{enc:TypeId×Value→H}{W:World}{v:Value}{fuel:Nat}{d:DataW H}{p:List MemPlace}(h:DataW.trod enc Tryz.prog W 0 (λ_=>true) true fuel 33 [v]=some (d,p))(hw:∀n∈d.weights Tryz.prog 33,n≤reachBytes) :
  ∃l,LinsAt (λg=>g<W.heap.size) W v l∧l.length*40≤reachBytes∧∀x∈l,wb x:=by
 obtain⟨l,hl,hlb,hall⟩:=vB LinD.cells 5 40 33 115 Tryz.underlying33 (by kernel_rfl) (by kernel_rfl) (by omega) (λq d=>(∀n∈d.weights Tryz.prog 115,n≤reachBytes)→wb q) (λ_=>rfl) (λn cs x h2 hlen=>we n cs x h2 hlen) h hw;exact⟨l,hl,hlb,λx hx=>by obtain⟨d',h1,h2⟩:=hall x hx;exact h1 h2⟩
def wh (x:AucD):Prop:=(-9223372036854775808≤x.id∧x.id≤9223372036854775807)∧(-9223372036854775808≤x.seller∧x.seller≤9223372036854775807)∧(-9223372036854775808≤x.inst∧x.inst≤9223372036854775807)∧(-9223372036854775808≤x.qty∧x.qty≤9223372036854775807)∧(-9223372036854775808≤x.reserve∧x.reserve≤9223372036854775807)∧(-9223372036854775808≤x.step∧x.step≤9223372036854775807)∧(-9223372036854775808≤x.fin∧x.fin≤9223372036854775807)∧(x.bids.length≤reachBytes∧∀b∈x.bids,vP b)
instance:Inhabited AucD:=⟨⟨0,0,0,false,0,0,0,0,[]⟩⟩
set_option maxRecDepth 100000 in
theorem wi {H:Type}{enc:TypeId×Value→H}{W:World}(n:Nat)(cs:List Value)(x:DataW H×List MemPlace)(h2:DataW.trod enc Tryz.prog W 0 (λ_=>true) true n 68 cs=some x)(hlen:cs.length=9) :
  ∃q:(AucD×Value),cs=AucD.cells q∧((∀n∈x.1.weights Tryz.prog 68,n≤reachBytes)→wh q.1∧BidsAt (λg=>g<W.heap.size) W q.2 q.1.bids):=by
 obtain⟨xs,k,_,hxy,_,hxl,hf⟩:=DataW.trod_struct Tryz.underlying68 h2
 match xs,hxl,cs,hlen with
 | [y0,y1,y2,y3,y4,y5,y6,y7,y8],_,[u0,u1,u2,u3,u4,u5,u6,u7,u8],_=>
  have g0:=hf 0 _ rfl;have g1:=hf 1 _ rfl;have g2:=hf 2 _ rfl;have g3:=hf 3 _ rfl;have g4:=hf 4 _ rfl;have g5:=hf 5 _ rfl;have g6:=hf 6 _ rfl;have g7:=hf 7 _ rfl;have g8:=hf 8 _ rfl;have c0:Tryz.prog.cellsOf 4=1:=by kernel_rfl
  have c1:Tryz.prog.cellsOf 3=1:=by kernel_rfl
  have c2:Tryz.prog.cellsOf 2=1:=by kernel_rfl
  have cs:Tryz.prog.cellsOf 66=1:=by kernel_rfl
  simp[c0,c1,c2,cs]at g0 g1 g2 g3 g4 g5 g6 g7 g8;obtain⟨n0,e0,f0,w0⟩:=DataW.trod_int Tryz.underlying2 g0;obtain⟨n1,e1,f1,w1⟩:=DataW.trod_int Tryz.underlying3 g1;obtain⟨n2,e2,f2,w2⟩:=DataW.trod_int Tryz.underlying3 g2;obtain⟨n3,e3,f3⟩:=DataW.trod_bool Tryz.underlying4 g3;obtain⟨n4,e4,f4,w4⟩:=DataW.trod_int Tryz.underlying2 g4;obtain⟨n5,e5,f5,w5⟩:=DataW.trod_int Tryz.underlying2 g5;obtain⟨n6,e6,f6,w6⟩:=DataW.trod_int Tryz.underlying2 g6;obtain⟨n7,e7,f7,w7⟩:=DataW.trod_int Tryz.underlying2 g7;simp at e0 e1 e2 e3 e4 e5 e6 e7;subst e0 f0 e1 f1 e2 f2 e3 f3 e4 f4 e5 f5 e6 f6 e7 f7;have b0:=bounds_i64 w0;have b1:=bounds_i64 w1;have b2:=bounds_i64 w2;have b4:=bounds_i64 w4;have b5:=bounds_i64 w5;have b6:=bounds_i64 w6;have b7:=bounds_i64 w7;have hx1:x.1 = .agg [.lit (.int .i64 n0),.lit (.int .i64 n1),.lit (.int .i64 n2),.lit (.bool n3),.lit (.int .i64 n4),.lit (.int .i64 n5),.lit (.int .i64 n6),.lit (.int .i64 n7),y8.1]:=by rw[hxy];simp
  by_cases hwt:∀n∈x.1.weights Tryz.prog 68,n≤reachBytes
  ·obtain⟨y8d,y8p⟩:=y8
   obtain⟨l,hl,hlb,hall⟩:=vB BidD.cells 2 16 66 150 Tryz.underlying66 (by kernel_rfl) (by kernel_rfl) (by omega) (λq d=>(∀n∈d.weights Tryz.prog 150,n≤reachBytes)→vP q) (λ_=>rfl) (λn cs x h2 hlen=>vQ n cs x h2 hlen) g8 (λn hn=>hwt n (by
    rw[hx1];simp only[DataW.weights,Tryz.underlying68];simp[DataW.weightsEach];simp only[hn,or_true]))
   refine⟨(⟨n0,n1,n2,n3,n4,n5,n6,n7,l⟩,u8),by unfold AucD.cells;simp,λ_=>⟨?_,hl⟩⟩;unfold wh;dsimp only;exact⟨b0,b1,b2,b4,b5,b6,b7,by omega,λb hb=>by obtain⟨d',h1,h2⟩:=hall b hb;exact h1 h2⟩
  ·exact⟨(⟨n0,n1,n2,n3,n4,n5,n6,n7,[]⟩,u8),by unfold AucD.cells;simp,λh=>absurd h hwt⟩
theorem wj {H:Type}{enc:TypeId×Value→H}{W:World}{v:Value}{fuel:Nat}{d:DataW H}{p:List MemPlace}(h:DataW.trod enc Tryz.prog W 0 (λ_=>true) true fuel 27 [v]=some (d,p))(hw:∀n∈d.weights Tryz.prog 27,n≤reachBytes) :
  ∃l,AucsAt (λg=>g<W.heap.size) W v l∧l.length*88≤reachBytes∧∀x∈l,wh x:=by
 obtain⟨l,hl,hlb,hall⟩:=vB AucD.cells 9 88 27 68 Tryz.underlying27 (by kernel_rfl) (by kernel_rfl) (by omega) (λq d=>(∀n∈d.weights Tryz.prog 68,n≤reachBytes)→wh q.1∧BidsAt (λg=>g<W.heap.size) W q.2 q.1.bids) (λ_=>rfl) (λn cs x h2 hlen=>wi n cs x h2 hlen) h hw;refine⟨l.map (·.1),⟨l,rfl,hl,λm hm=>?_⟩,by rw[List.length_map];exact hlb,λx hx=>?_⟩
 ·obtain⟨d',h1,h2⟩:=hall m hm;exact(h1 h2).2
 ·obtain⟨m,hm,rfl⟩:=List.mem_map.1 hx
  obtain⟨d',h1,h2⟩:=hall m hm;exact(h1 h2).1
structure StIn (s:StD):Prop where
 la:s.accts.length*24≤reachBytes
 li:s.insts.length*32≤reachBytes
 lr:s.rows.length*32≤reachBytes
 lo:s.ords.length*48≤reachBytes
 lu:s.aucs.length*88≤reachBytes
 a:∀x∈s.accts,vC x
 i:∀x∈s.insts,vG x
 r:∀x∈s.rows,vJ x
 o:∀x∈s.ords,vM x
 u:∀x∈s.aucs,wh x
structure VwIn (v:VwD):Prop where
 lo:v.open_.length*48≤reachBytes
 ll:v.lots.length*32≤reachBytes
 lp:v.poss.length*48≤reachBytes
 ln:v.lins.length*40≤reachBytes
 o:∀x∈v.open_,vR x
 l:∀x∈v.lots,vU x
 p:∀x∈v.poss,vX x
 n:∀x∈v.lins,wb x
theorem wk {α:Type}{cs:Array α}(h:cs.size=9):∃c0 c1 c2 c3 c4 c5 c6 c7 c8,cs=#[c0,c1,c2,c3,c4,c5,c6,c7,c8]:=by
 obtain⟨l⟩:=cs
 match l,h with
 | [c0,c1,c2,c3,c4,c5,c6,c7,c8],_=>exact⟨c0,c1,c2,c3,c4,c5,c6,c7,c8,rfl⟩
set_option maxRecDepth 100000 in
theorem wm {H:Type}{enc:TypeId×Value→H}{W:World}{b0:Nat}{v:Value}{d:DataW H}{p:List MemPlace}(hv:Value.okWide Tryz.prog W .any b0 29 v)(h:DataW.Trod enc Tryz.prog W 0 (λ_=>true) true 29 v d p)(hw:∀n∈d.weights Tryz.prog 29,n≤reachBytes) :
  ∃s sv,v = .agg (jc s sv)∧StAt (λg=>g<W.heap.size) W sv s∧StIn s:=by
 obtain⟨cs,rfl,hsz⟩:=okWide_struct Tryz.underlying29 hv;obtain⟨u0,u1,u2,u3,u4,u5,u6,u7,u8,rfl⟩:=wk (hsz.trans (by kernel_rfl:Tryz.prog.cellsOf 29=9));obtain⟨fuel,h⟩:=h;obtain⟨xs,k,_,hxy,_,hxl,hf⟩:=DataW.trod_struct Tryz.underlying29 h
 match xs,hxl with
 | [y0,y1,y2,y3,y4,y5,y6,y7,y8],_=>
  have g0:=hf 0 _ rfl;have g1:=hf 1 _ rfl;have g2:=hf 2 _ rfl;have g3:=hf 3 _ rfl;have g4:=hf 4 _ rfl;have g5:=hf 5 _ rfl;have g6:=hf 6 _ rfl;have g7:=hf 7 _ rfl;have g8:=hf 8 _ rfl;have c0:Tryz.prog.cellsOf 23=1:=by kernel_rfl
  have c1:Tryz.prog.cellsOf 27=1:=by kernel_rfl
  have c2:Tryz.prog.cellsOf 24=1:=by kernel_rfl
  have c3:Tryz.prog.cellsOf 26=1:=by kernel_rfl
  have c4:Tryz.prog.cellsOf 25=1:=by kernel_rfl
  have c5:Tryz.prog.cellsOf 2=1:=by kernel_rfl
  simp[c0,c1,c2,c3,c4,c5,Value.cells]at g0 g1 g2 g3 g4 g5 g6 g7 g8;have hx1:d = .agg [y0.1,y1.1,y2.1,y3.1,y4.1,y5.1,y6.1,y7.1,y8.1]:=by have:=congrArg Prod.fst hxy;simpa using this
  obtain⟨n0,e0,f0,w0⟩:=DataW.trod_int Tryz.underlying2 g0;simp at e0;subst e0;obtain⟨n1,e1,f1,w1⟩:=DataW.trod_int Tryz.underlying2 g1;simp at e1;subst e1;obtain⟨n2,e2,f2,w2⟩:=DataW.trod_int Tryz.underlying2 g2;simp at e2;subst e2;obtain⟨n3,e3,f3,w3⟩:=DataW.trod_int Tryz.underlying2 g3;simp at e3;subst e3;obtain⟨d4,p4⟩:=y4;obtain⟨l4,a4,b4,i4⟩:=vE g4 (λn hn=>hw n (by
   rw[hx1];simp only[DataW.weights,Tryz.underlying29];simp only[List.map_cons,List.map_nil,DataW.weightsEach,List.mem_append];simp only[hn,true_or,or_true]))
  obtain⟨d5,p5⟩:=y5;obtain⟨l5,a5,b5,i5⟩:=vI g5 (λn hn=>hw n (by
   rw[hx1];simp only[DataW.weights,Tryz.underlying29];simp only[List.map_cons,List.map_nil,DataW.weightsEach,List.mem_append];simp only[hn,true_or,or_true]))
  obtain⟨d6,p6⟩:=y6;obtain⟨l6,a6,b6,i6⟩:=vL g6 (λn hn=>hw n (by
   rw[hx1];simp only[DataW.weights,Tryz.underlying29];simp only[List.map_cons,List.map_nil,DataW.weightsEach,List.mem_append];simp only[hn,true_or,or_true]))
  obtain⟨d7,p7⟩:=y7;obtain⟨l7,a7,b7,i7⟩:=vO g7 (λn hn=>hw n (by
   rw[hx1];simp only[DataW.weights,Tryz.underlying29];simp only[List.map_cons,List.map_nil,DataW.weightsEach,List.mem_append];simp only[hn,true_or,or_true]))
  obtain⟨d8,p8⟩:=y8;obtain⟨l8,a8,b8,i8⟩:=wj g8 (λn hn=>hw n (by
   rw[hx1];simp only[DataW.weights,Tryz.underlying29];simp only[List.map_cons,List.map_nil,DataW.weightsEach,List.mem_append];simp only[hn,true_or,or_true]))
  exact⟨⟨n0,n1,n2,n3,l4,l5,l6,l7,l8⟩,⟨u4,u5,u6,u7,u8⟩,rfl,⟨a4,a5,a6,a7,a8⟩,⟨b4,b5,b6,b7,b8,i4,i5,i6,i7,i8⟩⟩
theorem wn {α:Type}{cs:Array α}(h:cs.size=4):∃c0 c1 c2 c3,cs=#[c0,c1,c2,c3]:=by
 obtain⟨l⟩:=cs
 match l,h with
 | [c0,c1,c2,c3],_=>exact⟨c0,c1,c2,c3,rfl⟩
set_option maxRecDepth 100000 in
theorem wo {H:Type}{enc:TypeId×Value→H}{W:World}{bz:Nat}{v:Value}{d:DataW H}{p:List MemPlace}(hv:Value.okWide Tryz.prog W .any bz 35 v)(h:DataW.Trod enc Tryz.prog W 0 (λ_=>true) true 35 v d p)(hw:∀n∈d.weights Tryz.prog 35,n≤reachBytes) :
  ∃s sv,v = .agg (jd sv)∧VwAt (λg=>g<W.heap.size) W sv s∧VwIn s:=by
 obtain⟨cs,rfl,hsz⟩:=okWide_struct Tryz.underlying35 hv;obtain⟨u0,u1,u2,u3,rfl⟩:=wn (hsz.trans (by kernel_rfl:Tryz.prog.cellsOf 35=4));obtain⟨fuel,h⟩:=h;obtain⟨xs,k,_,hxy,_,hxl,hf⟩:=DataW.trod_struct Tryz.underlying35 h
 match xs,hxl with
 | [y0,y1,y2,y3],_=>
  have g0:=hf 0 _ rfl;have g1:=hf 1 _ rfl;have g2:=hf 2 _ rfl;have g3:=hf 3 _ rfl;have c0:Tryz.prog.cellsOf 33=1:=by kernel_rfl
  have c1:Tryz.prog.cellsOf 31=1:=by kernel_rfl
  have c2:Tryz.prog.cellsOf 30=1:=by kernel_rfl
  have c3:Tryz.prog.cellsOf 32=1:=by kernel_rfl
  simp[c0,c1,c2,c3,Value.cells]at g0 g1 g2 g3;have hx1:d = .agg [y0.1,y1.1,y2.1,y3.1]:=by have:=congrArg Prod.fst hxy;simpa using this
  obtain⟨d0,p0⟩:=y0;obtain⟨l0,a0,b0,i0⟩:=vT g0 (λn hn=>hw n (by
   rw[hx1];simp only[DataW.weights,Tryz.underlying35];simp only[List.map_cons,List.map_nil,DataW.weightsEach,List.mem_append];simp only[hn,true_or]))
  obtain⟨d1,p1⟩:=y1;obtain⟨l1,a1,b1,i1⟩:=vW g1 (λn hn=>hw n (by
   rw[hx1];simp only[DataW.weights,Tryz.underlying35];simp only[List.map_cons,List.map_nil,DataW.weightsEach,List.mem_append];simp only[hn,true_or,or_true]))
  obtain⟨d2,p2⟩:=y2;obtain⟨l2,a2,b2,i2⟩:=vZ g2 (λn hn=>hw n (by
   rw[hx1];simp only[DataW.weights,Tryz.underlying35];simp only[List.map_cons,List.map_nil,DataW.weightsEach,List.mem_append];simp only[hn,true_or,or_true]))
  obtain⟨d3,p3⟩:=y3;obtain⟨l3,a3,b3,i3⟩:=wg g3 (λn hn=>hw n (by
   rw[hx1];simp only[DataW.weights,Tryz.underlying35];simp only[List.map_cons,List.map_nil,DataW.weightsEach,List.mem_append];simp only[hn,true_or,or_true]))
  exact⟨⟨l0,l1,l2,l3⟩,⟨u0,u1,u2,u3⟩,rfl,⟨a0,a1,a2,a3⟩,⟨b0,b1,b2,b3,i0,i1,i2,i3⟩⟩
end
end Go.Proofs.YtaeakdichkhjaaaGreatDoor
