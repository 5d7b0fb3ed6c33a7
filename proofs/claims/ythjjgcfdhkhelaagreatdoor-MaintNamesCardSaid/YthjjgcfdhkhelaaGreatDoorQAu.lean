/- SeglogFull, plainly. -/
import Derived.Test.YthjjgcfdhkhelaaGreatDoorQAp
import Derived.Test.YthjjgcfdhkhelaaGreatDoorQAm
set_option maxHeartbeats 2000000
set_option maxRecDepth 100000
open Go.Lib(hid)
open Go.Proofs.Tryz
namespace Go.Proofs.YthjjgcfdhkhelaaGreatDoor
section
open Go.RowKit Go.Maps Go.Sort
def lK (st:cZ):cZ:={ st with fs:=cK st.fs jg }
def lL (st:cZ)(m:bI):Prop:=(18:Int)+16*(m.length:Int)≤st.cap-(cX (lK st).fs:Int)∧1≤64-((lK st).fs.length:Int)
theorem lM (st:cZ)(hd:st.dark=false)(hl:st.left = -1):(eh st jg).1=lK st∧((eh st jg).2=0∨(eh st jg).2=5):=by
 unfold eh lK;rw[hd];cases h:cM st.fs jg with
 | none=>simp only[Bool.false_eq_true,if_false];rw[dU h,← hd];simp
 | some f=>simp only[Bool.false_eq_true,if_false];unfold dZ;rw[if_neg (by rw[hl];decide),hl];simp[dec,hd]
theorem lN (st:cZ)(hd:st.dark=false)(hl:st.left = -1)(g:Int)(m:bI)(hm:bL g m=true):(lL st m→(jt st g m).2=0∧(jt st g m).1.dark=false)∧(¬lL st m→jt st g m=(lK st,44)):=by
 obtain⟨_,_,_,hml,_⟩:=gm hm;have hlen:(Crc.seal_ (ge g m)).length=18+16*m.length:=by rw[Crc.seal_length,jB];omega
 obtain⟨d1,d2⟩:=lM st hd hl;have hs:jt st g m=(jp (js (Crc.seal_ (ge g m)) [0,1,2,3,4] st).2 (js (Crc.seal_ (ge g m)) [0,1,2,3,4] st).1):=by unfold jt;rw[hm];rfl
 generalize Crc.seal_ (ge g m)=s at hs hlen
 have hn0:cM (lK st).fs jg=none:=jG _ _;have e0:js s [0,1,2,3,4] st=js s [1,2,3,4] (lK st):=by
  rw[js,if_neg (by rintro⟨a,b⟩;rcases d2 with h|h;exact a h;exact b ⟨rfl,h⟩)];show js s [1,2,3,4] (eh st jg).1=_;rw[d1]
 have hdn:(lK st).dark=false:=hd;have hln:(lK st).left = -1:=hl;have hcn:(lK st).cap=st.cap:=rfl;unfold lL;rw[hs,e0,← hcn]
 generalize lK st=sn at *
 have hdel:∀st':cZ,st'.dark=false→cM st'.fs jg=none→jp 44 st'=(st',44):=by
  intro st' h1 h2;have:eh st' jg=(st',5):=by unfold eh;rw[h1,h2];rfl
  unfold jp;rw[if_pos rfl,this];rfl
 by_cases h1:64≤sn.fs.length
 ·have e1:ji s 1 sn=(sn,44):=by
   show ee sn jg=_;unfold ee;rw[hdn,hn0,show cY jg=true from by decide +kernel];simp[h1]
  have e2:js s [1,2,3,4] sn=(sn,44):=by rw[js,e1];rfl
  rw[e2];refine⟨λh=>by omega,λ_=>hdel sn hdn hn0⟩
 ·have e1:ji s 1 sn=({ sn with fs:=cL sn.fs ⟨jg,[],[]⟩ },0):=by
   show ee sn jg=_;unfold ee dZ;rw[hdn,hn0,show cY jg=true from by decide +kernel,hln];simp[h1,dec]
  have e2:js s [1,2,3,4] sn=js s [2,3,4] { sn with fs:=cL sn.fs ⟨jg,[],[]⟩ }:=by rw[js,e1];rfl
  rw[e2];have hu:cX (cL sn.fs ⟨jg,[],[]⟩)=cX sn.fs:=by rw[dX,dU hn0];simp
  have hg:cM (cL sn.fs ⟨jg,[],[]⟩) jg=some ⟨jg,[],[]⟩:=jH ⟨jg,[],[]⟩ _;by_cases h2:sn.cap-(cX sn.fs:Int)<(s.length:Int)
  ·have e3:ji s 2 { sn with fs:=cL sn.fs ⟨jg,[],[]⟩ }=({ sn with fs:=cL sn.fs ⟨jg,[],[]⟩ },44):=by
    show eR _ jg s=_;unfold eR;simp only[hdn,hg,hu,Bool.false_eq_true,if_false];rw[if_pos (.inr h2)]
   have e4:js s [2,3,4] { sn with fs:=cL sn.fs ⟨jg,[],[]⟩ }=({ sn with fs:=cL sn.fs ⟨jg,[],[]⟩ },44):=by rw[js,e3];rfl
   rw[e4];refine⟨λh=>by omega,λ_=>?_⟩;have:eh { sn with fs:=cL sn.fs ⟨jg,[],[]⟩ } jg=(sn,0):=by
    unfold eh dZ;simp only[hdn,hg,hln,Bool.false_eq_true,if_false];rw[if_neg (by decide)];have e9:cK (cL sn.fs ⟨jg,[],[]⟩) jg=sn.fs:=by
     unfold cL;rw[show cK sn.fs (cy.name ⟨jg,[],[]⟩)=sn.fs from dU hn0];exact jI (f:=⟨jg,[],[]⟩) hn0
    rw[e9];obtain⟨a,b,c,d⟩:=sn;simp only at hdn hln;subst hdn hln;rfl
   unfold jp;rw[if_pos rfl,this];rfl
  ·refine⟨λ_=>?_,λh=>absurd ⟨by omega,by omega⟩ h⟩
   have e3:ji s 2 { sn with fs:=cL sn.fs ⟨jg,[],[]⟩ }=({ sn with fs:=cL (cL sn.fs ⟨jg,[],[]⟩) ⟨jg,[],s⟩ },0):=by
    show eR _ jg s=_;unfold eR;simp only[hdn,hg,hu,hln,Bool.false_eq_true,if_false];rw[if_neg (by rintro(h|h);simp at h;omega;exact h2 h),if_neg (by decide)];simp[dec]
   have hg2:cM (cL (cL sn.fs ⟨jg,[],[]⟩) ⟨jg,[],s⟩) jg=some ⟨jg,[],s⟩:=jH ⟨jg,[],s⟩ _;have e4:ji s 3 { sn with fs:=cL (cL sn.fs ⟨jg,[],[]⟩) ⟨jg,[],s⟩ }=({ sn with fs:=cL (cL (cL sn.fs ⟨jg,[],[]⟩) ⟨jg,[],s⟩) ⟨jg,s,[]⟩ },0):=by
    show eD _ jg=_;unfold eD dZ;simp only[hdn,hg2,hln,Bool.false_eq_true,if_false];rw[if_neg (by decide)];simp[dec]
   have hg3:cM (cL (cL (cL sn.fs ⟨jg,[],[]⟩) ⟨jg,[],s⟩) ⟨jg,s,[]⟩) jg=some ⟨jg,s,[]⟩:=jH ⟨jg,s,[]⟩ _;rw[js,e3,if_neg (by simp),js,e4,if_neg (by simp)]
   rcases jK s (st:={ sn with fs:=cL (cL (cL sn.fs ⟨jg,[],[]⟩) ⟨jg,[],s⟩) ⟨jg,s,[]⟩ }) hdn hg3 with⟨k1,k2,_⟩|⟨_,_,k3,_⟩
   ·rw[js,if_neg (by rw[k1];simp)]
    show(jp 0 _).2=0∧(jp 0 _).1.dark=false;rw[jL (by decide)];exact⟨rfl,k2⟩
   ·rw[show({ sn with fs:=cL (cL (cL sn.fs ⟨jg,[],[]⟩) ⟨jg,[],s⟩) ⟨jg,s,[]⟩ }:cZ).left=sn.left from rfl,hln]at k3;exact absurd k3 (by decide)
end
section
theorem lO {st:cZ}(h:On st){g:Int}{m:bI}(hm:bL g m=true)(hf:cM st.fs jg=none)(hl:st.fs.length<64)(hu:(cX st.fs:Int)+18+16*(m.length:Int)≤st.cap) :
  jt st g m=({ st with fs:=cL st.fs ⟨jh,Crc.seal_ (ge g m),[]⟩ },0):=by
 obtain⟨_,_,_,hml,_⟩:=gm hm;have hlen:(Crc.seal_ (ge g m)).length=18+16*m.length:=by rw[Crc.seal_length,jB];omega
 unfold jt;rw[if_pos hm]
 generalize Crc.seal_ (ge g m)=s at *
 have e0:ji s 0 st=(st,5):=lF h hf;have e1:ji s 1 st=({ st with fs:=cL st.fs ⟨jg,[],[]⟩ },0):=lC h (by decide +kernel) hf hl;have hu1:cX (cL st.fs ⟨jg,[],[]⟩)=cX st.fs:=by rw[ly hf];simp
 have e2:ji s 2 { st with fs:=cL st.fs ⟨jg,[],[]⟩ }=({ st with fs:=cL st.fs ⟨jg,[],s⟩ },0):=by
  show eR _ jg s=_;have g1:cM (cL st.fs ⟨jg,[],[]⟩) jg=some ⟨jg,[],[]⟩:=jH ⟨jg,[],[]⟩ _;rw[lD (st:={ st with fs:=cL st.fs ⟨jg,[],[]⟩ }) (x:=s) (h.put _) g1 (by simp;omega) (by simp only[hu1];omega)];simp only[List.nil_append];rw[lw (f:=⟨jg,[],[]⟩) (g:=⟨jg,[],s⟩) rfl]
 have e3:ji s 3 { st with fs:=cL st.fs ⟨jg,[],s⟩ }=({ st with fs:=cL st.fs ⟨jg,s,[]⟩ },0):=by
  show eD _ jg=_;have g1:cM (cL st.fs ⟨jg,[],s⟩) jg=some ⟨jg,[],s⟩:=jH ⟨jg,[],s⟩ _;rw[lE (st:={ st with fs:=cL st.fs ⟨jg,[],s⟩ }) (h.put _) g1];simp only[List.nil_append];rw[lw (f:=⟨jg,[],s⟩) (g:=⟨jg,s,[]⟩) rfl]
 have e4:ji s 4 { st with fs:=cL st.fs ⟨jg,s,[]⟩ }=({ st with fs:=cL st.fs ⟨jh,s,[]⟩ },0):=by
  show eL _ jg jh=_;have g1:cM (cL st.fs ⟨jg,s,[]⟩) jg=some ⟨jg,s,[]⟩:=jH ⟨jg,s,[]⟩ _;rw[lH (st:={ st with fs:=cL st.fs ⟨jg,s,[]⟩ }) (h.put _) g1 (by decide +kernel) jJ];have e:cK (cL st.fs ⟨jg,s,[]⟩) jg=st.fs:=by
   unfold cL;rw[show jg=(⟨jg,s,[]⟩:cy).name from rfl,jI (jG _ _),dU hf]
  simp only[e]
 have l0:js s [0,1,2,3,4] st=js s [1,2,3,4] st:=by rw[js,e0];rfl
 have l1:js s [1,2,3,4] st=js s [2,3,4] { st with fs:=cL st.fs ⟨jg,[],[]⟩ }:=by rw[js,e1];rfl
 have l2:js s [2,3,4] { st with fs:=cL st.fs ⟨jg,[],[]⟩ }=js s [3,4] { st with fs:=cL st.fs ⟨jg,[],s⟩ }:=by rw[js,e2];rfl
 have l3:js s [3,4] { st with fs:=cL st.fs ⟨jg,[],s⟩ }=js s [4] { st with fs:=cL st.fs ⟨jg,s,[]⟩ }:=by rw[js,e3];rfl
 have l4:js s [4] { st with fs:=cL st.fs ⟨jg,s,[]⟩ }=({ st with fs:=cL st.fs ⟨jh,s,[]⟩ },0):=by rw[js,e4];rfl
 rw[l0,l1,l2,l3,l4,jL (by show(0:Int)≠44;decide)]
theorem lP {g:Int}{l:bI}(h:bL g l=true)(i:Nat)(hi:i<l.length):∃a f:Nat,l[i]=((a:Int),(f:Int))∧a≤99999999∧f≤1048576:=by
 obtain⟨_,h2,_,_,h5⟩:=gm h;obtain⟨h6,h7,h8,h9⟩:=h5 i hi;exact⟨l[i].1.toNat,l[i].2.toNat,Prod.ext (by simp;omega) (by simp;omega),by omega,by omega⟩
theorem lQ {a f:Nat}(h1:a≤99999999)(h2:f≤1048576)(r:List UInt8):b9 (a:Int) (f:Int)≠77::r:=by
 rw[ky a f h1 h2];intro e;have:=(List.cons.inj e).1;exact absurd this (by decide)
theorem lR {c:UInt8}(h:kb c):letters.contains c=true:=by
 obtain⟨h1,h2⟩:=h;have e:c=UInt8.ofNat c.toNat:=(UInt8.ofNat_toNat).symm;rw[e]
 generalize c.toNat=n at *
 have:n=48∨n=49∨n=50∨n=51∨n=52∨n=53∨n=54∨n=55∨n=56∨n=57:=by omega
 rcases this with rfl|rfl|rfl|rfl|rfl|rfl|rfl|rfl|rfl|rfl<;>decide
theorem lS {a f:Nat}(h1:a≤99999999)(h2:f≤1048576):cY (b9 (a:Int) (f:Int))=true:=by
 have hl:=kA a f h1 h2;unfold cY;rw[hl];simp only[Bool.and_eq_true,decide_eq_true_eq,List.all_eq_true];refine⟨⟨by omega,by omega⟩,λc hc=>?_⟩;rw[ky a f h1 h2]at hc
 rcases List.mem_cons.1 hc with rfl|hc
 ·decide
 rcases List.mem_append.1 hc with hc|hc
 ·exact lR (km a 8 c hc)
 rcases List.mem_cons.1 hc with rfl|hc
 ·decide
 ·exact lR (km f 10 c hc)
theorem lu.pos {l:kR}(h:lu l):0<l.segs.length:=by have:=gm h.may;omega
theorem lu.few {l:kR}(h:lu l):l.segs.length≤64:=by have:=gm h.may;omega
theorem lT {l:kR}(h0:0<l.ix.length):l.lastIx=l.ix[l.ix.length-1]'(by omega):=by
 unfold kR.lastIx;rw[List.getLast?_eq_getElem?,List.getElem?_eq_getElem (by omega)];rfl
theorem lU {l:kR}(h0:0<l.segs.length):l.name=gu (l.segs[l.segs.length-1]'(by omega)):=by
 unfold kR.name;rw[List.getLast?_eq_getElem?,List.getElem?_eq_getElem (by omega)];rfl
theorem lu.last {l:kR}(h:lu l):iE l.lastIx.1 l.lastIx.2∧l.lastIx.good≤1048576∧kK l.segs=(l.lastIx.1:Int):=by
 have h0:=h.pos;have h1:=h.len;have h2:=h.each (l.segs.length-1) (by omega) (by omega);rw[lT (by omega)];simp only[h1];exact⟨h2.2.1,h2.2.2,by rw[kM h0];exact h2.1⟩
theorem LgOn.last {st:cZ}{l:kR}(hk:lu l)(h:LgOn st l):∃f,cM st.fs l.name=some f∧f.firm++f.pend=iR l.lastIx.1 l.lastIx.2∧16≤f.firm.length:=by
 have h0:=hk.pos;have h1:=hk.len;obtain⟨f,hf,hb,hl,_⟩:=h.seg (l.segs.length-1) (by omega) (by omega);refine⟨f,by rw[lU h0];exact hf,?_,hl⟩;rw[hb,lT (by omega)];simp only[h1]
theorem lV (q:Nat)(ps:List (List UInt8))(p:List UInt8):iR q (ps++[p])=iR q ps++ip (q+ps.length) p:=by
 unfold iR;rw[iF,← List.append_assoc];simp[iC]
theorem lW (q:Nat)(ps:List (List UInt8))(p:List UInt8):kP.good (q,ps++[p])=kP.good (q,ps)+16+p.length:=by
 unfold kP.good;simp only;rw[lV,List.length_append,ir];omega
theorem lX (x:kP):16≤x.good:=by unfold kP.good;rw[iS];omega
theorem lY (l:kR)(p:List UInt8)(h0:0<l.ix.length):(l.add p).ix.length=l.ix.length:=by unfold kR.add;simp;omega
theorem lZ (l:kR)(p:List UInt8)(i:Nat)(h:i<(l.add p).ix.length)(h':i<l.ix.length):(l.add p).ix[i]=if i+1=l.ix.length then (l.lastIx.1,l.lastIx.2++[p]) else l.ix[i]:=by
 rw[List.getElem_of_eq (show(l.add p).ix=l.ix.dropLast++[(l.lastIx.1,l.lastIx.2++[p])]from rfl) h,List.getElem_append];by_cases hi:i+1=l.ix.length
 ·rw[if_pos hi,dif_neg (by rw[List.length_dropLast];omega),List.getElem_singleton]
 ·rw[if_neg hi,dif_pos (by rw[List.length_dropLast];omega),List.getElem_dropLast]
theorem l5 (l:kR)(p:List UInt8):(l.add p).lastIx=(l.lastIx.1,l.lastIx.2++[p]):=by
 unfold kR.add kR.lastIx;simp
theorem l6 (l:kR)(p:List UInt8):(l.add p).next=l.next+1:=by
 unfold kR.next;rw[l5];unfold kP.next;simp;omega
theorem lu.add {l:kR}(h:lu l){p:List UInt8}(hp:iw p)(hn:l.next<1048576)(hg:l.lastIx.good+16+p.length≤1048576):lu (l.add p):=by
 have h0:=h.pos;have h1:=h.len;have hl:=h.last;have hle:=lY l p (by omega);have hx:=lT (l:=l) (by omega);have hnx:l.next=l.lastIx.1+l.lastIx.2.length:=rfl;refine⟨h.cfg,h.may,by rw[hle];exact h1,λi hi hi'=>?_,λi hi=>?_,by rw[l6];omega⟩
 ·have hi2:i<l.ix.length:=by omega
  have hs:(l.add p).segs=l.segs:=rfl;have he:=h.each i hi hi2;rw[lZ l p i hi' hi2];by_cases hc:i+1=l.ix.length
  ·rw[if_pos hc]
   have e:l.ix[i]=l.lastIx:=by rw[hx];congr 1;omega
   rw[e]at he;refine⟨he.1,?_,?_⟩
   ·rw[iG];exact⟨hl.1,hp,by omega,trivial⟩
   ·rw[lW];exact hg
  ·rw[if_neg hc];exact he
 ·have hi2:i+1<l.ix.length:=by omega
  have hr:=h.row i hi2;rw[lZ l p i (by omega) (by omega),if_neg (by omega),lZ l p (i+1) hi hi2];by_cases hc:i+1+1=l.ix.length
  ·rw[if_pos hc]
   have e:l.ix[i+1]=l.lastIx:=by rw[hx];congr 1;omega
   rw[e]at hr;exact hr
  ·rw[if_neg hc];exact hr
def kR.turn (l:kR):kR:={ l with segs:=l.segs++[(l.gen,(l.next:Int))],ix:=l.ix++[(l.next,[])] }
theorem l7 (l:kR):l.turn.lastIx=(l.next,[]):=by unfold kR.turn kR.lastIx;simp
theorem l9 (l:kR):l.turn.next=l.next:=by unfold kR.next;rw[l7];rfl
theorem lu.turn {l:kR}(h:lu l)(hm:bL l.gen (l.segs++[(l.gen,(l.next:Int))])=true):lu l.turn:=by
 have h0:=h.pos;have h1:=h.len;have hx:=lT (l:=l) (by omega);refine⟨h.cfg,hm,by unfold kR.turn;simp[h1],λi hi hi'=>?_,λi hi=>?_,by rw[l9];exact h.top⟩
 ·unfold kR.turn at hi hi' ⊢
  simp only[List.length_append,List.length_singleton]at hi hi' ⊢;simp only[List.getElem_append];by_cases hc:i<l.segs.length
  ·simp only[hc,show i<l.ix.length from by omega,dif_pos]
   exact h.each i hc (by omega)
  ·simp only[hc,show ¬i<l.ix.length from by omega,dif_neg,not_false_eq_true,List.getElem_singleton]
   exact⟨trivial,trivial,by unfold kP.good;rw[iS];simp[iC]⟩
 ·unfold kR.turn at hi ⊢
  simp only[List.length_append,List.length_singleton]at hi ⊢;simp only[List.getElem_append];by_cases hc:i+1<l.ix.length
  ·simp only[hc,show i<l.ix.length from by omega,dif_pos]
   exact h.row i hc
  ·simp only[hc,show i<l.ix.length from by omega,dif_pos,dif_neg,not_false_eq_true,List.getElem_singleton]
   have e:l.ix[i]'(by omega)=l.lastIx:=by rw[hx];congr 1;omega
   rw[e];rfl
theorem ma {α:Type}:∀(L:List (List α)) (i:Nat) (hi:i<L.length) (k:Nat),k<L[i].length→L.flatten[((L.take i).map List.length).sum+k]?=L[i][k]?
 | [],i,hi,_,_=>by simp at hi
 | a::r,0,_,k,hk=>by
  simp only[List.take_zero,List.map_nil,List.sum_nil,Nat.zero_add,List.flatten_cons,List.getElem_cons_zero];exact List.getElem?_append_left hk
 | a::r,i+1,hi,k,hk=>by
  simp only[List.take_succ_cons,List.map_cons,List.sum_cons,List.flatten_cons,List.getElem_cons_succ]at hk ⊢;rw[List.getElem?_append_right (by omega),show a.length+((r.take i).map List.length).sum+k-a.length=((r.take i).map List.length).sum+k from by omega];exact ma r i (by simpa using hi) k hk
theorem mc {l:kR}(h:lu l)(h0:0<l.ix.length):l.first=(l.ix[0].1:Int):=by
 have h1:=h.len;have h2:=h.each 0 (by omega) h0;unfold kR.first;rw[List.head?_eq_getElem?,List.getElem?_eq_getElem (by omega)];exact h2.1
theorem me {l:kR}(h:lu l):∀(i:Nat) (hi:i<l.ix.length),l.ix[i].1=(l.ix[0]'(by omega)).1+(((l.ix.map (·.2)).take i).map List.length).sum
 | 0,_=>by simp
 | i+1,hi=>by
  have h1:=me h i (by omega);rw[h.row i hi,show kP.next l.ix[i]=l.ix[i].1+l.ix[i].2.length from rfl,h1];rw[List.take_succ_eq_append_getElem (by simpa using(by omega:i<l.ix.length)),List.map_append,List.sum_append];simp;omega
theorem mf {l:kR}(h:lu l)(h0:0<l.ix.length):l.next=l.ix[0].1+l.all.length:=by
 have h1:=me h (l.ix.length-1) (by omega);have h2:l.next=l.ix[l.ix.length-1].1+l.ix[l.ix.length-1].2.length:=by unfold kR.next;rw[lT h0];rfl
 have h3:l.all.length=(((l.ix.map (·.2)).take (l.ix.length-1)).map List.length).sum+l.ix[l.ix.length-1].2.length:=by
  have e:l.ix.map (·.2)=(l.ix.map (·.2)).take (l.ix.length-1)++[l.ix[l.ix.length-1].2]:=by
   have:=List.take_append_drop (l.ix.length-1) (l.ix.map (·.2));rw[List.drop_eq_getElem_cons (by simp;omega),List.drop_of_length_le (by simp;omega)]at this;rw[← List.getElem_map (f:=λx:kP=>x.2) (h:=by simp;omega)];exact this.symm
  unfold kR.all
  conv=>lhs;rw[e]
  rw[List.length_flatten,List.map_append,List.sum_append];simp
 omega
theorem mg {l:kR}(h:lu l){q:Nat}(h0:l.first≤(q:Int))(h1:q<l.next) :
  ∃(i:Nat) (_:i<l.segs.length) (hi:i<l.ix.length),ck l.segs (q:Int)=(i:Int)∧l.ix[i].1≤q∧q-l.ix[i].1<l.ix[i].2.length∧l.all[q-l.first.toNat]?=(l.ix[i].2)[q-l.ix[i].1]?:=by
 have hl:=h.len;have hp:=h.pos;have hf:=mc h (by omega);have e0:=h.each 0 (by omega) (by omega);have hu1:1≤kB (q:Int) l.segs:=by
  rcases Nat.eq_zero_or_pos (kB (q:Int) l.segs)with h9|h9
  ·have:=kJ (q:=(q:Int)) (l:=l.segs) (by omega)
   simp only[h9]at this;rw[e0.1,← hf]at this;omega
  ·omega
 have hul:=kH (q:Int) l.segs;have hfd:=kG (q:=(q:Int)) h.may;have hi:kB (q:Int) l.segs-1<l.segs.length:=by omega
 have hi':kB (q:Int) l.segs-1<l.ix.length:=by omega
 have h3:=kI (q:=(q:Int)) (l:=l.segs) (i:=kB (q:Int) l.segs-1) (by omega) hi;have h4:=h.each _ hi hi';have h5:l.ix[kB (q:Int) l.segs-1].1≤q:=by rw[h4.1]at h3;omega
 have h6:q<kP.next l.ix[kB (q:Int) l.segs-1]:=by
  by_cases hc:kB (q:Int) l.segs<l.segs.length
  ·have h7:=kJ (q:=(q:Int)) hc
   have h8:=h.each _ hc (by omega);have h9:=h.row (kB (q:Int) l.segs-1) (by omega);rw[h8.1]at h7;simp only[show kB (q:Int) l.segs-1+1=kB (q:Int) l.segs from by omega]at h9;omega
  ·have h9:l.next=kP.next l.ix[kB (q:Int) l.segs-1]:=by
    unfold kR.next;rw[lT (by omega)];congr 2;omega
   omega
 have h7:q-l.ix[kB (q:Int) l.segs-1].1<l.ix[kB (q:Int) l.segs-1].2.length:=by
  have:kP.next l.ix[kB (q:Int) l.segs-1]=l.ix[kB (q:Int) l.segs-1].1+l.ix[kB (q:Int) l.segs-1].2.length:=rfl;omega
 refine⟨kB (q:Int) l.segs-1,hi,hi',by rw[hfd];omega,h5,h7,?_⟩;have hs:=me h _ hi';have hg:=ma (l.ix.map (·.2)) (kB (q:Int) l.segs-1) (by simpa using hi') (q-l.ix[kB (q:Int) l.segs-1].1) (by simpa using h7);rw[List.getElem_map]at hg;rw[← hg];unfold kR.all;congr 1;rw[hf];omega
theorem mh {fs:Fs}{n:List UInt8}(h:∀f∈fs,f.name≠n):cM fs n=none:=by
 unfold cM;rw[List.find?_eq_none];intro f hf;simpa using h f hf
theorem mi {σ:Type}{f:σ→σ×Int}{r:List (σ→σ×Int)}{s s':σ}(h:f s=(s',0)):kT (f::r) s=kT r s':=by
 show(if (f s).2≠0 then f s else kT r (f s).1)=_;rw[h];rfl
theorem mj {σ:Type}{f:σ→σ×Int}{r:List (σ→σ×Int)}{s:σ}(h:(f s).2≠0):kT (f::r) s=f s:=by
 show(if (f s).2≠0 then f s else kT r (f s).1)=_;rw[if_pos h]
theorem ml {l:kR}(hk:lu l){i:Nat}(hi:i<l.segs.length):gu l.segs[i]≠jg:=by
 obtain⟨a,f,e,h1,h2⟩:=lP hk.may i hi;rw[e];exact lQ h1 h2 _
theorem mm {st:cZ}{l:kR}(hk:lu l)(ho:LgOn st l):cM st.fs jg=none:=by
 refine mh λf hf=>?_
 rcases ho.only f hf with h|h
 ·rw[h];exact λe=>jJ e.symm
 ·obtain⟨x,hx,e⟩:=List.mem_map.1 h
  obtain⟨i,hi,rfl⟩:=List.getElem_of_mem hx;rw[← e];exact ml hk hi
structure LgPart (l:kR):Prop where
 size:∀i (h:i<l.ix.length),l.ix[i].2.length≤1∨(kP.good l.ix[i]:Int)≤l.cfg.ss
 some_:∀i (h:i+1<l.ix.length),l.ix[i].2≠[]
theorem mn {x:kP}(h:x.good=16):x.2=[]:=by
 unfold kP.good at h;rw[iS]at h;have:=iI (q:=x.1) (a:=x.2);exact List.eq_nil_of_length_eq_zero (by omega)
theorem mo (q:Nat):kP.good (q,[])=16:=by unfold kP.good;rw[iS];rfl
theorem LgPart.add {l:kR}(h:LgPart l){p:List UInt8}(hf:lj l.lastIx.good p.length l.cfg.ss=true∨l.lastIx.2=[]):LgPart (l.add p):=by
 have key:(l.lastIx.2++[p]).length≤1∨(kP.good (l.lastIx.1,l.lastIx.2++[p]):Int)≤l.cfg.ss:=by
  rcases hf with hf|hf
  ·unfold lj at hf
   simp only[Bool.and_eq_true,Bool.or_eq_true,decide_eq_true_eq]at hf
   rcases hf.2 with h2|h2
   ·left;rw[mn (by omega)];simp
   ·right;have e:=lW l.lastIx.1 l.lastIx.2 p;have e2:kP.good (l.lastIx.1,l.lastIx.2)=l.lastIx.good:=rfl;omega
  ·left;rw[hf];simp
 constructor
 ·intro i hi
  by_cases h0:l.ix.length=0
  ·have e:(l.add p).ix=[(l.lastIx.1,l.lastIx.2++[p])]:=by unfold kR.add;simp[List.eq_nil_of_length_eq_zero h0]
   simp only[e];have hi9:i=0:=by rw[e]at hi;simpa using hi
   subst hi9;exact key
  ·have hle:=lY l p (by omega)
   rw[lZ l p i hi (by omega)];by_cases hc:i+1=l.ix.length
   ·rw[if_pos hc];exact key
   ·rw[if_neg hc];exact h.size i (by omega)
 ·intro i hi
  by_cases h0:l.ix.length=0
  ·have e:(l.add p).ix=[(l.lastIx.1,l.lastIx.2++[p])]:=by unfold kR.add;simp[List.eq_nil_of_length_eq_zero h0]
   rw[e]at hi;simp at hi
  ·have hle:=lY l p (by omega)
   rw[lZ l p i (by omega) (by omega)];by_cases hc:i+1=l.ix.length
   ·omega
   ·rw[if_neg hc];exact h.some_ i (by omega)
theorem LgPart.turn {l:kR}(h:LgPart l)(hne:l.lastIx.2≠[])(h0:0<l.ix.length):LgPart l.turn:=by
 have e:l.turn.ix=l.ix++[(l.next,[])]:=rfl;have hl:l.turn.ix.length=l.ix.length+1:=by rw[e];simp
 constructor
 ·intro i hi
  rw[List.getElem_of_eq e hi];by_cases hc:i<l.ix.length
  ·rw[List.getElem_append_left hc];exact h.size i hc
  ·rw[List.getElem_append_right (by omega),List.getElem_singleton];left;simp
 ·intro i hi
  rw[List.getElem_of_eq e (by omega),List.getElem_append_left (by omega)];by_cases hc:i+1<l.ix.length
  ·exact h.some_ i hc
  ·have e2:l.ix[i]'(by omega)=l.lastIx:=by rw[lT h0];congr 1;omega
   rw[e2];exact hne
end
section
open Go.RowKit
theorem xR {w:World}{p:Nat}{v:Value}{L:List UInt8}(h:aN w p v L){g:Nat}(hg:v.ownBlock=some g):g<w.heap.size:=by
 rcases h.own.2 with⟨rfl,_⟩|⟨k,cap,cur,rfl,_,hh,_⟩
 ·cases hg
 ·cases hg;exact lt_of_block hh
theorem xT (n:Nat)(h:n<128):qC n=[UInt8.ofNat n]:=qD h
theorem xU (w:World)(hk:uL w)(p:Nat)(x:Value)(L:List UInt8)(hw:aN w p x L)(hL:L.length≤1000)(v:Int)(hv:v=1∨v=2∨v=3)(n:Nat)(h1:1≤n)(h2:n≤100)(h c:Nat)(hh:w.cell? ⟨h,0,none⟩=some (.int .i64 (n:Int)))(hp:h≠p)(hx:x.ownBlock≠some h) :
  Calls prog 213 #[.pointer (some ⟨p,0,none⟩),uX v h c] w λe w'=>e = .returned (.int .i64 0)∧∃x',aO p w w' x x' (L++[20,UInt8.ofNat n]):=by
 have HV:=hid hv;obtain⟨W0,hW0⟩:∃W0,W0=w.alloc (.cells #[.int .u8 v,.int .u8 20,.slice (some ⟨h,0,none⟩) 1 c,.slice none 0 0] 189):=⟨_,rfl⟩;have hb0:Below w.heap.size w W0:=by rw[hW0];exact(Below.refl _ _).alloc (Nat.le_refl _) _
 have hr0:W0.heap[w.heap.size]?=some (.cells #[.int .u8 v,.int .u8 20,.slice (some ⟨h,0,none⟩) 1 c,.slice none 0 0] 189 (0,0)):=by rw[hW0];exact heap_alloc_new _ _
 have HH:=hid (vd hh hb0);have HK:=hid (hk.pure hb0);have HR:=hid hr0;have HB0:=hid hb0;have HW:=hid hw;have HPX:=hid (And.intro hp hx);have hpn:w.heap.size≠p:=by have:=hw.lt;omega
 have hxn:x.ownBlock≠some w.heap.size:=λe=>by have:=xR hw e;omega
 have HPN:=hid (And.intro hpn hxn);have hc1:(n:Int) % 18446744073709551616=(n:Int):=by omega
 have HC1:=hid hc1;clear hk hv hh hb0 hr0 hw hp hx hpn hxn hc1
 go_enter func213,ntmps213
 go_wp2_with fail
 rw[← hW0];clear hW0;obtain⟨x0,x1,x2,x3,_⟩:=uY HR.out;refine(ve W0 HK.out v HV.out n (by omega) (by omega) h c HH.out).mono ?_;rintro e w1 ⟨rfl,hb1⟩;clear x0 x1 x2 x3;have HW1:=hid (HW.out.kept (Fr.pure (S:=λ_=>False) (HB0.out.trans (hb1.mono HB0.out.size))) (λe=>e) (λ_ _ e=>e));have HB1:=hid (HB0.out.trans (hb1.mono HB0.out.size));have HR1:=hid (uZ HR.out hb1);have HH1:=hid (vd HH.out hb1);obtain⟨x0,x1,x2,x3,_⟩:=uY HR1.out;clear hb1
 go_wp2_with fail
 refine(show Calls prog 211 #[.pointer (some ⟨p,0,none⟩),.int .u8 20] w1 _ from un 20 p x L w1 (by omega) HW1.out (by omega)).mono ?_;rintro e w2 ⟨rfl,y2,h2⟩;have HW2:=hid h2;have HR2:=hid (h2.fr.heapAt HR1.out (λe=>e.elim HPN.out.1 HPN.out.2));have hh2:=h2.fr.cellAt HH1.out (λe=>e.elim HPX.out.1 HPX.out.2);clear h2 x0 x1 x2 x3;obtain⟨x0,x1,x2,x3,_⟩:=uY HR2.out
 go_wp2_with fail
 refine wp_loop_rounds 2 ?_;rw[rounds_succ]
 go_wp2_with fail
 try rw[HC1.out]
 refine(uo n p y2 (L++[UInt8.ofNat 20]) w2 (by omega) HW2.out.is (by simp;omega)).mono ?_;rintro e w3 ⟨rfl,y3,h3⟩;have HW3:=hid (HW2.out.trans h3);have HR3:=hid (HW3.out.fr.heapAt HR1.out (λe=>e.elim HPN.out.1 HPN.out.2));clear h3 x0 x1 x2 x3 hh2;obtain⟨x0,x1,x2,x3,_⟩:=uY HR3.out;go_wp2;rw[rounds_succ];go_wp2;refine wp_loop_rounds 1 ?_;rw[rounds_succ];go_wp2;go_ret;refine⟨rfl,y3,?_⟩;have hf:L++[UInt8.ofNat 20]++qC n=L++[20,UInt8.ofNat n]:=by rw[xT n (by omega),List.append_assoc];rfl
 rw[← hf];have h:=HW3.out;exact⟨h.is,(Fr.pure HB1.out).trans h.fr,h.went.older HB1.out.size⟩
structure TkAt (w:World) (n q:Nat):Prop where
 r:w.heap[n]?=some (.cells #[.pointer (some ⟨q,0,none⟩)] 191 (0,0))
 t:w.heap[n+1]?=some (.cells #[.pointer (some ⟨q,0,none⟩),.int .i64 0,.func (.func 450) #[] #[.pointer (some ⟨n+2,0,none⟩),.pointer (some ⟨n,0,none⟩)]] 480 (0,0))
 c:w.heap[n+2]?=some (.cells #[.pointer (some ⟨n+1,0,none⟩)] 476 (0,0))
theorem TkAt.kept {S:Nat→Prop}{w w':World}{n q:Nat}(h:TkAt w n q)(hf:Fr S w w')(h0:¬S n)(h1:¬S (n+1))(h2:¬S (n+2)):TkAt w' n q:=⟨hf.heapAt h.r h0,hf.heapAt h.t h1,hf.heapAt h.c h2⟩
theorem TkAt.pure {w w':World}{n q:Nat}(h:TkAt w n q)(hb:Below w.heap.size w w'):TkAt w' n q:=h.kept (Fr.pure (S:=λ_=>False) hb) (λe=>e) (λe=>e) (λe=>e)
theorem TkAt.cs {w:World}{n q:Nat}(h:TkAt w n q):w.cell? ⟨n,0,none⟩=some (.pointer (some ⟨q,0,none⟩))∧w.cell? ⟨n+1,0,none⟩=some (.pointer (some ⟨q,0,none⟩))∧w.cell? ⟨n+1,1,none⟩=some (.int .i64 0)∧w.cell? ⟨n+1,2,none⟩=some (.func (.func 450) #[] #[.pointer (some ⟨n+2,0,none⟩),.pointer (some ⟨n,0,none⟩)])∧w.cell? ⟨n+2,0,none⟩=some (.pointer (some ⟨n+1,0,none⟩))∧∀j:Nat,w.frozen? ⟨n+1,j,none⟩=false:=
 ⟨(cell_of_row _ _ _ _ _ _ h.r).trans rfl,(cell_of_row _ _ _ _ _ _ h.t).trans rfl,(cell_of_row _ _ _ _ _ _ h.t).trans rfl,(cell_of_row _ _ _ _ _ _ h.t).trans rfl,(cell_of_row _ _ _ _ _ _ h.c).trans rfl,λ_=>frozen_of_row _ _ _ _ _ h.t⟩
theorem xV (w:World)(q:Nat) :
  Calls prog 401 #[.pointer (some ⟨q,0,none⟩)] w λe w'=>e = .returned (.pointer (some ⟨w.heap.size+1,0,none⟩))∧TkAt w' w.heap.size q∧Below w.heap.size w w':=by
 have hmf:∀(fn:Fn) (first cap:Array Value) (w:World),(Instr.makeFunc fn first cap).run prog w = .ok (.func fn first cap) w:=λ_ _ _ _=>rfl
 go_enter func401,ntmps401
 go_wp2;go_ret;refine⟨rfl,⟨?_,?_,?_⟩,(((Below.refl _ _).alloc (Nat.le_refl _) _).alloc (by simp) _).alloc (by simp<;>omega) _⟩
 ·exact(Below.heap_alloc _ _ _ (by simp<;>omega)).trans ((Below.heap_alloc _ _ _ (by simp)).trans (heap_alloc_new _ _))
 ·refine(Below.heap_alloc _ _ _ (by simp)).trans ?_
  have:=heap_alloc_new (w.alloc (.cells #[.pointer (some ⟨q,0,none⟩)] 191)) (.cells #[.pointer (some ⟨q,0,none⟩),.int .i64 0,.func (.func 450) #[] #[.pointer (some ⟨w.heap.size+1+1,0,none⟩),.pointer (some ⟨w.heap.size,0,none⟩)]] 480);simpa using this
 ·have:=heap_alloc_new ((w.alloc (.cells #[.pointer (some ⟨q,0,none⟩)] 191)).alloc (.cells #[.pointer (some ⟨q,0,none⟩),.int .i64 0,.func (.func 450) #[] #[.pointer (some ⟨w.heap.size+1+1,0,none⟩),.pointer (some ⟨w.heap.size,0,none⟩)]] 480)) (.cells #[.pointer (some ⟨w.heap.size+1,0,none⟩)] 476)
  simpa using this
theorem xW (w:World)(n q:Nat)(s:ByteArray)(st:bc)(ht:TkAt w n q)(hr:bd w q s st)(he:st.e=0) :
  Calls prog 450 #[.bool true,.pointer (some ⟨n+2,0,none⟩),.pointer (some ⟨n,0,none⟩)] w λe w'=>e = .returned (.tuple #[])∧TkAt w' n q∧Fr (λk=>k=n+1) w w':=by
 obtain⟨x0,x1,x2,x3,x4,z⟩:=ht.cs;have HT:=hid ht;have HR:=hid hr;have HE:=hid he;clear ht hr he
 go_enter func450,ntmps450
 go_wp2_with fail
 have b0:=And.intro x4 x0;refine wp_region_held_drew (S:=(λw'=>w'.cell? ⟨n+2,0,none⟩=some (.pointer (some ⟨n+1,0,none⟩))∧w'.cell? ⟨n,0,none⟩=some (.pointer (some ⟨q,0,none⟩)))) (by kernel_rfl) b0 (λhHeld=>?_);refine tk 0 (h:=?_);simp only[Act.put,List.setIfInBounds_toArray,List.set_cons_zero,List.set_cons_succ];refine tk 1 (h:=?_);simp only[Act.put,List.setIfInBounds_toArray,List.set_cons_zero,List.set_cons_succ];refine rdy 2 (h:=λK hK=>?_)
 go_simp
 refine(bD _ q s st (show bd w.drew q s st from HR.out)).mono ?_;rintro e w1 ⟨rfl,nd,rfl⟩;rw[HE.out];obtain⟨W2,hW2⟩:∃W2,W2=w.drew.drewN nd:=⟨_,rfl⟩;have T2:=hid (show TkAt W2 n q from by rw[hW2];exact⟨HT.out.r,HT.out.t,HT.out.c⟩);have F2:=hid (show Fr (λk=>k=n+1) w W2 from by rw[hW2];exact(Fr.refl _ w).drew.drewN _);rw[← hW2];clear hW2 x0 x1 x2 x3 x4 z;obtain⟨x0,x1,x2,x3,x4,z⟩:=T2.out.cs;refine hK.out _ _ ⟨x4,x0⟩ (λhHeld=>?_);clear hK K;refine tk 3 (h:=?_);simp only[Act.put,List.setIfInBounds_toArray,List.set_cons_zero,List.set_cons_succ];refine tk 4 (h:=?_);simp only[Act.put,List.setIfInBounds_toArray,List.set_cons_zero,List.set_cons_succ];refine tk 5 (h:=?_);simp only[Act.put,List.setIfInBounds_toArray,List.set_cons_zero,List.set_cons_succ];refine tk 6 (h:=?_);simp only[Act.put,List.setIfInBounds_toArray,List.set_cons_zero,List.set_cons_succ];refine tk 7 (h:=?_);simp only[Act.put,List.setIfInBounds_toArray,List.set_cons_zero,List.set_cons_succ];refine rdy 8 (h:=λK hK=>?_)
 go_simp
 obtain⟨W3,hW3⟩:∃W3,W3=W2.setCell ⟨n+1,1,none⟩ (.int .i64 0):=⟨_,rfl⟩;have f3:Fr (λk=>k=n+1) W2 W3:=by rw[hW3];exact(Fr.refl (λk=>k=n+1) W2).setCell ⟨n+1,1,none⟩ (λ_=>rfl) _
 have T3:=hid (show TkAt W3 n q from⟨f3.heapAt T2.out.r (by omega),by rw[hW3];exact heap_setCell_same _ _ _ _ _ _ T2.out.t,f3.heapAt T2.out.c (by omega)⟩);have F3:=hid (F2.out.trans f3);rw[← hW3];clear hW3 f3 x0 x1 x2 x3 x4 z;obtain⟨x0,x1,x2,x3,x4,z⟩:=T3.out.cs;refine hK.out _ _ ⟨x4,x0⟩ (λhHeld=>?_);clear hK K;refine wpAnyH_done (by kernel_rfl) ?_ _;go_wp2
 go_end0
 exact⟨rfl,T3.out,F3.out⟩
end
section
def mU (c:Cfg)(q:Nat):kR:=⟨c,0,[(0,(q:Int))],[(q,[])]⟩
theorem mV {q:Nat}(hq:q≤1048576):bL 0 [(0,(q:Int))]=true:=by
 unfold bL bK bK;simp;omega
theorem mW {c:Cfg}(hc:kN c=true){q:Nat}(hq:q≤1048576):lu (mU c q) where
 cfg:=hc
 may:=mV hq
 len:=rfl
 each:=λi h h'=>by
  obtain rfl:i=0:=by simp[mU]at h;exact h
  refine⟨rfl,trivial,?_⟩;show kP.good (q,[])≤1048576;rw[mo];decide
 row:=λi h=>by
  have h1:i+1<1:=h;omega
 top:=by show q+0≤1048576;omega
def mX (q:Nat):Fs:=cL [⟨b9 0 (q:Int),iM q,[]⟩] ⟨jh,Crc.seal_ (ge 0 [(0,(q:Int))]),[]⟩
theorem mY {st:cZ}(hon:On st)(hfs:st.fs=[]){c:Cfg}(hc:kN c=true){q:Nat}(hq:q≤1048576) :
  kY st (q:Int) c=({ st with fs:=mX q },0,some (mU c q))∨kY st (q:Int) c=(st,44,none):=by
 have hnum:bW (q:Int)=true:=by unfold bW;simp;omega
 obtain⟨fs,cap,left,dark⟩:=st;obtain⟨hl,hf⟩:=hon;simp only at hfs hl hf;subst hfs hl hf;obtain⟨n,hn⟩:∃n,n=b9 0 (q:Int):=⟨_,rfl⟩;have hmay:cY n=true:=by rw[hn];exact lS (a:=0) (by decide) hq
 have hnF:n≠jh:=by rw[hn];exact λe=>lQ (a:=0) (f:=q) (by decide) hq _ e
 have hnR:n≠jg:=by rw[hn];exact λe=>lQ (a:=0) (f:=q) (by decide) hq _ e
 have on_:∀fs',On ⟨fs',cap,-1,false⟩:=λ_=>⟨rfl,rfl⟩;have e1:ee ⟨[],cap,-1,false⟩ n=(⟨[⟨n,[],[]⟩],cap,-1,false⟩,0):=lC (on_ []) hmay rfl (by simp);have del1:∀f:cy,f.name=n→eh ⟨[f],cap,-1,false⟩ n=(⟨[],cap,-1,false⟩,0):=λf hfn=>by
  have hg:cM [f] n=some f:=by rw[← hfn];exact jE
  rw[lG (st:=⟨[f],cap,-1,false⟩) (on_ _) hg];have:cK [f] n=[]:=by unfold cK;rw[List.filter_cons,show(f.name == n)=true from by simp[hfn]];rfl
  simp only[this]
 have hput:∀(f g:cy),f.name=n→g.name=n→cL [f] g=[g]:=λf g hf hg=>by
  unfold cL;have:cK [f] g.name=[]:=by unfold cK;rw[List.filter_cons,show(f.name == g.name)=true from by simp[hf,hg]];rfl
  rw[this];rfl
 have key:kT (kX ⟨[],cap,-1,false⟩ q) ⟨[],cap,-1,false⟩=(⟨mX q,cap,-1,false⟩,0)∨kT (kX ⟨[],cap,-1,false⟩ q) ⟨[],cap,-1,false⟩=(⟨[],cap,-1,false⟩,44):=by
  unfold kX kW;rw[← hn];simp only[List.map_nil,List.nil_append,List.cons_append];rw[mi e1];by_cases h16:(16:Int)≤cap
  ·have e2:kV n (λst=>eR st n (iM q)) ⟨[⟨n,[],[]⟩],cap,-1,false⟩=(⟨[⟨n,[],iM q⟩],cap,-1,false⟩,0):=by
    have ea:=lD (st:=⟨[⟨n,[],[]⟩],cap,-1,false⟩) (x:=iM q) (f:=⟨n,[],[]⟩) (on_ _) jE (by rw[iN];simp) (by rw[iN];simp[cX];omega);simp only[List.nil_append]at ea;rw[hput ⟨n,[],[]⟩ ⟨n,[],iM q⟩ rfl rfl]at ea;unfold kV;simp only[ea];rw[if_neg (by simp)]
   have e3:eD ⟨[⟨n,[],iM q⟩],cap,-1,false⟩ n=(⟨[⟨n,iM q,[]⟩],cap,-1,false⟩,0):=by
    have es:=lE (st:=⟨[⟨n,[],iM q⟩],cap,-1,false⟩) (f:=⟨n,[],iM q⟩) (on_ _) jE;simp only[List.nil_append]at es;rw[hput ⟨n,[],iM q⟩ ⟨n,iM q,[]⟩ rfl rfl]at es;exact es
   rw[mi e2,mi e3];have hfr:cM [(⟨n,iM q,[]⟩:cy)] jg=none:=by rw[jD (by exact hnR)];rfl
   have hu:cX [(⟨n,iM q,[]⟩:cy)]=16:=by simp[cX,iN]
   by_cases h50:(50:Int)≤cap
   ·left
    have e4:=lO (st:=⟨[⟨n,iM q,[]⟩],cap,-1,false⟩) (on_ _) (mV hq) hfr (by simp) (by simp only[hu];simp;omega);have e5:kV n (λst=>jt st 0 [(0,(q:Int))]) ⟨[⟨n,iM q,[]⟩],cap,-1,false⟩=(⟨mX q,cap,-1,false⟩,0):=by
     unfold kV;simp only[e4];rw[if_neg (by simp)];unfold mX;rw[← hn]
    rw[mi e5];rfl
   ·right
    have hnof:lK ⟨[⟨n,iM q,[]⟩],cap,-1,false⟩=⟨[⟨n,iM q,[]⟩],cap,-1,false⟩:=by
     unfold lK;simp only[dU hfr]
    have e4:=(lN ⟨[⟨n,iM q,[]⟩],cap,-1,false⟩ rfl rfl 0 [(0,(q:Int))] (mV hq)).2 (λh=>by
     unfold lL at h;rw[hnof]at h;have h1:=h.1;simp only[hu,List.length_singleton]at h1;omega)
    rw[hnof]at e4;have e5:kV n (λst=>jt st 0 [(0,(q:Int))]) ⟨[⟨n,iM q,[]⟩],cap,-1,false⟩=(⟨[],cap,-1,false⟩,44):=by
     unfold kV;simp only[e4];rw[del1 ⟨n,iM q,[]⟩ rfl];simp
    rw[mj (by rw[e5];simp),e5]
  ·right
   have ea:eR ⟨[⟨n,[],[]⟩],cap,-1,false⟩ n (iM q)=(⟨[⟨n,[],[]⟩],cap,-1,false⟩,44):=by
    have hg:cM [(⟨n,[],[]⟩:cy)] n=some ⟨n,[],[]⟩:=jE;unfold eR;simp only[hg,Bool.false_eq_true,if_false];rw[if_pos (.inr (by rw[iN];simp[cX];omega))]
   have e2:kV n (λst=>eR st n (iM q)) ⟨[⟨n,[],[]⟩],cap,-1,false⟩=(⟨[],cap,-1,false⟩,44):=by
    unfold kV;simp only[ea];rw[del1 ⟨n,[],[]⟩ rfl];simp
   rw[mj (by rw[e2];simp),e2]
 have hu:kY ⟨[],cap,-1,false⟩ (q:Int) c=if (kT (kX ⟨[],cap,-1,false⟩ q) ⟨[],cap,-1,false⟩).2≠0 then ((kT (kX ⟨[],cap,-1,false⟩ q) ⟨[],cap,-1,false⟩).1,(kT (kX ⟨[],cap,-1,false⟩ q) ⟨[],cap,-1,false⟩).2,none) else ((kT (kX ⟨[],cap,-1,false⟩ q) ⟨[],cap,-1,false⟩).1,0,some (mU c q)):=by
  unfold kY;rw[if_neg (by rw[hc,hnum];simp),if_neg (by simp),if_neg (by simp[cM])];simp only[Int.toNat_natCast];rfl
 rw[hu]
 rcases key with e|e
 ·left;rw[e];rfl
 ·right;rw[e];rfl
end
end Go.Proofs.YthjjgcfdhkhelaaGreatDoor
