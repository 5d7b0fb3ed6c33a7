/- The walks of state.parts, and held, where there are no rows, orders, auctions. -/
import Derived.Test.YthjjgcfdhkhelaaGreatDoorQAl
import Derived.Test.YthjjgcfdhkhelaaGreatDoorQAj
import Derived.Laws.StructEq
import Derived.Sort.CutIn
import Derived.Carry
set_option maxHeartbeats 4000000
set_option maxRecDepth 100000
open Go.Lib(hid)
open Go.Proofs.Tryz
namespace Go.Proofs.YthjjgcfdhkhelaaGreatDoor
section
open Go.RowKit Go.Maps
theorem jD {f:cy}{r:Fs}{n:List UInt8}(h:f.name≠n):cM (f::r) n=cM r n:=by
 unfold cM;rw[List.find?_cons,show(f.name == n)=false from by simpa using h]
theorem jE {f:cy}{r:Fs}:cM (f::r) f.name=some f:=by
 unfold cM;rw[List.find?_cons,show(f.name == f.name)=true from by simp]
theorem jF {f:cy}{fs:Fs}(h:cM fs f.name=none):cM (cJ f fs) f.name=some f:=by
 induction fs with
 | nil=>exact jE
 | cons g r ih=>
  unfold cJ
  split
  ·exact jE
  ·by_cases hg:g.name=f.name
   ·rw[← hg,jE]at h;cases h
   ·rw[jD hg]at h ⊢;exact ih h
theorem jG (n:List UInt8)(fs:Fs):cM (cK fs n) n=none:=by
 unfold cM cK;rw[List.find?_eq_none];intro g hg;have:=(List.mem_filter.1 hg).2;simpa using this
theorem jH (f:cy)(fs:Fs):cM (cL fs f) f.name=some f:=by
 unfold cL;exact jF (jG _ _)
theorem jI {f:cy}{fs:Fs}(h:cM fs f.name=none):cK (cJ f fs) f.name=fs:=by
 induction fs with
 | nil=>unfold cJ cK;simp
 | cons g r ih=>
  have hg:g.name≠f.name:=λe=>by rw[← e,jE]at h;cases h
  rw[jD hg]at h;have hk:∀(l:Fs),cK (g::l) f.name=g::cK l f.name:=λl=>by unfold cK;rw[List.filter_cons,show(g.name == f.name)=false from by simpa using hg];rfl
  unfold cJ
  split
  ·rw[show cK (f::g::r) f.name=cK (g::r) f.name from by unfold cK;rw[List.filter_cons,show(f.name == f.name)=true from by simp];rfl,hk,dU h]
  ·rw[hk,ih h]
end
section
open Go.RowKit
theorem pn (g j:Nat):(⟨g,0,none⟩:Addr).add j=⟨g,j,none⟩:=by unfold Addr.add;split<;>simp_all
def po (a b:Int):Int:=if a<b then -1 else if b<a then 1 else 0
theorem pq (a:Int)(w:World):Calls prog 368 #[.int .i64 a] w λe w'=>e = .returned (.bool false)∧w=w':=by
 have h1:(a != a)=false:=by simp
 go_enter func368,ntmps368
 go_wp2;go_ret;exact⟨rfl,rfl⟩
theorem pr (a b:Int)(w:World):Calls prog 281 #[.int .i64 a,.int .i64 b] w λe w'=>e = .returned (.int .i64 (po a b))∧w=w':=by
 by_cases h1:a<b
 ·have HC:=hid (show po a b = -1 from by unfold po;rw[if_pos h1])
  go_enter func281,ntmps281
  go_wp2_with (go_at_call 368;refine(pq _ _).mono ?_;rintro e w' ⟨rfl,rfl⟩)
  go_ret;exact⟨aa HC.out.symm,rfl⟩
 ·by_cases h2:b<a
  ·have HC:=hid (show po a b=1 from by unfold po;rw[if_neg h1,if_pos h2])
   go_enter func281,ntmps281
   go_wp2_with (go_at_call 368;refine(pq _ _).mono ?_;rintro e w' ⟨rfl,rfl⟩)
   go_ret;exact⟨aa HC.out.symm,rfl⟩
  ·have HC:=hid (show po a b=0 from by unfold po;rw[if_neg h1,if_neg h2])
   go_enter func281,ntmps281
   go_wp2_with (go_at_call 368;refine(pq _ _).mono ?_;rintro e w' ⟨rfl,rfl⟩)
   go_ret;exact⟨aa HC.out.symm,rfl⟩
theorem pt (q a t:Int)(w:World):Calls prog 280 #[.agg #[.int .i64 q,.int .i64 a],.int .i64 t] w λe w'=>e = .returned (.int .i64 (po q t))∧Below w.heap.size w w':=by
 go_enter func280,ntmps280
 go_wp2_with (go_at_call 281;refine(pr _ _ _).mono ?_;rintro e w' ⟨rfl,rfl⟩)
 go_ret;exact⟨rfl,(Below.refl _ _).alloc (Nat.le_refl _) _⟩
theorem pu (a b:Int):(po a b<0)↔a<b:=by
 unfold po;by_cases h1:a<b
 ·rw[if_pos h1];omega
 ·by_cases h2:b<a
  ·rw[if_neg h1,if_pos h2];omega
  ·rw[if_neg h1,if_neg h2];omega
theorem pv (a b:Int):(po a b=0)↔a=b:=by
 unfold po;by_cases h1:a<b
 ·rw[if_pos h1];omega
 ·by_cases h2:b<a
  ·rw[if_neg h1,if_pos h2];omega
  ·rw[if_neg h1,if_neg h2];omega
theorem px (w:World)(sv:Value)(l:bI)(hs:bJ w sv l)(t:Int)(m:Nat)(hm:m≤l.length)(hl:l.length≤1073741824)(hP:∀j (h:j<l.length),l[j].1<t↔j<m) :
  Calls prog 279 #[sv,.int .i64 t,.func (.func 280) #[] #[]] w λe w'=>
   (∃fb:Bool,(∀h:m<l.length,fb=decide (l[m].1=t))∧(l.length≤m→fb=false)∧e = .returned (.tuple #[.int .i64 (m:Int),.bool fb]))∧Below w.heap.size w w':=by
 obtain⟨a,c,rfl⟩:=hs.shape;have hent:Enters prog 280:=enters_of func280 (by kernel_rfl) rfl;have he:∀(args:Array Value) (w:World),(callFunc 280 args).run prog w = .ok (.enter 280 args) w:=hent;have HS:=hid hs;have HP:=hid hP;clear hs hP hent
 go_enter func279,ntmps279
 go_wp2
 go_loopw [9,10] (λi j wr=>∃x y:Nat,x≤m∧m≤y∧y≤l.length∧i = .int .i64 (x:Int)∧j = .int .i64 (y:Int)∧Below w.heap.size w wr) (λi j _=>(intOf j).toNat-(intOf i).toNat)
 case atStart=>exact⟨0,l.length,by omega,hm,Nat.le_refl _,rfl,rfl,Below.refl _ _⟩
 case round=>
  obtain⟨x,y,hx,hy,hyl,rfl,rfl,hb⟩:=hrel;have HB:=hid hb;clear hb;by_cases hlt:x<y
  ·obtain⟨h,hh⟩:∃h,h=(x+y) / 2:=⟨_,rfl⟩
   have hxh:x≤h:=by omega
   have hhy:h<y:=by omega
   have hmid:h<l.length:=by omega
   have hhi:((x:Int)+(y:Int)) / 2=(h:Int):=by omega
   obtain⟨bb,o,rfl,h1,h2,hbl⟩:=(HS.out.pure HB.out).at h hmid;have hp:=HP.out h hmid
   generalize l[h].1=Q at *
   generalize l[h].2=A at *
   have hlc:=pu Q t;clear hh;by_cases hQ:Q<t
   ·have hm1:=hp.1 hQ
    have hc:=hlc.2 hQ;clear hp hlc hQ
    go_wp2_with fail
    refine(pt Q A t _).mono ?_;rintro e w2 ⟨rfl,hb2⟩;have HB2:=hid (HB.out.trans (hb2.mono HB.out.size));clear hb2 h1 h2;go_wp2
    go_roundw
    case rel=>exact⟨h+1,y,by omega,hy,hyl,by go_num,rfl,HB2.out⟩
    case measure=>simp[intOf];omega
   ·have hm1:¬h<m:=λe=>hQ (hp.2 e)
    have hc:¬po Q t<0:=λe=>hQ (hlc.1 e);clear hp hlc hQ
    go_wp2_with fail
    refine(pt Q A t _).mono ?_;rintro e w2 ⟨rfl,hb2⟩;have HB2:=hid (HB.out.trans (hb2.mono HB.out.size));clear hb2 h1 h2;go_wp2
    go_roundw
    case rel=>exact⟨x,h,hx,by omega,by omega,rfl,rfl,HB2.out⟩
    case measure=>simp[intOf];omega
  ·obtain rfl:x=m:=by omega
   obtain rfl:y=x:=by omega
   clear hlt hx hy;by_cases hml:y<l.length
   ·obtain⟨bb,o,rfl,h1,h2,hbl⟩:=(HS.out.pure HB.out).at y hml
    have hE:=pv l[y].1 t;obtain⟨Q,hQ⟩:∃Q,Q=l[y].1:=⟨_,rfl⟩;rw[← hQ]at h1 hE;have HQ:=hid hQ
    generalize l[y].2=A at *
    clear hQ
    go_wp2_with fail
    refine(pt Q A t _).mono ?_;rintro e w2 ⟨rfl,hb2⟩;have HB2:=hid (HB.out.trans (hb2.mono HB.out.size));clear hb2 h1 h2;go_wp2
    go_ret2
    exact⟨⟨_,λ_=>(by rw[← HQ.out,Bool.eq_iff_iff,beq_iff_eq,decide_eq_true_iff];exact hE),λh=>absurd hml (by omega),rfl⟩,HB2.out⟩
   ·go_wp2
    go_ret2
    exact⟨⟨false,λh=>absurd h hml,λ_=>rfl,rfl⟩,HB.out⟩
theorem py {w:World}{e:TypeId}{sv:Value}{l:bI}(h:w.ownsRow 0 e 2 sv l.length (gJ l)):bJ w sv l:=by
 rcases h.2 with⟨rfl,h0⟩|⟨g,cap,cur,rfl,hbg,hg,hnc,hcm,hcs,htake⟩
 ·have:l=[]:=List.eq_nil_of_length_eq_zero h0
  subst this;exact⟨none,0,rfl,.inl rfl⟩
 ·refine⟨_,cap,rfl,.inr ⟨g,0,rfl,λi hi=>?_⟩⟩
  have hc:=h.cells (g:=g) rfl;obtain⟨h1,h2⟩:=gM l i hi;have a1:=hc (i*2) _ h1;have a2:=hc (i*2+1) _ h2;rw[pn]at a1 a2;exact⟨by rw[Nat.zero_add];exact a1,by rw[Nat.zero_add];exact a2⟩
def pz (ev q:Nat)(ps:List (List UInt8))(k:Nat):Int×Int:=iU ev q ps (k / ev)
theorem pA {ev:Nat}(h:0<ev)(q:Nat)(ps:List (List UInt8))(k:Nat)(hm:iT ev k<(iV ev q ps).length):((iV ev q ps)[iT ev k].1=((q+k:Nat):Int))↔k % ev=0:=by
 rw[iX];unfold iU;show((q+iT ev k*ev:Nat):Int)=((q+k:Nat):Int)↔_;rw[jd h];have:=Nat.div_add_mod k ev;constructor
 ·intro e
  by_cases h0:k % ev=0
  ·exact h0
  ·rw[if_neg h0,Nat.add_mul,Nat.mul_comm (k / ev)]at e
   have:=Nat.mod_lt k h;omega
 ·intro h0
  rw[if_pos h0,Nat.add_zero,Nat.mul_comm];omega
theorem pB (w:World)(x ev q nx g:Nat)(sv:Value)(ps:List (List UInt8))(h:oR w x ev q nx g sv (iV ev q ps))(hev:1≤ev)(hn:nx=q+ps.length)(hnx:nx≤2097152)(k:Nat)(hk:k<ps.length) :
  Calls prog 206 #[.pointer (some ⟨x,0,none⟩),.int .i64 ((q+k:Nat):Int)] w λe w'=>e = .returned (.tuple #[.agg #[.int .i64 (pz ev q ps k).1,.int .i64 (pz ev q ps k).2],.bool true])∧Below w.heap.size w w':=by
 obtain⟨c0,c1,c2,c3,c4⟩:=h.cs;have hxl:=h.lt;have hs:=py h.own;have hml:=iW ev q ps;have hmk:=jc hev hk;have hmn:=jd hev k;have hmm:iT ev k≤(iV ev q ps).length:=by rw[hml,hmn];split<;>omega
 obtain⟨a0,k0,rfl⟩:=hs.shape;have hP:∀j (hj:j<(iV ev q ps).length),(iV ev q ps)[j].1<((q+k:Nat):Int)↔j<iT ev k:=λj hj=>by rw[iX];exact je hev q ps j k
 have hfd:=λhm=>pA hev q ps k hm;have hlen:(iV ev q ps).length≤2097153:=by
  rw[hml,jd hev];have:=Nat.div_le_self ps.length ev
  split<;>omega
 have HF:=hid hfd;have HS:=hid hs;have HP:=hid hP;have HML:=hid hml;have HMK:=hid hmk;have HMN:=hid hmn;have hb:Below w.heap.size w (w.alloc (.cells #[.int .i64 0,.int .i64 0] 224)):=(Below.refl _ _).alloc (Nat.le_refl _) _;have HB:=hid hb;clear h hs hP hml hmk hmn hb hfd;obtain⟨T,hT⟩:∃T:Int,T=((q+k:Nat):Int):=⟨_,rfl⟩;rw[← hT];have ht1:(q:Int)≤T:=by omega
 have ht2:T<(nx:Int):=by omega
 have HT:=hid hT;clear hT
 go_enter func206,ntmps206
 go_wp2_with fail
 refine(px _ _ _ (HS.out.pure HB.out) T (iT ev k) hmm (by omega) (by rw[HT.out];exact HP.out)).mono ?_;rintro e w2 ⟨⟨fb,hf1,hf2,rfl⟩,hb2⟩;obtain⟨J,hJ⟩:∃J,J=k / ev:=⟨_,rfl⟩;have hJl:J<(iV ev q ps).length:=by rw[hJ,HML.out];exact HMK.out
 have HB2:=hid (HB.out.trans (hb2.mono HB.out.size));have hs2:=HS.out.pure HB2.out;obtain⟨bb,o,rfl,g1,g2,hbl⟩:=hs2.at J hJl;have d4:w2.cell? ⟨x,4,none⟩=some (.slice (some ⟨bb,o,none⟩) (iV ev q ps).length k0):=(HB2.out.cell (p:=⟨x,4,none⟩) hxl).trans c4;have hbx:w2.heap[w.heap.size]?=some (.cells #[.int .i64 0,.int .i64 0] 224 (0,0)):=(hb2.block _ (by simp)).trans (heap_alloc_new _ _);have r0:w2.cell? ⟨w.heap.size,0,none⟩=some (.int .i64 0):=(cell_of_row _ _ _ _ _ _ hbx).trans rfl;have r1:w2.cell? ⟨w.heap.size,1,none⟩=some (.int .i64 0):=(cell_of_row _ _ _ _ _ _ hbx).trans rfl;have z0:∀j:Nat,w2.frozen? ⟨w.heap.size,j,none⟩=false:=λj=>frozen_of_row _ _ _ _ _ hbx;have hA1:(iV ev q ps)[J].1=(pz ev q ps k).1:=by rw[iX,hJ];rfl
 have hA2:(iV ev q ps)[J].2=(pz ev q ps k).2:=by rw[iX,hJ];rfl
 rw[hA1]at g1;rw[hA2]at g2;obtain⟨L,hL⟩:∃L,L=(iV ev q ps).length:=⟨_,rfl⟩;rw[← hL]at hJl d4 hlen;have hend:∀W,W=(w2.setCell ⟨w.heap.size,0,none⟩ (.int .i64 (pz ev q ps k).1)).setCell ⟨w.heap.size,1,none⟩ (.int .i64 (pz ev q ps k).2)→Below w.heap.size w W:=λW e=>by
  rw[e];exact(HB2.out.setCell (p:=⟨w.heap.size,0,none⟩) (Nat.le_refl _) _).setCell (p:=⟨w.heap.size,1,none⟩) (Nat.le_refl _) _
 have HE:=hid hend;have HJ:=hid hJ;have HL:=hid hL;clear hend hJ hL hs2 hb2 hbx c0 c1 c2 c3 c4 hA1 hA2 hn;by_cases h0:k % ev=0
 ·have hmJ:iT ev k=J:=by rw[HMN.out,if_pos h0,HJ.out];rfl
  have hfb:fb=true:=by
   have hlt:iT ev k<(iV ev q ps).length:=by rw[hmJ,← HL.out];exact hJl
   rw[hf1 hlt,decide_eq_true_iff,HT.out];exact(HF.out hlt).2 h0
  subst hfb;rw[hmJ];clear hmJ hf1 hf2 h0 hmm;go_wp2;exact bodyPost_ret (v:=.tuple #[.agg #[.int .i64 (pz ev q ps k).1,.int .i64 (pz ev q ps k).2],.bool true]) (by simp[results,results206,go_sem,r0,r1]) rfl ⟨rfl,HE.out _ rfl⟩
 ·have hmJ:iT ev k=J+1:=by rw[HMN.out,if_neg h0,HJ.out]
  have hfb:fb=false:=by
   by_cases hlt:iT ev k<(iV ev q ps).length
   ·rw[hf1 hlt,decide_eq_false_iff_not,HT.out];exact λe=>h0 ((HF.out hlt).1 e)
   ·exact hf2 (by omega)
  subst hfb;rw[hmJ];have hi:((J+1:Nat):Int)-1=(J:Int):=by omega
  clear hmJ hf1 hf2 h0 hmm;go_wp2;exact bodyPost_ret (v:=.tuple #[.agg #[.int .i64 (pz ev q ps k).1,.int .i64 (pz ev q ps k).2],.bool true]) (by simp[results,results206,go_sem,r0,r1]) rfl ⟨rfl,HE.out _ rfl⟩
section
variable {P:Program} {ops:Array Oper} {Q:Exit→Act→World→Prop} {md:Region.Mode} {S:World→Prop} {z:Nat}
theorem tz (i:Nat){oi:Oper}{v:Value}{fuel:Nat}{listed:Array Bool}{a:Act}{w:World}
  (hi:ops[i]?=some oi:=by first|(simp only[List.getElem?_toArray,List.getElem?_cons_succ,List.getElem?_cons_zero];rfl)|(simp only[List.getElem?_toArray,List.getElem?_cons_zero];rfl))
  (hs:Region.noSelect ops=true:=by kernel_rfl) (hf:Region.free md ops listed i=true:=by kernel_rfl) (hr:(Region.ready md ops listed).contains i=true:=by kernel_rfl) (hw:oY md ops z i=true:=by kernel_rfl)
  (hQ:∀c a w,Q (.panic c) (a.put oi.dst v) w→Q (.panic c) a w:=by exact λ_ _ _ h=>h)
  (hy:YieldsIf P ops S oi v a:=by exact Or.inl ⟨by rfl,by(intro w hSw;(try dsimp only at hSw);go_simp;try with_reducible rfl)⟩) (hS:S w:=by assumption)
  (h:oV P md ops Q S z fuel (listed.setIfInBounds i true) (a.put oi.dst v) w):oV P md ops Q S z (fuel+1) listed a w:=oZ hi hs hf hr hw hQ hy hS h
theorem rz (i:Nat){o:Oper}{fuel:Nat}{listed:Array Bool}{a:Act}{w:World}
  (hi:ops[i]?=some o:=by first|(simp only[List.getElem?_toArray,List.getElem?_cons_succ,List.getElem?_cons_zero];rfl)|(simp only[List.getElem?_toArray,List.getElem?_cons_zero];rfl))
  (hr:Region.ready md ops listed=[i]:=by kernel_rfl)
  (h:∀K':Act→World→Prop,Shut (∀a w,(i≠z→S w)→oV P md ops Q S z fuel (listed.setIfInBounds i true) a w→K' a w)→if Region.wanted o (yielded ops a.tmps)=true then Oper.wp P o a w K' Q else K' (a.put o.dst undef) w) :
  oV P md ops Q S z (fuel+1) listed a w:=pd hi hr h
end
end
section
theorem lw {fs:Fs}{f g:cy}(h:g.name=f.name):cL (cL fs f) g=cL fs g:=by
 unfold cL;rw[h,jI (jG _ _)]
theorem ly {fs:Fs}{f:cy}(h:cM fs f.name=none):cX (cL fs f)=(f.firm.length+f.pend.length)+cX fs:=by rw[dX,dU h]
structure On (st:cZ):Prop where
 lit:st.dark=false
 free:st.left = -1
theorem On.put {st:cZ}(h:On st)(fs':Fs):On { st with fs:=fs' }:=⟨h.lit,h.free⟩
theorem lA {st:cZ}(h:On st)(fs':Fs):dZ st fs'=({ st with fs:=fs' },0):=by
 obtain⟨fs,cap,left,dark⟩:=st;obtain⟨h1,h2⟩:=h;simp only at h1 h2;subst h1 h2;rfl
theorem lC {st:cZ}(h:On st){n:List UInt8}(hn:cY n=true)(hg:cM st.fs n=none)(hl:st.fs.length<64):ee st n=({ st with fs:=cL st.fs ⟨n,[],[]⟩ },0):=
 (show ee st n=dZ st (cL st.fs ⟨n,[],[]⟩)from by unfold ee;rw[h.lit,hn,hg,if_neg (by decide),if_neg (by decide),if_neg (by simp),if_neg (by omega)]).trans (lA h _)
theorem lD {st:cZ}(h:On st){n x:List UInt8}{f:cy}(hg:cM st.fs n=some f)(h1:f.firm.length+f.pend.length+x.length≤1048576)(h2:(cX st.fs:Int)+(x.length:Int)≤st.cap) :
  eR st n x=({ st with fs:=cL st.fs ⟨n,f.firm,f.pend++x⟩ },0):=by
 obtain⟨fs,cap,left,dark⟩:=st;obtain⟨h3,h4⟩:=h;simp only at h3 h4 h2 hg;subst h3 h4;unfold eR;simp only[hg,Bool.false_eq_true,if_false];rw[if_neg (by omega),if_neg (by decide)];rfl
theorem lE {st:cZ}(h:On st){n:List UInt8}{f:cy}(hg:cM st.fs n=some f):eD st n=({ st with fs:=cL st.fs ⟨n,f.firm++f.pend,[]⟩ },0):=
 (show eD st n=dZ st (cL st.fs ⟨n,f.firm++f.pend,[]⟩)from by unfold eD;rw[h.lit,hg,if_neg (by decide)]).trans (lA h _)
theorem lF {st:cZ}(h:On st){n:List UInt8}(hg:cM st.fs n=none):eh st n=(st,5):=by
 unfold eh;rw[h.lit,hg,if_neg (by decide)]
theorem lG {st:cZ}(h:On st){n:List UInt8}{f:cy}(hg:cM st.fs n=some f):eh st n=({ st with fs:=cK st.fs n },0):=
 (show eh st n=dZ st (cK st.fs n)from by unfold eh;rw[h.lit,hg,if_neg (by decide)]).trans (lA h _)
theorem lH {st:cZ}(h:On st){a c:List UInt8}{f:cy}(hg:cM st.fs a=some f)(hc:cY c=true)(hne:a≠c):eL st a c=({ st with fs:=cL (cK st.fs a) ⟨c,f.firm,f.pend⟩ },0):=
 (show eL st a c=dZ st (cL (cK st.fs a) ⟨c,f.firm,f.pend⟩)from by
   unfold eL;rw[h.lit,hg,if_neg (by decide)];simp only[hc,Bool.not_true,Bool.false_eq_true,if_false];rw[if_neg hne]).trans (lA h _)
end
section
open Go.RowKit Go.Sort Go.Shelf
theorem AO (w:World):Calls prog 203 #[.slice none 0 0] w λe w'=>e = .returned (.tuple #[])∧w'=w:=
 AnyM.slices_Sort_string_none Tryz.laysSlM6_f203 none 0 w
theorem AP (w:World):Calls prog 453 #[.slice none 0 0] w λe w'=>e = .returned (.slice none 0 0)∧w=w':=by
 go_enter func453,ntmps453
 go_wp2;go_ret;exact⟨rfl,rfl⟩
theorem AQ (w:World):Calls prog 290 #[.slice none 0 0] w λe w'=>e = .returned (.slice none 0 0)∧w=w':=by
 have hq:∀w,(binOp .eql 70 (.slice none 0 0) (.slice none 0 0)).run prog w = .ok (.bool true) w:=λw=>by have:=Lib.run_eql_slice_nil (P:=prog) w 70 _ none 0 0 0 0 underlying70;exact this
 go_enter func290,ntmps290
 go_wp2;go_ret;exact⟨rfl,rfl⟩
theorem AR (w:World):Calls prog 419 #[.slice none 0 0] w λe w'=>e = .returned (.bool true)∧w=w':=by
 have hmf:∀(fn:Fn) (first cap:Array Value) (w:World),(Instr.makeFunc fn first cap).run prog w = .ok (.func fn first cap) w:=λ_ _ _ _=>rfl
 go_enter func419,ntmps419
 go_wp2_with fail
 refine(AE w _).mono ?_;rintro e w1 ⟨rfl,rfl⟩
 go_wp2_with fail
 refine(AO w).mono ?_;rintro e w1 ⟨rfl,rfl⟩
 go_wp2_with fail
 refine(AQ _).mono ?_;rintro e w1 ⟨rfl,rfl⟩
 go_wp2_with fail
 refine(AP _).mono ?_;rintro e w1 ⟨rfl,rfl⟩;go_wp2;go_ret;exact⟨rfl,rfl⟩
end
section
open Go.RowKit
theorem AU {P:Program}{k:IntKind}(t e:TypeId)(n:Nat)(xs:Array Value)(ht:P.underlying t=some (.array n e))(he:P.underlying e=some (.int k))(hz:∀w,(sizeOf e).run P w = .ok 1 w)(ha:∀w,(isAgg e).run P w = .ok false w)
  (hx:∀i,i<n→∃a,xs[i]?=some (.int k a)) (d:Nat) (w:World):(Op.equalIn (d+1+1) t (.agg xs) (.agg xs)).run P w = .ok true w:=by
 have hpart:∀i,i<n→∀w,∃a,(part e xs i).run P w = .ok (.int k a) w:=λi hi w=>by
  obtain⟨a,h⟩:=hx i hi;exact⟨a,by unfold part;simp[ha,h]⟩
 rw[Op.equalIn];simp only[Sem.run_bind,run_underlying ht,Result.andThen_ok,hz,Std.Legacy.Range.forIn_eq_forIn_range',Std.Legacy.Range.size];have hl:∀i∈List.range' 0 ((n-0+1-1) / 1) 1,i<n:=λi hi=>by
  rw[List.mem_range']at hi;obtain⟨j,h1,h2⟩:=hi;omega
 generalize List.range' 0 ((n-0+1-1) / 1) 1=l at hl ⊢
 induction l with
 | nil=>simp
 | cons i l ih=>
  obtain⟨a,h⟩:=hpart i (hl i (by simp)) w;rw[List.forIn_cons];simp only[Sem.run_bind,Nat.mul_one,h,Result.andThen_ok];rw[run_equalIn_int w d e k k a a he];have:=ih (λj hj=>hl j (by simp[hj]));simp only[Nat.mul_one]at this;simpa using this
theorem AV {w w1:World}{C:Array Value}{T:TypeId}(hb:Below (w.alloc (.cells C T)).heap.size (w.alloc (.cells C T)) w1)(j:Nat)(v:Value)(h:C[j]?=some v):w1.cell? ⟨w.heap.size,j,none⟩=some v:=by
 rw[hb.cell (by simp),World.cell?_alloc_at _ _ _ _ rfl];exact h
theorem AW {w w1:World}{o:Obj}(hb:Below (w.alloc o).heap.size (w.alloc o) w1):Below w.heap.size w w1:=((Below.refl _ _).alloc (Nat.le_refl _) _).trans (hb.mono (by simp))
theorem AY {a b c:World}(h:Below a.heap.size a b)(k:Below b.heap.size b c):Below a.heap.size a c:=h.trans (k.mono h.size)
def AZ (c f a b:Int):Value:=.agg #[.int .i64 c,.int .i64 f,.int .i64 a,.int .i64 b,.slice none 0 0,.slice none 0 0,.slice none 0 0,.slice none 0 0,.slice none 0 0]
def A5:Value:=.agg #[.slice none 0 0,.slice none 0 0,.slice none 0 0,.slice none 0 0]
theorem A7 (w:World)(n l h:Int)(h0:l≤n)(h1:n≤h):Calls prog 418 #[.int .i64 n,.int .i64 l,.int .i64 h] w λe w'=>e = .returned (.bool true)∧w=w':=by
 go_enter func418,ntmps418
 go_wp2;go_ret;exact⟨rfl,rfl⟩
theorem A8 (w:World)(n:Int)(h0:1≤n)(h1:n≤1099511627777):Calls prog 417 #[.int .i64 n] w λe w'=>e = .returned (.bool true)∧w=w':=by
 go_enter func417,ntmps417
 go_wp2_with fail
 refine(A7 w n 1 1099511627777 h0 h1).mono ?_;rintro e w1 ⟨rfl,rfl⟩;go_wp2;go_ret;exact⟨rfl,rfl⟩
theorem Ba (w:World)(c:Int)(h0:0≤c)(h1:c≤1000):Calls prog 373 #[AZ c 0 1 1] w λe w'=>e = .returned (.bool true)∧Below w.heap.size w w':=by
 unfold AZ;have hmf:∀(fn:Fn) (first cap:Array Value) (w:World),(Instr.makeFunc fn first cap).run prog w = .ok (.func fn first cap) w:=λ_ _ _ _=>rfl;have he:∀(args:Array Value) (w:World),(callFunc 417 args).run prog w = .ok (.enter 417 args) w:=enters_of func417 (by kernel_rfl) rfl
 go_enter func373,ntmps373
 go_wp2_with fail
 refine(A7 _ c 0 1099511627776 (by omega) (by omega)).mono ?_;rintro e w1 ⟨rfl,rfl⟩
 go_wp2_with fail
 refine(A7 _ 0 0 1000 (by omega) (by omega)).mono ?_;rintro e w1 ⟨rfl,rfl⟩
 go_wp2_with fail
 refine(A8 _ 1 (by omega) (by omega)).mono ?_;rintro e w1 ⟨rfl,rfl⟩
 go_wp2_with fail
 refine(A8 _ 1 (by omega) (by omega)).mono ?_;rintro e w1 ⟨rfl,rfl⟩;go_wp2;go_ret;exact⟨rfl,(Below.refl _ _).alloc (Nat.le_refl _) _⟩
theorem Bb (w:World)(c f a b:Int):Calls prog 374 #[AZ c f a b] w λe w'=>e = .returned (.bool true)∧Below w.heap.size w w':=by
 unfold AZ
 go_enter func374,ntmps374
 go_wp2
 go_loopw [3,9] (λl i wr=>l = .slice none 0 0∧i = .int .i64 0∧Hid (Below w.heap.size w wr)) (λ_ _ _=>0)
 case atStart=>exact⟨rfl,rfl,hid ((Below.refl _ _).alloc (Nat.le_refl _) _)⟩
 case round=>
  obtain⟨rfl,rfl,HB⟩:=hrel
  go_wp2_with fail
  refine(AR _).mono ?_;rintro e w1 ⟨rfl,rfl⟩;go_wp2;go_ret;exact⟨rfl,HB.out⟩
theorem Bc (w:World)(c f a b:Int):Calls prog 375 #[AZ c f a b] w λe w'=>e = .returned (.bool true)∧Below w.heap.size w w':=by
 unfold AZ
 go_enter func375,ntmps375
 go_wp2
 go_loopw [3,9] (λl i wr=>l = .slice none 0 0∧i = .int .i64 0∧Hid (Below w.heap.size w wr)) (λ_ _ _=>0)
 case atStart=>exact⟨rfl,rfl,hid ((Below.refl _ _).alloc (Nat.le_refl _) _)⟩
 case round=>
  obtain⟨rfl,rfl,HB⟩:=hrel
  go_wp2_with fail
  refine(AR _).mono ?_;rintro e w1 ⟨rfl,rfl⟩;go_wp2;go_ret;exact⟨rfl,HB.out⟩
theorem Bd (w:World):Calls prog 422 #[.slice none 0 0] w λe w'=>e = .returned (.bool true)∧Below w.heap.size w w':=by
 have hq:∀w,(binOp .eql 543 (.agg #[.int .i64 0,.int .i64 0,.int .i64 0,.int .i64 0,.int .i64 0,.int .i64 0,.int .i64 0,.int .i64 0,.int .i64 0,.int .i64 0,.int .i64 0,.int .i64 0,.int .i64 0,.int .i64 0,.int .i64 0,.int .i64 0,.int .i64 0]) (.agg #[.int .i64 0,.int .i64 0,.int .i64 0,.int .i64 0,.int .i64 0,.int .i64 0,.int .i64 0,.int .i64 0,.int .i64 0,.int .i64 0,.int .i64 0,.int .i64 0,.int .i64 0,.int .i64 0,.int .i64 0,.int .i64 0,.int .i64 0])).run prog w = .ok (.bool true) w:=λw=>by
  rw[run_eql_struct,AU 543 2 17 _ underlying543 underlying2 (Tryz.sizeOf2) (Tryz.isAgg2) (λi hi=>⟨0,by
   rcases(show i=0∨i=1∨i=2∨i=3∨i=4∨i=5∨i=6∨i=7∨i=8∨i=9∨i=10∨i=11∨i=12∨i=13∨i=14∨i=15∨i=16 from by omega)with rfl|rfl|rfl|rfl|rfl|rfl|rfl|rfl|rfl|rfl|rfl|rfl|rfl|rfl|rfl|rfl|rfl<;>rfl⟩) 9998 w]
  rfl
 go_enter func422,ntmps422
 go_wp2
 go_loopw [13] (λi wr=>i = .int .i64 0∧Hid (Below w.heap.size w wr)∧Hid (∀j,j<17→wr.cell? ⟨w.heap.size+1,j,none⟩=some (.int .i64 0))) (λ_ _=>0)
 case atStart=>
  refine⟨rfl,hid (((Below.refl _ _).alloc (Nat.le_refl _) _).alloc (by simp) _),hid (λj hj=>?_)⟩;rw[World.cell?_alloc_at _ _ _ _ (by simp)]
  rcases(show j=0∨j=1∨j=2∨j=3∨j=4∨j=5∨j=6∨j=7∨j=8∨j=9∨j=10∨j=11∨j=12∨j=13∨j=14∨j=15∨j=16 from by omega)with rfl|rfl|rfl|rfl|rfl|rfl|rfl|rfl|rfl|rfl|rfl|rfl|rfl|rfl|rfl|rfl|rfl<;>rfl
 case round=>
  obtain⟨rfl,HB,HC⟩:=hrel;have x0:=HC.out 0 (by omega);have x1:=HC.out 1 (by omega);have x2:=HC.out 2 (by omega);have x3:=HC.out 3 (by omega);have x4:=HC.out 4 (by omega);have x5:=HC.out 5 (by omega);have x6:=HC.out 6 (by omega);have x7:=HC.out 7 (by omega);have x8:=HC.out 8 (by omega);have x9:=HC.out 9 (by omega);have x10:=HC.out 10 (by omega);have x11:=HC.out 11 (by omega);have x12:=HC.out 12 (by omega);have x13:=HC.out 13 (by omega);have x14:=HC.out 14 (by omega);have x15:=HC.out 15 (by omega);have x16:=HC.out 16 (by omega);go_wp2;go_ret;exact⟨rfl,HB.out⟩
theorem Be (w:World):Calls prog 426 #[.slice none 0 0] w λe w'=>e = .returned (.bool true)∧Below w.heap.size w w':=by
 go_enter func426,ntmps426
 go_wp2_with fail
 refine(AJ w _).mono ?_;rintro e w1 ⟨rfl,rfl⟩;go_wp2
 go_loopw [17] (λi wr=>i = .int .i64 0∧Hid (Below w.heap.size w wr)) (λ_ _=>0)
 case atStart=>exact⟨rfl,hid (Below.refl _ _)⟩
 case round=>
  obtain⟨rfl,HB⟩:=hrel;go_wp2;go_ret;exact⟨rfl,HB.out⟩
theorem Bf (w:World):Calls prog 432 #[.slice none 0 0] w λe w'=>e = .returned (.bool true)∧Below w.heap.size w w':=by
 go_enter func432,ntmps432
 go_wp2
 go_loopw [8] (λi wr=>i = .int .i64 0∧Hid (Below w.heap.size w wr)) (λ_ _=>0)
 case atStart=>exact⟨rfl,hid (Below.refl _ _)⟩
 case round=>
  obtain⟨rfl,HB⟩:=hrel;go_wp2;go_ret;exact⟨rfl,HB.out⟩
theorem Bg (w:World)(c f a b:Int):Calls prog 376 #[AZ c f a b] w λe w'=>e = .returned (.bool true)∧Below w.heap.size w w':=by
 unfold AZ;have hmf:∀(fn:Fn) (first cap:Array Value) (w:World),(Instr.makeFunc fn first cap).run prog w = .ok (.func fn first cap) w:=λ_ _ _ _=>rfl
 go_enter func376,ntmps376
 go_wp2_with fail
 refine(Bd _).mono ?_;rintro e w1 ⟨rfl,hb1⟩;have c1:=AV hb1 6 _ rfl;have HB:=hid (AW hb1);clear hb1
 go_wp2_with fail
 refine(AG _ _).mono ?_;rintro e w2 ⟨rfl,rfl⟩;go_wp2;go_ret;exact⟨rfl,HB.out⟩
theorem Bh (w:World)(c f a b:Int):Calls prog 377 #[AZ c f a b] w λe w'=>e = .returned (.bool true)∧Below w.heap.size w w':=by
 unfold AZ;have hmf:∀(fn:Fn) (first cap:Array Value) (w:World),(Instr.makeFunc fn first cap).run prog w = .ok (.func fn first cap) w:=λ_ _ _ _=>rfl
 go_enter func377,ntmps377
 go_wp2_with fail
 refine(Be _).mono ?_;rintro e w1 ⟨rfl,hb1⟩;have c1:=AV hb1 7 _ rfl;have HB:=hid (AW hb1);clear hb1
 go_wp2_with fail
 refine(AJ _ _).mono ?_;rintro e w2 ⟨rfl,rfl⟩;go_wp2;go_ret;exact⟨rfl,HB.out⟩
theorem Bi (w:World)(c f a b:Int):Calls prog 378 #[AZ c f a b] w λe w'=>e = .returned (.bool true)∧Below w.heap.size w w':=by
 unfold AZ;have hmf:∀(fn:Fn) (first cap:Array Value) (w:World),(Instr.makeFunc fn first cap).run prog w = .ok (.func fn first cap) w:=λ_ _ _ _=>rfl
 go_enter func378,ntmps378
 go_wp2_with fail
 refine(Bf _).mono ?_;rintro e w1 ⟨rfl,hb1⟩;have c1:=AV hb1 8 _ rfl;have HB:=hid (AW hb1);clear hb1
 go_wp2_with fail
 refine(AL _ _).mono ?_;rintro e w2 ⟨rfl,rfl⟩;go_wp2;go_ret;exact⟨rfl,HB.out⟩
end
section
open Go.RowKit Go.Shelf
attribute [local go_sem] Oper.semAt_some
def stC (c f a b:Int):Array Value:=#[.int .i64 c,.int .i64 f,.int .i64 a,.int .i64 b,.slice none 0 0,.slice none 0 0,.slice none 0 0,.slice none 0 0,.slice none 0 0]
theorem Bj (c f a b:Int)(w:World) :
  Calls prog 434 #[AZ c f a b] w λe w'=>e = .returned (.func (.func 466) #[] #[.pointer (some ⟨w.heap.size,0,none⟩)])∧w'=w.alloc (.cells (stC c f a b) 56):=by
 unfold AZ stC;have hmf:∀(fn:Fn) (first cap:Array Value) (w:World),(Instr.makeFunc fn first cap).run prog w = .ok (.func fn first cap) w:=λ_ _ _ _=>rfl
 go_enter func434,ntmps434
 go_wp2;go_ret;exact⟨rfl,rfl⟩
def Bk (x:Int×Int×Int):Array Value:=#[.agg #[.int .i64 x.1,.int .i64 x.2.1],.int .i64 x.2.2]
theorem Bl (w:World)(sB:Nat)(c f a b:Int)(hs:w.heap[sB]?=some (.cells (stC c f a b) 56 (0,0))) :
  yU (λ_=>True) Fence.wide 5 prog 466 #[.pointer (some ⟨sB,0,none⟩)] Bk (λ_=>False) (λ_ _=>True) (λ_ _=>True) (λxs=>xs=[]) (λ_=>False) 0 w:=by
 intro y J Jx W hW _ hJ hJx hY h0;have hs2:=(hW.block _ (lt_of_block hs)).trans hs;have c7:W.cell? ⟨sB,7,none⟩=some (.slice none 0 0):=(cell_of_row _ _ _ _ _ _ hs2).trans rfl;have c8:W.cell? ⟨sB,8,none⟩=some (.slice none 0 0):=(cell_of_row _ _ _ _ _ _ hs2).trans rfl;have HH:=hid h0;clear hW hs hJ hJx hY h0 hs2;refine callsIn_of_wp func466 rfl trivial ?_ rfl;simp only[ntmps466,List.size_toArray,List.length_cons,List.length_nil,Nat.reduceAdd,Nat.reduceSub,Array.replicate_succ,Array.replicate_zero,List.push_toArray,List.append_toArray,List.nil_append,List.cons_append]
 gi_wp2
 gi_loopw [14] (λi wr=>i = .int .i64 0∧wr=W) (λ_ _=>0)
 case atStart=>exact⟨rfl,rfl⟩
 case round=>
  obtain⟨rfl,rfl⟩:=hrel
  gi_wp2
  gi_loopw [39] (λi wr2=>i = .int .i64 0∧wr2=wr) (λ_ _=>0)
  case atStart=>exact⟨rfl,rfl⟩
  case round=>
   obtain⟨rfl,rfl⟩:=hrel
   gi_wp2
   go_end0
   exact⟨⟨_,rfl⟩,.inl ⟨[],rfl,HH.out⟩⟩
theorem Bm {w:World}{b:Nat}(h:w.heap[b]?=some (.map #[] 0))(ty:TypeId):(Builtin.len_ #[514] ty #[.map (some b)]).run prog w = .ok (.int .i64 0) w:=by
 simp[Builtin.len_,run_underlying underlying514,MapKept.run_getObj_map h,goInt,Result.andThen]
structure HeldAt (w W:World) (b:Nat) (c f a d:Int):Prop where
 st:W.heap[b]?=some (.cells (stC c f a d) 56 (0,0))
 mp:W.heap[b+1]?=some (.map #[] 0)
 box:W.heap[b+2]?=some (.cells #[.map (some (b+1))] 514 (0,0))
 below:Below b w W
theorem HeldAt.fr {w W W':World}{b:Nat}{c f a d:Int}{S:Nat→Prop}(h:HeldAt w W b c f a d)(hf:Fr S W W')(hS:∀k,k<b+3→¬S k):HeldAt w W' b c f a d:=
 ⟨hf.heapAt h.st (hS _ (by omega)),hf.heapAt h.mp (hS _ (by omega)),hf.heapAt h.box (hS _ (by omega)),h.below.trans (hf.below (B:=b) (by have:=lt_of_block h.st;omega) (λk hk=>hS k (by omega)))⟩
theorem Bn (w:World)(c f a d:Int):Calls prog 379 #[AZ c f a d] w λe w'=>e = .returned (.bool true)∧Below w.heap.size w w':=by
 have hst:AZ c f a d = .agg (stC c f a d):=rfl;have hmm:=@run_makeMap prog;refine(callsIn_wide (n:=6)).1 ?_;unfold AZ;refine callsIn_of_wp_marks func379 rfl trivial ?_ rfl;simp only[ntmps379,List.size_toArray,List.length_cons,List.length_nil,Nat.reduceAdd,Nat.reduceSub,Array.replicate_succ,Array.replicate_zero,List.push_toArray,List.append_toArray,List.nil_append,List.cons_append]
 gi_wp2_with fail
 refine⟨trivial,?_⟩;refine(callsIn_wide.2 (Bj c f a d _)).mono ?_;rintro e w1 ⟨rfl,rfl⟩
 gi_wp2
 obtain⟨b,hb⟩:∃b,b=w.heap.size:=⟨_,rfl⟩;obtain⟨W0,hW0⟩:∃W0,W0=(((w.alloc (.cells #[.int .i64 c,.int .i64 f,.int .i64 a,.int .i64 d,.slice none 0 0,.slice none 0 0,.slice none 0 0,.slice none 0 0,.slice none 0 0] 56)).alloc (.map #[] 0)).alloc (.cells #[.map (some (w.heap.size+1))] 514)).alloc (.cells (stC c f a d) 56):=⟨_,rfl⟩;have hsz:W0.heap.size=b+4:=by rw[hW0,hb];simp
 have k0:W0.heap[b]?=some (.cells (stC c f a d) 56 (0,0)):=by rw[hW0,hb];exact(Below.heap_alloc _ _ _ (by simp<;>omega)).trans ((Below.heap_alloc _ _ _ (by simp<;>omega)).trans ((Below.heap_alloc _ _ _ (by simp<;>omega)).trans (heap_alloc_new _ _)))
 have k1:W0.heap[b+1]?=some (.map #[] 0):=by rw[hW0,hb];exact(Below.heap_alloc _ _ _ (by simp<;>omega)).trans ((Below.heap_alloc _ _ _ (by simp<;>omega)).trans (yS _ _ (by simp)))
 have k2:W0.heap[b+1+1]?=some (.cells #[.map (some (b+1))] 514 (0,0)):=by rw[hW0,hb];exact(Below.heap_alloc _ _ _ (by simp<;>omega)).trans (yS _ _ (by simp))
 have k3:W0.heap[b+1+1+1]?=some (.cells (stC c f a d) 56 (0,0)):=by rw[hW0,hb];exact yS _ _ (by simp)
 have hbel:Below b w W0:=by rw[hW0,hb];exact((((Below.refl _ _).alloc (Nat.le_refl _) _).alloc (by simp) _).alloc (by simp<;>omega) _).alloc (by simp<;>omega) _
 have hat:HeldAt w W0 b c f a d:=⟨k0,k1,k2,hbel⟩;have K3:=hid k3;have HAT:=hid hat;have HB:=hid hb;rw[← hW0,← hb];clear hW0 hb k0 k1 k2 k3 hbel hat hmm hst;refine yW (n:=6) rfl (by omega) (gf:=466) rfl trivial (enters_of func466 (by kernel_rfl) rfl) (Bl W0 (b+1+1+1) c f a d K3.out) ⟨λh=>h,λh=>h⟩ (λ_ _=>trivial) (λ_ _ _=>trivial) (λ_ _=>trivial) (λ_ _ _ _=>trivial) (λ_=>rfl)
  (λpre W=>pre=[]∧HeldAt w W b c f a d) (λ_ _ _=>False) ?bears (λ_ _ _ _ h _=>h) ⟨rfl,HAT.out⟩ (λ_ _ _ _=>True) (λ_ _ _ _ _ _ _=>trivial) ?assign ?body ?done ?stop
 case bears=>exact λpre A B h hf=>⟨h.1,h.2.fr hf (λk hk e=>by rcases e with e|e|e;exact e;omega;omega)⟩
 case assign=>
  intro pre x W K _ hlt hI hK;have HK:=hid hK;clear hI hK;unfold Bk
  gi_wp2
  exact HK.out _ _ trivial (m8.fr ((Fr.refl (λ_=>False) W).alloc _) hlt (λh=>h) (λh=>h)) (by simp) trivial
 case body=>exact λ_ _ _ _ _ _ _ h=>absurd h (Nat.not_lt_zero _)
 case done=>
  rintro xs W _ ⟨_,hat⟩ hK;have x6:W.cell? ⟨b,6,none⟩=some (.slice none 0 0):=(cell_of_row _ _ _ _ _ _ hat.st).trans rfl;have m0:W.cell? ⟨b+1+1,0,none⟩=some (.map (some (b+1))):=(cell_of_row _ _ _ _ _ _ hat.box).trans rfl;have hl:=λty=>Bm hat.mp ty;have HK:=hid hK;have HA:=hid hat;clear hK hat
  gi_wp2
  gi_loopw [24] (λi wr=>i = .int .i64 0∧wr=W) (λ_ _=>0)
  case atStart=>exact⟨rfl,rfl⟩
  case round=>
   obtain⟨rfl,rfl⟩:=hrel
   gi_wp2
   refine⟨by simp,.inl ⟨_,_,rfl,run_takeDeferred HK.out,?_⟩⟩;refine⟨_,results_tmp rfl _ _ _,rfl,?_⟩;have hlt:=lt_of_block HA.out.st;rw[← HB.out];exact HA.out.below.trans (((Fr.refl (λk=>k=W0.heap.size) wr).putObj _ (λ_=>rfl) _).below (B:=b) (by omega) (λk hk e=>by omega))
 case stop=>
  rintro c pre W _ h _;exact h.elim
end
end Go.Proofs.YthjjgcfdhkhelaaGreatDoor
