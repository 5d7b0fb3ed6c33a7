/- The walk of frame.Read. -/
import Derived.Test.YthjjgcfdhkhelaaGreatDoorQAe
set_option maxHeartbeats 2000000
set_option maxRecDepth 100000
open Go.Lib(hid)
open Go.Proofs.Tryz
namespace Go.Proofs.YthjjgcfdhkhelaaGreatDoor
section
open Go.RowKit
theorem ib {n:Nat}(h:n<9223372036854775808):i64 n=(n:Int):=by unfold i64 wrap64;omega
def Small (l:bI):Prop:=∀i (h:i<l.length),0≤l[i].1∧l[i].1<9223372036854775808∧0≤l[i].2∧l[i].2<9223372036854775808
theorem Small.tail {x:Int×Int}{l:bI}(h:Small (x::l)):Small l:=λi hi=>by
 have:=h (i+1) (by simpa using hi);simp only[List.getElem_cons_succ]at this;exact this
theorem ie {t:List UInt8}:∀{l:bI} {st:bc} {rest:List UInt8},st.e=0→Small l→t.drop st.at_=l.flatMap fZ++rest →
  gB t l.length st=(l,⟨st.at_+16*l.length,0,st.tow⟩)
 | [],st,rest,he,_,_=>by
  obtain⟨a,e,tow⟩:=st;simp only at he;subst he;rfl
 | (x,y)::l,st,rest,he,hs,ht=>by
  have h0:=hs 0 (by simp);simp only[List.getElem_cons_zero]at h0;obtain⟨hx0,hx1,hy0,hy1⟩:=h0;obtain⟨x,rfl⟩:=Int.eq_ofNat_of_zero_le hx0;obtain⟨y,rfl⟩:=Int.eq_ofNat_of_zero_le hy0;have e1:t.drop st.at_=be 8 x++(be 8 y++(l.flatMap fZ++rest)):=by rw[ht];simp[fZ,List.append_assoc]
  obtain⟨f1,d1⟩:=hU he e1 (by omega);obtain⟨f2,d2⟩:=hU (st:=⟨st.at_+8,0,st.tow⟩) rfl d1 (by omega);have ih:=ie (t:=t) (l:=l) (st:=⟨st.at_+8+8,0,st.tow⟩) rfl hs.tail d2;simp only[List.length_cons,gB];rw[f1];simp only;rw[f2];simp only;rw[ih,ib (by omega),ib (by omega)];simp only[Prod.mk.injEq,bc.mk.injEq,true_and,and_true];omega
theorem ig {g:Int}{l:bI}(h:bL g l=true):Small l:=λi hi=>by
 obtain⟨h1,h2,_,_,h5⟩:=gm h;have:=h5 i hi;omega
theorem ii {g:Int}{l:bI}(h:bL g l=true):gD (ge g l)=some (g,l):=by
 obtain⟨h1,h2,h3,h4,h5⟩:=gm h;obtain⟨G,rfl⟩:=Int.eq_ofNat_of_zero_le h1;have hlen:(ge (G:Int) l).length=14+16*l.length:=by
  unfold ge;simp only[List.length_append,aF,gj];simp[fY]
 have e0:st0.take (ge (G:Int) l) 4=(fY,true,⟨4,0,0⟩):=by
  unfold bc.take;rw[if_neg (by simp[st0]),if_neg (by rw[hlen];simp only[st0];omega)];simp[st0,ge,fY]
 have d0:(ge (G:Int) l).drop 4=be 8 G++(be 2 l.length++(l.flatMap fZ++[])):=by simp[ge,fY,List.append_assoc]
 obtain⟨f1,d1⟩:=hU (st:=⟨4,0,0⟩) rfl d0 (by omega);obtain⟨f2,d2⟩:=hU (st:=⟨4+8,0,0⟩) rfl d1 (by omega);have r:=ie (t:=ge (G:Int) l) (l:=l) (st:=⟨4+8+2,0,0⟩) rfl (ig h) d2;have hall:=gR (t:=ge (G:Int) l) (by rw[e0]) f1 f2 (by rw[r]) (by rw[r]);rw[ib (by omega)]at hall;exact gV (by rw[e0]) hall (by unfold bc.ended;rw[if_neg (by rw[hlen];simp)]) h
theorem ik {n:Nat}(hn:n<18446744073709551616)(h:0≤i64 n):(i64 n).toNat=n:=by unfold i64 wrap64 at *;omega
theorem il {t:List UInt8}:∀{n:Nat} {st:bc},(gB t n st).2.e=0→Small (gB t n st).1 →
  st.e=0∧(gB t n st).2.at_=st.at_+16*n∧t.drop st.at_=(gB t n st).1.flatMap fZ++t.drop (st.at_+16*n)
 | 0,st,he,_=>⟨he,by simp[gB],by simp[gB]⟩
 | n+1,st,he,hs=>by
  simp only[gB]at he hs ⊢;obtain⟨a,sa,h1⟩:∃a sa,st.fixed t 8=(a,sa):=⟨_,_,rfl⟩;rw[h1]at he hs ⊢;simp only at he hs ⊢;obtain⟨b,sb,h2⟩:∃b sb,sa.fixed t 8=(b,sb):=⟨_,_,rfl⟩;rw[h2]at he hs ⊢;simp only at he hs ⊢;obtain⟨e3,at3,d3⟩:=il (t:=t) he hs.tail;obtain⟨e2,at2,d2,n2⟩:=hZ h2 e3;obtain⟨e1,at1,d1,n1⟩:=hZ h1 e2;have h0:=hs 0 (by simp);simp only[List.getElem_cons_zero]at h0;refine⟨e1,by rw[at3,at2,at1];omega,?_⟩;rw[d1,← at1,d2,← at2,d3,List.flatMap_cons];unfold fZ;simp only;rw[ik (by omega) h0.1,ik (by omega) h0.2.2.1,at2,at1];simp only[List.append_assoc];congr 4;omega
theorem im {t:List UInt8}{g:Int}{l:bI}(h:gD t=some (g,l)):bL g l=true∧ge g l=t:=by
 unfold gD at h
 split at h
 ·cases h
 rename_i h4
 have h4:(st0.take t 4).1=fY:=Classical.not_not.1 h4
 split at h
 ·cases h
 rename_i hb
 simp only[not_or,Classical.not_not,Option.some.injEq,Prod.mk.injEq,Bool.not_eq_false]at hb h;obtain⟨hend,hmay⟩:=hb;obtain⟨a,sa,h1⟩:∃a sa,(st0.take t 4).2.2.fixed t 8=(a,sa):=⟨_,_,rfl⟩;obtain⟨n,sb,h2⟩:∃n sb,sa.fixed t 2=(n,sb):=⟨_,_,rfl⟩;have hall:gC t=(i64 a,(gB t n sb).1,(gB t n sb).2):=gR rfl h1 h2 rfl rfl;rw[hall]at hend hmay h;simp only at hend hmay h;obtain⟨hg,hl⟩:=h;have he:(gB t n sb).2.e=0∧¬(gB t n sb).2.at_<t.length:=by
  unfold bc.ended at hend
  split at hend
  ·cases hend
  ·rename_i hx;exact⟨hend,λhlt=>hx ⟨hend,hlt⟩⟩
 obtain⟨m1,m2,m3,m4,m5⟩:=gm hmay;obtain⟨e3,at3,d3⟩:=il (t:=t) he.1 (ig hmay);obtain⟨e2,at2,d2,n2⟩:=hZ h2 e3;obtain⟨e1,at1,d1,n1⟩:=hZ h1 e2;have htake:4≤t.length∧(st0.take t 4).2.2=⟨4,0,0⟩∧t.take 4=fY:=by
  unfold bc.take at h4 e1 ⊢;rw[if_neg (by simp[st0])]at h4 e1 ⊢;by_cases hl:t.length-st0.at_<4
  ·rw[if_pos hl]at e1;simp at e1
  ·rw[if_neg hl]at h4 e1 ⊢
   simp only[st0,List.drop_zero]at h4 hl ⊢;exact⟨by omega,by simp,h4⟩
 obtain⟨ht4,hst,hman⟩:=htake;rw[hst]at d1 at1;simp only at d1 at1;have hlen:(gB t n sb).1.length=n:=gE t n sb;rw[← hg,← hl];refine⟨hmay,?_⟩;unfold ge;rw[ik (by omega) m1,hlen];have hdrop:t.drop (sb.at_+16*n)=[]:=List.drop_eq_nil_of_le (by rw[← at3];omega);rw[hdrop,List.append_nil]at d3;have:t=fY++t.drop 4:=by rw[← hman,List.take_append_drop]
 conv=>rhs;rw[this,d1,← at1,d2,← at2,d3]
 simp only[List.append_assoc]
end
section
def io (q:Nat)(p:List UInt8):List UInt8:=be 4 p.length++be 8 q
def ip (q:Nat)(p:List UInt8):List UInt8:=io q p++(Crc.four (Crc.of (io q p++p))++p)
theorem iq (q:Nat)(p:List UInt8):(io q p).length=12:=by unfold io;simp[aF]
theorem ir (q:Nat)(p:List UInt8):(ip q p).length=16+p.length:=by unfold ip;simp[iq,Crc.four_length];omega
def iu (t:List UInt8):Int×Nat×List UInt8:=
 if t.length<16 then (8,0,[])
 else if 4096<val (t.take 4)∨val (t.take 4)<1∨1048576≤val ((t.drop 4).take 8) then (4,0,[])
 else if t.length<16+val (t.take 4) then (8,0,[])
 else if Crc.four (Crc.of (t.take 12++(t.drop 16).take (val (t.take 4))))≠(t.drop 12).take 4 then (42,0,[])
 else (0,val ((t.drop 4).take 8),(t.drop 16).take (val (t.take 4)))
def iw (p:List UInt8):Prop:=1≤p.length∧p.length≤4096
theorem iy (q:Nat)(p r:List UInt8)(hp:iw p)(hq:q<1048576) :
  val ((ip q p++r).take 4)=p.length∧val (((ip q p++r).drop 4).take 8)=q∧(ip q p++r).take 12=io q p∧((ip q p++r).drop 12).take 4=Crc.four (Crc.of (io q p++p))∧((ip q p++r).drop 16)=p++r:=by
 have hl:(be 4 p.length).length=4:=aF _ _;have hl8:(be 8 q).length=8:=aF _ _;have h4:(Crc.four (Crc.of (io q p++p))).length=4:=Crc.four_length _;have e1:ip q p++r=be 4 p.length++(be 8 q++(Crc.four (Crc.of (io q p++p))++(p++r))):=by unfold ip io;simp
 have e2:ip q p++r=io q p++(Crc.four (Crc.of (io q p++p))++(p++r)):=by unfold ip;simp
 have e3:ip q p++r=(io q p++Crc.four (Crc.of (io q p++p)))++(p++r):=by unfold ip;simp
 refine⟨?_,?_,?_,?_,?_⟩
 ·rw[e1,List.take_left' hl];exact gZ 4 _ (by have:=hp.2;omega)
 ·rw[e1,List.drop_left' hl,List.take_left' hl8];exact gZ 8 _ (by omega)
 ·rw[e2,List.take_left' (iq q p)]
 ·rw[e2,List.drop_left' (iq q p),List.take_left' h4]
 ·rw[e3,List.drop_left' (by rw[List.length_append,iq,h4])]
theorem iz (q:Nat)(p r:List UInt8)(hp:iw p)(hq:q<1048576):iu (ip q p++r)=(0,q,p):=by
 obtain⟨a1,a2,a3,a4,a5⟩:=iy q p r hp hq;have hl:(ip q p++r).length=16+p.length+r.length:=by rw[List.length_append,ir]
 unfold iu;rw[a1,a2,a3,a4,a5,hl,List.take_left' (l₁:=p) rfl];have:=hp.1;have:=hp.2;rw[if_neg (by omega),if_neg (by omega),if_neg (by omega),if_neg (by simp)]
theorem iA (t:List UInt8)(a b:Nat):t.take (a+b)=t.take a++(t.drop a).take b:=by
 rw[List.take_add]
theorem iB {t:List UInt8}{q:Nat}{p:List UInt8}(h:iu t=(0,q,p)):iw p∧q<1048576∧t=ip q p++t.drop (16+p.length):=by
 unfold iu at h
 split at h
 ·simp at h
 rename_i h1
 split at h
 ·simp at h
 rename_i h2
 split at h
 ·simp at h
 rename_i h3
 split at h
 ·simp at h
 rename_i h4
 have h4:=Decidable.not_not.1 h4;simp only[Prod.mk.injEq,true_and]at h;obtain⟨hq,hp⟩:=h;have hn:p.length=val (t.take 4):=by rw[← hp,List.length_take,List.length_drop];omega
 have e4:be 4 p.length=t.take 4:=by
  rw[hn];have:=g9 (t.take 4)
  rwa [show(t.take 4).length=4 from by rw[List.length_take];omega]at this
 have e8:be 8 q=(t.drop 4).take 8:=by
  rw[← hq];have:=g9 ((t.drop 4).take 8)
  rwa [show((t.drop 4).take 8).length=8 from by rw[List.length_take,List.length_drop];omega]at this
 have e12:io q p=t.take 12:=by unfold io;rw[e4,e8,← iA]
 refine⟨⟨by omega,by omega⟩,by omega,?_⟩;unfold ip;rw[e12,← hp,h4,hp];have e16:t.take 12++((t.drop 12).take 4++p)=t.take (16+p.length):=by
  rw[← List.append_assoc,← iA,iA t 16 p.length,← hp,hp,hn,hp]
 rw[e16,List.take_append_drop]
def iC:Nat→List (List UInt8)→List UInt8
 | _,[]=>[]
 | q,p::r=>ip q p++iC (q+1) r
def iD:Nat→Nat→List UInt8→List (List UInt8)
 | 0,_,_=>[]
 | n+1,q,t=>if (iu t).1=0∧(iu t).2.1=q then (iu t).2.2::iD n (q+1) (t.drop (16+(iu t).2.2.length)) else []
def iE:Nat→List (List UInt8)→Prop
 | _,[]=>True
 | q,p::r=>iw p∧q<1048576∧iE (q+1) r
theorem iF (q:Nat)(a b:List (List UInt8)):iC q (a++b)=iC q a++iC (q+a.length) b:=by
 induction a generalizing q with
 | nil=>rfl
 | cons p r ih=>show ip q p++iC (q+1) (r++b)=_;rw[ih];simp[iC,Nat.add_assoc,Nat.add_comm 1]
theorem iG {q:Nat}{a b:List (List UInt8)}:iE q (a++b)↔iE q a∧iE (q+a.length) b:=by
 induction a generalizing q with
 | nil=>simp[iE]
 | cons p r ih=>
  show iw p∧q<1048576∧iE (q+1) (r++b)↔(iw p∧q<1048576∧iE (q+1) r)∧_;rw[ih,List.length_cons,show q+1+r.length=q+(r.length+1)from by omega];constructor
  ·rintro⟨a,b,c,d⟩;exact⟨⟨a,b,c⟩,d⟩
  ·rintro⟨⟨a,b,c⟩,d⟩;exact⟨a,b,c,d⟩
theorem iH {q:Nat}{a:List (List UInt8)}(h:iE q a):a=[]∨q+a.length≤1048576:=by
 induction a generalizing q with
 | nil=>exact .inl rfl
 | cons p r ih=>
  right
  rcases ih h.2.2 with rfl|h2
  ·have:=h.2.1;simp;omega
  ·simp;omega
theorem iI {q:Nat}{a:List (List UInt8)}:a.length≤(iC q a).length:=by
 induction a generalizing q with
 | nil=>simp
 | cons p r ih=>simp only[iC,List.length_append,ir,List.length_cons];have:=ih (q:=q+1);omega
theorem iJ {ps:List (List UInt8)}:∀{q n:Nat} {tail:List UInt8},iE q ps→ps.length≤n→iD n q (iC q ps++tail)=ps++iD (n-ps.length) (q+ps.length) tail:=by
 induction ps with
 | nil=>intro q n tail _ _;simp[iC]
 | cons p r ih=>
  intro q n tail h hn;obtain⟨hp,hq,hr⟩:=h;obtain⟨n,rfl⟩:∃m,n=m+1:=⟨n-1,by simp at hn;omega⟩;have e:iC q (p::r)++tail=ip q p++(iC (q+1) r++tail):=by simp[iC]
  have hrd:=iz q p (iC (q+1) r++tail) hp hq;rw[e,iD,hrd,if_pos ⟨rfl,rfl⟩,List.drop_left' (ir q p),ih hr (by simpa using hn)];simp[Nat.add_assoc,Nat.add_comm 1]
theorem iK {n q:Nat}{t:List UInt8}(h:¬((iu t).1=0∧(iu t).2.1=q)):iD n q t=[]:=by
 cases n with
 | zero=>rfl
 | succ n=>rw[iD,if_neg h]
theorem iL:iu []=(8,0,[]):=rfl
def iM (q:Nat):List UInt8:=Crc.seal_ ([115,101,103,49]++be 8 q)
theorem iN (q:Nat):(iM q).length=16:=by unfold iM;rw[Crc.seal_length];simp[aF]
def iO (s:List UInt8):Int×Nat:=
 if s.length<16 then (8,0)
 else if s.take 4≠[115,101,103,49] then (4,0)
 else if Crc.seal_ (s.take 12)≠s.take 16 then (42,0)
 else if 1048576<val ((s.drop 4).take 8) then (4,0)
 else (0,val ((s.drop 4).take 8))
theorem iP {q:Nat}(hq:q≤1048576)(t:List UInt8):iO (iM q++t)=(0,q):=by
 have h12:([115,101,103,49]++be 8 q:List UInt8).length=12:=by simp[aF]
 have e:iM q++t=([115,101,103,49]++be 8 q)++(Crc.four (Crc.of ([115,101,103,49]++be 8 q))++t):=by unfold iM Crc.seal_;simp
 have h3:([115,101,103,49]:List UInt8).length=4:=rfl;have e2:iM q++t=[115,101,103,49]++(be 8 q++(Crc.four (Crc.of ([115,101,103,49]++be 8 q))++t)):=by unfold iM Crc.seal_;simp
 have a1:(iM q++t).take 4=[115,101,103,49]:=by rw[e2,List.take_left' h3]
 have a2:((iM q++t).drop 4).take 8=be 8 q:=by rw[e2,List.drop_left' h3,List.take_left' (aF _ _)]
 have a3:(iM q++t).take 12=[115,101,103,49]++be 8 q:=by rw[e,List.take_left' h12]
 have a4:(iM q++t).take 16=iM q:=List.take_left' (iN q);have a5:(iM q++t).length=16+t.length:=by rw[List.length_append,iN]
 unfold iO;rw[a1,a2,a3,a4,a5,gZ 8 q (by omega),if_neg (by omega),if_neg (by simp),if_neg (by unfold iM;simp),if_neg (by omega)]
theorem iQ {s:List UInt8}{q:Nat}(h:iO s=(0,q)):q≤1048576∧s=iM q++s.drop 16:=by
 unfold iO at h
 split at h
 ·simp at h
 rename_i h1
 split at h
 ·simp at h
 rename_i h2
 split at h
 ·simp at h
 rename_i h3
 split at h
 ·simp at h
 rename_i h4
 simp only[Prod.mk.injEq,true_and]at h;have h2:=Decidable.not_not.1 h2;have h3:=Decidable.not_not.1 h3;have e8:be 8 q=(s.drop 4).take 8:=by
  rw[← h];have:=g9 ((s.drop 4).take 8)
  rwa [show((s.drop 4).take 8).length=8 from by rw[List.length_take,List.length_drop];omega]at this
 refine⟨by omega,?_⟩;unfold iM;rw[← h2,e8,← iA,h3,List.take_append_drop]
def iR (q:Nat)(ps:List (List UInt8)):List UInt8:=iM q++iC q ps
theorem iS (q:Nat)(ps:List (List UInt8)):(iR q ps).length=16+(iC q ps).length:=by unfold iR;rw[List.length_append,iN]
end
section
open Go.RowKit
def ny (x:BitVec 32):BitVec 32:=
 (((x >>> 8 &&& 0x00ff00ff#32) ||| ((x &&& 0x00ff00ff#32) <<< 8)) >>> 16) ||| (((x >>> 8 &&& 0x00ff00ff#32) ||| ((x &&& 0x00ff00ff#32) <<< 8)) <<< 16)
theorem nz {i:Nat}(h:i<8):i=0∨i=1∨i=2∨i=3∨i=4∨i=5∨i=6∨i=7:=by omega
theorem nA (c:BitVec 32):((ny c) >>> 24).truncate 8=c.truncate 8∧((ny c) >>> 16).truncate 8=(c >>> 8).truncate 8∧((ny c) >>> 8).truncate 8=(c >>> 16).truncate 8∧(ny c).truncate 8=(c >>> 24).truncate 8:=by
 refine⟨?_,?_,?_,?_⟩<;>(apply BitVec.eq_of_getLsbD_eq;intro i hi;rcases nz hi with rfl|rfl|rfl|rfl|rfl|rfl|rfl|rfl<;>simp[ny])
theorem nB (c:BitVec 32)(k:Nat)(m:Nat)(hm:m=c.toNat / 2 ^ k):UInt8.ofNat (m % 256)=UInt8.ofBitVec ((c >>> k).truncate 8):=by
 apply UInt8.toBitVec_inj.1;apply BitVec.eq_of_toNat_eq;simp[hm,Nat.shiftRight_eq_div_pow]
theorem nC (c:BitVec 32):be 4 (ny c).toNat=Crc.four c:=by
 obtain⟨h1,h2,h3,h4⟩:=nA c;unfold Crc.four;rw[← h1,← h2,← h3,← h4];simp only[be,List.nil_append,List.cons_append];rw[nB (ny c) 24 _ (by omega),nB (ny c) 16 _ (by omega),nB (ny c) 8 _ (by omega),nB (ny c) 0 _ (by omega)];simp
theorem nD (c:BitVec 32):val (Crc.four c)=(ny c).toNat:=by rw[← nC,gZ 4 _ (ny c).isLt]
theorem nE {a b:BitVec 32}(h:Crc.four a=Crc.four b):a=b:=by
 unfold Crc.four at h;simp only[List.cons.injEq,and_true,UInt8.ofBitVec.injEq]at h;obtain⟨h1,h2,h3,h4⟩:=h;apply BitVec.eq_of_getLsbD_eq;intro i hi;by_cases a1:i<8
 ·have:=congrArg (λx=>x.getLsbD i) h1
  simpa[a1]using this
 by_cases a2:i<16
 ·have:=congrArg (λx=>x.getLsbD (i-8)) h2
  simpa[show i-8<8 from by omega,show 8+(i-8)=i from by omega]using this
 by_cases a3:i<24
 ·have:=congrArg (λx=>x.getLsbD (i-16)) h3
  simpa[show i-16<8 from by omega,show 16+(i-16)=i from by omega]using this
 ·have:=congrArg (λx=>x.getLsbD (i-24)) h4
  simpa[show i-24<8 from by omega,show 24+(i-24)=i from by omega]using this
theorem nF (c:BitVec 32):ny (ny c)=c:=by
 apply nE;obtain⟨h1,h2,h3,h4⟩:=nA (ny c);obtain⟨g1,g2,g3,g4⟩:=nA c;apply List.reverse_inj.1;obtain⟨k1,k2,k3,k4⟩:=nA (ny (ny c));simp only[Crc.four];have e1:(ny (ny c)).truncate 8=c.truncate 8:=by rw[h4,g1]
 have e2:((ny (ny c)) >>> 8).truncate 8=(c >>> 8).truncate 8:=by rw[h3,g2]
 have e3:((ny (ny c)) >>> 16).truncate 8=(c >>> 16).truncate 8:=by rw[h2,g3]
 have e4:((ny (ny c)) >>> 24).truncate 8=(c >>> 24).truncate 8:=by rw[h1,g4]
 rw[e1,e2,e3,e4]
theorem nG (a:BitVec 32)(k:Nat):((a <<< k).toNat:Int)=(a.toNat:Int)*(2 ^ k:Nat) % (4294967296:Int):=by
 rw[BitVec.toNat_shiftLeft,Nat.shiftLeft_eq];omega
theorem nH (x:BitVec 32)(w:World) :
  Calls prog 157 #[.int .u32 (x.toNat:Int)] w λe w'=>e = .returned (.int .u32 ((ny x).toNat:Int))∧w=w':=by
 have hx:=x.isLt
 go_enter func157,ntmps157
 go_wp2;go_ret;refine⟨aa ?_,rfl⟩;have e1:(x.toNat:Int) / (256:Int)=((x >>> 8).toNat:Int):=by rw[ag];rfl
 have e2:(16711935:Int)=((0x00ff00ff#32).toNat:Int):=by decide
 rw[e1,e2,ac,ac];have e3:(((x &&& 0x00ff00ff#32).toNat:Int)*(256:Int) % (4294967296:Int))=(((x &&& 0x00ff00ff#32) <<< 8).toNat:Int):=by rw[nG];rfl
 rw[e3,ad];have e4:=ag ((x >>> 8 &&& 0x00ff00ff#32) ||| ((x &&& 0x00ff00ff#32) <<< 8)) 16;have e5:=nG ((x >>> 8 &&& 0x00ff00ff#32) ||| ((x &&& 0x00ff00ff#32) <<< 8)) 16;simp only[Nat.reducePow,Int.cast_ofNat_Int]at e4 e5;rw[← e4,← e5,ad];rfl
theorem nI (c:BitVec 32)(p:Nat)(v:Value)(L:List UInt8)(w:World)(h:aN w p v L)(hL:L.length≤1073741824) :
  Calls prog 113 #[.pointer (some ⟨p,0,none⟩),.int .u32 (c.toNat:Int)] w λe w'=>e = .returned (.tuple #[])∧∃v',aO p w w' v v' (L++Crc.four c):=by
 have H:=hid h;clear h;have HB:=hid (nC c)
 go_enter func113,ntmps113
 go_wp2_with (go_at_call 157;refine(nH c _).mono ?_;rintro e w' ⟨rfl,rfl⟩)
 refine(nl (ny c).toNat p v L _ (ny c).isLt H.out hL).mono ?_;rintro e w1 ⟨rfl,h1⟩;have H1:=hid h1;clear h1;go_wp2
 go_end0
 exact⟨rfl,by rw[← HB.out];exact H1.out⟩
theorem nJ (w:World)(p:Nat)(s:ByteArray)(st:bc)(h:bd w p s st) :
  Calls prog 366 #[.pointer (some ⟨p,0,none⟩)] w λe w'=>∃c:BitVec 32,c=ny (BitVec.ofNat 32 (st.fixed s.data.toList 4).1)∧e = .returned (.int .u32 (c.toNat:Int))∧bd w' p s (st.fixed s.data.toList 4).2∧Fr (λk=>k=p) w w':=by
 have H:=hid h;have hlt:=nu st s.data.toList;clear h;obtain⟨x,hx⟩:∃x:BitVec 32,x=BitVec.ofNat 32 (st.fixed s.data.toList 4).1:=⟨_,rfl⟩;have hxn:x.toNat=(st.fixed s.data.toList 4).1:=by rw[hx,BitVec.toNat_ofNat];exact Nat.mod_eq_of_lt hlt
 have HX:=hid hx;have HXN:=hid hxn;clear hx hxn hlt
 go_enter func366,ntmps366
 go_wp2_with fail
 refine(nt _ p s st H.out).mono ?_;rintro e w1 ⟨rfl,h1,hf1⟩;rw[← HXN.out];have H1:=hid h1;clear h1
 go_wp2_with (go_at_call 157;refine(nH x _).mono ?_;rintro e w' ⟨rfl,rfl⟩)
 go_ret;exact⟨_,by rw[HX.out],rfl,H1.out,hf1⟩
theorem nK (w:World)(p:Nat)(s:ByteArray)(st:bc)(h:bd w p s st) :
  Calls prog 367 #[.pointer (some ⟨p,0,none⟩)] w λe w'=>e = .returned (.int .i64 (st.at_:Int))∧w=w':=by
 obtain⟨c0,c1,c2,c3⟩:=h.cs;clear h
 go_enter func367,ntmps367
 go_wp2;go_ret;exact⟨rfl,rfl⟩
def nL (n:Int):Bool:=decide (1≤n) && decide (n≤4096)
theorem nM (n:Int)(w:World):Calls prog 110 #[.int .i64 n] w λe w'=>e = .returned (.bool (nL n))∧w=w':=by
 by_cases h1:1≤n
 ·by_cases h2:n≤4096
  ·have HP:=hid (show nL n=true from by unfold nL;simp[h1,h2])
   go_enter func110,ntmps110
   go_wp2;go_ret;exact⟨ay HP.out.symm,rfl⟩
  ·have HP:=hid (show nL n=false from by unfold nL;simp[h2])
   go_enter func110,ntmps110
   go_wp2;go_ret;exact⟨ay HP.out.symm,rfl⟩
 ·have HP:=hid (show nL n=false from by unfold nL;simp[h1])
  go_enter func110,ntmps110
  go_wp2;go_ret;exact⟨ay HP.out.symm,rfl⟩
def nN (n:Int):Int:=if nL n then 16+n else 0
theorem nO (n:Int)(w:World):Calls prog 105 #[.int .i64 n] w λe w'=>e = .returned (.int .i64 (nN n))∧w=w':=by
 cases hb:nL n
 ·have HS:=hid (show nN n=0 from by unfold nN;rw[hb];rfl)
  have HB:=hid hb;clear hb
  go_enter func105,ntmps105
  go_wp2_with (go_at_call 110;refine(nM n _).mono ?_;rintro e w' ⟨rfl,rfl⟩;rw[HB.out])
  go_ret;exact⟨aa HS.out.symm,rfl⟩
 ·have hn:1≤n∧n≤4096:=by unfold nL at hb;simpa using hb
  have h1:=hn.1;have h2:=hn.2;clear hn;have HS:=hid (show nN n=16+n from by unfold nN;rw[hb];rfl);have HB:=hid hb;clear hb
  go_enter func105,ntmps105
  go_wp2_with (go_at_call 110;refine(nM n _).mono ?_;rintro e w' ⟨rfl,rfl⟩;rw[HB.out])
  go_ret;exact⟨aa HS.out.symm,rfl⟩
def nP (r:List UInt8×Int)(w:World)(e:Ending)(w':World):Prop:=(∃s:ByteArray,s.data.toList=r.1∧e = .returned (.tuple #[.string s,.int .i64 r.2]))∧Below w.heap.size w w'
theorem nQ (a b:ByteArray):(a++b).data.toList=a.data.toList++b.data.toList:=by
 rw[ByteArray.data_append,Array.toList_append]
theorem nR (q:Nat)(p:ByteArray)(w:World)(hq:q<1048576)(h1:1≤p.size)(h2:p.size≤4096) :
  Calls prog 50 #[.int .i64 (q:Int),.string p] w λe w'=>nP (ip q p.data.toList,0) w e w':=by
 have HB:=hid (show nL (p.size:Int)=true from by unfold nL;simp;omega);have he1:p.toList.isEmpty=false:=by rw[ByteArray.toList_eq,List.isEmpty_eq_false_iff];intro e;have:=ak p;rw[e]at this;simp at this;omega
 go_enter func50,ntmps50
 go_wp2_with (go_at_call 110;refine(nM _ _).mono ?_;rintro e w' ⟨rfl,rfl⟩;rw[HB.out])
 have HF:=hid (aN.fresh w);obtain⟨wa,hwa⟩:∃wa,wa=w.alloc (.cells #[.slice none 0 0] 180):=⟨_,rfl⟩;have HA:=hid (show Below w.heap.size w wa from by rw[hwa];exact(Below.refl _ _).alloc (Nat.le_refl _) _);rw[← hwa]at HF ⊢;clear hwa;refine(nl p.size w.heap.size _ [] _ (by omega) HF.out (by decide)).mono ?_;rintro e w1 ⟨rfl,v1,h1⟩;have H1:=hid h1;clear h1
 go_wp2_with fail
 refine(aW q w.heap.size _ _ _ (by omega) H1.out.is (by simp[aF])).mono ?_;rintro e w2 ⟨rfl,v2,h2⟩;have H2:=hid (H1.out.trans h2);clear h2
 go_wp2_with fail
 refine(aZ w.heap.size v2 _ _ H2.out.is).mono ?_;rintro e w2' ⟨r,hr,rfl,rfl⟩;have hrs:r.size=12:=by rw[ao hr];simp[aF]
 have HR:=hid hr;clear hr
 go_wp2_with fail
 refine(fQ (r++p) _ (by rw[ByteArray.size_append];unfold maxLen;omega)).mono ?_;rintro e w3 ⟨rfl,hb3⟩;have H3:=hid (H2.out.trans (show aO w.heap.size w2 w3 v2 v2 _ from⟨H2.out.is.kept (Fr.pure (S:=λ_=>False) hb3) (λh=>h) (λ_ _ h=>h),Fr.pure hb3,.inl rfl⟩));clear hb3
 go_wp2_with fail
 refine(nI (Crc.of (r++p).data.toList) w.heap.size v2 _ _ H3.out.is (by simp[aF])).mono ?_;rintro e w4 ⟨rfl,v4,h4⟩;have H4:=hid (H3.out.trans h4);clear h4
 go_wp2_with fail
 refine(aX p w.heap.size v4 _ _ H4.out.is (by simp[aF,Crc.four_length];omega)).mono ?_;rintro e w5 ⟨rfl,v5,h5⟩;have H5:=hid (H4.out.trans h5);clear h5
 go_wp2_with fail
 refine(aZ w.heap.size v5 _ _ H5.out.is).mono ?_;rintro e w5' ⟨u,hu,rfl,rfl⟩;have HU:=hid hu;clear hu;go_wp2
 go_ret2
 refine⟨⟨u,?_,rfl⟩,?_⟩
 ·rw[HU.out,nQ,HR.out]
  unfold ip io;rw[ak];simp
 ·exact HA.out.trans (H5.out.fr.below HA.out.size (λk hk e=>e.elim (by omega) (by simp[Value.ownBlock])))
theorem nS {B:Nat}{w w1:World}(h:Below B w w1)(k:Nat):Below B w (w1.drewN k):=⟨h.os,h.tape,h.output,h.size,h.block⟩
theorem nT {t:List UInt8}(h:t.length<16):∃st:bc,(((st0.fixed t 4).2.fixed t 8).2.fixed t 4).2=st∧st.e=8:=by
 refine⟨_,rfl,?_⟩;unfold bc.fixed bc.take st0;by_cases h4:t.length<4
 ·simp[h4]
 ·by_cases h12:t.length-4<8
  ·simp[h4,h12]
  ·by_cases h16:t.length-12<4
   ·simp[h4,h12,h16]
   ·omega
theorem nU {t:List UInt8}(h:16≤t.length) :
  st0.fixed t 4=(val (t.take 4),⟨4,0,0⟩)∧(⟨4,0,0⟩:bc).fixed t 8=(val ((t.drop 4).take 8),⟨12,0,0⟩)∧(⟨12,0,0⟩:bc).fixed t 4=(val ((t.drop 12).take 4),⟨16,0,0⟩):=by
 refine⟨?_,?_,?_⟩
 ·unfold bc.fixed bc.take st0;simp[show ¬t.length<4 from by omega]
 ·unfold bc.fixed bc.take;simp[show ¬t.length-4<8 from by omega]
 ·unfold bc.fixed bc.take;simp[show ¬t.length-12<4 from by omega]
theorem nV {t:List UInt8}{n:Nat}(h16:16≤t.length)(h:t.length<16+n):(⟨16,0,0⟩:bc).take t n=([],false,⟨16,8,16⟩):=by
 unfold bc.take;simp[show t.length-16<n from by omega]
theorem nW {t:List UInt8}{n:Nat}(h:16+n≤t.length):(⟨16,0,0⟩:bc).take t n=((t.drop 16).take n,true,⟨16+n,0,0⟩):=by
 unfold bc.take;simp[show ¬t.length-16<n from by omega]
theorem nX {q:List UInt8}(h:q.length=4):∃d:BitVec 32,q=Crc.four d∧ny (BitVec.ofNat 32 (val q))=d:=by
 obtain⟨d,rfl⟩:=Crc.four_of q h;refine⟨d,rfl,?_⟩;rw[nD,BitVec.ofNat_toNat,BitVec.setWidth_eq,nF]
def nY (r:Int×Nat×List UInt8)(a:Nat)(w:World)(e:Ending)(w':World):Prop:=
 Below w.heap.size w w'∧∃p:ByteArray,p.data.toList=r.2.2 ∧
  e = .returned (.tuple #[.agg #[.int .i64 (r.2.1:Int),.string p,.int .i64 (if r.1=0 then (a:Int) else 0)],.int .i64 (if r.1=0 then ((a+16+r.2.2.length:Nat):Int) else 0),.int .i64 r.1])
theorem nZ {c:Int}{a:Nat}{w w':World}{r:Int×Nat×List UInt8}(hr:r=(c,0,[]))(hc:c≠0)(hb:Below w.heap.size w w'):nY r a w (.returned (.tuple #[.agg #[.int .i64 0,.string ⟨#[]⟩,.int .i64 0],.int .i64 0,.int .i64 c])) w':=by
 subst hr;exact⟨hb,⟨#[]⟩,rfl,by simp[hc]⟩
theorem n8 (w:World)(p:Nat)(s:ByteArray)(st:bc)(h:bd w p s st) :
  Calls prog 366 #[.pointer (some ⟨p,0,none⟩)] w λe w'=>∃(c:BitVec 32) (n:Nat) (st':bc),st.fixed s.data.toList 4=(n,st')∧c=ny (BitVec.ofNat 32 n)∧e = .returned (.int .u32 (c.toNat:Int))∧bd w' p s st'∧Fr (λk=>k=p) w w':=
 (nJ w p s st h).mono λ_ _ ⟨c,h0,h1,h2,h3⟩=>⟨c,_,_,rfl,h0,h1,h2,h3⟩
theorem n9 (s:ByteArray)(a:Nat)(w:World)(ha:a≤s.size)(hs:s.size≤1099511627776) :
  Calls prog 278 #[.string s,.int .i64 (a:Int)] w λe w'=>nY (iu (s.data.toList.drop a)) a w e w':=by
 obtain⟨T,hT⟩:∃T,T=s.data.toList.drop a:=⟨_,rfl⟩;have hTl:T.length=s.size-a:=by rw[hT,List.length_drop,ak]
 obtain⟨t,ht⟩:∃t:ByteArray,t=s.extract a s.size:=⟨_,rfl⟩;have htl:t.data.toList=T:=by rw[ht,ap,List.take_of_length_le (by rw[List.length_drop,ak];exact Nat.le_refl _),hT]
 have hts:t.size=s.size-a:=by rw[ao htl,hTl]
 rw[← hT];have HT:=hid ht;have HTT:=hid htl;have HTL:=hid hTl;have HT0:=hid hT;clear htl hTl hT ht
 go_enter func278,ntmps278
 go_wp2_with fail
 rw[← HT.out];refine(bf t _ (by omega)).mono ?_;rintro e w1 ⟨rfl,h1,hb1⟩;have hs1:=hb1.size;simp at hs1;obtain⟨p,hp⟩:∃p,p=w.heap.size+1:=⟨_,rfl⟩;have hp1:(w.alloc (.cells #[.int .i64 0,.string ⟨#[]⟩,.int .i64 0] 166)).heap.size=p:=by rw[hp];simp
 rw[hp1]at h1 ⊢;have hpw:w.heap.size<p:=by omega
 have hz:w1.heap[w.heap.size]?=some (.cells #[.int .i64 0,.string ⟨#[]⟩,.int .i64 0] 166 (0,0)):=by rw[hb1.block _ (by simp)];exact heap_alloc_new _ _
 have HZ1:=hid hz;have H1:=hid h1;have B1:=hid (ax (hb1.mono (by simp)));clear hz h1 hb1 hp hp1
 go_wp2_with fail
 refine(nw _ p t st0 H1.out).mono ?_;rintro e w2 ⟨n,sa,hsa,hn,rfl,h2,hf2⟩;have H2:=hid h2;have HZ2:=hid (hf2.heapAt HZ1.out (by omega));have B2:=hid (B1.out.trans (hf2.below (B:=w.heap.size) B1.out.size (λi hi e=>by omega)));have HSA:=hid hsa;clear h2 hf2 hsa
 go_wp2_with fail
 refine(gx _ p t sa H2.out).mono ?_;rintro e w3 ⟨q,sb,hsb,rfl,h3,hf3⟩;have H3:=hid h3;have HZ3:=hid (hf3.heapAt HZ2.out (by omega));have B3:=hid (B2.out.trans (hf3.below (B:=w.heap.size) B2.out.size (λi hi e=>by omega)));have HSB:=hid hsb;have hq64:=gA _ _ hsb;clear h3 hf3 hsb
 go_wp2_with fail
 refine(n8 _ p t sb H3.out).mono ?_;rintro e w4 ⟨c,cn,sc,hsc,hc,rfl,h4,hf4⟩;have H4:=hid h4;have HZ4:=hid (hf4.heapAt HZ3.out (by omega));have B4:=hid (B3.out.trans (hf4.below (B:=w.heap.size) B3.out.size (λi hi e=>by omega)));have HSC:=hid hsc;have HC:=hid hc;clear h4 hf4 hsc hc
 go_wp2_with fail
 refine(bD _ p t sc H4.out).mono ?_;rintro e w5 ⟨rfl,nq,rfl⟩;have B5:=hid (nS B4.out nq);have HZ5:=hid (show(w4.drewN nq).heap[w.heap.size]?=_ from HZ4.out);have H5:=hid (H4.out.drewN nq)
 generalize w4.drewN nq=w5 at *
 have hr0:w5.cell? ⟨w.heap.size,0,none⟩=some (.int .i64 0):=(cell_of_row _ _ _ _ _ _ HZ5.out).trans rfl;have hr1:w5.cell? ⟨w.heap.size,1,none⟩=some (.string ⟨#[]⟩):=(cell_of_row _ _ _ _ _ _ HZ5.out).trans rfl;have hr2:w5.cell? ⟨w.heap.size,2,none⟩=some (.int .i64 0):=(cell_of_row _ _ _ _ _ _ HZ5.out).trans rfl;have hz0:w5.frozen? ⟨w.heap.size,0,none⟩=false:=frozen_of_row _ _ _ _ _ HZ5.out;have hz1:w5.frozen? ⟨w.heap.size,1,none⟩=false:=frozen_of_row _ _ _ _ _ HZ5.out;have hz2:w5.frozen? ⟨w.heap.size,2,none⟩=false:=frozen_of_row _ _ _ _ _ HZ5.out;by_cases h16:T.length<16
 ·obtain⟨st,hst,he⟩:=nT h16
  have hsc8:sc.e=8:=by
   rw[← HTT.out]at hst;have h1:=HSA.out;have h2:=HSB.out;have h3:=HSC.out;rw[h1]at hst;simp only at hst;rw[h2]at hst;simp only at hst;rw[h3]at hst;simp only at hst;rw[hst];exact he
  have HR:=hid (show iu T=(8,0,[])from by unfold iu;rw[if_pos h16]);rw[hsc8];clear hst he hsc8;go_wp2;refine bodyPost_ret (v:=.tuple #[.agg #[.int .i64 0,.string ⟨#[]⟩,.int .i64 0],.int .i64 0,.int .i64 8]) (by simp[results,results278,go_sem,hr0,hr1,hr2]) rfl (nZ ?_ (by decide) ?_)
  ·exact HR.out
  ·exact((B5.out.setCell (p:=⟨w.heap.size,0,none⟩) (Nat.le_refl _) _).setCell (p:=⟨w.heap.size,1,none⟩) (Nat.le_refl _) _).setCell (p:=⟨w.heap.size,2,none⟩) (Nat.le_refl _) _
 have hall:=nU (Nat.not_lt.1 h16);obtain⟨ha1,ha2,ha3⟩:=hall;rw[← HTT.out]at ha1 ha2 ha3;have e1:=HSA.out.symm.trans ha1;obtain⟨en,es⟩:=Prod.mk.inj e1;subst es;have e2:=HSB.out.symm.trans ha2;obtain⟨eq,es⟩:=Prod.mk.inj e2;subst es;have e3:=HSC.out.symm.trans ha3;obtain⟨ec,es⟩:=Prod.mk.inj e3;subst es;rw[HTT.out]at en eq ec;have EN:=hid en;have EQ:=hid eq;have EC:=hid ec;clear ha1 ha2 ha3 e1 e2 e3 en eq ec;have hreg:∀(bad:4096<n∨n<1∨1048576≤q),iu T=(4,0,[]):=λbad=>by
  unfold iu;rw[if_neg h16,if_pos (by rw[← EN.out,← EQ.out];exact bad)]
 have HREG:=hid hreg;clear hreg;by_cases hn4:4096<n
 ·have HB:=hid (HREG.out (.inl hn4))
  go_wp2;refine bodyPost_ret (v:=.tuple #[.agg #[.int .i64 0,.string ⟨#[]⟩,.int .i64 0],.int .i64 0,.int .i64 4]) (by simp[results,results278,go_sem,hr0,hr1,hr2]) rfl (nZ ?_ (by decide) ?_)
  ·exact HB.out
  ·exact((B5.out.setCell (p:=⟨w.heap.size,0,none⟩) (Nat.le_refl _) _).setCell (p:=⟨w.heap.size,1,none⟩) (Nat.le_refl _) _).setCell (p:=⟨w.heap.size,2,none⟩) (Nat.le_refl _) _
 by_cases hn1:n<1
 ·have HB:=hid (HREG.out (.inr (.inl hn1)))
  have HPB:=hid (show nL (n:Int)=false from by unfold nL;simp;omega)
  go_wp2_with (go_at_call 110;refine(nM _ _).mono ?_;rintro e w' ⟨rfl,rfl⟩;rw[HPB.out])
  refine bodyPost_ret (v:=.tuple #[.agg #[.int .i64 0,.string ⟨#[]⟩,.int .i64 0],.int .i64 0,.int .i64 4]) (by simp[results,results278,go_sem,hr0,hr1,hr2]) rfl (nZ ?_ (by decide) ?_)
  ·exact HB.out
  ·exact((B5.out.setCell (p:=⟨w.heap.size,0,none⟩) (Nat.le_refl _) _).setCell (p:=⟨w.heap.size,1,none⟩) (Nat.le_refl _) _).setCell (p:=⟨w.heap.size,2,none⟩) (Nat.le_refl _) _
 have HPB:=hid (show nL (n:Int)=true from by unfold nL;simp;omega);by_cases hq2:1048576≤q
 ·have HB:=hid (HREG.out (.inr (.inr hq2)))
  go_wp2_with (go_at_call 110;refine(nM _ _).mono ?_;rintro e w' ⟨rfl,rfl⟩;rw[HPB.out])
  refine bodyPost_ret (v:=.tuple #[.agg #[.int .i64 0,.string ⟨#[]⟩,.int .i64 0],.int .i64 0,.int .i64 4]) (by simp[results,results278,go_sem,hr0,hr1,hr2]) rfl (nZ ?_ (by decide) ?_)
  ·exact HB.out
  ·exact((B5.out.setCell (p:=⟨w.heap.size,0,none⟩) (Nat.le_refl _) _).setCell (p:=⟨w.heap.size,1,none⟩) (Nat.le_refl _) _).setCell (p:=⟨w.heap.size,2,none⟩) (Nat.le_refl _) _
 have HOK:=hid (show ¬(4096<val (T.take 4)∨val (T.take 4)<1∨1048576≤val ((T.drop 4).take 8))from by rw[← EN.out,← EQ.out];omega);clear HREG
 go_wp2_with (first|(go_at_call 110;refine(nM _ _).mono ?_;rintro e w' ⟨rfl,rfl⟩;rw[HPB.out])|fail)
 refine(gy _ p t ⟨16,0,0⟩ H5.out n (by omega)).mono ?_;rintro e w6 ⟨r,sd,hr,hsd,rfl,h6,hf6⟩;have H6:=hid h6;have HZ6:=hid (hf6.heapAt HZ5.out (by omega));have B6:=hid (B5.out.trans (hf6.below (B:=w.heap.size) B5.out.size (λi hi e=>by omega)));have HR:=hid hr;have HSD:=hid hsd;clear h6 hf6 hr hsd hr0 hr1 hr2 hz0 hz1 hz2
 go_wp2_with fail
 refine(bD _ p t sd H6.out).mono ?_;rintro e w7 ⟨rfl,nq2,rfl⟩;have B7:=hid (nS B6.out nq2);have HZ7:=hid (show(w6.drewN nq2).heap[w.heap.size]?=_ from HZ6.out);have H7:=hid (H6.out.drewN nq2)
 generalize w6.drewN nq2=w7 at *
 have hr0:w7.cell? ⟨w.heap.size,0,none⟩=some (.int .i64 0):=(cell_of_row _ _ _ _ _ _ HZ7.out).trans rfl;have hr1:w7.cell? ⟨w.heap.size,1,none⟩=some (.string ⟨#[]⟩):=(cell_of_row _ _ _ _ _ _ HZ7.out).trans rfl;have hr2:w7.cell? ⟨w.heap.size,2,none⟩=some (.int .i64 0):=(cell_of_row _ _ _ _ _ _ HZ7.out).trans rfl;have hz0:w7.frozen? ⟨w.heap.size,0,none⟩=false:=frozen_of_row _ _ _ _ _ HZ7.out;have hz1:w7.frozen? ⟨w.heap.size,1,none⟩=false:=frozen_of_row _ _ _ _ _ HZ7.out;have hz2:w7.frozen? ⟨w.heap.size,2,none⟩=false:=frozen_of_row _ _ _ _ _ HZ7.out;by_cases hsh:T.length<16+n
 ·have hst:(⟨16,8,16⟩:bc)=sd:=by have:=HSD.out;rw[HTT.out,nV (by omega) hsh]at this;exact this
  subst hst;have HB:=hid (show iu T=(8,0,[])from by unfold iu;rw[if_neg h16,if_neg HOK.out,if_pos (by rw[← EN.out];exact hsh)]);go_wp2;refine bodyPost_ret (v:=.tuple #[.agg #[.int .i64 0,.string ⟨#[]⟩,.int .i64 0],.int .i64 0,.int .i64 8]) (by simp[results,results278,go_sem,hr0,hr1,hr2]) rfl (nZ ?_ (by decide) ?_)
  ·exact HB.out
  ·exact((B7.out.setCell (p:=⟨w.heap.size,0,none⟩) (Nat.le_refl _) _).setCell (p:=⟨w.heap.size,1,none⟩) (Nat.le_refl _) _).setCell (p:=⟨w.heap.size,2,none⟩) (Nat.le_refl _) _
 have hro:=nW (t:=T) (n:=n) (by omega);have hst:(⟨16+n,0,0⟩:bc)=sd:=by have:=HSD.out;rw[HTT.out,hro]at this;exact this
 subst hst;have hrl:r.data.toList=(T.drop 16).take n:=by have:=HR.out;rw[HTT.out,hro]at this;exact this
 have hrs:r.size=n:=by rw[ao hrl,List.length_take,List.length_drop];omega
 have HRL:=hid hrl;obtain⟨d,hd,hd2⟩:=nX (q:=(T.drop 12).take 4) (by rw[List.length_take,List.length_drop];omega);have hcd:c=d:=by rw[HC.out,EC.out];exact hd2
 subst hcd;have HD:=hid hd;clear hro hrl hd hd2;obtain⟨u,hu⟩:∃u:ByteArray,u=s.extract a (a+12)++r:=⟨_,rfl⟩;have hul:u.data.toList=T.take 12++(T.drop 16).take n:=by
  rw[hu,nQ,HRL.out,ap,← HT0.out,show a+12-a=12 from by omega]
 have hus:u.size≤9223372036854775807:=by rw[ao hul,List.length_append,List.length_take,List.length_take];omega
 have HU:=hid hu;have HUL:=hid hul;clear hu hul;have ha12:a+12≤s.size:=by have:=HTL.out;omega
 go_wp2_with fail
 rw[← HU.out];refine(fQ u _ (by unfold maxLen;omega)).mono ?_;rintro e w8 ⟨rfl,hb8⟩;have B8:=hid (B7.out.trans (hb8.mono B7.out.size));have HZ8:=hid ((hb8.block _ (lt_of_block HZ7.out)).trans HZ7.out);have H8:=hid (H7.out.kept (Fr.pure (S:=λ_=>False) hb8) (λh=>h));clear hb8 hr0 hr1 hr2 hz0 hz1 hz2;have hr0:w8.cell? ⟨w.heap.size,0,none⟩=some (.int .i64 0):=(cell_of_row _ _ _ _ _ _ HZ8.out).trans rfl;have hr1:w8.cell? ⟨w.heap.size,1,none⟩=some (.string ⟨#[]⟩):=(cell_of_row _ _ _ _ _ _ HZ8.out).trans rfl;have hr2:w8.cell? ⟨w.heap.size,2,none⟩=some (.int .i64 0):=(cell_of_row _ _ _ _ _ _ HZ8.out).trans rfl;have hz0:w8.frozen? ⟨w.heap.size,0,none⟩=false:=frozen_of_row _ _ _ _ _ HZ8.out;have hz1:w8.frozen? ⟨w.heap.size,1,none⟩=false:=frozen_of_row _ _ _ _ _ HZ8.out;have hz2:w8.frozen? ⟨w.heap.size,2,none⟩=false:=frozen_of_row _ _ _ _ _ HZ8.out;by_cases hcr:Crc.of u.data.toList=c
 ·have HCR:=hid hcr
  rw[hcr];have HB:=hid (show iu T=(0,q,(T.drop 16).take n)from by
   unfold iu;rw[if_neg h16,if_neg HOK.out,if_neg (by rw[← EN.out];exact hsh),if_neg (by rw[← EN.out,← HUL.out,HCR.out,HD.out];simp),← EQ.out,← EN.out])
  clear hcr;have hq63:q<1048576:=by omega
  go_wp2_with (go_at_call 367;refine(nK _ p t _ H8.out).mono ?_;rintro e w' ⟨rfl,rfl⟩)
  refine bodyPost_ret (v:=.tuple #[.agg #[.int .i64 (q:Int),.string r,.int .i64 (a:Int)],.int .i64 (((a+(16+n):Nat):Int)),.int .i64 0]) (by simp[results,results278,go_sem,hr0,hr1,hr2]) rfl ⟨?_,r,?_,?_⟩
  ·exact((B8.out.setCell (p:=⟨w.heap.size,0,none⟩) (Nat.le_refl _) _).setCell (p:=⟨w.heap.size,1,none⟩) (Nat.le_refl _) _).setCell (p:=⟨w.heap.size,2,none⟩) (Nat.le_refl _) _
  ·rw[HB.out];exact HRL.out
  ·rw[HB.out,if_pos rfl,if_pos rfl,show((T.drop 16).take n).length=n from by rw[List.length_take,List.length_drop];omega,show a+(16+n)=a+16+n from by omega]
 ·have hne:((Crc.of u.data.toList).toNat:Int)≠(c.toNat:Int):=λe=>hcr (BitVec.eq_of_toNat_eq (by omega))
  have hneb:(((Crc.of u.data.toList).toNat:Int) != (c.toNat:Int))=true:=by simpa using hne
  have heqb:(((Crc.of u.data.toList).toNat:Int) == (c.toNat:Int))=false:=by simpa using hne
  have HB:=hid (show iu T=(42,0,[])from by
   unfold iu;rw[if_neg h16,if_neg HOK.out,if_neg (by rw[← EN.out];exact hsh),if_pos (by rw[← EN.out,← HUL.out,HD.out];exact λe=>hcr (nE e))])
  clear hcr hne;go_wp2;refine bodyPost_ret (v:=.tuple #[.agg #[.int .i64 0,.string ⟨#[]⟩,.int .i64 0],.int .i64 0,.int .i64 42]) (by simp[results,results278,go_sem,hr0,hr1,hr2]) rfl (nZ ?_ (by decide) ?_)
  ·exact HB.out
  ·exact((B8.out.setCell (p:=⟨w.heap.size,0,none⟩) (Nat.le_refl _) _).setCell (p:=⟨w.heap.size,1,none⟩) (Nat.le_refl _) _).setCell (p:=⟨w.heap.size,2,none⟩) (Nat.le_refl _) _
end
end Go.Proofs.YthjjgcfdhkhelaaGreatDoor
