/- The example of the statements about snapshots' files, plainly. -/
import Derived.Test.YthjjgcfdhkhelaaGreatDoorQAq
import Derived.Test.YthjjgcfdhkhelaaGreatDoorQAm
set_option maxHeartbeats 4000000
set_option maxRecDepth 100000
open Go.Lib(hid)
open Go.Proofs.Tryz
namespace Go.Proofs.YthjjgcfdhkhelaaGreatDoor
section
open Go.RowKit Go.Shelf
attribute [local go_sem] Oper.semAt_some
theorem tW {s tail:List UInt8}:∀{pre:List RdX} {ps:List (List UInt8)} {a q:Nat},tP s a q pre→s.drop a=iC q ps++tail→iE q ps→pre.length≤ps.length →
  ∀i (h:i<pre.length) (h':i<ps.length),pre[i].e=0∧pre[i].p.data.toList=ps[i]:=by
 intro pre
 induction pre with
 | nil=>intro ps a q _ _ _ _ i h;simp at h
 | cons x r ih=>
  intro ps a q h hs ho hl i hi hi';cases ps with
  | nil=>simp at hl
  | cons p rs=>
   obtain⟨h1,h2,_,h4⟩:=h;obtain⟨o1,o2,o3⟩:=ho;have e:iC q (p::rs)++tail=ip q p++(iC (q+1) rs++tail):=by simp[iC]
   have hr:iu (s.drop a)=(0,q,p):=by rw[hs,e];exact iz q p _ o1 o2
   have hone:tO s a q=(0,p):=by unfold tO;rw[hr];simp
   rw[hone]at h1 h2;cases i with
   | zero=>exact⟨h1,h2⟩
   | succ i=>
    have hps:x.p.size=p.length:=ao h2;refine ih h4 ?_ o3 (by simpa using hl) i (by simpa using hi) (by simpa using hi');rw[hps,show a+16+p.length=a+(16+p.length)from by omega,← List.drop_drop,hs,e,List.drop_left' (ir q p)]
theorem tX (w:World)(o1 o2:Obj):Below w.heap.size w ((w.alloc o1).alloc o2):=((Below.refl _ _).alloc (Nat.le_refl _) _).alloc (by simp) _
theorem tY (s:ByteArray)(q a:Int)(w:World) :
  Calls prog 207 #[.string s,.agg #[.int .i64 q,.int .i64 a]] w λe w'=>e = .returned (.func (.func 282) #[] #[.pointer (some ⟨w.heap.size+1,0,none⟩),.pointer (some ⟨w.heap.size,0,none⟩)]) ∧
   w'=(w.alloc (.cells #[.string s] 9)).alloc (.cells #[.int .i64 q,.int .i64 a] 224):=by
 have hmf:∀(fn:Fn) (first cap:Array Value) (w:World),(Instr.makeFunc fn first cap).run prog w = .ok (.func fn first cap) w:=λ_ _ _ _=>rfl
 go_enter func207,ntmps207
 go_wp2;go_ret;exact⟨by simp,rfl⟩
structure GtAt (w W:World) (b d:Nat) (p:ByteArray) (e:Int) (left:Int):Prop where
 b0:W.heap[b]?=some (.cells #[.string p] 9 (0,0))
 b1:W.heap[b+1]?=some (.cells #[.int .i64 e] 26 (0,0))
 bl:W.heap[d+1]?=some (.cells #[.int .i64 left] 2 (0,0))
 below:Below b w W
theorem GtAt.bears {w W W':World}{b d:Nat}{p:ByteArray}{e left:Int}(hbd:b+2≤d)(h:GtAt w W b d p e left)(hf:Fr (λk=>d+4≤k) W W'):GtAt w W' b d p e left:=
 ⟨hf.heapAt h.b0 (by omega),hf.heapAt h.b1 (by omega),hf.heapAt h.bl (by omega),h.below.trans (hf.below (B:=b) (by have:=lt_of_block h.b0;omega) (λk hk=>by omega))⟩
def tZ (w:World)(b d L:Nat)(c:Code)(pre:List RdX)(W:World):Prop:=
 c = .ret∧∃pre' x left,pre=pre'++[x]∧pre'.length≤L∧((x.e≠0∧GtAt w W b d ⟨#[]⟩ x.e left)∨(x.e=0∧pre'.length=L∧GtAt w W b d x.p 0 left))
def ua (w:World)(b d L:Nat)(pre:List RdX)(W:World):Prop:=pre.length≤L∧(∀y∈pre,y.e=0)∧GtAt w W b d ⟨#[]⟩ 0 (((L-pre.length:Nat):Int))
theorem ub (w:World)(x ev q nx g:Nat)(sv:Value)(ps:List (List UInt8))(h:oR w x ev q nx g sv (iV ev q ps))(hev:1≤ev)(hn:nx=q+ps.length)(hnx:nx≤2097152)(k:Nat)(hk:k<ps.length)
  (s:ByteArray) (tail:List UInt8) (hs:s.data.toList=iR q ps++tail) (hsz:s.size≤1048576) (ho:iE q ps) :
  Calls prog 155 #[.pointer (some ⟨x,0,none⟩),.string s,.int .i64 ((q+k:Nat):Int)] w λe w'=>(∃p:ByteArray,p.data.toList=ps[k]∧e = .returned (.tuple #[.string p,.int .i64 0]))∧Below w.heap.size w w':=by
 obtain⟨PK,hPK⟩:∃PK,PK=ps[k]:=⟨_,rfl⟩;rw[← hPK];obtain⟨J,hJ⟩:∃J,J=k / ev*ev:=⟨_,rfl⟩;have hJk:J≤k:=by rw[hJ];exact Nat.div_mul_le_self k ev
 have hA:pz ev q ps k=(((q+J:Nat):Int),((16+(iC q (ps.take J)).length:Nat):Int)):=by unfold pz iU;rw[hJ]
 obtain⟨A,hAA⟩:∃A,A=16+(iC q (ps.take J)).length:=⟨_,rfl⟩;rw[← hAA]at hA;have hsplit:iC q ps=iC q (ps.take J)++iC (q+J) (ps.drop J):=by
  have:=iF q (ps.take J) (ps.drop J);rw[List.take_append_drop,List.length_take,Nat.min_eq_left (by omega)]at this;exact this
 have hok2:iE (q+J) (ps.drop J):=by
  have:=(iG (q:=q) (a:=ps.take J) (b:=ps.drop J)).1 (by rw[List.take_append_drop];exact ho);rw[List.length_take,Nat.min_eq_left (by omega)]at this;exact this.2
 have hdrop:s.data.toList.drop A=iC (q+J) (ps.drop J)++tail:=by
  rw[hs,hAA];unfold iR;rw[hsplit];have e:iM q++(iC q (ps.take J)++iC (q+J) (ps.drop J))++tail=(iM q++iC q (ps.take J))++(iC (q+J) (ps.drop J)++tail):=by simp
  rw[e,List.drop_left' (by rw[List.length_append,iN])]
 have hAs:A≤s.size:=by
  rw[ao hs,hAA];unfold iR;rw[hsplit];simp only[List.length_append,iN];omega
 have hJq:q+J≤1048576:=by
  have:=iH ho
  rcases this with e|e
  ·rw[e]at hk;simp at hk
  ·omega
 obtain⟨L,hL⟩:∃L,L=k-J:=⟨_,rfl⟩;have H:=hid h;have HA:=hid hA;have HDR:=hid hdrop;have HOK:=hid hok2;have HL:=hid hL;clear h hA hdrop hok2 hsplit hAA hJ hs ho;have hmf:∀(fn:Fn) (first cap:Array Value) (w:World),(Instr.makeFunc fn first cap).run prog w = .ok (.func fn first cap) w:=λ_ _ _ _=>rfl;refine(callsIn_wide (n:=6)).1 ?_;refine callsIn_of_wp_marks func155 rfl trivial ?_ rfl;simp only[ntmps155,List.size_toArray,List.length_cons,List.length_nil,Nat.reduceAdd,Nat.reduceSub,Array.replicate_succ,Array.replicate_zero,List.push_toArray,List.append_toArray,List.nil_append,List.cons_append]
 gi_wp2_with fail
 refine⟨trivial,?_⟩;have hbz:=tX w (.cells #[.string ⟨#[]⟩] 9) (.cells #[.int .i64 0] 26);refine(callsIn_wide.2 (pB _ x ev q nx g sv ps (H.out.pure hbz) hev hn hnx k hk)).mono ?_;rintro e w2 ⟨rfl,hb2⟩;rw[HA.out];obtain⟨Q,hQ⟩:∃Q,Q=q+J:=⟨_,rfl⟩;obtain⟨T,hT⟩:∃T,T=q+k:=⟨_,rfl⟩;rw[← hQ,← hT];rw[← hQ]at hJq HDR HOK;have hQT:Q≤T:=by omega
 have hT2:T≤2097152:=by omega
 have HTL:=hid (show(T:Int)-(Q:Int)=(L:Int)from by omega);have hLp:L<(ps.drop J).length:=by rw[List.length_drop];omega
 have HPK:=hid (show(ps.drop J)[L]'hLp=PK from by rw[hPK,List.getElem_drop];congr 1;omega);have hk0:((w.alloc (.cells #[.string ⟨#[]⟩] 9)).alloc (.cells #[.int .i64 0] 26)).heap[w.heap.size]?=some (.cells #[.string ⟨#[]⟩] 9 (0,0)):=(Below.heap_alloc _ _ _ (by simp)).trans (heap_alloc_new _ _);have hk1:((w.alloc (.cells #[.string ⟨#[]⟩] 9)).alloc (.cells #[.int .i64 0] 26)).heap[w.heap.size+1]?=some (.cells #[.int .i64 0] 26 (0,0)):=oB _ _ (by simp);have hm0:=(hb2.block _ (lt_of_block hk0)).trans hk0;have hm1:=(hb2.block _ (lt_of_block hk1)).trans hk1;have HB2:=hid (hbz.trans (hb2.mono hbz.size));have hd2:w.heap.size+2≤w2.heap.size:=by have:=hb2.size;simp at this;omega
 have HM0:=hid hm0;have HM1:=hid hm1;clear hPK hQ hT hL hJk hk0 hk1 hm0 hm1 hbz hb2 hn hnx hk
 gi_wp2_with fail
 refine⟨trivial,?_⟩;rw[HTL.out];refine(callsIn_wide.2 (tY s (Q:Int) (A:Int) _)).mono ?_;rintro e w3 ⟨rfl,rfl⟩
 gi_wp2
 obtain⟨W0,hW0⟩:∃W0,W0=(((w2.alloc (.cells #[.int .i64 (Q:Int),.int .i64 (A:Int)] 224)).alloc (.cells #[.int .i64 (L:Int)] 2)).alloc (.cells #[.string s] 9)).alloc (.cells #[.int .i64 (Q:Int),.int .i64 (A:Int)] 224):=⟨_,rfl⟩;obtain⟨b,hb⟩:∃b,b=w.heap.size:=⟨_,rfl⟩;obtain⟨d,hd⟩:∃d,d=w2.heap.size:=⟨_,rfl⟩;have hsz:W0.heap.size=d+4:=by rw[hW0,hd];simp
 have hbel:Below d w2 W0:=by rw[hW0,hd];exact((((Below.refl _ _).alloc (Nat.le_refl _) _).alloc (by simp) _).alloc (by simp;omega) _).alloc (by simp;omega) _
 have k1:W0.heap[d+1]?=some (.cells #[.int .i64 (L:Int)] 2 (0,0)):=by
  rw[hW0,hd];exact(Below.heap_alloc _ _ _ (by simp)).trans ((Below.heap_alloc _ _ _ (by simp)).trans (oB _ _ (by simp)))
 have k2:W0.heap[d+1+1]?=some (.cells #[.string s] 9 (0,0)):=by
  rw[hW0,hd];exact(Below.heap_alloc _ _ _ (by simp)).trans (oB _ _ (by simp))
 have k3:W0.heap[d+1+1+1]?=some (.cells #[.int .i64 (Q:Int),.int .i64 (A:Int)] 224 (0,0)):=by
  rw[hW0,hd];exact oB _ _ (by simp)
 have hbd:b+2≤d:=by omega
 have hgt:ua w b d L [] W0:=by
  refine⟨by simp,by simp,?_,?_,k1,?_⟩
  ·rw[hb];exact(hbel.block _ (by omega)).trans HM0.out
  ·rw[hb];exact(hbel.block _ (by omega)).trans HM1.out
  ·rw[hb];exact HB2.out.trans (hbel.mono (by omega))
 rw[← hW0,← hb,← hd];have HBB:=hid hb;clear hW0 hbel k1 hd2 hb hd hmf;have HK2:=hid (And.intro k2 k3);have HGT:=hid hgt;clear k2 k3 hgt;refine nf (n:=6) rfl (by omega) (gf:=282) rfl trivial (enters_of func282 (by kernel_rfl) rfl)
  (tV W0 (d+1+1+1) (d+1+1) s A Q (by omega) hAs hJq HK2.out.2 HK2.out.1 (s.size+1) (by omega))
  (λk hk=>hk.elim) (λh k=>⟨Nat.le_trans h.1 k.1,k.2.trans h.2⟩)
  (λW o h=>⟨by rw[World.putObj_size];exact Nat.le_refl _,World.putObj_heap_other (by omega)⟩) (λ_=>rfl)
  (ua w b d L) (tZ w b d L) ?bears ?bears2 HGT.out
  (λpre y a' W=>ua w b d L pre W∧a'={ tmps:=#[.pointer (some ⟨x,0,none⟩),.string s,.int .i64 (T:Int),undef,undef,undef,.pointer (some ⟨b,0,none⟩),.pointer (some ⟨b+1,0,none⟩),.pointer (some ⟨d,0,none⟩),.bool true,.pointer (some ⟨d+1,0,none⟩),.string y.p,.int .i64 y.e,.pointer (some ⟨x,0,none⟩),.bool false,.tuple #[.agg #[.int .i64 (Q:Int),.int .i64 (A:Int)],.bool true],.pointer (some ⟨x,0,none⟩),.int .i64 (T:Int),.tuple #[.agg #[.int .i64 (Q:Int),.int .i64 (A:Int)],.bool true],.agg #[.int .i64 (Q:Int),.int .i64 (A:Int)],.bool true,.bool true,.bool false,.int .i64 (T:Int),.pointer (some ⟨d,0,none⟩),.int .i64 (Q:Int),.int .i64 (L:Int),.string s,.agg #[.int .i64 (Q:Int),.int .i64 (A:Int)],.func (.func 282) #[] #[.pointer (some ⟨d+1+1+1,0,none⟩),.pointer (some ⟨d+1+1,0,none⟩)],.string y.p,.int .i64 y.e,undef,undef,undef,undef,undef,undef,undef,undef],defers:=[] })
  ?hA ?assign ?body ?done ?stop
 case bears=>exact λpre W1 W2 h hf=>⟨h.1,h.2.1,h.2.2.bears hbd (hf.mono (λi _ e=>by rcases e with e|e|e<;>first|exact False.elim e|omega))⟩
 case bears2=>
  rintro c pre W1 W2 ⟨h1,pre',y,left,h2,h3,h4⟩ hf;exact⟨h1,pre',y,left,h2,h3,h4.imp (λh=>⟨h.1,h.2.bears hbd (hf.mono (λi _ e=>by rcases e with e|e|e<;>first|exact False.elim e|omega))⟩) (λh=>⟨h.1,h.2.1,h.2.2.bears hbd (hf.mono (λi _ e=>by rcases e with e|e|e<;>first|exact False.elim e|omega))⟩)⟩
 case hA=>
  rintro pre y a' W o hlt ⟨h1,h2⟩;exact⟨⟨h1.1,h1.2.1,h1.2.2.bears hbd ((Fr.refl _ W).putObj _ (λ_=>by omega) o)⟩,h2⟩
 case assign=>
  intro pre y W K hlt hI hK;have HI:=hid hI;have HK:=hid hK;clear hI hK;unfold tN
  gi_wp2
  exact HK.out _ _ ⟨HI.out,rfl⟩ (m8.refl _ _) (Nat.le_refl _) ⟨Nat.le_refl _,rfl⟩
 case body=>
  rintro pre y a' W hlt ⟨⟨hle,hall,hg⟩,rfl⟩ hlen;have c0:W.cell? ⟨b,0,none⟩=some (.string ⟨#[]⟩):=(cell_of_row _ _ _ _ _ _ hg.b0).trans rfl;have c1:W.cell? ⟨b+1,0,none⟩=some (.int .i64 0):=(cell_of_row _ _ _ _ _ _ hg.b1).trans rfl;have cl:W.cell? ⟨d+1,0,none⟩=some (.int .i64 ((L-pre.length:Nat):Int)):=(cell_of_row _ _ _ _ _ _ hg.bl).trans rfl;have z0:W.frozen? ⟨b,0,none⟩=false:=frozen_of_row _ _ 0 _ _ hg.b0;have z1:W.frozen? ⟨b+1,0,none⟩=false:=frozen_of_row _ _ 0 _ _ hg.b1;have zl:W.frozen? ⟨d+1,0,none⟩=false:=frozen_of_row _ _ 0 _ _ hg.bl;have HG:=hid hg;have HALL:=hid hall;clear hg hall;have fin:∀(p:ByteArray) (e:Int),Fr (λk=>k=b∨k=b+1) W ((W.setCell ⟨b,0,none⟩ (.string p)).setCell ⟨b+1,0,none⟩ (.int .i64 e))∧GtAt w ((W.setCell ⟨b,0,none⟩ (.string p)).setCell ⟨b+1,0,none⟩ (.int .i64 e)) b d p e (((L-pre.length:Nat):Int)):=λp e=>by
   have hf:Fr (λk=>k=b∨k=b+1) W ((W.setCell ⟨b,0,none⟩ (.string p)).setCell ⟨b+1,0,none⟩ (.int .i64 e)):=((Fr.refl (λk=>k=b∨k=b+1) W).setCell ⟨b,0,none⟩ (λ_=>.inl rfl) _).setCell ⟨b+1,0,none⟩ (λ_=>.inr rfl) _;exact⟨hf,⟨(Below.heap_setCell _ _ _ _ (by simp)).trans (one_setCell HG.out.b0),one_setCell ((Below.heap_setCell _ _ _ _ (by simp)).trans HG.out.b1),hf.heapAt HG.out.bl (by omega),HG.out.below.trans (hf.below (B:=b) (by omega) (λk hk=>by omega))⟩⟩
  have HF:=hid fin;clear fin;by_cases hy0:y.e=0
  ·obtain⟨yp,ye⟩:=y
   obtain rfl:ye=0:=hy0;by_cases hL:pre.length=L
   ·have hl0:L-pre.length=0:=by omega
    rw[hl0]at cl;have HL0:=hid hL;clear hL hl0
    gi_wp2
    exact⟨m8.fr (HF.out yp 0).1 (by omega) (by omega) (by omega),rfl,pre,⟨yp,0⟩,_,rfl,hle,.inr ⟨rfl,HL0.out,(HF.out yp 0).2⟩⟩
   ·have hl1:(((L-pre.length:Nat):Int) == 0)=false:=by rw[beq_eq_false_iff_ne];omega
    have hl2:(0:Int)<((L-pre.length:Nat):Int):=by omega
    have hlb:L-pre.length≤2097152:=by have:=HTL.out;omega
    have hcast:((L-pre.length:Nat):Int)-1=((L-(pre++[(⟨yp,0⟩:RdX)]).length:Nat):Int):=by rw[List.length_append,List.length_singleton];omega
    have HCA:=hid hcast;have HL0:=hid hL;clear hL hcast
    gi_wp2
    have hf:Fr (λk=>k=d+1) W (W.setCell ⟨d+1,0,none⟩ (.int .i64 (((L-pre.length:Nat):Int)-1))):=(Fr.refl (λk=>k=d+1) W).setCell ⟨d+1,0,none⟩ (λ_=>rfl) _;refine⟨m8.fr hf (by omega) (by omega) (by omega),⟨hf.size,hf.block _ (by omega) (by omega)⟩,?_,?_,?_⟩
    ·rw[List.length_append,List.length_singleton];have:=HL0.out;omega
    ·intro z hz
     rcases List.mem_append.1 hz with h|h
     ·exact HALL.out z h
     ·rw[List.mem_singleton.1 h]
    ·rw[← HCA.out]
     exact⟨hf.heapAt HG.out.b0 (by omega),hf.heapAt HG.out.b1 (by omega),one_setCell HG.out.bl,HG.out.below.trans (hf.below (B:=b) (by omega) (λk hk=>by omega))⟩
  ·obtain⟨yp,ye⟩:=y
   have hye:(ye == 0)=false:=by simpa using hy0
   have hyn:(ye != 0)=true:=by simpa using hy0
   have HY0:=hid hy0;clear hy0
   gi_wp2
   exact⟨m8.fr (HF.out ⟨#[]⟩ ye).1 (by omega) (by omega) (by omega),rfl,pre,⟨yp,ye⟩,_,rfl,hle,.inl ⟨HY0.out,(HF.out ⟨#[]⟩ ye).2⟩⟩
 case done=>
  rintro xs W ⟨_,y,hy,hne⟩ ⟨_,hall,_⟩ _;exact absurd (hall y (List.mem_of_getLast? hy)) hne
 case stop=>
  rintro c pre W hsp ⟨rfl,pre',y,left,rfl,hle,hend⟩ hK;have hlen:(pre'++[y]).length≤(ps.drop J).length:=by rw[List.length_append,List.length_singleton];omega
  have hlast:=tW hsp HDR.out HOK.out hlen pre'.length (by simp) (by simp at hlen;omega);have hy:y.e=0∧y.p.data.toList=(ps.drop J)[pre'.length]'(by simp at hlen;omega):=by simpa using hlast
  have HKW:=hid hK;clear hK hlast
  rcases hend with⟨hne,_⟩|⟨_,hL,hg⟩
  ·exact absurd hy.1 hne
  ·have hpk:y.p.data.toList=PK:=by rw[← HPK.out,hy.2];congr 1
   have HPP:=hid hpk;have HG:=hid hg;clear hsp hy hpk hg
   gi_wp2
   refine⟨by simp,.inl ⟨_,_,rfl,run_takeDeferred HKW.out,?_⟩⟩;have hf3:Fr (λk=>k=W0.heap.size) W (W.putObj W0.heap.size (.deferred none)):=(Fr.refl (λk=>k=W0.heap.size) W).putObj W0.heap.size (λ_=>rfl) _;have g3:=HG.out.bears hbd (hf3.mono (T:=λk=>d+4≤k) (λi _ e=>by omega));have r0:(W.putObj W0.heap.size (.deferred none)).cell? ⟨b,0,none⟩=some (.string y.p):=(cell_of_row _ _ _ _ _ _ g3.b0).trans rfl;have r1:(W.putObj W0.heap.size (.deferred none)).cell? ⟨b+1,0,none⟩=some (.int .i64 0):=(cell_of_row _ _ _ _ _ _ g3.b1).trans rfl;refine⟨.tuple #[.string y.p,.int .i64 0],by simp[results,results155,go_sem,r0,r1],⟨y.p,HPP.out,rfl⟩,?_⟩;rw[← HBB.out];exact g3.below
end
section
open Go.RowKit
def qo (but:Int):List Nat→cZ→cZ×Int
 | [],st=>(st,0)
 | n::r,st=>if (n:Int)=but then qo but r st else if (eh st (qc (n:Int))).2=0 then qo but r (eh st (qc (n:Int))).1 else eh st (qc (n:Int))
noncomputable def qp (ns:List (List UInt8)):List Nat:=ns.filterMap qk
theorem qr {ns:List (List UInt8)}{k:Nat}(hk:k<ns.length):qp (ns.take (k+1))=qp (ns.take k)++(qk ns[k]).toList:=by
 unfold qp;rw[List.take_succ_eq_append_getElem hk,List.filterMap_append];cases h:qk ns[k]<;>simp[h]
theorem qs (ns:List (List UInt8)):(qp ns).length≤ns.length:=List.length_filterMap_le _ _
noncomputable def qt (st:cZ) (but:Int):cZ×Int:=if st.dark then (st,45) else qo but (qp (st.fs.map (·.name))) st
noncomputable def goes (but:Int) (f:cy):Bool:=match qk f.name with|some n=>decide ((n:Int)≠but)|none=>false
theorem qu:∀(A B:List UInt8) (n:Nat),A.length=B.length→(∀c∈A,kb c)→(∀c∈B,kb c)→vF n A=vF n B→A=B:=by
 intro A B n hl hA hB h;by_cases e:A=B
 ·exact e
 ·exfalso
  induction A generalizing B n with
  | nil=>cases B with
   | nil=>exact e rfl
   | cons b s=>simp at hl
  | cons a r ih=>cases B with
   | nil=>simp at hl
   | cons b s=>
    have ha:=hA a (by simp);have hb:=hB b (by simp);unfold kb at ha hb;have hl':r.length=s.length:=by simpa using hl
    have hA':∀c∈r,kb c:=λx hx=>hA x (by simp[hx]);have hB':∀c∈s,kb c:=λx hx=>hB x (by simp[hx]);have h':vF (n*10+(a.toNat-48)) r=vF (n*10+(b.toNat-48)) s:=h;have g1:=mT s hB' (n*10+(b.toNat-48));have g2:=mS r (n*10+(a.toNat-48));have g3:=mT r hA' (n*10+(a.toNat-48));have g4:=mS s (n*10+(b.toNat-48));rw[hl']at g2 g3
    rcases Nat.lt_trichotomy a.toNat b.toNat with hc|hc|hc
    ·have h3:(n*10+(a.toNat-48)+1)*p10 s.length≤(n*10+(b.toNat-48))*p10 s.length:=Nat.mul_le_mul_right _ (by omega)
     omega
    ·have e2:a=b:=UInt8.toNat_inj.1 hc
     subst e2;exact ih s _ hl' hA' hB' h' (λe3=>e (by rw[e3]))
    ·have h3:(n*10+(b.toNat-48)+1)*p10 s.length≤(n*10+(a.toNat-48))*p10 s.length:=Nat.mul_le_mul_right _ (by omega)
     omega
def qv (s:List UInt8):Option Nat:=
 if s.take 1=[110]∧s.length=11∧(s.drop 1).all (λc=>decide (48≤c.toNat) && decide (c.toNat≤57))=true∧vF 0 (s.drop 1)≤1048576 then some (vF 0 (s.drop 1)) else none
theorem qw (s:List UInt8):qv s=qk s:=by
 cases h:qk s with
 | some n=>
  obtain⟨hn,rfl⟩:=qm h;have hd:(qc (n:Int)).drop 1=bV (n:Int) 10:=by rw[qe n hn];rfl
  unfold qv;rw[hd,mQ,if_pos];refine⟨by rw[qe n hn];rfl,qf n hn,?_,hn⟩;rw[List.all_eq_true];intro c hc;have:=km n 10 c hc;unfold kb at this;simp[this.1,this.2]
 | none=>
  unfold qv;rw[if_neg];rintro⟨h1,h2,h3,h4⟩;refine qn.1 h ⟨vF 0 (s.drop 1),h4,?_⟩;have hs:s=110::s.drop 1:=by
   have:=List.take_append_drop 1 s;rw[h1]at this;exact this.symm
  rw[qe _ h4]
  conv=>lhs;rw[hs]
  congr 1;refine qu _ _ 0 ?_ (λc hc=>?_) (km _ 10) (by rw[mQ])
  ·rw[List.length_drop,h2,kp _ 9 (by omega)]
  ·rw[List.all_eq_true]at h3
   have:=h3 c hc;unfold kb;simpa using this
def qx (ns:List (List UInt8)):List Nat:=ns.filterMap qv
theorem qy (ns:List (List UInt8)):qx ns=qp ns:=by
 unfold qx qp;congr 1;funext s;exact qw s
def qA (st:cZ)(but:Int):cZ×Int:=if st.dark then (st,45) else qo but (qx (st.fs.map (·.name))) st
theorem qB (st:cZ)(but:Int):qA st but=qt st but:=by unfold qA qt;rw[qy]
example:qv [110,48,48,48,48,48,48,48,48,49,55]=some 17:=by decide +kernel
def qK (seq:Nat)(body:List UInt8):List UInt8:=Crc.seal_ ([115,110,112,49]++be 8 seq++be 4 body.length++body)
def qL:List UInt8:=[83,78,65,80,83,72,79,84,46,110,101,119]
def qM (r:cZ×Int):cZ×Int:=
 if r.2=44 then (if (eh r.1 qL).2=45 then eh r.1 qL else ((eh r.1 qL).1,44)) else r
def qN (st:cZ)(data name:List UInt8):cZ×Int:=
 if (eh st qL).2≠0∧(eh st qL).2≠5 then eh st qL else
 if (ee (eh st qL).1 qL).2≠0 then ee (eh st qL).1 qL else
 if (eR (ee (eh st qL).1 qL).1 qL data).2≠0 then eR (ee (eh st qL).1 qL).1 qL data else
 if (eD (eR (ee (eh st qL).1 qL).1 qL data).1 qL).2≠0 then eD (eR (ee (eh st qL).1 qL).1 qL data).1 qL else
 eL (eD (eR (ee (eh st qL).1 qL).1 qL data).1 qL).1 qL name
def qO (st:cZ)(seq:Int)(D:List UInt8×Int):cZ×Int:=if D.2≠0 then (st,D.2) else qM (qN st D.1 (qc seq))
def qP (c:Nat):List UInt8:=[UInt8.ofNat c,0,1,1,0,0,0,0,0,0,0,0,0]
def qQ (seq c:Nat):List UInt8:=qK seq (qP c)
end
end Go.Proofs.YthjjgcfdhkhelaaGreatDoor
