/- The walk of snap.Read, at any body. -/
import Derived.Test.YtaeakdichkhjaaaGreatDoorQAz
import Derived.Test.YtaeakdichkhjaaaGreatDoorQBb
import Derived.Test.YtaeakdichkhjaaaGreatDoorQAn
import Derived.Test.YtaeakdichkhjaaaGreatDoorQAy
import Derived.Test.YtaeakdichkhjaaaGreatDoorQAr
import Derived.Test.YtaeakdichkhjaaaGreatDoorQAi
set_option maxHeartbeats 8000000
open Go.Lib(hid)
namespace Go.Proofs.YtaeakdichkhjaaaGreatDoor
section
open Go.RowKit
structure VwLim (v:VwD):Prop where
 lo:v.open_.length≤4398046511104
 ll:v.lots.length≤4398046511104
 lp:v.poss.length≤4398046511104
 ln:v.lins.length≤4398046511104
 li:sP v.lins
set_option maxRecDepth 100000 in
theorem sR (F:Nat→Prop)(w:World)(v:VwV)(d:VwD)(L:VwLim d)(hat:VwAt F w v d) :
  Calls Tryz.prog 110 #[.agg (jd v)] w λe w'=>TB (j9 d) e∧Below w.heap.size w w':=by
 obtain⟨vo,vl,vp,vn⟩:=v;have h0:=hat.pure (ke w (.cells (jd ⟨vo,vl,vp,vn⟩) 35));have HO:=hid (sF F F _ vo vl d.open_ d.lots h0.o h0.l L.lo L.ll);have HP:=hid (λW hb=>sJ F W vp d.poss (h0.p.pure hb) L.lp);have HN:=hid (λW hb=>sQ F W vn d.lins (h0.n.pure hb) L.ln L.li);obtain⟨P,hP⟩:∃P,P=j9 d:=⟨_,rfl⟩;rw[← hP];have HPP:=hid hP;unfold j9 at HPP;clear hP h0 hat;unfold jd at HO HP HN ⊢;dsimp only at HO HP HN ⊢
 go_enter Tryz.func110,Tryz.ntmps110
 go_wp2_with fail
 refine HO.out.mono ?_;rintro e w1 ⟨h1,hb1⟩;have HB1:=hid hb1;have c2:=ka hb1 2 _ rfl;have c3:=ka hb1 3 _ rfl;clear hb1;by_cases hp1:jZ d.open_ d.lots;rotate_left
 ·have HNO:=hid (show ¬P from λh=>by rw[HPP.out]at h;exact hp1 h.1)
  obtain rfl:=h1.neg hp1;clear h1 hp1;go_wp2;go_ret;exact⟨TB.no HNO.out,kc HB1.out⟩
 obtain rfl:=h1.pos hp1;have HQ1:=hid hp1;clear h1 hp1;have HP1:=hid (HP.out w1 HB1.out)
 go_wp2_with fail
 refine HP1.out.mono ?_;rintro e w2 ⟨h2,hb2⟩;have HB2:=hid (HB1.out.trans (hb2.mono HB1.out.size));have d3:=(hb2.cell (p:=⟨w.heap.size,3,none⟩) (aA c3)).trans c3;clear hb2;by_cases hp2:j3 d.poss;rotate_left
 ·have HNO:=hid (show ¬P from λh=>by rw[HPP.out]at h;exact hp2 h.2.1)
  obtain rfl:=h2.neg hp2;clear h2 hp2;go_wp2;go_ret;exact⟨TB.no HNO.out,kc HB2.out⟩
 obtain rfl:=h2.pos hp2;have HQ2:=hid hp2;clear h2 hp2 c2 c3;have HN2:=hid (HN.out w2 HB2.out)
 go_wp2_with fail
 refine HN2.out.mono ?_;rintro e w3 ⟨⟨b,hb,rfl⟩,hb3⟩;have HB3:=hid (kc (HB2.out.trans (hb3.mono HB2.out.size)));have HX:=hid (show b=true↔P from by rw[HPP.out];exact hb.trans ⟨λh=>⟨HQ1.out,HQ2.out,h⟩,λh=>h.2.2⟩);clear hb hb3;go_wp2;go_ret;exact⟨⟨_,HX.out,rfl⟩,HB3.out⟩
theorem sS {α:Type}(one:RS→α×RS):∀(n:Nat) (acc:List α) (r:RS),(mj one n acc r).1.length≤acc.length+n
 | 0,acc,r=>by rw[mj];simp
 | n+1,acc,r=>by
  rw[mj]
  split
  ·simp
  ·refine Nat.le_trans (sS one n _ _) ?_
   rw[List.length_append,List.length_singleton];omega
theorem sT {α:Type}(one:RS→α×RS)(P:α→Prop)(h1:∀r,P (one r).1):∀(n:Nat) (acc:List α) (r:RS),(∀x∈acc,P x)→∀x∈(mj one n acc r).1,P x
 | 0,acc,r,h,x,hx=>by rw[mj]at hx;exact h x hx
 | n+1,acc,r,h,x,hx=>by
  rw[mj]at hx
  split at hx
  ·simp at hx
  ·refine sT one P h1 n _ _ (λy hy=>?_) x hx
   rcases List.mem_append.1 hy with hy|hy
   ·exact h y hy
   ·rw[List.mem_singleton]at hy;subst hy;exact h1 r
theorem sU {α:Type}(s:List UInt8)(one:RS→α×RS)(r:RS)(hs:s.length≤1048576):(r.list s one).1.length≤1048576:=by
 unfold RS.list;have h:=sS one (r.upTo s s.length).1.toNat [] (r.upTo s s.length).2;have hb:=nO s r s.length (by omega);simp only[List.length_nil]at h;omega
theorem sV {α:Type}(s:List UInt8)(one:RS→α×RS)(r:RS)(P:α→Prop)(h:∀r,P (one r).1):∀x∈(r.list s one).1,P x:=by
 unfold RS.list;exact sT one P h _ _ _ (λx hx=>by cases hx)
theorem sW (s:List UInt8)(r:RS):(r.text s).1.length≤24:=by
 unfold RS.text RdSt.text;have h:=nN s 24 r.st;dsimp only
 split
 ·simp
 ·split
  ·simp
  ·split
   ·simp
   ·exact Nat.le_trans (aP _ _ _) h
theorem sX (s:List UInt8)(r:RS):0≤(r.long s).1∧(r.long s).1≤4611686018427387904:=by
 unfold RS.long;exact nO s r 4611686018427387904 (by omega)
theorem sY (n:Int) : -9223372036854775808≤wrap64 n∧wrap64 n<9223372036854775808:=by unfold wrap64;omega
theorem sZ (s:List UInt8)(r:RS):(-9223372036854775808≤(mo s r).1.free∧(mo s r).1.free<9223372036854775808)∧(-9223372036854775808≤(mo s r).1.held∧(mo s r).1.held<9223372036854775808):=by
 unfold mo;dsimp only;have h1:=sX s ((r.upTo s 64).2.upTo s 16).2;have h2:=sX s (((r.upTo s 64).2.upTo s 16).2.long s).2;unfold lV
 split
 ·exact⟨sY _,by dsimp only;omega⟩
 ·dsimp only;omega
theorem s9 (s:List UInt8)(r:RS) : -9223372036854775808≤(mz s r).1.delta∧(mz s r).1.delta<9223372036854775808:=by
 unfold mz;dsimp only;have h1:=sX s ((((r.upTo s 64).2.long s).2).u8 s).2;unfold mc
 split
 ·rw[Int.tdiv_eq_ediv_of_nonneg h1.1];omega
 ·exact sY _
theorem ta {n:Nat}(h:n≤1048576):n≤4398046511104:=by omega
theorem tb {n:Nat}(h:n≤24):n≤140737488355328:=by omega
theorem tc {up:Nat→RS→Int×RS}{lg:RS→Int×RS}{ys:RS→Bool×RS}{ls:RS→List BidD×RS}{r:RS}(h:∀r,(ls r).1.length≤1048576):(oo up lg ys ls r).1.bids.length≤4398046511104:=ta (h _)
theorem td (s:List UInt8)(r:RS)(hs:s.length≤1048576):(mu s r).1.bids.length≤4398046511104:=by
 rw[oq];exact tc (λr=>sU s (mr s) r hs)
def tg (r:RowD):Prop:=(-9223372036854775808≤r.free∧r.free<9223372036854775808)∧(-9223372036854775808≤r.held∧r.held<9223372036854775808)
def th (x:LinD):Prop:=-9223372036854775808≤x.delta∧x.delta<9223372036854775808
theorem ti {lg:RS→Int×RS}{l1:RS→List AccD×RS}{l2:RS→List InsD×RS}{l3:RS→List RowD×RS}{l4:RS→List OrdD×RS}{l5:RS→List AucD×RS}{r:RS}
  (h1:∀r,(l1 r).1.length≤1048576) (h2:∀r,(l2 r).1.length≤1048576) (h3:∀r,(l3 r).1.length≤1048576) (h4:∀r,(l4 r).1.length≤1048576) (h5:∀r,(l5 r).1.length≤1048576)
  (h6:∀r,∀a∈(l5 r).1,a.bids.length≤4398046511104) (h7:∀r,∀a∈(l1 r).1,a.name.length≤140737488355328) (h8:∀r,∀a∈(l2 r).1,a.name.length≤140737488355328) (h9:∀r,∀x∈(l3 r).1,tg x):StLim (stG lg l1 l2 l3 l4 l5 r).1:=
 ⟨ta (h1 _),ta (h2 _),ta (h3 _),ta (h4 _),ta (h5 _),h6 _,h7 _,h8 _,h9 _⟩
theorem tj {l1:RS→List OpnD×RS}{l2:RS→List LotD×RS}{l3:RS→List PosD×RS}{l4:RS→List LinD×RS}{r:RS}
  (h1:∀r,(l1 r).1.length≤1048576) (h2:∀r,(l2 r).1.length≤1048576) (h3:∀r,(l3 r).1.length≤1048576) (h4:∀r,(l4 r).1.length≤1048576) (h5:∀r,∀x∈(l4 r).1,th x):VwLim (vwG l1 l2 l3 l4 r).1:=
 ⟨ta (h1 _),ta (h2 _),ta (h3 _),ta (h4 _),h5 _⟩
theorem tl (s:List UInt8)(r:RS):(ml s r).1.name.length≤140737488355328:=by
 unfold ml;exact tb (sW s r)
theorem tm (s:List UInt8)(r:RS):(mn s r).1.name.length≤140737488355328:=by
 unfold mn;exact tb (sW s r)
theorem tn (s:List UInt8)(r:RS)(hs:s.length≤1048576):StLim (stR s r).1:=by
 rw[ot];exact ti (λr=>sU s _ r hs) (λr=>sU s _ r hs) (λr=>sU s _ r hs) (λr=>sU s _ r hs) (λr=>sU s _ r hs)
  (λr=>sV s (mu s) r (λa=>a.bids.length≤4398046511104) (λr=>td s r hs)) (λr=>sV s (ml s) r (λa=>a.name.length≤140737488355328) (tl s))
  (λr=>sV s (mn s) r (λa=>a.name.length≤140737488355328) (tm s)) (λr=>sV s (mo s) r tg (sZ s))
theorem tp (s:List UInt8)(r:RS)(hs:s.length≤1048576):VwLim (vwR s r).1:=by
 rw[ou];exact tj (λr=>sU s _ r hs) (λr=>sU s _ r hs) (λr=>sU s _ r hs) (λr=>sU s _ r hs) (λr=>sV s (mz s) r th (s9 s))
def tq (w:World)(R:StD×VwD×Int)(e:Ending)(w':World):Prop:=
 (∃sv dv,e = .returned (.tuple #[.agg (jc R.1 sv),.agg (jd dv),.int .i64 R.2.2])∧StAt (λg=>w.heap.size≤g) w' sv R.1∧VwAt (λg=>w.heap.size≤g) w' dv R.2.1)∧Below w.heap.size w w'
theorem tr (w:World)(q:Nat):Below w.heap.size w (w.drewN q):=⟨rfl,rfl,rfl,Nat.le_refl _,λ_ _=>rfl⟩
theorem StAt.lt {F:Nat→Prop}{w:World}{v:StV}{s:StD}(h:StAt F w v s):StAt (λg=>F g∧g<w.heap.size) w v s:=
 ⟨h.a.lt (λ_=>⟨_,rfl⟩),h.i.lt (λ_=>⟨_,rfl⟩),h.r.lt (λ_=>⟨_,rfl⟩),h.o.lt (λ_=>⟨_,rfl⟩),by
  obtain⟨ms,e,h1,h2⟩:=h.u;exact⟨ms,e,h1.lt (λ_=>⟨_,rfl⟩),λm hm=>(h2 m hm).lt (λ_=>⟨_,rfl⟩)⟩⟩
theorem tt (F:Nat→Prop)(w:World):StAt F w ⟨.slice none 0 0,.slice none 0 0,.slice none 0 0,.slice none 0 0,.slice none 0 0⟩ mB:=⟨SlAt.nil w,SlAt.nil w,SlAt.nil w,SlAt.nil w,AucsAt.nil w⟩
theorem tu (F:Nat→Prop)(w:World):VwAt F w ⟨.slice none 0 0,.slice none 0 0,.slice none 0 0,.slice none 0 0⟩ mC:=⟨SlAt.nil w,SlAt.nil w,SlAt.nil w,SlAt.nil w⟩
theorem tw {w w':World}{R:StD×VwD×Int}(c:Int)(hR:R=(mB,mC,c))(hb:Below w.heap.size w w'):tq w R (.returned (.tuple #[.agg #[.int .i64 0,.int .i64 0,.int .i64 0,.int .i64 0,.slice none 0 0,.slice none 0 0,.slice none 0 0,.slice none 0 0,.slice none 0 0],.agg #[.slice none 0 0,.slice none 0 0,.slice none 0 0,.slice none 0 0],.int .i64 c])) w':=by
 subst hR;exact⟨⟨⟨.slice none 0 0,.slice none 0 0,.slice none 0 0,.slice none 0 0,.slice none 0 0⟩,⟨.slice none 0 0,.slice none 0 0,.slice none 0 0,.slice none 0 0⟩,rfl,tt _ _,tu _ _⟩,hb⟩
theorem tx {L:List UInt8}{RR:StD×VwD×Int}{S:StD}{V:VwD}{r1 r2:RS}{n:Nat}(h:RR=mE L)(hS:(S,r1)=stR L (mA 0))(hV:(V,r2)=vwR L r1)(hl:L.length≤1048556)(hn:L.length=n) :
  (r2.st.ended n=0∧r2.bad=false∧jW S∧j9 V→RR=(S,V,0))∧(¬(r2.st.ended n=0∧r2.bad=false∧jW S∧j9 V)→RR=(mB,mC,4)):=by
 unfold mE mD at h;rw[if_neg (by omega),← hS]at h;dsimp only at h;rw[← hV,hn]at h;dsimp only at h;subst h;exact⟨λh=>if_pos h,λh=>if_neg h⟩
set_option maxRecDepth 100000 in
theorem tz (w:World)(s:ByteArray)(h:1048556<s.size) :
  Calls Tryz.prog 71 #[.string s] w λe w'=>tq w (mE s.data.toList) e w':=by
 have HR:=hid (show mE s.data.toList=(mB,mC,40)from by unfold mE mD;rw[if_pos (by rw[nP];exact h)]);have hd:decide ((1048556:Int)<(s.size:Int))=true:=by simp;omega
 go_enter Tryz.func71,Tryz.ntmps71
 go_wp2;obtain⟨n,hn⟩:∃n,n=w.heap.size:=⟨_,rfl⟩;obtain⟨W0,hW0⟩:∃W0,W0=(w.alloc (.cells #[.int .i64 0,.int .i64 0,.int .i64 0,.int .i64 0,.slice none 0 0,.slice none 0 0,.slice none 0 0,.slice none 0 0,.slice none 0 0] 29)).alloc (.cells #[.slice none 0 0,.slice none 0 0,.slice none 0 0,.slice none 0 0] 35):=⟨_,rfl⟩;have hbel:Below w.heap.size w W0:=by rw[hW0];exact((Below.refl _ _).alloc (Nat.le_refl _) _).alloc (by simp) _
 have k0:W0.heap[n]?=some (.cells #[.int .i64 0,.int .i64 0,.int .i64 0,.int .i64 0,.slice none 0 0,.slice none 0 0,.slice none 0 0,.slice none 0 0,.slice none 0 0] 29 (0,0)):=by rw[hW0,hn];exact(Below.heap_alloc _ _ _ (by simp<;>omega)).trans (heap_alloc_new _ _)
 have k1:W0.heap[n+1]?=some (.cells #[.slice none 0 0,.slice none 0 0,.slice none 0 0,.slice none 0 0] 35 (0,0)):=by rw[hW0,hn];exact oN _ _ (by simp)
 rw[← hW0,← hn];clear hW0;obtain⟨o0,o1,o2,o3,o4,o5,o6,o7,o8⟩:=kq (k0);obtain⟨u0,u1,u2,u3⟩:=ku (k1);refine bodyPost_ret (v:=.tuple #[.agg #[.int .i64 0,.int .i64 0,.int .i64 0,.int .i64 0,.slice none 0 0,.slice none 0 0,.slice none 0 0,.slice none 0 0,.slice none 0 0],.agg #[.slice none 0 0,.slice none 0 0,.slice none 0 0,.slice none 0 0],.int .i64 40]) (by simp[results,Tryz.results71,go_sem,o0,o1,o2,o3,o4,o5,o6,o7,o8,u0,u1,u2,u3]) rfl ?_;exact tw 40 HR.out (by first|exact hbel|(rw[hn];exact hbel))
set_option maxRecDepth 100000 in
theorem tA (w:World)(s:ByteArray)(h:s.size≤1048556) :
  Calls Tryz.prog 71 #[.string s] w λe w'=>tq w (mE s.data.toList) e w':=by
 have hd:decide ((1048556:Int)<(s.size:Int))=false:=by simp;omega
 have HZ:=hid h;have LS:=hid (tn s.data.toList (mA 0) (by rw[nP];omega));obtain⟨⟨S,r1⟩,hS⟩:∃R,R=stR s.data.toList (mA 0):=⟨_,rfl⟩;have LV:=hid (tp s.data.toList r1 (by rw[nP];omega));have KG:=hid (λW q p (h:RrAt W q p s (mA 0))=>pv W q p s (mA 0) h (by omega));have KV:=hid (λW q p (h:RrAt W q p s r1)=>pw W q p s r1 h (by omega));obtain⟨⟨V,r2⟩,hV⟩:∃R,R=vwR s.data.toList r1:=⟨_,rfl⟩;rw[← hS]at KG LS;rw[← hV]at KV LV;dsimp only at KG KV LS LV;obtain⟨RR,hRR⟩:∃RR,RR=mE s.data.toList:=⟨_,rfl⟩;have HR:=hid (show(r2.st.ended s.size=0∧r2.bad=false∧jW S∧j9 V→RR=(S,V,0))∧(¬(r2.st.ended s.size=0∧r2.bad=false∧jW S∧j9 V)→RR=(mB,mC,4))from tx hRR hS hV (by rw[nP];omega) (nP s));rw[← hRR];clear hS hV hRR h
 go_enter Tryz.func71,Tryz.ntmps71
 go_wp2_with fail
 obtain⟨n,hn⟩:∃n,n=w.heap.size:=⟨_,rfl⟩;obtain⟨W0,hW0⟩:∃W0,W0=(w.alloc (.cells #[.int .i64 0,.int .i64 0,.int .i64 0,.int .i64 0,.slice none 0 0,.slice none 0 0,.slice none 0 0,.slice none 0 0,.slice none 0 0] 29)).alloc (.cells #[.slice none 0 0,.slice none 0 0,.slice none 0 0,.slice none 0 0] 35):=⟨_,rfl⟩;have hbel:Below w.heap.size w W0:=by rw[hW0];exact((Below.refl _ _).alloc (Nat.le_refl _) _).alloc (by simp) _
 have k0:W0.heap[n]?=some (.cells #[.int .i64 0,.int .i64 0,.int .i64 0,.int .i64 0,.slice none 0 0,.slice none 0 0,.slice none 0 0,.slice none 0 0,.slice none 0 0] 29 (0,0)):=by rw[hW0,hn];exact(Below.heap_alloc _ _ _ (by simp<;>omega)).trans (heap_alloc_new _ _)
 have k1:W0.heap[n+1]?=some (.cells #[.slice none 0 0,.slice none 0 0,.slice none 0 0,.slice none 0 0] 35 (0,0)):=by rw[hW0,hn];exact oN _ _ (by simp)
 have K0:=hid k0;have K1:=hid k1;have HB:=hid hbel;have HN:=hid hn;rw[← hW0,← hn];clear hW0 hn k0 k1 hbel;refine(aH s W0 (by have:=HZ.out;omega)).mono ?_;rintro e w1 ⟨rfl,hr1,hb1⟩;obtain⟨p,hp⟩:∃p,p=W0.heap.size:=⟨_,rfl⟩;rw[← hp]at hr1 ⊢;have hpl:=hr1.lt;have R1:=hid hr1;have B1:=hid hb1;clear hr1 hb1
 go_wp2_with fail
 obtain⟨q,hq⟩:∃q,q=w1.heap.size:=⟨_,rfl⟩;rw[← hp];obtain⟨W2,hW2⟩:∃W2,W2=w1.alloc (.cells #[.pointer (some ⟨p,0,none⟩),.int .i64 (s.size:Int),.bool false] 191):=⟨_,rfl⟩;have b2:Below w1.heap.size w1 W2:=by rw[hW2];exact(Below.refl _ _).alloc (Nat.le_refl _) _
 have g:RrAt W2 q p s (mA 0):=⟨by rw[hW2,hq];exact heap_alloc_new _ _,R1.out.kept (Fr.pure (S:=λ_=>False) b2) (λh=>h),by omega⟩;have B2:=hid (cx B1.out b2);rw[← hW2,← hq];have hql:=lt_of_block g.cell;have hpn:n+1<p:=by have:=lt_of_block K1.out;omega
 have hpq:p<q:=by omega
 have G:=hid g;clear hW2 b2 g hp hq hpl hql;refine(KG.out W2 q p G.out).mono ?_;rintro e w3 ⟨⟨sv,rfl,hst⟩,r3,f3⟩;have S3:=hid (hst.mono (G:=λg=>q<g) (λg hg=>by have:=lt_of_block G.out.cell;omega));obtain⟨s4,s5,s6,s7,s8⟩:=sv;obtain⟨sa4,sm4,sc4,rfl⟩:∃a m c,s4=Value.slice a m c:=by obtain⟨a,c,h⟩:=hst.a.shape;exact⟨a,_,c,h⟩
 obtain⟨sa5,sm5,sc5,rfl⟩:∃a m c,s5=Value.slice a m c:=by obtain⟨a,c,h⟩:=hst.i.shape;exact⟨a,_,c,h⟩
 obtain⟨sa6,sm6,sc6,rfl⟩:∃a m c,s6=Value.slice a m c:=by obtain⟨a,c,h⟩:=hst.r.shape;exact⟨a,_,c,h⟩
 obtain⟨sa7,sm7,sc7,rfl⟩:∃a m c,s7=Value.slice a m c:=by obtain⟨a,c,h⟩:=hst.o.shape;exact⟨a,_,c,h⟩
 obtain⟨sa8,sm8,sc8,rfl⟩:∃a m c,s8=Value.slice a m c:=by obtain⟨a,c,h⟩:=hst.u.shape;exact⟨a,_,c,h⟩
 have R3:=hid r3;have F3:=hid (show Fr (λk=>k=p∨k=q) W0 w3 from(Fr.pure B2.out).then f3 (λ_ _ e=>e));have hl3:=lt_of_block r3.cell;clear r3 f3 G hst;unfold jc;dsimp only
 go_wp2_with fail
 obtain⟨W4,hW4⟩:∃W4,W4=w3.alloc (.cells #[.int .i64 S.clock,.int .i64 S.fee,.int .i64 S.nextO,.int .i64 S.nextA,.slice sa4 sm4 sc4,.slice sa5 sm5 sc5,.slice sa6 sm6 sc6,.slice sa7 sm7 sc7,.slice sa8 sm8 sc8] 29):=⟨_,rfl⟩;have b4:Below w3.heap.size w3 W4:=by rw[hW4];exact(Below.refl _ _).alloc (Nat.le_refl _) _
 have R4:=hid (R3.out.pure b4);have F4:=hid (F3.out.andPure b4);have S4:=hid (S3.out.pure b4);have K4:=hid (show W4.heap[w3.heap.size]?=some (.cells #[.int .i64 S.clock,.int .i64 S.fee,.int .i64 S.nextO,.int .i64 S.nextA,.slice sa4 sm4 sc4,.slice sa5 sm5 sc5,.slice sa6 sm6 sc6,.slice sa7 sm7 sc7,.slice sa8 sm8 sc8] 29 (0,0))from by rw[hW4];exact heap_alloc_new _ _);rw[← hW4];clear hW4 b4 R3 F3 S3;refine(KV.out W4 q p R4.out).mono ?_;rintro e w5 ⟨⟨dv,rfl,hvt⟩,r5,f5⟩;have V5:=hid (hvt.mono (G:=λg=>q<g) (λg hg=>by have:=lt_of_block R4.out.cell;omega));obtain⟨d0,d1,d2,d3⟩:=dv;obtain⟨da0,dm0,dc0,rfl⟩:∃a m c,d0=Value.slice a m c:=by obtain⟨a,c,h⟩:=hvt.o.shape;exact⟨a,_,c,h⟩
 obtain⟨da1,dm1,dc1,rfl⟩:∃a m c,d1=Value.slice a m c:=by obtain⟨a,c,h⟩:=hvt.l.shape;exact⟨a,_,c,h⟩
 obtain⟨da2,dm2,dc2,rfl⟩:∃a m c,d2=Value.slice a m c:=by obtain⟨a,c,h⟩:=hvt.p.shape;exact⟨a,_,c,h⟩
 obtain⟨da3,dm3,dc3,rfl⟩:∃a m c,d3=Value.slice a m c:=by obtain⟨a,c,h⟩:=hvt.n.shape;exact⟨a,_,c,h⟩
 have R5:=hid r5;have hl5:=lt_of_block r5.cell;have F5:=hid (F4.out.trans f5);have S5:=hid (S4.out.kept f5 (λg hg e=>by omega));have hmp:w3.heap.size≠p:=by omega
 have hmq:w3.heap.size≠q:=by omega
 have K5:=hid (f5.heapAt K4.out (by omega));have hlm:=lt_of_block K5.out;obtain⟨x0,x1,x2⟩:=r5.cs;clear r5 f5 R4 F4 K4 S4 hvt;unfold jd;dsimp only
 go_wp2_with fail
 obtain⟨W6,hW6⟩:∃W6,W6=w5.alloc (.cells #[.slice da0 dm0 dc0,.slice da1 dm1 dc1,.slice da2 dm2 dc2,.slice da3 dm3 dc3] 35):=⟨_,rfl⟩;have b6:Below w5.heap.size w5 W6:=by rw[hW6];exact(Below.refl _ _).alloc (Nat.le_refl _) _
 have R6:=hid (R5.out.pure b6);have F6:=hid (F5.out.andPure b6);have S6:=hid (S5.out.pure b6);have V6x:=hid (V5.out.pure b6);have K6:=hid ((b6.block _ hlm).trans K5.out);have V6:=hid (show W6.heap[w5.heap.size]?=some (.cells #[.slice da0 dm0 dc0,.slice da1 dm1 dc1,.slice da2 dm2 dc2,.slice da3 dm3 dc3] 35 (0,0))from by rw[hW6];exact heap_alloc_new _ _);rw[← hW6];clear hW6 b6 R5 F5 K5 S5 V5 x0 x1 x2;refine(aX W6 p s _ R6.out.rd).mono ?_;rintro e w7 ⟨rfl,nn,rfl⟩;obtain⟨W7,hW7⟩:∃W7,W7=W6.drewN nn:=⟨_,rfl⟩;have R7:=hid (show RrAt W7 q p s r2 from by rw[hW7];exact R6.out.drewN nn);have F7:=hid (show Fr (λk=>k=p∨k=q) W0 W7 from by rw[hW7];exact F6.out.drewN nn);have K7:=hid (show W7.heap[w3.heap.size]?=some (.cells #[.int .i64 S.clock,.int .i64 S.fee,.int .i64 S.nextO,.int .i64 S.nextA,.slice sa4 sm4 sc4,.slice sa5 sm5 sc5,.slice sa6 sm6 sc6,.slice sa7 sm7 sc7,.slice sa8 sm8 sc8] 29 (0,0))from by rw[hW7];exact K6.out);have V7:=hid (show W7.heap[w5.heap.size]?=some (.cells #[.slice da0 dm0 dc0,.slice da1 dm1 dc1,.slice da2 dm2 dc2,.slice da3 dm3 dc3] 35 (0,0))from by rw[hW7];exact V6.out);have b7:Below W6.heap.size W6 W7:=by rw[hW7];exact tr _ _
 have S7:=hid (S6.out.pure b7);have V7x:=hid (V6x.out.pure b7);rw[← hW7];obtain⟨_,_,x2⟩:=R7.out.cs;have P7:=hid (F7.out.heapAt K0.out (by omega));have Q7:=hid (F7.out.heapAt K1.out (by omega));have hmn:n+1<w3.heap.size:=by omega
 have hmn2:n+1<w5.heap.size:=by omega
 have hl7:n+1<W7.heap.size:=lt_of_block Q7.out;clear hW7 R6 F6 K6 V6 S6 V6x b7;have BASE:=hid (show ∀Wf,Fr (λk=>k=n∨k=n+1) W7 Wf→Below w.heap.size w Wf from λWf hf=>by
  have hnw:=HN.out;exact HB.out.trans ((F7.out.below (B:=w.heap.size) HB.out.size (λk hk e=>by omega)).trans (hf.below (B:=w.heap.size) (by have:=HB.out.size;have:=F7.out.size;omega) (λk hk e=>by omega))))
 by_cases hend:r2.st.ended s.size=0;rotate_left
 ·have hq1:(r2.st.ended s.size == 0)=false:=by simpa using hend
  have hq2:(r2.st.ended s.size != 0)=true:=by simpa using hend
  have HNO:=hid (HR.out.2 (λh=>hend h.1));clear hend;obtain⟨p0,pf0,p1,pf1,p2,pf2,p3,pf3,p4,pf4,p5,pf5,p6,pf6,p7,pf7,p8,pf8⟩:=kr (P7.out);obtain⟨q0,qf0,q1,qf1,q2,qf2,q3,qf3⟩:=kw (Q7.out);go_wp2;obtain⟨Wf,hWf,FA⟩:=kB P7.out Q7.out (.int .i64 0) (.int .i64 0) (.int .i64 0) (.int .i64 0) (.slice none 0 0) (.slice none 0 0) (.slice none 0 0) (.slice none 0 0) (.slice none 0 0) (.slice none 0 0) (.slice none 0 0) (.slice none 0 0) (.slice none 0 0);rw[← hWf];clear hWf;have hfr:=FA.fr;refine bodyPost_ret (v:=.tuple #[.agg #[.int .i64 0,.int .i64 0,.int .i64 0,.int .i64 0,.slice none 0 0,.slice none 0 0,.slice none 0 0,.slice none 0 0,.slice none 0 0],.agg #[.slice none 0 0,.slice none 0 0,.slice none 0 0,.slice none 0 0],.int .i64 4]) (by simp[results,Tryz.results71,go_sem,FA.s0,FA.s1,FA.s2,FA.s3,FA.s4,FA.s5,FA.s6,FA.s7,FA.s8,FA.t0,FA.t1,FA.t2,FA.t3]) rfl ?_;exact tw 4 (HNO.out) (BASE.out _ hfr)
 have hq1:(r2.st.ended s.size == 0)=true:=by simpa using hend
 have hq2:(r2.st.ended s.size != 0)=false:=by simpa using hend
 have HE:=hid hend;clear hend;by_cases hbad:r2.bad=true
 ·rw[hbad]at x2
  have HNO:=hid (HR.out.2 (λh=>by rw[h.2.1]at hbad;cases hbad));clear hbad;obtain⟨p0,pf0,p1,pf1,p2,pf2,p3,pf3,p4,pf4,p5,pf5,p6,pf6,p7,pf7,p8,pf8⟩:=kr (P7.out);obtain⟨q0,qf0,q1,qf1,q2,qf2,q3,qf3⟩:=kw (Q7.out);go_wp2;obtain⟨Wf,hWf,FA⟩:=kB P7.out Q7.out (.int .i64 0) (.int .i64 0) (.int .i64 0) (.int .i64 0) (.slice none 0 0) (.slice none 0 0) (.slice none 0 0) (.slice none 0 0) (.slice none 0 0) (.slice none 0 0) (.slice none 0 0) (.slice none 0 0) (.slice none 0 0);rw[← hWf];clear hWf;have hfr:=FA.fr;refine bodyPost_ret (v:=.tuple #[.agg #[.int .i64 0,.int .i64 0,.int .i64 0,.int .i64 0,.slice none 0 0,.slice none 0 0,.slice none 0 0,.slice none 0 0,.slice none 0 0],.agg #[.slice none 0 0,.slice none 0 0,.slice none 0 0,.slice none 0 0],.int .i64 4]) (by simp[results,Tryz.results71,go_sem,FA.s0,FA.s1,FA.s2,FA.s3,FA.s4,FA.s5,FA.s6,FA.s7,FA.s8,FA.t0,FA.t1,FA.t2,FA.t3]) rfl ?_;exact tw 4 (HNO.out) (BASE.out _ hfr)
 have hbad2:r2.bad=false:=by simpa using hbad
 rw[hbad2]at x2;have HBD:=hid hbad2;clear hbad hbad2;obtain⟨kx0,kx1,kx2,kx3,kx4,kx5,kx6,kx7,kx8⟩:=kq (K7.out)
 go_wp2_with fail
 refine(show Calls Tryz.prog 109 #[.agg #[.int .i64 S.clock,.int .i64 S.fee,.int .i64 S.nextO,.int .i64 S.nextA,.slice sa4 sm4 sc4,.slice sa5 sm5 sc5,.slice sa6 sm6 sc6,.slice sa7 sm7 sc7,.slice sa8 sm8 sc8]] W7 _ from su (λg=>q<g∧g<W7.heap.size) W7 ⟨.slice sa4 sm4 sc4,.slice sa5 sm5 sc5,.slice sa6 sm6 sc6,.slice sa7 sm7 sc7,.slice sa8 sm8 sc8⟩ S LS.out S7.out.lt (λg hg=>hg.2)).mono ?_;rintro e w8 ⟨hst8,hb8⟩;have B8:=hid hb8;clear hb8 x2 kx0 kx1 kx2 kx3 kx4 kx5 kx6 kx7 kx8;have hl8:W7.heap.size≤w8.heap.size:=B8.out.size;by_cases hsto:jW S;rotate_left
 ·obtain rfl:=hst8.neg hsto
  have HNO:=hid (HR.out.2 (λh=>hsto h.2.2.1));have P8:=hid ((B8.out.block _ (lt_of_block P7.out)).trans P7.out);have Q8:=hid ((B8.out.block _ (lt_of_block Q7.out)).trans Q7.out);clear hsto hst8;obtain⟨p0,pf0,p1,pf1,p2,pf2,p3,pf3,p4,pf4,p5,pf5,p6,pf6,p7,pf7,p8,pf8⟩:=kr (P8.out);obtain⟨q0,qf0,q1,qf1,q2,qf2,q3,qf3⟩:=kw (Q8.out);go_wp2;obtain⟨Wf,hWf,FA⟩:=kB P8.out Q8.out (.int .i64 0) (.int .i64 0) (.int .i64 0) (.int .i64 0) (.slice none 0 0) (.slice none 0 0) (.slice none 0 0) (.slice none 0 0) (.slice none 0 0) (.slice none 0 0) (.slice none 0 0) (.slice none 0 0) (.slice none 0 0);rw[← hWf];clear hWf;have hfr:=FA.fr;refine bodyPost_ret (v:=.tuple #[.agg #[.int .i64 0,.int .i64 0,.int .i64 0,.int .i64 0,.slice none 0 0,.slice none 0 0,.slice none 0 0,.slice none 0 0,.slice none 0 0],.agg #[.slice none 0 0,.slice none 0 0,.slice none 0 0,.slice none 0 0],.int .i64 4]) (by simp[results,Tryz.results71,go_sem,FA.s0,FA.s1,FA.s2,FA.s3,FA.s4,FA.s5,FA.s6,FA.s7,FA.s8,FA.t0,FA.t1,FA.t2,FA.t3]) rfl ?_;exact tw 4 (HNO.out) (BASE.out _ ((Fr.pure B8.out).trans hfr))
 obtain rfl:=hst8.pos hsto;have HSO:=hid hsto;clear hsto hst8;have V8:=hid ((B8.out.block _ (lt_of_block V7.out)).trans V7.out);obtain⟨y0,y1,y2,y3⟩:=ku (V8.out)
 go_wp2_with fail
 refine(show Calls Tryz.prog 110 #[.agg #[.slice da0 dm0 dc0,.slice da1 dm1 dc1,.slice da2 dm2 dc2,.slice da3 dm3 dc3]] w8 _ from sR (λg=>q<g) w8 ⟨.slice da0 dm0 dc0,.slice da1 dm1 dc1,.slice da2 dm2 dc2,.slice da3 dm3 dc3⟩ V LV.out (V7x.out.pure B8.out)).mono ?_;rintro e w9 ⟨hvt9,hb9⟩;have B9:=hid (cx B8.out hb9);clear hb9 y0 y1 y2 y3;have K9:=hid ((B9.out.block _ (lt_of_block K7.out)).trans K7.out);have V9:=hid ((B9.out.block _ (lt_of_block V7.out)).trans V7.out);have P9:=hid ((B9.out.block _ (lt_of_block P7.out)).trans P7.out);have Q9:=hid ((B9.out.block _ (lt_of_block Q7.out)).trans Q7.out);have hl9:W7.heap.size≤w9.heap.size:=B9.out.size;by_cases hvwo:j9 V;rotate_left
 ·obtain rfl:=hvt9.neg hvwo
  have HNO:=hid (HR.out.2 (λh=>hvwo h.2.2.2));clear hvwo hvt9;obtain⟨p0,pf0,p1,pf1,p2,pf2,p3,pf3,p4,pf4,p5,pf5,p6,pf6,p7,pf7,p8,pf8⟩:=kr (P9.out);obtain⟨q0,qf0,q1,qf1,q2,qf2,q3,qf3⟩:=kw (Q9.out);go_wp2;obtain⟨Wf,hWf,FA⟩:=kB P9.out Q9.out (.int .i64 0) (.int .i64 0) (.int .i64 0) (.int .i64 0) (.slice none 0 0) (.slice none 0 0) (.slice none 0 0) (.slice none 0 0) (.slice none 0 0) (.slice none 0 0) (.slice none 0 0) (.slice none 0 0) (.slice none 0 0);rw[← hWf];clear hWf;have hfr:=FA.fr;refine bodyPost_ret (v:=.tuple #[.agg #[.int .i64 0,.int .i64 0,.int .i64 0,.int .i64 0,.slice none 0 0,.slice none 0 0,.slice none 0 0,.slice none 0 0,.slice none 0 0],.agg #[.slice none 0 0,.slice none 0 0,.slice none 0 0,.slice none 0 0],.int .i64 4]) (by simp[results,Tryz.results71,go_sem,FA.s0,FA.s1,FA.s2,FA.s3,FA.s4,FA.s5,FA.s6,FA.s7,FA.s8,FA.t0,FA.t1,FA.t2,FA.t3]) rfl ?_;exact tw 4 (HNO.out) (BASE.out _ ((Fr.pure B9.out).trans hfr))
 obtain rfl:=hvt9.pos hvwo;have HYES:=hid (HR.out.1 ⟨HE.out,HBD.out,HSO.out,hvwo⟩);clear hvwo hvt9;obtain⟨x0,x1,x2,x3,x4,x5,x6,x7,x8⟩:=kq (K9.out);obtain⟨y0,y1,y2,y3⟩:=ku (V9.out);obtain⟨p0,pf0,p1,pf1,p2,pf2,p3,pf3,p4,pf4,p5,pf5,p6,pf6,p7,pf7,p8,pf8⟩:=kr (P9.out);obtain⟨q0,qf0,q1,qf1,q2,qf2,q3,qf3⟩:=kw (Q9.out);go_wp2
 go_region
 go_wp2;obtain⟨Wf,hWf,FA⟩:=kB P9.out Q9.out (.int .i64 S.clock) (.int .i64 S.fee) (.int .i64 S.nextO) (.int .i64 S.nextA) (.slice sa4 sm4 sc4) (.slice sa5 sm5 sc5) (.slice sa6 sm6 sc6) (.slice sa7 sm7 sc7) (.slice sa8 sm8 sc8) (.slice da0 dm0 dc0) (.slice da1 dm1 dc1) (.slice da2 dm2 dc2) (.slice da3 dm3 dc3);rw[← hWf];clear hWf;have FA:=FA.drew;have hfr:=FA.fr;refine bodyPost_ret (v:=.tuple #[.agg #[.int .i64 S.clock,.int .i64 S.fee,.int .i64 S.nextO,.int .i64 S.nextA,.slice sa4 sm4 sc4,.slice sa5 sm5 sc5,.slice sa6 sm6 sc6,.slice sa7 sm7 sc7,.slice sa8 sm8 sc8],.agg #[.slice da0 dm0 dc0,.slice da1 dm1 dc1,.slice da2 dm2 dc2,.slice da3 dm3 dc3],.int .i64 0]) (by simp[results,Tryz.results71,go_sem,FA.s0,FA.s1,FA.s2,FA.s3,FA.s4,FA.s5,FA.s6,FA.s7,FA.s8,FA.t0,FA.t1,FA.t2,FA.t3]) rfl ?_;rw[HYES.out];have hnw:=HN.out;refine⟨⟨⟨.slice sa4 sm4 sc4,.slice sa5 sm5 sc5,.slice sa6 sm6 sc6,.slice sa7 sm7 sc7,.slice sa8 sm8 sc8⟩,⟨.slice da0 dm0 dc0,.slice da1 dm1 dc1,.slice da2 dm2 dc2,.slice da3 dm3 dc3⟩,rfl,?_,?_⟩,BASE.out _ ((Fr.pure B9.out).trans hfr)⟩
 ·exact((S7.out.pure B9.out).kept hfr (λg hg e=>by omega)).mono (λg hg=>by have hg:q<g:=hg;omega)
 ·exact((V7x.out.pure B9.out).kept hfr (λg hg e=>by omega)).mono (λg hg=>by have hg:q<g:=hg;omega)
theorem tB (w:World)(s:ByteArray) :
  Calls Tryz.prog 71 #[.string s] w λe w'=>tq w (mE s.data.toList) e w':=by
 by_cases h:1048556<s.size
 ·exact tz w s h
 ·exact tA w s (by omega)
end
end Go.Proofs.YtaeakdichkhjaaaGreatDoor
