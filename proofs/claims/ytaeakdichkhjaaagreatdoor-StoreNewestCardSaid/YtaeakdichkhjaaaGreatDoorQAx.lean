/- The walk of held, at any state. -/
import Derived.Test.YtaeakdichkhjaaaGreatDoorQAw
import Derived.RangeFuncBound
import Derived.RangeFuncCalls
import Derived.Shelf.Abstract
import Derived.Shelf.RegionOpen
import Derived.OwnWalkIn
import Derived.TacticsInMore
import Derived.LoopNIn
import Derived.LoopIn
import Derived.BigRegionIn
import Derived.Sort.CutIn
import Derived.Carry
import Derived.Test.YtaeakdichkhjaaaGreatDoorQAc
import Derived.Test.YtaeakdichkhjaaaGreatDoorQAt
import Derived.Maps.OwnSet
import Derived.Sort.QuietIn
set_option maxHeartbeats 8000000
open Go.Lib(hid)
namespace Go.Proofs.YtaeakdichkhjaaaGreatDoor
section
open Go.RowKit
set_option maxRecDepth 100000 in
theorem rN (F:Nat→Prop)(w:World)(sv:Value)(l:List AucD)(h:AucsAt F w sv l)(hlen:l.length≤4398046511104)(hbl:∀a∈l,a.bids.length≤4398046511104) :
  Calls Tryz.prog 295 #[sv] w λe w'=>TB (jK l) e∧Below w.heap.size w w':=by
 obtain⟨a0,c0,rfl⟩:=h.shape;have HX:=hid h;have HBL:=hid hbl;clear h hbl
 go_enter Tryz.func295,Tryz.ntmps295
 go_wp2
 go_loopw [3,8] (λla i wr=>∃(k:Nat) (last:Int),i = .int .i64 (k:Int)∧la = .int .i64 last∧k≤l.length∧Hid (Below w.heap.size w wr)∧Hid (jJ 0 l↔jJ last (l.drop k))) (λ_ i _=>l.length-(intOf i).toNat)
 case atStart=>exact⟨0,0,rfl,rfl,by omega,hid (Below.refl _ _),hid Iff.rfl⟩
 case round=>
  obtain⟨k,last,rfl,rfl,hk,HB,HI⟩:=hrel;by_cases hlt:k<l.length
  ·obtain⟨b,o,bv,rfl,hF,hbl,hbids,g0,g1,g2,g3,g4,g5,g6,g7,g8⟩:=AucsAt.at (HX.out.pure HB.out) k hlt
   obtain⟨a,ha⟩:∃a,a=l[k]:=⟨_,rfl⟩;obtain⟨b0,bc,rfl⟩:=hbids.shape;rw[← ha]at hbids g0 g1 g2 g3 g4 g5 g6 g7 g8;have hal:a.bids.length≤4398046511104:=by rw[ha];exact HBL.out _ (List.getElem_mem hlt)
   have HST:=hid (show jK l↔(last<a.id∧jI a∧jJ a.id (l.drop (k+1)))∧l.length≤32 from by
    unfold jK;rw[HI.out,List.drop_eq_getElem_cons hlt,← ha];exact Iff.rfl)
   have HIN:=hid (show jJ 0 l↔last<a.id∧jI a∧jJ a.id (l.drop (k+1))from by
    rw[HI.out,List.drop_eq_getElem_cons hlt,← ha];exact Iff.rfl)
   have HMY:=hid (rM F (wr.alloc (.cells (ry a (.slice b0 a.bids.length bc)) 68)) a _ (hbids.pure (ke _ _)) hal);unfold ry AucD.agg at HMY;clear hF ha hbids;by_cases hidq:a.id≤last
   ·have hno:¬jK l:=λh=>by have:=(HST.out.1 h).1.1;omega
    have HNO:=hid hno;clear hno;go_wp2;go_ret;exact⟨TB.no HNO.out,(by repeat (first|exact Below.refl _ _|exact HB.out|refine Below.drew ?_|refine Below.alloc ?_ (by first|exact Nat.le_refl _|exact HB.out.size|(simp;done)|(simp;omega)|omega|(have:=HB.out.size;simp;omega)) _|refine Below.setCell ?_ (by first|exact Nat.le_refl _|exact HB.out.size|(simp;done)|(simp;omega)|omega|(have:=HB.out.size;simp;omega)) _))⟩
   ·go_wp2_with fail
    refine HMY.out.mono ?_;rintro e w2 ⟨⟨bb,hbb,rfl⟩,hb2⟩;have HX2:=hid hbb;have c0':=ka hb2 0 _ rfl;have HB2:=hid (kd HB.out (kc hb2));clear hbb hb2;cases bb
    ·have hno:¬jK l:=λh=>by have:=HX2.out.2 (HST.out.1 h).1.2.1;cases this
     have HNO:=hid hno;clear hno;go_wp2;go_ret;exact⟨TB.no HNO.out,HB2.out⟩
    ·have HNX:=hid (show jJ 0 l↔jJ a.id (l.drop (k+1))from HIN.out.trans ⟨λh=>h.2.2,λh=>⟨by omega,HX2.out.1 (by first|rfl|trivial),h⟩⟩)
     go_wp2
     go_roundw
     case rel=>exact⟨k+1,a.id,by go_num,rfl,by omega,HB2,HNX⟩
     case measure=>simp[intOf];omega
  ·have hkl:k=l.length:=by omega
   have hgo:jJ 0 l:=HI.out.2 (by rw[hkl,List.drop_length];trivial);have HQ:=hid (show jK l↔l.length≤32 from⟨λh=>h.2,λh=>⟨hgo,h⟩⟩);clear hgo;by_cases h32:l.length≤32
   ·have HY:=hid (HQ.out.2 h32)
    have g:(l.length:Int)≤32:=by omega
    go_wp2;go_ret;exact⟨TB.yes HY.out,HB.out⟩
   ·have HN:=hid (show ¬jK l from λh=>h32 (HQ.out.1 h))
    have g:¬(l.length:Int)≤32:=by omega
    go_wp2;go_ret;exact⟨TB.no HN.out,HB.out⟩
set_option maxRecDepth 100000 in
theorem rO (F:Nat→Prop)(w:World)(B:Nat)(v:StV)(s:StD)(h:StBox F w B v s)(x:BidD) :
  Calls Tryz.prog 292 #[x.agg,.pointer (some ⟨B,0,none⟩)] w λe w'=>TB (¬jp s.accts x.acct) e∧Below w.heap.size w w':=by
 have HO:=hid (λW (hb:Below w.heap.size w W)=>kk F W v s (h.at_.pure hb) h.la x.acct);obtain⟨va,vi,vr,vo,vu⟩:=v;have H:=hid h;clear h;unfold BidD.agg;unfold jc at HO;have x0:w.cell? ⟨B,0,none⟩=some (.int .i64 s.clock):=H.out.cs 0 _ rfl;have x1:w.cell? ⟨B,1,none⟩=some (.int .i64 s.fee):=H.out.cs 1 _ rfl;have x2:w.cell? ⟨B,2,none⟩=some (.int .i64 s.nextO):=H.out.cs 2 _ rfl;have x3:w.cell? ⟨B,3,none⟩=some (.int .i64 s.nextA):=H.out.cs 3 _ rfl;have x4:w.cell? ⟨B,4,none⟩=some va:=H.out.cs 4 _ rfl;have x5:w.cell? ⟨B,5,none⟩=some vi:=H.out.cs 5 _ rfl;have x6:w.cell? ⟨B,6,none⟩=some vr:=H.out.cs 6 _ rfl;have x7:w.cell? ⟨B,7,none⟩=some vo:=H.out.cs 7 _ rfl;have x8:w.cell? ⟨B,8,none⟩=some vu:=H.out.cs 8 _ rfl;have hBl:B<w.heap.size:=aA x0
 go_enter Tryz.func292,Tryz.ntmps292
 go_wp2_with fail
 refine(HO.out _ (ke _ _)).mono ?_;rintro e w1 ⟨⟨b,hb,rfl⟩,hb1⟩;have HB:=hid (kc hb1);have HX:=hid hb;clear hb1 hb;cases b
 ·go_wp2
  go_ret;exact⟨TB.yes (λh=>by have:=HX.out.2 h;cases this),HB.out⟩
 ·go_wp2
  go_ret;exact⟨TB.no (not_not_intro (HX.out.1 (by first|rfl|trivial))),HB.out⟩
set_option maxRecDepth 100000 in
theorem rP (F:Nat→Prop)(w:World)(B:Nat)(v:StV)(s:StD)(h:StBox F w B v s)(a:AucD)(bv:Value)(hbv:BidsAt F w bv a.bids)(hlen:a.bids.length≤4398046511104) :
  Calls Tryz.prog 291 #[a.agg bv,.pointer (some ⟨B,0,none⟩)] w λe w'=>TB (¬jL s a) e∧Below w.heap.size w w':=by
 have HO:=hid (λW (hb:Below w.heap.size w W)=>kk F W v s (h.at_.pure hb) h.la a.seller);have HT:=hid (λW (hb:Below w.heap.size w W)=>kp F W v s (h.at_.pure hb) h.li a.inst);have HC:=hid (λW (hb:Below w.heap.size w W)=>nt W F bv a.bids (hbv.pure hb) hlen 292 (.pointer (some ⟨B,0,none⟩)) (enters_of Tryz.func292 (by kernel_rfl) rfl) (λx=>tf (¬jp s.accts x.acct)) (λW2 k hk hb2=>(rO F W2 B v s ((h.pure hb).pure hb2) a.bids[k]).mono (by rintro e w' ⟨h1,h2⟩;exact⟨h1.tf,h2⟩)));have hmf:∀(fn:Fn) (first cap:Array Value) (w:World),(Instr.makeFunc fn first cap).run Tryz.prog w = .ok (.func fn first cap) w:=λ_ _ _ _=>rfl;obtain⟨va,vi,vr,vo,vu⟩:=v;have H:=hid h;clear h hbv;unfold AucD.agg;unfold jc at HO HT;have x0:w.cell? ⟨B,0,none⟩=some (.int .i64 s.clock):=H.out.cs 0 _ rfl;have x1:w.cell? ⟨B,1,none⟩=some (.int .i64 s.fee):=H.out.cs 1 _ rfl;have x2:w.cell? ⟨B,2,none⟩=some (.int .i64 s.nextO):=H.out.cs 2 _ rfl;have x3:w.cell? ⟨B,3,none⟩=some (.int .i64 s.nextA):=H.out.cs 3 _ rfl;have x4:w.cell? ⟨B,4,none⟩=some va:=H.out.cs 4 _ rfl;have x5:w.cell? ⟨B,5,none⟩=some vi:=H.out.cs 5 _ rfl;have x6:w.cell? ⟨B,6,none⟩=some vr:=H.out.cs 6 _ rfl;have x7:w.cell? ⟨B,7,none⟩=some vo:=H.out.cs 7 _ rfl;have x8:w.cell? ⟨B,8,none⟩=some vu:=H.out.cs 8 _ rfl;have hBl:B<w.heap.size:=aA x0;by_cases hidq:s.nextA≤a.id
 ·have hno:¬jL s a:=λh=>by have:=h.1;omega
  have HNO:=hid hno;clear hno
  go_enter Tryz.func291,Tryz.ntmps291
  go_wp2;go_ret;exact⟨TB.yes HNO.out,ke _ _⟩
 go_enter Tryz.func291,Tryz.ntmps291
 go_wp2_with fail
 refine(HO.out _ (ke _ _)).mono ?_;rintro e w1 ⟨⟨b1,hb,rfl⟩,hb1⟩;have HX1:=hid hb;have HB1:=hid (kc hb1);have r2:=ka hb1 2 _ rfl;have r8:=ka hb1 8 _ rfl;have hnl:w.heap.size<w1.heap.size:=aA r2;have y:=λj u (h:w.cell? ⟨B,j,none⟩=some u)=>(HB1.out.cell (p:=⟨B,j,none⟩) hBl).trans h;have z0:=y 0 _ x0;have z1:=y 1 _ x1;have z2:=y 2 _ x2;have z3:=y 3 _ x3;have z4:=y 4 _ x4;have z5:=y 5 _ x5;have z6:=y 6 _ x6;have z7:=y 7 _ x7;have z8:=y 8 _ x8;clear hb hb1 y;cases b1
 ·have hno:¬jL s a:=λh=>by have:=HX1.out.2 h.2.1;cases this
  have HNO:=hid hno;clear hno;go_wp2;go_ret;exact⟨TB.yes HNO.out,HB1.out⟩
 go_wp2_with fail
 refine(HT.out _ HB1.out).mono ?_;rintro e w2 ⟨⟨b2,hb,rfl⟩,hb2⟩;have HX2:=hid hb;have HB2:=hid (kd HB1.out hb2);have t8:=(hb2.cell (p:=⟨w.heap.size,8,none⟩) hnl).trans r8;clear hb hb2;cases b2
 ·have hno:¬jL s a:=λh=>by have:=HX2.out.2 h.2.2.1;cases this
  have HNO:=hid hno;clear hno;go_wp2;go_ret;exact⟨TB.yes HNO.out,HB2.out⟩
 go_wp2_with fail
 refine(HC.out _ HB2.out).mono ?_;rintro e w3 ⟨rfl,hb3⟩;have HB3:=hid (kd HB2.out hb3);clear hb3;cases hany:a.bids.any (λx=>tf (¬jp s.accts x.acct))
 ·have HY:=hid (show jL s a from⟨by omega,HX1.out.1 (by first|rfl|trivial),HX2.out.1 (by first|rfl|trivial),Classical.byContradiction λh=>by have:=rr.2 h;rw[hany]at this;cases this⟩)
  clear hany;go_wp2;go_ret;exact⟨TB.no (not_not_intro HY.out),HB3.out⟩
 ·have hno:¬jL s a:=λh=>rr.1 hany h.2.2.2
  have HNO:=hid hno;clear hno hany;go_wp2;go_ret;exact⟨TB.yes HNO.out,HB3.out⟩
set_option maxRecDepth 100000 in
theorem rQ (F:Nat→Prop)(w:World)(v:StV)(s:StD)(h:StAt F w v s)(la:s.accts.length≤4398046511104)(li:s.insts.length≤4398046511104)(lu:s.aucs.length≤4398046511104)(hbl:∀a∈s.aucs,a.bids.length≤4398046511104) :
  Calls Tryz.prog 261 #[.agg (jc s v)] w λe w'=>TB (jM s) e∧Below w.heap.size w w':=by
 obtain⟨B,hB⟩:∃B,B=w.heap.size:=⟨_,rfl⟩;have hbox:StBox F (w.alloc (.cells (jc s v) 29)) B v s:=⟨by rw[hB];exact heap_alloc_new _ _,h.pure (ke _ _),la,li⟩;have HBX:=hid hbox;have HL:=hid (rN F (w.alloc (.cells (jc s v) 29)) v.u s.aucs hbox.at_.u lu hbl);have HCT:=hid (λW (hb:Below (w.alloc (.cells (jc s v) 29)).heap.size (w.alloc (.cells (jc s v) 29)) W)=>np W F v.u s.aucs ((hbox.pure hb).at_.u) lu 291 (.pointer (some ⟨B,0,none⟩)) (enters_of Tryz.func291 (by kernel_rfl) rfl) (λo=>tf (¬jL s o)) (λW2 k hk bv hbv hb2=>(rP F W2 B v s ((hbox.pure hb).pure hb2) s.aucs[k] bv hbv (hbl _ (List.getElem_mem hk))).mono (by rintro e w' ⟨h1,h2⟩;exact⟨h1.tf,h2⟩)));have HBB:=hid hB;have hmf:∀(fn:Fn) (first cap:Array Value) (w:World),(Instr.makeFunc fn first cap).run Tryz.prog w = .ok (.func fn first cap) w:=λ_ _ _ _=>rfl;have hgo:∀C,C=jc s v→Calls Tryz.prog 261 #[.agg C] w λe w'=>TB (jM s) e∧Below w.heap.size w w':=by
  intro C hC;rw[← hC]at HL HCT;clear hbox h HBX;obtain⟨va,vi,vr,vo,vu⟩:=v;unfold jc at hC;dsimp only at hC HL HCT;subst hC
  go_enter Tryz.func261,Tryz.ntmps261
  go_wp2_with fail
  refine HL.out.mono ?_;rintro e w1 ⟨⟨b,hb,rfl⟩,hb1⟩;have HX:=hid hb;have HB1:=hid hb1;have HB:=hid (kc hb1);have c6:=ka hb1 8 _ rfl;clear hb hb1;cases b
  ·have hno:¬jM s:=λh=>by have:=HX.out.2 h.1;cases this
   have HNO:=hid hno;clear hno;go_wp2;go_ret;exact⟨TB.no HNO.out,HB.out⟩
  ·have HOK:=hid (HX.out.1 (by first|rfl|trivial))
   have HCC:=hid (HCT.out w1 HB1.out);have HE:=HBB.out;subst HE
   go_wp2_with fail
   refine HCC.out.mono ?_;rintro e w2 ⟨rfl,hb2⟩;have HB2:=hid (kd HB.out hb2);clear hb2;cases hany:s.aucs.any (λr=>tf (¬jL s r))
   ·have HY:=hid (show jM s from⟨HOK.out,Classical.byContradiction λh=>by have:=rr.2 h;rw[hany]at this;cases this⟩)
    clear hany;go_wp2;go_ret;exact⟨TB.yes HY.out,HB2.out⟩
   ·have hno:¬jM s:=λh=>rr.1 hany h.2
    have HNO:=hid hno;clear hno hany;go_wp2;go_ret;exact⟨TB.no HNO.out,HB2.out⟩
 exact hgo _ rfl
end
section
open Go.RowKit Go.Shelf
attribute [local go_sem] Oper.semAt_some
def rR (x:(Int×Int)×Int):Array Value:=#[.agg #[.int .i64 x.1.1,.int .i64 x.1.2],.int .i64 x.2]
theorem rS (o:OrdD):jQ o=[((o.acct,(qy o).1),(qy o).2)]:=by
 unfold jQ qy;by_cases h:o.side=1
 ·rw[if_pos h,if_pos h]
 ·rw[if_neg h,if_neg h]
theorem rT {o:OrdD}(h:jB o):0<(qy o).2:=by
 unfold jB ji at h;unfold qy
 split
 ·exact Int.mul_pos (by omega) (by omega)
 ·show 0<o.left;omega
theorem rU {α β:Type}(f:α→List β)(l:List α)(k:Nat)(h:k<l.length):(l.take (k+1)).flatMap f=(l.take k).flatMap f++f l[k]:=by
 rw[List.take_succ_eq_append_getElem h,List.flatMap_append];simp
theorem rV {α β:Type}(f:α→List β)(l:List α)(k:Nat):((l.take k).flatMap f).length≤(l.flatMap f).length:=by
 conv=>rhs;rw[← List.take_append_drop k l,List.flatMap_append,List.length_append]
 omega
theorem rW (v:StV)(s:StD)(w:World) :
  Calls Tryz.prog 297 #[.agg (jc s v)] w λe w'=>e = .returned (.func (.func 330) #[] #[.pointer (some ⟨w.heap.size,0,none⟩)])∧w'=w.alloc (.cells (jc s v) 29):=by
 unfold jc;have hmf:∀(fn:Fn) (first cap:Array Value) (w:World),(Instr.makeFunc fn first cap).run Tryz.prog w = .ok (.func fn first cap) w:=λ_ _ _ _=>rfl
 go_enter Tryz.func297,Tryz.ntmps297
 go_wp2;go_ret;exact⟨rfl,rfl⟩
set_option maxRecDepth 100000 in
theorem rX (F:Nat→Prop)(w:World)(T:Nat→Prop)(sB:Nat)(v:StV)(s:StD)(hs:w.heap[sB]?=some (.cells (jc s v) 29 (0,0)))(hat:StAt F w v s)(ho:∀o∈s.ords,jB o)(hu:∀a∈s.aucs,jI a)(lo:s.ords.length≤4398046511104)(lu:s.aucs.length≤4398046511104)(lb:∀a∈s.aucs,a.bids.length≤4398046511104)
  (hT:¬T sB) (hTF:∀g,F g→¬T g) (hTn:∀g,T g→g<w.heap.size+2) :
  cm (λ_=>True) Fence.wide 5 Tryz.prog 330 #[.pointer (some ⟨sB,0,none⟩)] rR (λ_=>False) (λA B=>Fr T A B) (λ_ _=>True) (λxs=>xs=jS s) (λ_=>True) ((jS s).length+1) w:=by
 obtain⟨va,vi,vr,vo,vu⟩:=v;obtain⟨ao,co,heo⟩:=hat.o.shape;obtain⟨au,cu,heu⟩:=hat.u.shape;dsimp only at heo heu;subst heo heu;intro y J Jx W hW hsz hJ hJx hY h0;have HO:=hid (hat.o.pure hW);have HU:=hid (hat.u.pure hW);have hs2:=(hW.block _ (lt_of_block hs)).trans hs;have HS:=hid hs2;have HJ:=hid hJ;have HY:=hid hY;have HH:=hid h0;have HMO:=hid ho;have HMU:=hid hu;have HLB:=hid lb;have HT:=hid hT;have HTF:=hid hTF;have HTN:=hid hTn;have c7:W.cell? ⟨sB,7,none⟩=some (.slice ao s.ords.length co):=(cell_of_row _ _ _ _ _ _ hs2).trans rfl;have HN:=hid (show(jS s).length=(s.ords.flatMap jQ).length+(s.aucs.flatMap jR).length from by unfold jS;rw[List.length_append]);clear hW hs hat ho hu lb hJ hJx hY h0 hs2 hT hTF hTn;refine callsIn_of_wp Tryz.func330 rfl trivial ?_ rfl;simp only[Tryz.ntmps330,List.size_toArray,List.length_cons,List.length_nil,Nat.reduceAdd,Nat.reduceSub,Array.replicate_succ,Array.replicate_zero,List.push_toArray,List.append_toArray,List.nil_append,List.cons_append]
 gi_wp2
 gi_loopw [14] (λi wr=>∃k:Nat,i = .int .i64 (k:Int)∧k≤s.ords.length∧Hid (J ((s.ords.take k).flatMap jQ) wr)∧Hid (Fr T W wr)) (λi _=>s.ords.length-(intOf i).toNat)
 case atStart=>exact⟨0,rfl,by omega,hid (by simpa using HH.out),hid (Fr.refl _ _)⟩
 case round=>
  obtain⟨k,rfl,hk,HJK,HF⟩:=hrel;by_cases hlt:k<s.ords.length
  ·obtain⟨b,o,rfl,hFb,hbl,g0,g1,g2,g3,g4,g5⟩:=OrdD.at (HO.out.kept HF.out HTF.out) k hlt
   have hmay:=HMO.out _ (List.getElem_mem hlt);have HST:=hid (show(s.ords.take (k+1)).flatMap jQ=(s.ords.take k).flatMap jQ++[((s.ords[k].acct,(qy s.ords[k]).1),(qy s.ords[k]).2)]from by rw[rU _ _ _ hlt,rS]);obtain⟨x,hx⟩:∃x,x=s.ords[k]:=⟨_,rfl⟩;rw[← hx]at g0 g1 g2 g3 g4 g5 hmay HST;have hpos:=rT hmay;have HLEN:=hid (show((s.ords.take k).flatMap jQ).length<(jS s).length+1 from by have h1:=rV jQ s.ords k;have h2:=HN.out;omega);have HHD:=hid (λW=>qz W x hmay);obtain⟨ha,hha⟩:∃p,p=(qy x).1:=⟨_,rfl⟩;obtain⟨hn,hhn⟩:∃p,p=(qy x).2:=⟨_,rfl⟩;rw[← hha,← hhn]at HST HHD;rw[← hhn]at hpos;unfold OrdD.agg at HHD;clear hFb hx hmay hha hhn c7;obtain⟨n,hnn⟩:∃n,n=wr.heap.size:=⟨_,rfl⟩
   gi_wp2_with fail
   refine⟨trivial,?_⟩;refine(callsIn_wide.2 (HHD.out _)).mono ?_;rintro e w1 ⟨rfl,hb1⟩;have hb2:=kc hb1;have c1:=ka hb1 1 _ rfl;have J1:=HJ.out _ _ _ HJK.out (Fr.pure (S:=λ_=>False) hb2);have F1:=hid (HF.out.andPure hb2);obtain⟨fn,tmps,assign,body,hy,hR⟩:=HY.out ((s.ords.take k).flatMap jQ) ((x.acct,ha),hn) w1 trivial J1 HLEN.out;unfold rR at hy;dsimp only at hy;clear hb1 hb2 J1 HJK HF
   gi_wp2_with fail
   refine hR.mono ?_;rintro e W4 (⟨rfl,hJ4,hk4⟩|⟨rfl,hJx4,_⟩)
   ·have HJ4:=hid (show J ((s.ords.take (k+1)).flatMap jQ) W4 from by rw[HST.out];exact hJ4)
    have HF4:=hid (F1.out.trans hk4);clear hJ4 hk4 hy hR
    gi_wp2
    refine⟨⟨k+1,?_,by omega,HJ4,HF4⟩,?_⟩
    ·go_num
    ·simp[intOf]<;>omega
   ·have HX:=hid hJx4
    clear hJx4 hy hR
    gi_wp2
    refine bodyPost_ret (results_none rfl _ _ _) rfl ?_;exact⟨⟨_,rfl⟩,.inr ⟨_,trivial,HX.out⟩⟩
  ·have hkl:k=s.ords.length:=by omega
   have HJ1:=hid (show J (s.ords.flatMap jQ) wr from by have:=HJK.out;rwa [List.take_of_length_le (by omega)]at this);have hsr:=HF.out.heapAt HS.out HT.out;have c8:wr.cell? ⟨sB,8,none⟩=some (.slice au s.aucs.length cu):=(cell_of_row _ _ _ _ _ _ hsr).trans rfl;have HKL:=hid hkl;clear hsr c7 hkl
   gi_wp2
   gi_loopw [39] (λi w2=>∃j:Nat,i = .int .i64 (j:Int)∧j≤s.aucs.length∧Hid (J (s.ords.flatMap jQ++(s.aucs.take j).flatMap jR) w2)∧Hid (Fr T W w2)) (λi _=>s.aucs.length-(intOf i).toNat)
   case atStart=>exact⟨0,rfl,by omega,hid (by simpa using HJ1.out),HF⟩
   case round=>
    obtain⟨j,rfl,hj,HJK2,HF2⟩:=hrel;by_cases hltj:j<s.aucs.length
    ·obtain⟨b,o,bv,rfl,hFb,hbl,hbids,g0,g1,g2,g3,g4,g5,g6,g7,g8⟩:=AucsAt.at (HU.out.kept HF2.out HTF.out) j hltj
     have hmay:=HMU.out _ (List.getElem_mem hltj);have hblen:=HLB.out _ (List.getElem_mem hltj);have HST:=hid (show(s.aucs.take (j+1)).flatMap jR=(s.aucs.take j).flatMap jR++jR s.aucs[j]from rU _ _ _ hltj);have HLEN:=hid (show(s.ords.flatMap jQ++(s.aucs.take (j+1)).flatMap jR).length<(jS s).length+1 from by rw[List.length_append];have h1:=rV jR s.aucs (j+1);have h2:=HN.out;omega);obtain⟨x,hx⟩:∃x,x=s.aucs[j]:=⟨_,rfl⟩;obtain⟨ba,bc,rfl⟩:=hbids.shape;rw[← hx]at g0 g1 g2 g3 g4 g5 g6 g7 g8 hbids hmay hblen HST;rw[HST.out]at HLEN;obtain⟨A,hA⟩:∃A,A=s.ords.flatMap jQ++(s.aucs.take j).flatMap jR:=⟨_,rfl⟩;rw[← List.append_assoc,← hA]at HLEN;rw[← hA]at HJK2;have HA:=hid hA;have HMY:=hid (rM F (wr.alloc (.cells (ry x (.slice ba x.bids.length bc)) 68)) x _ (hbids.pure (ke _ _)) hblen);unfold ry AucD.agg at HMY;have HM:=hid hmay;obtain⟨n,hnn⟩:∃n,n=wr.heap.size:=⟨_,rfl⟩;have HNN:=hid hnn;have hnT:¬T n:=λh=>by have:=HTN.out n h;have:=HF2.out.size;omega
     have HBDW:Hid (BidsAt F W (.slice ba x.bids.length bc) x.bids):=hid (by
      obtain⟨ms,hms,hsl,hbs⟩:=HU.out;have hjm:j<ms.length:=by have:=congrArg List.length hms;rw[List.length_map]at this;omega
      have hmx:ms[j].1=x:=by
       rw[hx];have:(ms.map (·.1))[j]?=s.aucs[j]?:=by rw[hms]
       rw[List.getElem?_map,List.getElem?_eq_getElem hjm,List.getElem?_eq_getElem hltj]at this;exact Option.some.inj this
      have hb9:=hbs _ (List.getElem_mem hjm);obtain⟨b9,o9,he9,_,hc9⟩:=hsl.get j hjm;cases he9;have h8:W.cell? ⟨b,o+(j*9+8),none⟩=some ms[j].2:=hc9 8 _ rfl;have h8w:=HF2.out.cellAt h8 (HTF.out _ hFb);rw[show o+(j*9+8)=o+j*9+8 from by omega]at h8w;have e8:=Option.some.inj (h8w.symm.trans g8);rw[← e8,← hmx];exact hb9)
     clear hFb hx hmay hA hbids
     gi_wp2_with fail
     refine⟨trivial,?_⟩;refine(callsIn_wide.2 HMY.out).mono ?_;rintro e w1 ⟨h1,hb1⟩;obtain rfl:=h1.pos HM.out;have hb2:=kc hb1;have c1:=ka hb1 1 _ rfl;have c2:=ka hb1 2 _ rfl;have c4:=ka hb1 4 _ rfl;have c8b:=ka hb1 8 _ rfl;rw[← hnn]at c1 c2 c4 c8b;have J1:=HJ.out _ _ _ HJK2.out (Fr.pure (S:=λ_=>False) hb2);have F1:=hid (HF2.out.andPure hb2);have HLA:=hid (show A.length<(jS s).length+1 from by have:=HLEN.out;rw[List.length_append]at this;omega);obtain⟨fn,tmps,assign,body,hy,hR⟩:=HY.out A ((x.seller,x.inst),x.qty) w1 trivial J1 HLA.out;unfold rR at hy;dsimp only at hy
     try rw[← hnn]
     clear hb1 h1 J1 HJK2 hnn hb2
     gi_wp2_with fail
     refine hR.mono ?_;rintro e W4 (⟨rfl,hJ4,hk4⟩|⟨rfl,hJx4,_⟩)
     ·have HJ4:=hid hJ4
      have F4:=hid (F1.out.trans hk4);have d8:=hk4.cellAt c8b hnT;clear hJ4 hk4 hy hR c1 c2 c4 c8b g0 g1 g2 g3 g4 g5 g6 g7 g8
      gi_wp2
      gi_loopw [59] (λi wr=>∃m:Nat,i = .int .i64 (m:Int)∧m≤x.bids.length∧Hid (J (A++[((x.seller,x.inst),x.qty)]++(x.bids.take m).map λb=>((b.acct,0),b.amount)) wr)∧Hid (Fr T W wr)) (λi _=>x.bids.length-(intOf i).toNat)
      case atStart=>exact⟨0,rfl,by omega,hid (by simpa using HJ4.out),F4⟩
      case round=>
       obtain⟨m,rfl,hm,HJM,HFM⟩:=hrel;by_cases hltm:m<x.bids.length
       ·obtain⟨b2,o2,rfl,hFb2,hbl2,q0,q1⟩:=BidD.at (HBDW.out.kept HFM.out HTF.out) m hltm
        have HST3:=hid (show(x.bids.take (m+1)).map (λb=>((b.acct,(0:Int)),b.amount))=(x.bids.take m).map (λb=>((b.acct,0),b.amount))++[((x.bids[m].acct,0),x.bids[m].amount)]from by rw[List.take_succ_eq_append_getElem hltm,List.map_append];rfl);have HL3:=hid (show(A++[((x.seller,x.inst),x.qty)]++(x.bids.take m).map λb=>((b.acct,(0:Int)),b.amount)).length<(jS s).length+1 from by
         have:=HLEN.out;unfold jR at this;rw[List.length_append,List.length_cons,List.length_map]at this;rw[List.length_append,List.length_append,List.length_map,List.length_take];simp;omega)
        obtain⟨z,hz⟩:∃z,z=x.bids[m]:=⟨_,rfl⟩;rw[← hz]at q0 q1 HST3;have J2:=HJ.out _ _ _ HJM.out ((Fr.refl (λ_=>False) wr).alloc (.cells #[.int .i64 z.acct,.int .i64 z.amount] 150));have F2:=hid (HFM.out.alloc (.cells #[.int .i64 z.acct,.int .i64 z.amount] 150));obtain⟨fn2,tmps2,assign2,body2,hy2,hR2⟩:=HY.out _ ((z.acct,0),z.amount) _ trivial J2 HL3.out;unfold rR at hy2;dsimp only at hy2;clear hz hFb2 J2 HJM
        gi_wp2_with fail
        refine hR2.mono ?_;rintro e W5 (⟨rfl,hJ5,hk5⟩|⟨rfl,hJx5,_⟩)
        ·have HJ5:=hid (show J (A++[((x.seller,x.inst),x.qty)]++(x.bids.take (m+1)).map λb=>((b.acct,0),b.amount)) W5 from by rw[HST3.out,← List.append_assoc];exact hJ5)
         have F5:=hid (F2.out.trans hk5);clear hJ5 hk5 hy2 hR2
         gi_wp2
         refine⟨⟨m+1,?_,by omega,HJ5,F5⟩,?_⟩
         ·go_num
         ·simp[intOf]<;>omega
        ·have HX:=hid hJx5
         clear hJx5 hy2 hR2
         gi_wp2
         refine bodyPost_ret (results_none rfl _ _ _) rfl ?_;exact⟨⟨_,rfl⟩,.inr ⟨_,trivial,HX.out⟩⟩
       ·have hml:m=x.bids.length:=by omega
        have HJN:=hid (show J (s.ords.flatMap jQ++(s.aucs.take (j+1)).flatMap jR) wr from by
         have:=HJM.out;rw[List.take_of_length_le (by omega)]at this;rw[HST.out,← List.append_assoc,← HA.out];simpa[jR]using this)
        have HML:=hid hml;clear hml
        gi_wp2
        refine⟨⟨j+1,?_,by omega,HJN,HFM⟩,?_⟩
        ·go_num
        ·simp[intOf]<;>omega
     ·have HX:=hid hJx4
      clear hJx4 hy hR
      gi_wp2
      refine bodyPost_ret (results_none rfl _ _ _) rfl ?_;exact⟨⟨_,rfl⟩,.inr ⟨_,trivial,HX.out⟩⟩
    ·have hjl:j=s.aucs.length:=by omega
     have HJ3:=hid (show J (jS s) wr from by have:=HJK2.out;rw[List.take_of_length_le (by omega)]at this;exact this)
     gi_wp2
     go_end0
     exact⟨⟨_,rfl⟩,.inl ⟨_,rfl,HJ3.out⟩⟩
end
section
open Go.RowKit Go.Shelf Go.Maps Go.ChangeMaps
attribute [local go_sem] Oper.semAt_some
theorem rY (l:List ((Int×Int)×Int))(x:(Int×Int)×Int):jT (l++[x])=jO (jT l) x.1 (wrap64 (jN (jT l) x.1+x.2)):=by
 unfold jT;rw[List.foldl_append];rfl
set_option maxRecDepth 100000 in
theorem rZ (F:Nat→Prop)(w:World)(v:StV)(s:StD)(hat:StAt F w v s)(hF:∀g,F g→g<w.heap.size)(ho:∀o∈s.ords,jB o)(hu:∀a∈s.aucs,jI a)(lr:s.rows.length≤4398046511104)(lo:s.ords.length≤4398046511104)(lu:s.aucs.length≤4398046511104)(lb:∀a∈s.aucs,a.bids.length≤4398046511104) :
  Calls Tryz.prog 262 #[.agg (jc s v)] w λe w'=>TB (jV s) e∧Below w.heap.size w w':=by
 have hmm:=@run_makeMap Tryz.prog;have PA:=hid (λW=>rW v s W);obtain⟨va,vi,vr,vo,vu⟩:=v;obtain⟨ar,cr,her⟩:=hat.r.shape;dsimp only at her;subst her;refine(callsIn_wide (n:=6)).1 ?_;have HAT:=hid hat;have HFF:=hid hF;have HO:=hid ho;have HU:=hid hu;have HLB:=hid lb;clear hat hF ho hu lb;unfold jc at PA;refine callsIn_of_wp_marks Tryz.func262 rfl trivial ?_ rfl;unfold jc;simp only[Tryz.ntmps262,List.size_toArray,List.length_cons,List.length_nil,Nat.reduceAdd,Nat.reduceSub,Array.replicate_succ,Array.replicate_zero,List.push_toArray,List.append_toArray,List.nil_append,List.cons_append];dsimp only at PA ⊢
 gi_wp2_with fail
 refine⟨trivial,?_⟩;refine(callsIn_wide.2 (PA.out _)).mono ?_;rintro e w1 ⟨rfl,rfl⟩
 gi_wp2
 obtain⟨C,hC⟩:∃C:Array Value,C=#[.int .i64 s.clock,.int .i64 s.fee,.int .i64 s.nextO,.int .i64 s.nextA,va,vi,.slice ar s.rows.length cr,vo,vu]:=⟨_,rfl⟩;have HC:=hid hC;obtain⟨b,hb⟩:∃b,b=w.heap.size:=⟨_,rfl⟩;obtain⟨W0,hW0⟩:∃W0,W0=(((w.alloc (.cells C 29)).alloc (.map #[] 0)).alloc (.cells #[.map (some (w.heap.size+1))] 367)).alloc (.cells C 29):=⟨_,rfl⟩;have hsz:W0.heap.size=b+4:=by rw[hW0,hb];simp
 have k0:W0.heap[b]?=some (.cells C 29 (0,0)):=by rw[hW0,hb];exact(Below.heap_alloc _ _ _ (by simp<;>omega)).trans ((Below.heap_alloc _ _ _ (by simp<;>omega)).trans ((Below.heap_alloc _ _ _ (by simp<;>omega)).trans (heap_alloc_new _ _)))
 have k1:W0.heap[b+1]?=some (.map #[] 0):=by rw[hW0,hb];exact(Below.heap_alloc _ _ _ (by simp<;>omega)).trans ((Below.heap_alloc _ _ _ (by simp<;>omega)).trans (cj _ _ (by simp)))
 have k2:W0.heap[b+1+1]?=some (.cells #[.map (some (b+1))] 367 (0,0)):=by rw[hW0,hb];exact(Below.heap_alloc _ _ _ (by simp<;>omega)).trans (cj _ _ (by simp))
 have k3:W0.heap[b+1+1+1]?=some (.cells C 29 (0,0)):=by rw[hW0,hb];exact cj _ _ (by simp)
 have hbel:Below b w W0:=by rw[hW0,hb];exact((((Below.refl _ _).alloc (Nat.le_refl _) _).alloc (by simp) _).alloc (by simp<;>omega) _).alloc (by simp<;>omega) _
 have hm0:IsNM W0 qr (b+1) []:=⟨#[],0,k1,rfl,by simp,by simp,by simp⟩;have HA0:Hid (StAt F W0 ⟨va,vi,.slice ar s.rows.length cr,vo,vu⟩ s):=hid (HAT.out.pure (by rw[← hb];exact hbel));have HFB:Hid (∀g,F g→g<b):=hid (by rw[hb];exact HFF.out);have K0:=hid k0;have K2:=hid k2;have K3:=hid k3;have HB:=hid hb;have HBEL:=hid hbel;have M0:=hid hm0;rw[← hC,← hW0,← hb];clear hW0 hb hC k0 k1 k2 k3 hbel hm0 hmm HAT HFF;have HS:=hid hsz;have hsq:=rX F W0 (λg=>g=b+1∨g=W0.heap.size+1) (b+1+1+1) ⟨va,vi,.slice ar s.rows.length cr,vo,vu⟩ s (by unfold jc;dsimp only;rw[← HC.out];exact K3.out) HA0.out HO.out HU.out lo lu HLB.out (λh=>by omega) (λg hg h=>by have:=HFB.out g hg;omega) (λg h=>by omega);refine cv (n:=6) rfl (by omega) (gf:=330) rfl trivial (enters_of Tryz.func330 (by kernel_rfl) rfl) hsq ⟨λh=>h,λh=>h⟩ (λh k=>h.trans k) (λWx o _=>(Fr.refl _ Wx).putObj _ (λ_=>.inr rfl) o) (λ_ _=>trivial) (λ_ _ _ _=>trivial) (λ_=>rfl)
  (λpre Wx=>IsNM Wx qr (b+1) (jT pre)∧Fr (λk=>k=b+1∨k=W0.heap.size∨k=W0.heap.size+1) W0 Wx) (λ_ _ _=>False) ?bears (λ_ _ _ _ h _=>h) ⟨M0.out,Fr.refl _ _⟩
  (λpre x a' Wx=>(IsNM Wx qr (b+1) (jT pre)∧Fr (λk=>k=b+1∨k=W0.heap.size∨k=W0.heap.size+1) W0 Wx)∧∃n,W0.heap.size+1<n∧Wx.heap[n]?=some (.cells #[.int .i64 x.1.1,.int .i64 x.1.2] 372 (0,0)) ∧
   a'={ tmps:=#[.agg C,.pointer (some ⟨b,0,none⟩),.bool false,.pointer (some ⟨b+1+1,0,none⟩),.pointer (some ⟨n,0,none⟩),.int .i64 x.2,undef,undef,undef,.map (some (b+1)),.agg C,.func (.func 330) #[] #[.pointer (some ⟨b+1+1+1,0,none⟩)],.agg #[.int .i64 x.1.1,.int .i64 x.1.2],.int .i64 x.2,undef,undef,undef,undef,undef,undef,undef,undef,undef,undef,undef,undef,undef,undef,undef,undef,undef,undef,undef,undef,undef,undef,undef,undef,undef,undef,undef,undef,undef,undef,undef],defers:=[] }) ?hA ?assign ?body ?done ?stop
 case bears=>exact λpre A B h hf=>⟨h.1.kept hf (λe=>by rcases e with e|e|e;exact e;omega;omega),h.2.trans (hf.mono (λk hk e=>by rcases e with e|e|e;exact e.elim;exact .inr (.inl e);exact .inr (.inr e)))⟩
 case hA=>
  rintro pre x a' Wx o hlt ⟨⟨h1,h2⟩,n,hn,h3,h4⟩;have hf:Fr (λk=>k=W0.heap.size+1) Wx (Wx.putObj (W0.heap.size+1) o):=(Fr.refl (λk=>k=W0.heap.size+1) Wx).putObj _ (λ_=>rfl) o;exact⟨⟨h1.kept hf (λe=>by omega),h2.trans (hf.mono (λ_ _ e=>.inr (.inr e)))⟩,n,hn,hf.heapAt h3 (λe=>by omega),h4⟩
 case assign=>
  intro pre x W K _ hlt hI hK;have HK:=hid hK;have HI:=hid hI;clear hI hK;unfold rR
  gi_wp2
  exact HK.out _ _ ⟨⟨HI.out.1.kept ((Fr.refl (λ_=>False) W).alloc _) (λh=>h),HI.out.2.trans ((Fr.refl _ W).alloc _)⟩,W.heap.size,hlt,heap_alloc_new _ _,rfl⟩ (RgIn.fr ((Fr.refl (λ_=>False) W).alloc _) hlt (λh=>h) (λh=>h)) (by simp) ((Fr.refl _ W).alloc _)
 case body=>
  rintro pre x a' Wx _ hlt ⟨⟨hm,hf⟩,n,hn,hx,rfl⟩ hlen;have c0:Wx.cell? ⟨n,0,none⟩=some (.int .i64 x.1.1):=(cell_of_row _ _ _ _ _ _ hx).trans rfl;have c1:Wx.cell? ⟨n,1,none⟩=some (.int .i64 x.1.2):=(cell_of_row _ _ _ _ _ _ hx).trans rfl;have c2:Wx.cell? ⟨b+1+1,0,none⟩=some (.map (some (b+1))):=(cell_of_row _ _ _ _ _ _ (hf.heapAt K2.out (λe=>by omega))).trans rfl;have hmd:IsNM Wx.drew qr (b+1) (jT pre):=hm;have hlk:=pK qu Tryz.underlying367 (λ_=>by kernel_rfl) hmd x.1;obtain⟨w1,st,hme,hne,hf1⟩:=pS qu Tryz.underlying367 (λ_=>by kernel_rfl) hmd x.1;have hlk1:=pK qu Tryz.underlying367 (λ_=>by kernel_rfl) hne.is x.1;rw[pU _ (by obtain⟨_,_,_,_,h,_⟩:=hm;exact h)]at hlk1;obtain⟨w2,hes,hm2,hf2⟩:=pT (mt:=367) qu hne (wrap64 (jN (jT pre) x.1+x.2));rw[← rY]at hm2;have hfd:Fr (λk=>k=b+1) Wx w2:=Fr.trans (b:=Wx.drew) ⟨rfl,rfl,rfl,Nat.le_refl _,λ_ _ _=>rfl⟩ (hf1.trans hf2);obtain⟨⟨xa,xi⟩,xn⟩:=x;dsimp only at *;unfold qr at hlk hme hlk1;dsimp only at hlk hme hlk1;have HFIN:=hid (show RgIn W0.heap.size Wx w2∧Fr (λg=>g=b+1∨g=W0.heap.size+1) Wx w2∧IsNM w2 qr (b+1) (jT (pre++[((xa,xi),xn)]))∧Fr (λk=>k=b+1∨k=W0.heap.size∨k=W0.heap.size+1) W0 w2 from⟨RgIn.fr hfd hlt (λe=>by omega) (λe=>by omega),hfd.mono (λ_ _ e=>.inl e),hm2,hf.trans (hfd.mono (λ_ _ e=>.inl e))⟩);clear hm hf hx hmd hne hf1 hm2 hf2 hfd hlen hn;have hwr:∀n:Int,wrap64 n=IntKind.i64.wrap n:=λn=>by unfold wrap64;exact(Go.IntKind.wrap_i64 n).symm
  rw[hwr]at hes;have hmix:Tryz.prog.follows .mixedOrders=true:=by kernel_rfl
  clear hwr
  gi_wp2
  gi_region_with_o (fail)
  all_goals gi_wp2
  all_goals exact HFIN.out
 case done=>
  rintro xs Wd rfl ⟨hm,hf⟩ hK;have HFD:=hid hf;have HK:=hid hK;have HM:=hid hm;have HRW:Hid (RowsAt F Wd (.slice ar s.rows.length cr) s.rows):=hid (HA0.out.r.kept hf (λg hg e=>by have:=HFB.out g hg;omega));have x6:Wd.cell? ⟨b,6,none⟩=some (.slice ar s.rows.length cr):=(cell_of_row _ _ _ _ _ _ (hf.heapAt K0.out (λe=>by omega))).trans (by rw[HC.out];rfl);have hbd:b+4≤Wd.heap.size:=by have:=hf.size;omega
  clear hm hf hK
  gi_wp2
  gi_loopw [24] (λi wr=>∃(k:Nat) (m:PMap),i = .int .i64 (k:Int)∧k≤s.rows.length∧Hid (IsNM wr qr (b+1) m)∧Hid (jV s↔jU m (s.rows.drop k))∧Hid (Fr (λg=>g=b+1) Wd wr)) (λi _=>s.rows.length-(intOf i).toNat)
  case atStart=>exact⟨0,_,rfl,by omega,HM,hid Iff.rfl,hid (Fr.refl _ _)⟩
  case round=>
   obtain⟨k,m,rfl,hk,HMM,HGO,HF⟩:=hrel;have c2:wr.cell? ⟨b+1+1,0,none⟩=some (.map (some (b+1))):=(cell_of_row _ _ _ _ _ _ (HF.out.heapAt (HFD.out.heapAt K2.out (λe=>by omega)) (λe=>by omega))).trans rfl;have hws:=HF.out.size;by_cases hlt:k<s.rows.length
   ·obtain⟨g,o,rfl,hFg,hgl,g0,g1,g2,g3⟩:=RowD.at (HRW.out.kept HF.out (λg hg e=>by have:=HFB.out g hg;omega)) k hlt
    have HGO2:=hid (show jU m (s.rows.drop k)↔jN m (s.rows[k].acct,s.rows[k].asset)=s.rows[k].held∧jU (jP m (s.rows[k].acct,s.rows[k].asset)) (s.rows.drop (k+1))from by rw[List.drop_eq_getElem_cons hlt];rfl);obtain⟨x,hx⟩:∃x,x=s.rows[k]:=⟨_,rfl⟩;rw[← hx]at g0 g1 g2 g3 HGO2;clear hx
    gi_wp2
    obtain⟨W2,hW2⟩:∃W2,W2=(wr.alloc (.cells #[.int .i64 x.acct,.int .i64 x.asset,.int .i64 x.free,.int .i64 x.held] 98)).alloc (.cells #[.int .i64 x.acct,.int .i64 x.asset] 372):=⟨_,rfl⟩;obtain⟨n,hn⟩:∃n,n=wr.heap.size:=⟨_,rfl⟩;have hfa:Fr (λ_=>False) wr W2:=by rw[hW2];exact((Fr.refl _ _).alloc _).alloc _
    have d0:W2.heap[n]?=some (.cells #[.int .i64 x.acct,.int .i64 x.asset,.int .i64 x.free,.int .i64 x.held] 98 (0,0)):=by rw[hW2,hn];exact(Below.heap_alloc _ _ _ (by simp)).trans (heap_alloc_new _ _)
    have d1:W2.heap[n+1]?=some (.cells #[.int .i64 x.acct,.int .i64 x.asset] 372 (0,0)):=by rw[hW2,hn];exact cj _ _ (by simp)
    have e3:W2.cell? ⟨n,3,none⟩=some (.int .i64 x.held):=(cell_of_row _ _ _ _ _ _ d0).trans rfl;have f0:W2.cell? ⟨n+1,0,none⟩=some (.int .i64 x.acct):=(cell_of_row _ _ _ _ _ _ d1).trans rfl;have f1:W2.cell? ⟨n+1,1,none⟩=some (.int .i64 x.asset):=(cell_of_row _ _ _ _ _ _ d1).trans rfl;have h2:W2.cell? ⟨b+1+1,0,none⟩=some (.map (some (b+1))):=hfa.cellAt c2 (λh=>h);have hm1:IsNM W2 qr (b+1) m:=HMM.out.kept hfa (λh=>h);have hm2:∀n,IsNM (W2.drewN n) qr (b+1) m:=λ_=>hm1;have hlk:=λn=>pK qu Tryz.underlying367 (λ_=>by kernel_rfl) (hm2 n) (x.acct,x.asset);have HDL:=hid (λn=>pN qu Tryz.underlying367 (hm2 n) (x.acct,x.asset) 0 372);unfold qr at hlk;dsimp only at hlk;have HF2:=hid (show ∀n,Fr (λg=>g=b+1) Wd (W2.drewN n)from λn=>(HF.out.trans (hfa.mono (λ_ _ e=>e.elim))).trans ⟨rfl,rfl,rfl,Nat.le_refl _,λ_ _ _=>rfl⟩);rw[← hW2,← hn];have hmix:Tryz.prog.follows .mixedOrders=true:=by kernel_rfl
    clear hW2 hn hfa d0 d1 hm1 hm2 c2 g0 g1 g2 g3;by_cases hq:jN m (x.acct,x.asset)=x.held
    ·have HG3:=hid (show jV s↔jU (jP m (x.acct,x.asset)) (s.rows.drop (k+1))from HGO.out.trans (HGO2.out.trans ⟨λh=>h.2,λh=>⟨hq,h⟩⟩))
     have hqb:(jN m (x.acct,x.asset) == x.held)=true:=by simpa using hq
     gi_quiet (fail)
     obtain⟨w3,hdl,hm3,hf3⟩:=HDL.out nq;have h2n:(W2.drewN nq).cell? ⟨b+1+1,0,none⟩=some (.map (some (b+1))):=h2;have f0n:(W2.drewN nq).cell? ⟨n+1,0,none⟩=some (.int .i64 x.acct):=f0;have f1n:(W2.drewN nq).cell? ⟨n+1,1,none⟩=some (.int .i64 x.asset):=f1;unfold qr at hdl;dsimp only at hdl;have HF3:=hid ((HF2.out nq).trans hf3);have HM3:=hid hm3;clear hm3 hf3 hlk h2 f0 f1 e3
     gi_wp2
     refine⟨⟨k+1,_,?_,by omega,HM3,HG3,HF3⟩,?_⟩
     ·go_num
     ·simp[intOf]<;>omega
    ·have HG3:=hid (show ¬jV s from λh=>hq (HGO2.out.1 (HGO.out.1 h)).1)
     have hqb:(jN m (x.acct,x.asset) == x.held)=false:=by simpa using hq
     gi_quiet (fail)
     have HFN:=hid (HFD.out.trans ((HF2.out nq).mono (λ_ _ e=>.inl e)));have HKK:=hid ((HF2.out nq).heapAt HK.out (λe=>by omega));clear hlk h2 f0 f1 e3
     gi_wp2
     refine⟨by simp,.inl ⟨_,_,rfl,run_takeDeferred HKK.out,?_⟩⟩;refine⟨_,results_tmp (t:=2) rfl _ _ _,TB.no HG3.out,?_⟩;rw[← HB.out];exact HBEL.out.trans ((HFN.out.trans ((Fr.refl (λk=>k=b+1∨k=W0.heap.size∨k=W0.heap.size+1) _).putObj _ (λ_=>.inr (.inl rfl)) _)).below (B:=b) (by omega) (λk hk e=>by omega))
   ·have hkl:k=s.rows.length:=by omega
    have HIFF:=hid (show jV s↔m=[]from by have:=HGO.out;rw[hkl,List.drop_length]at this;exact this);have hln:=λty=>pO (P:=Tryz.prog) (kt:=372) Tryz.underlying367 HMM.out ty;have HKL:=hid hkl;clear hkl
    gi_wp2
    have HKK:=hid (HF.out.heapAt HK.out (λe=>by omega));refine⟨by simp,.inl ⟨_,_,rfl,run_takeDeferred HKK.out,?_⟩⟩;refine⟨_,results_tmp (t:=2) rfl _ _ _,⟨_,?_,rfl⟩,?_⟩
    ·rw[HIFF.out]
     cases m with
     | nil=>simp
     | cons a t=>simp;omega
    ·rw[← HB.out]
     exact HBEL.out.trans ((HFD.out.trans ((HF.out.mono (λ_ _ e=>.inl e)).trans ((Fr.refl (λk=>k=b+1∨k=W0.heap.size∨k=W0.heap.size+1) _).putObj _ (λ_=>.inr (.inl rfl)) _))).below (B:=b) (by omega) (λk hk e=>by omega))
 case stop=>
  rintro c pre W _ h _;exact h.elim
end
end Go.Proofs.YtaeakdichkhjaaaGreatDoor
