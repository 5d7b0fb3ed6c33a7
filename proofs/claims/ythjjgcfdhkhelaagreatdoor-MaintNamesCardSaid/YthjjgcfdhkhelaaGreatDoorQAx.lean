/- The walk of seglog.Range. -/
import Derived.Test.YthjjgcfdhkhelaaGreatDoorQAv
import Derived.Test.YthjjgcfdhkhelaaGreatDoorQAt
set_option maxHeartbeats 8000000
set_option maxRecDepth 100000
open Go.Lib(hid)
open Go.Proofs.Tryz
namespace Go.Proofs.YthjjgcfdhkhelaaGreatDoor
section
open Go.RowKit
theorem tI {w:World}{k k':Nat}{a b:Array Value}{t1 t2:TypeId}{m1 m2:Nat×Nat}(h:w.heap[k]?=some (.cells a t1 m1))(h':w.heap[k']?=some (.cells b t2 m2))(ht:t1≠t2):k≠k':=by
 rintro rfl;rw[h]at h';cases h';exact ht rfl
theorem tJ {w:World}{base n size k:Nat}{e:TypeId}{v:Value}{xs:List Value}(h:w.ownsRow base e size v n xs)(hk:v.ownBlock=some k):∃cur,w.heap[k]?=some (.cells cur e (0,0)):=by
 obtain⟨_,⟨rfl,_⟩|⟨g,cp,cur,rfl,_,hb,_⟩⟩:=h
 ·cases hk
 ·obtain rfl:g=k:=Option.some.inj hk
  exact⟨cur,hb⟩
theorem tK {w w1 w2 W2 w3:World}{F S:Nat→Prop}{g p b:Nat}{st0 st1:cZ}{l:kR}{sv:Value}{rb cI:Nat}{xs:List (Nat×Value)}(H0:tp w F g p b st0 l)(HENV:tp w1 F g p b st1 l)(HFR:dY p b w w1)
  (HC:LgC w1 S g p l sv (.slice (some ⟨rb,0,none⟩) l.ix.length cI) xs) (HSF:∀k,S k→F k) (HMAY:bL l.gen (l.segs++[(l.gen,(l.next:Int))])=true) {ev:Nat} (HEV3:l.cfg.ev.toNat=ev) {eB cE:Nat} (heB:w.heap.size≤eB) (hel:eB<w1.heap.size)
  (HSV:bJ w1 (.slice (some ⟨eB,0,none⟩) (l.segs.length+1) cE) (l.segs++[(l.gen,(l.next:Int))])) {x:Nat} {xv:Value} (HB2:Below w1.heap.size w1 w2) (HX:w1.heap.size≤x) (HXV:∀b,xv.ownBlock=some b→w1.heap.size≤b)
  (HIX:oR w2 x ev l.next (kP.next (l.next,[])) (kP.good (l.next,[])) xv (iV ev l.next [])) (HW2:Below w2.heap.size w2 W2) (HW2s:W2.heap.size=w2.heap.size+1) {gg cap:Nat}
  (HO3:w3.ownsRow 0 99 1 (.slice (some ⟨gg,0,none⟩) (l.ix.length+1) cap) (l.ix.length+1) (xs.map sW++[.pointer (some ⟨x,0,none⟩)])) (HGR3:W2.grownBy w3 (some rb)) (HAT3:some rb=some gg∨gg=w2.heap.size+1) (hlt3:gg<w3.heap.size)
  (HG3:w3.heap[g]?=some (.cells #[.pointer (some ⟨p,0,none⟩),.int .i64 l.cfg.ss,.int .i64 l.cfg.ev,.int .u8 l.cfg.v,.int .i64 l.gen,sv,.slice (some ⟨rb,0,none⟩) l.ix.length cI] 104 (0,0))) :
  tq w F g p b (st1,l.turn) (((w3.setCell ⟨g,4,none⟩ (.int .i64 l.gen)).setCell ⟨g,5,none⟩ (.slice (some ⟨eB,0,none⟩) (l.segs.length+1) cE)).setCell ⟨g,6,none⟩ (.slice (some ⟨gg,0,none⟩) (l.ix.length+1) cap)):=by
 obtain⟨cur,hcur⟩:=tJ HC.row (show _=some rb from rfl);have hgrb:g≠rb:=tI HC.cell hcur (by decide);have hrbF:F rb:=HSF rb (HC.siv rb rfl);have hgF:F g:=HSF g HC.sg;have hrbw:=H0.lt rb hrbF;have hgw:=H0.lt g hgF;have hs1:=HFR.size;have hs2:=HB2.size;have hs3:=HGR3.size;have hpw:=H0.dk.lt;have hbw:=H0.dk.own.lt;have hPW:=bR H0.pow;have hxl:=HC.len;have hgg:gg<w.heap.size∧F gg∨w1.heap.size<gg:=by
  rcases HAT3 with h|h
  ·obtain rfl:=Option.some.inj h;exact .inl ⟨hrbw,hrbF⟩
  ·exact .inr (by omega)
 have hggne:gg≠g:=by
  rcases HAT3 with h|h
  ·obtain rfl:=Option.some.inj h;exact λe=>hgrb e.symm
  ·omega
 have F2:Fr (λk=>k=rb∨k=g) w2 (((w3.setCell ⟨g,4,none⟩ (.int .i64 l.gen)).setCell ⟨g,5,none⟩ (.slice (some ⟨eB,0,none⟩) (l.segs.length+1) cE)).setCell ⟨g,6,none⟩ (.slice (some ⟨gg,0,none⟩) (l.ix.length+1) cap)):=
  ((((Fr.pure HW2).trans ((sU HGR3).mono λk _ e=>.inl (Option.some.inj e).symm)).setCell ⟨g,4,none⟩ (λ_=>.inr rfl) _).setCell ⟨g,5,none⟩ (λ_=>.inr rfl) _).setCell ⟨g,6,none⟩ (λ_=>.inr rfl) _
 have F1:=(Fr.pure (S:=λk=>k=rb∨k=g) HB2).trans F2;have hcell:(((w3.setCell ⟨g,4,none⟩ (.int .i64 l.gen)).setCell ⟨g,5,none⟩ (.slice (some ⟨eB,0,none⟩) (l.segs.length+1) cE)).setCell ⟨g,6,none⟩ (.slice (some ⟨gg,0,none⟩) (l.ix.length+1) cap)).heap[g]?=some (.cells #[.pointer (some ⟨p,0,none⟩),.int .i64 l.cfg.ss,.int .i64 l.cfg.ev,.int .u8 l.cfg.v,.int .i64 l.gen,.slice (some ⟨eB,0,none⟩) (l.segs.length+1) cE,.slice (some ⟨gg,0,none⟩) (l.ix.length+1) cap] 104 (0,0)):=
  (heap_setCell_same _ g 6 _ _ _ (heap_setCell_same _ g 5 _ _ _ (heap_setCell_same w3 g 4 _ _ _ HG3))).trans rfl
 have hneg:(Value.slice (some ⟨gg,0,none⟩) (l.ix.length+1) cap).ownBlock≠some g:=λe=>hggne (Option.some.inj e);have hrow:=ownsRow_setCell_other (a:=⟨g,6,none⟩) (ownsRow_setCell_other (a:=⟨g,5,none⟩) (ownsRow_setCell_other (a:=⟨g,4,none⟩) HO3 hneg (.int .i64 l.gen)) hneg (.slice (some ⟨eB,0,none⟩) (l.segs.length+1) cE)) hneg (.slice (some ⟨gg,0,none⟩) (l.ix.length+1) cap);have hsz:w3.heap.size≤(((w3.setCell ⟨g,4,none⟩ (.int .i64 l.gen)).setCell ⟨g,5,none⟩ (.slice (some ⟨eB,0,none⟩) (l.segs.length+1) cE)).setCell ⟨g,6,none⟩ (.slice (some ⟨gg,0,none⟩) (l.ix.length+1) cap)).heap.size:=by simp
 generalize ((w3.setCell ⟨g,4,none⟩ (.int .i64 l.gen)).setCell ⟨g,5,none⟩ (.slice (some ⟨eB,0,none⟩) (l.segs.length+1) cE)).setCell ⟨g,6,none⟩ (.slice (some ⟨gg,0,none⟩) (l.ix.length+1) cap)=W at *
 have hsW:=F1.size;have hixl:=HIX.lt;have hxvl:=λk (h:xv.ownBlock=some k)=>sT HIX.own h;have hs2W:=F2.size;have hnew:∀k,(F k∨k=x∨xv.ownBlock=some k∨k=gg∨k=eB)→F k∨w.heap.size≤k:=by
  rintro k (h|h|h|h|h)
  ·exact .inl h
  ·exact .inr (by omega)
  ·have:=HXV k h;exact .inr (by omega)
  ·rcases hgg with h2|h2
   ·rw[h];exact .inl h2.2
   ·exact .inr (by omega)
  ·exact .inr (by omega)
 have hltW:∀k,(F k∨k=x∨xv.ownBlock=some k∨k=gg∨k=eB)→k<W.heap.size:=by
  rintro k (h|h|h|h|h)
  ·have:=H0.lt k h;omega
  ·omega
  ·have:=hxvl k h;omega
  ·omega
  ·omega
 refine⟨λk=>F k∨k=x∨xv.ownBlock=some k∨k=gg∨k=eB,⟨⟨.slice (some ⟨eB,0,none⟩) (l.segs.length+1) cE,.slice (some ⟨gg,0,none⟩) (l.ix.length+1) cap,xs++[(x,xv)],λk=>S k∨k=x∨xv.ownBlock=some k∨k=gg,⟨hcell,?_,?_,?_,?_,?_,.inl HC.sg,?_,?_,?_,?_⟩,?_,?_,hltW⟩,?_,?_,HENV.ok.turn HMAY,?_,H0.pw⟩,?_,hnew⟩
 ·exact HSV.kept F1 λk hk hT=>by
   obtain rfl:eB=k:=Option.some.inj hk;omega
 ·intro k hk
  obtain rfl:eB=k:=Option.some.inj hk;rintro(h|h|h|h)
  ·have:=H0.lt _ (HSF _ h);omega
  ·omega
  ·have:=HXV _ h;omega
  ·omega
 ·have e:(xs++[(x,xv)]).map sW=xs.map sW++[.pointer (some ⟨x,0,none⟩)]:=by simp[sW]
  have e2:l.turn.ix.length=l.ix.length+1:=by unfold kR.turn;simp
  rw[e,e2];exact hrow
 ·unfold kR.turn;simp[hxl]
 ·intro i hi hi'
  have e2:l.turn.ix=l.ix++[(l.next,[])]:=rfl;have eev:l.turn.ev=l.ev:=rfl;by_cases hc:i<xs.length
  ·have h1:=HC.ixs i hc (by omega)
   have h2:(xs++[(x,xv)])[i]=xs[i]:=List.getElem_append_left hc;have h3:l.turn.ix[i]=l.ix[i]'(by omega):=(List.getElem_of_eq e2 hi').trans (List.getElem_append_left (by omega));rw[h2,h3,eev];refine h1.kept F1 ?_ ?_
   ·rintro(h|h)
    ·exact tI h1.cell hcur (by decide) h
    ·exact tI h1.cell HC.cell (by decide) h
   ·rintro k hk (h|h)
    ·obtain⟨c9,h9⟩:=tJ h1.own hk;exact tI h9 hcur (by decide) h
    ·obtain⟨c9,h9⟩:=tJ h1.own hk;exact tI h9 HC.cell (by decide) h
  ·have hi9:i=xs.length:=by simp at hi;omega
   have h2:(xs++[(x,xv)])[i]=(x,xv):=by subst hi9;simp
   have h3:l.turn.ix[i]=(l.next,[]):=(List.getElem_of_eq e2 hi').trans (by rw[List.getElem_append_right (by omega)];simp);rw[h2,h3,eev];unfold kR.ev;rw[HEV3];refine HIX.kept F2 ?_ ?_
   ·rintro(h|h)<;>omega
   ·rintro k hk (h|h)<;>(have:=HXV k hk;omega)
 ·intro k hk
  exact .inr (.inr (.inr (Option.some.inj hk).symm))
 ·intro y hy
  rcases List.mem_append.1 hy with h|h
  ·exact⟨.inl (HC.sx y h).1,λk hk=>.inl ((HC.sx y h).2 k hk)⟩
  ·rw[List.mem_singleton.1 h]
   exact⟨.inr (.inl rfl),λk hk=>.inr (.inr (.inl hk))⟩
 ·refine List.pairwise_append.2 ⟨HC.apart,List.pairwise_singleton _ _,λy hy z hz=>?_⟩
  rw[List.mem_singleton.1 hz];have h1:=HC.lt _ (HC.sx y hy).1;refine⟨by show y.1≠x;omega,λk hk e=>?_⟩;have h2:=HC.lt _ ((HC.sx y hy).2 k hk);have h3:=HXV k e;omega
 ·rintro k (h|h|h|h)
  ·have:=HC.lt k h;omega
  ·omega
  ·have:=hxvl k h;omega
  ·omega
 ·rintro k (h|h|h|h)
  ·exact .inl (HSF k h)
  ·exact .inr (.inl h)
  ·exact .inr (.inr (.inl h))
  ·exact .inr (.inr (.inr (.inl h)))
 ·intro k hk
  exact .inr (.inr (.inr (.inr (Option.some.inj hk).symm)))
 ·have h1:=H0.far rb hrbF
  have h2:=H0.far g hgF;exact HENV.dk.kept F1 (λh=>h.elim (λe=>h1.1 e.symm) (λe=>h2.1 e.symm)) (λh=>h.elim (λe=>h1.2.1 e.symm) (λe=>h2.2.1 e.symm))
 ·have h1:=H0.far rb hrbF
  have h2:=H0.far g hgF;exact F1.pow HENV.pow (λh=>h.elim (λe=>h1.2.2 e.symm) (λe=>h2.2.2 e.symm))
 ·intro k hk
  rcases hnew k hk with h|h
  ·exact H0.far k h
  ·have h1:PW<w.heap.size:=hPW
   exact⟨by omega,by omega,by omega⟩
 ·refine(HFR.mono λk _ h=>.inr h).trans (F1.mono λk _ h=>.inl ?_)
  rcases h with h|h
  ·rw[h];exact hrbF
  ·rw[h];exact hgF
end
section
open Go.RowKit Go.Shelf
attribute [local go_sem] Oper.semAt_some
theorem db.same {w W:World}{p b:Nat}{st:cZ}(h:db w p b st)(hp:W.heap[p]?=w.heap[p]?)(hb:W.heap[b]?=w.heap[b]?):db W p b st:=by
 obtain⟨es,clock,h1,h2⟩:=h.own;exact⟨hp.trans h.cell,⟨es,clock,hb.trans h1,h2⟩,h.ok⟩
def uc (F:Nat→Prop)(p b:Nat)(k:Nat):Prop:=F k∨k=p∨k=b∨k=PW
theorem tp.same {w W:World}{F:Nat→Prop}{g p b:Nat}{st:cZ}{l:kR}(h:tp w F g p b st l)(he:∀k,uc F p b k→W.heap[k]?=w.heap[k]?):tp W F g p b st l:=
 ⟨h.lg.same λk hk=>he k (.inl hk),h.dk.same (he _ (.inr (.inl rfl))) (he _ (.inr (.inr (.inl rfl)))),tr (he _ (.inr (.inr (.inr rfl)))) h.pow,h.ok,h.far,h.pw⟩
def ud (l:kR)(q0:Nat)(pre:List RdX):Prop:=∀i (h:i<pre.length),pre[i].e=0∧pre[i].p.data.toList=l.at (q0-l.first.toNat+i)
theorem ue {n:Nat}(h:n≤1048576):Value.int .i64 (wrap64 ((n:Int)+1)) = .int .i64 ((n+1:Nat):Int):=by congr 1;unfold wrap64;omega
theorem uf {l:kR}{q0:Nat}{pre:List RdX}{y:RdX}(h:ud l q0 pre)(he:y.e=0)(hp:y.p.data.toList=l.at (q0-l.first.toNat+pre.length)):ud l q0 (pre++[y]):=by
 intro i hi;by_cases hc:i<pre.length
 ·rw[List.getElem_append_left hc];exact h i hc
 ·have:i=pre.length:=by rw[List.length_append,List.length_singleton]at hi;omega
  subst this;rw[List.getElem_append_right (Nat.le_refl _)];simpa using⟨he,hp⟩
def PayKeep (F:Nat→Prop)(p b lB sB:Nat)(A B:World):Prop:=A.heap.size≤B.heap.size∧∀k,(uc F p b k∨k=lB∨k=sB)→B.heap[k]?=A.heap[k]?
theorem ug (w:World)(F:Nat→Prop)(g p b:Nat)(st:cZ)(l:kR)(h:tp w F g p b st l)(hon:LgOn st l)(hlit:st.dark=false)(sB lB q0:Nat)(hq:l.first≤(q0:Int))(hs:w.heap[sB]?=some (.cells #[.int .i64 (q0:Int)] 2 (0,0)))(hlb:w.heap[lB]?=some (.cells #[.pointer (some ⟨g,0,none⟩)] 25 (0,0)))
  (nsl:sB≠lB) (far:¬uc F p b sB) (N:Nat) (hN:q0+N≤l.next) :
  tL Fence.wide 5 prog 153 #[.pointer (some ⟨sB,0,none⟩),.pointer (some ⟨lB,0,none⟩)] tN (λk=>k=sB) (PayKeep F p b lB sB) (λ_=>False) (ud l q0) N w:=by
 intro y J Jx W hW hJ hJx hY hJN h0;have hall:∀k,uc F p b k→k<w.heap.size:=λk hk=>by
  rcases hk with hk|rfl|rfl|rfl
  ·exact h.lt k hk
  ·exact h.dk.lt
  ·exact h.dk.own.lt
  ·exact bR h.pow
 have HK:=hid (λk (hk:uc F p b k)=>hW.block k (hall k hk));have HLW:=hid ((hW.block _ (lt_of_block hlb)).trans hlb);have HSW:=hid ((hW.block _ (lt_of_block hs)).trans hs);have H0:=hid h;have HON:=hid hon;have HJ:=hid hJ;have HJX:=hid hJx;have HY:=hid hY;have HJN:=hid hJN;have HH:=hid h0;have HFAR:=hid far;have htop:=h.ok.top;have hfew:=h.ok.few;have hlen:=h.ok.len;have hpos:=h.ok.pos;clear hall h hon hJ hJx hY hJN h0 hW hs hlb far;refine callsIn_of_wp func153 rfl trivial ?_ rfl;simp only[ntmps153,List.size_toArray,List.length_cons,List.length_nil,Nat.reduceAdd,Nat.reduceSub,Array.replicate_succ,Array.replicate_zero,List.push_toArray,List.append_toArray,List.nil_append,List.cons_append]
 gi_wp2
 gi_loopw [] (λwr=>∃(pre:List RdX),ud l q0 pre∧J pre wr∧(∀k,uc F p b k∨k=lB→wr.heap[k]?=W.heap[k]?)∧wr.heap[sB]?=some (.cells #[.int .i64 ((q0+pre.length:Nat):Int)] 2 (0,0))) (λwr=>l.next-(intOf ((wr.cell? ⟨sB,0,none⟩).getD undef)).toNat)
 case atStart=>exact⟨[],λi hi=>by simp at hi,HH.out,λ_ _=>rfl,HSW.out⟩
 case round=>
  obtain⟨pre,hok,hJp,hkeep,hsb⟩:=hrel;have hlt:=HJN.out pre _ hJp;have henv:=H0.out.same λk hk=>(hkeep k (.inl hk)).trans (HK.out k hk);obtain⟨i,hi,hi',hfd,h5,h7,hal⟩:=mg H0.out.ok (q:=q0+pre.length) (by omega) (by omega);obtain⟨B,hB⟩:∃B,B=q0+pre.length:=⟨_,rfl⟩;rw[← hB]at hfd h5 h7 hal hsb;have hlB:=(hkeep lB (.inr rfl)).trans HLW.out;have e1:wr.cell? ⟨sB,0,none⟩=some (.int .i64 (B:Int)):=(cell_of_row _ _ _ _ _ _ hsb).trans rfl;have e2:wr.cell? ⟨lB,0,none⟩=some (.pointer (some ⟨g,0,none⟩)):=(cell_of_row _ _ _ _ _ _ hlB).trans rfl;obtain⟨sv,iv,xs,S,hc,_,_,_⟩:=henv.lg;obtain⟨a0,c0,rfl⟩:=hc.segs.shape;obtain⟨g0,_,_,_,g4,g5,g6⟩:=hc.cs;have hgl:=hc.gl;have hxl:=hc.len;have HSEG:=hid hc.segs;have HFD:=hid hfd;have HB:=hid hB;have HENV:=hid henv;have HC:=hid hc;have HOK:=hid hok;have HJP:=hid hJp;have HKE:=hid hkeep;have HSB:=hid hsb;have HAL:=hid hal;have hll:=aw e2;have hsl:=aw e1;have HGX:=hid (And.intro g0 g6);have h7':=h7;clear hok hJp hkeep hsb henv hc hfd hB hal hlB h7;have HFI:=hid (λW9 (hb:Below wr.heap.size wr W9)=>co W9 l.gen (.slice a0 l.segs.length c0) l.segs (HSEG.out.pure hb) (by omega) (B:Int))
  gi_wp2_with fail
  refine wpIn_wide.2 ?_
  go_region_held3 (λw'=>w'.cell? ⟨sB,0,none⟩=some (.int .i64 (B:Int))∧w'.cell? ⟨lB,0,none⟩=some (.pointer (some ⟨g,0,none⟩))∧w'.cell? ⟨g,4,none⟩=some (.int .i64 l.gen)∧w'.cell? ⟨g,5,none⟩=some (.slice a0 l.segs.length c0)) (first|exact⟨e1,e2,g4,g5⟩|exact⟨x1,x2,x4,x5⟩|go_keep) (first
   | (go_at_call 154;refine(HFI.out _ (by first|exact Below.refl _ _|exact(Below.refl _ _).drew)).mono ?_;rintro e w1 ⟨rfl,hb1⟩;rw[HFD.out];have HB1:=hid ((show Below wr.heap.size wr _ by first|exact Below.refl _ _|exact(Below.refl _ _).drew).trans hb1);have x1:=(HB1.out.cell (p:=⟨sB,0,none⟩) hsl).trans e1;have x2:=(HB1.out.cell (p:=⟨lB,0,none⟩) hll).trans e2;have x4:=(HB1.out.cell (p:=⟨g,4,none⟩) hgl).trans g4;have x5:=(HB1.out.cell (p:=⟨g,5,none⟩) hgl).trans g5;clear hb1))
  have hz1:=HB1.out.size;obtain⟨sb,so,hso,k1,k2,hsbl⟩:=(HSEG.out.pure HB1.out).at i hi;cases hso
  gi_wp2_with fail
  obtain⟨w2,hw2⟩:∃w2,w2=w1.alloc (.cells #[.int .i64 l.segs[i].1,.int .i64 l.segs[i].2] 48):=⟨_,rfl⟩;have hb2:Below w1.heap.size w1 w2:=by rw[hw2];exact(Below.refl _ _).alloc (Nat.le_refl _) _
  have hB2:=HB1.out.trans (hb2.mono hz1);have hx2:w2.heap[w1.heap.size]?=some (.cells #[.int .i64 l.segs[i].1,.int .i64 l.segs[i].2] 48 (0,0)):=by rw[hw2];exact fm _ _ rfl
  have b0:w2.cell? ⟨w1.heap.size,0,none⟩=some (.int .i64 l.segs[i].1):=(cell_of_row _ _ _ _ _ _ hx2).trans rfl;have b1:w2.cell? ⟨w1.heap.size,1,none⟩=some (.int .i64 l.segs[i].2):=(cell_of_row _ _ _ _ _ _ hx2).trans rfl;have y2:=(hB2.cell (p:=⟨lB,0,none⟩) hll).trans e2;have y0:=(hB2.cell (p:=⟨g,0,none⟩) hgl).trans HGX.out.1;have henv2:=HENV.out.pure hB2;have hbl2:=aw b0;have hll2:=aw y2;have hgl2:=aw y0;obtain⟨G,FF,hGF,hG1,hG2⟩:=lP H0.out.ok.may i hi;have HNM:=hid (show(gu l.segs[i]).length=20 from by rw[hGF];exact kA G FF hG1 hG2);have HNA:=hid (λW9 (hb:Below w2.heap.size w2 W9)=>cf W9 (bS hb henv2.pow) l.segs[i].1 l.segs[i].2);obtain⟨fl,hfl,hbytes,_,_⟩:=HON.out.seg i hi hi';have HRD:=hid (show eI st (gu l.segs[i])=(iR l.ix[i].1 l.ix[i].2,0)from by unfold eI;rw[hlit,hfl];simp[hbytes]);have HB2:=hid hB2;have HENV2:=hid henv2;rw[← hw2];clear hw2 hb2 hB2 hx2 henv2 hGF hfl hbytes k1 k2 x1 x2 x4 x5;refine wpIn_wide.2 ?_
  go_region_held3 (λw'=>w'.cell? ⟨lB,0,none⟩=some (.pointer (some ⟨g,0,none⟩))∧w'.cell? ⟨g,0,none⟩=some (.pointer (some ⟨p,0,none⟩))∧w'.cell? ⟨w1.heap.size,0,none⟩=some (.int .i64 l.segs[i].1)∧w'.cell? ⟨w1.heap.size,1,none⟩=some (.int .i64 l.segs[i].2)) (first|exact⟨y2,y0,b0,b1⟩|exact⟨x1,x2,x4,x5⟩|exact⟨z1,z2,z4,z5⟩|go_keep) (first
   | (go_at_call 37;refine(HNA.out _ (by first|exact Below.refl _ _|exact(Below.refl _ _).drew)).mono ?_;rintro e w3 ⟨⟨r,hr,rfl⟩,hb3⟩;have HR:=hid hr;have HB3:=hid ((show Below w2.heap.size w2 _ by first|exact Below.refl _ _|exact(Below.refl _ _).drew).trans hb3);have HRL:=hid (show r.size≤maxLen by have h1:=ao hr;have h2:=HNM.out;unfold gu at h2;unfold maxLen;omega);have x1:=(HB3.out.cell (p:=⟨lB,0,none⟩) hll2).trans y2;have x2:=(HB3.out.cell (p:=⟨g,0,none⟩) hgl2).trans y0;have x4:=(HB3.out.cell (p:=⟨w1.heap.size,0,none⟩) hbl2).trans b0;have x5:=(HB3.out.cell (p:=⟨w1.heap.size,1,none⟩) hbl2).trans b1;clear hr hb3)
   | (go_at_call 56;refine(eK _ p b st (HENV2.out.dk.pure HB3.out) r HRL.out).mono ?_;rw[HR.out,show b9 l.segs[i].1 l.segs[i].2=gu l.segs[i]from rfl,HRD.out];rintro e w4 ⟨⟨s,hs,rfl⟩,hb4⟩;have HS:=hid hs;have HB4:=hid (HB3.out.trans (hb4.mono HB3.out.size));have z1:=(HB4.out.cell (p:=⟨lB,0,none⟩) hll2).trans y2;have z2:=(HB4.out.cell (p:=⟨g,0,none⟩) hgl2).trans y0;have z4:=(HB4.out.cell (p:=⟨w1.heap.size,0,none⟩) hbl2).trans b0;have z5:=(HB4.out.cell (p:=⟨w1.heap.size,1,none⟩) hbl2).trans b1;clear hs hb4))
  have hB4:=HB2.out.trans (HB4.out.mono (HB2.out.size));have HB5:=hid hB4;obtain⟨rb,cI,hiv,hcell⟩:=HC.out.ptr i (by omega);have m1:=(hB4.cell (p:=⟨sB,0,none⟩) hsl).trans e1;have m2:=(hB4.cell (p:=⟨lB,0,none⟩) hll).trans e2;have m6:=(hB4.cell (p:=⟨g,6,none⟩) hgl).trans HGX.out.2;subst hiv;have mr:=(hB4.cell (p:=⟨rb,i,none⟩) (aw hcell)).trans hcell;have hix:=HC.out.ixs i (by omega) hi';have heach:=H0.out.ok.each i hi hi';have hgd:=heach.2.2;have hnxl:kP.next l.ix[i]=l.ix[i].1+l.ix[i].2.length:=rfl;have hfo:=iH heach.2.1;have hev:=tG H0.out.ok.cfg;obtain⟨k,hk⟩:∃k,k=B-l.ix[i].1:=⟨_,rfl⟩;have hBk:l.ix[i].1+k=B:=by omega
  have hkl:k<l.ix[i].2.length:=by omega
  have hss:s.size≤1048576:=by have h1:=ao HS.out;have h2:(iR l.ix[i].1 l.ix[i].2).length≤1048576:=hgd;omega
  obtain⟨PK,hPK⟩:∃PK,PK=(l.ix[i].2)[k]'hkl:=⟨_,rfl⟩;have hxi:i<xs.length:=by omega
  have hge:∀W9:World,Below w4.heap.size w4 W9→Calls prog 155 #[.pointer (some ⟨(xs[i]'hxi).1,0,none⟩),.string s,.int .i64 (B:Int)] W9 λe w'=>(∃pp:ByteArray,pp.data.toList=PK∧e = .returned (.tuple #[.string pp,.int .i64 0]))∧Below W9.heap.size W9 w':=λW9 hb=>by
   have h9:=ub W9 (xs[i]'hxi).1 l.ev l.ix[i].1 (kP.next l.ix[i]) (kP.good l.ix[i]) (xs[i]'hxi).2 l.ix[i].2 ((hix.pure hB4).pure hb) (by obtain⟨ev,_,h1,_,h2⟩:=hev;unfold kR.ev;omega) hnxl (by rcases hfo with h3|h3;(rw[h3]at hkl;simp at hkl);omega) k hkl s [] (by rw[HS.out,List.append_nil]) hss heach.2.1;rw[hBk,← hPK]at h9;exact h9
  have HGE:=hid hge;have HPAY:=hid (show l.at (q0-l.first.toNat+pre.length)=PK from by
   have h1:=HAL.out;rw[← hk]at h1;unfold kR.at;rw[show q0-l.first.toNat+pre.length=B-l.first.toNat from by have:=HB.out;omega,h1,List.getElem?_eq_getElem hkl,hPK];rfl)
  unfold sW at mr;have hsl4:=aw m1;have hll4:=aw m2;have hgl4:=aw m6;have hrl4:=aw mr;clear hB4 hcell hix heach hgd hfo hev hge hnxl x1 x2 x4 x5 z1 z2 z4 z5 y2 y0 b0 b1 hk hBk hPK hkl
  gi_wp2_with fail
  refine wpIn_wide.2 ?_
  go_region_held3 (λw'=>w'.cell? ⟨sB,0,none⟩=some (.int .i64 (B:Int))∧w'.cell? ⟨lB,0,none⟩=some (.pointer (some ⟨g,0,none⟩))∧w'.cell? ⟨g,6,none⟩=some (.slice (some ⟨rb,0,none⟩) xs.length cI)∧w'.cell? ⟨rb,i,none⟩=some (.pointer (some ⟨xs[i].1,0,none⟩))) (first|exact⟨m1,m2,m6,mr⟩|exact⟨x1,x2,x4,x5⟩|go_keep) (first
   | (go_at_call 155;refine(HGE.out _ (by first|exact Below.refl _ _|exact(Below.refl _ _).drew)).mono ?_;rintro e w5 ⟨⟨pp,hpp,rfl⟩,hb5⟩;have HPP:=hid hpp;have HB6:=hid ((show Below w4.heap.size w4 _ by first|exact Below.refl _ _|exact(Below.refl _ _).drew).trans hb5);have x1:=(HB6.out.cell (p:=⟨sB,0,none⟩) hsl4).trans m1;have x2:=(HB6.out.cell (p:=⟨lB,0,none⟩) hll4).trans m2;have x4:=(HB6.out.cell (p:=⟨g,6,none⟩) hgl4).trans m6;have x5:=(HB6.out.cell (p:=⟨rb,i,none⟩) hrl4).trans mr;clear hpp hb5))
  gi_wp2_with fail
  have hb5:=HB5.out.trans (HB6.out.mono HB5.out.size);have hf5:Fr (λk=>k=sB) wr w5:=Fr.pure hb5;have HOX:=hid (uf (y:=⟨pp,0⟩) HOK.out rfl (HPP.out.trans HPAY.out.symm));have HKE5:=hid (λk (hk:uc F p b k∨k=lB)=>(hb5.block k (by
   rcases hk with hk|rfl
   ·rcases hk with hk|rfl|rfl|rfl
    ·exact HENV.out.lt k hk
    ·exact HENV.out.dk.lt
    ·exact HENV.out.dk.own.lt
    ·exact bR HENV.out.pow
   ·exact hll)).trans (HKE.out k hk))
  have HSB5:=hid ((hb5.block sB hsl).trans HSB.out);obtain⟨fn,tmps,assign,body,hy,hR⟩:=HY.out pre ⟨pp,0⟩ _ (HJ.out _ _ _ HJP.out hf5) hlt;unfold tN at hy;dsimp only at hy;clear hf5 hb5 x1 x2 x4 x5;rw[hy];refine⟨by simp,?_⟩;refine hR.mono ?_;rintro e W4 (⟨rfl,hJ4,hk4⟩|⟨rfl,hJx4⟩)
  ·have hs4:=(hk4.2 sB (.inr (.inr rfl))).trans HSB5.out
   have c4:W4.cell? ⟨sB,0,none⟩=some (.int .i64 (B:Int)):=(cell_of_row _ _ _ _ _ _ hs4).trans rfl;have z4:W4.frozen? ⟨sB,0,none⟩=false:=frozen_of_row _ _ 0 _ _ hs4;have HK4:=hid (λk (hk:uc F p b k∨k=lB)=>(hk4.2 k (hk.imp id .inl)).trans (HKE5.out k hk));have HS4:=hid hs4;have HJ4:=hid hJ4;clear hk4 hs4 hJ4 hy hR
   gi_wp2
   have hwr:Value.int .i64 (wrap64 ((B:Int)+1)) = .int .i64 ((B+1:Nat):Int):=by
    have hB9:B≤1048576:=by have:=HB.out;omega
    exact ue hB9
   rw[hwr];have hx:=one_setCell HS4.out (u:=.int .i64 ((B+1:Nat):Int));refine⟨⟨pre++[⟨pp,0⟩],HOX.out,HJ.out _ _ _ HJ4.out (dK (w:=W4) ⟨sB,0,none⟩ _),λk hk=>?_,?_⟩,?_⟩
   ·refine(Below.heap_setCell _ _ _ _ ?_).trans (HK4.out k hk)
    show k≠sB;rintro rfl
    rcases hk with hk|hk
    ·exact HFAR.out hk
    ·exact nsl hk
   ·rw[hx,List.length_append,List.length_singleton,show q0+(pre.length+1)=B+1 from by have:=HB.out;omega]
   ·have e9:(W4.setCell ⟨sB,0,none⟩ (.int .i64 ((B+1:Nat):Int))).cell? ⟨sB,0,none⟩=some (.int .i64 ((B+1:Nat):Int)):=(cell_of_row _ _ _ _ _ _ hx).trans rfl
    rw[e9,e1];simp[intOf];have:=HB.out;omega
  ·gi_wp2
   refine bodyPost_ret (results_none rfl _ _ _) rfl ?_;exact⟨⟨_,rfl⟩,.inr ⟨_,HOX.out,hJx4⟩⟩
end
section
open Go.RowKit Go.Shelf
attribute [local go_sem] Oper.semAt_some
theorem uh (g:Nat)(q:Int)(w:World) :
  Calls prog 104 #[.pointer (some ⟨g,0,none⟩),.int .i64 q] w λe w'=>e = .returned (.func (.func 153) #[] #[.pointer (some ⟨w.heap.size+1,0,none⟩),.pointer (some ⟨w.heap.size,0,none⟩)]) ∧
   w'=(w.alloc (.cells #[.pointer (some ⟨g,0,none⟩)] 25)).alloc (.cells #[.int .i64 q] 2):=by
 have hmf:∀(fn:Fn) (first cap:Array Value) (w:World),(Instr.makeFunc fn first cap).run prog w = .ok (.func fn first cap) w:=λ_ _ _ _=>rfl
 go_enter func104,ntmps104
 go_wp2;go_ret;exact⟨by simp,rfl⟩
structure PdAt (w W:World) (b:Nat) (p:ByteArray) (e:Int):Prop where
 b0:W.heap[b]?=some (.cells #[.string p] 9 (0,0))
 b1:W.heap[b+1]?=some (.cells #[.int .i64 e] 26 (0,0))
 below:Below b w W
theorem PdAt.bears {w W W':World}{b:Nat}{p:ByteArray}{e:Int}(h:PdAt w W b p e)(hf:Fr (λk=>b+2≤k) W W'):PdAt w W' b p e:=
 ⟨hf.heapAt h.b0 (by omega),hf.heapAt h.b1 (by omega),h.below.trans (hf.below (B:=b) (by have:=lt_of_block h.b0;omega) (λk hk=>by omega))⟩
theorem PayKeep.trans {F:Nat→Prop}{p b lB sB:Nat}{A B C:World}(h:PayKeep F p b lB sB A B)(k:PayKeep F p b lB sB B C):PayKeep F p b lB sB A C:=⟨Nat.le_trans h.1 k.1,λi hi=>(k.2 i hi).trans (h.2 i hi)⟩
theorem tp.all_lt {w:World}{F:Nat→Prop}{g p b:Nat}{st:cZ}{l:kR}(h:tp w F g p b st l)(k:Nat)(hk:uc F p b k):k<w.heap.size:=by
 rcases hk with hk|rfl|rfl|rfl
 ·exact h.lt k hk
 ·exact h.dk.lt
 ·exact h.dk.own.lt
 ·exact bR h.pow
end
section
open Go.RowKit Go.Shelf
attribute [local go_sem] Oper.semAt_some
structure RnAt (w W:World) (x o:Nat) (q r:Int) (pre:List RdX):Prop where
 a0:W.heap[x]?=some (.cells #[.int .i64 q] 2 (0,0))
 a1:W.heap[x+1]?=some (.cells #[.int .i64 r] 2 (0,0))
 a2:W.heap[x+1+1]?=some (.cells #[.slice none 0 0] 70 (0,0))
 a3:W.heap[x+1+1+1]?=some (.cells #[.int .i64 0] 26 (0,0))
 box:∃v,W.heap[o]?=some (.cells #[v] 70 (0,0))∧W.ownsRow (o+5) 9 1 v pre.length (pre.map λy=>.string y.p)
 below:Below x w W
theorem RnAt.bears {w W W':World}{x o:Nat}{q r:Int}{pre:List RdX}(hx:x+4≤o)(h:RnAt w W x o q r pre)(hf:Fr (λk=>o+1≤k∧k<o+5) W W'):RnAt w W' x o q r pre:=by
 obtain⟨v,h1,h2⟩:=h.box;exact⟨hf.heapAt h.a0 (by omega),hf.heapAt h.a1 (by omega),hf.heapAt h.a2 (by omega),hf.heapAt h.a3 (by omega),⟨v,hf.heapAt h1 (by omega),hf.ownsRow h2 (λk e=>by have:=oC h2 e;omega)⟩,
  h.below.trans (hf.below (B:=x) (by have:=lt_of_block h.a0;omega) (λk hk=>by omega))⟩
theorem ui {l:kR}{q0:Nat}{pre:List RdX}(h:ud l q0 pre){n:Nat}(hn:pre.length=n){k:Nat}(hk:k=q0-l.first.toNat)(hl:k+n≤l.all.length) :
  ((l.all.drop k).take n).map encStr=pre.map (λy=>Value.string y.p)∧((l.all.drop k).take n).length=pre.length:=by
 have hlen:((l.all.drop k).take n).length=pre.length:=by rw[List.length_take,List.length_drop];omega
 refine⟨List.ext_getElem (by simpa using hlen) λi h1 h2=>?_,hlen⟩;have hi:i<pre.length:=by simpa using h2
 rw[List.getElem_map,List.getElem_map,List.getElem_take,List.getElem_drop];have e:=(h i hi).2;rw[← hk]at e;unfold kR.at at e;rw[List.getElem?_eq_getElem (by omega)]at e;exact(jP e).symm
def uj (w:World)(x o n:Nat)(q r:Int)(pre:List RdX)(W:World):Prop:=RnAt w W x o q r pre∧pre.length<n
def uk (w:World)(x o n:Nat)(q r:Int)(c:Code)(pre:List RdX)(W:World):Prop:=(c = .exit 1∧pre.length=n∧RnAt w W x o q r pre)∨∃y∈pre,y.e≠0
theorem ul (w:World)(F:Nat→Prop)(g p b:Nat)(st:cZ)(l:kR)(h:tp w F g p b st l)(hon:LgOn st l)(hlit:st.dark=false)(q r:Nat)(h1:l.first≤(q:Int))(h2:q<r)(h3:r≤l.next) :
  Calls prog 44 #[.pointer (some ⟨g,0,none⟩),.int .i64 (q:Int),.int .i64 (r:Int)] w λe w'=>(∃v,e = .returned (.tuple #[v,.int .i64 0])∧rX w' w.heap.size v ((l.all.drop (q-l.first.toNat)).take (r-q)))∧Below w.heap.size w w':=by
 have H:=hid h;have HON:=hid hon;have htop:=h.ok.top;have hfew:=h.ok.few;have hlen:=h.ok.len;have hpos:=h.ok.pos;clear h hon;refine(callsIn_wide (n:=6)).1 ?_;refine callsIn_of_wp_marks func44 rfl trivial ?_ rfl;simp only[ntmps44,List.size_toArray,List.length_cons,List.length_nil,Nat.reduceAdd,Nat.reduceSub,Array.replicate_succ,Array.replicate_zero,List.push_toArray,List.append_toArray,List.nil_append,List.cons_append];obtain⟨w1,hw1⟩:∃w1,w1=(((w.alloc (.cells #[.int .i64 (q:Int)] 2)).alloc (.cells #[.int .i64 (r:Int)] 2)).alloc (.cells #[.slice none 0 0] 70)).alloc (.cells #[.int .i64 0] 26):=⟨_,rfl⟩;obtain⟨x,hx⟩:∃x,x=w.heap.size:=⟨_,rfl⟩;have hsz:w1.heap.size=x+4:=by rw[hw1,hx];simp
 have hbz:Below w.heap.size w w1:=by rw[hw1];exact((((Below.refl _ _).alloc (Nat.le_refl _) _).alloc (by simp) _).alloc (by simp;omega) _).alloc (by simp;omega) _
 have k0:w1.heap[x]?=some (.cells #[.int .i64 (q:Int)] 2 (0,0)):=by
  rw[hw1,hx];exact(Below.heap_alloc _ _ _ (by simp;omega)).trans ((Below.heap_alloc _ _ _ (by simp;omega)).trans ((Below.heap_alloc _ _ _ (by simp)).trans (heap_alloc_new _ _)))
 have k1:w1.heap[x+1]?=some (.cells #[.int .i64 (r:Int)] 2 (0,0)):=by
  rw[hw1,hx];exact(Below.heap_alloc _ _ _ (by simp)).trans ((Below.heap_alloc _ _ _ (by simp)).trans (oB _ _ (by simp)))
 have k2:w1.heap[x+1+1]?=some (.cells #[.slice none 0 0] 70 (0,0)):=by
  rw[hw1,hx];exact(Below.heap_alloc _ _ _ (by simp)).trans (oB _ _ (by simp))
 have k3:w1.heap[x+1+1+1]?=some (.cells #[.int .i64 0] 26 (0,0)):=by
  rw[hw1,hx];exact oB _ _ (by simp)
 have c0:w1.cell? ⟨x,0,none⟩=some (.int .i64 (q:Int)):=(cell_of_row _ _ _ _ _ _ k0).trans rfl;have c1:w1.cell? ⟨x+1,0,none⟩=some (.int .i64 (r:Int)):=(cell_of_row _ _ _ _ _ _ k1).trans rfl;have HK:=hid (And.intro k0 (And.intro k1 (And.intro k2 k3)));have HB:=hid hbz;have HX:=hid hx;clear k0 k1 k2 k3 hbz;have d0:decide ((q:Int)<0)=false:=by simp
 have d1:decide (r<q)=false:=by simp;omega
 gi_wp2_with fail
 rw[← hw1,← hx];clear hw1 hx;refine wpIn_wide.2 ?_;have hnf:decide ((q:Int)<l.first)=false:=by simp;omega
 go_region_held3 (λw'=>w'.cell? ⟨x,0,none⟩=some (.int .i64 (q:Int))) (first|exact c0|go_keep) (first
   | (go_at_call 19;refine(s9 _ F g p l (H.out.pure (by first|exact HB.out|exact HB.out.drew)).lg (by omega)).mono ?_;rintro e w2 ⟨rfl,rfl⟩))
 have hnn:decide ((l.next:Int)<(r:Int))=false:=by simp;omega
 have hn9:decide (l.next<r)=false:=by simp;omega
 gi_wp2_with fail
 refine wpIn_wide.2 ?_;have c0d:w1.drew.cell? ⟨x,0,none⟩=some (.int .i64 (q:Int)):=c0;have c1d:w1.drew.cell? ⟨x+1,0,none⟩=some (.int .i64 (r:Int)):=c1
 go_region_held3 (λw'=>w'.cell? ⟨x+1,0,none⟩=some (.int .i64 (r:Int))) (first|exact c1d|exact x1|go_keep) (first
   | (go_at_call 20;refine(sZ _ F g p l (H.out.pure (by first|exact HB.out.drew|exact HB.out.drew.drew)).lg (by omega) (by omega)).mono ?_;rintro e w2 ⟨rfl,hb2⟩;have HB2:=hid ((show Below w1.heap.size w1 _ by first|exact(Below.refl _ _).drew|exact(Below.refl _ _).drew.drew).trans hb2);have x1:=(HB2.out.cell (p:=⟨x+1,0,none⟩) (by have:=aw c1;omega)).trans c1;clear hb2))
 have x0:=(HB2.out.cell (p:=⟨x,0,none⟩) (by have:=aw c0;omega)).trans c0;have hx2:x<w2.heap.size:=aw x0;have x0a:∀o,(w2.alloc o).cell? ⟨x,0,none⟩=some (.int .i64 (q:Int)):=λo=>by rw[World.cell?_alloc_past _ _ _ hx2];exact x0
 have hqr:decide ((q:Int)=(r:Int))=false:=by simp;omega
 have hqr2:((q:Int) == (r:Int))=false:=by rw[beq_eq_false_iff_ne];omega
 gi_wp2_with fail
 have hs2:x+4≤w2.heap.size:=by have:=HB2.out.size;omega
 have HK2:=hid (show w2.heap[x]?=_∧w2.heap[x+1]?=_∧w2.heap[x+1+1]?=_∧w2.heap[x+1+1+1]?=_ from⟨(HB2.out.block _ (lt_of_block HK.out.1)).trans HK.out.1,(HB2.out.block _ (lt_of_block HK.out.2.1)).trans HK.out.2.1,(HB2.out.block _ (lt_of_block HK.out.2.2.1)).trans HK.out.2.2.1,(HB2.out.block _ (lt_of_block HK.out.2.2.2)).trans HK.out.2.2.2⟩);refine⟨trivial,?_⟩;refine(callsIn_wide.2 (uh g (q:Int) _)).mono ?_;rintro e w3 ⟨rfl,rfl⟩
 gi_wp2
 obtain⟨W0,hW0⟩:∃W0,W0=((w2.alloc (.cells #[.slice none 0 0] 70)).alloc (.cells #[.pointer (some ⟨g,0,none⟩)] 25)).alloc (.cells #[.int .i64 (q:Int)] 2):=⟨_,rfl⟩;obtain⟨o,ho⟩:∃o,o=w2.heap.size:=⟨_,rfl⟩;have hsz0:W0.heap.size=o+3:=by rw[hW0,ho];simp
 have hbel:Below w2.heap.size w2 W0:=by rw[hW0];exact(((Below.refl _ _).alloc (Nat.le_refl _) _).alloc (by simp) _).alloc (by simp;omega) _
 have kO:W0.heap[o]?=some (.cells #[.slice none 0 0] 70 (0,0)):=by
  rw[hW0,ho];exact(Below.heap_alloc _ _ _ (by simp;omega)).trans ((Below.heap_alloc _ _ _ (by simp)).trans (heap_alloc_new _ _))
 have kL:W0.heap[o+1]?=some (.cells #[.pointer (some ⟨g,0,none⟩)] 25 (0,0)):=by
  rw[hW0,ho];exact(Below.heap_alloc _ _ _ (by simp)).trans (oB _ _ (by simp))
 have kS:W0.heap[o+1+1]?=some (.cells #[.int .i64 (q:Int)] 2 (0,0)):=by
  rw[hW0,ho];exact oB _ _ (by simp)
 have hbw2:Below w.heap.size w w2:=HB.out.trans (HB2.out.mono HB.out.size);have hbw:Below w.heap.size w W0:=hbw2.trans (hbel.mono hbw2.size);have henv:=H.out.pure hbw;have hfar:∀k,uc F p b k→k<x:=λk hk=>by rw[HX.out];exact H.out.all_lt k hk
 have hgt:uj w x o (r-q) (q:Int) (r:Int) [] W0:=by
  refine⟨⟨(hbel.block _ (by omega)).trans HK2.out.1,(hbel.block _ (by omega)).trans HK2.out.2.1,(hbel.block _ (by omega)).trans HK2.out.2.2.1,(hbel.block _ (by omega)).trans HK2.out.2.2.2,⟨_,kO,World.ownsRow_nil _ _ _ _⟩,by rw[HX.out];exact hbw⟩,by simp;omega⟩
 rw[← hW0,← ho];have hox:x+4≤o:=by omega
 have HENV:=hid henv;have HKS:=hid (And.intro kL kS);have HGT:=hid hgt;have HFAR:=hid hfar;clear hW0 hbel kO kL kS hbw2 hbw henv hgt hfar x0 x1 x0a hx2 ho c0 c1 c0d c1d hs2 hsz;obtain⟨i0,hi,hz0,hz1,hz2⟩:=info_parts Tryz.infoStr;have HI:=hid hi;have HZ0:=hid hz0;have HZ1:=hid hz1;have HZ2:=hid hz2;clear hi hz0 hz1 hz2;refine tM (n:=6) rfl (by omega) (gf:=153) rfl trivial (enters_of func153 (by kernel_rfl) rfl)
  (ug W0 F g p b st l HENV.out HON.out hlit (o+1+1) (o+1) q h1 HKS.out.2 HKS.out.1 (by omega) (λhk=>by have:=HFAR.out _ hk;omega) (r-q) (by omega))
  (λk hk=>by omega) (λh k=>PayKeep.trans h k)
  (λW ob h=>⟨by rw[World.putObj_size];exact Nat.le_refl _,λk hk=>World.putObj_heap_other (by
   rcases hk with hk|rfl|rfl
   ·have:=HFAR.out k hk;omega
   ·omega
   ·omega)⟩) (λ_=>rfl)
  (uj w x o (r-q) (q:Int) (r:Int)) (uk w x o (r-q) (q:Int) (r:Int)) ?bears ?bears2 HGT.out (λpre W h=>h.2)
  (λpre y a' W=>uj w x o (r-q) (q:Int) (r:Int) pre W∧a'={ tmps:=#[.pointer (some ⟨g,0,none⟩),.int .i64 (q:Int),.int .i64 (r:Int),undef,.pointer (some ⟨x,0,none⟩),.pointer (some ⟨x+1,0,none⟩),.pointer (some ⟨x+1+1,0,none⟩),.pointer (some ⟨x+1+1+1,0,none⟩),.pointer (some ⟨o,0,none⟩),.string y.p,.int .i64 y.e,.bool false,.pointer (some ⟨g,0,none⟩),.bool false,.bool false,.int .i64 (q:Int),.bool false,.bool false,.int .i64 (q:Int),.int .i64 (r:Int),.bool false,.bool false,.bool false,.int .i64 (q:Int),.pointer (some ⟨g,0,none⟩),.int .i64 l.first,.bool false,.bool false,.int .i64 (r:Int),.pointer (some ⟨g,0,none⟩),.int .i64 (l.next:Int),.bool false,.bool false,.int .i64 (q:Int),.int .i64 (r:Int),.bool false,.pointer (some ⟨g,0,none⟩),.int .i64 (q:Int),.func (.func 153) #[] #[.pointer (some ⟨o+1+1,0,none⟩),.pointer (some ⟨o+1,0,none⟩)],.string y.p,.int .i64 y.e,undef,undef,undef,undef,undef,undef,undef,undef,undef,undef,undef,undef,undef,undef],defers:=[] })
  ?hA ?assign ?body ?done ?stop
 case bears=>exact λpre W1 W2 h hf=>⟨h.1.bears hox (hf.mono (λi _ e=>by omega)),h.2⟩
 case bears2=>
  rintro c pre W1 W2 h hf;exact h.imp (λh=>⟨h.1,h.2.1,h.2.2.bears hox (hf.mono (λi _ e=>by omega))⟩) id
 case hA=>
  rintro pre y a' W ob hlt ⟨h1,h2⟩;exact⟨⟨h1.1.bears hox ((Fr.refl _ W).putObj _ (λ_=>by omega) ob),h1.2⟩,h2⟩
 case assign=>
  intro pre y W K hlt hI hK;have HI:=hid hI;have HK:=hid hK;clear hI hK;unfold tN
  gi_wp2
  exact HK.out _ _ ⟨HI.out,rfl⟩ (m8.refl _ _) (Nat.le_refl _) ⟨Nat.le_refl _,λ_ _=>rfl⟩
 case body=>
  rintro pre y a' W hlt ⟨⟨hg,hpn⟩,rfl⟩ hlen;have c0:W.cell? ⟨x,0,none⟩=some (.int .i64 (q:Int)):=(cell_of_row _ _ _ _ _ _ hg.a0).trans rfl;have c1:W.cell? ⟨x+1,0,none⟩=some (.int .i64 (r:Int)):=(cell_of_row _ _ _ _ _ _ hg.a1).trans rfl;have c2:W.cell? ⟨x+1+1,0,none⟩=some (.slice none 0 0):=(cell_of_row _ _ _ _ _ _ hg.a2).trans rfl;have c3:W.cell? ⟨x+1+1+1,0,none⟩=some (.int .i64 0):=(cell_of_row _ _ _ _ _ _ hg.a3).trans rfl;have z2:W.frozen? ⟨x+1+1,0,none⟩=false:=frozen_of_row _ _ 0 _ _ hg.a2;have z3:W.frozen? ⟨x+1+1+1,0,none⟩=false:=frozen_of_row _ _ 0 _ _ hg.a3;obtain⟨v,hv,hrow⟩:=hg.box;have cO:W.cell? ⟨o,0,none⟩=some v:=(cell_of_row _ _ _ _ _ _ hv).trans rfl;have zO:W.frozen? ⟨o,0,none⟩=false:=frozen_of_row _ _ 0 _ _ hv;have HG:=hid hg;have HR:=hid hrow;have HV:=hid hv;have HRNE:=hid (show ∀k,k<o+5→some k≠v.ownBlock from λk hk e=>by have:=oC HR.out e.symm;omega);clear hg hv hrow;obtain⟨yp,ye⟩:=y;by_cases hy0:ye=0
  ·subst hy0
   by_cases hL:pre.length+1=r-q
   ·have hE:((pre.length:Int)+1)=(r:Int)-(q:Int):=by omega
    have hE2:(((pre.length:Int)+1) == (r:Int)-(q:Int))=true:=by rw[beq_iff_eq];omega
    have HL:=hid hL;clear hL
    gi_wp2_with (gi_at_builtin;refine wpListIn_append_own _ rfl _ _ 70 rfl (o+5) 9 i0 _ 1 16 underlying70 HI.out HZ0.out HZ1.out HZ2.out rfl (by decide) _ _ _ rfl (HR.out.alloc _) ⟨W.heap.size,0,none⟩ 1 1 [.string yp] rfl rfl ?_ ?_ ?_ ?_ ?_ ?_;exact aC rfl rfl;simp[Value.oneCell'];(unfold maxLen;omega);omega;(rw[World.size_alloc];omega);intro v' w1 hown' hgrow0 _;have hgrow:(W.alloc (.cells #[.string yp] 9)).grownBy w1 v.ownBlock:=hgrow0;clear hgrow0;obtain⟨g',cap',rfl⟩:=ownsRow_succ hown';have hkeep:∀k,k<o+5→w1.heap[k]?=W.heap[k]?:=λk hk=>(hgrow.block k (by rw[World.size_alloc];omega) (HRNE.out k hk)).trans (Below.heap_alloc _ _ _ (by omega));have c0:w1.cell? ⟨x,0,none⟩=some (.int .i64 (q:Int)):=(cell_of_row _ _ _ _ _ _ ((hkeep x (by omega)).trans HG.out.a0)).trans rfl;have c1:w1.cell? ⟨x+1,0,none⟩=some (.int .i64 (r:Int)):=(cell_of_row _ _ _ _ _ _ ((hkeep (x+1) (by omega)).trans HG.out.a1)).trans rfl;have hvO:=(hkeep o (by omega)).trans HV.out;have cO:w1.cell? ⟨o,0,none⟩=some v:=(cell_of_row _ _ _ _ _ _ hvO).trans rfl;have zO:=frozen_of_row _ _ 0 _ _ hvO;have HVO:=hid hvO;have HKP:=hid hkeep;have HO:=hid hown';have HGR:=hid hgrow;clear hown' hgrow hkeep hvO)
    have hgb:o+5≤g':=oC HO.out rfl;have hf1:Fr (λk=>v.ownBlock=some k) W w1:=((Fr.refl (λk=>v.ownBlock=some k) W).alloc _).grown HGR.out (λk _ e=>e);have hf:Fr (λk=>k=o∨v.ownBlock=some k) W (w1.setCell ⟨o,0,none⟩ (.slice (some ⟨g',0,none⟩) (pre.length+1) cap')):=(hf1.mono (λi _ e=>.inr e)).setCell ⟨o,0,none⟩ (λ_=>.inl rfl) _;have hno:∀k,k<o+5→k≠o→¬(k=o∨v.ownBlock=some k):=λk h1 h2 e=>by
     rcases e with e|e
     ·exact h2 e
     ·exact HRNE.out k h1 e.symm
    have hat:RnAt w (w1.setCell ⟨o,0,none⟩ (.slice (some ⟨g',0,none⟩) (pre.length+1) cap')) x o (q:Int) (r:Int) (pre++[⟨yp,0⟩]):=by
     refine⟨hf.heapAt HG.out.a0 (hno _ (by omega) (by omega)),hf.heapAt HG.out.a1 (hno _ (by omega) (by omega)),hf.heapAt HG.out.a2 (hno _ (by omega) (by omega)),hf.heapAt HG.out.a3 (hno _ (by omega) (by omega)),⟨_,one_setCell HVO.out,?_⟩,HG.out.below.trans (hf.below (B:=x) (by omega) (λk hk e=>hno k (by omega) (by omega) e))⟩;rw[List.map_append,List.length_append,List.length_singleton];exact ownsRow_setCell_other HO.out (by simp[Value.ownBlock];omega) _
    exact⟨m8.fr hf hlt (hno _ (by omega) (by omega)) (hno _ (by omega) (by omega)),.inl ⟨rfl,by rw[List.length_append,List.length_singleton];exact HL.out,hat⟩⟩
   ·have hE:¬((pre.length:Int)+1)=(r:Int)-(q:Int):=by omega
    have hE2:(((pre.length:Int)+1) == (r:Int)-(q:Int))=false:=by rw[beq_eq_false_iff_ne];omega
    gi_wp2_with (gi_at_builtin;refine wpListIn_append_own _ rfl _ _ 70 rfl (o+5) 9 i0 _ 1 16 underlying70 HI.out HZ0.out HZ1.out HZ2.out rfl (by decide) _ _ _ rfl (HR.out.alloc _) ⟨W.heap.size,0,none⟩ 1 1 [.string yp] rfl rfl ?_ ?_ ?_ ?_ ?_ ?_;exact aC rfl rfl;simp[Value.oneCell'];(unfold maxLen;omega);omega;(rw[World.size_alloc];omega);intro v' w1 hown' hgrow0 _;have hgrow:(W.alloc (.cells #[.string yp] 9)).grownBy w1 v.ownBlock:=hgrow0;clear hgrow0;obtain⟨g',cap',rfl⟩:=ownsRow_succ hown';have hkeep:∀k,k<o+5→w1.heap[k]?=W.heap[k]?:=λk hk=>(hgrow.block k (by rw[World.size_alloc];omega) (HRNE.out k hk)).trans (Below.heap_alloc _ _ _ (by omega));have c0:w1.cell? ⟨x,0,none⟩=some (.int .i64 (q:Int)):=(cell_of_row _ _ _ _ _ _ ((hkeep x (by omega)).trans HG.out.a0)).trans rfl;have c1:w1.cell? ⟨x+1,0,none⟩=some (.int .i64 (r:Int)):=(cell_of_row _ _ _ _ _ _ ((hkeep (x+1) (by omega)).trans HG.out.a1)).trans rfl;have hvO:=(hkeep o (by omega)).trans HV.out;have cO:w1.cell? ⟨o,0,none⟩=some v:=(cell_of_row _ _ _ _ _ _ hvO).trans rfl;have zO:=frozen_of_row _ _ 0 _ _ hvO;have HVO:=hid hvO;have HKP:=hid hkeep;have HO:=hid hown';have HGR:=hid hgrow;clear hown' hgrow hkeep hvO)
    have hgb:o+5≤g':=oC HO.out rfl;have hf1:Fr (λk=>v.ownBlock=some k) W w1:=((Fr.refl (λk=>v.ownBlock=some k) W).alloc _).grown HGR.out (λk _ e=>e);have hf:Fr (λk=>k=o∨v.ownBlock=some k) W (w1.setCell ⟨o,0,none⟩ (.slice (some ⟨g',0,none⟩) (pre.length+1) cap')):=(hf1.mono (λi _ e=>.inr e)).setCell ⟨o,0,none⟩ (λ_=>.inl rfl) _;have hno:∀k,k<o+5→k≠o→¬(k=o∨v.ownBlock=some k):=λk h1 h2 e=>by
     rcases e with e|e
     ·exact h2 e
     ·exact HRNE.out k h1 e.symm
    have hat:RnAt w (w1.setCell ⟨o,0,none⟩ (.slice (some ⟨g',0,none⟩) (pre.length+1) cap')) x o (q:Int) (r:Int) (pre++[⟨yp,0⟩]):=by
     refine⟨hf.heapAt HG.out.a0 (hno _ (by omega) (by omega)),hf.heapAt HG.out.a1 (hno _ (by omega) (by omega)),hf.heapAt HG.out.a2 (hno _ (by omega) (by omega)),hf.heapAt HG.out.a3 (hno _ (by omega) (by omega)),⟨_,one_setCell HVO.out,?_⟩,HG.out.below.trans (hf.below (B:=x) (by omega) (λk hk e=>hno k (by omega) (by omega) e))⟩;rw[List.map_append,List.length_append,List.length_singleton];exact ownsRow_setCell_other HO.out (by simp[Value.ownBlock];omega) _
    exact⟨m8.fr hf hlt (hno _ (by omega) (by omega)) (hno _ (by omega) (by omega)),⟨hf.size,λk hk=>hf.block _ (by rcases hk with hk|rfl|rfl;have:=HFAR.out k hk;omega;omega;omega) (by rcases hk with hk|rfl|rfl;exact hno _ (by have:=HFAR.out k hk;omega) (by have:=HFAR.out k hk;omega);exact hno _ (by omega) (by omega);exact hno _ (by omega) (by omega))⟩,hat,by rw[List.length_append,List.length_singleton];omega⟩
  ·have hye:(ye == 0)=false:=by simpa using hy0
   have hyn:(ye != 0)=true:=by simpa using hy0
   have HY0:=hid hy0;clear hy0
   gi_wp2
   have hf:Fr (λk=>k=x+1+1∨k=x+1+1+1) W ((W.setCell ⟨x+1+1,0,none⟩ (.slice none 0 0)).setCell ⟨x+1+1+1,0,none⟩ (.int .i64 ye)):=((Fr.refl (λk=>k=x+1+1∨k=x+1+1+1) W).setCell ⟨x+1+1,0,none⟩ (λ_=>.inl rfl) _).setCell ⟨x+1+1+1,0,none⟩ (λ_=>.inr rfl) _;exact⟨m8.fr hf hlt (by omega) (by omega),.inr ⟨⟨yp,ye⟩,by simp,HY0.out⟩⟩
 case done=>exact λxs W h=>h.elim
 case stop=>
  rintro c pre W hsp hst hK
  rcases hst with⟨rfl,hlen,hg⟩|⟨y,hy,hne⟩
  rotate_left
  ·obtain⟨i,hi,rfl⟩:=List.getElem_of_mem hy
   exact absurd (hsp i hi).1 hne
  obtain⟨v,hv,hrow⟩:=hg.box;obtain⟨a0,n0,k0,rfl⟩:=aB hrow;have cO:W.cell? ⟨o,0,none⟩=some (.slice a0 n0 k0):=(cell_of_row _ _ _ _ _ _ hv).trans rfl;have c2:W.cell? ⟨x+1+1,0,none⟩=some (.slice none 0 0):=(cell_of_row _ _ _ _ _ _ hg.a2).trans rfl;have c3:W.cell? ⟨x+1+1+1,0,none⟩=some (.int .i64 0):=(cell_of_row _ _ _ _ _ _ hg.a3).trans rfl;have z2:W.frozen? ⟨x+1+1,0,none⟩=false:=frozen_of_row _ _ 0 _ _ hg.a2;have z3:W.frozen? ⟨x+1+1+1,0,none⟩=false:=frozen_of_row _ _ 0 _ _ hg.a3;have HSP:=hid hsp;have HKW:=hid hK;have HG:=hid hg;have HR:=hid hrow;have HLN:=hid hlen;clear hsp hK hg hrow hv hlen
  gi_wp2
  obtain⟨W2,hW2⟩:∃W2,W2=(W.setCell ⟨x+1+1,0,none⟩ (.slice a0 n0 k0)).setCell ⟨x+1+1+1,0,none⟩ (.int .i64 0):=⟨_,rfl⟩;have hf:Fr (λk=>k=x+1+1∨k=x+1+1+1) W W2:=by rw[hW2];exact((Fr.refl (λk=>k=x+1+1∨k=x+1+1+1) W).setCell ⟨x+1+1,0,none⟩ (λ_=>.inl rfl) _).setCell ⟨x+1+1+1,0,none⟩ (λ_=>.inr rfl) _
  have hK2:W2.heap[W0.heap.size]?=some (.deferred (some [])):=hf.heapAt HKW.out (by omega);have h2:W2.heap[x+1+1]?=some (.cells #[.slice a0 n0 k0] 70 (0,0)):=by rw[hW2];exact(Below.heap_setCell _ _ _ _ (by simp)).trans (one_setCell HG.out.a2)
  have h3:W2.heap[x+1+1+1]?=some (.cells #[.int .i64 0] 26 (0,0)):=by rw[hW2];exact one_setCell ((Below.heap_setCell _ _ _ _ (by simp)).trans HG.out.a3)
  rw[← hW2];refine⟨by simp,.inl ⟨_,_,rfl,run_takeDeferred hK2,?_⟩⟩;have hf3:Fr (λk=>k=x+1+1∨k=x+1+1+1∨k=W0.heap.size) W (W2.putObj W0.heap.size (.deferred none)):=(hf.mono (λi _ e=>by omega)).putObj _ (λ_=>.inr (.inr rfl)) _;have r0:(W2.putObj W0.heap.size (.deferred none)).cell? ⟨x+1+1,0,none⟩=some (.slice a0 n0 k0):=(cell_of_row _ _ _ _ _ _ ((World.putObj_heap_other (by omega)).trans h2)).trans rfl;have r1:(W2.putObj W0.heap.size (.deferred none)).cell? ⟨x+1+1+1,0,none⟩=some (.int .i64 0):=(cell_of_row _ _ _ _ _ _ ((World.putObj_heap_other (by omega)).trans h3)).trans rfl;refine⟨.tuple #[.slice a0 n0 k0,.int .i64 0],by simp[results,results44,go_sem,r0,r1],⟨_,rfl,?_⟩,?_⟩
  ·have hrow:=az (hf3.ownsRow HR.out (λk e=>by have:=oC HR.out e;omega)) (base':=w.heap.size) (λk e=>by have:=oC HR.out e;have:=HX.out;omega)
   have hnx:=mf H.out.ok (by omega);have hfe:=mc H.out.ok (by omega);have e:=ui HSP.out (n:=r-q) HLN.out (k:=q-l.first.toNat) rfl (by omega);unfold rX;rw[e.1,e.2];exact hrow
  ·rw[← HX.out];exact HG.out.below.trans (hf3.below (B:=x) (by have:=lt_of_block HG.out.a0;omega) (λk hk e=>by omega))
end
end Go.Proofs.YthjjgcfdhkhelaaGreatDoor
