/- The walk of index.Build. -/
import Derived.Deep.RegionLawGrows
import Derived.Test.YthjjgcfdhkhelaaGreatDoorQAp
set_option maxHeartbeats 4000000
set_option maxRecDepth 100000
open Go.Lib(hid)
open Go.Proofs.Tryz
namespace Go.Proofs.YthjjgcfdhkhelaaGreatDoor
section
open Go.RowKit
theorem oR.ne {w:World}{x ev q nx g:Nat}{sv:Value}{l:bI}(h:oR w x ev q nx g sv l):sv.ownBlock≠some x:=by
 intro e
 rcases h.own.2 with⟨rfl,_⟩|⟨g2,cp,cu,rfl,_,hg2,_⟩
 ·cases e
 ·obtain rfl:=Option.some.inj e
  have:=h.cell.symm.trans hg2;cases this
def ph (ev q nx a:Nat)(l:bI):bI:=if (nx-q) % ev=0 then l++[((nx:Int),(a:Int))] else l
def pi (x ev q nx g:Nat)(sv:Value)(l:bI)(w:World)(e:Ending)(w':World):Prop:=
 e = .returned (.tuple #[])∧∃sv',oR w' x ev q nx g sv' l∧aA w sv sv'∧Fr (λk=>k=x) w w'
theorem pj (w:World)(x ev q nx g a:Nat)(sv:Value)(l:bI)(h:oR w x ev q nx g sv l)(hev:1≤ev)(hev2:ev≤64)(hq:q≤nx)(hnx:nx≤2097152)(hl:l.length≤2097152) :
  Calls prog 102 #[.pointer (some ⟨x,0,none⟩),.int .i64 (a:Int)] w λe w'=>pi x ev q (nx+1) g sv (ph ev q nx a l) w e w':=by
 obtain⟨c0,c1,c2,c3,c4⟩:=h.cs;have z:=h.fz;obtain⟨a0,n0,k0,rfl⟩:=aB h.own;have hn0:n0=l.length:=by
  rcases h.own.2 with⟨e,h0⟩|⟨_,_,_,e,_⟩
  ·cases e;exact h0.symm
  ·cases e;rfl
 have hk0:n0≤k0:=by
  rcases h.own.2 with⟨e,h0⟩|⟨_,_,_,e,_,_,hc,_⟩
  ·cases e;exact Nat.le_refl _
  ·cases e;exact hc
 have hnone:a0=none→n0=0:=λe=>by
  rcases h.own.2 with⟨e2,h0⟩|⟨_,_,_,e2,_⟩
  ·cases e2;rfl
  ·cases e2;cases e
 have holds:∀(b:Addr),a0=some b→∀j u,(gJ l)[j]?=some u→w.cell? (b.add j)=some u:=λb e=>by
  rcases h.own.2 with⟨e2,h0⟩|⟨g,_,_,e2,_⟩
  ·cases e2;cases e
  ·cases e2;cases e;exact h.own.cells (g:=g) rfl
 subst hn0;have H:=hid h;have HN:=hid hnone;have HO:=hid holds;have hxl:=h.lt;clear h hnone holds;have e1:IntKind.i64.wrap ((nx:Int)-(q:Int))=((nx-q:Nat):Int):=by rw[IntWalk.i64_in _ (by omega)];omega
 by_cases hr:(nx-q) % ev=0
 ·have hrb:(((nx-q:Nat):Int) % (ev:Int) == 0)=true:=by rw[beq_iff_eq];omega
  have HL:=hid (show ph ev q nx a l=l++[((nx:Int),(a:Int))]from by unfold ph;rw[if_pos hr]);clear hr;obtain⟨i0,hi,hz0,hz1,hz2⟩:=info_parts Tryz.infoMark;have HI:=hid hi;have HZ0:=hid hz0;have HZ1:=hid hz1;have HZ2:=hid hz2;clear hi hz0 hz1 hz2
  go_enter func102,ntmps102
  go_wp2
  go_quiet (fail)
  obtain⟨w1,hw1⟩:∃w1,w1=w.drewN nq:=⟨_,rfl⟩;have hc:∀p,w1.cell? p=w.cell? p:=λp=>by rw[hw1];simp
  have hf:∀p,w1.frozen? p=w.frozen? p:=λp=>by rw[hw1];simp
  rw[← hc]at c0 c1 c2 c3 c4;have z1:∀j:Nat,w1.frozen? ⟨x,j,none⟩=false:=λj=>(hf _).trans (z j);have hs1:w1.heap.size=w.heap.size:=by rw[hw1];rfl
  have hx1:x<w1.heap.size:=by omega
  rw[← hw1];have HS1:=hid hs1;have HX1:=hid (show w1.heap[x]?=some (.cells #[.int .i64 (ev:Int),.int .i64 (q:Int),.int .i64 (nx:Int),.int .i64 (g:Int),.slice a0 l.length k0] 164 (0,0))from by rw[hw1];exact H.out.cell);have HW1:=hid hw1;have HC:=hid hc;clear hw1 hc hf z e1 hrb hs1 c0 c1 c3 hev hev2 hq;clear hxl;go_wp2;refine pg (S:=(λw':World=>w'.cell? ⟨x,4,none⟩=some (.slice a0 l.length k0)∧w'.cell? ⟨x,2,none⟩=some (.int .i64 (nx:Int)))) 26 (by kernel_rfl) ?_;have hHeld:(λw':World=>w'.cell? ⟨x,4,none⟩=some (.slice a0 l.length k0)∧w'.cell? ⟨x,2,none⟩=some (.int .i64 (nx:Int))) w1.drew:=⟨c4,c2⟩;refine oZ (i:=0) (oi:=_) (v:=?_) (by simp only[List.getElem?_toArray,List.getElem?_cons_zero];rfl) (by kernel_rfl) (by kernel_rfl) (by kernel_rfl) (by kernel_rfl) (by exact λ_ _ _ h=>h) (Or.inl ⟨by rfl,?_⟩) (by assumption) ?_;rotate_left
  ·(intro w hSw;(try dsimp only at hSw);go_simp;try with_reducible rfl)
  simp only[Act.put,List.setIfInBounds_toArray,List.set_cons_zero,List.set_cons_succ];refine oZ (i:=1) (oi:=_) (v:=?_) (by simp only[List.getElem?_toArray,List.getElem?_cons_succ,List.getElem?_cons_zero];rfl) (by kernel_rfl) (by kernel_rfl) (by kernel_rfl) (by kernel_rfl) (by exact λ_ _ _ h=>h) (Or.inl ⟨by rfl,?_⟩) (by assumption) ?_;rotate_left
  ·(intro w hSw;(try dsimp only at hSw);go_simp;try with_reducible rfl)
  simp only[Act.put,List.setIfInBounds_toArray,List.set_cons_zero,List.set_cons_succ];refine oZ (i:=2) (oi:=_) (v:=?_) (by simp only[List.getElem?_toArray,List.getElem?_cons_succ,List.getElem?_cons_zero];rfl) (by kernel_rfl) (by kernel_rfl) (by kernel_rfl) (by kernel_rfl) (by exact λ_ _ _ h=>h) (Or.inl ⟨by rfl,?_⟩) (by assumption) ?_;rotate_left
  ·(intro w hSw;(try dsimp only at hSw);go_simp;try with_reducible rfl)
  simp only[Act.put,List.setIfInBounds_toArray,List.set_cons_zero,List.set_cons_succ];refine oZ (i:=3) (oi:=_) (v:=?_) (by simp only[List.getElem?_toArray,List.getElem?_cons_succ,List.getElem?_cons_zero];rfl) (by kernel_rfl) (by kernel_rfl) (by kernel_rfl) (by kernel_rfl) (by exact λ_ _ _ h=>h) (Or.inl ⟨by rfl,?_⟩) (by assumption) ?_;rotate_left
  ·(intro w hSw;(try dsimp only at hSw);go_simp;try with_reducible rfl)
  simp only[Act.put,List.setIfInBounds_toArray,List.set_cons_zero,List.set_cons_succ];refine oZ (i:=4) (oi:=_) (v:=?_) (by simp only[List.getElem?_toArray,List.getElem?_cons_succ,List.getElem?_cons_zero];rfl) (by kernel_rfl) (by kernel_rfl) (by kernel_rfl) (by kernel_rfl) (by exact λ_ _ _ h=>h) (Or.inl ⟨by rfl,?_⟩) (by assumption) ?_;rotate_left
  ·(intro w hSw;(try dsimp only at hSw);go_simp;try with_reducible rfl)
  simp only[Act.put,List.setIfInBounds_toArray,List.set_cons_zero,List.set_cons_succ];refine oZ (i:=5) (oi:=_) (v:=?_) (by simp only[List.getElem?_toArray,List.getElem?_cons_succ,List.getElem?_cons_zero];rfl) (by kernel_rfl) (by kernel_rfl) (by kernel_rfl) (by kernel_rfl) (by exact λ_ _ _ h=>h) (Or.inl ⟨by rfl,?_⟩) (by assumption) ?_;rotate_left
  ·(intro w hSw;(try dsimp only at hSw);go_simp;try with_reducible rfl)
  simp only[Act.put,List.setIfInBounds_toArray,List.set_cons_zero,List.set_cons_succ];refine oZ (i:=6) (oi:=_) (v:=?_) (by simp only[List.getElem?_toArray,List.getElem?_cons_succ,List.getElem?_cons_zero];rfl) (by kernel_rfl) (by kernel_rfl) (by kernel_rfl) (by kernel_rfl) (by exact λ_ _ _ h=>h) (Or.inl ⟨by rfl,?_⟩) (by assumption) ?_;rotate_left
  ·(intro w hSw;(try dsimp only at hSw);go_simp;try with_reducible rfl)
  simp only[Act.put,List.setIfInBounds_toArray,List.set_cons_zero,List.set_cons_succ];refine oZ (i:=7) (oi:=_) (v:=?_) (by simp only[List.getElem?_toArray,List.getElem?_cons_succ,List.getElem?_cons_zero];rfl) (by kernel_rfl) (by kernel_rfl) (by kernel_rfl) (by kernel_rfl) (by exact λ_ _ _ h=>h) (Or.inl ⟨by rfl,?_⟩) (by assumption) ?_;rotate_left
  ·(intro w hSw;(try dsimp only at hSw);go_simp;try with_reducible rfl)
  simp only[Act.put,List.setIfInBounds_toArray,List.set_cons_zero,List.set_cons_succ];refine oZ (i:=8) (oi:=_) (v:=?_) (by simp only[List.getElem?_toArray,List.getElem?_cons_succ,List.getElem?_cons_zero];rfl) (by kernel_rfl) (by kernel_rfl) (by kernel_rfl) (by kernel_rfl) (by exact λ_ _ _ h=>h) (Or.inl ⟨by rfl,?_⟩) (by assumption) ?_;rotate_left
  ·(intro w hSw;(try dsimp only at hSw);go_simp;try with_reducible rfl)
  simp only[Act.put,List.setIfInBounds_toArray,List.set_cons_zero,List.set_cons_succ];refine oZ (i:=9) (oi:=_) (v:=?_) (by simp only[List.getElem?_toArray,List.getElem?_cons_succ,List.getElem?_cons_zero];rfl) (by kernel_rfl) (by kernel_rfl) (by kernel_rfl) (by kernel_rfl) (by exact λ_ _ _ h=>h) (Or.inl ⟨by rfl,?_⟩) (by assumption) ?_;rotate_left
  ·(intro w hSw;(try dsimp only at hSw);go_simp;try with_reducible rfl)
  simp only[Act.put,List.setIfInBounds_toArray,List.set_cons_zero,List.set_cons_succ];refine oZ (i:=10) (oi:=_) (v:=?_) (by simp only[List.getElem?_toArray,List.getElem?_cons_succ,List.getElem?_cons_zero];rfl) (by kernel_rfl) (by kernel_rfl) (by kernel_rfl) (by kernel_rfl) (by exact λ_ _ _ h=>h) (Or.inl ⟨by rfl,?_⟩) (by assumption) ?_;rotate_left
  ·(intro w hSw;(try dsimp only at hSw);go_simp;try with_reducible rfl)
  simp only[Act.put,List.setIfInBounds_toArray,List.set_cons_zero,List.set_cons_succ];refine oZ (i:=11) (oi:=_) (v:=?_) (by simp only[List.getElem?_toArray,List.getElem?_cons_succ,List.getElem?_cons_zero];rfl) (by kernel_rfl) (by kernel_rfl) (by kernel_rfl) (by kernel_rfl) (by exact λ_ _ _ h=>h) (Or.inl ⟨by rfl,?_⟩) (by assumption) ?_;rotate_left
  ·(intro w hSw;(try dsimp only at hSw);go_simp;try with_reducible rfl)
  simp only[Act.put,List.setIfInBounds_toArray,List.set_cons_zero,List.set_cons_succ];refine oZ (i:=12) (oi:=_) (v:=?_) (by simp only[List.getElem?_toArray,List.getElem?_cons_succ,List.getElem?_cons_zero];rfl) (by kernel_rfl) (by kernel_rfl) (by kernel_rfl) (by kernel_rfl) (by exact λ_ _ _ h=>h) (Or.inl ⟨by rfl,?_⟩) (by assumption) ?_;rotate_left
  ·(intro w hSw;(try dsimp only at hSw);go_simp;try with_reducible rfl)
  simp only[Act.put,List.setIfInBounds_toArray,List.set_cons_zero,List.set_cons_succ];refine oZ (i:=13) (oi:=_) (v:=?_) (by simp only[List.getElem?_toArray,List.getElem?_cons_succ,List.getElem?_cons_zero];rfl) (by kernel_rfl) (by kernel_rfl) (by kernel_rfl) (by kernel_rfl) (by exact λ_ _ _ h=>h) (Or.inl ⟨by rfl,?_⟩) (by assumption) ?_;rotate_left
  ·(intro w hSw;(try dsimp only at hSw);go_simp;try with_reducible rfl)
  simp only[Act.put,List.setIfInBounds_toArray,List.set_cons_zero,List.set_cons_succ];refine oZ (i:=14) (oi:=_) (v:=?_) (by simp only[List.getElem?_toArray,List.getElem?_cons_succ,List.getElem?_cons_zero];rfl) (by kernel_rfl) (by kernel_rfl) (by kernel_rfl) (by kernel_rfl) (by exact λ_ _ _ h=>h) (Or.inl ⟨by rfl,?_⟩) (by assumption) ?_;rotate_left
  ·(intro w hSw;(try dsimp only at hSw);go_simp;try with_reducible rfl)
  simp only[Act.put,List.setIfInBounds_toArray,List.set_cons_zero,List.set_cons_succ];refine oZ (i:=15) (oi:=_) (v:=?_) (by simp only[List.getElem?_toArray,List.getElem?_cons_succ,List.getElem?_cons_zero];rfl) (by kernel_rfl) (by kernel_rfl) (by kernel_rfl) (by kernel_rfl) (by exact λ_ _ _ h=>h) (Or.inl ⟨by rfl,?_⟩) (by assumption) ?_;rotate_left
  ·(intro w hSw;(try dsimp only at hSw);go_simp;try with_reducible rfl)
  simp only[Act.put,List.setIfInBounds_toArray,List.set_cons_zero,List.set_cons_succ];refine oZ (i:=16) (oi:=_) (v:=?_) (by simp only[List.getElem?_toArray,List.getElem?_cons_succ,List.getElem?_cons_zero];rfl) (by kernel_rfl) (by kernel_rfl) (by kernel_rfl) (by kernel_rfl) (by exact λ_ _ _ h=>h) (Or.inl ⟨by rfl,?_⟩) (by assumption) ?_;rotate_left
  ·(intro w hSw;(try dsimp only at hSw);go_simp;try with_reducible rfl)
  simp only[Act.put,List.setIfInBounds_toArray,List.set_cons_zero,List.set_cons_succ];refine oZ (i:=17) (oi:=_) (v:=?_) (by simp only[List.getElem?_toArray,List.getElem?_cons_succ,List.getElem?_cons_zero];rfl) (by kernel_rfl) (by kernel_rfl) (by kernel_rfl) (by kernel_rfl) (by exact λ_ _ _ h=>h) (Or.inl ⟨by rfl,?_⟩) (by assumption) ?_;rotate_left
  ·(intro w hSw;(try dsimp only at hSw);go_simp;try with_reducible rfl)
  simp only[Act.put,List.setIfInBounds_toArray,List.set_cons_zero,List.set_cons_succ];refine oZ (i:=18) (oi:=_) (v:=?_) (by simp only[List.getElem?_toArray,List.getElem?_cons_succ,List.getElem?_cons_zero];rfl) (by kernel_rfl) (by kernel_rfl) (by kernel_rfl) (by kernel_rfl) (by exact λ_ _ _ h=>h) (Or.inl ⟨by rfl,?_⟩) (by assumption) ?_;rotate_left
  ·(intro w hSw;(try dsimp only at hSw);go_simp;try with_reducible rfl)
  simp only[Act.put,List.setIfInBounds_toArray,List.set_cons_zero,List.set_cons_succ];refine oZ (i:=19) (oi:=_) (v:=?_) (by simp only[List.getElem?_toArray,List.getElem?_cons_succ,List.getElem?_cons_zero];rfl) (by kernel_rfl) (by kernel_rfl) (by kernel_rfl) (by kernel_rfl) (by exact λ_ _ _ h=>h) (Or.inl ⟨by rfl,?_⟩) (by assumption) ?_;rotate_left
  ·(intro w hSw;(try dsimp only at hSw);go_simp;try with_reducible rfl)
  simp only[Act.put,List.setIfInBounds_toArray,List.set_cons_zero,List.set_cons_succ];refine oZ (i:=20) (oi:=_) (v:=?_) (by simp only[List.getElem?_toArray,List.getElem?_cons_succ,List.getElem?_cons_zero];rfl) (by kernel_rfl) (by kernel_rfl) (by kernel_rfl) (by kernel_rfl) (by exact λ_ _ _ h=>h) (Or.inl ⟨by rfl,?_⟩) (by assumption) ?_;rotate_left
  ·(intro w hSw;(try dsimp only at hSw);go_simp;try with_reducible rfl)
  simp only[Act.put,List.setIfInBounds_toArray,List.set_cons_zero,List.set_cons_succ];refine oZ (i:=21) (oi:=_) (v:=?_) (by simp only[List.getElem?_toArray,List.getElem?_cons_succ,List.getElem?_cons_zero];rfl) (by kernel_rfl) (by kernel_rfl) (by kernel_rfl) (by kernel_rfl) (by exact λ_ _ _ h=>h) (Or.inl ⟨by rfl,?_⟩) (by assumption) ?_;rotate_left
  ·(intro w hSw;(try dsimp only at hSw);go_simp;try with_reducible rfl)
  simp only[Act.put,List.setIfInBounds_toArray,List.set_cons_zero,List.set_cons_succ];refine pd (i:=22) (o:=_) (by simp only[List.getElem?_toArray,List.getElem?_cons_succ,List.getElem?_cons_zero];rfl) (by kernel_rfl) (λK hK=>?_)
  go_simp
  refine hK.out _ _ (λ_=>⟨oQ _ c4,oQ _ c2⟩) ?_;clear hK K
  (try simp only[Act.put,List.setIfInBounds_toArray,List.set_cons_zero,List.set_cons_succ])
  refine pd (i:=23) (o:=_) (by simp only[List.getElem?_toArray,List.getElem?_cons_succ,List.getElem?_cons_zero];rfl) (by kernel_rfl) (λK hK=>?_);refine step_append_grows (by rfl) _ _ _ (by rfl) 224 i0 _ 2 16 underlying162 HI.out HZ0.out HZ1.out HZ2.out rfl (by omega) a0 l.length l.length (gJ l) (by rfl) (λe=>⟨HN.out e,HN.out e⟩) (gK l) (λb e j u hu=>by first|(rw[World.cell?_drew];exact oQ _ ((HC.out _).trans (HO.out b e j u hu)))|exact oQ _ ((HC.out _).trans (HO.out b e j u hu))) ⟨w1.heap.size,0,none⟩ 1 1 [.int .i64 (nx:Int),.int .i64 (a:Int)] (by rfl) (by rfl) (λj u hu=>by first|(rw[World.cell?_drew];exact aC rfl rfl j u hu)|exact aC rfl rfl j u hu) (by simp[Value.oneCell']) (by omega) (by unfold maxLen;omega) (by omega) ?_;intro v' w2 hown2 hgr2;obtain⟨g',cap',rfl⟩:=ownsRow_succ hown2;have HO2:=hid hown2;have HG2:=hid hgr2;have hb2:w2.heap[x]?=_:=(hgr2.block x (show x<(w1.alloc _).heap.size by rw[World.size_alloc];omega) (by simp)).trans ((Below.heap_alloc w1 _ x hx1).trans HX1.out);have HB2:=hid hb2;have d4:w2.cell? ⟨x,4,none⟩=some (.slice a0 l.length k0):=(cell_of_row _ _ _ _ _ _ hb2).trans rfl;have d2:w2.cell? ⟨x,2,none⟩=some (.int .i64 (nx:Int)):=(cell_of_row _ _ _ _ _ _ hb2).trans rfl;have y4:∀j:Nat,w2.frozen? ⟨x,j,none⟩=false:=λj=>frozen_of_row _ _ _ _ _ hb2;clear hb2 hown2 hgr2 hHeld;refine hK.out _ _ (λ_=>⟨d4,d2⟩) ?_;clear hK K
  (try simp only[Act.put,List.setIfInBounds_toArray,List.set_cons_zero,List.set_cons_succ])
  refine pd (i:=24) (o:=_) (by simp only[List.getElem?_toArray,List.getElem?_cons_succ,List.getElem?_cons_zero];rfl) (by kernel_rfl) (λK hK=>?_)
  go_simp
  refine hK.out _ _ (λ_=>⟨d4,d2⟩) ?_;clear hK K
  (try simp only[Act.put,List.setIfInBounds_toArray,List.set_cons_zero,List.set_cons_succ])
  refine pd (i:=25) (o:=_) (by simp only[List.getElem?_toArray,List.getElem?_cons_succ,List.getElem?_cons_zero];rfl) (by kernel_rfl) (λK hK=>?_)
  go_simp
  refine hK.out _ _ (λ_=>⟨d4,d2⟩) ?_;clear hK K
  (try simp only[Act.put,List.setIfInBounds_toArray,List.set_cons_zero,List.set_cons_succ])
  refine pd (i:=26) (o:=_) (by simp only[List.getElem?_toArray,List.getElem?_cons_succ,List.getElem?_cons_zero];rfl) (by kernel_rfl) (λK hK=>?_)
  go_simp
  refine hK.out _ _ (λh=>absurd rfl h) ?_;clear hK K
  (try simp only[Act.put,List.setIfInBounds_toArray,List.set_cons_zero,List.set_cons_succ])
  refine pf (by kernel_rfl) ?_ _;go_wp2
  go_end0
  have hg:w1.heap.size≤g':=by have:=oC HO2.out rfl;exact Nat.le_trans (by rw[show(w1.alloc _).drew.heap.size=(w1.alloc _).heap.size from rfl,World.size_alloc];omega) this
  have hgx:g'≠x:=by omega
  have hf:Fr (λk=>k=x) w ((w2.setCell ⟨x,4,none⟩ (.slice (some ⟨g',0,none⟩) (l.length+1) cap')).setCell ⟨x,2,none⟩ (.int .i64 ((nx:Int)+1))):=by
   have h1:Fr (λk=>k=x) w w1:=by rw[HW1.out];exact(Fr.refl _ _).drewN nq
   exact((((h1.alloc _).drew).grown HG2.out (λk _ e=>by cases e)).setCell ⟨x,4,none⟩ (λ_=>rfl) _).setCell ⟨x,2,none⟩ (λ_=>rfl) _
  refine⟨rfl,.slice (some ⟨g',0,none⟩) (l.length+1) cap',⟨?_,?_⟩,.inr ⟨g',rfl,by rw[← HS1.out];exact hg⟩,hf⟩
  ·exact(heap_setCell_same _ x 2 _ _ _ (heap_setCell_same w2 x 4 _ _ _ HB2.out))
  ·rw[HL.out,gN,List.length_append,List.length_singleton]
   exact az (ownsRow_setCell_other (ownsRow_setCell_other HO2.out (by intro e;have e2:=Option.some.inj e;simp at e2;omega) _) (by intro e;have e2:=Option.some.inj e;simp at e2;omega) _) (λ_ _=>Nat.zero_le _)
 ·have hrb:(((nx-q:Nat):Int) % (ev:Int) == 0)=false:=by rw[beq_eq_false_iff_ne];omega
  have HL:=hid (show ph ev q nx a l=l from by unfold ph;rw[if_neg hr]);clear hr
  go_enter func102,ntmps102
  go_wp2
  go_quiet (fail)
  obtain⟨w1,hw1⟩:∃w1,w1=w.drewN nq:=⟨_,rfl⟩;have HX1:=hid (show w1.heap[x]?=some (.cells #[.int .i64 (ev:Int),.int .i64 (q:Int),.int .i64 (nx:Int),.int .i64 (g:Int),.slice a0 l.length k0] 164 (0,0))from by rw[hw1];exact H.out.cell);have d2:w1.cell? ⟨x,2,none⟩=some (.int .i64 (nx:Int)):=(cell_of_row _ _ _ _ _ _ HX1.out).trans rfl;have y4:∀j:Nat,w1.frozen? ⟨x,j,none⟩=false:=λj=>frozen_of_row _ _ _ _ _ HX1.out;rw[← hw1];have HW1:=hid hw1;clear hw1 z e1 hrb c0 c1 c2 c3 c4;go_wp2
  go_end0
  have hf:Fr (λk=>k=x) w (w1.setCell ⟨x,2,none⟩ (.int .i64 ((nx:Int)+1))):=by
   have h1:Fr (λk=>k=x) w w1:=by rw[HW1.out];exact(Fr.refl _ _).drewN nq
   exact h1.setCell ⟨x,2,none⟩ (λ_=>rfl) _
  refine⟨rfl,.slice a0 l.length k0,⟨heap_setCell_same w1 x 2 _ _ _ HX1.out,?_⟩,.inl rfl,hf⟩;rw[HL.out];refine ownsRow_setCell_other (by rw[HW1.out];exact H.out.own) (λe=>?_) _;exact H.out.ne e
def pk (x ev q nx g n:Nat)(sv:Value)(l:bI)(w:World)(e:Ending)(w':World):Prop:=
 e = .returned (.tuple #[.int .i64 (g:Int),.int .i64 0])∧∃sv',oR w' x ev q (nx+1) (g+16+n) sv' (ph ev q nx g l)∧aA w sv sv'∧Fr (λk=>k=x) w w'
theorem pm (w:World)(x ev q nx g n:Nat)(sv:Value)(l:bI)(h:oR w x ev q nx g sv l)(hev:1≤ev)(hev2:ev≤64)(hq:q≤nx)(hnx:nx<1048576)(hl:l.length≤2097152)(hg:g≤1073741824)(hn1:1≤n)(hn2:n≤4096) :
  Calls prog 53 #[.pointer (some ⟨x,0,none⟩),.int .i64 (n:Int)] w λe w'=>pk x ev q nx g n sv l w e w':=by
 obtain⟨c0,c1,c2,c3,c4⟩:=h.cs;have H:=hid h;have HN:=hid (show nN (n:Int)=16+(n:Int)from by unfold nN nL;rw[if_pos (by simp;omega)]);have hz:((16:Int)+(n:Int) == 0)=false:=by rw[beq_eq_false_iff_ne];omega
 have hnd:decide ((1048576:Int)≤(nx:Int))=false:=by rw[decide_eq_false_iff_not];omega
 have hni:(nx:Int)<1048576:=by omega
 have HNX:=hid hnx;clear h hnx
 go_enter func53,ntmps53
 go_wp2_with fail
 refine(nO (n:Int) _).mono ?_;rintro e w' ⟨rfl,rfl⟩;rw[HN.out]
 go_wp2_with fail
 refine(pj _ x ev q nx g g sv l H.out hev hev2 hq (by have:=HNX.out;omega) hl).mono ?_;rintro e w2 ⟨rfl,sv',h2,hw2,hf2⟩;have d3:w2.cell? ⟨x,3,none⟩=some (.int .i64 (g:Int)):=h2.cs.2.2.2.1;have y:∀j:Nat,w2.frozen? ⟨x,j,none⟩=false:=h2.fz;have H2:=hid h2;have HW2:=hid (And.intro hw2 hf2);clear h2 hw2 hf2 c0 c1 c2 c3 c4;go_wp2;refine pg (S:=(λw':World=>w'.cell? ⟨x,3,none⟩=some (.int .i64 (g:Int)))) 9 (by kernel_rfl) ?_;have hHeld:(λw':World=>w'.cell? ⟨x,3,none⟩=some (.int .i64 (g:Int))) w2.drew:=d3;refine oZ (i:=0) (oi:=_) (v:=?_) (by simp only[List.getElem?_toArray,List.getElem?_cons_zero];rfl) (by kernel_rfl) (by kernel_rfl) (by kernel_rfl) (by kernel_rfl) (by exact λ_ _ _ h=>h) (Or.inl ⟨by rfl,?_⟩) (by assumption) ?_;rotate_left
 ·(intro w hSw;(try dsimp only at hSw);go_simp;try with_reducible rfl)
 simp only[Act.put,List.setIfInBounds_toArray,List.set_cons_zero,List.set_cons_succ];refine oZ (i:=1) (oi:=_) (v:=?_) (by simp only[List.getElem?_toArray,List.getElem?_cons_succ,List.getElem?_cons_zero];rfl) (by kernel_rfl) (by kernel_rfl) (by kernel_rfl) (by kernel_rfl) (by exact λ_ _ _ h=>h) (Or.inl ⟨by rfl,?_⟩) (by assumption) ?_;rotate_left
 ·(intro w hSw;(try dsimp only at hSw);go_simp;try with_reducible rfl)
 simp only[Act.put,List.setIfInBounds_toArray,List.set_cons_zero,List.set_cons_succ];refine oZ (i:=2) (oi:=_) (v:=?_) (by simp only[List.getElem?_toArray,List.getElem?_cons_succ,List.getElem?_cons_zero];rfl) (by kernel_rfl) (by kernel_rfl) (by kernel_rfl) (by kernel_rfl) (by exact λ_ _ _ h=>h) (Or.inl ⟨by rfl,?_⟩) (by assumption) ?_;rotate_left
 ·(intro w hSw;(try dsimp only at hSw);go_simp;try with_reducible rfl)
 simp only[Act.put,List.setIfInBounds_toArray,List.set_cons_zero,List.set_cons_succ];refine oZ (i:=3) (oi:=_) (v:=?_) (by simp only[List.getElem?_toArray,List.getElem?_cons_succ,List.getElem?_cons_zero];rfl) (by kernel_rfl) (by kernel_rfl) (by kernel_rfl) (by kernel_rfl) (by exact λ_ _ _ h=>h) (Or.inl ⟨by rfl,?_⟩) (by assumption) ?_;rotate_left
 ·(intro w hSw;(try dsimp only at hSw);go_simp;try with_reducible rfl)
 simp only[Act.put,List.setIfInBounds_toArray,List.set_cons_zero,List.set_cons_succ];refine oZ (i:=4) (oi:=_) (v:=?_) (by simp only[List.getElem?_toArray,List.getElem?_cons_succ,List.getElem?_cons_zero];rfl) (by kernel_rfl) (by kernel_rfl) (by kernel_rfl) (by kernel_rfl) (by exact λ_ _ _ h=>h) (Or.inl ⟨by rfl,?_⟩) (by assumption) ?_;rotate_left
 ·(intro w hSw;(try dsimp only at hSw);go_simp;try with_reducible rfl)
 simp only[Act.put,List.setIfInBounds_toArray,List.set_cons_zero,List.set_cons_succ];refine pd (i:=5) (o:=_) (by simp only[List.getElem?_toArray,List.getElem?_cons_succ,List.getElem?_cons_zero];rfl) (by kernel_rfl) (λK hK=>?_)
 go_simp
 refine(nO (n:Int) _).mono ?_;rintro e w3 ⟨rfl,rfl⟩;rw[HN.out];refine hK.out _ _ (λ_=>d3) ?_;clear hK K
 (try simp only[Act.put,List.setIfInBounds_toArray,List.set_cons_zero,List.set_cons_succ])
 refine oZ (i:=6) (oi:=_) (v:=?_) (by simp only[List.getElem?_toArray,List.getElem?_cons_succ,List.getElem?_cons_zero];rfl) (by kernel_rfl) (by kernel_rfl) (by kernel_rfl) (by kernel_rfl) (by exact λ_ _ _ h=>h) (Or.inl ⟨by rfl,?_⟩) (by assumption) ?_;rotate_left
 ·(intro w hSw;(try dsimp only at hSw);go_simp;try with_reducible rfl)
 simp only[Act.put,List.setIfInBounds_toArray,List.set_cons_zero,List.set_cons_succ];refine pd (i:=7) (o:=_) (by simp only[List.getElem?_toArray,List.getElem?_cons_succ,List.getElem?_cons_zero];rfl) (by kernel_rfl) (λK hK=>?_)
 go_simp
 refine hK.out _ _ (λ_=>d3) ?_;clear hK K
 (try simp only[Act.put,List.setIfInBounds_toArray,List.set_cons_zero,List.set_cons_succ])
 refine pd (i:=8) (o:=_) (by simp only[List.getElem?_toArray,List.getElem?_cons_succ,List.getElem?_cons_zero];rfl) (by kernel_rfl) (λK hK=>?_)
 go_simp
 refine hK.out _ _ (λ_=>d3) ?_;clear hK K
 (try simp only[Act.put,List.setIfInBounds_toArray,List.set_cons_zero,List.set_cons_succ])
 refine pd (i:=9) (o:=_) (by simp only[List.getElem?_toArray,List.getElem?_cons_succ,List.getElem?_cons_zero];rfl) (by kernel_rfl) (λK hK=>?_)
 go_simp
 refine hK.out _ _ (λh=>absurd rfl h) ?_;clear hK K
 (try simp only[Act.put,List.setIfInBounds_toArray,List.set_cons_zero,List.set_cons_succ])
 refine pf (by kernel_rfl) ?_ _;go_wp2;have hw:IntKind.i64.wrap ((g:Int)+(16+(n:Int)))=((g+16+n:Nat):Int):=by rw[IntWalk.i64_in _ (by omega)];omega
 rw[hw]
 go_ret2
 have hf:Fr (λk=>k=x) w ((w2.setCell ⟨x,3,none⟩ (.int .i64 ((g+16+n:Nat):Int))).drew):=(HW2.out.2.setCell ⟨x,3,none⟩ (λ_=>rfl) _).drew;exact⟨rfl,sv',⟨heap_setCell_same w2 x 3 _ _ _ H2.out.cell,ownsRow_setCell_other H2.out.own H2.out.ne _⟩,HW2.out.1,hf⟩
theorem Al {s:List UInt8}{k most:Nat}{b:UInt8}(h:s[k]?=some b)(hb:b.toNat<128)(hm:b.toNat≤most):(⟨k,0,0⟩:bc).short s most=(b.toNat,⟨k+1,0,0⟩):=by
 have hlt:k<s.length:=by
  rw[List.getElem?_eq_some_iff]at h;exact h.1
 have hg:s[k]=b:=by
  rw[List.getElem?_eq_some_iff]at h;exact h.2
 have hs:s.drop (⟨k,0,0⟩:bc).at_=qC b.toNat++s.drop (k+1):=by
  rw[qD hb];show s.drop k=_;rw[List.drop_eq_getElem_cons hlt,hg];simp
 have:=ux (st:=⟨k,0,0⟩) (most:=most) rfl (by omega) hm hs;rw[this,qD hb];rfl
structure Am (w:World) (q p:Nat) (s:ByteArray) (st:bc):Prop where
 cell:w.heap[q]?=some (.cells #[.pointer (some ⟨p,0,none⟩),.int .i64 (s.size:Int),.bool false] 360 (0,0))
 rd:bd w p s st
 ne:q≠p
theorem Am.kept {S:Nat→Prop}{w w':World}{q p:Nat}{s:ByteArray}{st:bc}(h:Am w q p s st)(hf:Fr S w w')(hq:¬S q)(hp:¬S p):Am w' q p s st:=⟨hf.heapAt h.cell hq,h.rd.kept hf hp,h.ne⟩
theorem Am.pure {w w':World}{q p:Nat}{s:ByteArray}{st:bc}(h:Am w q p s st)(hb:Below w.heap.size w w'):Am w' q p s st:=h.kept (Fr.pure (S:=λ_=>False) hb) (λh=>h) (λh=>h)
theorem Am.cs {w:World}{q p:Nat}{s:ByteArray}{st:bc}(h:Am w q p s st):w.cell? ⟨q,0,none⟩=some (.pointer (some ⟨p,0,none⟩))∧w.cell? ⟨q,1,none⟩=some (.int .i64 (s.size:Int))∧w.cell? ⟨q,2,none⟩=some (.bool false):=by
 refine⟨?_,?_,?_⟩<;>rw[cell_of_row w q _ _ _ _ h.cell]<;>rfl
theorem Am.size {w:World}{q p:Nat}{s:ByteArray}{st:bc}(h:Am w q p s st):w.cell? ⟨q,1,none⟩=some (.int .i64 (s.size:Int)):=h.cs.2.1
theorem Ao (w:World)(q p:Nat)(s:ByteArray)(st:bc)(h:Am w q p s st)(n:Nat)(hn:n≤9223372036854775807) :
  Calls prog 332 #[.pointer (some ⟨q,0,none⟩),.int .i64 (n:Int)] w λe w'=>e = .returned (.int .i64 (wrap64 ((st.short s.data.toList n).1:Int)))∧Am w' q p s (st.short s.data.toList n).2∧Fr (λk=>k=p) w w':=by
 obtain⟨c0,c1,c2⟩:=h.cs;have H:=hid h;clear h
 go_enter func332,ntmps332
 go_wp2_with fail
 refine(uK w p s st H.out.rd n).mono ?_;rintro e w1 ⟨rfl,h1,hf1⟩;have H1:=hid (show Am w1 q p s (st.short s.data.toList n).2 from⟨hf1.heapAt H.out.cell H.out.ne,h1,H.out.ne⟩);clear h1;go_wp2;go_ret;exact⟨rfl,H1.out,hf1⟩
theorem Ap (w:World)(q p:Nat)(s:ByteArray)(st:bc)(h:Am w q p s st) :
  Calls prog 323 #[.pointer (some ⟨q,0,none⟩)] w λe w'=>e = .returned (.int .i64 (wrap64 ((st.short s.data.toList 4611686018427387904).1:Int)))∧Am w' q p s (st.short s.data.toList 4611686018427387904).2∧Fr (λk=>k=p) w w':=by
 obtain⟨c0,c1,c2⟩:=h.cs;have H:=hid h;clear h
 go_enter func323,ntmps323
 go_wp2_with fail
 refine(uK w p s st H.out.rd 4611686018427387904).mono ?_;rintro e w1 ⟨rfl,h1,hf1⟩;have H1:=hid (show Am w1 q p s (st.short s.data.toList 4611686018427387904).2 from⟨hf1.heapAt H.out.cell H.out.ne,h1,H.out.ne⟩);clear h1;go_wp2;go_ret;exact⟨rfl,H1.out,hf1⟩
theorem Aq (w:World)(q p:Nat)(s:ByteArray)(k:Nat)(b:UInt8)(h:Am w q p s ⟨k,0,0⟩)(h0:s.data.toList[k]?=some b)(hb:b.toNat<128) :
  Calls prog 323 #[.pointer (some ⟨q,0,none⟩)] w λe w'=>e = .returned (.int .i64 (b.toNat:Int))∧Am w' q p s ⟨k+1,0,0⟩∧Fr (λk=>k=p) w w':=by
 refine(Ap w q p s _ h).mono ?_;rw[Al h0 hb (by omega)];have hw:wrap64 (b.toNat:Int)=(b.toNat:Int):=by
  have h9:((b.toNat:Nat):Int)<128:=by omega
  unfold wrap64;omega
 rw[hw];exact λe w1 h=>h
theorem Ar:wrap64 (((0:UInt8).toNat:Nat):Int)=0:=by
 rw[show(((0:UInt8).toNat:Nat):Int)=0 from rfl];unfold wrap64;omega
theorem Au (fv:Value)(w:World)(q p:Nat)(s:ByteArray)(k:Nat)(h:Am w q p s ⟨k,0,0⟩)(h0:s.data.toList[k]?=some 0) :
  Calls prog 324 #[.pointer (some ⟨q,0,none⟩),fv] w λe w'=>e = .returned (.slice none 0 0)∧Am w' q p s ⟨k+1,0,0⟩∧Fr (λk=>k=p) w w':=by
 have hsz:=h.size;have hss:=h.rd.2.2;have H:=hid h;have HQ:=hid (Al (k:=k) (most:=s.size) h0 (by decide) (by simp));clear h h0
 go_enter func324,ntmps324
 go_wp2_with fail
 refine(Ao w q p s _ H.out s.size (by omega)).mono ?_;rintro e w1 ⟨rfl,h1,hf1⟩;rw[HQ.out]at h1 ⊢;rw[Ar];have H1:=hid h1;clear h1;go_wp2
 go_loopw [5,15] (λl i wr=>l = .slice none 0 0∧i = .int .i64 0∧wr=w1) (λ_ _ _=>0)
 case atStart=>exact⟨rfl,rfl,rfl⟩
 case round=>
  obtain⟨rfl,rfl,rfl⟩:=hrel;go_wp2;go_ret;exact⟨rfl,H1.out,hf1⟩
theorem Av (fv:Value)(w:World)(q p:Nat)(s:ByteArray)(k:Nat)(h:Am w q p s ⟨k,0,0⟩)(h0:s.data.toList[k]?=some 0) :
  Calls prog 328 #[.pointer (some ⟨q,0,none⟩),fv] w λe w'=>e = .returned (.slice none 0 0)∧Am w' q p s ⟨k+1,0,0⟩∧Fr (λk=>k=p) w w':=by
 have hsz:=h.size;have hss:=h.rd.2.2;have H:=hid h;have HQ:=hid (Al (k:=k) (most:=s.size) h0 (by decide) (by simp));clear h h0
 go_enter func328,ntmps328
 go_wp2_with fail
 refine(Ao w q p s _ H.out s.size (by omega)).mono ?_;rintro e w1 ⟨rfl,h1,hf1⟩;rw[HQ.out]at h1 ⊢;rw[Ar];have H1:=hid h1;clear h1;go_wp2
 go_loopw [5,15] (λl i wr=>l = .slice none 0 0∧i = .int .i64 0∧wr=w1) (λ_ _ _=>0)
 case atStart=>exact⟨rfl,rfl,rfl⟩
 case round=>
  obtain⟨rfl,rfl,rfl⟩:=hrel;go_wp2;go_ret;exact⟨rfl,H1.out,hf1⟩
theorem Aw (fv:Value)(w:World)(q p:Nat)(s:ByteArray)(k:Nat)(h:Am w q p s ⟨k,0,0⟩)(h0:s.data.toList[k]?=some 0) :
  Calls prog 330 #[.pointer (some ⟨q,0,none⟩),fv] w λe w'=>e = .returned (.slice none 0 0)∧Am w' q p s ⟨k+1,0,0⟩∧Fr (λk=>k=p) w w':=by
 have hsz:=h.size;have hss:=h.rd.2.2;have H:=hid h;have HQ:=hid (Al (k:=k) (most:=s.size) h0 (by decide) (by simp));clear h h0
 go_enter func330,ntmps330
 go_wp2_with fail
 refine(Ao w q p s _ H.out s.size (by omega)).mono ?_;rintro e w1 ⟨rfl,h1,hf1⟩;rw[HQ.out]at h1 ⊢;rw[Ar];have H1:=hid h1;clear h1;go_wp2
 go_loopw [5,15] (λl i wr=>l = .slice none 0 0∧i = .int .i64 0∧wr=w1) (λ_ _ _=>0)
 case atStart=>exact⟨rfl,rfl,rfl⟩
 case round=>
  obtain⟨rfl,rfl,rfl⟩:=hrel;go_wp2;go_ret;exact⟨rfl,H1.out,hf1⟩
theorem Ax (fv:Value)(w:World)(q p:Nat)(s:ByteArray)(k:Nat)(h:Am w q p s ⟨k,0,0⟩)(h0:s.data.toList[k]?=some 0) :
  Calls prog 333 #[.pointer (some ⟨q,0,none⟩),fv] w λe w'=>e = .returned (.slice none 0 0)∧Am w' q p s ⟨k+1,0,0⟩∧Fr (λk=>k=p) w w':=by
 have hsz:=h.size;have hss:=h.rd.2.2;have H:=hid h;have HQ:=hid (Al (k:=k) (most:=s.size) h0 (by decide) (by simp));clear h h0
 go_enter func333,ntmps333
 go_wp2_with fail
 refine(Ao w q p s _ H.out s.size (by omega)).mono ?_;rintro e w1 ⟨rfl,h1,hf1⟩;rw[HQ.out]at h1 ⊢;rw[Ar];have H1:=hid h1;clear h1;go_wp2
 go_loopw [5,15] (λl i wr=>l = .slice none 0 0∧i = .int .i64 0∧wr=w1) (λ_ _ _=>0)
 case atStart=>exact⟨rfl,rfl,rfl⟩
 case round=>
  obtain⟨rfl,rfl,rfl⟩:=hrel;go_wp2;go_ret;exact⟨rfl,H1.out,hf1⟩
theorem Ay (fv:Value)(w:World)(q p:Nat)(s:ByteArray)(k:Nat)(h:Am w q p s ⟨k,0,0⟩)(h0:s.data.toList[k]?=some 0) :
  Calls prog 336 #[.pointer (some ⟨q,0,none⟩),fv] w λe w'=>e = .returned (.slice none 0 0)∧Am w' q p s ⟨k+1,0,0⟩∧Fr (λk=>k=p) w w':=by
 have hsz:=h.size;have hss:=h.rd.2.2;have H:=hid h;have HQ:=hid (Al (k:=k) (most:=s.size) h0 (by decide) (by simp));clear h h0
 go_enter func336,ntmps336
 go_wp2_with fail
 refine(Ao w q p s _ H.out s.size (by omega)).mono ?_;rintro e w1 ⟨rfl,h1,hf1⟩;rw[HQ.out]at h1 ⊢;rw[Ar];have H1:=hid h1;clear h1;go_wp2
 go_loopw [5,15] (λl i wr=>l = .slice none 0 0∧i = .int .i64 0∧wr=w1) (λ_ _ _=>0)
 case atStart=>exact⟨rfl,rfl,rfl⟩
 case round=>
  obtain⟨rfl,rfl,rfl⟩:=hrel;go_wp2;go_ret;exact⟨rfl,H1.out,hf1⟩
theorem Az (fv:Value)(w:World)(q p:Nat)(s:ByteArray)(k:Nat)(h:Am w q p s ⟨k,0,0⟩)(h0:s.data.toList[k]?=some 0) :
  Calls prog 340 #[.pointer (some ⟨q,0,none⟩),fv] w λe w'=>e = .returned (.slice none 0 0)∧Am w' q p s ⟨k+1,0,0⟩∧Fr (λk=>k=p) w w':=by
 have hsz:=h.size;have hss:=h.rd.2.2;have H:=hid h;have HQ:=hid (Al (k:=k) (most:=s.size) h0 (by decide) (by simp));clear h h0
 go_enter func340,ntmps340
 go_wp2_with fail
 refine(Ao w q p s _ H.out s.size (by omega)).mono ?_;rintro e w1 ⟨rfl,h1,hf1⟩;rw[HQ.out]at h1 ⊢;rw[Ar];have H1:=hid h1;clear h1;go_wp2
 go_loopw [5,15] (λl i wr=>l = .slice none 0 0∧i = .int .i64 0∧wr=w1) (λ_ _ _=>0)
 case atStart=>exact⟨rfl,rfl,rfl⟩
 case round=>
  obtain⟨rfl,rfl,rfl⟩:=hrel;go_wp2;go_ret;exact⟨rfl,H1.out,hf1⟩
theorem AA (fv:Value)(w:World)(q p:Nat)(s:ByteArray)(k:Nat)(h:Am w q p s ⟨k,0,0⟩)(h0:s.data.toList[k]?=some 0) :
  Calls prog 342 #[.pointer (some ⟨q,0,none⟩),fv] w λe w'=>e = .returned (.slice none 0 0)∧Am w' q p s ⟨k+1,0,0⟩∧Fr (λk=>k=p) w w':=by
 have hsz:=h.size;have hss:=h.rd.2.2;have H:=hid h;have HQ:=hid (Al (k:=k) (most:=s.size) h0 (by decide) (by simp));clear h h0
 go_enter func342,ntmps342
 go_wp2_with fail
 refine(Ao w q p s _ H.out s.size (by omega)).mono ?_;rintro e w1 ⟨rfl,h1,hf1⟩;rw[HQ.out]at h1 ⊢;rw[Ar];have H1:=hid h1;clear h1;go_wp2
 go_loopw [5,15] (λl i wr=>l = .slice none 0 0∧i = .int .i64 0∧wr=w1) (λ_ _ _=>0)
 case atStart=>exact⟨rfl,rfl,rfl⟩
 case round=>
  obtain⟨rfl,rfl,rfl⟩:=hrel;go_wp2;go_ret;exact⟨rfl,H1.out,hf1⟩
theorem AB (fv:Value)(w:World)(q p:Nat)(s:ByteArray)(k:Nat)(h:Am w q p s ⟨k,0,0⟩)(h0:s.data.toList[k]?=some 0) :
  Calls prog 344 #[.pointer (some ⟨q,0,none⟩),fv] w λe w'=>e = .returned (.slice none 0 0)∧Am w' q p s ⟨k+1,0,0⟩∧Fr (λk=>k=p) w w':=by
 have hsz:=h.size;have hss:=h.rd.2.2;have H:=hid h;have HQ:=hid (Al (k:=k) (most:=s.size) h0 (by decide) (by simp));clear h h0
 go_enter func344,ntmps344
 go_wp2_with fail
 refine(Ao w q p s _ H.out s.size (by omega)).mono ?_;rintro e w1 ⟨rfl,h1,hf1⟩;rw[HQ.out]at h1 ⊢;rw[Ar];have H1:=hid h1;clear h1;go_wp2
 go_loopw [5,15] (λl i wr=>l = .slice none 0 0∧i = .int .i64 0∧wr=w1) (λ_ _ _=>0)
 case atStart=>exact⟨rfl,rfl,rfl⟩
 case round=>
  obtain⟨rfl,rfl,rfl⟩:=hrel;go_wp2;go_ret;exact⟨rfl,H1.out,hf1⟩
theorem AC (fv:Value)(w:World)(q p:Nat)(s:ByteArray)(k:Nat)(h:Am w q p s ⟨k,0,0⟩)(h0:s.data.toList[k]?=some 0) :
  Calls prog 346 #[.pointer (some ⟨q,0,none⟩),fv] w λe w'=>e = .returned (.slice none 0 0)∧Am w' q p s ⟨k+1,0,0⟩∧Fr (λk=>k=p) w w':=by
 have hsz:=h.size;have hss:=h.rd.2.2;have H:=hid h;have HQ:=hid (Al (k:=k) (most:=s.size) h0 (by decide) (by simp));clear h h0
 go_enter func346,ntmps346
 go_wp2_with fail
 refine(Ao w q p s _ H.out s.size (by omega)).mono ?_;rintro e w1 ⟨rfl,h1,hf1⟩;rw[HQ.out]at h1 ⊢;rw[Ar];have H1:=hid h1;clear h1;go_wp2
 go_loopw [5,15] (λl i wr=>l = .slice none 0 0∧i = .int .i64 0∧wr=w1) (λ_ _ _=>0)
 case atStart=>exact⟨rfl,rfl,rfl⟩
 case round=>
  obtain⟨rfl,rfl,rfl⟩:=hrel;go_wp2;go_ret;exact⟨rfl,H1.out,hf1⟩
def pC (xs:List FrX):List (List UInt8):=xs.map λx=>x.p.data.toList
theorem pD {s:List UInt8}:∀{xs:List FrX} {a q:Nat},oe s a q xs→og a xs=a+(iC q (pC xs)).length:=by
 intro xs
 induction xs with
 | nil=>intro a q _;simp[og,pC,iC]
 | cons x r ih=>
  intro a q h;obtain⟨h1,h2,h3,h4⟩:=h;show og x.next r=_;rw[ih h4];unfold FrX.next;simp only[pC,List.map_cons,iC,List.length_append,ir,ak];omega
theorem pE {s:List UInt8}:∀{xs:List FrX} {a q:Nat},oe s a q xs→∀k (hk:k<xs.length),xs[k].a=a+(iC q ((pC xs).take k)).length∧xs[k].q=q+k:=by
 intro xs
 induction xs with
 | nil=>intro a q _ k hk;simp at hk
 | cons x r ih=>
  intro a q h k hk;obtain⟨h1,h2,h3,h4⟩:=h;cases k with
  | zero=>exact⟨by simp[iC,h1],by simp[h2]⟩
  | succ k=>
   obtain⟨g1,g2⟩:=ih h4 k (by simpa using hk);refine⟨?_,by simp[g2];omega⟩;simp only[List.getElem_cons_succ,g1];unfold FrX.next;simp only[pC,List.map_cons,List.take_succ_cons,iC,List.length_append,ir,ak];omega
theorem pF {s:List UInt8}:∀{xs:List FrX} {a q:Nat} {n:Nat},oe s a q xs→¬((iu (s.drop (og a xs))).1=0∧(iu (s.drop (og a xs))).2.1=q+xs.length)→xs.length≤n→iD n q (s.drop a)=pC xs:=by
 intro xs
 induction xs with
 | nil=>intro a q n _ h _;exact iK h
 | cons x r ih=>
  intro a q n h hn hl;obtain⟨h1,h2,h3,h4⟩:=h;obtain⟨n,rfl⟩:∃m,n=m+1:=⟨n-1,by simp at hl;omega⟩;rw[iD,h3,if_pos ⟨rfl,rfl⟩,List.drop_drop];have e:a+(16+x.p.data.toList.length)=x.next:=by unfold FrX.next;rw[ak];omega
  show x.p.data.toList::iD n (q+1) (s.drop (a+(16+x.p.data.toList.length)))=_;rw[e,ih h4 (by rw[show q+1+r.length=q+(x::r).length from by simp;omega];exact hn) (by simpa using hl)];rfl
theorem pG {ev q a:Nat}(hev:0<ev){ps:List (List UInt8)}{k:Nat}(hk:k<ps.length)(ha:a=16+(iC q (ps.take k)).length):ph ev q (q+k) a (iV ev q (ps.take k))=iV ev q (ps.take (k+1)):=by
 rw[List.take_succ_eq_append_getElem hk,ja hev];unfold ph;rw[Nat.add_sub_cancel_left,List.length_take,Nat.min_eq_left (Nat.le_of_lt hk),ha]
 split<;>simp
theorem pH {s:List UInt8}:∀{xs:List FrX} {a q:Nat},oe s a q xs→a≤s.length→og a xs≤s.length∧a+xs.length≤og a xs∧(xs=[]∨q+xs.length≤1048576):=by
 intro xs
 induction xs with
 | nil=>intro a q _ h;exact⟨h,Nat.le_refl _,.inl rfl⟩
 | cons x r ih=>
  intro a q h ha;obtain⟨h1,h2,h3,h4⟩:=h;have hl:=om h3;rw[List.length_drop,ak]at hl;have hx:x.next=a+16+x.p.size:=by unfold FrX.next;rw[h1]
  obtain⟨g1,g2,g3⟩:=ih h4 (by omega);refine⟨g1,?_,.inr ?_⟩
  ·show a+(r.length+1)≤og x.next r;omega
  ·rcases g3 with rfl|g3
   ·simp;omega
   ·simp;omega
theorem oR.kept {S:Nat→Prop}{w w':World}{x ev q nx g:Nat}{sv:Value}{l:bI}(h:oR w x ev q nx g sv l)(hf:Fr S w w')(hx:¬S x)(hs:∀b,sv.ownBlock=some b→¬S b):oR w' x ev q nx g sv l:=
 ⟨hf.heapAt h.cell hx,hf.ownsRow h.own hs⟩
theorem oR.pure {w w':World}{x ev q nx g:Nat}{sv:Value}{l:bI}(h:oR w x ev q nx g sv l)(hb:Below w.heap.size w w'):oR w' x ev q nx g sv l:=h.kept (Fr.pure (S:=λ_=>False) hb) (λh=>h) (λ_ _ h=>h)
theorem pI {ev:Nat}(h:1≤ev)(q:Nat)(ps:List (List UInt8)):(iV ev q ps).length≤ps.length:=by
 rw[iW];unfold iT
 rcases Nat.eq_zero_or_pos ps.length with h0|h0
 ·rw[h0,Nat.zero_add,Nat.div_eq_of_lt (by omega)];exact Nat.le_refl _
 ·refine Nat.le_of_lt_succ ((Nat.div_lt_iff_lt_mul (by omega)).2 ?_)
  have:ps.length*1≤ps.length*ev:=Nat.mul_le_mul_left _ h;rw[Nat.succ_mul];omega
def pJ (s:ByteArray)(ev:Nat)(w:World)(e:Ending)(w':World):Prop:=
 Below w.heap.size w w'∧((kQ s.data.toList).1≠0∧e = .returned (.tuple #[.pointer none,.int .i64 (kQ s.data.toList).1])∨(kQ s.data.toList).1=0∧∃(x:Nat) (sv:Value),w.heap.size≤x∧(∀b,sv.ownBlock=some b→w.heap.size≤b) ∧
   oR w' x ev (kQ s.data.toList).2.1 (kQ s.data.toList).2.next (kQ s.data.toList).2.good sv (iV ev (kQ s.data.toList).2.1 (kQ s.data.toList).2.2) ∧
   e = .returned (.tuple #[.pointer (some ⟨x,0,none⟩),.int .i64 0]))
theorem pK {w:World}{v:Value}{xs:List FrX}(h:ox w v xs)(k:Nat)(hk:k<xs.length):∃g c,v = .slice (some ⟨g,0,none⟩) xs.length c∧w.cell? ⟨g,k*3,none⟩=some (.int .i64 (xs[k].q:Int))∧w.cell? ⟨g,k*3+1,none⟩=some (.string xs[k].p)∧w.cell? ⟨g,k*3+2,none⟩=some (.int .i64 (xs[k].a:Int)):=by
 have hc:=λg hv=>World.ownsRow.cells (g:=g) h hv;obtain⟨h1,h2⟩:=h
 rcases h2 with⟨_,h0⟩|⟨g,cap,cur,rfl,hbg,hg,hnc,hcm,hcs,htake⟩
 ·omega
 ·refine⟨g,cap,rfl,?_⟩
  have hcc:=hc g rfl;have get:∀(l:List FrX) (k:Nat) (hk:k<l.length),(ou l)[k*3]?=some (.int .i64 (l[k].q:Int))∧(ou l)[k*3+1]?=some (.string l[k].p)∧(ou l)[k*3+2]?=some (.int .i64 (l[k].a:Int)):=by
   intro l
   induction l with
   | nil=>intro k hk;simp at hk
   | cons y r ih=>
    intro k hk;cases k with
    | zero=>exact⟨rfl,rfl,rfl⟩
    | succ k=>
     obtain⟨a1,a2,a3⟩:=ih k (by simpa using hk);have e:ou (y::r) = .int .i64 (y.q:Int) :: .string y.p :: .int .i64 (y.a:Int)::ou r:=rfl;rw[e,show(k+1)*3=k*3+3 from by omega];exact⟨a1,a2,a3⟩
  obtain⟨a1,a2,a3⟩:=get xs k hk;have b1:=hcc _ _ a1;have b2:=hcc _ _ a2;have b3:=hcc _ _ a3;rw[pn]at b1 b2 b3;exact⟨b1,b2,b3⟩
theorem pL {w:World}{v:Value}{xs:List FrX}(h:ox w v xs):∃a c,v = .slice a xs.length c:=by
 rcases h.2 with⟨rfl,h0⟩|⟨g,cap,cur,rfl,_⟩
 ·exact⟨none,0,by rw[h0]⟩
 ·exact⟨_,cap,rfl⟩
theorem pM (s:ByteArray)(ev:Nat)(w:World)(hs:s.size≤1048576)(h1:1≤ev)(h2:ev≤64) :
  Calls prog 42 #[.string s,.int .i64 (ev:Int)] w λe w'=>pJ s ev w e w':=by
 go_enter func42,ntmps42
 go_wp2_with fail
 refine(oP s w hs).mono ?_;rintro e w1 ⟨hb1,hpost⟩;by_cases hc:(iO s.data.toList).1=0
 ·rw[if_neg (by simpa using hc)]at hpost
  obtain⟨xs,v,hd,hown,hfr,rfl⟩:=hpost;obtain⟨q,hq⟩:∃q,q=(iO s.data.toList).2:=⟨_,rfl⟩;rw[← hq]at hd ⊢;obtain⟨a0,c0,rfl⟩:=pL hown;have hfo:=oO hc;obtain⟨hl1,hl2,hl3⟩:=pH hd.1 hfo.1;rw[ak]at hl1;have HD:=hid hd;have HO:=hid hown;have HFR:=hid hfr;have HB1:=hid hb1;have HQ:=hid hq;have HC:=hid hc;have hq2:q≤1048576:=by rw[hq];exact hfo.2
  have HFO:=hid hfo;have HL3:=hid hl3;clear hd hown hfr hb1 hq hc hfo hl3;go_wp2;obtain⟨W1,hW1⟩:∃W1,W1=(w1.alloc (.cells #[.int .i64 (q:Int),.slice a0 xs.length c0,.int .i64 (og 16 xs:Int),.bool (decide (og 16 xs=s.size))] 159)).alloc (.cells #[.int .i64 (ev:Int),.int .i64 (q:Int),.int .i64 (q:Int),.int .i64 (og 16 xs:Int),.slice none 0 0] 164):=⟨_,rfl⟩;obtain⟨x,hx⟩:∃x,x=w1.heap.size+1:=⟨_,rfl⟩;have hix:oR W1 x ev q q (og 16 xs) (.slice none 0 0) (iV ev q ((pC xs).take 0)):=⟨by rw[hW1,hx];exact oB _ _ (by simp),by rw[List.take_zero,jb (by omega)];exact World.ownsRow_nil _ _ _ _⟩;have hbw:Below w1.heap.size w1 W1:=by rw[hW1];exact((Below.refl _ _).alloc (Nat.le_refl _) _).alloc (by simp) _
  have hfr1:∀{S:Nat→Prop},Fr S w1 W1:=Fr.pure hbw;have hO1:=hid (show ox W1 (.slice a0 xs.length c0) xs from(hfr1 (S:=λ_=>False)).ownsRow HO.out (λ_ _ h=>h));have hvlt:∀g,(Value.slice a0 xs.length c0).ownBlock=some g→g<w1.heap.size:=λg e=>(HO.out.lt g e).2;rw[← hW1,← hx];have HW1:=hid (And.intro hbw (And.intro hx hvlt));have HIX:=hid hix;have hzl:=hid (show xs.length=(pC xs).length from by simp[pC]);clear hW1 hx hix hbw hvlt hfr1
  go_loopw [37] (λi wr=>∃(k:Nat) (sv:Value),i = .int .i64 (k:Int)∧k≤xs.length∧oR wr x ev q (q+k) (og 16 xs) sv (iV ev q ((pC xs).take k))∧(∀b,sv.ownBlock=some b→w1.heap.size≤b)∧Fr (λk=>k=x) W1 wr) (λi _=>xs.length-(intOf i).toNat)
  case atStart=>exact⟨0,_,rfl,Nat.zero_le _,HIX.out,(λb e=>by cases e),Fr.refl _ _⟩
  case round=>
   obtain⟨k,sv,rfl,hk,hi,hsv,hf⟩:=hrel;have HI:=hid hi;have HSV:=hid hsv;have HF:=hid hf;clear hi hsv hf;by_cases hlt:k<xs.length
   ·have how:ox wr (.slice a0 xs.length c0) xs:=HF.out.ownsRow hO1.out (λg e h=>by have:=HW1.out.2.2 g e;have:=HW1.out.2.1;omega)
    obtain⟨g,c,hgc,f1,f2,f3⟩:=pK how k hlt;cases hgc;obtain⟨hxa,hxq⟩:=pE HD.out.1 k hlt;have HXA:=hid hxa
    generalize xs[k].a=A at *
    generalize xs[k].q=Q at *
    generalize xs[k].p=Pp at *
    clear hxa hxq how
    go_wp2_with fail
    have hq3:q+k≤2097152:=by rcases HL3.out with h|h;(rw[h]at hlt;simp at hlt);omega
    have hml:(iV ev q ((pC xs).take k)).length≤2097152:=by have:=pI h1 q ((pC xs).take k);rw[List.length_take]at this;have:=hl2;omega
    have HI2:=hid (HI.out.pure ((Below.refl wr.heap.size wr).alloc (Nat.le_refl _) (.cells #[.int .i64 (Q:Int),.string Pp,.int .i64 (A:Int)] 166)));refine(pj _ x ev q (q+k) (og 16 xs) A sv (iV ev q ((pC xs).take k)) HI2.out h1 h2 (by omega) hq3 hml).mono ?_;rintro e w4 ⟨rfl,sv',hi4,hw4,hf4⟩;rw[pG (by omega) (by rw[← hzl.out];exact hlt) HXA.out]at hi4;have HI4:=hid hi4;have hs4:∀b,sv'.ownBlock=some b→w1.heap.size≤b:=λb e=>by
     rcases hw4 with h|⟨g2,h,hg2⟩
     ·exact HSV.out b (h▸e)
     ·rw[h]at e;cases e;rw[World.size_alloc]at hg2;have:=HF.out.size;have:=HW1.out.1.size;omega
    have HS4:=hid hs4;have HF4:=hid ((HF.out.alloc (.cells #[.int .i64 (Q:Int),.string Pp,.int .i64 (A:Int)] 166)).trans hf4);clear hi4 hw4 hf4 hs4 f1 f2 f3 hq3 hml;go_wp2
    go_roundw
    case rel=>exact⟨k+1,sv',by go_num,by omega,HI4.out,HS4.out,HF4.out⟩
    case measure=>simp[intOf];omega
   ·have hkn:k=xs.length:=by omega
    subst hkn;go_wp2
    go_ret2
    have hn:¬((iu (s.data.toList.drop (og 16 xs))).1=0∧(iu (s.data.toList.drop (og 16 xs))).2.1=q+xs.length):=HD.out.2;have hsc:kQ s.data.toList=(0,(q,pC xs)):=by
     unfold kQ;rw[if_neg (by rw[HC.out];simp),← HQ.out,pF HD.out.1 hn (by rw[ak];omega)]
    have hgd:kP.good (q,pC xs)=og 16 xs:=by
     unfold kP.good;rw[iS,pD HD.out.1]
    have hb:Below w.heap.size w wr:=(HB1.out.trans (HW1.out.1.mono HB1.out.size)).trans (HF.out.below (B:=w.heap.size) (by have:=HB1.out.size;have:=HW1.out.1.size;omega) (λi hi e=>by have:=HB1.out.size;have:=HW1.out.2.1;omega));refine⟨hb,.inr ⟨by rw[hsc],x,sv,?_,λb e=>?_,?_,rfl⟩⟩
    ·have:=HB1.out.size;have:=HW1.out.2.1;omega
    ·have:=HSV.out b e;have:=HB1.out.size;omega
    ·rw[hsc]
     show oR wr x ev q (q+(pC xs).length) (kP.good (q,pC xs)) sv (iV ev q (pC xs));rw[hgd,← hzl.out];have:=HI.out;rw[List.take_of_length_le (by rw[← hzl.out];exact Nat.le_refl _)]at this;exact this
 ·rw[if_pos hc]at hpost
  obtain⟨c,hcd⟩:∃c,c=(iO s.data.toList).1:=⟨_,rfl⟩;rw[← hcd]at hpost hc;subst hpost;have hsc:(kQ s.data.toList).1=c:=by unfold kQ;rw[if_pos (by rw[← hcd];exact hc)];exact hcd.symm
  have HSC:=hid hsc;have HB1:=hid hb1;have hcb:(c == 0)=false:=by simpa using hc
  have hcn:(c != 0)=true:=by simpa using hc
  have HNE:=hid hc;clear hsc hb1 hc hcd;go_wp2
  go_ret2
  exact⟨HB1.out.alloc HB1.out.size _,.inl ⟨by rw[HSC.out];exact HNE.out,by rw[HSC.out];rfl⟩⟩
end
end Go.Proofs.YthjjgcfdhkhelaaGreatDoor
