/- The walks of auction.of, May. -/
import Derived.Lib.QuietBelow
import Derived.BigQuiet
import Derived.Deep.RegionWith
import Derived.Deep.RegionHeld3
import Derived.Test.YtaeakdichkhjaaaGreatDoorQAv
set_option maxHeartbeats 8000000
open Go.Lib(hid)
namespace Go.Proofs.YtaeakdichkhjaaaGreatDoor
section
open Go.RowKit
def ry (a:AucD)(bv:Value):Array Value:=#[.int .i64 a.id,.int .i64 a.seller,.int .i64 a.inst,.bool a.sealed,.int .i64 a.qty,.int .i64 a.reserve,.int .i64 a.step,.int .i64 a.fin,bv]
set_option maxRecDepth 100000 in
theorem rA (w:World)(x:BidD)(nB:Nat)(y:BidD)(h:w.cell? ⟨nB,0,none⟩=some (.int .i64 y.acct)) :
  Calls Tryz.prog 344 #[x.agg,.pointer (some ⟨nB,0,none⟩)] w λe w'=>TB (x.acct=y.acct) e∧Below w.heap.size w w':=by
 have hl:=aA h;unfold BidD.agg;by_cases he:x.acct=y.acct
 ·have q:(x.acct == y.acct)=true:=by simpa using he
  have HE:=hid he;clear he
  go_enter Tryz.func344,Tryz.ntmps344
  go_wp2;go_ret;exact⟨TB.yes HE.out,ke _ _⟩
 ·have q:(x.acct == y.acct)=false:=by simpa using he
  have HE:=hid he;clear he
  go_enter Tryz.func344,Tryz.ntmps344
  go_wp2;go_ret;exact⟨TB.no HE.out,ke _ _⟩
theorem rB {F:Nat→Prop}{w:World}{a:Option Addr}{c n:Nat}{xs:List BidD}(h:BidsAt F w (.slice a n c) xs)(k:Nat)(hk:k≤xs.length):BidsAt F w (.slice a k c) (xs.take k):=by
 obtain⟨a',c',he,hc,h⟩:=h;cases he;refine⟨a,c,by rw[List.length_take,Nat.min_eq_left hk],by rw[List.length_take];omega,?_⟩
 rcases h with h|⟨b,o,ha,hF,h⟩
 ·subst h;exact .inl (by simp)
 ·refine .inr ⟨b,o,ha,hF,λi hi j v hv=>?_⟩
  rw[List.length_take]at hi;rw[List.getElem_take]at hv;exact h i (by omega) j v hv
def rC (seller:Int)(l:List BidD)(k:Nat):Prop:=∀i (h:i<l.length),i<k→ji l[i].acct 1 64∧l[i].acct≠seller∧ji l[i].amount 1 1125899906842624∧∀j (hj:j<i),l[j].acct≠l[i].acct
set_option maxRecDepth 100000 in
theorem rD (F:Nat→Prop)(w:World)(a:AucD)(bv:Value)(hb:BidsAt F w bv a.bids)(hlen:a.bids.length≤4398046511104) :
  Calls Tryz.prog 342 #[a.agg bv] w λe w'=>TB (jG a.seller a.bids) e∧Below w.heap.size w w':=by
 obtain⟨a0,c0,rfl⟩:=hb.shape;have HX:=hid hb;have hcap:a.bids.length≤c0:=by obtain⟨_,_,e,hc,_⟩:=hb;cases e;exact hc
 clear hb;have hmf:∀(fn:Fn) (first cap:Array Value) (w:World),(Instr.makeFunc fn first cap).run Tryz.prog w = .ok (.func fn first cap) w:=λ_ _ _ _=>rfl;obtain⟨B,hB⟩:∃B,B=w.heap.size:=⟨_,rfl⟩;have HBB:=hid hB;unfold AucD.agg
 go_enter Tryz.func342,Tryz.ntmps342
 go_wp2
 try rw[← hB]
 clear hB
 go_loopw [9] (λi wr=>∃k:Nat,i = .int .i64 (k:Int)∧k≤a.bids.length∧Hid (Below w.heap.size w wr)∧Hid (wr.heap[B]?=some (.cells (ry a (.slice a0 a.bids.length c0)) 68 (0,0)))∧Hid (rC a.seller a.bids k)) (λi _=>a.bids.length-(intOf i).toNat)
 case atStart=>exact⟨0,rfl,by omega,hid (ke _ _),hid (by rw[HBB.out];exact heap_alloc_new _ _),hid (λi _ h=>by omega)⟩
 case round=>
  obtain⟨k,rfl,hk,HB,HW,HP⟩:=hrel;by_cases hlt:k<a.bids.length
  ·obtain⟨b,o,rfl,hF,hbl,g0,g1⟩:=BidD.at (HX.out.pure HB.out) k hlt
   obtain⟨x,hx⟩:∃x,x=a.bids[k]:=⟨_,rfl⟩;rw[← hx]at g0 g1;have HXX:=hid hx;have s1:wr.cell? ⟨B,1,none⟩=some (.int .i64 a.seller):=(cell_of_row _ _ _ _ _ _ HW.out).trans rfl;have s8:wr.cell? ⟨B,8,none⟩=some (.slice (some ⟨b,o,none⟩) a.bids.length c0):=(cell_of_row _ _ _ _ _ _ HW.out).trans rfl;have hBl:B<wr.heap.size:=aA s1;have HNO:=hid (λ(h:¬(ji x.acct 1 64∧x.acct≠a.seller∧ji x.amount 1 1125899906842624∧∀j (hj:j<k),(a.bids[j]'(by omega)).acct≠x.acct))=>(λh2=>h (by rw[hx];exact h2 k hlt):¬jG a.seller a.bids));have hk0:(0:Int)≤(k:Int):=by omega
   have hk1:(k:Int)≤(a.bids.length:Int):=by omega
   have hk2:(k:Int)≤(c0:Int):=by omega
   obtain⟨W0,hW0⟩:∃W0,W0=wr.alloc (.cells #[.int .i64 x.acct,.int .i64 x.amount] 150):=⟨_,rfl⟩;have hb0:Below wr.heap.size wr W0:=by rw[hW0];exact ke _ _
   obtain⟨n,hn⟩:∃n,n=wr.heap.size:=⟨_,rfl⟩;have rb:W0.heap[n]?=some (.cells #[.int .i64 x.acct,.int .i64 x.amount] 150 (0,0)):=by rw[hW0,hn];exact heap_alloc_new _ _
   have HB0:=hid (HB.out.trans (hb0.mono HB.out.size));have HT:=hid (nt W0 F _ _ (rB (HX.out.pure HB0.out) k hk) (by rw[List.length_take];omega) 344 (.pointer (some ⟨n,0,none⟩)) (enters_of Tryz.func344 (by kernel_rfl) rfl) (λy=>tf (y.acct=x.acct)) (λW m hm hbW=>(rA W (a.bids.take k)[m] n x ((cell_of_row _ _ _ _ _ _ ((hbW.block _ (lt_of_block rb)).trans rb)).trans rfl)).mono (by rintro e w' ⟨h1,h2⟩;exact⟨h1.tf,h2⟩)));have HRB:=hid rb;have HW0:=hid ((hb0.block _ (lt_of_block HW.out)).trans HW.out);clear hF hx hb0 rb;have y0:W0.cell? ⟨n,0,none⟩=some (.int .i64 x.acct):=(cell_of_row _ _ _ _ _ _ HRB.out).trans rfl;have y1:W0.cell? ⟨n,1,none⟩=some (.int .i64 x.amount):=(cell_of_row _ _ _ _ _ _ HRB.out).trans rfl;have z1:W0.cell? ⟨B,1,none⟩=some (.int .i64 a.seller):=(cell_of_row _ _ _ _ _ _ HW0.out).trans rfl;have z8:W0.cell? ⟨B,8,none⟩=some (.slice (some ⟨b,o,none⟩) a.bids.length c0):=(cell_of_row _ _ _ _ _ _ HW0.out).trans rfl
   go_wp2_with fail
   rw[← hW0]
   try rw[← hn]
   clear hW0 hn s1 s8 g0 g1;refine(pY W0 x.acct 64).mono ?_;rintro e w1 ⟨h1,rfl⟩;by_cases hA:ji x.acct 1 64
   case neg=>
    obtain rfl:=h1.neg hA;have NO:=hid (HNO.out (λh=>hA h.1));clear hA h1;go_wp2<;>(go_ret;exact⟨TB.no NO.out,HB0.out⟩)
   obtain rfl:=h1.pos hA;have HA:=hid hA;clear hA h1;by_cases hS:x.acct=a.seller
   case pos=>
    have NO:=hid (HNO.out (λh=>h.2.1 hS));have q:(x.acct == a.seller)=true:=by simpa using hS
    clear hS;go_wp2<;>(go_ret;exact⟨TB.no NO.out,HB0.out⟩)
   have q:(x.acct == a.seller)=false:=by simpa using hS
   have HS:=hid hS;clear hS
   go_wp2_with fail
   refine(pX _ x.amount 1125899906842624).mono ?_;rintro e w2 ⟨h1,rfl⟩;by_cases hM:ji x.amount 1 1125899906842624
   case neg=>
    obtain rfl:=h1.neg hM;have NO:=hid (HNO.out (λh=>hM h.2.2.1));clear hM h1;go_wp2<;>(go_ret;exact⟨TB.no NO.out,HB0.out⟩)
   obtain rfl:=h1.pos hM;have HM:=hid hM;clear hM h1
   go_wp2_with fail
   refine HT.out.mono ?_;rintro e w3 ⟨rfl,hb3⟩;have HB3:=hid (kd HB0.out hb3);have HW3:=hid ((hb3.block _ (lt_of_block HW0.out)).trans HW0.out);clear hb3;cases hany:(a.bids.take k).any (λy=>tf (y.acct=x.acct))
   ·have HNX:=hid (show rC a.seller a.bids (k+1)from λi hi hik=>by
     by_cases hie:i=k
     ·subst hie
      rw[← HXX.out];refine⟨HA.out,HS.out,HM.out,λj hj he=>?_⟩;have:=List.any_eq_false.1 hany a.bids[j] (List.mem_take_iff_getElem.2 ⟨j,by omega,rfl⟩);exact this (je he)
     ·exact HP.out i hi (by omega))
    clear hany;go_wp2
    go_roundw
    case rel=>exact⟨k+1,by go_num,by omega,HB3,HW3,HNX⟩
    case measure=>simp[intOf];omega
   ·have NO:=hid (HNO.out (λh=>by
     obtain⟨y,hy,hp⟩:=List.any_eq_true.1 hany;obtain⟨j,hj,rfl⟩:=List.mem_take_iff_getElem.1 hy;exact h.2.2.2 j (by omega) (tf_iff.1 hp)))
    clear hany;go_wp2<;>(go_ret;exact⟨TB.no NO.out,HB3.out⟩)
  ·have HY:=hid (show jG a.seller a.bids from λi hi=>HP.out i hi (by omega))
   go_wp2;go_ret;exact⟨TB.yes HY.out,HB.out⟩
end
section
open Go.RowKit Go.Sort
set_option maxRecDepth 100000 in
theorem rE (w:World)(a:AucD)(a0:Option Addr)(c0:Nat)(hlen:a.bids.length≤4398046511104) :
  Calls Tryz.prog 369 #[.agg #[],a.agg (.slice a0 a.bids.length c0)] w λe w'=>TB (a.step=0∧a.bids.length≤16) e∧Below w.heap.size w w':=by
 obtain⟨P,hP⟩:∃P,P=(a.step=0∧a.bids.length≤16):=⟨_,rfl⟩;rw[← hP];have HP:=hid hP;clear hP;unfold AucD.agg;by_cases h1:a.step=0
 ·have q:(a.step == 0)=true:=by simpa using h1
  by_cases h2:a.bids.length≤16
  ·have HY:=hid (show P from by rw[HP.out];exact⟨h1,h2⟩)
   have q2:(a.bids.length:Int)≤16:=by omega
   clear h1
   go_enter Tryz.func369,Tryz.ntmps369
   go_wp2;go_ret;exact⟨TB.yes HY.out,(by repeat (first|exact Below.refl _ _|exact HB.out|refine Below.drew ?_|refine Below.alloc ?_ (by first|exact Nat.le_refl _|exact HB.out.size|(simp;done)|(simp;omega)|omega|(have:=HB.out.size;simp;omega)) _|refine Below.setCell ?_ (by first|exact Nat.le_refl _|exact HB.out.size|(simp;done)|(simp;omega)|omega|(have:=HB.out.size;simp;omega)) _))⟩
  ·have HY:=hid (show ¬P from λh=>by rw[HP.out]at h;exact h2 h.2)
   have q2:¬(a.bids.length:Int)≤16:=by omega
   clear h1
   go_enter Tryz.func369,Tryz.ntmps369
   go_wp2;go_ret;exact⟨TB.no HY.out,(by repeat (first|exact Below.refl _ _|exact HB.out|refine Below.drew ?_|refine Below.alloc ?_ (by first|exact Nat.le_refl _|exact HB.out.size|(simp;done)|(simp;omega)|omega|(have:=HB.out.size;simp;omega)) _|refine Below.setCell ?_ (by first|exact Nat.le_refl _|exact HB.out.size|(simp;done)|(simp;omega)|omega|(have:=HB.out.size;simp;omega)) _))⟩
 ·have HY:=hid (show ¬P from λh=>by rw[HP.out]at h;exact h1 h.1)
  have q:(a.step == 0)=false:=by simpa using h1
  clear h1
  go_enter Tryz.func369,Tryz.ntmps369
  go_wp2;go_ret;exact⟨TB.no HY.out,(by repeat (first|exact Below.refl _ _|exact HB.out|refine Below.drew ?_|refine Below.alloc ?_ (by first|exact Nat.le_refl _|exact HB.out.size|(simp;done)|(simp;omega)|omega|(have:=HB.out.size;simp;omega)) _|refine Below.setCell ?_ (by first|exact Nat.le_refl _|exact HB.out.size|(simp;done)|(simp;omega)|omega|(have:=HB.out.size;simp;omega)) _))⟩
theorem rF (w:World)(n m:Int)(b:Bool)(hb:b=tf (ji n 1 m)):Calls Tryz.prog 339 #[.int .i64 n,.int .i64 m] w λe w'=>e = .returned (.bool b)∧Below w.heap.size w w':=
 (pX w n m).mono (by rintro e w' ⟨h,rfl⟩;exact⟨by rw[hb];exact h.tf,Below.refl _ _⟩)
theorem rG (w:World)(n m:Int)(b:Bool)(hb:b=tf (ji n 1 m)):Calls Tryz.prog 340 #[.int .i64 n,.int .i64 m] w λe w'=>e = .returned (.bool b)∧Below w.heap.size w w':=
 (pY w n m).mono (by rintro e w' ⟨h,rfl⟩;exact⟨by rw[hb];exact h.tf,Below.refl _ _⟩)
set_option maxRecDepth 100000 in
theorem rH (F:Nat→Prop)(w:World)(a:AucD)(bv:Value)(hbv:BidsAt F w bv a.bids)(hlen:a.bids.length≤4398046511104) :
  Calls Tryz.prog 373 #[.agg #[],a.agg bv] w λe w'=>TB (ji a.step 1 1125899906842624∧a.bids.length≤1∧∀b∈a.bids,a.reserve≤b.amount) e∧Below w.heap.size w w':=by
 obtain⟨a0,c0,rfl⟩:=hbv.shape;have HBV:=hid hbv;clear hbv;unfold AucD.agg;obtain⟨n,hn⟩:∃n,n=w.heap.size:=⟨_,rfl⟩;obtain⟨P,hP⟩:∃P,P=(ji a.step 1 1125899906842624∧a.bids.length≤1∧∀b∈a.bids,a.reserve≤b.amount):=⟨_,rfl⟩;rw[← hP];have HP:=hid hP;clear hP
 go_enter Tryz.func373,Tryz.ntmps373
 go_wp2_with fail
 obtain⟨W0,hW0⟩:∃W0,W0=(w.alloc (.cells #[] 413)).alloc (.cells (ry a (.slice a0 a.bids.length c0)) 68):=⟨_,rfl⟩;have hb0:Below w.heap.size w W0:=by rw[hW0];exact((Below.refl _ _).alloc (Nat.le_refl _) _).alloc (by simp) _
 have k1:W0.heap[n+1]?=some (.cells (ry a (.slice a0 a.bids.length c0)) 68 (0,0)):=by rw[hW0,hn];exact rm _ _ (by simp)
 have HB0:=hid hb0;have HBV0:=hid (HBV.out.pure hb0);have c5:W0.cell? ⟨n+1,5,none⟩=some (.int .i64 a.reserve):=(cell_of_row _ _ _ _ _ _ k1).trans rfl;have c6:W0.cell? ⟨n+1,6,none⟩=some (.int .i64 a.step):=(cell_of_row _ _ _ _ _ _ k1).trans rfl;have c8:W0.cell? ⟨n+1,8,none⟩=some (.slice a0 a.bids.length c0):=(cell_of_row _ _ _ _ _ _ k1).trans rfl;unfold ry at hW0;rw[← hW0]
 try rw[← hn]
 clear hW0 hn hb0 k1;obtain⟨b1,hb1⟩:∃b1,b1=tf (ji a.step 1 1125899906842624):=⟨_,rfl⟩;have q1:∀d os,Calls Tryz.prog 339 #[.int .i64 a.step,.int .i64 1125899906842624] (grow (redrawn W0 d) os) λe w''=>e = .returned (.bool b1)∧∃p:Regrown,w''=grow (redrawn W0 p.d) p.os:=λd os=>Calls.regrown_of (rF _ a.step 1125899906842624 b1 hb1);have k5:=cell_regrown c5;have k6:=cell_regrown c6;have k8:=cell_regrown c8;have HB1:=hid hb1;clear hb1;cases b1
 ·have HNO:=hid (show ¬P from λh=>by rw[HP.out]at h;have:=HB1.out;rw[je h.1]at this;cases this)
  refine wp_region_quiet_below (by kernel_rfl) (by kernel_rfl) ?_
  repeat (go_big_quiet_step (first|exact q1 _ _))
  refine wpQuiet_nil ?_;intro _ hw';obtain⟨⟨dq,osq⟩,hw''⟩:=hw';subst hw'';have HB3:=hid (kd HB0.out (below_regrown W0 dq osq))
  generalize grow (redrawn W0 dq) osq=w3 at *
  go_wp2;go_ret;exact⟨TB.no HNO.out,HB3.out⟩
 ·have HS:=hid (tf_iff.1 HB1.out.symm)
  by_cases h2:a.bids.length≤1
  ·have g2:(a.bids.length:Int)≤1:=by omega
   have d2:decide ((a.bids.length:Int)≤1)=true:=by simpa using g2
   by_cases h0:a.bids.length=0
   ·have g0:(a.bids.length:Int)=0:=by omega
    have d0:((a.bids.length:Int) == 0)=true:=by simpa using h0
    have HY:=hid (show P from by rw[HP.out];exact⟨HS.out,h2,λb hb=>by rw[List.eq_nil_of_length_eq_zero h0]at hb;cases hb⟩);clear h0 h2;refine wp_region_quiet_below (by kernel_rfl) (by kernel_rfl) ?_
    repeat (go_big_quiet_step (first|exact q1 _ _))
    refine wpQuiet_nil ?_;intro _ hw';obtain⟨⟨dq,osq⟩,hw''⟩:=hw';subst hw'';have HB3:=hid (kd HB0.out (below_regrown W0 dq osq))
    generalize grow (redrawn W0 dq) osq=w3 at *
    go_wp2;go_ret;exact⟨TB.yes HY.out,HB3.out⟩
   ·have d0:((a.bids.length:Int) == 0)=false:=by simpa using h0
    have h1:0<a.bids.length:=by omega
    obtain⟨b,o,rfl,hF,hbl,g0,g1⟩:=BidD.at HBV0.out 0 h1;rw[Nat.zero_mul,Nat.add_zero]at g0 g1;obtain⟨x,hx⟩:∃x,x=a.bids[0]:=⟨_,rfl⟩;rw[← hx]at g0 g1;have HALL:=hid (show(∀b∈a.bids,a.reserve≤b.amount)↔a.reserve≤x.amount from⟨λh=>by rw[hx];exact h _ (List.getElem_mem h1),λh b hb=>by
     obtain⟨i,hi,rfl⟩:=List.getElem_of_mem hb;have:i=0:=by omega
     subst this;rw[← hx];exact h⟩)
    have kb:=cell_regrown g1;have i0:(0:Int)<(a.bids.length:Int):=by omega
    clear hx hF h0;by_cases h3:a.reserve≤x.amount
    ·have d3:decide (a.reserve≤x.amount)=true:=by simpa using h3
     have HY:=hid (show P from by rw[HP.out];exact⟨HS.out,h2,HALL.out.2 h3⟩);clear h3 h2;refine wp_region_quiet_below (by kernel_rfl) (by kernel_rfl) ?_
     repeat (go_big_quiet_step (first|exact q1 _ _))
     refine wpQuiet_nil ?_;intro _ hw';obtain⟨⟨dq,osq⟩,hw''⟩:=hw';subst hw'';have HB3:=hid (kd HB0.out (below_regrown W0 dq osq))
     generalize grow (redrawn W0 dq) osq=w3 at *
     go_wp2;go_ret;exact⟨TB.yes HY.out,HB3.out⟩
    ·have d3:decide (a.reserve≤x.amount)=false:=by simpa using h3
     have HNO:=hid (show ¬P from λh=>by rw[HP.out]at h;exact h3 (HALL.out.1 h.2.2));clear h3 h2;refine wp_region_quiet_below (by kernel_rfl) (by kernel_rfl) ?_
     repeat (go_big_quiet_step (first|exact q1 _ _))
     refine wpQuiet_nil ?_;intro _ hw';obtain⟨⟨dq,osq⟩,hw''⟩:=hw';subst hw'';have HB3:=hid (kd HB0.out (below_regrown W0 dq osq))
     generalize grow (redrawn W0 dq) osq=w3 at *
     go_wp2;go_ret;exact⟨TB.no HNO.out,HB3.out⟩
  ·have g2:¬(a.bids.length:Int)≤1:=by omega
   have d2:decide ((a.bids.length:Int)≤1)=false:=by simpa using g2
   have HNO:=hid (show ¬P from λh=>by rw[HP.out]at h;exact h2 h.2.1);clear h2;refine wp_region_quiet_below (by kernel_rfl) (by kernel_rfl) ?_
   repeat (go_big_quiet_step (first|exact q1 _ _))
   refine wpQuiet_nil ?_;intro _ hw';obtain⟨⟨dq,osq⟩,hw''⟩:=hw';subst hw'';have HB3:=hid (kd HB0.out (below_regrown W0 dq osq))
   generalize grow (redrawn W0 dq) osq=w3 at *
   go_wp2;go_ret;exact⟨TB.no HNO.out,HB3.out⟩
def rI (a:AucD):Value:=if a.sealed then .iface 412 (.agg #[]) else .iface 413 (.agg #[])
set_option maxRecDepth 100000 in
theorem rJ (w:World)(a:AucD)(bv:Value):Calls Tryz.prog 341 #[a.agg bv] w λe w'=>e = .returned (rI a)∧Below w.heap.size w w':=by
 unfold AucD.agg rI;cases hs:a.sealed
 ·go_enter Tryz.func341,Tryz.ntmps341
  go_wp2;go_ret;exact⟨rfl,ke _ _⟩
 ·go_enter Tryz.func341,Tryz.ntmps341
  go_wp2;go_ret;exact⟨rfl,ke _ _⟩
theorem rK (k:Nat)(W:World):(Go.method (k+1) 412 (.agg #[]) "souk/auction.may").run Tryz.prog W = .ok (369,.agg #[]) W:=by kernel_rfl
theorem rL (k:Nat)(W:World):(Go.method (k+1) 413 (.agg #[]) "souk/auction.may").run Tryz.prog W = .ok (373,.agg #[]) W:=by kernel_rfl
set_option maxRecDepth 100000 in
theorem rM (F:Nat→Prop)(w:World)(a:AucD)(bv:Value)(hbv:BidsAt F w bv a.bids)(hlen:a.bids.length≤4398046511104) :
  Calls Tryz.prog 328 #[a.agg bv] w λe w'=>TB (jI a) e∧Below w.heap.size w w':=by
 obtain⟨a0,c0,rfl⟩:=hbv.shape;have HBV:=hid hbv;clear hbv;obtain⟨n,hn⟩:∃n,n=w.heap.size:=⟨_,rfl⟩;obtain⟨P,hP⟩:∃P,P=jI a:=⟨_,rfl⟩;rw[← hP];have HP:=hid hP;clear hP;obtain⟨W0,hW0⟩:∃W0,W0=w.alloc (.cells (ry a (.slice a0 a.bids.length c0)) 68):=⟨_,rfl⟩;have hb0:Below w.heap.size w W0:=by rw[hW0];exact ke _ _
 have k1:W0.heap[n]?=some (.cells (ry a (.slice a0 a.bids.length c0)) 68 (0,0)):=by rw[hW0,hn];exact heap_alloc_new _ _
 have HB0:=hid hb0;have hbv0:=HBV.out.pure hb0;have k_0:=cell_regrown (show W0.cell? ⟨n,0,none⟩=some (.int .i64 a.id)from(cell_of_row _ _ _ _ _ _ k1).trans rfl);have k_1:=cell_regrown (show W0.cell? ⟨n,1,none⟩=some (.int .i64 a.seller)from(cell_of_row _ _ _ _ _ _ k1).trans rfl);have k_2:=cell_regrown (show W0.cell? ⟨n,2,none⟩=some (.int .i64 a.inst)from(cell_of_row _ _ _ _ _ _ k1).trans rfl);have k_3:=cell_regrown (show W0.cell? ⟨n,3,none⟩=some (.bool a.sealed)from(cell_of_row _ _ _ _ _ _ k1).trans rfl);have k_4:=cell_regrown (show W0.cell? ⟨n,4,none⟩=some (.int .i64 a.qty)from(cell_of_row _ _ _ _ _ _ k1).trans rfl);have k_5:=cell_regrown (show W0.cell? ⟨n,5,none⟩=some (.int .i64 a.reserve)from(cell_of_row _ _ _ _ _ _ k1).trans rfl);have k_6:=cell_regrown (show W0.cell? ⟨n,6,none⟩=some (.int .i64 a.step)from(cell_of_row _ _ _ _ _ _ k1).trans rfl);have k_7:=cell_regrown (show W0.cell? ⟨n,7,none⟩=some (.int .i64 a.fin)from(cell_of_row _ _ _ _ _ _ k1).trans rfl);have k_8:=cell_regrown (show W0.cell? ⟨n,8,none⟩=some (.slice a0 a.bids.length c0)from(cell_of_row _ _ _ _ _ _ k1).trans rfl);obtain⟨b1,hb1⟩:∃b,b=tf (ji a.id 1 1099511627776):=⟨_,rfl⟩;have q1:∀d os,Calls Tryz.prog 339 #[.int .i64 a.id,.int .i64 1099511627776] (grow (redrawn W0 d) os) λe w''=>e = .returned (.bool b1)∧∃p:Regrown,w''=grow (redrawn W0 p.d) p.os:=λd os=>Calls.regrown_of (rF _ a.id 1099511627776 b1 hb1);have HB1:=hid hb1;clear hb1;obtain⟨b2,hb2⟩:∃b,b=tf (ji a.seller 1 64):=⟨_,rfl⟩;have q2:∀d os,Calls Tryz.prog 340 #[.int .i64 a.seller,.int .i64 64] (grow (redrawn W0 d) os) λe w''=>e = .returned (.bool b2)∧∃p:Regrown,w''=grow (redrawn W0 p.d) p.os:=λd os=>Calls.regrown_of (rG _ a.seller 64 b2 hb2);have HB2:=hid hb2;clear hb2;obtain⟨b3,hb3⟩:∃b,b=tf (ji a.inst 1 16):=⟨_,rfl⟩;have q3:∀d os,Calls Tryz.prog 340 #[.int .i64 a.inst,.int .i64 16] (grow (redrawn W0 d) os) λe w''=>e = .returned (.bool b3)∧∃p:Regrown,w''=grow (redrawn W0 p.d) p.os:=λd os=>Calls.regrown_of (rG _ a.inst 16 b3 hb3);have HB3:=hid hb3;clear hb3;obtain⟨b4,hb4⟩:∃b,b=tf (ji a.qty 1 1048576):=⟨_,rfl⟩;have q4:∀d os,Calls Tryz.prog 339 #[.int .i64 a.qty,.int .i64 1048576] (grow (redrawn W0 d) os) λe w''=>e = .returned (.bool b4)∧∃p:Regrown,w''=grow (redrawn W0 p.d) p.os:=λd os=>Calls.regrown_of (rF _ a.qty 1048576 b4 hb4);have HB4:=hid hb4;clear hb4;obtain⟨b5,hb5⟩:∃b,b=tf (ji a.reserve 1 1125899906842624):=⟨_,rfl⟩;have q5:∀d os,Calls Tryz.prog 339 #[.int .i64 a.reserve,.int .i64 1125899906842624] (grow (redrawn W0 d) os) λe w''=>e = .returned (.bool b5)∧∃p:Regrown,w''=grow (redrawn W0 p.d) p.os:=λd os=>Calls.regrown_of (rF _ a.reserve 1125899906842624 b5 hb5);have HB5:=hid hb5;clear hb5;obtain⟨b6,hb6⟩:∃b,b=tf (ji a.fin 1 1099511627776):=⟨_,rfl⟩;have q6:∀d os,Calls Tryz.prog 339 #[.int .i64 a.fin,.int .i64 1099511627776] (grow (redrawn W0 d) os) λe w''=>e = .returned (.bool b6)∧∃p:Regrown,w''=grow (redrawn W0 p.d) p.os:=λd os=>Calls.regrown_of (rF _ a.fin 1099511627776 b6 hb6);have HB6:=hid hb6;clear hb6;obtain⟨b9,hb9⟩:∃b,b=tf (jG a.seller a.bids):=⟨_,rfl⟩;have q9:∀d os,Calls Tryz.prog 342 #[.agg #[.int .i64 a.id,.int .i64 a.seller,.int .i64 a.inst,.bool a.sealed,.int .i64 a.qty,.int .i64 a.reserve,.int .i64 a.step,.int .i64 a.fin,.slice a0 a.bids.length c0]] (grow (redrawn W0 d) os) λe w''=>e = .returned (.bool b9)∧∃p:Regrown,w''=grow (redrawn W0 p.d) p.os:=λd os=>Calls.regrown_of ((rD F _ a (.slice a0 a.bids.length c0) (hbv0.pure (below_regrown W0 d os)) hlen).mono (by rintro e w' ⟨h1,h2⟩;exact⟨by rw[hb9];exact h1.tf,h2⟩));have HB9:=hid hb9;clear hb9;have q7:∀d os,Calls Tryz.prog 341 #[.agg #[.int .i64 a.id,.int .i64 a.seller,.int .i64 a.inst,.bool a.sealed,.int .i64 a.qty,.int .i64 a.reserve,.int .i64 a.step,.int .i64 a.fin,.slice a0 a.bids.length c0]] (grow (redrawn W0 d) os) λe w''=>e = .returned (rI a)∧∃p:Regrown,w''=grow (redrawn W0 p.d) p.os:=λd os=>Calls.regrown_of (rJ _ a (.slice a0 a.bids.length c0));obtain⟨b8,hb8⟩:∃b,b=tf (jH a):=⟨_,rfl⟩;have hsl:∀d os,a.sealed=true→Calls Tryz.prog 369 #[.agg #[],.agg #[.int .i64 a.id,.int .i64 a.seller,.int .i64 a.inst,.bool a.sealed,.int .i64 a.qty,.int .i64 a.reserve,.int .i64 a.step,.int .i64 a.fin,.slice a0 a.bids.length c0]] (grow (redrawn W0 d) os) λe w''=>e = .returned (.bool b8)∧∃p:Regrown,w''=grow (redrawn W0 p.d) p.os:=λd os hs=>Calls.regrown_of ((rE _ a a0 c0 hlen).mono (by rintro e w' ⟨h1,h2⟩;exact⟨by rw[hb8];refine(h1.iff ?_).tf;unfold jH;rw[hs,if_pos rfl],h2⟩));have hen:∀d os,a.sealed=false→Calls Tryz.prog 373 #[.agg #[],.agg #[.int .i64 a.id,.int .i64 a.seller,.int .i64 a.inst,.bool a.sealed,.int .i64 a.qty,.int .i64 a.reserve,.int .i64 a.step,.int .i64 a.fin,.slice a0 a.bids.length c0]] (grow (redrawn W0 d) os) λe w''=>e = .returned (.bool b8)∧∃p:Regrown,w''=grow (redrawn W0 p.d) p.os:=λd os hs=>Calls.regrown_of ((rH F _ a (.slice a0 a.bids.length c0) (hbv0.pure (below_regrown W0 d os)) hlen).mono (by rintro e w' ⟨h1,h2⟩;exact⟨by rw[hb8];refine(h1.iff ?_).tf;unfold jH;rw[hs,if_neg (by decide)],h2⟩));have HB8:=hid hb8;clear hb8 hb0 k1 hbv0;unfold AucD.agg;unfold ry at hW0;unfold rI at q7
 go_enter Tryz.func328,Tryz.ntmps328
 go_wp2_with fail
 rw[← hW0]
 try rw[← hn]
 clear hW0 hn;cases b1
 case false=>
  have HNO:=hid (show ¬P from λh=>by rw[HP.out]at h;have:=HB1.out;rw[je h.1]at this;cases this);refine wp_region_quiet_below (by kernel_rfl) (by kernel_rfl) ?_
  repeat (go_big_quiet_step (first|with_reducible exact q1 _ _|with_reducible exact q2 _ _|with_reducible exact q3 _ _|with_reducible exact q4 _ _|with_reducible exact q5 _ _|with_reducible exact q6 _ _))
  refine wpQuiet_nil ?_;intro _ hw';obtain⟨⟨dq,osq⟩,hw''⟩:=hw';subst hw'';have HB3:=hid (kd HB0.out (below_regrown W0 dq osq))
  generalize grow (redrawn W0 dq) osq=w3 at *
  go_wp2;go_ret;exact⟨TB.no HNO.out,HB3.out⟩
 have HS1:=hid (tf_iff.1 HB1.out.symm);cases b2
 case false=>
  have HNO:=hid (show ¬P from λh=>by rw[HP.out]at h;have:=HB2.out;rw[je h.2.1]at this;cases this);refine wp_region_quiet_below (by kernel_rfl) (by kernel_rfl) ?_
  repeat (go_big_quiet_step (first|with_reducible exact q1 _ _|with_reducible exact q2 _ _|with_reducible exact q3 _ _|with_reducible exact q4 _ _|with_reducible exact q5 _ _|with_reducible exact q6 _ _))
  refine wpQuiet_nil ?_;intro _ hw';obtain⟨⟨dq,osq⟩,hw''⟩:=hw';subst hw'';have HB3:=hid (kd HB0.out (below_regrown W0 dq osq))
  generalize grow (redrawn W0 dq) osq=w3 at *
  go_wp2;go_ret;exact⟨TB.no HNO.out,HB3.out⟩
 have HS2:=hid (tf_iff.1 HB2.out.symm);cases b3
 case false=>
  have HNO:=hid (show ¬P from λh=>by rw[HP.out]at h;have:=HB3.out;rw[je h.2.2.1]at this;cases this);refine wp_region_quiet_below (by kernel_rfl) (by kernel_rfl) ?_
  repeat (go_big_quiet_step (first|with_reducible exact q1 _ _|with_reducible exact q2 _ _|with_reducible exact q3 _ _|with_reducible exact q4 _ _|with_reducible exact q5 _ _|with_reducible exact q6 _ _))
  refine wpQuiet_nil ?_;intro _ hw';obtain⟨⟨dq,osq⟩,hw''⟩:=hw';subst hw'';have HB3:=hid (kd HB0.out (below_regrown W0 dq osq))
  generalize grow (redrawn W0 dq) osq=w3 at *
  go_wp2;go_ret;exact⟨TB.no HNO.out,HB3.out⟩
 have HS3:=hid (tf_iff.1 HB3.out.symm);cases b4
 case false=>
  have HNO:=hid (show ¬P from λh=>by rw[HP.out]at h;have:=HB4.out;rw[je h.2.2.2.1]at this;cases this);refine wp_region_quiet_below (by kernel_rfl) (by kernel_rfl) ?_
  repeat (go_big_quiet_step (first|with_reducible exact q1 _ _|with_reducible exact q2 _ _|with_reducible exact q3 _ _|with_reducible exact q4 _ _|with_reducible exact q5 _ _|with_reducible exact q6 _ _))
  refine wpQuiet_nil ?_;intro _ hw';obtain⟨⟨dq,osq⟩,hw''⟩:=hw';subst hw'';have HB3:=hid (kd HB0.out (below_regrown W0 dq osq))
  generalize grow (redrawn W0 dq) osq=w3 at *
  go_wp2;go_ret;exact⟨TB.no HNO.out,HB3.out⟩
 have HS4:=hid (tf_iff.1 HB4.out.symm);cases b5
 case false=>
  have HNO:=hid (show ¬P from λh=>by rw[HP.out]at h;have:=HB5.out;rw[je h.2.2.2.2.1]at this;cases this);refine wp_region_quiet_below (by kernel_rfl) (by kernel_rfl) ?_
  repeat (go_big_quiet_step (first|with_reducible exact q1 _ _|with_reducible exact q2 _ _|with_reducible exact q3 _ _|with_reducible exact q4 _ _|with_reducible exact q5 _ _|with_reducible exact q6 _ _))
  refine wpQuiet_nil ?_;intro _ hw';obtain⟨⟨dq,osq⟩,hw''⟩:=hw';subst hw'';have HB3:=hid (kd HB0.out (below_regrown W0 dq osq))
  generalize grow (redrawn W0 dq) osq=w3 at *
  go_wp2;go_ret;exact⟨TB.no HNO.out,HB3.out⟩
 have HS5:=hid (tf_iff.1 HB5.out.symm);cases b6
 case false=>
  have HNO:=hid (show ¬P from λh=>by rw[HP.out]at h;have:=HB6.out;rw[je h.2.2.2.2.2.1]at this;cases this);refine wp_region_quiet_below (by kernel_rfl) (by kernel_rfl) ?_
  repeat (go_big_quiet_step (first|with_reducible exact q1 _ _|with_reducible exact q2 _ _|with_reducible exact q3 _ _|with_reducible exact q4 _ _|with_reducible exact q5 _ _|with_reducible exact q6 _ _))
  refine wpQuiet_nil ?_;intro _ hw';obtain⟨⟨dq,osq⟩,hw''⟩:=hw';subst hw'';have HB3:=hid (kd HB0.out (below_regrown W0 dq osq))
  generalize grow (redrawn W0 dq) osq=w3 at *
  go_wp2;go_ret;exact⟨TB.no HNO.out,HB3.out⟩
 have HS6:=hid (tf_iff.1 HB6.out.symm);have hm1:=rK;have hm2:=rL;cases hs:a.sealed
 all_goals
  first|(have q8:=λd os=>hsl d os hs)|(have q8:=λd os=>hen d os hs)
  rw[hs]at q7 q8 q9 k_3;simp only[Bool.false_eq_true,if_false,if_true]at q7;clear hsl hen;cases b8
  case false=>
   have HNO:=hid (show ¬P from λh=>by rw[HP.out]at h;have:=HB8.out;rw[je h.2.2.2.2.2.2.1]at this;cases this);refine wp_region_quiet_below (by kernel_rfl) (by kernel_rfl) ?_
   repeat (go_big_quiet_step (first|with_reducible exact q1 _ _|with_reducible exact q2 _ _|with_reducible exact q3 _ _|with_reducible exact q4 _ _|with_reducible exact q5 _ _|with_reducible exact q6 _ _|with_reducible exact q7 _ _|with_reducible exact q8 _ _))
   refine wpQuiet_nil ?_;intro _ hw';obtain⟨⟨dq,osq⟩,hw''⟩:=hw';subst hw'';have HB3:=hid (kd HB0.out (below_regrown W0 dq osq))
   generalize grow (redrawn W0 dq) osq=w3 at *
   go_wp2;go_ret;exact⟨TB.no HNO.out,HB3.out⟩
  have HS8:=hid (tf_iff.1 HB8.out.symm);cases b9
  case false=>
   have HNO:=hid (show ¬P from λh=>by rw[HP.out]at h;have:=HB9.out;rw[je h.2.2.2.2.2.2.2]at this;cases this);refine wp_region_quiet_below (by kernel_rfl) (by kernel_rfl) ?_
   repeat (go_big_quiet_step (first|with_reducible exact q1 _ _|with_reducible exact q2 _ _|with_reducible exact q3 _ _|with_reducible exact q4 _ _|with_reducible exact q5 _ _|with_reducible exact q6 _ _|with_reducible exact q7 _ _|with_reducible exact q8 _ _|with_reducible exact q9 _ _))
   refine wpQuiet_nil ?_;intro _ hw';obtain⟨⟨dq,osq⟩,hw''⟩:=hw';subst hw'';have HB3:=hid (kd HB0.out (below_regrown W0 dq osq))
   generalize grow (redrawn W0 dq) osq=w3 at *
   go_wp2;go_ret;exact⟨TB.no HNO.out,HB3.out⟩
  have HS9:=hid (tf_iff.1 HB9.out.symm);have HY:=hid (show P from by rw[HP.out];exact⟨HS1.out,HS2.out,HS3.out,HS4.out,HS5.out,HS6.out,HS8.out,HS9.out⟩);refine wp_region_quiet_below (by kernel_rfl) (by kernel_rfl) ?_
  repeat (go_big_quiet_step (first|with_reducible exact q1 _ _|with_reducible exact q2 _ _|with_reducible exact q3 _ _|with_reducible exact q4 _ _|with_reducible exact q5 _ _|with_reducible exact q6 _ _|with_reducible exact q7 _ _|with_reducible exact q8 _ _|with_reducible exact q9 _ _))
  refine wpQuiet_nil ?_;intro _ hw';obtain⟨⟨dq,osq⟩,hw''⟩:=hw';subst hw'';have HB3:=hid (kd HB0.out (below_regrown W0 dq osq))
  generalize grow (redrawn W0 dq) osq=w3 at *
  go_wp2;go_ret;exact⟨TB.yes HY.out,HB3.out⟩
end
end Go.Proofs.YtaeakdichkhjaaaGreatDoor
