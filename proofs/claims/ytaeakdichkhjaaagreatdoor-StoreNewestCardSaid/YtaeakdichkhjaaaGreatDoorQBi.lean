/- large: what is not large is soon written. -/
import Derived.Test.YtaeakdichkhjaaaGreatDoorQBh
import Derived.Test.YtaeakdichkhjaaaGreatDoorQBc
import Derived.Test.YtaeakdichkhjaaaGreatDoorQAb
import Derived.Test.YtaeakdichkhjaaaGreatDoorQBd
set_option maxHeartbeats 4000000
open Go.Lib(hid)
namespace Go.Proofs.YtaeakdichkhjaaaGreatDoor
section
open Go.RowKit
theorem ws (l:List Int):(ig l).length≤10*l.length:=by
 induction l with
 | nil=>simp[ig]
 | cons n l ih=>
  rw[mI,List.length_append,List.length_cons];have:=bF (ie n) (by unfold ie;omega);omega
theorem wt {α:Type}{f:α→List UInt8}{l:List α}{k N:Nat}(hf:∀x∈l,(f x).length≤k)(hl:l.length≤N)(hN:N≤1000000):(lS f l).length≤10+N*k:=by
 unfold lS;rw[List.length_append];have h1:=bF l.length (by omega);have h2:∀l:List α,(∀x∈l,(f x).length≤k)→(l.flatMap f).length≤l.length*k:=by
  intro l
  induction l with
  | nil=>intro _;simp
  | cons x r ih=>
   intro h;rw[List.flatMap_cons,List.length_append,List.length_cons,Nat.succ_mul];have:=h x (by simp);have:=ih (λy hy=>h y (by simp[hy]));omega
 have h3:=h2 l hf;have h4:l.length*k≤N*k:=Nat.mul_le_mul_right _ hl;omega
theorem wu {n:List UInt8}(h:n.length≤24):(lQ n).length≤34:=by
 unfold lQ;rw[List.length_append];have:=bF n.length (by omega);omega
structure Small (s:StD) (v:VwD):Prop where
 a:s.accts.length≤1500
 i:s.insts.length≤1500
 o:s.ords.length≤1500
 u:s.aucs.length≤1500
 b:∀x∈s.aucs,x.bids.length≤1500
 r:s.rows.length≤1500
 p:v.poss.length≤1200
 n:v.lins.length≤400
 vo:v.open_.length≤200
 vl:v.lots.length≤100
def wv (s:StD)(v:VwD)(e:Ending):Prop:=∃b,e = .returned (.bool b)∧(b=false→Small s v)
theorem ww (l:List Int)(k:Nat)(h:l.length=k):(ig l).length≤10*k:=by have:=ws l;omega
theorem wy {a:AccD}(h:a.name.length≤24):(lT a).length≤35:=by
 unfold lT lP;rw[List.length_append,List.length_singleton];have:=wu h;omega
theorem wA {a:InsD}(h:a.name.length≤24):(lU a).length≤45:=by
 unfold lU lP;rw[List.length_append,List.length_append,List.length_singleton];have:=wu h;have:=ww [a.tick] 1 rfl;omega
theorem wB (r:RowD):(lW r).length≤40:=ww _ 4 rfl
theorem wC (x:OrdD):(lX x).length≤51:=by
 unfold lX lR;rw[List.length_append,List.length_append,List.length_singleton];have:=ww [x.id,x.acct,x.inst] 3 rfl;have:=ww [x.price,x.left] 2 rfl;omega
theorem wD (b:BidD):(lY b).length≤20:=ww _ 2 rfl
theorem wE {a:AucD}(h:a.bids.length≤16):(lZ a).length≤401:=by
 unfold lZ lP;rw[List.length_append,List.length_append,List.length_append,List.length_singleton];have:=ww [a.id,a.seller,a.inst] 3 rfl;have:=ww [a.qty,a.reserve,a.step,a.fin] 4 rfl;have:=wt (f:=lY) (l:=a.bids) (k:=20) (N:=16) (λx _=>wD x) h (by omega);omega
theorem wF (x:OpnD):(me x).length≤51:=by
 unfold me lR;rw[List.length_append,List.length_append,List.length_singleton];have:=ww [x.acct,x.id,x.inst] 3 rfl;have:=ww [x.price,x.left] 2 rfl;omega
theorem wG (x:LotD):(mf x).length≤40:=ww _ 4 rfl
theorem wH (x:PosD):(mg x).length≤60:=ww _ 6 rfl
theorem wI (x:LinD):(mh x).length≤41:=by
 unfold mh lR;rw[List.length_append,List.length_append,List.length_singleton];have:=ww [x.acct,x.seq] 2 rfl;have:=ww [ma x.delta,x.balance] 2 rfl;omega
theorem wJ {s:StD}{v:VwD}(h:Small s v)(hs:jW s)(hv:j9 v):(mi s v).length≤1000000:=by
 obtain⟨_,ha,hi,_,ho,hu,_⟩:=hs;obtain⟨hop,_,_⟩:=hv;have hna:∀x∈s.accts,x.name.length≤24:=λx hx=>(ha.2.1 x.name (List.mem_map.2 ⟨x,hx,rfl⟩)).2.2;have hni:∀x∈s.insts,x.name.length≤24:=λx hx=>(hi.2.2.1 x.name (List.mem_map.2 ⟨x,hx,rfl⟩)).2.2;have hbd:∀a∈s.aucs,a.bids.length≤16:=λa ha=>by
  have h1:=(ut _ _ hu.1.1 a ha).2.2.2.2.2.2.1;unfold jH at h1
  split at h1
  ·exact h1.2
  ·have:=h1.2.1;omega
 have l1:=wt (f:=lT) (k:=35) (λx hx=>wy (hna x hx)) ha.1 (by omega);have l2:=wt (f:=lU) (k:=45) (λx hx=>wA (hni x hx)) hi.2.1 (by omega);have l3:=wt (f:=lW) (k:=40) (λx _=>wB x) h.r (by omega);have l4:=wt (f:=lX) (k:=51) (λx _=>wC x) ho.1.1 (by omega);have l5:=wt (f:=lZ) (k:=401) (λx hx=>wE (hbd x hx)) hu.1.2 (by omega);have l6:=wt (f:=me) (k:=51) (λx _=>wF x) hop.1 (by omega);have l7:=wt (f:=mf) (k:=40) (λx _=>wG x) hop.2.1 (by omega);have l8:=wt (f:=mg) (k:=60) (λx _=>wH x) h.p (by omega);have l9:=wt (f:=mh) (k:=41) (λx _=>wI x) h.n (by omega);have l0:=ww [s.clock,s.fee,s.nextO,s.nextA] 4 rfl;unfold mi stB vwB;simp only[List.length_append];omega
set_option maxRecDepth 100000 in
theorem wK (F G:Nat→Prop)(w:World)(sv:StV)(dv:VwV)(s:StD)(v:VwD)(hs:StAt F w sv s)(hv:VwAt G w dv v)(hi:StIn s)(hvi:VwIn v) :
  Calls Tryz.prog 6 #[.agg (jc s sv),.agg (jd dv)] w λe w'=>wv s v e∧Below w.heap.size w w':=by
 have hr:reachBytes<2 ^ 47:=reachBytes_lt;have q1:s.accts.length≤140737488355328:=by have:=hi.la;omega
 have q2:s.insts.length≤140737488355328:=by have:=hi.li;omega
 have q3:s.rows.length≤140737488355328:=by have:=hi.lr;omega
 have q4:s.ords.length≤140737488355328:=by have:=hi.lo;omega
 have q5:s.aucs.length≤140737488355328:=by have:=hi.lu;omega
 have q6:v.open_.length≤140737488355328:=by have:=hvi.lo;omega
 have q7:v.lots.length≤140737488355328:=by have:=hvi.ll;omega
 have q8:v.poss.length≤140737488355328:=by have:=hvi.lp;omega
 have q9:v.lins.length≤140737488355328:=by have:=hvi.ln;omega
 have HNA:=hid (show ∀x∈s.accts,x.name.length≤140737488355328 from λx hx=>by have h:=hi.a x hx;unfold vC at h;omega);have HNI:=hid (show ∀x∈s.insts,x.name.length≤140737488355328 from λx hx=>by have h:=hi.i x hx;unfold vG at h;omega);have HNB:=hid (show ∀x∈s.aucs,x.bids.length≤140737488355328 from λx hx=>by have h:=hi.u x hx;unfold wh at h;omega);obtain⟨s4,s5,s6,s7,s8⟩:=sv;obtain⟨d0,d1,d2,d3⟩:=dv;obtain⟨sa4,sc4,rfl⟩:∃a c,s4=Value.slice a s.accts.length c:=hs.a.shape;obtain⟨sa5,sc5,rfl⟩:∃a c,s5=Value.slice a s.insts.length c:=hs.i.shape;obtain⟨sa6,sc6,rfl⟩:∃a c,s6=Value.slice a s.rows.length c:=hs.r.shape;obtain⟨sa7,sc7,rfl⟩:∃a c,s7=Value.slice a s.ords.length c:=hs.o.shape;obtain⟨sa8,sc8,rfl⟩:∃a c,s8=Value.slice a s.aucs.length c:=hs.u.shape;obtain⟨da0,dc0,rfl⟩:∃a c,d0=Value.slice a v.open_.length c:=hv.o.shape;obtain⟨da1,dc1,rfl⟩:∃a c,d1=Value.slice a v.lots.length c:=hv.l.shape;obtain⟨da2,dc2,rfl⟩:∃a c,d2=Value.slice a v.poss.length c:=hv.p.shape;obtain⟨da3,dc3,rfl⟩:∃a c,d3=Value.slice a v.lins.length c:=hv.n.shape;unfold jc jd;dsimp only;obtain⟨n,hn⟩:∃n,n=w.heap.size:=⟨_,rfl⟩;obtain⟨W0,hW0⟩:∃W0,W0=(w.alloc (.cells #[.int .i64 s.clock,.int .i64 s.fee,.int .i64 s.nextO,.int .i64 s.nextA,.slice sa4 s.accts.length sc4,.slice sa5 s.insts.length sc5,.slice sa6 s.rows.length sc6,.slice sa7 s.ords.length sc7,.slice sa8 s.aucs.length sc8] 29)).alloc (.cells #[.slice da0 v.open_.length dc0,.slice da1 v.lots.length dc1,.slice da2 v.poss.length dc2,.slice da3 v.lins.length dc3] 35):=⟨_,rfl⟩;have hbel:Below w.heap.size w W0:=by rw[hW0];exact((Below.refl _ _).alloc (Nat.le_refl _) _).alloc (by simp) _
 have k0:W0.heap[n]?=some (.cells #[.int .i64 s.clock,.int .i64 s.fee,.int .i64 s.nextO,.int .i64 s.nextA,.slice sa4 s.accts.length sc4,.slice sa5 s.insts.length sc5,.slice sa6 s.rows.length sc6,.slice sa7 s.ords.length sc7,.slice sa8 s.aucs.length sc8] 29 (0,0)):=by rw[hW0,hn];exact(Below.heap_alloc _ _ _ (by simp<;>omega)).trans (heap_alloc_new _ _)
 have k1:W0.heap[n+1]?=some (.cells #[.slice da0 v.open_.length dc0,.slice da1 v.lots.length dc1,.slice da2 v.poss.length dc2,.slice da3 v.lins.length dc3] 35 (0,0)):=by rw[hW0,hn];exact oN _ _ (by simp)
 have HA:=hid (hs.a.pure hbel);have HI:=hid (hs.i.pure hbel);have HU:=hid (hs.u.pure hbel);have HB:=hid hbel;have c0:=(cell_of_row _ n 0 _ _ _ k0).trans (show _=some (.int .i64 s.clock)from rfl);have c1:=(cell_of_row _ n 1 _ _ _ k0).trans (show _=some (.int .i64 s.fee)from rfl);have c2:=(cell_of_row _ n 2 _ _ _ k0).trans (show _=some (.int .i64 s.nextO)from rfl);have c3:=(cell_of_row _ n 3 _ _ _ k0).trans (show _=some (.int .i64 s.nextA)from rfl);have c4:=(cell_of_row _ n 4 _ _ _ k0).trans (show _=some (.slice sa4 s.accts.length sc4)from rfl);have c5:=(cell_of_row _ n 5 _ _ _ k0).trans (show _=some (.slice sa5 s.insts.length sc5)from rfl);have c6:=(cell_of_row _ n 6 _ _ _ k0).trans (show _=some (.slice sa6 s.rows.length sc6)from rfl);have c7:=(cell_of_row _ n 7 _ _ _ k0).trans (show _=some (.slice sa7 s.ords.length sc7)from rfl);have c8:=(cell_of_row _ n 8 _ _ _ k0).trans (show _=some (.slice sa8 s.aucs.length sc8)from rfl);have e0:=(cell_of_row _ (n+1) 0 _ _ _ k1).trans (show _=some (.slice da0 v.open_.length dc0)from rfl);have e1:=(cell_of_row _ (n+1) 1 _ _ _ k1).trans (show _=some (.slice da1 v.lots.length dc1)from rfl);have e2:=(cell_of_row _ (n+1) 2 _ _ _ k1).trans (show _=some (.slice da2 v.poss.length dc2)from rfl);have e3:=(cell_of_row _ (n+1) 3 _ _ _ k1).trans (show _=some (.slice da3 v.lins.length dc3)from rfl);obtain⟨N0,hN0⟩:∃N0:Int,N0=(s.accts.length:Int)+s.insts.length+s.rows.length+s.ords.length+s.aucs.length:=⟨_,rfl⟩;have HN0:=hid hN0;have hN1:N0≤1125899906842624:=by omega
 have hN2:0≤N0:=by omega
 have w1:IntKind.i64.wrap ((s.accts.length:Int)+s.insts.length)=(s.accts.length:Int)+s.insts.length:=by rw[IntKind.wrap_i64];omega
 have w2:IntKind.i64.wrap ((s.accts.length:Int)+s.insts.length+s.rows.length)=(s.accts.length:Int)+s.insts.length+s.rows.length:=by rw[IntKind.wrap_i64];omega
 have w3:IntKind.i64.wrap ((s.accts.length:Int)+s.insts.length+s.rows.length+s.ords.length)=(s.accts.length:Int)+s.insts.length+s.rows.length+s.ords.length:=by rw[IntKind.wrap_i64];omega
 have w4:IntKind.i64.wrap ((s.accts.length:Int)+s.insts.length+s.rows.length+s.ords.length+s.aucs.length)=(s.accts.length:Int)+s.insts.length+s.rows.length+s.ords.length+s.aucs.length:=by rw[IntKind.wrap_i64];omega
 clear hs hv hi hvi hr hbel k0 k1 hN0
 go_enter Tryz.func6,Tryz.ntmps6
 go_wp2;rw[← hW0]
 try rw[← hn]
 clear hW0 hn
 go_loopw [5,6] (λn i wr=>∃(k:Nat) (m:Int),i = .int .i64 k∧k≤s.aucs.length∧n = .int .i64 m∧N0≤m∧m≤2251799813685248∧Hid (∀i (h:i<s.aucs.length),i<k→min (s.aucs[i].bids.length:Int) 1501≤m)∧W0=wr) (λ_ i _=>s.aucs.length-(intOf i).toNat)
 case atStart=>exact⟨0,N0,rfl,by omega,by first|rfl|rw[HN0.out],by omega,by omega,hid (λi _ hi=>absurd hi (Nat.not_lt_zero _)),rfl⟩
 case round=>
  obtain⟨k,m,rfl,hk,rfl,hm0,hm1,HALL,rfl⟩:=hrel;by_cases hlt:k<s.aucs.length
  ·have t1:decide ((k:Int)<(s.aucs.length:Int))=true:=by simp;omega
   by_cases hm:m≤1500
   ·have t2:decide (m≤1500)=true:=by simp;omega
    obtain⟨b,o,bv,rfl,hF,hbl,hbv,g0,g1,g2,g3,g4,g5,g6,g7,g8⟩:=HU.out.at k hlt;obtain⟨ba,bc,rfl⟩:=hbv.shape;have hx:=HNB.out _ (List.getElem_mem hlt);clear hF hbv g0 g1 g2 g3 g4 g5 g6 g7;go_wp2
    go_roundw
    case rel=>
     refine⟨k+1,_,by go_num,by omega,rfl,by omega,by omega,hid ?_,by trivial⟩;intro i hi hik
     rcases Nat.lt_or_ge i k with h9|h9
     ·have:=HALL.out i hi h9;omega
     ·have h8:i=k:=by omega
      subst h8;omega
    case measure=>simp[intOf];omega
   ·have t2:decide (m≤1500)=false:=by simp;omega
    go_wp2;have HALL0:=HALL;clear HALL;have HALL:=hid (show ∀x∈s.aucs,min (x.bids.length:Int) 1501≤m from λx hx=>by
     obtain⟨i,hi,rfl⟩:=List.getElem_of_mem hx;have:=Int.min_le_right (s.aucs[i].bids.length:Int) 1501;omega)
    obtain⟨M1,hM1⟩:∃M1:Int,M1=m:=⟨_,rfl⟩;rw[← hM1]at HALL;clear HALL0;clear t1 t2 hm hlt
    go_loopw [5,7] (λn i wr=>∃(k:Nat) (m:Int),i = .int .i64 k∧k≤s.accts.length∧n = .int .i64 m∧N0≤m∧m≤2251799813685248∧M1≤m∧W0=wr) (λ_ i _=>s.accts.length-(intOf i).toNat)
    case atStart=>exact⟨0,m,rfl,by omega,by first|rfl|rw[HN0.out],by omega,by omega,by omega,rfl⟩
    case round=>
     obtain⟨k,m,rfl,hk,rfl,hm0,hm1,hmM,rfl⟩:=hrel;by_cases hlt:k<s.accts.length
     ·have t1:decide ((k:Int)<(s.accts.length:Int))=true:=by simp;omega
      by_cases hm:m≤1500
      ·have t2:decide (m≤1500)=true:=by simp;omega
       obtain⟨b,o,rfl,hF,hbl,g0,g1⟩:=AccD.at HA.out k hlt;have hx:=HNA.out _ (List.getElem_mem hlt);have hsz:(⟨s.accts[k].name.toArray⟩:ByteArray).size=s.accts[k].name.length:=by show Array.size _=_;simp
       clear hF g1;go_wp2
       go_roundw
       case rel=>
        refine⟨k+1,_,by go_num,by omega,rfl,by omega,by omega,by omega,by trivial⟩
       case measure=>simp[intOf];omega
      ·have t2:decide (m≤1500)=false:=by simp;omega
       go_wp2;clear t1 t2 hm hlt
       go_loopw [5,8] (λn i wr=>∃(k:Nat) (m:Int),i = .int .i64 k∧k≤s.insts.length∧n = .int .i64 m∧N0≤m∧m≤2251799813685248∧M1≤m∧W0=wr) (λ_ i _=>s.insts.length-(intOf i).toNat)
       case atStart=>exact⟨0,m,rfl,by omega,by first|rfl|rw[HN0.out],by omega,by omega,by omega,rfl⟩
       case round=>
        obtain⟨k,m,rfl,hk,rfl,hm0,hm1,hmM,rfl⟩:=hrel;by_cases hlt:k<s.insts.length
        ·have t1:decide ((k:Int)<(s.insts.length:Int))=true:=by simp;omega
         by_cases hm:m≤1500
         ·have t2:decide (m≤1500)=true:=by simp;omega
          obtain⟨b,o,rfl,hF,hbl,g0,g1,g2⟩:=InsD.at HI.out k hlt;have hx:=HNI.out _ (List.getElem_mem hlt);have hsz:(⟨s.insts[k].name.toArray⟩:ByteArray).size=s.insts[k].name.length:=by show Array.size _=_;simp
          clear hF g1 g2;go_wp2
          go_roundw
          case rel=>
           refine⟨k+1,_,by go_num,by omega,rfl,by omega,by omega,by omega,by trivial⟩
          case measure=>simp[intOf];omega
         ·have t2:decide (m≤1500)=false:=by simp;omega
          have t9:decide (1500<m)=true:=by simp;omega
          go_wp2;go_ret;exact⟨⟨true,rfl,λe=>by cases e⟩,HB.out⟩
        ·have t1:decide ((k:Int)<(s.insts.length:Int))=false:=by simp;omega
         clear hk;clear hm1;by_cases hm9:1500<m
         ·have t9:decide (1500<m)=true:=by simp;omega
          go_wp2;go_ret;exact⟨⟨true,rfl,λe=>by cases e⟩,HB.out⟩
         have t9:decide (1500<m)=false:=by simp;omega
         by_cases ho9:200<v.open_.length
         ·have zo:decide ((200:Int)<(v.open_.length:Int))=true:=by simp;omega
          go_wp2;go_ret;exact⟨⟨true,rfl,λe=>by cases e⟩,HB.out⟩
         have zo:decide ((200:Int)<(v.open_.length:Int))=false:=by simp;omega
         by_cases hl9:100<v.lots.length
         ·have zl:decide ((100:Int)<(v.lots.length:Int))=true:=by simp;omega
          go_wp2;go_ret;exact⟨⟨true,rfl,λe=>by cases e⟩,HB.out⟩
         have zl:decide ((100:Int)<(v.lots.length:Int))=false:=by simp;omega
         by_cases hp9:1200<v.poss.length
         ·have zp:decide ((1200:Int)<(v.poss.length:Int))=true:=by simp;omega
          go_wp2;go_ret;exact⟨⟨true,rfl,λe=>by cases e⟩,HB.out⟩
         have zp:decide ((1200:Int)<(v.poss.length:Int))=false:=by simp;omega
         by_cases hn9:400<v.lins.length
         ·have zn:decide ((400:Int)<(v.lins.length:Int))=true:=by simp;omega
          go_wp2;go_ret;exact⟨⟨true,rfl,λe=>by cases e⟩,HB.out⟩
         have zn:decide ((400:Int)<(v.lins.length:Int))=false:=by simp;omega
         go_wp2;go_ret;exact⟨⟨false,rfl,λ_=>⟨by have:=HN0.out;omega,by have:=HN0.out;omega,by have:=HN0.out;omega,by have:=HN0.out;omega,λx hx=>(by have h1:=HALL.out x hx;rw[Int.min_def]at h1;split at h1<;>omega),by have:=HN0.out;omega,by omega,by omega,by omega,by omega⟩⟩,HB.out⟩
     ·have t1:decide ((k:Int)<(s.accts.length:Int))=false:=by simp;omega
      go_wp2;clear t1 hlt
      go_loopw [5,8] (λn i wr=>∃(k:Nat) (m:Int),i = .int .i64 k∧k≤s.insts.length∧n = .int .i64 m∧N0≤m∧m≤2251799813685248∧M1≤m∧W0=wr) (λ_ i _=>s.insts.length-(intOf i).toNat)
      case atStart=>exact⟨0,m,rfl,by omega,by first|rfl|rw[HN0.out],by omega,by omega,by omega,rfl⟩
      case round=>
       obtain⟨k,m,rfl,hk,rfl,hm0,hm1,hmM,rfl⟩:=hrel;by_cases hlt:k<s.insts.length
       ·have t1:decide ((k:Int)<(s.insts.length:Int))=true:=by simp;omega
        by_cases hm:m≤1500
        ·have t2:decide (m≤1500)=true:=by simp;omega
         obtain⟨b,o,rfl,hF,hbl,g0,g1,g2⟩:=InsD.at HI.out k hlt;have hx:=HNI.out _ (List.getElem_mem hlt);have hsz:(⟨s.insts[k].name.toArray⟩:ByteArray).size=s.insts[k].name.length:=by show Array.size _=_;simp
         clear hF g1 g2;go_wp2
         go_roundw
         case rel=>
          refine⟨k+1,_,by go_num,by omega,rfl,by omega,by omega,by omega,by trivial⟩
         case measure=>simp[intOf];omega
        ·have t2:decide (m≤1500)=false:=by simp;omega
         have t9:decide (1500<m)=true:=by simp;omega
         go_wp2;go_ret;exact⟨⟨true,rfl,λe=>by cases e⟩,HB.out⟩
       ·have t1:decide ((k:Int)<(s.insts.length:Int))=false:=by simp;omega
        clear hk;clear hm1;by_cases hm9:1500<m
        ·have t9:decide (1500<m)=true:=by simp;omega
         go_wp2;go_ret;exact⟨⟨true,rfl,λe=>by cases e⟩,HB.out⟩
        have t9:decide (1500<m)=false:=by simp;omega
        by_cases ho9:200<v.open_.length
        ·have zo:decide ((200:Int)<(v.open_.length:Int))=true:=by simp;omega
         go_wp2;go_ret;exact⟨⟨true,rfl,λe=>by cases e⟩,HB.out⟩
        have zo:decide ((200:Int)<(v.open_.length:Int))=false:=by simp;omega
        by_cases hl9:100<v.lots.length
        ·have zl:decide ((100:Int)<(v.lots.length:Int))=true:=by simp;omega
         go_wp2;go_ret;exact⟨⟨true,rfl,λe=>by cases e⟩,HB.out⟩
        have zl:decide ((100:Int)<(v.lots.length:Int))=false:=by simp;omega
        by_cases hp9:1200<v.poss.length
        ·have zp:decide ((1200:Int)<(v.poss.length:Int))=true:=by simp;omega
         go_wp2;go_ret;exact⟨⟨true,rfl,λe=>by cases e⟩,HB.out⟩
        have zp:decide ((1200:Int)<(v.poss.length:Int))=false:=by simp;omega
        by_cases hn9:400<v.lins.length
        ·have zn:decide ((400:Int)<(v.lins.length:Int))=true:=by simp;omega
         go_wp2;go_ret;exact⟨⟨true,rfl,λe=>by cases e⟩,HB.out⟩
        have zn:decide ((400:Int)<(v.lins.length:Int))=false:=by simp;omega
        go_wp2;go_ret;exact⟨⟨false,rfl,λ_=>⟨by have:=HN0.out;omega,by have:=HN0.out;omega,by have:=HN0.out;omega,by have:=HN0.out;omega,λx hx=>(by have h1:=HALL.out x hx;rw[Int.min_def]at h1;split at h1<;>omega),by have:=HN0.out;omega,by omega,by omega,by omega,by omega⟩⟩,HB.out⟩
  ·have t1:decide ((k:Int)<(s.aucs.length:Int))=false:=by simp;omega
   go_wp2;have HALL0:=HALL;clear HALL;have HALL:=hid (show ∀x∈s.aucs,min (x.bids.length:Int) 1501≤m from λx hx=>by
    obtain⟨i,hi,rfl⟩:=List.getElem_of_mem hx;exact HALL0.out i hi (by omega))
   obtain⟨M1,hM1⟩:∃M1:Int,M1=m:=⟨_,rfl⟩;rw[← hM1]at HALL;clear HALL0;clear t1 hlt
   go_loopw [5,7] (λn i wr=>∃(k:Nat) (m:Int),i = .int .i64 k∧k≤s.accts.length∧n = .int .i64 m∧N0≤m∧m≤2251799813685248∧M1≤m∧W0=wr) (λ_ i _=>s.accts.length-(intOf i).toNat)
   case atStart=>exact⟨0,m,rfl,by omega,by first|rfl|rw[HN0.out],by omega,by omega,by omega,rfl⟩
   case round=>
    obtain⟨k,m,rfl,hk,rfl,hm0,hm1,hmM,rfl⟩:=hrel;by_cases hlt:k<s.accts.length
    ·have t1:decide ((k:Int)<(s.accts.length:Int))=true:=by simp;omega
     by_cases hm:m≤1500
     ·have t2:decide (m≤1500)=true:=by simp;omega
      obtain⟨b,o,rfl,hF,hbl,g0,g1⟩:=AccD.at HA.out k hlt;have hx:=HNA.out _ (List.getElem_mem hlt);have hsz:(⟨s.accts[k].name.toArray⟩:ByteArray).size=s.accts[k].name.length:=by show Array.size _=_;simp
      clear hF g1;go_wp2
      go_roundw
      case rel=>
       refine⟨k+1,_,by go_num,by omega,rfl,by omega,by omega,by omega,by trivial⟩
      case measure=>simp[intOf];omega
     ·have t2:decide (m≤1500)=false:=by simp;omega
      go_wp2;clear t1 t2 hm hlt
      go_loopw [5,8] (λn i wr=>∃(k:Nat) (m:Int),i = .int .i64 k∧k≤s.insts.length∧n = .int .i64 m∧N0≤m∧m≤2251799813685248∧M1≤m∧W0=wr) (λ_ i _=>s.insts.length-(intOf i).toNat)
      case atStart=>exact⟨0,m,rfl,by omega,by first|rfl|rw[HN0.out],by omega,by omega,by omega,rfl⟩
      case round=>
       obtain⟨k,m,rfl,hk,rfl,hm0,hm1,hmM,rfl⟩:=hrel;by_cases hlt:k<s.insts.length
       ·have t1:decide ((k:Int)<(s.insts.length:Int))=true:=by simp;omega
        by_cases hm:m≤1500
        ·have t2:decide (m≤1500)=true:=by simp;omega
         obtain⟨b,o,rfl,hF,hbl,g0,g1,g2⟩:=InsD.at HI.out k hlt;have hx:=HNI.out _ (List.getElem_mem hlt);have hsz:(⟨s.insts[k].name.toArray⟩:ByteArray).size=s.insts[k].name.length:=by show Array.size _=_;simp
         clear hF g1 g2;go_wp2
         go_roundw
         case rel=>
          refine⟨k+1,_,by go_num,by omega,rfl,by omega,by omega,by omega,by trivial⟩
         case measure=>simp[intOf];omega
        ·have t2:decide (m≤1500)=false:=by simp;omega
         have t9:decide (1500<m)=true:=by simp;omega
         go_wp2;go_ret;exact⟨⟨true,rfl,λe=>by cases e⟩,HB.out⟩
       ·have t1:decide ((k:Int)<(s.insts.length:Int))=false:=by simp;omega
        clear hk;clear hm1;by_cases hm9:1500<m
        ·have t9:decide (1500<m)=true:=by simp;omega
         go_wp2;go_ret;exact⟨⟨true,rfl,λe=>by cases e⟩,HB.out⟩
        have t9:decide (1500<m)=false:=by simp;omega
        by_cases ho9:200<v.open_.length
        ·have zo:decide ((200:Int)<(v.open_.length:Int))=true:=by simp;omega
         go_wp2;go_ret;exact⟨⟨true,rfl,λe=>by cases e⟩,HB.out⟩
        have zo:decide ((200:Int)<(v.open_.length:Int))=false:=by simp;omega
        by_cases hl9:100<v.lots.length
        ·have zl:decide ((100:Int)<(v.lots.length:Int))=true:=by simp;omega
         go_wp2;go_ret;exact⟨⟨true,rfl,λe=>by cases e⟩,HB.out⟩
        have zl:decide ((100:Int)<(v.lots.length:Int))=false:=by simp;omega
        by_cases hp9:1200<v.poss.length
        ·have zp:decide ((1200:Int)<(v.poss.length:Int))=true:=by simp;omega
         go_wp2;go_ret;exact⟨⟨true,rfl,λe=>by cases e⟩,HB.out⟩
        have zp:decide ((1200:Int)<(v.poss.length:Int))=false:=by simp;omega
        by_cases hn9:400<v.lins.length
        ·have zn:decide ((400:Int)<(v.lins.length:Int))=true:=by simp;omega
         go_wp2;go_ret;exact⟨⟨true,rfl,λe=>by cases e⟩,HB.out⟩
        have zn:decide ((400:Int)<(v.lins.length:Int))=false:=by simp;omega
        go_wp2;go_ret;exact⟨⟨false,rfl,λ_=>⟨by have:=HN0.out;omega,by have:=HN0.out;omega,by have:=HN0.out;omega,by have:=HN0.out;omega,λx hx=>(by have h1:=HALL.out x hx;rw[Int.min_def]at h1;split at h1<;>omega),by have:=HN0.out;omega,by omega,by omega,by omega,by omega⟩⟩,HB.out⟩
    ·have t1:decide ((k:Int)<(s.accts.length:Int))=false:=by simp;omega
     go_wp2;clear t1 hlt
     go_loopw [5,8] (λn i wr=>∃(k:Nat) (m:Int),i = .int .i64 k∧k≤s.insts.length∧n = .int .i64 m∧N0≤m∧m≤2251799813685248∧M1≤m∧W0=wr) (λ_ i _=>s.insts.length-(intOf i).toNat)
     case atStart=>exact⟨0,m,rfl,by omega,by first|rfl|rw[HN0.out],by omega,by omega,by omega,rfl⟩
     case round=>
      obtain⟨k,m,rfl,hk,rfl,hm0,hm1,hmM,rfl⟩:=hrel;by_cases hlt:k<s.insts.length
      ·have t1:decide ((k:Int)<(s.insts.length:Int))=true:=by simp;omega
       by_cases hm:m≤1500
       ·have t2:decide (m≤1500)=true:=by simp;omega
        obtain⟨b,o,rfl,hF,hbl,g0,g1,g2⟩:=InsD.at HI.out k hlt;have hx:=HNI.out _ (List.getElem_mem hlt);have hsz:(⟨s.insts[k].name.toArray⟩:ByteArray).size=s.insts[k].name.length:=by show Array.size _=_;simp
        clear hF g1 g2;go_wp2
        go_roundw
        case rel=>
         refine⟨k+1,_,by go_num,by omega,rfl,by omega,by omega,by omega,by trivial⟩
        case measure=>simp[intOf];omega
       ·have t2:decide (m≤1500)=false:=by simp;omega
        have t9:decide (1500<m)=true:=by simp;omega
        go_wp2;go_ret;exact⟨⟨true,rfl,λe=>by cases e⟩,HB.out⟩
      ·have t1:decide ((k:Int)<(s.insts.length:Int))=false:=by simp;omega
       clear hk;clear hm1;by_cases hm9:1500<m
       ·have t9:decide (1500<m)=true:=by simp;omega
        go_wp2;go_ret;exact⟨⟨true,rfl,λe=>by cases e⟩,HB.out⟩
       have t9:decide (1500<m)=false:=by simp;omega
       by_cases ho9:200<v.open_.length
       ·have zo:decide ((200:Int)<(v.open_.length:Int))=true:=by simp;omega
        go_wp2;go_ret;exact⟨⟨true,rfl,λe=>by cases e⟩,HB.out⟩
       have zo:decide ((200:Int)<(v.open_.length:Int))=false:=by simp;omega
       by_cases hl9:100<v.lots.length
       ·have zl:decide ((100:Int)<(v.lots.length:Int))=true:=by simp;omega
        go_wp2;go_ret;exact⟨⟨true,rfl,λe=>by cases e⟩,HB.out⟩
       have zl:decide ((100:Int)<(v.lots.length:Int))=false:=by simp;omega
       by_cases hp9:1200<v.poss.length
       ·have zp:decide ((1200:Int)<(v.poss.length:Int))=true:=by simp;omega
        go_wp2;go_ret;exact⟨⟨true,rfl,λe=>by cases e⟩,HB.out⟩
       have zp:decide ((1200:Int)<(v.poss.length:Int))=false:=by simp;omega
       by_cases hn9:400<v.lins.length
       ·have zn:decide ((400:Int)<(v.lins.length:Int))=true:=by simp;omega
        go_wp2;go_ret;exact⟨⟨true,rfl,λe=>by cases e⟩,HB.out⟩
       have zn:decide ((400:Int)<(v.lins.length:Int))=false:=by simp;omega
       go_wp2;go_ret;exact⟨⟨false,rfl,λ_=>⟨by have:=HN0.out;omega,by have:=HN0.out;omega,by have:=HN0.out;omega,by have:=HN0.out;omega,λx hx=>(by have h1:=HALL.out x hx;rw[Int.min_def]at h1;split at h1<;>omega),by have:=HN0.out;omega,by omega,by omega,by omega,by omega⟩⟩,HB.out⟩
end
end Go.Proofs.YtaeakdichkhjaaaGreatDoor
