/- What Append leaves in memory. -/
import Derived.Test.YthjjgcfdhkhelaaGreatDoorQAz
import Derived.Test.YthjjgcfdhkhelaaGreatDoorQBa
import Derived.Test.YthjjgcfdhkhelaaGreatDoorQBb
import Derived.Test.YthjjgcfdhkhelaaGreatDoorQBc
set_option maxHeartbeats 4000000
set_option maxRecDepth 100000
open Go.Lib(hid)
open Go.Proofs.Tryz
namespace Go.Proofs.YthjjgcfdhkhelaaGreatDoor
section
open Go.RowKit
theorem Cd {w w4:World}{v:Value}{L:List UInt8}(h:aO w.heap.size (w.alloc (.cells #[.slice none 0 0] 180)) w4 (.slice none 0 0) v L):Below w.heap.size w w4:=
 ((Below.refl _ _).alloc (Nat.le_refl _) _).trans (h.fr.below (B:=w.heap.size) (by simp) (λk hk e=>by rcases e with e|e;omega;cases e))
theorem Ce (c:Nat)(h:c<128):Bs [(c:Int),0,1,1]++[0,0,0,0,0]++[0,0,0,0]=qP c:=by
 have e0:Br (c:Int)=c:=by unfold Br;omega
 have e1:Br 0=0:=rfl;have e2:Br 1=1:=rfl;unfold Bs qP;simp only[List.flatMap_cons,List.flatMap_nil,e0,e1,e2,qD h,qD (show 0<128 by omega),qD (show 1<128 by omega)];rfl
theorem Cf (c:Nat)(hc:c<128)(w:World):Calls prog 131 #[AZ (c:Int) 0 1 1,A5] w λe w'=>(∃r:ByteArray,r.data.toList=qP c∧e = .returned (.tuple #[.string r,.int .i64 0]))∧Below w.heap.size w w':=by
 have HN:=hid (Ce c hc);have hn4:=hid (Bu [(c:Int),0,1,1]);unfold AZ A5
 go_enter func131,ntmps131
 go_wp2_with fail
 obtain⟨n,hn⟩:∃n,n=w.heap.size:=⟨_,rfl⟩;obtain⟨W0,hW0⟩:∃W0,W0=(w.alloc (.cells #[.int .i64 (c:Int),.int .i64 0,.int .i64 1,.int .i64 1,.slice none 0 0,.slice none 0 0,.slice none 0 0,.slice none 0 0,.slice none 0 0] 56)).alloc (.cells #[.slice none 0 0,.slice none 0 0,.slice none 0 0,.slice none 0 0] 64):=⟨_,rfl⟩;have hbel:Below w.heap.size w W0:=by rw[hW0];exact((Below.refl _ _).alloc (Nat.le_refl _) _).alloc (by simp) _
 have k0:W0.heap[n]?=some (.cells (stC (c:Int) 0 1 1) 56 (0,0)):=by rw[hW0,hn];exact(Below.heap_alloc _ _ _ (by simp)).trans (heap_alloc_new _ _)
 have k1:W0.heap[n+1]?=some (.cells #[.slice none 0 0,.slice none 0 0,.slice none 0 0,.slice none 0 0] 64 (0,0)):=by rw[hW0,hn];exact fm _ _ (by simp)
 rw[← hW0]
 try rw[← hn]
 have K0:=hid k0;have K1:=hid k1;have HB:=hid hbel;have HNN:=hid hn;clear hW0 hn k0 k1 hbel;refine(show Calls prog 167 #[.agg #[.int .i64 (c:Int),.int .i64 0,.int .i64 1,.int .i64 1,.slice none 0 0,.slice none 0 0,.slice none 0 0,.slice none 0 0,.slice none 0 0]] W0 _ from BR W0 (c:Int) (by omega) (by omega)).mono ?_;rintro e w1 ⟨rfl,hb1⟩;have B1:=hid hb1;clear hb1;have HV:=hid (λ(wx:World) (hb:Below W0.heap.size W0 wx) j v (h:(#[.slice none 0 0,.slice none 0 0,.slice none 0 0,.slice none 0 0]:Array Value)[j]?=some v)=>((cell_of_row _ _ _ _ _ _ ((hb.block _ (lt_of_block K1.out)).trans K1.out)).trans h:wx.cell? ⟨n+1,j,none⟩=some v));have HX:=hid (λ(wx:World) (hb:Below W0.heap.size W0 wx) j v (h:(stC (c:Int) 0 1 1)[j]?=some v)=>((cell_of_row _ _ _ _ _ _ ((hb.block _ (lt_of_block K0.out)).trans K0.out)).trans h:wx.cell? ⟨n,j,none⟩=some v));have y0:=HV.out w1 B1.out 0 _ rfl;have y1:=HV.out w1 B1.out 1 _ rfl;have y2:=HV.out w1 B1.out 2 _ rfl;have y3:=HV.out w1 B1.out 3 _ rfl
 go_wp2_with fail
 refine(show Calls prog 168 #[.agg #[.slice none 0 0,.slice none 0 0,.slice none 0 0,.slice none 0 0]] w1 _ from Cc w1).mono ?_;rintro e w2 ⟨rfl,hb2⟩;have B2:=hid (AY B1.out hb2);clear hb2 y0 y1 y2 y3;have x0:=HX.out w2 B2.out 0 _ rfl;have x1:=HX.out w2 B2.out 1 _ rfl;have x2:=HX.out w2 B2.out 2 _ rfl;have x3:=HX.out w2 B2.out 3 _ rfl;have x4:=HX.out w2 B2.out 4 _ rfl;have x5:=HX.out w2 B2.out 5 _ rfl;have x6:=HX.out w2 B2.out 6 _ rfl;have x7:=HX.out w2 B2.out 7 _ rfl;have x8:=HX.out w2 B2.out 8 _ rfl;have hlt:n<w2.heap.size:=aw x0;have hlt1:n+1<w2.heap.size:=aw (HV.out w2 B2.out 0 _ rfl)
 go_wp2_with fail
 refine(show Calls prog 169 #[.pointer (some ⟨w2.heap.size,0,none⟩),.agg #[.int .i64 (c:Int),.int .i64 0,.int .i64 1,.int .i64 1,.slice none 0 0,.slice none 0 0,.slice none 0 0,.slice none 0 0,.slice none 0 0]] _ _ from BJ (c:Int) w2.heap.size (.slice none 0 0) [] _ (aN.fresh w2) (by simp)).mono ?_;rintro e w3 ⟨rfl,v3,h3⟩;have H3:=hid h3;clear h3 x0 x1 x2 x3 x4 x5 x6 x7 x8;have HV3:=hid (λj v (h:(#[.slice none 0 0,.slice none 0 0,.slice none 0 0,.slice none 0 0]:Array Value)[j]?=some v)=>(H3.out.cell ((World.cell?_alloc_past _ _ _ hlt1).trans (HV.out w2 B2.out j v h)) (by omega):w3.cell? ⟨n+1,j,none⟩=some v));have y0:=HV3.out 0 _ rfl;have y1:=HV3.out 1 _ rfl;have y2:=HV3.out 2 _ rfl;have y3:=HV3.out 3 _ rfl
 go_wp2_with fail
 refine(show Calls prog 170 #[.pointer (some ⟨w2.heap.size,0,none⟩),.agg #[.slice none 0 0,.slice none 0 0,.slice none 0 0,.slice none 0 0]] w3 _ from BK w2.heap.size v3 _ w3 H3.out.is (by have:=hn4.out;simp at this ⊢;omega)).mono ?_;rintro e w4 ⟨rfl,v4,h4⟩;have hL:([]++(Bs [(c:Int),0,1,1]++[0,0,0,0,0]))++[0,0,0,0]=qP c:=by rw[List.nil_append];exact HN.out
 have H4:=hid (show aO w2.heap.size _ w4 (.slice none 0 0) v4 (qP c)from by rw[← hL];exact H3.out.trans h4);clear h4 y0 y1 y2 y3 hL
 go_wp2_with fail
 refine(uq w2.heap.size v4 (qP c) w4 H4.out.is).mono ?_;rintro e w5 ⟨rfl,rfl⟩;have hl13:(qP c).length=13:=rfl;rw[hl13];clear hl13
 go_wp2_with fail
 refine(aZ w2.heap.size v4 (qP c) _ H4.out.is).mono ?_;rintro e w5 ⟨r,hr,rfl,rfl⟩;have HR:=hid hr;clear hr;go_wp2
 go_ret2
 refine⟨⟨r,HR.out,rfl⟩,HB.out.trans ?_⟩;have h9:=AY B2.out (Cd H4.out);exact h9.mono HB.out.size
theorem Cg (q c:Nat)(hq:q≤1048576)(hc:c<128)(w:World):Calls prog 69 #[.int .i64 (q:Int),AZ (c:Int) 0 1 1,A5] w λe w'=>(∃r:ByteArray,r.data.toList=qQ q c∧e = .returned (.tuple #[.string r,.int .i64 0]))∧Below w.heap.size w w':=by
 have hwq:IntKind.u64.wrap (q:Int)=(q:Int):=by rw[IntKind.wrap_u64];omega
 unfold AZ A5
 go_enter func69,ntmps69
 go_wp2_with fail
 refine(show Calls prog 131 #[.agg #[.int .i64 (c:Int),.int .i64 0,.int .i64 1,.int .i64 1,.slice none 0 0,.slice none 0 0,.slice none 0 0,.slice none 0 0,.slice none 0 0],.agg #[.slice none 0 0,.slice none 0 0,.slice none 0 0,.slice none 0 0]] _ _ from Cf c hc _).mono ?_;rintro e w1 ⟨⟨r,hr,rfl⟩,hb1⟩;have hrz:r.size=13:=by rw[ao hr];rfl
 have HR:=hid hr;have HB:=hid (((Below.refl w.heap.size w).alloc (Nat.le_refl _) _).alloc (by simp) _ |>.trans (hb1.mono (by simp;omega)));clear hr hb1
 go_wp2_with fail
 refine(aX ⟨#[115,110,112,49]⟩ w1.heap.size _ [] _ (aN.fresh w1) (by decide)).mono ?_;rintro e w2 ⟨rfl,v2,h2⟩;have H2:=hid h2;clear h2
 go_wp2_with fail
 try rw[hwq]
 refine(aW q w1.heap.size v2 _ w2 (by omega) H2.out.is (by simp)).mono ?_;rintro e w3 ⟨rfl,v3,h3⟩;have H3:=hid (H2.out.trans h3);clear h3
 go_wp2_with fail
 try rw[hrz]
 refine(nl 13 w1.heap.size v3 _ w3 (by omega) H3.out.is (by simp[aF])).mono ?_;rintro e w4 ⟨rfl,v4,h4⟩;have H4:=hid (H3.out.trans h4);clear h4
 go_wp2_with fail
 refine(aX r w1.heap.size v4 _ w4 H4.out.is (by simp[aF];omega)).mono ?_;rintro e w5 ⟨rfl,v5,h5⟩;have H5:=hid (H4.out.trans h5);clear h5
 go_wp2_with fail
 refine(aZ w1.heap.size v5 _ w5 H5.out.is).mono ?_;rintro e w6 ⟨t,ht,rfl,rfl⟩;have htl:t.data.toList=[115,110,112,49]++be 8 q++be 4 (qP c).length++qP c:=by
  rw[ht,HR.out];rfl
 have htz:t.size=29:=by rw[ao htl];simp[aF];rfl
 have HT:=hid htl;clear ht htl
 go_wp2_with fail
 refine(fT t _ (by unfold maxLen;omega)).mono ?_;rintro e w7 ⟨u,hu,rfl,hb7⟩;have HU:=hid (show u.data.toList=qQ q c from by rw[hu,HT.out];rfl);have HB7:=hid (AY (HB.out.trans ((Cd H5.out).mono HB.out.size)) hb7);clear hu hb7;go_wp2
 go_ret2
 exact⟨⟨u,HU.out,rfl⟩,HB7.out⟩
abbrev evEnc (x:Value×Int):Array Value:=#[x.1,.int .i64 x.2]
theorem yZ (w:World)(hk:uL w)(pb:Nat)(s:ByteArray)(v n:Nat)(hv:v=1∨v=3)(h1:1≤n)(h2:n≤100)(hs:s.data.toList=yM v n)(hpb:w.cell? ⟨pb,0,none⟩=some (.string s)) :
  yX (λx W=>∃g d,x=(uX (v:Int) g d,(0:Int))∧w.heap.size+1<g∧W.cell? ⟨g,0,none⟩=some (.int .i64 (n:Int))) Fence.wide 5 prog 349 #[.pointer (some ⟨pb,0,none⟩)] evEnc (λ_=>False)
   (λA B=>Fr (λk=>k≤w.heap.size+1) A B) (λ_ _=>True) (λxs=>∃g d,xs=[(uX (v:Int) g d,(0:Int))]) (λpre=>∃g d,pre=[(uX (v:Int) g d,(0:Int))]) 1 w:=by
 intro y J Jx W hW hsz hJ hJx hY h0;have hkW:=hk.pure hW;have hp:=vd hpb hW;have hss:s.size=4:=by rw[← ak,hs];rfl
 have hrd:=yQ hv h1 h2;have HRD:=hid hrd;have HS:=hid (And.intro hs hss);have HK:=hid hkW;have HJ:=hid hJ;have HJX:=hid hJx;have HY:=hid hY;have HH:=hid h0;have HZ:=hid hsz;have HV:=hid hv;clear hW hsz hJ hJx hY h0 hk hpb hkW hrd hs hss hv;refine callsIn_of_wp_marks func349 rfl trivial ?_ rfl;simp only[ntmps349,List.size_toArray,List.length_cons,List.length_nil,Nat.reduceAdd,Nat.reduceSub,Array.replicate_succ,Array.replicate_zero,List.push_toArray,List.append_toArray,List.nil_append,List.cons_append]
 gi_wp2_with fail
 refine⟨trivial,?_⟩;refine(callsIn_wide.2 (bf s W (by have:=HS.out.2;omega))).mono ?_;rintro e w1 ⟨rfl,hr1,hb1⟩;obtain⟨q,hq⟩:∃q,q=W.heap.size:=⟨_,rfl⟩;rw[← hq]at hr1 ⊢;have HR1:=hid hr1;have HQ:=hid (show w.heap.size+1<q from by have:=HZ.out;omega);have HK1:=hid (HK.out.pure hb1);have HF1:=hid (show Fr (λ_=>False) W w1 from Fr.pure hb1);have HQW:=hid hq;clear hr1 hb1 hp hq
 gi_wp2_with fail
 refine⟨trivial,?_⟩;have hu:=uB w1 q s ⟨0,0,0⟩ HR1.out;rw[HS.out.1,HRD.out.r0]at hu;dsimp only at hu;refine(callsIn_wide.2 hu).mono ?_;rintro e w2 ⟨rfl,hr2,hf2⟩;have HR2:=hid hr2;have HF2:=hid (HF1.out.then hf2 (λi hi e=>by have:=HQW.out;omega));have HKQ:=hid (show KB≠q from by have:=HK.out.lt;have:=HQW.out;omega);have HK2:=hid (HK1.out.kept hf2 HKQ.out);clear hu hr2 hf2;have d1:decide ((v:Int)<1)=false:=by rcases HV.out with rfl|rfl<;>rfl
 have d2:decide ((v:Int) > 3)=false:=by rcases HV.out with rfl|rfl<;>rfl
 gi_wp2_with fail
 refine⟨trivial,?_⟩;refine(callsIn_wide.2 (bD w2 q s ⟨1,0,0⟩ HR2.out)).mono ?_;rintro e w3' ⟨rfl,nd,rfl⟩
 generalize hW3:w2.drewN nd=w3
 have hb3:Below w2.heap.size w2 w3:=by rw[← hW3];exact uO (Below.refl _ _) _
 have HR3:=hid (HR2.out.kept (Fr.pure (S:=λ_=>False) hb3) (λe=>e));have HF3:=hid (HF2.out.trans (Fr.pure hb3));have HK3:=hid (HK2.out.pure hb3);clear hb3 hW3
 gi_wp2_with fail
 refine⟨trivial,?_⟩;have hu:=uK w3 q s ⟨1,0,0⟩ HR3.out 40;rw[HS.out.1,HRD.out.r1]at hu;dsimp only at hu;refine(callsIn_wide.2 (show Calls prog 350 #[.pointer (some ⟨q,0,none⟩),.int .u64 40] w3 λe w'=>e = .returned (.int .u64 1)∧bd w' q s ⟨2,0,0⟩∧Fr (λk=>k=q) w3 w' from hu)).mono ?_;rintro e w4 ⟨rfl,hr4,hf4⟩;have HR4:=hid hr4;have HF4:=hid (HF3.out.then hf4 (λi hi e=>by have:=HQW.out;omega));have HK4:=hid (HK3.out.kept hf4 HKQ.out);clear hu hr4 hf4
 gi_wp2_with fail
 refine⟨trivial,?_⟩;refine(callsIn_wide.2 (bD w4 q s ⟨2,0,0⟩ HR4.out)).mono ?_;rintro e w5' ⟨rfl,nd,rfl⟩
 generalize hW5:w4.drewN nd=w5
 have hb5:Below w4.heap.size w4 w5:=by rw[← hW5];exact uO (Below.refl _ _) _
 have HR5:=hid (HR4.out.kept (Fr.pure (S:=λ_=>False) hb5) (λe=>e));have HF5:=hid (HF4.out.trans (Fr.pure hb5));have HK5:=hid (HK4.out.pure hb5);clear hb5 hW5
 gi_wp2_with fail
 refine wpIn_loop_rounds 2 ?_;rw[roundsIn_succ]
 gi_wp2_with fail
 refine⟨trivial,?_⟩;obtain⟨W6,hW6⟩:∃W6,W6=w5.alloc (.cells #[.int .u8 0,.int .u8 0,.slice none 0 0,.slice none 0 0] 189):=⟨_,rfl⟩;have hb6:Below w5.heap.size w5 W6:=by rw[hW6];exact(Below.refl _ _).alloc (Nat.le_refl _) _
 have o6:W6.heap[w5.heap.size]?=some (.cells #[.int .u8 0,.int .u8 0,.slice none 0 0,.slice none 0 0] 189 (0,0)):=by rw[hW6];exact heap_alloc_new _ _
 rw[← hW6];clear hW6;have hgm:=yu W6 (HK5.out.pure hb6) q s ⟨2,0,0⟩ ⟨3,0,0⟩ ⟨4,0,0⟩ (v:Int) (by have:=HV.out;omega) n h1 h2 (HR5.out.kept (Fr.pure (S:=λ_=>False) hb6) (λe=>e)) rfl (by rw[HS.out.1];exact HRD.out.r2) rfl (by rw[HS.out.1];exact HRD.out.r3) rfl;refine(callsIn_wide.2 hgm).mono ?_;rintro e w7 ⟨⟨g,d,rfl,hg,hc⟩,hr7,hf7⟩;have hqe:q<w5.heap.size:=HR5.out.lt;have O7:=hid (hf7.heapAt o6 (by omega));have HR7:=hid hr7;have HF7:=hid ((HF5.out.trans (Fr.pure hb6)).then hf7 (λi hi e=>by have:=HQW.out;omega));have HC7:=hid hc;have HG7:=hid (show w5.heap.size<g∧q<w5.heap.size∧W.heap.size≤w5.heap.size from⟨by have:=lt_of_block o6;omega,hqe,HF5.out.size⟩);obtain⟨z0,z1,z2,z3,zf⟩:=uY O7.out;clear hgm hb6 o6 hg hc hr7 hf7 hqe;obtain⟨W8,hW8⟩:∃W8,W8=(((w7.setCell ⟨w5.heap.size,0,none⟩ (.int .u8 (v:Int))).setCell ⟨w5.heap.size,1,none⟩ (.int .u8 20)).setCell ⟨w5.heap.size,2,none⟩ (.slice (some ⟨g,0,none⟩) 1 d)).setCell ⟨w5.heap.size,3,none⟩ (.slice none 0 0):=⟨_,rfl⟩;have f8:Fr (λk=>k=w5.heap.size) w7 W8:=by rw[hW8];exact yl _ _ _ _ _ _
 have HR8:=hid (HR7.out.kept f8 (by have:=HG7.out;omega));have HF8:=hid (HF7.out.then f8 (λi hi e=>by have:=HG7.out;omega));have hc8:=f8.cellAt HC7.out (by have:=HG7.out;omega);obtain⟨fn,tmps,assign,body,hy,hR⟩:=HY.out [] (uX (v:Int) g d,(0:Int)) W8 ⟨g,d,rfl,by have:=HG7.out;have:=HQ.out;omega,hc8⟩ (HJ.out _ _ _ HH.out HF8.out) (by simp);dsimp only[evEnc]at hy;have HRW:=hid hR;rw[hW8]at hy;have HW8:=hid hW8;clear hW8 f8 hc8 hR
 gi_wp2_with fail
 have hR:=HRW.out;rw[HW8.out]at hR;refine hR.mono ?_;rintro e W9 (⟨rfl,hJ9,hk9⟩|⟨rfl,hJx9,_⟩)
 ·have hk9':Fr (λk=>k≤w.heap.size+1) W8 W9:=by rw[HW8.out];exact hk9
  have HR9:=hid (HR8.out.kept hk9' (λe=>by have:=HQ.out;have e2:q≤w.heap.size+1:=e;omega));have HJ9:=hid hJ9;clear hJ9 hk9 hk9' hy hR z0 z1 z2 z3 zf
  gi_wp2
  rw[roundsIn_succ]
  gi_wp2_with fail
  refine⟨trivial,?_⟩;have hen:=bF W9 q s ⟨4,0,0⟩ HR9.out;rw[show(⟨4,0,0⟩:bc).ended s.size=0 from by rw[HS.out.2];rfl]at hen;refine(callsIn_wide.2 hen).mono ?_;rintro e W10 ⟨rfl,nd,rfl⟩;clear hen
  gi_wp2
  first
   | (go_end0;exact⟨⟨_,rfl⟩,.inl ⟨_,⟨g,d,rfl⟩,HJ.out _ _ _ HJ9.out ((Fr.refl _ _).drewN _)⟩⟩)
   | exact⟨_,results_none rfl _ _ _,⟨_,rfl⟩,.inl ⟨_,⟨g,d,rfl⟩,HJ.out _ _ _ HJ9.out ((Fr.refl _ _).drewN _)⟩⟩
 ·have HX:=hid hJx9
  clear hJx9 hy hR z0 z1 z2 z3 zf
  gi_wp2
  exact⟨_,results_none rfl _ _ _,⟨_,rfl⟩,.inr ⟨_,⟨g,d,rfl⟩,HX.out⟩⟩
theorem xj (w:World)(F:Nat→Prop)(g p b:Nat)(st:cZ)(l:kR)(h0:tp w F g p b st l) :
  Calls prog 49 #[.pointer (some ⟨g,0,none⟩)] w λe w'=>e = .returned (.int .i64 (lq st l).2)∧tq w F g p b (lq st l).1 w':=by
 have hba:=(Below.refl w.heap.size w).alloc (Nat.le_refl _) (.cells #[.pointer (some ⟨g,0,none⟩)] 25);have HE1:=hid (h0.pure hba);have HBA:=hid hba;have H0:=hid h0;have hfew:=h0.ok.few;have hpos:=h0.ok.pos;have hlen:=h0.ok.len;have htop:=h0.ok.top;have hgw:g<w.heap.size:=by obtain⟨_,_,_,_,h9,_⟩:=h0.lg;exact h9.gl
 clear hba h0
 go_enter func49,ntmps49
 go_wp2_with fail
 refine(sZ _ F g p l HE1.out.lg (by omega) (by omega)).mono ?_;rintro e w1 ⟨rfl,hb1⟩;have HB1:=hid (HBA.out.trans (hb1.mono HBA.out.size));have k0:=(hb1.cell (p:=⟨w.heap.size,0,none⟩) (by simp)).trans (show(w.alloc (.cells #[.pointer (some ⟨g,0,none⟩)] 25)).cell? ⟨w.heap.size,0,none⟩=some (.pointer (some ⟨g,0,none⟩))from by rw[World.cell?_alloc_at _ _ _ _ rfl];rfl);clear hb1
 go_wp2_with fail
 refine(oF (l.next:Int) _).mono ?_;rintro e w2 ⟨⟨r,hr,rfl⟩,hb2⟩;rw[ts htop]at hr ⊢;have HR:=hid hr;have hbw:=HB1.out.trans (hb2.mono HB1.out.size);have q0:=(hb2.cell (p:=⟨w.heap.size,0,none⟩) (aw k0)).trans k0;have henv:=H0.out.pure hbw;obtain⟨sv,_,_,_,hc,_⟩:=henv.lg;obtain⟨a0,c0,rfl⟩:=hc.segs.shape;obtain⟨_,_,_,_,g4,g5,_⟩:=hc.cs;have hgl:=hc.gl;have HCON:=hid (λW (hb:Below w2.heap.size w2 W)=>ka W l.gen _ l.segs (hc.segs.pure hb) henv.ok.may l.gen (l.next:Int));have HBW:=hid hbw;have hws:=hbw.size;have hlq:=aw q0;have hll:(l.segs++[(l.gen,(l.next:Int))]).length=l.segs.length+1:=by simp
 have HLL:=hid hll;clear hr hb2 k0 henv hc hbw hll;cases hm:bL l.gen (l.segs++[(l.gen,(l.next:Int))])
 ·have HM:=hid hm
  have HROT:=hid (show lq st l=((st,l),4)from by unfold lq;rw[if_pos hm]);clear hm
  go_wp2_with fail
  go_region_held3 (λw'=>w'.cell? ⟨w.heap.size,0,none⟩=some (.pointer (some ⟨g,0,none⟩))∧w'.cell? ⟨g,4,none⟩=some (.int .i64 l.gen)∧w'.cell? ⟨g,5,none⟩=some (.slice a0 l.segs.length c0)) (first|exact⟨q0,g4,g5⟩|exact⟨x0,x1,x2⟩|(refine⟨?_,?_,?_⟩<;>((repeat rw[World.cell?_setCell_other _ _ _ _ (by intro e;have e2:=congrArg Addr.block e;simp at e2;omega)]);first|exact x0|exact x1|exact x2))|go_keep) (first
   | (go_at_call 108;refine(HCON.out _ (by repeat (first|exact Below.refl _ _|refine Below.drew ?_|refine Below.alloc ?_ (by first|(simp;done)|(simp;omega)|omega) _))).mono ?_;rintro e w3 ⟨hb3,hpost⟩;rw[HM.out]at hpost;simp only[Bool.false_eq_true,if_false]at hpost;subst hpost;have B3:=Below.trans (show Below w2.heap.size w2 _ from(by repeat (first|exact Below.refl _ _|refine Below.drew ?_|refine Below.alloc ?_ (by first|(simp;done)|(simp;omega)|omega) _))) (hb3.mono (by first|(simp;done)|(simp;omega)|omega));have x0:=(B3.cell (p:=⟨w.heap.size,0,none⟩) hlq).trans q0;have x1:=(B3.cell (p:=⟨g,4,none⟩) hgl).trans g4;have x2:=(B3.cell (p:=⟨g,5,none⟩) hgl).trans g5;(first|(have bx:=(hb3.block w2.heap.size (by simp)).trans (fm _ _ rfl);have n0:=cell_of_row _ _ 0 _ _ _ bx;have n1:=cell_of_row _ _ 1 _ _ _ bx;have zf:∀j:Nat,World.frozen? w3 ⟨w2.heap.size,j,none⟩=false:=λj=>frozen_of_row _ _ _ _ _ bx;simp at n0 n1;clear bx)|skip);have HB3:=hid B3;unfold gG;clear B3 hb3))
  all_goals
   go_wp2;go_ret;rw[HROT.out];refine⟨rfl,H0.out.stay (HBW.out.trans ?_)⟩
   first
    | exact(((HB3.out.setCell (Nat.le_refl _) _).setCell (Nat.le_refl _) _)).mono hws
    | exact(HB3.out.alloc HB3.out.size _).mono hws
 ·have HM:=hid hm
  clear hm
  go_wp2_with fail
  go_region_held3 (λw'=>w'.cell? ⟨w.heap.size,0,none⟩=some (.pointer (some ⟨g,0,none⟩))∧w'.cell? ⟨g,4,none⟩=some (.int .i64 l.gen)∧w'.cell? ⟨g,5,none⟩=some (.slice a0 l.segs.length c0)) (first|exact⟨q0,g4,g5⟩|exact⟨x0,x1,x2⟩|(refine⟨?_,?_,?_⟩<;>((repeat rw[World.cell?_setCell_other _ _ _ _ (by intro e;have e2:=congrArg Addr.block e;simp at e2;omega)]);first|exact x0|exact x1|exact x2))|go_keep) (first
   | (go_at_call 108;refine(HCON.out _ (by repeat (first|exact Below.refl _ _|refine Below.drew ?_|refine Below.alloc ?_ (by first|(simp;done)|(simp;omega)|omega) _))).mono ?_;rintro e w3 ⟨hb3,hpost⟩;rw[HM.out]at hpost;simp only[if_true]at hpost;obtain⟨v,hv,hvb,rfl⟩:=hpost;obtain⟨eB,cE,rfl⟩:=j7 hv (by rw[HLL.out];omega);rw[HLL.out];have hve:=hvb eB rfl;have hvl:=sT hv (show _=some eB from rfl);have HV:=hid hv;(try simp at hve);have B3:=Below.trans (show Below w2.heap.size w2 _ from(by repeat (first|exact Below.refl _ _|refine Below.drew ?_|refine Below.alloc ?_ (by first|(simp;done)|(simp;omega)|omega) _))) (hb3.mono (by first|(simp;done)|(simp;omega)|omega));have x0:=(B3.cell (p:=⟨w.heap.size,0,none⟩) hlq).trans q0;have x1:=(B3.cell (p:=⟨g,4,none⟩) hgl).trans g4;have x2:=(B3.cell (p:=⟨g,5,none⟩) hgl).trans g5;(first|(have bx:=(hb3.block w2.heap.size (by simp)).trans (fm _ _ rfl);have n0:=cell_of_row _ _ 0 _ _ _ bx;have n1:=cell_of_row _ _ 1 _ _ _ bx;have zf:∀j:Nat,World.frozen? w3 ⟨w2.heap.size,j,none⟩=false:=λj=>frozen_of_row _ _ _ _ _ bx;simp at n0 n1;have HBX:=hid bx;clear bx)|skip);have s3:=hb3.size;(try simp at s3);have HB3:=hid B3;clear B3 hb3 hv hvb))
  all_goals
   go_upto_if 36 with fail
   go_cut [6] (λm wx=>∃mB eB cE,m = .pointer (some ⟨mB,0,none⟩)∧w.heap.size≤mB∧w.heap.size≤eB∧eB<wx.heap.size∧wx.cell? ⟨mB,0,none⟩=some (.int .i64 l.gen)∧wx.cell? ⟨mB,1,none⟩=some (.slice (some ⟨eB,0,none⟩) (l.segs.length+1) cE)∧bJ wx (.slice (some ⟨eB,0,none⟩) (l.segs.length+1) cE) (l.segs++[(l.gen,(l.next:Int))])∧Below w2.heap.size w2 wx)
   case first=>
    go_wp2
    go_meet
    have hv8:=HV.out.at;rw[HLL.out]at hv8
    first
     | exact⟨w3.heap.size,eB,cE,rfl,by omega,by omega,by simp;omega,by rw[World.cell?_alloc_at _ _ _ _ rfl];rfl,by rw[World.cell?_alloc_at _ _ _ _ rfl];rfl,hv8.pure ((Below.refl _ _).alloc (Nat.le_refl _) _),HB3.out.alloc HB3.out.size _⟩
     | (have hq:=heap_setCell_same _ w2.heap.size 1 _ _ (.slice (some ⟨eB,0,none⟩) (l.segs.length+1) cE) (heap_setCell_same w3 w2.heap.size 0 _ _ (.int .i64 l.gen) HBX.out)
        have hn:∀c,(Value.slice (some ⟨eB,0,none⟩) (l.segs.length+1) c).ownBlock≠some w2.heap.size:=λc e=>by have e9:=Option.some.inj e;simp at e9;omega
        have hv9:=HV.out;unfold gO at hv9;rw[HLL.out]at hv9;have ho9:=ownsRow_setCell_other (a:=⟨w2.heap.size,1,none⟩) (ownsRow_setCell_other (a:=⟨w2.heap.size,0,none⟩) hv9 (hn cE) (.int .i64 l.gen)) (hn cE) (.slice (some ⟨eB,0,none⟩) (l.segs.length+1) cE);rw[← HLL.out]at ho9;have ha9:=gO.at ho9;rw[HLL.out]at ha9;exact⟨w2.heap.size,eB,cE,rfl,by omega,by omega,by simp;omega,(cell_of_row _ _ _ _ _ _ hq).trans rfl,(cell_of_row _ _ _ _ _ _ hq).trans rfl,ha9,((HB3.out.setCell (Nat.le_refl _) _).setCell (Nat.le_refl _) _)⟩)
   case rest=>
    obtain⟨mB,eB',cE',rfl,h1,h2,h3,h4,h5,h6,h7⟩:=hcut
    apply_assumption
    exact xi w wc F g p b st l H0.out (HBW.out.trans (h7.mono hws)) HM.out r HR.out w.heap.size mB eB' cE' (Nat.le_refl _) h1 h2 ((h7.cell (p:=⟨w.heap.size,0,none⟩) hlq).trans q0) h4 h5 h6 h3
attribute [local go_sem] Oper.semAt_some
theorem y5 (w:World)(s:ByteArray):Calls prog 268 #[.string s] w λe w'=>e = .returned (.func (.func 349) #[] #[.pointer (some ⟨w.heap.size,0,none⟩)])∧w'=w.alloc (.cells #[.string s] 9):=by
 have hmf:∀(fn:Fn) (first cap:Array Value) (w:World),(Instr.makeFunc fn first cap).run prog w = .ok (.func fn first cap) w:=λ_ _ _ _=>rfl
 go_enter func268,ntmps268
 go_wp2;go_ret;exact⟨rfl,rfl⟩
structure DcAt (w W:World) (b:Nat) (lv:Value):Prop where
 r0:W.heap[b]?=some (.cells #[.slice none 0 0] 190 (0,0))
 r1:W.heap[b+1]?=some (.cells #[.int .i64 0] 26 (0,0))
 l:W.heap[b+2]?=some (.cells #[lv] 190 (0,0))
 below:Below b w W
theorem DcAt.fr {S:Nat→Prop}{w W W':World}{b:Nat}{lv:Value}(h:DcAt w W b lv)(hf:Fr S W W')(hs:∀k,S k→b+2<k):DcAt w W' b lv:=
 ⟨hf.heapAt h.r0 (λe=>by have:=hs _ e;omega),hf.heapAt h.r1 (λe=>by have:=hs _ e;omega),hf.heapAt h.l (λe=>by have:=hs _ e;omega),h.below.trans (hf.below (by have:=lt_of_block h.r0;omega) (λk hk e=>by have:=hs _ e;omega))⟩
theorem yy.fr {S:Nat→Prop}{w w':World}{q:Nat}{v:Int}{h c:Nat}{n:Int}(hr:yy w q v h c n)(hf:Fr S w w')(h1:¬S q)(h2:¬S h):yy w' q v h c n:=⟨hf.cellAt hr.c0 h1,hf.cellAt hr.c1 h1,hf.cellAt hr.c2 h1,hf.cellAt hr.c3 h1,hf.cellAt hr.n h2,λj=>(hf.frozen (aw hr.c0) h1).trans (hr.z j)⟩
def DcI (w:World)(b:Nat)(v n:Int)(pre:List (Value×Int))(W:World):Prop:=
 (pre=[]∧DcAt w W b (.slice none 0 0))∨∃g d q c,pre=[(uX v g d,(0:Int))]∧DcAt w W b (.slice (some ⟨q,0,none⟩) 1 c)∧yy W q v g d n∧b+5<q∧b+5<g
theorem y6 (w:World)(hk:uL w)(s:ByteArray)(v n:Nat)(hv:v=1∨v=3)(h1:1≤n)(h2:n≤100)(hs:s.data.toList=yM v n) :
  Calls prog 189 #[.string s] w λe w'=>(∃q c h d,e = .returned (.tuple #[.slice (some ⟨q,0,none⟩) 1 c,.int .i64 0])∧w.heap.size≤q∧yy w' q (v:Int) h d (n:Int))∧Below w.heap.size w w':=by
 have HK:=hid hk;have HS:=hid hs;have HV:=hid hv;clear hk hs hv;refine(callsIn_wide (n:=6)).1 ?_;refine callsIn_of_wp_marks func189 rfl trivial ?_ rfl;simp only[ntmps189,List.size_toArray,List.length_cons,List.length_nil,Nat.reduceAdd,Nat.reduceSub,Array.replicate_succ,Array.replicate_zero,List.push_toArray,List.append_toArray,List.nil_append,List.cons_append]
 gi_wp2_with fail
 refine⟨trivial,?_⟩;refine(callsIn_wide.2 (y5 _ s)).mono ?_;rintro e w1 ⟨rfl,rfl⟩
 gi_wp2
 obtain⟨b,hb⟩:∃b,b=w.heap.size:=⟨_,rfl⟩;obtain⟨W0,hW0⟩:∃W0,W0=(((w.alloc (.cells #[.slice none 0 0] 190)).alloc (.cells #[.int .i64 0] 26)).alloc (.cells #[.slice none 0 0] 190)).alloc (.cells #[.string s] 9):=⟨_,rfl⟩;have hz0:W0.heap.size=b+4:=by rw[hW0,hb];simp
 have hbw:Below b w W0:=by rw[hW0,hb];exact((((Below.refl _ _).alloc (Nat.le_refl _) _).alloc (by simp) _).alloc (by simp<;>omega) _).alloc (by simp<;>omega) _
 have hd0:DcAt w W0 b (.slice none 0 0):=by
  refine⟨?_,?_,?_,hbw⟩
  ·rw[hW0,hb];exact(Below.heap_alloc _ _ _ (by simp<;>omega)).trans ((Below.heap_alloc _ _ _ (by simp<;>omega)).trans ((Below.heap_alloc _ _ _ (by simp)).trans (heap_alloc_new _ _)))
  ·rw[hW0,hb];exact(Below.heap_alloc _ _ _ (by simp<;>omega)).trans ((Below.heap_alloc _ _ _ (by simp<;>omega)).trans (yS _ _ (by simp)))
  ·rw[hW0,hb];exact(Below.heap_alloc _ _ _ (by simp<;>omega)).trans (yS _ _ (by simp))
 have hps:W0.cell? ⟨b+3,0,none⟩=some (.string s):=by
  have h:W0.heap[b+3]?=some (.cells #[.string s] 9 (0,0)):=by rw[hW0,hb];exact yS _ _ (by simp)
  exact(cell_of_row _ _ _ _ _ _ h).trans rfl
 have hkw:uL W0:=HK.out.pure (by rw[← hb];exact hbw);have HD0:=hid hd0;have HB:=hid hb;have HZ0:=hid hz0;have hsq:=yZ W0 hkw (b+3) s v n HV.out h1 h2 HS.out hps;simp only[Nat.add_assoc,Nat.reduceAdd]at *;rw[← hW0,← hb];clear hW0 hbw hd0 hps hkw hb;obtain⟨i0,hi,hz1,hz2,hz3⟩:=info_parts Tryz.infoEv;have HI:=hid hi;have HZ1:=hid hz1;have HZ2:=hid hz2;have HZ3:=hid hz3;clear hi hz1 hz2 hz3;refine yY (n:=6) rfl (by omega) (gf:=349) rfl trivial (λ_ _=>rfl) hsq ⟨λh=>h,λh=>h⟩
  (λh k=>h.trans k) (λWx o h=>(Fr.refl (λk=>k≤W0.heap.size+1) Wx).putObj _ (λ_=>by omega) o) (λ_ _=>trivial) (λ_ _ _ _=>trivial) (λ_=>rfl)
  (λpre Wx=>DcI w b (v:Int) (n:Int) pre Wx) (λ_ _ _=>False) ?bears ?bearsX (.inl ⟨rfl,HD0.out⟩)
  (λpre x a' Wx=>DcI w b (v:Int) (n:Int) pre Wx∧∃g d k,x=(uX (v:Int) g d,(0:Int))∧b+5<g∧b+5<k∧Wx.cell? ⟨g,0,none⟩=some (.int .i64 (n:Int))∧Wx.heap[k]?=some (.cells #[.int .u8 (v:Int),.int .u8 20,.slice (some ⟨g,0,none⟩) 1 d,.slice none 0 0] 189 (0,0)) ∧
    a'={ tmps:=#[.string s,undef,.pointer (some ⟨b,0,none⟩),.pointer (some ⟨b+1,0,none⟩),.pointer (some ⟨b+2,0,none⟩),.pointer (some ⟨k,0,none⟩),.int .i64 0,.string s,.func (.func 349) #[] #[.pointer (some ⟨b+3,0,none⟩)],uX (v:Int) g d,.int .i64 0,undef,undef,undef,undef,undef,undef,undef,undef],defers:=[] })
  ?hA ?assign ?body ?done ?stop
 case bears=>
  rintro pre A B h hf
  rcases h with⟨h1,h2⟩|⟨g,d,q,c,h1,h2,h3,h4,h5⟩
  ·exact .inl ⟨h1,h2.fr hf (λk e=>by rcases e with e|e|e;exact e.elim;omega;omega)⟩
  ·exact .inr ⟨g,d,q,c,h1,h2.fr hf (λk e=>by rcases e with e|e|e;exact e.elim;omega;omega),h3.fr hf (λe=>by rcases e with e|e|e;exact e;omega;omega) (λe=>by rcases e with e|e|e;exact e;omega;omega),h4,h5⟩
 case bearsX=>exact λ_ _ _ _ h _=>h
 case hA=>
  rintro pre x a' Wx o hlt ⟨h,g,d,k,h1,h2,h3,h4,h5,h6⟩;have hf:Fr (λk=>k=W0.heap.size+1) Wx (Wx.putObj (W0.heap.size+1) o):=(Fr.refl (λk=>k=W0.heap.size+1) Wx).putObj _ (λ_=>rfl) o;refine⟨?_,g,d,k,h1,h2,h3,hf.cellAt h4 (by omega),hf.heapAt h5 (by omega),h6⟩
  rcases h with⟨h1,h2⟩|⟨g,d,q,c,h1,h2,h3,h4,h5⟩
  ·exact .inl ⟨h1,h2.fr hf (λk e=>by omega)⟩
  ·exact .inr ⟨g,d,q,c,h1,h2.fr hf (λk e=>by omega),h3.fr hf (by omega) (by omega),h4,h5⟩
 case assign=>
  rintro pre x Wx K ⟨g,d,rfl,hg,hc⟩ hlt hI hK;have HI:=hid hI;have HKK:=hid hK;have HC:=hid hc;have HG:=hid hg;clear hI hK hc hg
  gi_wp2
  refine HKK.out _ _ ⟨?_,g,d,Wx.heap.size,rfl,by have:=HG.out;omega,by omega,(World.cell?_alloc_past _ _ _ (aw HC.out)).trans HC.out,heap_alloc_new _ _,rfl⟩ (m8.fr (S:=λ_=>False) ((Fr.refl _ Wx).alloc _) hlt (λe=>e) (λe=>e)) (by simp) ((Fr.refl _ Wx).alloc _);have hf:Fr (λ_=>False) Wx (Wx.alloc (.cells #[.int .u8 (v:Int),.int .u8 20,.slice (some ⟨g,0,none⟩) 1 d,.slice none 0 0] 189)):=(Fr.refl _ Wx).alloc _
  rcases HI.out with⟨h1,h2⟩|⟨g,d,q,c,h1,h2,h3,h4,h5⟩
  ·exact .inl ⟨h1,h2.fr hf (λk e=>e.elim)⟩
  ·exact .inr ⟨g,d,q,c,h1,h2.fr hf (λk e=>e.elim),h3.fr hf (λe=>e) (λe=>e),h4,h5⟩
 case body=>
  rintro pre x a' Wx hlt ⟨hI,g,d,k,rfl,hg,hk,hc,hrow,rfl⟩ hlen
  rcases hI with⟨rfl,hD⟩|⟨g',d',q,c,rfl,_⟩
  ·obtain⟨x0,x1,x2,x3,_⟩:=uY hrow
   have l0:Wx.cell? ⟨b+2,0,none⟩=some (.slice none 0 0):=(cell_of_row _ _ _ _ _ _ hD.l).trans rfl;have HD:=hid hD;have HC:=hid hc;have HGK:=hid (And.intro hg (And.intro hk hlt));clear hc hrow hD hg hk hlt
   gi_wp2_with (gi_at_builtin;refine wpListIn_append_own _ rfl _ _ 190 rfl (b+6) 189 i0 _ 4 56 underlying190 HI.out HZ1.out HZ2.out HZ3.out rfl (by decide) (.slice none 0 0) 0 [] rfl (World.ownsRow_nil _ _ _ _) ⟨Wx.heap.size,0,none⟩ 1 1 [.int .u8 (v:Int),.int .u8 20,.slice (some ⟨g,0,none⟩) 1 d,.slice none 0 0] rfl rfl ?_ ?_ ?_ ?_ ?_ ?_;exact aC rfl rfl;simp[Value.oneCell'];(unfold maxLen;omega);omega;(rw[World.size_alloc];have:=HGK.out;omega);intro v' w8 hown80 hgrow8 hnil8;have hown8:w8.ownsRow (b+6) 189 4 v' 1 [.int .u8 (v:Int),.int .u8 20,.slice (some ⟨g,0,none⟩) 1 d,.slice none 0 0]:=hown80;obtain⟨g8,cap8,rfl⟩:∃g8 cap8,v' = .slice (some ⟨g8,0,none⟩) 1 cap8:=(by rcases hown8.2 with⟨_,h⟩|⟨g',cap,cur,h,_⟩;cases h;exact⟨g',cap,h⟩);have hB8:Below Wx.heap.size Wx w8:=((Below.refl _ _).alloc (Nat.le_refl _) _).grown hgrow8 (by simp) (λj e=>by cases e);have HD8:=hid (HD.out.fr (Fr.pure (S:=λ_=>False) hB8) (λ_ e=>e.elim));have l8:w8.cell? ⟨b+2,0,none⟩=some (.slice none 0 0):=(cell_of_row _ _ _ _ _ _ HD8.out.l).trans rfl;have f8:w8.frozen? ⟨b+2,0,none⟩=false:=frozen_of_row _ _ _ _ _ HD8.out.l;have HOW:=hid (yF hown8);have HBB:=hid hB8;have HFZ:=hid (λj=>yG (n:=0) hown8 j);clear hown80 hown8 hgrow8 hnil8 hB8)
   obtain⟨q0,q1,q2,q3,hq8⟩:=HOW.out;have hf9:Fr (λk=>k=b+2) w8 (w8.setCell ⟨b+2,0,none⟩ (.slice (some ⟨g8,0,none⟩) 1 cap8)):=(Fr.refl (λk=>k=b+2) w8).setCell ⟨b+2,0,none⟩ (λ_=>rfl) _;have hk8:Fr (λk=>k=b+2) Wx (w8.setCell ⟨b+2,0,none⟩ (.slice (some ⟨g8,0,none⟩) 1 cap8)):=(Fr.pure HBB.out).trans hf9;have hgk:=HGK.out;refine⟨m8.fr hk8 hgk.2.2 (by omega) (by omega),hk8.mono (λ_ _ e=>by omega),.inr ⟨g,d,g8,cap8,rfl,⟨hf9.heapAt HD8.out.r0 (by omega),hf9.heapAt HD8.out.r1 (by omega),heap_setCell_same _ _ _ _ _ _ HD8.out.l,HD8.out.below.trans (hf9.below (by have:=lt_of_block HD8.out.r0;omega) (λk hk e=>by omega))⟩,?_,by omega,hgk.1⟩⟩;exact⟨hf9.cellAt q0 (by omega),hf9.cellAt q1 (by omega),hf9.cellAt q2 (by omega),hf9.cellAt q3 (by omega),hf9.cellAt (vd HC.out HBB.out) (by omega),λj=>(hf9.frozen (aw q0) (by omega)).trans (HFZ.out j)⟩
  ·simp at hlen
 case done=>
  rintro xs Wx ⟨g0,d0,rfl⟩ hI hK
  rcases hI with⟨h1,_⟩|⟨g,d,q,c,h1,hD,hr,hq,hg⟩
  ·cases h1
  ·have HD:=hid hD
   have HR:=hid hr;have HQ:=hid (And.intro hq hg);have HK:=hid hK;have l0:Wx.cell? ⟨b+2,0,none⟩=some (.slice (some ⟨q,0,none⟩) 1 c):=(cell_of_row _ _ _ _ _ _ hD.l).trans rfl;have z0:Wx.cell? ⟨b,0,none⟩=some (.slice none 0 0):=(cell_of_row _ _ _ _ _ _ hD.r0).trans rfl;have zf0:Wx.frozen? ⟨b,0,none⟩=false:=frozen_of_row _ _ _ _ _ hD.r0;have z1:Wx.cell? ⟨b+1,0,none⟩=some (.int .i64 0):=(cell_of_row _ _ _ _ _ _ hD.r1).trans rfl;have zf1:Wx.frozen? ⟨b+1,0,none⟩=false:=frozen_of_row _ _ _ _ _ hD.r1;clear h1 hD hr hq hg hK
   gi_wp2
   obtain⟨Wf,hWf⟩:∃Wf,Wf=(Wx.setCell ⟨b,0,none⟩ (.slice (some ⟨q,0,none⟩) 1 c)).setCell ⟨b+1,0,none⟩ (.int .i64 0):=⟨_,rfl⟩;have hf:Fr (λk=>k=b∨k=b+1) Wx Wf:=by rw[hWf];exact((Fr.refl (λk=>k=b∨k=b+1) Wx).setCell ⟨b,0,none⟩ (λ_=>.inl rfl) _).setCell ⟨b+1,0,none⟩ (λ_=>.inr rfl) _
   have a0:Wf.heap[b]?=some (.cells #[.slice (some ⟨q,0,none⟩) 1 c] 190 (0,0)):=by
    rw[hWf];have h:(Wx.setCell ⟨b,0,none⟩ (.slice (some ⟨q,0,none⟩) 1 c)).heap[b]?=some (.cells #[.slice (some ⟨q,0,none⟩) 1 c] 190 (0,0)):=heap_setCell_same _ _ _ _ _ _ HD.out.r0;exact((Fr.refl (λk=>k=b+1) _).setCell ⟨b+1,0,none⟩ (λ_=>rfl) _).heapAt h (by omega)
   have a1:Wf.heap[b+1]?=some (.cells #[.int .i64 0] 26 (0,0)):=by
    rw[hWf];have h:(Wx.setCell ⟨b,0,none⟩ (.slice (some ⟨q,0,none⟩) 1 c)).heap[b+1]?=some (.cells #[.int .i64 0] 26 (0,0)):=((Fr.refl (λk=>k=b) _).setCell ⟨b,0,none⟩ (λ_=>rfl) _).heapAt HD.out.r1 (by omega);exact heap_setCell_same _ _ _ _ _ _ h
   have hz:=HZ0.out;have HKf:=hf.heapAt HK.out (by omega);rw[← hWf];clear hWf z0 zf0 z1 zf1 l0;refine⟨by simp,.inl ⟨_,_,rfl,run_takeDeferred HKf,?_⟩⟩;have hg:Fr (λk=>k=W0.heap.size) Wf (Wf.putObj W0.heap.size (.deferred none)):=(Fr.refl (λk=>k=W0.heap.size) Wf).putObj _ (λ_=>rfl) _;have o0:=(cell_of_row _ b 0 _ _ _ (hg.heapAt a0 (by omega))).trans (show _=some (.slice (some ⟨q,0,none⟩) 1 c)from rfl);have o1:=(cell_of_row _ (b+1) 0 _ _ _ (hg.heapAt a1 (by omega))).trans (show _=some (.int .i64 0)from rfl);have hbz:=lt_of_block HD.out.r0;have hq:=HQ.out;refine⟨.tuple #[.slice (some ⟨q,0,none⟩) 1 c,.int .i64 0],by simp[results,results189,go_sem,o0,o1],⟨q,c,g,d,rfl,by rw[← HB.out];omega,(HR.out.fr hf (by omega) (by omega)).fr hg (by omega) (by omega)⟩,?_⟩;rw[← HB.out];exact(HD.out.below.trans (hf.below (by omega) (λk hk e=>by omega))).trans (hg.below (by have:=hf.size;omega) (λk hk e=>by omega))
 case stop=>exact λ_ _ _ _ h=>h.elim
end
section
open Go.RowKit
theorem xk {ev:Nat}(h:0<ev)(q:Nat)(ps:List (List UInt8))(p:List UInt8):ph ev q (kP.next (q,ps)) (kP.good (q,ps)) (iV ev q ps)=iV ev q (ps++[p]):=by
 rw[ja h];unfold ph kP.next kP.good;simp only;rw[show q+ps.length-q=ps.length from by omega,iS]
 split<;>simp
theorem xl {w w1 w2:World}{F:Nat→Prop}{g p b:Nat}{st st1:cZ}{l:kR}(H0:tp w F g p b st l)(H1:tp w1 F g p b st1 l)(HFR:dY p b w w1){pl:List UInt8}(hp:iw pl)(hn:l.next<1048576)(hg:l.lastIx.good+16+pl.length≤1048576)
  {S:Nat→Prop} {sv iv sv':Value} {xs:List (Nat×Value)} (HC:LgC w1 S g p l sv iv xs) (HSF:∀k,S k→F k) (hsF:∀k,sv.ownBlock=some k→F k) (h0:0<xs.length)
  (hix:oR w2 (xs[xs.length-1]'(by omega)).1 l.ev l.lastIx.1 (l.next+1) (l.lastIx.good+16+pl.length) sv' (ph l.ev l.lastIx.1 l.next l.lastIx.good (iV l.ev l.lastIx.1 l.lastIx.2)))
  (hw:aA w1 (xs[xs.length-1]'(by omega)).2 sv') (hf:Fr (λk=>k=(xs[xs.length-1]'(by omega)).1) w1 w2):tq w F g p b (st1,l.add pl) w2:=by
 have hxl:=HC.len;have hpos:=H0.ok.pos;have hlen:=H0.ok.len;have hlast:=lT (l:=l) (by omega);have hlt:=HC.ixs (xs.length-1) (by omega) (by omega);have hsx:=HC.sx _ (List.getElem_mem (by omega:xs.length-1<xs.length));obtain⟨X,hX⟩:∃X,X=xs[xs.length-1]'(by omega):=⟨_,rfl⟩;rw[← hX]at hix hw hlt hsx;rw[← hX]at hf;have hXF:=HSF _ hsx.1;have hXw:=H0.lt _ hXF;have hs1:=HFR.size;have hs2:=hf.size;have hpw:=H0.dk.lt;have hbw:=H0.dk.own.lt;have hPW:PW<w.heap.size:=bR H0.pow;have hev:0<l.ev:=by obtain⟨ev,h1,h2,h3,h4⟩:=tG H0.ok.cfg;unfold kR.ev;omega
 have hsplit:xs=xs.dropLast++[X]:=by
  rw[hX,← List.getLast_eq_getElem (by intro e;rw[e]at h0;simp at h0),List.dropLast_concat_getLast]
 have hnewS:∀k,(S k∨sv'.ownBlock=some k)→S k∨w1.heap.size≤k:=by
  rintro k (h|h)
  ·exact .inl h
  ·rcases hw with h2|⟨g2,h2,h3⟩
   ·rw[h2]at h;exact .inl (hsx.2 k h)
   ·rw[h2]at h;obtain rfl:=Option.some.inj h;exact .inr h3
 have hltS:∀k,(S k∨sv'.ownBlock=some k)→k<w2.heap.size:=by
  rintro k (h|h)
  ·have:=HC.lt k h;omega
  ·exact sT hix.own h
 have hnew:∀k,(F k∨sv'.ownBlock=some k)→F k∨w.heap.size≤k:=by
  rintro k (h|h)
  ·exact .inl h
  ·rcases hnewS k (.inr h)with h2|h2
   ·exact .inl (HSF k h2)
   ·exact .inr (by omega)
 have hok:lu (l.add pl):=H0.ok.add hp hn hg;refine⟨λk=>F k∨sv'.ownBlock=some k,⟨⟨sv,iv,xs.dropLast++[(X.1,sv')],λk=>S k∨sv'.ownBlock=some k,⟨?_,?_,?_,?_,?_,?_,.inl HC.sg,?_,?_,?_,hltS⟩,?_,λk hk=>.inl (hsF k hk),?_⟩,?_,?_,hok,?_,H0.pw⟩,?_,hnew⟩
 ·exact hf.heapAt HC.cell (λe=>tI HC.cell hlt.cell (by decide) e)
 ·exact HC.segs.kept hf λk hk e=>HC.sfar k hk (by rw[e];exact hsx.1)
 ·intro k hk h
  rcases hnewS k h with h2|h2
  ·exact HC.sfar k hk h2
  ·have:=H0.lt k (hsF k hk);omega
 ·have e:(xs.dropLast++[(X.1,sv')]).map sW=xs.map sW:=by
   conv=>rhs;rw[hsplit]
   simp[sW]
  have e2:(l.add pl).ix.length=l.ix.length:=lY l pl (by omega);rw[e,e2];refine hf.ownsRow HC.row λk hk e3=>?_;obtain⟨c9,h9⟩:=tJ HC.row hk;exact tI h9 hlt.cell (by decide) e3
 ·have e2:(l.add pl).ix.length=l.ix.length:=lY l pl (by omega)
  rw[e2];simp;omega
 ·intro i hi hi'
  have eev:(l.add pl).ev=l.ev:=rfl;have hi2:i<xs.length:=by simp at hi;omega
  rw[lZ l pl i hi' (by omega),eev];by_cases hc:i+1=l.ix.length
  ·rw[if_pos hc]
   have h2:(xs.dropLast++[(X.1,sv')])[i]=(X.1,sv'):=by rw[List.getElem_append_right (by simp;omega)];simp
   rw[h2];have h3:kP.next (l.lastIx.1,l.lastIx.2++[pl])=l.next+1:=by unfold kR.next kP.next;simp;omega
   have h4:kP.good (l.lastIx.1,l.lastIx.2++[pl])=l.lastIx.good+16+pl.length:=lW _ _ _;rw[h3,h4];have h5:=xk hev l.lastIx.1 l.lastIx.2 pl;show oR w2 X.1 l.ev l.lastIx.1 _ _ sv' (iV l.ev l.lastIx.1 (l.lastIx.2++[pl]));rw[← h5];exact hix
  ·rw[if_neg hc]
   have hi3:i<xs.dropLast.length:=by simp;omega
   have h2:(xs.dropLast++[(X.1,sv')])[i]=xs[i]:=by rw[List.getElem_append_left hi3,List.getElem_dropLast]
   rw[h2];have h1:=HC.ixs i hi2 (by omega);have hap:=List.pairwise_iff_getElem.1 HC.apart i (xs.length-1) hi2 (by omega) (by omega);rw[← hX]at hap;refine h1.kept hf hap.1 λk hk e=>?_;obtain⟨c9,h9⟩:=tJ h1.own hk;exact tI h9 hlt.cell (by decide) e
 ·intro k hk
  exact .inl (HC.siv k hk)
 ·intro y hy
  rcases List.mem_append.1 hy with h|h
  ·have hm:y∈xs:=by rw[hsplit];exact List.mem_append_left _ h
   exact⟨.inl (HC.sx y hm).1,λk hk=>.inl ((HC.sx y hm).2 k hk)⟩
  ·rw[List.mem_singleton.1 h]
   exact⟨.inl hsx.1,λk hk=>.inr hk⟩
 ·have hap:=HC.apart
  rw[hsplit]at hap;obtain⟨a1,_,a3⟩:=List.pairwise_append.1 hap;refine List.pairwise_append.2 ⟨a1,List.pairwise_singleton _ _,λy hy z hz=>?_⟩;rw[List.mem_singleton.1 hz];have h1:=a3 y hy X (by simp);refine⟨h1.1,λk hk e=>?_⟩;have hm:y∈xs:=by rw[hsplit];exact List.mem_append_left _ hy
  rcases hw with h2|⟨g2,h2,h3⟩
  ·rw[h2]at e;exact h1.2 k hk e
  ·rw[h2]at e
   obtain rfl:=Option.some.inj e;have:=HC.lt _ ((HC.sx y hm).2 g2 hk);omega
 ·rintro k (h|h)
  ·exact .inl (HSF k h)
  ·exact .inr h
 ·rintro k (h|h)
  ·have:=H0.lt k h;omega
  ·exact sT hix.own h
 ·exact H1.dk.kept hf (λe=>(H0.far _ hXF).1 e.symm) (λe=>(H0.far _ hXF).2.1 e.symm)
 ·exact hf.pow H1.pow (λe=>(H0.far _ hXF).2.2 e.symm)
 ·intro k hk
  rcases hnew k hk with h|h
  ·exact H0.far k h
  ·exact⟨by omega,by omega,by omega⟩
 ·refine(HFR.mono λk _ h=>.inr h).trans (hf.mono λk _ h=>.inl ?_)
  rw[h];exact hXF
end
end Go.Proofs.YthjjgcfdhkhelaaGreatDoor
