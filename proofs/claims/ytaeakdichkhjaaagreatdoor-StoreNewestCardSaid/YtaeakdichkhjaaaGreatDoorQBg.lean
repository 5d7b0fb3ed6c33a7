/- A snapshot that is written to an empty disk, plainly. -/
import Derived.Test.YtaeakdichkhjaaaGreatDoorQBf
import Derived.Test.YtaeakdichkhjaaaGreatDoorQAg
import Derived.Test.YtaeakdichkhjaaaGreatDoorQAf
import Derived.Test.YtaeakdichkhjaaaGreatDoorQBd
import Derived.Test.YtaeakdichkhjaaaGreatDoorQAe
set_option maxHeartbeats 8000000
open Go.Lib(hid)
namespace Go.Proofs.YtaeakdichkhjaaaGreatDoor
section
open Go.RowKit
theorem u9 {w w4:World}{v:Value}{L:List UInt8}(h:WrTo w.heap.size (w.alloc (.cells #[.slice none 0 0] 155)) w4 (.slice none 0 0) v L):Below w.heap.size w w4:=
 ((Below.refl _ _).alloc (Nat.le_refl _) _).trans (h.fr.below (B:=w.heap.size) (by simp) (λk hk e=>by rcases e with e|e;omega;cases e))
theorem vb {w w1 w2:World}(h:Below w.heap.size w w1)(k:Below w1.heap.size w1 w2):Below w.heap.size w w2:=h.trans (k.mono h.size)
theorem vd:∀(m:IMap) (q:Int) (l:List LinD),j5 m q l→∀x∈l,0≤x.kind∧x.kind<256
 | _,_,[],_,_,h=>by cases h
 | m,q,y::t,hg,x,h=>by
  rcases List.mem_cons.1 h with rfl|h
  ·have:=hg.1.2.2.2.1;omega
  ·exact vd _ _ t hg.2 x h
set_option maxRecDepth 100000 in
theorem ve (F:Nat→Prop)(w:World)(sv:StV)(dv:VwV)(s:StD)(d:VwD)(hat:StAt F w sv s)(hvt:VwAt F w dv d)(hF:∀g,F g→g<w.heap.size)(LM:StLim s)(LV:VwLim d)(hB:jW s→j9 d→(mi s d).length≤1000000) :
  Calls Tryz.prog 73 #[.agg (jc s sv),.agg (jd dv)] w λe w'=>(∃r:ByteArray,r.data.toList=(mF s d).1∧e = .returned (.tuple #[.string r,.int .i64 (mF s d).2]))∧Below w.heap.size w w':=by
 obtain⟨n,hn⟩:∃n,n=w.heap.size:=⟨_,rfl⟩;obtain⟨C,hC⟩:∃C,C=jc s sv:=⟨_,rfl⟩;obtain⟨D,hD⟩:∃D,D=jd dv:=⟨_,rfl⟩;obtain⟨W0,hW0⟩:∃W0,W0=(w.alloc (.cells C 29)).alloc (.cells D 35):=⟨_,rfl⟩;have hbel:Below w.heap.size w W0:=by rw[hW0];exact((Below.refl _ _).alloc (Nat.le_refl _) _).alloc (by simp) _
 have k0:W0.heap[n]?=some (.cells C 29 (0,0)):=by rw[hW0,hn];exact(Below.heap_alloc _ _ _ (by simp)).trans (heap_alloc_new _ _)
 have k1:W0.heap[n+1]?=some (.cells D 35 (0,0)):=by rw[hW0,hn];exact oN _ _ (by simp)
 have HAT:=hid (hat.pure hbel);have HVT:=hid (hvt.pure hbel);have HFF:=hid (show ∀g,F g→g<W0.heap.size from λg hg=>Nat.lt_of_lt_of_le (hF g hg) hbel.size);have HM:=hid (su F W0 sv s LM HAT.out HFF.out);have HVM:=hid (λW (hb:Below W0.heap.size W0 W)=>sR F W dv d LV (HVT.out.pure hb));have HPUT:=hid (λW p v L hw hh hF hsd hL=>uY F W p v L hw sv s hh hF LM hsd hL);have HPRJ:=hid (λW p v L hw hh hF hsd hkd hL=>uZ F W p v L hw dv d hh hF LV hsd hkd hL);rw[← hC]at HM HPUT ⊢;rw[← hD]at HVM HPRJ ⊢;have HBB:=hid hB;have K0:=hid k0;have K1:=hid k1;have HB:=hid hbel;have HNN:=hid hn;obtain⟨va,vi,vr,vo,vu⟩:=sv;obtain⟨xo,xl,xp,xn⟩:=dv;unfold jc at hC;unfold jd at hD;dsimp only at hC hD;subst hC hD;clear hat hvt hF hB k0 k1 hbel
 go_enter Tryz.func73,Tryz.ntmps73
 go_wp2_with fail
 rw[← hW0]
 try rw[← hn]
 clear hW0 hn;refine HM.out.mono ?_;rintro e w1 ⟨ht1,hb1⟩;have B1:=hid hb1;clear hb1;by_cases hs1:jW s;rotate_left
 ·have HW:=hid (show mF s d=([],4)from by unfold mF;rw[if_pos (λh=>hs1 h.1)])
  obtain rfl:=ht1.neg hs1;clear ht1 hs1;go_wp2;refine bodyPost_ret (v:=.tuple #[.string ⟨#[]⟩,.int .i64 4]) (by simp[results,Tryz.results73,go_sem]) rfl ?_;exact⟨⟨⟨#[]⟩,by rw[HW.out],by rw[HW.out]⟩,HB.out.trans (B1.out.mono HB.out.size)⟩
 obtain rfl:=ht1.pos hs1;have HS1:=hid hs1;clear ht1 hs1;have HV:=hid (λ(wx:World) (hb:Below W0.heap.size W0 wx) j v (h:(#[xo,xl,xp,xn]:Array Value)[j]?=some v)=>((cell_of_row _ _ _ _ _ _ ((hb.block _ (lt_of_block K1.out)).trans K1.out)).trans h:wx.cell? ⟨n+1,j,none⟩=some v));have HX:=hid (λ(wx:World) (hb:Below W0.heap.size W0 wx) j v (h:(#[.int .i64 s.clock,.int .i64 s.fee,.int .i64 s.nextO,.int .i64 s.nextA,va,vi,vr,vo,vu]:Array Value)[j]?=some v)=>((cell_of_row _ _ _ _ _ _ ((hb.block _ (lt_of_block K0.out)).trans K0.out)).trans h:wx.cell? ⟨n,j,none⟩=some v));have y0:=HV.out w1 B1.out 0 _ rfl;have y1:=HV.out w1 B1.out 1 _ rfl;have y2:=HV.out w1 B1.out 2 _ rfl;have y3:=HV.out w1 B1.out 3 _ rfl;have HVM1:=hid (HVM.out w1 B1.out)
 go_wp2_with fail
 refine HVM1.out.mono ?_;rintro e w2 ⟨ht2,hb2⟩;have B2:=hid (vb B1.out hb2);clear hb2 y0 y1 y2 y3;by_cases hs2:j9 d;rotate_left
 ·have HW:=hid (show mF s d=([],4)from by unfold mF;rw[if_pos (λh=>hs2 h.2)])
  obtain rfl:=ht2.neg hs2;clear ht2 hs2;go_wp2;refine bodyPost_ret (v:=.tuple #[.string ⟨#[]⟩,.int .i64 4]) (by simp[results,Tryz.results73,go_sem]) rfl ?_;exact⟨⟨⟨#[]⟩,by rw[HW.out],by rw[HW.out]⟩,HB.out.trans (B2.out.mono HB.out.size)⟩
 obtain rfl:=ht2.pos hs2;have HS2:=hid hs2;clear ht2 hs2;have hbl:=HBB.out HS1.out HS2.out;have HW:=hid (show mF s d=(mi s d,0)from by
  unfold mF;rw[if_neg (λh=>h ⟨HS1.out,HS2.out⟩),if_neg (by unfold mD;omega)])
 have HBL:=hid hbl;have hbl2:(stB s).length+(vwB d).length≤1000000:=by unfold mi at hbl;rw[List.length_append]at hbl;exact hbl
 have HBL2:=hid hbl2;have HSD:=hid (show ∀o∈s.ords,0≤o.side∧o.side<256 from λo ho=>by have h1:jB o:=HS1.out.2.2.2.2.1.1.2.1 o ho;unfold jB at h1;omega);have HSO:=hid (show ∀o∈d.open_,0≤o.side∧o.side<256 from λo ho=>by have h1:jX o:=HS2.out.1.2.2.2.2.1 o ho;unfold jX at h1;omega);have HSK:=hid (vd [] 0 d.lins HS2.out.2.2);clear hbl hbl2;have x0:=HX.out w2 B2.out 0 _ rfl;have x1:=HX.out w2 B2.out 1 _ rfl;have x2:=HX.out w2 B2.out 2 _ rfl;have x3:=HX.out w2 B2.out 3 _ rfl;have x4:=HX.out w2 B2.out 4 _ rfl;have x5:=HX.out w2 B2.out 5 _ rfl;have x6:=HX.out w2 B2.out 6 _ rfl;have x7:=HX.out w2 B2.out 7 _ rfl;have x8:=HX.out w2 B2.out 8 _ rfl;have hlt:n<w2.heap.size:=aA x0;have hlt1:n+1<w2.heap.size:=aA (HV.out w2 B2.out 0 _ rfl);have HFW:=hid (show ∀g,F g→g<w2.heap.size from λg hg=>Nat.lt_of_lt_of_le (HFF.out g hg) B2.out.size);have HP:=hid (HPUT.out (w2.alloc (.cells #[.slice none 0 0] 155)) w2.heap.size (.slice none 0 0) [] (IsWr.fresh w2) ((HAT.out.pure B2.out).pure (ke _ _)) (λg hg=>⟨by have:=HFW.out g hg;simp;omega,by have:=HFW.out g hg;omega,by simp[Value.ownBlock]⟩) HSD.out (by have:=HBL2.out;simp;omega))
 go_wp2_with fail
 refine HP.out.mono ?_;rintro e w3 ⟨rfl,v3,h3⟩;have H3:=hid h3;clear h3 x0 x1 x2 x3 x4 x5 x6 x7 x8;have HV3:=hid (λj v (h:(#[xo,xl,xp,xn]:Array Value)[j]?=some v)=>(H3.out.cell ((World.cell?_alloc_past _ _ _ hlt1).trans (HV.out w2 B2.out j v h)) (by omega):w3.cell? ⟨n+1,j,none⟩=some v));have y0:=HV3.out 0 _ rfl;have y1:=HV3.out 1 _ rfl;have y2:=HV3.out 2 _ rfl;have y3:=HV3.out 3 _ rfl;have HJ:=hid (HPRJ.out w3 w2.heap.size v3 _ H3.out.is (((HVT.out.pure B2.out).pure (ke _ _)).kept H3.out.fr (λg hg e=>by
   rcases e with e|e
   ·have:=HFW.out g hg;omega
   ·cases e)) (λg hg=>⟨by have h1:=HFW.out g hg;have h2:=H3.out.fr.size;simp at h2;omega,by have:=HFW.out g hg;omega,λe=>by
    have h1:=H3.out.went.old (k:=g) (by have h1:=HFW.out g hg;simp;omega) e;cases h1⟩) HSO.out HSK.out (by have:=HBL2.out;simp;omega))
 go_wp2_with fail
 refine HJ.out.mono ?_;rintro e w4 ⟨rfl,v4,h4⟩;have H4:=hid (show WrTo w2.heap.size _ w4 (.slice none 0 0) v4 (mi s d)from by
  have:=H3.out.trans h4;unfold mi;simpa using this)
 clear h4 y0 y1 y2 y3;obtain⟨B,hBq⟩:∃B,B=mi s d:=⟨_,rfl⟩;rw[← hBq]at H4 HW HBL;have hgt:decide ((1048556:Int)<(B.length:Int))=false:=by have:=HBL.out;simp;omega
 clear hBq HJ HP
 go_wp2_with fail
 refine(ic w2.heap.size v4 B w4 H4.out.is).mono ?_;rintro e w5 ⟨rfl,rfl⟩
 go_wp2_with fail
 refine(bA w2.heap.size v4 B _ H4.out.is).mono ?_;rintro e w6 ⟨r,hr,rfl,rfl⟩;have HR:=hid hr;clear hr;go_wp2;refine bodyPost_ret (v:=.tuple #[.string r,.int .i64 0]) (by simp[results,Tryz.results73,go_sem]) rfl ?_;exact⟨⟨r,by rw[HW.out];exact HR.out,by rw[HW.out]⟩,HB.out.trans ((vb B2.out (u9 H4.out)).mono HB.out.size)⟩
noncomputable def vf (q:Int) (s:StD) (d:VwD):List UInt8×Int:=
 if q<0∨1048576<q then ([],1) else if (mF s d).2≠0 then ([],(mF s d).2) else (gR q.toNat (mF s d).1,0)
set_option maxRecDepth 100000 in
theorem vg (F:Nat→Prop)(w:World)(q:Int)(sv:StV)(dv:VwV)(s:StD)(d:VwD)(hat:StAt F w sv s)(hvt:VwAt F w dv d)(hF:∀g,F g→g<w.heap.size)(LM:StLim s)(LV:VwLim d)(hB:jW s→j9 d→(mi s d).length≤1000000) :
  Calls Tryz.prog 43 #[.int .i64 q,.agg (jc s sv),.agg (jd dv)] w λe w'=>(∃r:ByteArray,r.data.toList=(vf q s d).1∧e = .returned (.tuple #[.string r,.int .i64 (vf q s d).2]))∧Below w.heap.size w w':=by
 obtain⟨n,hn⟩:∃n,n=w.heap.size:=⟨_,rfl⟩;obtain⟨C,hC⟩:∃C,C=jc s sv:=⟨_,rfl⟩;obtain⟨D,hD⟩:∃D,D=jd dv:=⟨_,rfl⟩;obtain⟨W0,hW0⟩:∃W0,W0=(w.alloc (.cells C 29)).alloc (.cells D 35):=⟨_,rfl⟩;have hbel:Below w.heap.size w W0:=by rw[hW0];exact((Below.refl _ _).alloc (Nat.le_refl _) _).alloc (by simp) _
 have HB:=hid hbel;have HBD:=hid (ve F W0 sv dv s d (hat.pure hbel) (hvt.pure hbel) (λg hg=>Nat.lt_of_lt_of_le (hF g hg) hbel.size) LM LV hB);have HBL:=hid hB;rw[← hC,← hD]at HBD;rw[← hC,← hD];obtain⟨va,vi,vr,vo,vu⟩:=sv;obtain⟨xo,xl,xp,xn⟩:=dv;unfold jc at hC;unfold jd at hD;dsimp only at hC hD;subst hC hD;clear hat hvt hF hB hbel;by_cases hq0:q<0
 ·have HW:=hid (show vf q s d=([],1)from by unfold vf;rw[if_pos (.inl hq0)])
  have hd:decide (q<0)=true:=by simpa using hq0
  go_enter Tryz.func43,Tryz.ntmps43
  go_wp2;refine bodyPost_ret (v:=.tuple #[.string ⟨#[]⟩,.int .i64 1]) (by simp[results,Tryz.results43,go_sem]) rfl ?_;refine⟨⟨⟨#[]⟩,by rw[HW.out],by rw[HW.out]⟩,?_⟩
  first|exact HB.out|(rw[← hW0];exact HB.out)
 have hd:decide (q<0)=false:=by simpa using hq0
 by_cases hq1:1048576<q
 ·have HW:=hid (show vf q s d=([],1)from by unfold vf;rw[if_pos (.inr hq1)])
  have hd2:decide (1048576<q)=true:=by simpa using hq1
  go_enter Tryz.func43,Tryz.ntmps43
  go_wp2;refine bodyPost_ret (v:=.tuple #[.string ⟨#[]⟩,.int .i64 1]) (by simp[results,Tryz.results43,go_sem]) rfl ?_;refine⟨⟨⟨#[]⟩,by rw[HW.out],by rw[HW.out]⟩,?_⟩
  first|exact HB.out|(rw[← hW0];exact HB.out)
 have hd2:decide (1048576<q)=false:=by simpa using hq1
 obtain⟨qn,rfl⟩:∃m:Nat,q=(m:Int):=⟨q.toNat,by omega⟩;have hqn:qn≤1048576:=by omega
 have HF0:=hid (show vf (qn:Int) s d=if (mF s d).2≠0 then ([],(mF s d).2) else (gR qn (mF s d).1,0)from by
  unfold vf;rw[if_neg (by omega)];rfl)
 have hwq:IntKind.u64.wrap (qn:Int)=(qn:Int):=by rw[IntKind.wrap_u64];omega
 have HWL:=hid (show(mF s d).1.length≤1000000 from by
  unfold mF
  split
  ·simp
  ·rename_i h
   have h2:jW s∧j9 d:=Classical.byContradiction h
   split
   ·simp
   ·exact HBL.out h2.1 h2.2)
 obtain⟨⟨L,c⟩,hR⟩:∃R,R=mF s d:=⟨_,rfl⟩;rw[← hR]at HF0 HBD HWL;dsimp only at HF0 HBD HWL;have HZ:=hid hqn;clear hq0 hq1 hn hR HBL hqn
 go_enter Tryz.func43,Tryz.ntmps43
 go_wp2_with fail
 rw[← hW0];clear hW0;refine HBD.out.mono ?_;rintro e w1 ⟨⟨r,hr,rfl⟩,hb1⟩;have HR:=hid hr;have HB1:=hid (HB.out.trans (hb1.mono HB.out.size));clear hb1;by_cases hc0:c=0;rotate_left
 ·have HW:=hid (show vf (qn:Int) s d=([],c)from by rw[HF0.out,if_pos hc0])
  have hcb:(c == 0)=false:=by simpa using hc0
  clear hc0 hr;go_wp2;refine bodyPost_ret (v:=.tuple #[.string ⟨#[]⟩,.int .i64 c]) (by simp[results,Tryz.results43,go_sem]) rfl ?_;exact⟨⟨⟨#[]⟩,by rw[HW.out],by rw[HW.out]⟩,HB1.out⟩
 subst hc0;have HW:=hid (show vf (qn:Int) s d=(gR qn L,0)from by rw[HF0.out];rfl);have hrz:r.size=L.length:=av hr;have hrl:r.size≤1000000:=by rw[hrz];exact HWL.out
 have HRZ:=hid hrz;obtain⟨m,hm⟩:∃m,m=r.size:=⟨_,rfl⟩;have HMM:=hid hm;clear hr hrz
 go_wp2_with fail
 refine(bu ⟨#[115,110,112,49]⟩ w1.heap.size _ [] _ (IsWr.fresh w1) (by decide)).mono ?_;rintro e w2 ⟨rfl,v2,h2⟩;have H2:=hid h2;clear h2
 go_wp2_with fail
 try rw[hwq]
 refine(bt qn w1.heap.size v2 _ w2 (by have:=HZ.out;omega) H2.out.is (by simp)).mono ?_;rintro e w3 ⟨rfl,v3,h3⟩;have H3:=hid (H2.out.trans h3);clear h3;have hu4:IntKind.u32.wrap (r.size:Int)=(r.size:Int):=by rw[IntKind.wrap_u32];omega
 go_wp2_with fail
 try rw[hu4]
 refine(im r.size w1.heap.size v3 _ w3 (by omega) H3.out.is (by simp[aY])).mono ?_;rintro e w4 ⟨rfl,v4,h4⟩;have H4:=hid (H3.out.trans h4);clear h4
 go_wp2_with fail
 refine(bu r w1.heap.size v4 _ w4 H4.out.is (by simp[aY];omega)).mono ?_;rintro e w5 ⟨rfl,v5,h5⟩;have H5:=hid (H4.out.trans h5);clear h5
 go_wp2_with fail
 refine(bA w1.heap.size v5 _ w5 H5.out.is).mono ?_;rintro e w6 ⟨t,ht,rfl,rfl⟩;have htl:t.data.toList=[115,110,112,49]++be 8 qn++be 4 L.length++L:=by
  rw[ht,HR.out,HRZ.out];rfl
 have htz:t.size=4+8+4+L.length:=by rw[av htl];simp[aY];omega
 have hlz:=HWL.out;have HT:=hid htl;clear ht htl
 go_wp2_with fail
 refine(iQ t _ (by unfold maxLen;omega)).mono ?_;rintro e w7 ⟨u,hu,rfl,hb7⟩;have HU:=hid (show u.data.toList=gR qn L from by rw[hu,HT.out];rfl);have HB7:=hid (vb (HB1.out.trans ((u9 H5.out).mono HB1.out.size)) hb7);clear hu hb7;go_wp2;refine bodyPost_ret (v:=.tuple #[.string u,.int .i64 0]) (by simp[results,Tryz.results43,go_sem]) rfl ?_;exact⟨⟨u,by rw[HW.out];exact HU.out,by rw[HW.out]⟩,HB7.out⟩
theorem vh {c:UInt8}(h:fi c):letters.contains c=true:=by
 obtain⟨h1,h2⟩:=h;have e:c=UInt8.ofNat c.toNat:=(UInt8.ofNat_toNat).symm;rw[e]
 generalize c.toNat=n at *
 have:n=48∨n=49∨n=50∨n=51∨n=52∨n=53∨n=54∨n=55∨n=56∨n=57:=by omega
 rcases this with rfl|rfl|rfl|rfl|rfl|rfl|rfl|rfl|rfl|rfl<;>decide
theorem vj {n:Nat}(h:n≤1048576):cU (fN (n:Int))=true:=by
 have hl:=fQ n h;unfold cU;rw[hl];simp only[Bool.and_eq_true,decide_eq_true_eq,List.all_eq_true];refine⟨⟨by omega,by omega⟩,λc hc=>?_⟩;rw[fP n h]at hc
 rcases List.mem_cons.1 hc with rfl|hc
 ·decide
 ·exact vh (fw n 10 c hc)
theorem vk:cU gS=true:=by decide
theorem vm (n:Int):gS≠fN n:=by
 unfold fN
 split
 ·unfold gS;intro e;exact absurd (List.cons.inj e).1 (by decide)
 ·unfold gS;intro e;cases e
theorem vq {q:Int}{s:StD}{d:VwD}(h:(vf q s d).2=0):∃(n:Nat) (L:List UInt8),q=(n:Int)∧n≤1048576∧vf q s d=(gR n L,0)∧mF s d=(L,0)∧mE L=(s,d,0)∧L.length≤1048556∧jW s∧j9 d:=by
 unfold vf at h ⊢;by_cases h1:q<0∨1048576<q
 ·rw[if_pos h1]at h;simp at h
 ·rw[if_neg h1]at h ⊢
  by_cases h2:(mF s d).2≠0
  ·rw[if_pos h2]at h;exact absurd h h2
  ·rw[if_neg h2]at h ⊢
   have h3:mF s d=((mF s d).1,0):=by
    have:=Classical.not_not.1 h2;rw[← this]
   obtain⟨g1,g2,g3,g4⟩:=uA h3;exact⟨q.toNat,(mF s d).1,by omega,by omega,rfl,h3,g1,g2,g3,g4⟩
theorem vt (n:Nat)(L:List UInt8):(gR n L).length=20+L.length:=by rw[uC,Crc.seal_length,uD];omega
theorem vy {st:DkSt}{n:Nat}(hn:n≤1048576){L:List UInt8}{s:StD}{d:VwD}(hd:st.dark=false)(hL:L.length≤1048556)(h:mE L=(s,d,0)){f:FileS}(hg:cJ st.fs (fN (n:Int))=some f){q:Nat}(hq:q≤1048576)(hf:f.firm++f.pend=gR q L) :
  uM (n:Int) (eG st (fN (n:Int)))=if (q:Int)=(n:Int) then (s,d,0) else (mB,mC,4):=by
 unfold uM eG;rw[hd,hg,if_neg (by omega)];simp only[Bool.false_eq_true,if_false,ne_eq,not_true_eq_false];rw[hf,uL hq hL h];simp only[not_true_eq_false,if_false];by_cases hx:(q:Int)=(n:Int)
 ·rw[if_neg (λh=>h hx),if_pos hx]
 ·rw[if_pos hx,if_neg hx]
end
end Go.Proofs.YtaeakdichkhjaaaGreatDoor
