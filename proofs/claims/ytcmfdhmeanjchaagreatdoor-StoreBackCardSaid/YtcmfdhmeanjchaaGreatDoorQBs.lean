/- The closed facts of StoreBack's row and card, one by one. -/
import Derived.Lib.QuietBelow
import Derived.Test.YtcmfdhmeanjchaaGreatDoorQBr
import Derived.Test.YtcmfdhmeanjchaaGreatDoorChecked
import Derived.ProofKit
import Derived.OpenShut
import Derived.LaidMore
import Derived.Lay
import Derived.Lib.LaidTab
import Derived.Deep.SlicePairs
import Derived.Lib.SmallJoins
import Derived.SevenTiedAt
import Derived.Stop.Joined
import Derived.SizedLaws
import Derived.Deep.Slices
import Derived.SliceStrings
import Derived.Test.YtcmfdhmeanjchaaGreatDoorQAk
import Derived.Test.YtcmfdhmeanjchaaGreatDoorQAa
import Derived.Test.YtcmfdhmeanjchaaGreatDoorQAm
import Derived.Shelf.Vars
import Derived.Test.YtcmfdhmeanjchaaGreatDoorQBo
import Derived.Test.YtcmfdhmeanjchaaGreatDoorTie
import Derived.Test.YtcmfdhmeanjchaaGreatDoorCards
import Derived.JoinedOf
set_option maxHeartbeats 16000000
open Go.Lib(hid)
namespace Go.Proofs.YtcmfdhmeanjchaaGreatDoor
open Go.RowKit Go.Maps Go.Sort
set_option maxRecDepth 100000 in
theorem zG (w:World)(hl:Libz w)(seq other:Int)(F:Nat→Prop)(sv:StV)(dv:VwV)(s:StD)(v:VwD)(hs:StAt F w sv s)(hv:VwAt F w dv v)(hF:∀g,F g→g<w.heap.size)(hi:StIn s)(hvi:VwIn v) :
  Calls Tryz.prog 4 #[.int .i64 seq,.int .i64 other,.agg (km s sv),.agg (kn dv)] w λe w'=>e = .returned (.bool true)∧Below w.heap.size w w':=by
 obtain⟨s4,s5,s6,s7,s8⟩:=sv;obtain⟨sa4,sc4,rfl⟩:=hs.a.shape;obtain⟨sa5,sc5,rfl⟩:=hs.i.shape;obtain⟨sa6,sc6,rfl⟩:=hs.r.shape;obtain⟨sa7,sc7,rfl⟩:=hs.o.shape;obtain⟨sa8,sc8,rfl⟩:=hs.u.shape;obtain⟨d0,d1,d2,d3⟩:=dv;obtain⟨da0,dc0,rfl⟩:=hv.o.shape;obtain⟨da1,dc1,rfl⟩:=hv.l.shape;obtain⟨da2,dc2,rfl⟩:=hv.p.shape;obtain⟨da3,dc3,rfl⟩:=hv.n.shape;have HS:=hid hs;have HV:=hid hv;have HI:=hid hi;have HVI:=hid hvi;have HF:=hid hF;have HL:=hid hl;unfold km kn;dsimp only;clear hs hv hi hvi hF hl
 go_enter Tryz.func4,Tryz.ntmps4
 go_wp2_with fail
 obtain⟨n,hn⟩:∃n,n=w.heap.size:=⟨_,rfl⟩;obtain⟨W0,hW0⟩:∃W,W=(w.alloc (.cells #[.int .i64 s.clock,.int .i64 s.fee,.int .i64 s.nextO,.int .i64 s.nextA,.slice sa4 s.accts.length sc4,.slice sa5 s.insts.length sc5,.slice sa6 s.rows.length sc6,.slice sa7 s.ords.length sc7,.slice sa8 s.aucs.length sc8] 29)).alloc (.cells #[.slice da0 v.open_.length dc0,.slice da1 v.lots.length dc1,.slice da2 v.poss.length dc2,.slice da3 v.lins.length dc3] 35):=⟨_,rfl⟩;have bW0:Below w.heap.size w W0:=by rw[hW0];exact((Below.refl _ _).alloc (Nat.le_refl _) _).alloc (by simp) _
 have k0:W0.heap[n]?=some (.cells #[.int .i64 s.clock,.int .i64 s.fee,.int .i64 s.nextO,.int .i64 s.nextA,.slice sa4 s.accts.length sc4,.slice sa5 s.insts.length sc5,.slice sa6 s.rows.length sc6,.slice sa7 s.ords.length sc7,.slice sa8 s.aucs.length sc8] 29 (0,0)):=by rw[hW0,hn];exact(Below.heap_alloc _ _ _ (by simp<;>omega)).trans (heap_alloc_new _ _)
 have k1:W0.heap[n+1]?=some (.cells #[.slice da0 v.open_.length dc0,.slice da1 v.lots.length dc1,.slice da2 v.poss.length dc2,.slice da3 v.lins.length dc3] 35 (0,0)):=by rw[hW0,hn];exact qF _ _ (by simp)
 have K0:=hid k0;have K1:=hid k1;have B0:=hid bW0;have L0:=hid (HL.out.pure bW0);have S0:=hid (HS.out.pure bW0);have V0:=hid (HV.out.pure bW0);have F0:=hid (show ∀g,F g→g<W0.heap.size from λg hg=>Nat.lt_of_lt_of_le (HF.out g hg) bW0.size);rw[← hW0,← hn];clear hW0 hn k0 k1 bW0;refine(show Calls Tryz.prog 7 #[.agg #[.int .i64 s.clock,.int .i64 s.fee,.int .i64 s.nextO,.int .i64 s.nextA,.slice sa4 s.accts.length sc4,.slice sa5 s.insts.length sc5,.slice sa6 s.rows.length sc6,.slice sa7 s.ords.length sc7,.slice sa8 s.aucs.length sc8],.agg #[.slice da0 v.open_.length dc0,.slice da1 v.lots.length dc1,.slice da2 v.poss.length dc2,.slice da3 v.lins.length dc3]] W0 _ from yP F F W0 ⟨.slice sa4 s.accts.length sc4,.slice sa5 s.insts.length sc5,.slice sa6 s.rows.length sc6,.slice sa7 s.ords.length sc7,.slice sa8 s.aucs.length sc8⟩ ⟨.slice da0 v.open_.length dc0,.slice da1 v.lots.length dc1,.slice da2 v.poss.length dc2,.slice da3 v.lins.length dc3⟩ s v S0.out V0.out HI.out HVI.out).mono ?_;rintro e w1 ⟨⟨b,rfl,hsm⟩,hb1⟩;have B1:=hid hb1;have HSM:=hid hsm;clear hb1 hsm;cases b;rotate_left
 ·go_wp2_with fail
  refine(nT w1 (L0.out.pure B1.out)).mono ?_;rintro e w2 ⟨rfl,hb2⟩;have B2:=hid (cZ B0.out (cZ B1.out hb2));clear hb2;go_wp2;go_ret;exact⟨rfl,B2.out⟩
 have SM:=hid (HSM.out rfl);have LS:=hid (HI.out.lim SM.out);have LV:=hid (HVI.out.lim);clear HSM
 go_wp2_with fail
 refine(nT w1 (L0.out.pure B1.out)).mono ?_;rintro e w2 ⟨rfl,hb2⟩;have B2:=hid (cZ B1.out hb2);clear hb2 B1
 go_wp2_with fail
 refine(zF W0 w2 B2.out).mono ?_;rintro e w3 ⟨p,b,rfl,o3⟩;have O3:=hid o3;have S3:=hid (S0.out.pure o3.below);have V3:=hid (V0.out.pure o3.below);have r0:=(o3.below.block _ (lt_of_block K0.out)).trans K0.out;have r1:=(o3.below.block _ (lt_of_block K1.out)).trans K1.out;obtain⟨c0,c1,c2,c3,c4,c5,c6,c7,c8⟩:=ma (r0);obtain⟨e0,e1,e2,e3⟩:=me (r1);have HWR:=hid (zA O3.out L0.out seq F ⟨.slice sa4 s.accts.length sc4,.slice sa5 s.insts.length sc5,.slice sa6 s.rows.length sc6,.slice sa7 s.ords.length sc7,.slice sa8 s.aucs.length sc8⟩ ⟨.slice da0 v.open_.length dc0,.slice da1 v.lots.length dc1,.slice da2 v.poss.length dc2,.slice da3 v.lins.length dc3⟩ s v S3.out V3.out (λg hg=>Nat.lt_of_lt_of_le (F0.out g hg) o3.below.size) LS.out LV.out SM.out);clear o3 r0 r1 B2;unfold km kn at HWR;dsimp only at HWR;by_cases hc:(xm seq s v).2=0;rotate_left
 ·rw[zz hc]at HWR
  dsimp only at HWR;obtain⟨cd,hcd⟩:∃cd,cd=(xm seq s v).2:=⟨_,rfl⟩;rw[← hcd]at HWR hc;have q1:(cd == 0)=false:=by simpa using hc
  have q2:(cd != 0)=true:=by simpa using hc
  clear hcd hc
  go_wp2_with fail
  refine HWR.out.mono ?_;rintro e w4 ⟨rfl,o4⟩;have O4:=hid o4;clear o4 HWR c0 c1 c2 c3 c4 c5 c6 c7 c8 e0 e1 e2 e3;have HRD:=hid (zD O4.out L0.out seq);have hg:=xG seq;obtain⟨⟨S2,V2,g⟩,hA⟩:∃A,A=wR seq (fH sbS (gJ seq)):=⟨_,rfl⟩;rw[← hA]at HRD hg;dsimp only at hg;have g1:(g == 0)=false:=by simpa using hg
  have g2:(g != 0)=true:=by simpa using hg
  clear hA hg
  go_wp2_with fail
  refine HRD.out.mono ?_;rintro e w5 ⟨⟨sv2,dv2,rfl,hst,hvt⟩,hb5⟩;dsimp only at hst hvt ⊢;obtain⟨x4,x5,x6,x7,x8⟩:=sv2;obtain⟨xa4,xm4,xc4,rfl⟩:∃a m c,x4=Value.slice a m c:=by obtain⟨a,c,h⟩:=hst.a.shape;exact⟨a,_,c,h⟩
  obtain⟨xa5,xm5,xc5,rfl⟩:∃a m c,x5=Value.slice a m c:=by obtain⟨a,c,h⟩:=hst.i.shape;exact⟨a,_,c,h⟩
  obtain⟨xa6,xm6,xc6,rfl⟩:∃a m c,x6=Value.slice a m c:=by obtain⟨a,c,h⟩:=hst.r.shape;exact⟨a,_,c,h⟩
  obtain⟨xa7,xm7,xc7,rfl⟩:∃a m c,x7=Value.slice a m c:=by obtain⟨a,c,h⟩:=hst.o.shape;exact⟨a,_,c,h⟩
  obtain⟨xa8,xm8,xc8,rfl⟩:∃a m c,x8=Value.slice a m c:=by obtain⟨a,c,h⟩:=hst.u.shape;exact⟨a,_,c,h⟩
  obtain⟨y0,y1,y2,y3⟩:=dv2;obtain⟨ya0,ym0,yc0,rfl⟩:∃a m c,y0=Value.slice a m c:=by obtain⟨a,c,h⟩:=hvt.o.shape;exact⟨a,_,c,h⟩
  obtain⟨ya1,ym1,yc1,rfl⟩:∃a m c,y1=Value.slice a m c:=by obtain⟨a,c,h⟩:=hvt.l.shape;exact⟨a,_,c,h⟩
  obtain⟨ya2,ym2,yc2,rfl⟩:∃a m c,y2=Value.slice a m c:=by obtain⟨a,c,h⟩:=hvt.p.shape;exact⟨a,_,c,h⟩
  obtain⟨ya3,ym3,yc3,rfl⟩:∃a m c,y3=Value.slice a m c:=by obtain⟨a,c,h⟩:=hvt.n.shape;exact⟨a,_,c,h⟩
  have O5:=hid (O4.out.pure hb5);clear hb5 hst hvt O4 HRD;unfold km kn;dsimp only
  go_wp2_with fail
  obtain⟨W6,hW6⟩:∃W,W=(w5.alloc (.cells #[.int .i64 S2.clock,.int .i64 S2.fee,.int .i64 S2.nextO,.int .i64 S2.nextA,.slice xa4 xm4 xc4,.slice xa5 xm5 xc5,.slice xa6 xm6 xc6,.slice xa7 xm7 xc7,.slice xa8 xm8 xc8] 29)).alloc (.cells #[.slice ya0 ym0 yc0,.slice ya1 ym1 yc1,.slice ya2 ym2 yc2,.slice ya3 ym3 yc3] 35):=⟨_,rfl⟩;have bW6:Below w5.heap.size w5 W6:=by rw[hW6];exact((Below.refl _ _).alloc (Nat.le_refl _) _).alloc (by simp) _
  have O6:=hid (O5.out.pure bW6);rw[← hW6];clear hW6 bW6 O5;refine(mO W6 p b sbS O6.out.dk).mono ?_;rintro e w7 ⟨fv,rfl,hown,_,hb7⟩;obtain⟨fa,fc,rfl⟩:=hown.at.shape;have O7:=hid (O6.out.pure hb7);clear hb7 hown O6
  go_wp2_with fail
  refine(eA w7 p b sbS O7.out.dk).mono ?_;rintro e w8 ⟨rfl,hb8⟩;have O8:=hid (O7.out.pure hb8);clear hb8 O7;rw[show(dU sbS.fs:Int)=0 from rfl];go_wp2;go_ret;exact⟨by first|rfl|decide,cZ B0.out O8.out.below⟩
 obtain⟨q,L,rfl,hq,hRq,_,hrb,hL,_,_⟩:=xx hc;rw[hRq,xE hq (show(iH q L).length≤1048576 from by rw[xy];omega)]at HWR;dsimp only at HWR;obtain⟨st4,hst4⟩:∃st4,st4=sbF (gJ (q:Int)) (iH q L):=⟨_,rfl⟩;rw[← hst4]at HWR;have HRQ:=hid (show wR (q:Int) (fH st4 (gJ (q:Int)))=(s,v,0)from by rw[hst4];exact xI hq hL hrb);have HRO:=hid (show(wR other (fH st4 (gJ other))).2.2=0↔(q:Int)=other from by rw[hst4];exact xJ hq hL hrb other);have HFS:=hid (show st4.fs=[⟨gJ (q:Int),iH q L,[]⟩]from by rw[hst4];rfl);have HST4:=hid hst4;have HQL:=hid (And.intro hq (And.intro hL hrb));clear hc hRq hst4 hq hL hrb
 go_wp2_with fail
 refine HWR.out.mono ?_;rintro e w4 ⟨rfl,o4⟩;have O4:=hid o4;have HRD:=hid (zD o4 L0.out (q:Int));rw[HRQ.out]at HRD;clear o4 HWR c0 c1 c2 c3 c4 c5 c6 c7 c8 e0 e1 e2 e3
 go_wp2_with fail
 refine HRD.out.mono ?_;rintro e w5 ⟨⟨sv2,dv2,rfl,hst,hvt⟩,hb5⟩;dsimp only at hst hvt ⊢;obtain⟨t4,t5,t6,t7,t8⟩:=sv2;obtain⟨ta4,tc4,rfl⟩:=hst.a.shape;obtain⟨ta5,tc5,rfl⟩:=hst.i.shape;obtain⟨ta6,tc6,rfl⟩:=hst.r.shape;obtain⟨ta7,tc7,rfl⟩:=hst.o.shape;obtain⟨ta8,tc8,rfl⟩:=hst.u.shape;obtain⟨u0,u1,u2,u3⟩:=dv2;obtain⟨ua0,uc0,rfl⟩:=hvt.o.shape;obtain⟨ua1,uc1,rfl⟩:=hvt.l.shape;obtain⟨ua2,uc2,rfl⟩:=hvt.p.shape;obtain⟨ua3,uc3,rfl⟩:=hvt.n.shape;have O5:=hid (O4.out.pure hb5);have T5:=hid hst;have U5:=hid hvt;clear hb5 hst hvt O4 HRD;unfold km kn;dsimp only
 go_wp2_with fail
 obtain⟨W6,hW6⟩:∃W,W=(w5.alloc (.cells #[.int .i64 s.clock,.int .i64 s.fee,.int .i64 s.nextO,.int .i64 s.nextA,.slice ta4 s.accts.length tc4,.slice ta5 s.insts.length tc5,.slice ta6 s.rows.length tc6,.slice ta7 s.ords.length tc7,.slice ta8 s.aucs.length tc8] 29)).alloc (.cells #[.slice ua0 v.open_.length uc0,.slice ua1 v.lots.length uc1,.slice ua2 v.poss.length uc2,.slice ua3 v.lins.length uc3] 35):=⟨_,rfl⟩;have bW6:Below w5.heap.size w5 W6:=by rw[hW6];exact((Below.refl _ _).alloc (Nat.le_refl _) _).alloc (by simp) _
 have k6:W6.heap[w5.heap.size]?=some (.cells #[.int .i64 s.clock,.int .i64 s.fee,.int .i64 s.nextO,.int .i64 s.nextA,.slice ta4 s.accts.length tc4,.slice ta5 s.insts.length tc5,.slice ta6 s.rows.length tc6,.slice ta7 s.ords.length tc7,.slice ta8 s.aucs.length tc8] 29 (0,0)):=by rw[hW6];exact(Below.heap_alloc _ _ _ (by simp)).trans (heap_alloc_new _ _)
 have j6:W6.heap[w5.heap.size+1]?=some (.cells #[.slice ua0 v.open_.length uc0,.slice ua1 v.lots.length uc1,.slice ua2 v.poss.length uc2,.slice ua3 v.lins.length uc3] 35 (0,0)):=by rw[hW6];exact qF _ _ (by simp)
 have O6:=hid (O5.out.pure bW6);have T6:=hid (T5.out.pure bW6);have U6:=hid (U5.out.pure bW6);have K6:=hid k6;have J6:=hid j6;obtain⟨m5,hm5⟩:∃m5,m5=w5.heap.size:=⟨_,rfl⟩;rw[← hW6];rw[← hm5]at K6 J6
 try rw[← hm5]
 clear hW6 bW6 O5 T5 U5 k6 j6 hm5;have HRD:=hid (zD O6.out L0.out other);obtain⟨⟨S3x,V3x,h⟩,hA⟩:∃A,A=wR other (fH st4 (gJ other)):=⟨_,rfl⟩;rw[← hA]at HRD HRO;dsimp only at HRO;clear hA;refine HRD.out.mono ?_;rintro e w7 ⟨⟨sv3,dv3,rfl,hst,hvt⟩,hb7⟩;dsimp only at hst hvt ⊢;obtain⟨x4,x5,x6,x7,x8⟩:=sv3;obtain⟨xa4,xm4,xc4,rfl⟩:∃a m c,x4=Value.slice a m c:=by obtain⟨a,c,h⟩:=hst.a.shape;exact⟨a,_,c,h⟩
 obtain⟨xa5,xm5,xc5,rfl⟩:∃a m c,x5=Value.slice a m c:=by obtain⟨a,c,h⟩:=hst.i.shape;exact⟨a,_,c,h⟩
 obtain⟨xa6,xm6,xc6,rfl⟩:∃a m c,x6=Value.slice a m c:=by obtain⟨a,c,h⟩:=hst.r.shape;exact⟨a,_,c,h⟩
 obtain⟨xa7,xm7,xc7,rfl⟩:∃a m c,x7=Value.slice a m c:=by obtain⟨a,c,h⟩:=hst.o.shape;exact⟨a,_,c,h⟩
 obtain⟨xa8,xm8,xc8,rfl⟩:∃a m c,x8=Value.slice a m c:=by obtain⟨a,c,h⟩:=hst.u.shape;exact⟨a,_,c,h⟩
 obtain⟨y0,y1,y2,y3⟩:=dv3;obtain⟨ya0,ym0,yc0,rfl⟩:∃a m c,y0=Value.slice a m c:=by obtain⟨a,c,h⟩:=hvt.o.shape;exact⟨a,_,c,h⟩
 obtain⟨ya1,ym1,yc1,rfl⟩:∃a m c,y1=Value.slice a m c:=by obtain⟨a,c,h⟩:=hvt.l.shape;exact⟨a,_,c,h⟩
 obtain⟨ya2,ym2,yc2,rfl⟩:∃a m c,y2=Value.slice a m c:=by obtain⟨a,c,h⟩:=hvt.p.shape;exact⟨a,_,c,h⟩
 obtain⟨ya3,ym3,yc3,rfl⟩:∃a m c,y3=Value.slice a m c:=by obtain⟨a,c,h⟩:=hvt.n.shape;exact⟨a,_,c,h⟩
 have O7:=hid (O6.out.pure hb7);have B7:=hid hb7;clear hb7 hst hvt HRD;unfold km kn;dsimp only
 go_wp2_with fail
 obtain⟨W8,hW8⟩:∃W,W=(w7.alloc (.cells #[.int .i64 S3x.clock,.int .i64 S3x.fee,.int .i64 S3x.nextO,.int .i64 S3x.nextA,.slice xa4 xm4 xc4,.slice xa5 xm5 xc5,.slice xa6 xm6 xc6,.slice xa7 xm7 xc7,.slice xa8 xm8 xc8] 29)).alloc (.cells #[.slice ya0 ym0 yc0,.slice ya1 ym1 yc1,.slice ya2 ym2 yc2,.slice ya3 ym3 yc3] 35):=⟨_,rfl⟩;have bW8:Below w7.heap.size w7 W8:=by rw[hW8];exact((Below.refl _ _).alloc (Nat.le_refl _) _).alloc (by simp) _
 have O8:=hid (O7.out.pure bW8);have B8:=hid (cZ B7.out bW8);rw[← hW8];clear hW8 bW8 O7 B7;refine(mO W8 p b st4 O8.out.dk).mono ?_;rintro e w9 ⟨fv,rfl,hown,_,hb9⟩;have hat:=hown.at;rw[HFS.out]at hat;obtain⟨fa,fc,rfl⟩:=hat.shape;obtain⟨fb,fo,rfl,hfl,fx,fy,fz,e1,e2,e3,h1,h2,h3⟩:=hat.at 0 (by simp);obtain⟨NM,hNM⟩:∃NM:ByteArray,NM=⟨(gJ (q:Int)).toArray⟩:=⟨_,rfl⟩;have hfx:fx=NM:=ap (by rw[e1,hNM];simp);have hfz:fz=⟨#[]⟩:=ap (by rw[e3];simp);subst hfx hfz;have O9:=hid (O8.out.pure hb9);have B9:=hid (cZ B8.out hb9);have HNM:=hid hNM;clear hb9 hown hat e1 e2 e3 O8 B8 hNM h2;simp only[Nat.zero_mul,Nat.add_zero]at h1 h3
 go_wp2_with fail
 have T9:=hid (T6.out.pure B9.out);have U9:=hid (U6.out.pure B9.out);have S9:=hid (S0.out.pure O9.out.below);have V9:=hid (V0.out.pure O9.out.below);have r0:=(O9.out.below.block _ (lt_of_block K0.out)).trans K0.out;have r1:=(O9.out.below.block _ (lt_of_block K1.out)).trans K1.out;have r6:=(B9.out.block _ (lt_of_block K6.out)).trans K6.out;have s6:=(B9.out.block _ (lt_of_block J6.out)).trans J6.out;have c0:=cell_regrown ((cell_of_row _ n 0 _ _ _ (r0)).trans (show _=some (.int .i64 s.clock)from rfl));have c1:=cell_regrown ((cell_of_row _ n 1 _ _ _ (r0)).trans (show _=some (.int .i64 s.fee)from rfl));have c2:=cell_regrown ((cell_of_row _ n 2 _ _ _ (r0)).trans (show _=some (.int .i64 s.nextO)from rfl));have c3:=cell_regrown ((cell_of_row _ n 3 _ _ _ (r0)).trans (show _=some (.int .i64 s.nextA)from rfl));have c4:=cell_regrown ((cell_of_row _ n 4 _ _ _ (r0)).trans (show _=some (.slice sa4 s.accts.length sc4)from rfl));have c5:=cell_regrown ((cell_of_row _ n 5 _ _ _ (r0)).trans (show _=some (.slice sa5 s.insts.length sc5)from rfl));have c6:=cell_regrown ((cell_of_row _ n 6 _ _ _ (r0)).trans (show _=some (.slice sa6 s.rows.length sc6)from rfl));have c7:=cell_regrown ((cell_of_row _ n 7 _ _ _ (r0)).trans (show _=some (.slice sa7 s.ords.length sc7)from rfl));have c8:=cell_regrown ((cell_of_row _ n 8 _ _ _ (r0)).trans (show _=some (.slice sa8 s.aucs.length sc8)from rfl));have e0:=cell_regrown ((cell_of_row _ (n+1) 0 _ _ _ (r1)).trans (show _=some (.slice da0 v.open_.length dc0)from rfl));have e1:=cell_regrown ((cell_of_row _ (n+1) 1 _ _ _ (r1)).trans (show _=some (.slice da1 v.lots.length dc1)from rfl));have e2:=cell_regrown ((cell_of_row _ (n+1) 2 _ _ _ (r1)).trans (show _=some (.slice da2 v.poss.length dc2)from rfl));have e3:=cell_regrown ((cell_of_row _ (n+1) 3 _ _ _ (r1)).trans (show _=some (.slice da3 v.lins.length dc3)from rfl));have t0:=cell_regrown ((cell_of_row _ m5 0 _ _ _ (r6)).trans (show _=some (.int .i64 s.clock)from rfl));have t1:=cell_regrown ((cell_of_row _ m5 1 _ _ _ (r6)).trans (show _=some (.int .i64 s.fee)from rfl));have t2:=cell_regrown ((cell_of_row _ m5 2 _ _ _ (r6)).trans (show _=some (.int .i64 s.nextO)from rfl));have t3:=cell_regrown ((cell_of_row _ m5 3 _ _ _ (r6)).trans (show _=some (.int .i64 s.nextA)from rfl));have t4:=cell_regrown ((cell_of_row _ m5 4 _ _ _ (r6)).trans (show _=some (.slice ta4 s.accts.length tc4)from rfl));have t5:=cell_regrown ((cell_of_row _ m5 5 _ _ _ (r6)).trans (show _=some (.slice ta5 s.insts.length tc5)from rfl));have t6:=cell_regrown ((cell_of_row _ m5 6 _ _ _ (r6)).trans (show _=some (.slice ta6 s.rows.length tc6)from rfl));have t7:=cell_regrown ((cell_of_row _ m5 7 _ _ _ (r6)).trans (show _=some (.slice ta7 s.ords.length tc7)from rfl));have t8:=cell_regrown ((cell_of_row _ m5 8 _ _ _ (r6)).trans (show _=some (.slice ta8 s.aucs.length tc8)from rfl));have u0:=cell_regrown ((cell_of_row _ (m5+1) 0 _ _ _ (s6)).trans (show _=some (.slice ua0 v.open_.length uc0)from rfl));have u1:=cell_regrown ((cell_of_row _ (m5+1) 1 _ _ _ (s6)).trans (show _=some (.slice ua1 v.lots.length uc1)from rfl));have u2:=cell_regrown ((cell_of_row _ (m5+1) 2 _ _ _ (s6)).trans (show _=some (.slice ua2 v.poss.length uc2)from rfl));have u3:=cell_regrown ((cell_of_row _ (m5+1) 3 _ _ _ (s6)).trans (show _=some (.slice ua3 v.lins.length uc3)from rfl));have f0:=cell_regrown h1;have f2:=cell_regrown h3;have F0x:=hid h1;have HSH:=hid (SM.out.st);have HVH:=hid (SM.out.vw);have z1:∀d os,Calls Tryz.prog 13 #[.agg #[.int .i64 s.clock,.int .i64 s.fee,.int .i64 s.nextO,.int .i64 s.nextA,.slice ta4 s.accts.length tc4,.slice ta5 s.insts.length tc5,.slice ta6 s.rows.length tc6,.slice ta7 s.ords.length tc7,.slice ta8 s.aucs.length tc8],.agg #[.int .i64 s.clock,.int .i64 s.fee,.int .i64 s.nextO,.int .i64 s.nextA,.slice sa4 s.accts.length sc4,.slice sa5 s.insts.length sc5,.slice sa6 s.rows.length sc6,.slice sa7 s.ords.length sc7,.slice sa8 s.aucs.length sc8]] (grow (redrawn w9 d) os) λe w''=>e = .returned (.bool true)∧∃p:Regrown,w''=grow (redrawn w9 p.d) p.os:=λd os=>Calls.regrown_of ((zw _ F _ ⟨.slice ta4 s.accts.length tc4,.slice ta5 s.insts.length tc5,.slice ta6 s.rows.length tc6,.slice ta7 s.ords.length tc7,.slice ta8 s.aucs.length tc8⟩ ⟨.slice sa4 s.accts.length sc4,.slice sa5 s.insts.length sc5,.slice sa6 s.rows.length sc6,.slice sa7 s.ords.length sc7,.slice sa8 s.aucs.length sc8⟩ s s (T9.out.pure (below_regrown w9 d os)) (S9.out.pure (below_regrown w9 d os)) HSH.out HSH.out).mono (λe w' h=>⟨TB.pos rfl h.1,h.2⟩));have z2:∀d os,Calls Tryz.prog 14 #[.agg #[.slice ua0 v.open_.length uc0,.slice ua1 v.lots.length uc1,.slice ua2 v.poss.length uc2,.slice ua3 v.lins.length uc3],.agg #[.slice da0 v.open_.length dc0,.slice da1 v.lots.length dc1,.slice da2 v.poss.length dc2,.slice da3 v.lins.length dc3]] (grow (redrawn w9 d) os) λe w''=>e = .returned (.bool true)∧∃p:Regrown,w''=grow (redrawn w9 p.d) p.os:=λd os=>Calls.regrown_of ((zx _ F _ ⟨.slice ua0 v.open_.length uc0,.slice ua1 v.lots.length uc1,.slice ua2 v.poss.length uc2,.slice ua3 v.lins.length uc3⟩ ⟨.slice da0 v.open_.length dc0,.slice da1 v.lots.length dc1,.slice da2 v.poss.length dc2,.slice da3 v.lins.length dc3⟩ v v (U9.out.pure (below_regrown w9 d os)) (V9.out.pure (below_regrown w9 d os)) HVH.out HVH.out).mono (λe w' h=>⟨TB.pos rfl h.1,h.2⟩));have z3:∀d os,Calls Tryz.prog 19 #[.int .i64 (q:Int)] (grow (redrawn w9 d) os) λe w''=>e = .returned (.string fx)∧∃p:Regrown,w''=grow (redrawn w9 p.d) p.os:=λd os=>Calls.regrown_of ((mD _ (gi (below_regrown w9 d os) (O9.out.lz L0.out).1.pow) (q:Int)).mono (λe w' h=>by
  obtain⟨⟨r,hr,he⟩,hb⟩:=h;refine⟨?_,hb⟩;rw[he,show r=fx from ap (by rw[hr,HNM.out])]))
 have y1:(fx.toList == fx.toList)=true:=by simp
 have y2:(fx.toList != fx.toList)=false:=by simp
 have hi0:(0:Int)<1:=by decide
 clear r0 r1 r6 s6 h1 h3;obtain⟨bo,hbo⟩:∃bo:Bool,bo=decide ((q:Int)=other):=⟨_,rfl⟩;have y3:((q:Int) == other)=bo:=by rw[hbo];exact Bool.eq_iff_iff.2 (by simp)
 have y4:(h == 0)=bo:=by
  rw[hbo];exact Bool.eq_iff_iff.2 (by simp only[beq_iff_eq,decide_eq_true_eq];exact HRO.out)
 have HBO:=hid hbo;clear hbo;cases bo
 ·refine wp_region_quiet_below (by kernel_rfl) (by kernel_rfl) ?_
  repeat (go_big_quiet_step (first|with_reducible exact z1 _ _|with_reducible exact z2 _ _|with_reducible exact z3 _ _))
  refine wpQuiet_nil ?_;intro _ hw';obtain⟨⟨dq,osq⟩,hw''⟩:=hw';subst hw'';have B10:=hid (below_regrown w9 dq osq)
  generalize grow (redrawn w9 dq) osq=w10 at *
  have O10:=hid (O9.out.pure B10.out);have f10:=(B10.out.cell (block_lt_of_cell F0x.out)).trans F0x.out
  go_wp2_with fail
  refine(mH w10 (O10.out.lz L0.out).1 fx (by rw[HNM.out];have:=nF (q:Int);show Array.size _≤_;simp;omega)).mono ?_;rintro e w11 ⟨⟨r11,hr11,rfl⟩,hb11⟩;have O11:=hid (O10.out.pure hb11);clear hb11 O10 f10 B10;have hnq:fx.data.toList=gJ (q:Int):=by rw[HNM.out]
  rw[hnq]at hr11
  rcases hr11 with⟨n1,hn1,hs1,rfl⟩|⟨hno,rfl⟩
  rotate_left
  ·exact absurd ⟨q,HQL.out.1,rfl⟩ hno
  obtain rfl:q=n1:=gN HQL.out.1 hn1 hs1;clear hs1 hn1 hnq;have y8:((q:Int) != (q:Int))=false:=by simp
  go_wp2_with fail
  refine(mD w11 (O11.out.lz L0.out).1.pow other).mono ?_;rintro e w12 ⟨⟨r12,hr12,rfl⟩,hb12⟩;have O12:=hid (O11.out.pure hb12);clear hb12 O11;have hne:(q:Int)≠other:=λe=>by have:=HBO.out;rw[e]at this;simp at this
  have y5:(other == (q:Int))=false:=by rw[beq_eq_false_iff_ne];exact λe=>hne e.symm
  by_cases hon:0≤other∧other≤1048576;rotate_left
  ·have hem:gJ other=[]:=by unfold gJ;rw[if_neg hon]
   have he12:(gJ other == [])=true:=by rw[hem];rfl
   have hf12:(gJ other).isEmpty=true:=by rw[hem];rfl
   have y6:(r12.toList == [])=true:=by rw[ByteArray.toList_eq,hr12];exact he12
   have y7:r12.toList.isEmpty=true:=by rw[ByteArray.toList_eq,hr12];exact hf12
   clear he12 hf12;clear hem hon hne;go_wp2;go_ret;exact⟨by first|rfl|trivial,cZ B0.out O12.out.below⟩
  obtain⟨o,rfl⟩:∃o:Nat,other=(o:Int):=⟨other.toNat,by omega⟩;have ho:o≤1048576:=by omega
  have he12:(gJ (o:Int) == [])=false:=by rw[gL o ho];rfl
  have hf12:(gJ (o:Int)).isEmpty=false:=by rw[gL o ho];rfl
  have y6:(r12.toList == [])=false:=by rw[ByteArray.toList_eq,hr12];exact he12
  have y7:r12.toList.isEmpty=false:=by rw[ByteArray.toList_eq,hr12];exact hf12
  clear he12 hf12;have HO:=hid (And.intro ho (show q≠o from λe=>hne (by rw[e])));clear hon hne ho
  go_wp2_with fail
  refine(mD w12 (O12.out.lz L0.out).1.pow (q:Int)).mono ?_;rintro e w13 ⟨⟨r13,hr13,rfl⟩,hb13⟩;have O13:=hid (O12.out.pure hb13);clear hb13 O12
  go_wp2_with fail
  refine(mD w13 (O13.out.lz L0.out).1.pow (o:Int)).mono ?_;rintro e w14 ⟨⟨r14,hr14,rfl⟩,hb14⟩;have O14:=hid (O13.out.pure hb14);clear hb14 O13;have hz13:r13.size≤9223372036854775807:=by rw[aq hr13];have:=nF (q:Int);omega
  have hz14:r14.size≤9223372036854775807:=by rw[aq hr14];have:=nF (o:Int);omega
  have HRN:=hid (fR w14 p b st4 O14.out.dk r13 r14 hz13 hz14);rw[hr13,hr14,HST4.out,xK HO.out.1 HQL.out.1 HO.out.2]at HRN;clear hz13 hz14
  go_wp2_with fail
  refine HRN.out.mono ?_;rintro e w15 ⟨rfl,hd15,hf15⟩;have O15:=hid (O14.out.op hd15 hf15);clear hd15 hf15 O14 HRN;have HRD:=hid (zD O15.out L0.out (o:Int));have hwr:=xL HO.out.1 HQL.out.1 HO.out.2 HQL.out.2.1 HQL.out.2.2;obtain⟨⟨S4,V4,g4⟩,hA⟩:∃A,A=wR (o:Int) (fH (sbF (gJ (o:Int)) (iH q L)) (gJ (o:Int))):=⟨_,rfl⟩;rw[← hA]at HRD hwr;dsimp only at hwr;subst hwr;clear hA;dsimp only
  go_wp2_with fail
  refine HRD.out.mono ?_;rintro e w16 ⟨⟨sv4,dv4,rfl,hst,hvt⟩,hb16⟩;dsimp only at hst hvt ⊢;obtain⟨z4,z5,z6,z7,z8⟩:=sv4;obtain⟨za4,zm4,zc4,rfl⟩:∃a m c,z4=Value.slice a m c:=by obtain⟨a,c,h⟩:=hst.a.shape;exact⟨a,_,c,h⟩
  obtain⟨za5,zm5,zc5,rfl⟩:∃a m c,z5=Value.slice a m c:=by obtain⟨a,c,h⟩:=hst.i.shape;exact⟨a,_,c,h⟩
  obtain⟨za6,zm6,zc6,rfl⟩:∃a m c,z6=Value.slice a m c:=by obtain⟨a,c,h⟩:=hst.r.shape;exact⟨a,_,c,h⟩
  obtain⟨za7,zm7,zc7,rfl⟩:∃a m c,z7=Value.slice a m c:=by obtain⟨a,c,h⟩:=hst.o.shape;exact⟨a,_,c,h⟩
  obtain⟨za8,zm8,zc8,rfl⟩:∃a m c,z8=Value.slice a m c:=by obtain⟨a,c,h⟩:=hst.u.shape;exact⟨a,_,c,h⟩
  obtain⟨k0,k1,k2,k3⟩:=dv4;obtain⟨ka0,km0,kc0,rfl⟩:∃a m c,k0=Value.slice a m c:=by obtain⟨a,c,h⟩:=hvt.o.shape;exact⟨a,_,c,h⟩
  obtain⟨ka1,km1,kc1,rfl⟩:∃a m c,k1=Value.slice a m c:=by obtain⟨a,c,h⟩:=hvt.l.shape;exact⟨a,_,c,h⟩
  obtain⟨ka2,km2,kc2,rfl⟩:∃a m c,k2=Value.slice a m c:=by obtain⟨a,c,h⟩:=hvt.p.shape;exact⟨a,_,c,h⟩
  obtain⟨ka3,km3,kc3,rfl⟩:∃a m c,k3=Value.slice a m c:=by obtain⟨a,c,h⟩:=hvt.n.shape;exact⟨a,_,c,h⟩
  have O16:=hid (O15.out.pure hb16);clear hb16 hst hvt O15 HRD;unfold km kn;dsimp only;go_wp2;obtain⟨W17,hW17⟩:∃W,W=(w16.alloc (.cells #[.int .i64 S4.clock,.int .i64 S4.fee,.int .i64 S4.nextO,.int .i64 S4.nextA,.slice za4 zm4 zc4,.slice za5 zm5 zc5,.slice za6 zm6 zc6,.slice za7 zm7 zc7,.slice za8 zm8 zc8] 29)).alloc (.cells #[.slice ka0 km0 kc0,.slice ka1 km1 kc1,.slice ka2 km2 kc2,.slice ka3 km3 kc3] 35):=⟨_,rfl⟩;have bW17:Below w16.heap.size w16 W17:=by rw[hW17];exact((Below.refl _ _).alloc (Nat.le_refl _) _).alloc (by simp) _
  go_ret
  try rw[← hW17]
  exact⟨by first|rfl|trivial,cZ B0.out (O16.out.pure bW17).below⟩
 ·refine wp_region_quiet_below (by kernel_rfl) (by kernel_rfl) ?_
  repeat (go_big_quiet_step (first|with_reducible exact z1 _ _|with_reducible exact z2 _ _|with_reducible exact z3 _ _))
  refine wpQuiet_nil ?_;intro _ hw';obtain⟨⟨dq,osq⟩,hw''⟩:=hw';subst hw'';have B10:=hid (below_regrown w9 dq osq)
  generalize grow (redrawn w9 dq) osq=w10 at *
  have O10:=hid (O9.out.pure B10.out);have f10:=(B10.out.cell (block_lt_of_cell F0x.out)).trans F0x.out
  go_wp2_with fail
  refine(mH w10 (O10.out.lz L0.out).1 fx (by rw[HNM.out];have:=nF (q:Int);show Array.size _≤_;simp;omega)).mono ?_;rintro e w11 ⟨⟨r11,hr11,rfl⟩,hb11⟩;have O11:=hid (O10.out.pure hb11);clear hb11 O10 f10 B10;have hnq:fx.data.toList=gJ (q:Int):=by rw[HNM.out]
  rw[hnq]at hr11
  rcases hr11 with⟨n1,hn1,hs1,rfl⟩|⟨hno,rfl⟩
  rotate_left
  ·exact absurd ⟨q,HQL.out.1,rfl⟩ hno
  obtain rfl:q=n1:=gN HQL.out.1 hn1 hs1;clear hs1 hn1 hnq;have y8:((q:Int) != (q:Int))=false:=by simp
  go_wp2_with fail
  refine(mD w11 (O11.out.lz L0.out).1.pow other).mono ?_;rintro e w12 ⟨⟨r12,hr12,rfl⟩,hb12⟩;have O12:=hid (O11.out.pure hb12);clear hb12 O11;have hne:(q:Int)=other:=of_decide_eq_true HBO.out.symm;have y5:(other == (q:Int))=true:=by rw[hne];simp
  have he12:(gJ other == [])=false:=by rw[← hne,gL q HQL.out.1];rfl
  have hf12:(gJ other).isEmpty=false:=by rw[← hne,gL q HQL.out.1];rfl
  have y6:(r12.toList == [])=false:=by rw[ByteArray.toList_eq,hr12];exact he12
  have y7:r12.toList.isEmpty=false:=by rw[ByteArray.toList_eq,hr12];exact hf12
  clear he12 hf12;clear hne;go_wp2;go_ret;exact⟨by first|rfl|trivial,cZ B0.out O12.out.below⟩
end Go.Proofs.YtcmfdhmeanjchaaGreatDoor
namespace Go.Proofs.YtcmfdhmeanjchaaGreatDoor
open Go.ChangeShapes Go.WideShapes Go.ChangeAt Go.RowKit
theorem zH:ownKnob Tryz.prog.godebug=none:=by kernel_rfl
theorem zI {H:Type}{enc:TypeId×Value→H}{P:Program}{w:World}{base fuel:Nat}{spare:Nat→Bool}{held:Bool}{t:TypeId}{cs:List Value}{x:DataW H×List MemPlace}{ms:Array (String×TypeId)}(ht:P.underlying t=some (.interface ms))
  (h:DataW.trod enc P w base spare held fuel t cs=some x):∃ev,cs=[ev]∧(ev = .nilIface∨∃te pe,ev = .iface te pe):=by
 cases fuel with
 | zero=>simp[DataW.trod]at h
 | succ n=>
  unfold DataW.trod at h;rw[ht]at h
  split at h<;>simp_all
theorem zJ {W:World}{n:String}{g:Nat}{cs:Array Value}(hg:Tryz.prog.globalNamed n=some g)(hv:W.var? Tryz.prog n=some cs){fuel:Nat}{x:DataW Unit×List MemPlace}
  (h:DataW.trod (λ_=>()) Tryz.prog W 0 (λ_=>true) false fuel 125 cs.toList=some x):ErrIn W g:=by
 obtain⟨ev,hc,he⟩:=zI Tryz.underlying125 h;unfold World.var? at hv;rw[hg]at hv;simp only[Option.bind_some]at hv;refine⟨ev,?_,he⟩;cases hh:W.heap[g]? with
 | none=>rw[hh]at hv;cases hv
 | some o=>
  rw[hh]at hv;cases o with
  | cells c1 t1 z1=>
   have e:c1=cs:=Option.some.inj hv;subst e;have h0:c1[0]?=some ev:=by rw[← Array.getElem?_toList,hc];rfl
   simp[World.cell?,hh,h0]
  | _=>simp at hv
section
variable {H:Type} {enc:TypeId×Value→H} {P:Program} {w:World} {base:Nat} {spare:Nat→Bool} {held:Bool}
end
section
variable {H:Type} {enc:TypeId×Value→H} {P:Program} {w:World} {base:Nat} {spare:Nat→Bool} {held:Bool}
theorem zK {t0 t1 t2 t3:TypeId}{args:Array Value}{ds:List (DataW H)}{ps:List MemPlace}(h:DataW.TrodAll enc P w base spare held [t0,t1,t2,t3] args.toList ds ps) :
  ∃v0 v1 v2 v3 d0 d1 d2 d3 p0 p1 p2 p3,args=#[v0,v1,v2,v3]∧ds=[d0,d1,d2,d3]∧ps=p0++(p1++(p2++p3))∧DataW.Trod enc P w base spare held t0 v0 d0 p0∧DataW.Trod enc P w base spare held t1 v1 d1 p1∧DataW.Trod enc P w base spare held t2 v2 d2 p2∧DataW.Trod enc P w base spare held t3 v3 d3 p3:=by
 obtain⟨v0,vs0,d0,ds0,p0,q0,hargs,rfl,rfl,h0,r0⟩:=trodAll_cons h;obtain⟨v1,v2,v3,d1,d2,d3,p1,p2,p3,e,rfl,rfl,h1,h2,h3⟩:=trodAll_three (args:=vs0.toArray) (by simpa using r0);have e2:vs0=[v1,v2,v3]:=by simpa using congrArg Array.toList e
 exact⟨v0,v1,v2,v3,d0,d1,d2,d3,p0,p1,p2,p3,by cases args;simp_all,rfl,by simp,h0,h1,h2,h3⟩
end
end Go.Proofs.YtcmfdhmeanjchaaGreatDoor
namespace Go.Proofs.YtcmfdhmeanjchaaGreatDoor
open Go.ChangeShapes Go.WideShapes Go.ChangeAt Go.RowKit
theorem zL {P:Program}{f:FuncId}{fn:Func}{s:ChangeSpec}{c:OpenClaim}
  (k0:c.wf (OpenSpec.ofChange s)=true)
  (k1:laidOutB P=true)
  (k2:mapsRowed P=true)
  (k3:fn.params.all (P.readableRec ·)=true)
  (k4:namedTie P c.named s.vars=true)
  (k5:(c.stops == [])=true)
  (k6:(P.stops == [])=true)
  (k7:(c.knobs == [])=true)
  (k8:(P.stopKnobs == [])=true)
  (k9:(c.inPlace == P.inPlace f)=true)
  (k10:(c.unfollowed == P.unfollowed f)=true)
  (k11:(c.recurses == P.recurses f)=true)
  (k12:(c.named == P.varsNamed f)=true)
  (k13:(c.maps == (fn.params.toList++s.plain.varTypes P).any (P.mapsRec ·))=true)
  (k14:(c.ifaces == (fn.params.toList++s.plain.varTypes P).any (P.ifacesRec ·))=true)
  (k15:(c.mapsOut == P.mapsAmong fn.resultTypes.toList)=true)
  (k16:(c.loops == (fn.params.toList++s.plain.varTypes P).any (P.loopsFrom ·))=true)
  (k17:(c.wideKeys == (fn.params.toList++s.plain.varTypes P++fn.resultTypes.toList).any (P.wideKeysFrom ·))=true)
  (k18:s.vars.all (P.varReadable ·)=true)
  (k19:fn.resultTypes.all (λt=>P.readableRec t && decide (t<P.types.size))=true)
  (k20:(c.ifacesOut == fn.resultTypes.toList.any (P.ifacesRec ·))=true)
  (k21:(c.loopsOut == fn.resultTypes.toList.any (P.loopsFrom ·))=true)
  (k22:(c.plainKeys == P.plainKeys)=true)
  (k23:c.shortTexts.isNone=true)
  (k24:P.stopsHeard=true)
  (k25:P.mayEnter=true)
  (k26:(c.lifted == P.liftsFinal)=true)
  (k27:(P.make == some c.make)=true)
  (k28:(c.kinds == (if c.domain.isEmpty then [] else fn.params.toList.map λt=>match P.underlying t with|some (.int k)=>some k|_=>none))=true)
  (k29:(c.pinned == c.pinnedBy)=true)
  (k30:(c.veiled == (fn.params.toList++s.plain.varTypes P++fn.resultTypes.toList).any (P.veiledRec ·))=true)
  (k31:c.veiledFits P fn.params.toList (fn.params.toList++s.plain.varTypes P++fn.resultTypes.toList)=true)
  : joinedFacts P f fn s c=true:=by
 unfold joinedFacts;simp only[Bool.and_eq_true];exact⟨⟨⟨⟨⟨⟨⟨⟨⟨⟨⟨⟨⟨⟨⟨⟨⟨⟨⟨⟨⟨⟨⟨⟨⟨⟨⟨⟨⟨⟨⟨k0,k1⟩,k2⟩,k3⟩,k4⟩,k5⟩,k6⟩,k7⟩,k8⟩,k9⟩,k10⟩,k11⟩,k12⟩,k13⟩,k14⟩,k15⟩,k16⟩,k17⟩,k18⟩,k19⟩,k20⟩,k21⟩,k22⟩,k23⟩,k24⟩,k25⟩,k26⟩,k27⟩,k28⟩,k29⟩,k30⟩,k31⟩
theorem zM:laidOutB Tryz.prog=true:=by kernel_rfl
theorem zN:Rows.storeBackRow.wf (OpenSpec.ofChange Rows.storeBackSpec)=true:=by kernel_rfl
theorem zO:laidOutB Tryz.pinned.checked.prog=true:=by kernel_rfl
theorem zP:mapsRowed Tryz.pinned.checked.prog=true:=by kernel_rfl
theorem zQ:Tryz.f4.params.all (Tryz.pinned.checked.prog.readableRec ·)=true:=by kernel_rfl
theorem zR:namedTie Tryz.pinned.checked.prog Rows.storeBackRow.named Rows.storeBackSpec.vars=true:=by kernel_rfl
theorem zS:(Rows.storeBackRow.stops == [])=true:=by kernel_rfl
theorem zT:(Tryz.pinned.checked.prog.stops == [])=true:=by kernel_rfl
theorem zU:(Rows.storeBackRow.knobs == [])=true:=by kernel_rfl
theorem zW:(Tryz.pinned.checked.prog.stopKnobs == [])=true:=by kernel_rfl
theorem zX:(Rows.storeBackRow.inPlace == Tryz.pinned.checked.prog.inPlace 4)=true:=by kernel_rfl
theorem zY:(Rows.storeBackRow.unfollowed == Tryz.pinned.checked.prog.unfollowed 4)=true:=by kernel_rfl
theorem zZ:(Rows.storeBackRow.recurses == Tryz.pinned.checked.prog.recurses 4)=true:=by kernel_rfl
theorem Aa:(Rows.storeBackRow.named == Tryz.pinned.checked.prog.varsNamed 4)=true:=by kernel_rfl
theorem Ab:(Rows.storeBackRow.maps == (Tryz.f4.params.toList++Rows.storeBackSpec.plain.varTypes Tryz.pinned.checked.prog).any (Tryz.pinned.checked.prog.mapsRec ·))=true:=by kernel_rfl
theorem Ac:(Rows.storeBackRow.ifaces == (Tryz.f4.params.toList++Rows.storeBackSpec.plain.varTypes Tryz.pinned.checked.prog).any (Tryz.pinned.checked.prog.ifacesRec ·))=true:=by kernel_rfl
theorem Ad:(Rows.storeBackRow.mapsOut == Tryz.pinned.checked.prog.mapsAmong Tryz.f4.resultTypes.toList)=true:=by kernel_rfl
theorem Ae:(Rows.storeBackRow.loops == (Tryz.f4.params.toList++Rows.storeBackSpec.plain.varTypes Tryz.pinned.checked.prog).any (Tryz.pinned.checked.prog.loopsFrom ·))=true:=by kernel_rfl
theorem Af:(Rows.storeBackRow.wideKeys == (Tryz.f4.params.toList++Rows.storeBackSpec.plain.varTypes Tryz.pinned.checked.prog++Tryz.f4.resultTypes.toList).any (Tryz.pinned.checked.prog.wideKeysFrom ·))=true:=by kernel_rfl
theorem Ag:Rows.storeBackSpec.vars.all (Tryz.pinned.checked.prog.varReadable ·)=true:=by kernel_rfl
theorem Ah:Tryz.f4.resultTypes.all (λt=>Tryz.pinned.checked.prog.readableRec t && decide (t<Tryz.pinned.checked.prog.types.size))=true:=by kernel_rfl
theorem Ai:(Rows.storeBackRow.ifacesOut == Tryz.f4.resultTypes.toList.any (Tryz.pinned.checked.prog.ifacesRec ·))=true:=by kernel_rfl
theorem Aj:(Rows.storeBackRow.loopsOut == Tryz.f4.resultTypes.toList.any (Tryz.pinned.checked.prog.loopsFrom ·))=true:=by kernel_rfl
theorem Ak:(Rows.storeBackRow.plainKeys == Tryz.pinned.checked.prog.plainKeys)=true:=by kernel_rfl
theorem Al:Rows.storeBackRow.shortTexts.isNone=true:=by kernel_rfl
theorem Am:Tryz.pinned.checked.prog.stopsHeard=true:=by kernel_rfl
theorem Ao:Tryz.pinned.checked.prog.mayEnter=true:=by kernel_rfl
theorem Ap:(Rows.storeBackRow.lifted == Tryz.pinned.checked.prog.liftsFinal)=true:=by kernel_rfl
theorem Aq:(Tryz.pinned.checked.prog.make == some Rows.storeBackRow.make)=true:=by kernel_rfl
theorem Ar:(Rows.storeBackRow.kinds == (if Rows.storeBackRow.domain.isEmpty then [] else Tryz.f4.params.toList.map λt=>match Tryz.pinned.checked.prog.underlying t with|some (.int k)=>some k|_=>none))=true:=by kernel_rfl
theorem As:(Rows.storeBackRow.pinned == Rows.storeBackRow.pinnedBy)=true:=by kernel_rfl
theorem At:(Rows.storeBackRow.veiled == (Tryz.f4.params.toList++Rows.storeBackSpec.plain.varTypes Tryz.pinned.checked.prog++Tryz.f4.resultTypes.toList).any (Tryz.pinned.checked.prog.veiledRec ·))=true:=by kernel_rfl
theorem Au:Rows.storeBackRow.veiledFits Tryz.pinned.checked.prog Tryz.f4.params.toList (Tryz.f4.params.toList++Rows.storeBackSpec.plain.varTypes Tryz.pinned.checked.prog++Tryz.f4.resultTypes.toList)=true:=by kernel_rfl
theorem Av:Tryz.f4.isInstance Tryz.pinned.checked.prog Rows.storeBackRow.origin Rows.storeBackRow.targs:=of_decide_eq_true (by kernel_rfl)
theorem Aw:Tryz.f4.isWrapper Tryz.pinned.checked.prog Rows.storeBackRow.wrapper Rows.storeBackRow.mainSum:=by unfold Func.isWrapper;rw[if_neg (by decide +kernel)];exact⟨rfl,rfl⟩
theorem Ax:Tryz.pinned.checked.prog.funcNamed Rows.storeBackRow.func=some 4:=by kernel_rfl
theorem Ay:Rows.storeBackRow.wfByText (OpenSpec.ofChange Rows.storeBackSpec)=true:=by kernel_rfl
theorem Az:true=Tryz.pinned.checked.prog.looks []:=by kernel_rfl
theorem AA:false=Rows.storeBackRow.goesBy Tryz.pinned.checked.prog:=by kernel_rfl
theorem storeBack_func:Tryz.prog.funcNamed "souk/souklaw27.StoreBack" = some 4:=by kernel_rfl
end Go.Proofs.YtcmfdhmeanjchaaGreatDoor
