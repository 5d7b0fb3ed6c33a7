/- Arguments that came in; what the errors of the library's variables are. -/
import Derived.Lib.QuietBelow
import Derived.Deep.DeepCutAuto
import Derived.Test.YtaeakdichkhjaaaGreatDoorQBk
import Derived.Test.YtaeakdichkhjaaaGreatDoorQBn
import Derived.Test.YtaeakdichkhjaaaGreatDoorQAk
import Derived.Test.YtaeakdichkhjaaaGreatDoorChecked
import Derived.ProofKit
import Derived.OpenShut
import Derived.LaidMore
import Derived.Lay
import Derived.Lib.LaidTab
import Derived.Deep.SlicePairs
import Derived.Lib.SmallJoins
import Derived.SevenTiedAt
import Derived.Stop.Joined
import Derived.SizedLaws
import Derived.Deep.Slices
import Derived.SliceStrings
import Derived.Test.YtaeakdichkhjaaaGreatDoorQAg
import Derived.Test.YtaeakdichkhjaaaGreatDoorQAa
import Derived.Test.YtaeakdichkhjaaaGreatDoorQAi
import Derived.Shelf.Vars
set_option maxHeartbeats 16000000
open Go.Lib(hid)
namespace Go.Proofs.YtaeakdichkhjaaaGreatDoor
section
open Go.RowKit Go.Maps Go.Sort
theorem zb (st:DkSt)(f t:Int):StShort (yq st f t).2.1∧VwShort (yq st f t).2.2.1:=by
 unfold yq
 generalize lC f t (numS st)=L
 induction L with
 | nil=>exact xF
 | cons n r ih=>
  unfold yn
  split
  ·exact xJ _ _
  ·exact ih
set_option maxRecDepth 100000 in
theorem zc (w:World)(hl:Libz w)(lv:Value)(l:Fs)(hfl:FilesAt w lv l)(hlen:l.length≤4398046511104)(hsz:∀f∈l,f.name.length≤140737488355328∧f.firm.length≤140737488355328∧f.pend.length≤140737488355328)
  (first next seq:Int) (F:Nat→Prop) (sv:StV) (dv:VwV) (s:StD) (v:VwD) (hs:StAt F w sv s) (hv:VwAt F w dv v) (hF:∀g,F g→g<w.heap.size) (hi:StIn s) (hvi:VwIn v) :
  Calls Tryz.prog 3 #[lv,.int .i64 first,.int .i64 next,.int .i64 seq,.agg (jc s sv),.agg (jd dv)] w λe w'=>e = .returned (.bool true)∧Below w.heap.size w w':=by
 obtain⟨s4,s5,s6,s7,s8⟩:=sv;obtain⟨sa4,sc4,rfl⟩:=hs.a.shape;obtain⟨sa5,sc5,rfl⟩:=hs.i.shape;obtain⟨sa6,sc6,rfl⟩:=hs.r.shape;obtain⟨sa7,sc7,rfl⟩:=hs.o.shape;obtain⟨sa8,sc8,rfl⟩:=hs.u.shape;obtain⟨d0,d1,d2,d3⟩:=dv;obtain⟨da0,dc0,rfl⟩:=hv.o.shape;obtain⟨da1,dc1,rfl⟩:=hv.l.shape;obtain⟨da2,dc2,rfl⟩:=hv.p.shape;obtain⟨da3,dc3,rfl⟩:=hv.n.shape;obtain⟨al,cl,rfl⟩:=hfl.shape;have HS:=hid hs;have HV:=hid hv;have HI:=hid hi;have HVI:=hid hvi;have HF:=hid hF;have HL:=hid hl;have HFL:=hid hfl;have HSZ:=hid hsz;unfold jc jd;dsimp only;clear hs hv hi hvi hF hl hfl hsz
 go_enter Tryz.func3,Tryz.ntmps3
 go_wp2_with fail
 obtain⟨n,hn⟩:∃n,n=w.heap.size:=⟨_,rfl⟩;obtain⟨W0,hW0⟩:∃W,W=(w.alloc (.cells #[.int .i64 s.clock,.int .i64 s.fee,.int .i64 s.nextO,.int .i64 s.nextA,.slice sa4 s.accts.length sc4,.slice sa5 s.insts.length sc5,.slice sa6 s.rows.length sc6,.slice sa7 s.ords.length sc7,.slice sa8 s.aucs.length sc8] 29)).alloc (.cells #[.slice da0 v.open_.length dc0,.slice da1 v.lots.length dc1,.slice da2 v.poss.length dc2,.slice da3 v.lins.length dc3] 35):=⟨_,rfl⟩;have bW0:Below w.heap.size w W0:=by rw[hW0];exact((Below.refl _ _).alloc (Nat.le_refl _) _).alloc (by simp) _
 have k0:W0.heap[n]?=some (.cells #[.int .i64 s.clock,.int .i64 s.fee,.int .i64 s.nextO,.int .i64 s.nextA,.slice sa4 s.accts.length sc4,.slice sa5 s.insts.length sc5,.slice sa6 s.rows.length sc6,.slice sa7 s.ords.length sc7,.slice sa8 s.aucs.length sc8] 29 (0,0)):=by rw[hW0,hn];exact(Below.heap_alloc _ _ _ (by simp<;>omega)).trans (heap_alloc_new _ _)
 have k1:W0.heap[n+1]?=some (.cells #[.slice da0 v.open_.length dc0,.slice da1 v.lots.length dc1,.slice da2 v.poss.length dc2,.slice da3 v.lins.length dc3] 35 (0,0)):=by rw[hW0,hn];exact oN _ _ (by simp)
 have K0:=hid k0;have K1:=hid k1;have B0:=hid bW0;have L0:=hid (HL.out.pure bW0);have S0:=hid (HS.out.pure bW0);have V0:=hid (HV.out.pure bW0);have FL0:=hid (HFL.out.pure bW0);have F0:=hid (show ∀g,F g→g<W0.heap.size from λg hg=>Nat.lt_of_lt_of_le (HF.out g hg) bW0.size);rw[← hW0,← hn];clear hW0 hn k0 k1 bW0;refine(za W0 _ l FL0.out hlen).mono ?_;rintro e w1 ⟨⟨bo,rfl⟩,hb1⟩;have B1:=hid hb1;have r0:=(hb1.block _ (lt_of_block K0.out)).trans K0.out;have r1:=(hb1.block _ (lt_of_block K1.out)).trans K1.out;clear hb1;cases bo;rotate_left
 ·clear r0 r1
  go_wp2_with fail
  refine(yX w1 (L0.out.pure B1.out)).mono ?_;rintro e wq ⟨rfl,hbq⟩;have BQ:=hid (cx B0.out (cx B1.out hbq));clear hbq;go_wp2;go_ret;exact⟨rfl,BQ.out⟩
 obtain⟨c0,c1,c2,c3,c4,c5,c6,c7,c8⟩:=kq (r0);obtain⟨e0,e1,e2,e3⟩:=ku (r1);have S1:=hid (S0.out.pure B1.out);have V1:=hid (V0.out.pure B1.out);clear r0 r1
 go_wp2_with fail
 refine(show Calls Tryz.prog 6 #[.agg #[.int .i64 s.clock,.int .i64 s.fee,.int .i64 s.nextO,.int .i64 s.nextA,.slice sa4 s.accts.length sc4,.slice sa5 s.insts.length sc5,.slice sa6 s.rows.length sc6,.slice sa7 s.ords.length sc7,.slice sa8 s.aucs.length sc8],.agg #[.slice da0 v.open_.length dc0,.slice da1 v.lots.length dc1,.slice da2 v.poss.length dc2,.slice da3 v.lins.length dc3]] w1 _ from wK F F w1 ⟨.slice sa4 s.accts.length sc4,.slice sa5 s.insts.length sc5,.slice sa6 s.rows.length sc6,.slice sa7 s.ords.length sc7,.slice sa8 s.aucs.length sc8⟩ ⟨.slice da0 v.open_.length dc0,.slice da1 v.lots.length dc1,.slice da2 v.poss.length dc2,.slice da3 v.lins.length dc3⟩ s v S1.out V1.out HI.out HVI.out).mono ?_;rintro e w2 ⟨⟨b,rfl,hsm⟩,hb2⟩;have B2:=hid (cx B1.out hb2);have HSM:=hid hsm;clear hb2 hsm B1 S1 V1 c0 c1 c2 c3 c4 c5 c6 c7 c8 e0 e1 e2 e3;cases b;rotate_left
 ·clear HSM
  go_wp2_with fail
  refine(yX w2 (L0.out.pure B2.out)).mono ?_;rintro e wq ⟨rfl,hbq⟩;have BQ:=hid (cx B0.out (cx B2.out hbq));clear hbq;go_wp2;go_ret;exact⟨rfl,BQ.out⟩
 have SM:=hid (HSM.out rfl);have LS:=hid (HI.out.lim SM.out);have LV:=hid (HVI.out.lim);clear HSM
 go_wp2_with fail
 refine(yX w2 (L0.out.pure B2.out)).mono ?_;rintro e w3 ⟨rfl,hb3⟩;have B3:=hid (cx B2.out hb3);have FL3:=hid (FL0.out.pure B3.out);clear hb3 B2
 go_wp2_with fail
 refine(gA w3 1048576 _ l FL3.out hlen HSZ.out (by omega)).mono ?_;rintro e w4 ⟨hb4,hload⟩;have B4:=hid (cx B3.out hb4);clear hb4
 rcases lK 1048576 l with⟨c,hcf,hce,hld⟩|hld
 ·rw[hld]at hload
  simp only at hload;subst hload;clear hld;go_wp2;go_ret;exact⟨rfl,cx B0.out B4.out⟩
 rw[hld]at hload;obtain⟨p,b,hpg,hbg,rfl,hd4⟩:=hload;obtain⟨st,hst⟩:∃st:DkSt,st=⟨l,1048576,-1,false⟩:=⟨_,rfl⟩;have HST:=hid hst;have HRISE:=hid (show(numS st).Pairwise (· < ·)from by rw[hst];exact yt hd4.ok.fs.sorted);have O4:=hid (show Own27 W0 w4 p b st from⟨by rw[hst];exact hd4,by have:=B3.out.size;omega,by have:=B3.out.size;omega,B4.out⟩);have HDK:=hid (show st.dark=false from by rw[hst]);clear hld hd4 B3 B4 FL3 hpg hbg hst;have HNW:=hid (yL w4 (O4.out.lz L0.out).1 p b st O4.out.dk HDK.out first next);obtain⟨⟨N,T1,V1,is⟩,hR⟩:∃R,R=yq st first next:=⟨_,rfl⟩;have HR:=hid hR.symm;have SHT:=hid (show StShort T1∧VwShort V1 from by have:=zb st first next;rw[← hR]at this;exact this);rw[show yn st (lC first next (gd (st.fs.map (·.name))))=yq st first next from rfl,← hR]at HNW;clear hR
 go_wp2_with fail
 refine HNW.out.mono ?_;rintro e w5 ⟨⟨tv,uv,rfl,hst,hvt⟩,hb5⟩;dsimp only at hst hvt ⊢;obtain⟨t4,t5,t6,t7,t8⟩:=tv;obtain⟨ta4,tm4,tc4,rfl⟩:∃a m c,t4=Value.slice a m c:=by obtain⟨a,c,h⟩:=hst.a.shape;exact⟨a,_,c,h⟩
 obtain⟨ta5,tm5,tc5,rfl⟩:∃a m c,t5=Value.slice a m c:=by obtain⟨a,c,h⟩:=hst.i.shape;exact⟨a,_,c,h⟩
 obtain⟨ta6,tm6,tc6,rfl⟩:∃a m c,t6=Value.slice a m c:=by obtain⟨a,c,h⟩:=hst.r.shape;exact⟨a,_,c,h⟩
 obtain⟨ta7,tm7,tc7,rfl⟩:∃a m c,t7=Value.slice a m c:=by obtain⟨a,c,h⟩:=hst.o.shape;exact⟨a,_,c,h⟩
 obtain⟨ta8,tm8,tc8,rfl⟩:∃a m c,t8=Value.slice a m c:=by obtain⟨a,c,h⟩:=hst.u.shape;exact⟨a,_,c,h⟩
 obtain⟨u0,u1,u2,u3⟩:=uv;obtain⟨ua0,um0,uc0,rfl⟩:∃a m c,u0=Value.slice a m c:=by obtain⟨a,c,h⟩:=hvt.o.shape;exact⟨a,_,c,h⟩
 obtain⟨ua1,um1,uc1,rfl⟩:∃a m c,u1=Value.slice a m c:=by obtain⟨a,c,h⟩:=hvt.l.shape;exact⟨a,_,c,h⟩
 obtain⟨ua2,um2,uc2,rfl⟩:∃a m c,u2=Value.slice a m c:=by obtain⟨a,c,h⟩:=hvt.p.shape;exact⟨a,_,c,h⟩
 obtain⟨ua3,um3,uc3,rfl⟩:∃a m c,u3=Value.slice a m c:=by obtain⟨a,c,h⟩:=hvt.n.shape;exact⟨a,_,c,h⟩
 have O5:=hid (O4.out.pure hb5);have T5:=hid hst;have U5:=hid hvt;clear hb5 hst hvt O4 HNW;unfold jc jd;dsimp only
 go_wp2_with fail
 obtain⟨W6,hW6⟩:∃W,W=(w5.alloc (.cells #[.int .i64 T1.clock,.int .i64 T1.fee,.int .i64 T1.nextO,.int .i64 T1.nextA,.slice ta4 tm4 tc4,.slice ta5 tm5 tc5,.slice ta6 tm6 tc6,.slice ta7 tm7 tc7,.slice ta8 tm8 tc8] 29)).alloc (.cells #[.slice ua0 um0 uc0,.slice ua1 um1 uc1,.slice ua2 um2 uc2,.slice ua3 um3 uc3] 35):=⟨_,rfl⟩;have bW6:Below w5.heap.size w5 W6:=by rw[hW6];exact((Below.refl _ _).alloc (Nat.le_refl _) _).alloc (by simp) _
 have k6:W6.heap[w5.heap.size]?=some (.cells #[.int .i64 T1.clock,.int .i64 T1.fee,.int .i64 T1.nextO,.int .i64 T1.nextA,.slice ta4 tm4 tc4,.slice ta5 tm5 tc5,.slice ta6 tm6 tc6,.slice ta7 tm7 tc7,.slice ta8 tm8 tc8] 29 (0,0)):=by rw[hW6];exact(Below.heap_alloc _ _ _ (by simp)).trans (heap_alloc_new _ _)
 have j6:W6.heap[w5.heap.size+1]?=some (.cells #[.slice ua0 um0 uc0,.slice ua1 um1 uc1,.slice ua2 um2 uc2,.slice ua3 um3 uc3] 35 (0,0)):=by rw[hW6];exact oN _ _ (by simp)
 have O6:=hid (O5.out.pure bW6);have T6:=hid (T5.out.pure bW6);have U6:=hid (U5.out.pure bW6);have K6:=hid k6;have J6:=hid j6;obtain⟨m5,hm5⟩:∃m5,m5=w5.heap.size:=⟨_,rfl⟩;have HM5:=hid (show p<m5∧b<m5 from by rw[hm5];exact⟨O5.out.dk.lt,O5.out.dk.own.lt⟩);rw[← hW6];rw[← hm5]at K6 J6
 try rw[← hm5]
 clear hW6 bW6 O5 T5 U5 k6 j6 hm5;have O6s:=hid (show W0.heap.size≤m5 from by have:=HM5.out;have:=O6.out.fp;omega);refine(kU W6 (O6.out.lz L0.out).1 p b st O6.out.dk).mono ?_;rintro e w7 ⟨hb7,h7⟩;rw[HDK.out,if_neg (by decide)]at h7;obtain⟨nv,rfl,hown⟩:=h7;obtain⟨ns,hns⟩:∃ns,ns=numS st:=⟨_,rfl⟩;have hnl:ns.length≤64:=by rw[hns];show(gd (st.fs.map (·.name))).length≤64;have:=gi (st.fs.map (·.name));have:=O6.out.dk.ok.fs.few;rw[List.length_map]at *;omega
 rw[show gd (st.fs.map (·.name))=ns from hns.symm]at hown;obtain⟨ga,gc,rfl,hrow⟩:=kV hown;have HROW:=hid hrow;have HNS:=hid hns;have O7:=hid (O6.out.pure hb7);have B7:=hid hb7;clear hb7 hown hrow hns O6
 go_wp2_with fail
 go_loopw [22,23] (λbv i wr=>∃(k:Nat) (best:Int),i = .int .i64 k∧bv = .int .i64 best∧k≤ns.length∧Hid (BestAt st first next k best)∧Hid (Below w7.heap.size w7 wr)) (λ_ i _=>ns.length-(intOf i).toNat)
 case atStart=>exact⟨0,-1,rfl,rfl,by omega,hid (BestAt.zero st first next),hid (Below.refl _ _)⟩
 case round=>
  obtain⟨k,best,rfl,rfl,hk,HBA,HBW⟩:=hrel;by_cases hlt:k<ns.length
  ·obtain⟨gb,hga,hcl⟩:∃g,ga=some ⟨g,0,none⟩∧w7.cell? ⟨g,k,none⟩=some (.int .i64 (ns[k]:Int)):=by
    obtain⟨g,h1,_,h3⟩:=HROW.out k hlt;exact⟨g,h1,h3⟩
   obtain⟨x,hx⟩:∃x,x=ns[k]:=⟨_,rfl⟩;rw[← hx]at hcl;subst hga;have HC7:=hid hcl;have hcl2:=(HBW.out.cell (block_lt_of_cell hcl)).trans hcl;have HX:=hid hx;have HMEM:=hid (show x∈numS st from by rw[hx,← HNS.out];exact List.getElem_mem hlt);have HKN:=hid (show ∃h:k<(numS st).length,(numS st)[k]=x from by rw[hx];simp only[← HNS.out];exact⟨hlt,trivial⟩);have O8:=hid (O7.out.pure HBW.out);have HRD:=hid (xw O8.out L0.out (x:Int));obtain⟨⟨S2,V2,g⟩,hA⟩:∃R,R=RD st x:=⟨_,rfl⟩;rw[show uM (x:Int) (eG st (fN (x:Int)))=RD st x from rfl,← hA]at HRD;have HA:=hid hA.symm;clear hA hx hcl
   go_wp2_with fail
   refine HRD.out.mono ?_;rintro e w9 ⟨⟨sv2,dv2,rfl,hst,hvt⟩,hb9⟩;dsimp only at hst hvt ⊢;obtain⟨x4,x5,x6,x7,x8⟩:=sv2;obtain⟨xa4,xm4,xc4,rfl⟩:∃a m c,x4=Value.slice a m c:=by obtain⟨a,c,h⟩:=hst.a.shape;exact⟨a,_,c,h⟩
   obtain⟨xa5,xm5,xc5,rfl⟩:∃a m c,x5=Value.slice a m c:=by obtain⟨a,c,h⟩:=hst.i.shape;exact⟨a,_,c,h⟩
   obtain⟨xa6,xm6,xc6,rfl⟩:∃a m c,x6=Value.slice a m c:=by obtain⟨a,c,h⟩:=hst.r.shape;exact⟨a,_,c,h⟩
   obtain⟨xa7,xm7,xc7,rfl⟩:∃a m c,x7=Value.slice a m c:=by obtain⟨a,c,h⟩:=hst.o.shape;exact⟨a,_,c,h⟩
   obtain⟨xa8,xm8,xc8,rfl⟩:∃a m c,x8=Value.slice a m c:=by obtain⟨a,c,h⟩:=hst.u.shape;exact⟨a,_,c,h⟩
   obtain⟨y0,y1,y2,y3⟩:=dv2;obtain⟨ya0,ym0,yc0,rfl⟩:∃a m c,y0=Value.slice a m c:=by obtain⟨a,c,h⟩:=hvt.o.shape;exact⟨a,_,c,h⟩
   obtain⟨ya1,ym1,yc1,rfl⟩:∃a m c,y1=Value.slice a m c:=by obtain⟨a,c,h⟩:=hvt.l.shape;exact⟨a,_,c,h⟩
   obtain⟨ya2,ym2,yc2,rfl⟩:∃a m c,y2=Value.slice a m c:=by obtain⟨a,c,h⟩:=hvt.p.shape;exact⟨a,_,c,h⟩
   obtain⟨ya3,ym3,yc3,rfl⟩:∃a m c,y3=Value.slice a m c:=by obtain⟨a,c,h⟩:=hvt.n.shape;exact⟨a,_,c,h⟩
   have B9:=hid (cx HBW.out hb9);have T9:=hid hst;have U9:=hid hvt;clear hb9 hst hvt HRD O8 hcl2;unfold jc jd;dsimp only
   go_upto_region 15 with fail
   obtain⟨W10,hW10⟩:∃W,W=(w9.alloc (.cells #[.int .i64 S2.clock,.int .i64 S2.fee,.int .i64 S2.nextO,.int .i64 S2.nextA,.slice xa4 xm4 xc4,.slice xa5 xm5 xc5,.slice xa6 xm6 xc6,.slice xa7 xm7 xc7,.slice xa8 xm8 xc8] 29)).alloc (.cells #[.slice ya0 ym0 yc0,.slice ya1 ym1 yc1,.slice ya2 ym2 yc2,.slice ya3 ym3 yc3] 35):=⟨_,rfl⟩;have bW10:Below w9.heap.size w9 W10:=by rw[hW10];exact((Below.refl _ _).alloc (Nat.le_refl _) _).alloc (by simp) _
   have k7:W10.heap[w9.heap.size]?=some (.cells #[.int .i64 S2.clock,.int .i64 S2.fee,.int .i64 S2.nextO,.int .i64 S2.nextA,.slice xa4 xm4 xc4,.slice xa5 xm5 xc5,.slice xa6 xm6 xc6,.slice xa7 xm7 xc7,.slice xa8 xm8 xc8] 29 (0,0)):=by rw[hW10];exact(Below.heap_alloc _ _ _ (by simp)).trans (heap_alloc_new _ _)
   have j7:W10.heap[w9.heap.size+1]?=some (.cells #[.slice ya0 ym0 yc0,.slice ya1 ym1 yc1,.slice ya2 ym2 yc2,.slice ya3 ym3 yc3] 35 (0,0)):=by rw[hW10];exact oN _ _ (by simp)
   have B10:=hid (cx B9.out bW10);have T10:=hid (T9.out.pure bW10);have U10:=hid (U9.out.pure bW10);have K7:=hid k7;have J7:=hid j7;obtain⟨m7,hm7⟩:∃m7,m7=w9.heap.size:=⟨_,rfl⟩;rw[← hW10];rw[← hm7]at K7 J7
   try rw[← hm7]
   clear hW10 bW10 B9 T9 U9 k7 j7 hm7;have hcl:=(B10.out.cell (block_lt_of_cell HC7.out)).trans HC7.out;have hlq:decide ((ns.length:Int)≤(k:Int))=false:=by simp;omega
   have hlq2:decide (ns.length≤k)=false:=by simp;omega
   go_cut [99] (λs99 wx=>s99 = .bool false∧Hid (Below W10.heap.size W10 wx))
   case first=>
    by_cases hk0:0<k
    ·obtain⟨j,hj⟩:∃j:Nat,(k:Int)-1=(j:Int):=⟨k-1,by omega⟩
     have hjl:j<ns.length:=by omega
     obtain⟨y,hy⟩:∃y,y=ns[j]:=⟨_,rfl⟩;have hcj:w7.cell? ⟨gb,j,none⟩=some (.int .i64 (y:Int)):=by
      obtain⟨g,h1,_,h3⟩:=HROW.out j hjl;cases h1;rw[hy];exact h3
     have hyx:y<x:=by
      have hr:=HRISE.out;rw[← HNS.out]at hr;rw[hy,HX.out];exact yA hr hjl hlt (by omega)
     have hd:=(B10.out.cell (block_lt_of_cell hcj)).trans hcj;have q1:decide ((0:Int)<(k:Int))=true:=by simp;omega
     have q2:decide ((x:Int)≤(y:Int))=false:=by simp;omega
     have q2':decide (x≤y)=false:=by simp;omega
     have q3:decide ((ns.length:Int)≤(j:Int))=false:=by simp;omega
     have q4:decide (ns.length≤j)=false:=by simp;omega
     have q5:decide ((j:Int)<0)=false:=by simp
     clear hy hcj hyx
     go_quiet (fail)
     go_wp2_with fail
     go_meet
     exact⟨rfl,hid (yZ _ _)⟩
    ·have q1:decide ((0:Int)<(k:Int))=false:=by simp;omega
     have q1':decide (0<k)=false:=by simp;omega
     go_quiet (fail)
     go_wp2_with fail
     go_meet
     exact⟨rfl,hid (yZ _ _)⟩
   case rest=>
    obtain⟨rfl,HB11⟩:=hcut
    generalize wc=w11 at *
    have B11:=hid (cx B10.out HB11.out);have hcl:=(B11.out.cell (block_lt_of_cell HC7.out)).trans HC7.out;clear hcl;have hcl:=(B11.out.cell (block_lt_of_cell HC7.out)).trans HC7.out;by_cases hg:g=0;rotate_left
    ·have q1:(g != 0)=true:=by simpa using hg
     have HG:=hid hg;clear hg
     go_wp2_with fail
     go_roundw
     case rel=>exact⟨k+1,best,by go_num,rfl,by omega,hid (HBA.out.skip HKN.out.1 (by rw[HKN.out.2];exact λh=>HG.out (by have:=h.2.2.2;rw[HA.out]at this;exact this))),B11⟩
     case measure=>simp[intOf];omega
    subst hg;by_cases h1:(x:Int)<first
    ·have q1:decide ((x:Int)<first)=true:=by simpa using h1
     have HG:=hid h1;clear h1
     go_wp2_with fail
     go_roundw
     case rel=>exact⟨k+1,best,by go_num,rfl,by omega,hid (HBA.out.skip HKN.out.1 (by rw[HKN.out.2];exact λh=>by have:=h.2.1;have:=HG.out;omega)),B11⟩
     case measure=>simp[intOf];omega
    by_cases h2:next<(x:Int)
    ·have q1:decide ((x:Int)<first)=false:=by simpa using h1
     have q2:decide (next<(x:Int))=true:=by simpa using h2
     have HG:=hid h2;clear h1 h2
     go_wp2_with fail
     go_roundw
     case rel=>exact⟨k+1,best,by go_num,rfl,by omega,hid (HBA.out.skip HKN.out.1 (by rw[HKN.out.2];exact λh=>by have:=h.2.2.1;have:=HG.out;omega)),B11⟩
     case measure=>simp[intOf];omega
    have q1:decide ((x:Int)<first)=false:=by simpa using h1
    have q2:decide (next<(x:Int))=false:=by simpa using h2
    have HCAN:=hid (show yu st first next x from⟨HMEM.out,by omega,by omega,by rw[HA.out]⟩);have HTK:=hid (show BestAt st first next (k+1) (x:Int)from by
     have h:=HBA.out.take HRISE.out HKN.out.1 (by rw[HKN.out.2];exact HCAN.out);rw[HKN.out.2]at h;exact h)
    clear h1 h2;by_cases he:(x:Int)=N;rotate_left
    ·have q3:((x:Int) == N)=false:=by simpa using he
     clear he
     go_wp2_with fail
     go_roundw
     case rel=>exact⟨k+1,(x:Int),by go_num,rfl,by omega,HTK,B11⟩
     case measure=>simp[intOf];omega
    have q3:((x:Int) == N)=true:=by simpa using he
    have hsame:=yz HRISE.out HCAN.out HR.out he;rw[HA.out]at hsame;simp only[Prod.mk.injEq,and_true]at hsame;obtain⟨e1,e2⟩:=hsame;subst e1 e2;have T11:=hid (T6.out.pure (cx B7.out B11.out));have U11:=hid (U6.out.pure (cx B7.out B11.out));have S11:=hid (T10.out.pure HB11.out);have V11:=hid (U10.out.pure HB11.out);have r0:=((cx B7.out B11.out).block _ (lt_of_block K6.out)).trans K6.out;have r6:=(HB11.out.block _ (lt_of_block K7.out)).trans K7.out;obtain⟨c0,c1,c2,c3,c4,c5,c6,c7,c8⟩:=kq (r0);obtain⟨t0,t1,t2,t3,t4,t5,t6,t7,t8⟩:=kq (r6);clear r0 r6 he
    go_wp2_with fail
    refine(show Calls Tryz.prog 12 #[.agg #[.int .i64 S2.clock,.int .i64 S2.fee,.int .i64 S2.nextO,.int .i64 S2.nextA,.slice ta4 tm4 tc4,.slice ta5 tm5 tc5,.slice ta6 tm6 tc6,.slice ta7 tm7 tc7,.slice ta8 tm8 tc8],.agg #[.int .i64 S2.clock,.int .i64 S2.fee,.int .i64 S2.nextO,.int .i64 S2.nextA,.slice xa4 xm4 xc4,.slice xa5 xm5 xc5,.slice xa6 xm6 xc6,.slice xa7 xm7 xc7,.slice xa8 xm8 xc8]] w11 _ from xm _ _ w11 ⟨.slice ta4 tm4 tc4,.slice ta5 tm5 tc5,.slice ta6 tm6 tc6,.slice ta7 tm7 tc7,.slice ta8 tm8 tc8⟩ ⟨.slice xa4 xm4 xc4,.slice xa5 xm5 xc5,.slice xa6 xm6 xc6,.slice xa7 xm7 xc7,.slice xa8 xm8 xc8⟩ S2 S2 T11.out S11.out SHT.out.1 SHT.out.1).mono ?_;rintro e w12 ⟨htb,hb12⟩;obtain rfl:=TB.pos rfl htb;have B12:=hid (cx B11.out hb12);have U12:=hid (U11.out.pure hb12);have V12:=hid (V11.out.pure hb12);have r1:=((cx B7.out B12.out).block _ (lt_of_block J6.out)).trans J6.out;have s6:=((cx HB11.out hb12).block _ (lt_of_block J7.out)).trans J7.out;obtain⟨e0,e1,e2,e3⟩:=ku (r1);obtain⟨u0,u1,u2,u3⟩:=ku (s6);clear r1 s6 htb hb12 c0 c1 c2 c3 c4 c5 c6 c7 c8 t0 t1 t2 t3 t4 t5 t6 t7 t8
    go_wp2_with fail
    refine(show Calls Tryz.prog 13 #[.agg #[.slice ua0 um0 uc0,.slice ua1 um1 uc1,.slice ua2 um2 uc2,.slice ua3 um3 uc3],.agg #[.slice ya0 ym0 yc0,.slice ya1 ym1 yc1,.slice ya2 ym2 yc2,.slice ya3 ym3 yc3]] w12 _ from xq _ _ w12 ⟨.slice ua0 um0 uc0,.slice ua1 um1 uc1,.slice ua2 um2 uc2,.slice ua3 um3 uc3⟩ ⟨.slice ya0 ym0 yc0,.slice ya1 ym1 yc1,.slice ya2 ym2 yc2,.slice ya3 ym3 yc3⟩ V2 V2 U12.out V12.out SHT.out.2 SHT.out.2).mono ?_;rintro e w13 ⟨htb,hb13⟩;obtain rfl:=TB.pos rfl htb;have B13:=hid (cx B12.out hb13);clear htb hb13
    go_wp2_with fail
    go_roundw
    case rel=>exact⟨k+1,(x:Int),by go_num,rfl,by omega,HTK,B13⟩
    case measure=>simp[intOf];omega
  ·obtain rfl:k=ns.length:=by omega
   have HALL:=hid (show yC st first next best from by have h:=HBA.out;rw[HNS.out]at h;exact h.all);have O8:=hid (O7.out.pure HBW.out);have B8:=hid (cx B7.out HBW.out);have HBT:=hid (yD HRISE.out HALL.out HR.out);clear HBA HBW hk hlt O7 B7 HROW
   go_upto_region 21 with fail
   go_cut [156] (λs156 wx=>s156 = .bool false∧wx=wr)
   case first=>
    obtain⟨h1,h2,h3⟩:=HBT.out;cases is
    ·have q7:decide (0≤best)=false:=h1.symm
     have q8:(N != 0)=false:=by rw[h3 rfl];rfl
     clear h1 h2 h3
     go_wp2_with fail
     go_meet
     exact⟨rfl,rfl⟩
    ·have q7:decide (0≤best)=true:=h1.symm
     have q8:(N != best)=false:=by rw[h2 rfl];simp
     clear h1 h2 h3
     go_wp2_with fail
     go_meet
     exact⟨rfl,rfl⟩
   case rest=>
    obtain⟨rfl,rfl⟩:=hcut
    generalize wc=w8 at *
    have S8:=hid (S0.out.pure O8.out.below);have V8:=hid (V0.out.pure O8.out.below);have r0:=(O8.out.below.block _ (lt_of_block K0.out)).trans K0.out;have r1:=(O8.out.below.block _ (lt_of_block K1.out)).trans K1.out;obtain⟨c0,c1,c2,c3,c4,c5,c6,c7,c8⟩:=kq (r0);obtain⟨e0,e1,e2,e3⟩:=ku (r1);have HWR:=hid (xx O8.out L0.out seq F ⟨.slice sa4 s.accts.length sc4,.slice sa5 s.insts.length sc5,.slice sa6 s.rows.length sc6,.slice sa7 s.ords.length sc7,.slice sa8 s.aucs.length sc8⟩ ⟨.slice da0 v.open_.length dc0,.slice da1 v.lots.length dc1,.slice da2 v.poss.length dc2,.slice da3 v.lins.length dc3⟩ s v S8.out V8.out (λg hg=>Nat.lt_of_lt_of_le (F0.out g hg) O8.out.below.size) LS.out LV.out SM.out);clear r0 r1;unfold jc jd at HWR;dsimp only at HWR;obtain⟨⟨st2,g2⟩,hW⟩:∃R,R=gV st seq (vf seq s v):=⟨_,rfl⟩;rw[← hW]at HWR;dsimp only at HWR;have HW:=hid hW.symm;clear hW
    go_wp2_with fail
    refine HWR.out.mono ?_;rintro e w9 ⟨rfl,o9,f9⟩;have O9:=hid o9;have K9:=hid (f9.heapAt ((B8.out.block _ (lt_of_block K6.out)).trans K6.out) (by have:=HM5.out;omega));have J9:=hid (f9.heapAt ((B8.out.block _ (lt_of_block J6.out)).trans J6.out) (by have:=HM5.out;omega));clear o9 f9 O8 HWR S8 V8 K6 J6 T6 U6 B8 c0 c1 c2 c3 c4 c5 c6 c7 c8 e0 e1 e2 e3;by_cases hg2:g2=0;rotate_left
    ·have q1:(g2 != 0)=true:=by simpa using hg2
     clear hg2;go_wp2;go_ret;exact⟨rfl,cx B0.out O9.out.below⟩
    subst hg2;obtain⟨q,rfl,hsame,hqm,hrq,hdk2⟩:=yH (l:=l) (cp:=1048576) first next (by rw[← HST.out];exact HW.out);rw[← HST.out]at hsame;have HDK2:=hid hdk2;have HNW:=hid (yL w9 (O9.out.lz L0.out).1 p b st2 O9.out.dk hdk2 first next);obtain⟨⟨N2,S3,V3,is2⟩,hR2⟩:∃R,R=yq st2 first next:=⟨_,rfl⟩;have HAFT:=hid (yE (yt O9.out.dk.ok.fs.sorted) hsame hqm hrq HALL.out hR2.symm);rw[show yn st2 (lC first next (gd (st2.fs.map (·.name))))=yq st2 first next from rfl,← hR2]at HNW;clear hR2 hsame hqm hrq hdk2
    go_wp2_with fail
    refine HNW.out.mono ?_;rintro e w10 ⟨⟨sv3,dv3,rfl,hst,hvt⟩,hb10⟩;dsimp only at hst hvt ⊢;obtain⟨x4,x5,x6,x7,x8⟩:=sv3;obtain⟨xa4,xm4,xc4,rfl⟩:∃a m c,x4=Value.slice a m c:=by obtain⟨a,c,h⟩:=hst.a.shape;exact⟨a,_,c,h⟩
    obtain⟨xa5,xm5,xc5,rfl⟩:∃a m c,x5=Value.slice a m c:=by obtain⟨a,c,h⟩:=hst.i.shape;exact⟨a,_,c,h⟩
    obtain⟨xa6,xm6,xc6,rfl⟩:∃a m c,x6=Value.slice a m c:=by obtain⟨a,c,h⟩:=hst.r.shape;exact⟨a,_,c,h⟩
    obtain⟨xa7,xm7,xc7,rfl⟩:∃a m c,x7=Value.slice a m c:=by obtain⟨a,c,h⟩:=hst.o.shape;exact⟨a,_,c,h⟩
    obtain⟨xa8,xm8,xc8,rfl⟩:∃a m c,x8=Value.slice a m c:=by obtain⟨a,c,h⟩:=hst.u.shape;exact⟨a,_,c,h⟩
    obtain⟨y0,y1,y2,y3⟩:=dv3;obtain⟨ya0,ym0,yc0,rfl⟩:∃a m c,y0=Value.slice a m c:=by obtain⟨a,c,h⟩:=hvt.o.shape;exact⟨a,_,c,h⟩
    obtain⟨ya1,ym1,yc1,rfl⟩:∃a m c,y1=Value.slice a m c:=by obtain⟨a,c,h⟩:=hvt.l.shape;exact⟨a,_,c,h⟩
    obtain⟨ya2,ym2,yc2,rfl⟩:∃a m c,y2=Value.slice a m c:=by obtain⟨a,c,h⟩:=hvt.p.shape;exact⟨a,_,c,h⟩
    obtain⟨ya3,ym3,yc3,rfl⟩:∃a m c,y3=Value.slice a m c:=by obtain⟨a,c,h⟩:=hvt.n.shape;exact⟨a,_,c,h⟩
    have X10:=hid hst;have Y10:=hid hvt;have K10:=hid ((hb10.block _ (lt_of_block K9.out)).trans K9.out);have J10:=hid ((hb10.block _ (lt_of_block J9.out)).trans J9.out);have B10:=hid (cx O9.out.below hb10);have HG9:=hid (show m5+1<w9.heap.size from lt_of_block J9.out);clear hb10 hst hvt HNW O9 K9 J9;unfold jc jd;dsimp only;have rk:=K10.out;have rj:=J10.out;obtain⟨c0,cf0,c1,cf1,c2,cf2,c3,cf3,c4,cf4,c5,cf5,c6,cf6,c7,cf7,c8,cf8⟩:=kr rk;obtain⟨e0,ef0,e1,ef1,e2,ef2,e3,ef3⟩:=kw rj;clear rk rj
    go_upto_region 26 with fail
    obtain⟨Wf,hWf,FA⟩:=kB K10.out J10.out (.int .i64 S3.clock) (.int .i64 S3.fee) (.int .i64 S3.nextO) (.int .i64 S3.nextA) (.slice xa4 xm4 xc4) (.slice xa5 xm5 xc5) (.slice xa6 xm6 xc6) (.slice xa7 xm7 xc7) (.slice xa8 xm8 xc8) (.slice ya0 ym0 yc0) (.slice ya1 ym1 yc1) (.slice ya2 ym2 yc2) (.slice ya3 ym3 yc3)
    try rw[← hWf]
    clear hWf c0 cf0 c1 cf1 c2 cf2 c3 cf3 c4 cf4 c5 cf5 c6 cf6 c7 cf7 c8 cf8 e0 ef0 e1 ef1 e2 ef2 e3 ef3;have FAH:=hid FA;have hfr:=FA.fr;have X11:=hid (X10.out.kept hfr (λg hg e=>by have:=HG9.out;omega));have Y11:=hid (Y10.out.kept hfr (λg hg e=>by have:=HG9.out;omega));have HM:=hid (show w.heap.size≤m5 from by have h1:=B0.out.size;have h2:=O6s.out;omega);have BF:=hid (show Below W0.heap.size W0 Wf from B10.out.trans (hfr.below B10.out.size (λk hk e=>by have h2:=O6s.out;omega)));have FIN:=hid (cx B0.out BF.out);clear FA hfr X10 Y10 K10 J10 B10;by_cases h1:(q:Int)<first
    ·have q1:decide ((q:Int)<first)=true:=by simpa using h1
     have HOUT:=hid (show(q:Int)<first∨next<(q:Int)∨(q:Int)<best from .inl h1);have hdec:=h1;clear h1;clear hdec;obtain⟨ha,hc⟩:=HAFT.out.1 HOUT.out;clear HOUT;cases is2
     ·have q7:decide (0≤best)=false:=ha.symm
      clear ha hc;go_wp2;go_ret;exact⟨by first|rfl|trivial|decide,FIN.out⟩
     ·have q7:decide (0≤best)=true:=ha.symm
      obtain rfl:=hc rfl;have q8:(N2 == N2)=true:=by simp
      clear ha hc;go_wp2;go_ret;exact⟨by first|rfl|trivial|decide,FIN.out⟩
    by_cases h2:next<(q:Int)
    ·have q1:decide ((q:Int)<first)=false:=by simpa using h1
     have q2:decide (next<(q:Int))=true:=by simpa using h2
     have HOUT:=hid (show(q:Int)<first∨next<(q:Int)∨(q:Int)<best from .inr (.inl h2));have hdec:=h1;clear h1 h2;clear hdec;obtain⟨ha,hc⟩:=HAFT.out.1 HOUT.out;clear HOUT;cases is2
     ·have q7:decide (0≤best)=false:=ha.symm
      clear ha hc;go_wp2;go_ret;exact⟨by first|rfl|trivial|decide,FIN.out⟩
     ·have q7:decide (0≤best)=true:=ha.symm
      obtain rfl:=hc rfl;have q8:(N2 == N2)=true:=by simp
      clear ha hc;go_wp2;go_ret;exact⟨by first|rfl|trivial|decide,FIN.out⟩
    by_cases h3:(q:Int)<best
    ·have q1:decide ((q:Int)<first)=false:=by simpa using h1
     have q2:decide (next<(q:Int))=false:=by simpa using h2
     have q3:decide ((q:Int)<best)=true:=by simpa using h3
     have HOUT:=hid (show(q:Int)<first∨next<(q:Int)∨(q:Int)<best from .inr (.inr h3));have hdec:=h1;clear h1 h2 h3;clear hdec;obtain⟨ha,hc⟩:=HAFT.out.1 HOUT.out;clear HOUT;cases is2
     ·have q7:decide (0≤best)=false:=ha.symm
      clear ha hc;go_wp2;go_ret;exact⟨by first|rfl|trivial|decide,FIN.out⟩
     ·have q7:decide (0≤best)=true:=ha.symm
      obtain rfl:=hc rfl;have q8:(N2 == N2)=true:=by simp
      clear ha hc;go_wp2;go_ret;exact⟨by first|rfl|trivial|decide,FIN.out⟩
    have q1:decide ((q:Int)<first)=false:=by simpa using h1
    have q2:decide (next<(q:Int))=false:=by simpa using h2
    have q3:decide ((q:Int)<best)=false:=by simpa using h3
    obtain⟨g1,g2,g3,g4⟩:=HAFT.out.2 (by omega);subst g1 g2 g3 g4;have q4:((q:Int) == (q:Int))=true:=by simp
    clear h1 h2 h3;have S12:=hid (S0.out.pure BF.out);have V12:=hid (V0.out.pure BF.out);obtain⟨t0,t1,t2,t3,t4,t5,t6,t7,t8,u0,u1,u2,u3,_⟩:=FAH.out;have r0:=(BF.out.block _ (lt_of_block K0.out)).trans K0.out;obtain⟨c0,c1,c2,c3,c4,c5,c6,c7,c8⟩:=kq (r0);clear r0
    go_wp2_with fail
    refine(show Calls Tryz.prog 12 #[.agg #[.int .i64 S3.clock,.int .i64 S3.fee,.int .i64 S3.nextO,.int .i64 S3.nextA,.slice xa4 xm4 xc4,.slice xa5 xm5 xc5,.slice xa6 xm6 xc6,.slice xa7 xm7 xc7,.slice xa8 xm8 xc8],.agg #[.int .i64 S3.clock,.int .i64 S3.fee,.int .i64 S3.nextO,.int .i64 S3.nextA,.slice sa4 S3.accts.length sc4,.slice sa5 S3.insts.length sc5,.slice sa6 S3.rows.length sc6,.slice sa7 S3.ords.length sc7,.slice sa8 S3.aucs.length sc8]] Wf _ from xm _ _ Wf ⟨.slice xa4 xm4 xc4,.slice xa5 xm5 xc5,.slice xa6 xm6 xc6,.slice xa7 xm7 xc7,.slice xa8 xm8 xc8⟩ ⟨.slice sa4 S3.accts.length sc4,.slice sa5 S3.insts.length sc5,.slice sa6 S3.rows.length sc6,.slice sa7 S3.ords.length sc7,.slice sa8 S3.aucs.length sc8⟩ S3 S3 X11.out S12.out SM.out.st SM.out.st).mono ?_;rintro e w12 ⟨htb,hb12⟩;obtain rfl:=TB.pos rfl htb;have B12:=hid hb12;have Y12:=hid (Y11.out.pure hb12);have V13:=hid (V12.out.pure hb12);have r1:=((cx BF.out hb12).block _ (lt_of_block K1.out)).trans K1.out;obtain⟨e0,e1,e2,e3⟩:=ku (r1);have z0:=(hb12.cell (aA u0)).trans u0;have z1:=(hb12.cell (aA u1)).trans u1;have z2:=(hb12.cell (aA u2)).trans u2;have z3:=(hb12.cell (aA u3)).trans u3;clear r1 htb hb12 c0 c1 c2 c3 c4 c5 c6 c7 c8 t0 t1 t2 t3 t4 t5 t6 t7 t8 u0 u1 u2 u3
    go_wp2_with fail
    refine(show Calls Tryz.prog 13 #[.agg #[.slice ya0 ym0 yc0,.slice ya1 ym1 yc1,.slice ya2 ym2 yc2,.slice ya3 ym3 yc3],.agg #[.slice da0 V3.open_.length dc0,.slice da1 V3.lots.length dc1,.slice da2 V3.poss.length dc2,.slice da3 V3.lins.length dc3]] w12 _ from xq _ _ w12 ⟨.slice ya0 ym0 yc0,.slice ya1 ym1 yc1,.slice ya2 ym2 yc2,.slice ya3 ym3 yc3⟩ ⟨.slice da0 V3.open_.length dc0,.slice da1 V3.lots.length dc1,.slice da2 V3.poss.length dc2,.slice da3 V3.lins.length dc3⟩ V3 V3 Y12.out V13.out SM.out.vw SM.out.vw).mono ?_;rintro e w13 ⟨htb,hb13⟩;obtain rfl:=TB.pos rfl htb;have B13:=hid (cx FIN.out (cx B12.out hb13));clear htb hb13;go_wp2;go_ret;exact⟨by first|rfl|trivial,B13.out⟩
end
section
open Go.ChangeShapes Go.WideShapes Go.ChangeAt Go.RowKit
theorem zd:ownKnob Tryz.prog.godebug=none:=by kernel_rfl
theorem zf {H:Type}{enc:TypeId×Value→H}{P:Program}{w:World}{base fuel:Nat}{spare:Nat→Bool}{held:Bool}{t:TypeId}{cs:List Value}{x:DataW H×List MemPlace}{ms:Array (String×TypeId)}(ht:P.underlying t=some (.interface ms))
  (h:DataW.trod enc P w base spare held fuel t cs=some x):∃ev,cs=[ev]∧(ev = .nilIface∨∃te pe,ev = .iface te pe):=by
 cases fuel with
 | zero=>simp[DataW.trod]at h
 | succ n=>
  unfold DataW.trod at h;rw[ht]at h
  split at h<;>simp_all
theorem zg {W:World}{n:String}{g:Nat}{cs:Array Value}(hg:Tryz.prog.globalNamed n=some g)(hv:W.var? Tryz.prog n=some cs){fuel:Nat}{x:DataW Unit×List MemPlace}
  (h:DataW.trod (λ_=>()) Tryz.prog W 0 (λ_=>true) false fuel 135 cs.toList=some x):ErrIn W g:=by
 obtain⟨ev,hc,he⟩:=zf Tryz.underlying135 h;unfold World.var? at hv;rw[hg]at hv;simp only[Option.bind_some]at hv;refine⟨ev,?_,he⟩;cases hh:W.heap[g]? with
 | none=>rw[hh]at hv;cases hv
 | some o=>
  rw[hh]at hv;cases o with
  | cells c1 t1 z1=>
   have e:c1=cs:=Option.some.inj hv;subst e;have h0:c1[0]?=some ev:=by rw[← Array.getElem?_toList,hc];rfl
   simp[World.cell?,hh,h0]
  | _=>simp at hv
end
end Go.Proofs.YtaeakdichkhjaaaGreatDoor
