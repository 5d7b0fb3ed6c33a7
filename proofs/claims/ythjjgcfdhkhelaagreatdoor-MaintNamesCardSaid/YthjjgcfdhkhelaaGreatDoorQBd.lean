/- Init's way through. -/
import Derived.Shelf.Strings.BuilderF
import Derived.Test.YthjjgcfdhkhelaaGreatDoorQBc
import Derived.Test.YthjjgcfdhkhelaaGreatDoorQBb
set_option maxHeartbeats 4000000
set_option maxRecDepth 100000
open Go.Lib(hid)
open Go.Proofs.Tryz
namespace Go.Proofs.YthjjgcfdhkhelaaGreatDoor
section
open Go.RowKit
theorem wU (w wr:World)(p b:Nat)(st:cZ)(q:Nat)(hq:q≤1048576)(c:Cfg)(hc:kN c=true)(hdk:st.dark=false)(hno:(cM st.fs jh).isSome=false)(hp:Pow wr)(hbw:Below w.heap.size w wr)(hd:db wr p b st)(r:ByteArray)(hr:r.data.toList=iM q)(dB cB base:Nat)(hpb:p<w.heap.size∧b<w.heap.size)
  (hdB:w.heap.size≤dB∧dB<base) (hcB:w.heap.size≤cB∧cB<base) (hbase:base≤wr.heap.size)
  (k0:wr.cell? ⟨dB,0,none⟩=some (.pointer (some ⟨p,0,none⟩))) (c0:wr.cell? ⟨cB,0,none⟩=some (.int .i64 c.ss)) (c1:wr.cell? ⟨cB,1,none⟩=some (.int .i64 c.ev)) (c2:wr.cell? ⟨cB,2,none⟩=some (.int .u8 c.v))
  (v:Value) (ss:sL) (K:Nat→Prop) (hR:sV p b wr base v ss K) (hsl:ss.length≤64) (hac:ss.acts=st.fs.map λf=>kU f.name) {u0 u2 u4 u6 u7 u9 u10 u12 u13 u14 u15 u16 u17 u18 u19 u20 u21 u22 u23 u24 u25 u26 u27 u28 u29 u30 u31 u32 u33 u34 u35 u36 u37 u38 u39 u40 u41 u42 u43 u44 u45 u46 u47 u48 u49 u50 u51 u52 u53 u54 u55 u56 u57 u58 u59 u60 u61 u62 u63 u64 u65 u66 u67 u68 u69 u70 u71 u72 u73 u74 u75 u76 u77 u78 u79 u80 u81 u82 u83 u84 u85 u86 u87 u88 u89 u90 u91 u92 u93 u94 u95 u96 u97 u98 u99 u100:Value} :
  Code.wp prog (mq 7 (Tryz.f9.body.getD .skip)) (bodyPost prog Tryz.f9 λe w'=>tC p b (kY st (q:Int) c) w e w') { tmps:=(List.toArray (u0 :: .int .i64 (q:Int)::u2 :: .pointer (some ⟨dB,0,none⟩)::u4 :: .pointer (some ⟨cB,0,none⟩)::u6::u7 :: .string r::u9::u10::v::u12::u13::u14::u15::u16::u17::u18::u19::u20::u21::u22::u23::u24::u25::u26::u27::u28::u29::u30::u31::u32::u33::u34::u35::u36::u37::u38::u39::u40::u41::u42::u43::u44::u45::u46::u47::u48::u49::u50::u51::u52::u53::u54::u55::u56::u57::u58::u59::u60::u61::u62::u63::u64::u65::u66::u67::u68::u69::u70::u71::u72::u73::u74::u75::u76::u77::u78::u79::u80::u81::u82::u83::u84::u85::u86::u87::u88::u89::u90::u91::u92::u93::u94::u95::u96::u97::u98::u99::u100::[])),defers:=[] } wr:=by
 have hINIT:kY st (q:Int) c=if (kT (kX st q) st).2≠0 then ((kT (kX st q) st).1,(kT (kX st q) st).2,none) else ((kT (kX st q) st).1,0,some ⟨c,0,[(0,(q:Int))],[(q,[])]⟩):=by
  have hn:bW (q:Int)=true:=by unfold bW;simp;omega
  unfold kY;rw[if_neg (by rw[hc,hn];simp),hdk,hno];simp
 have HINIT:=hid hINIT;have HW:=hid hbw;have HD:=hid hd;have HRR:=hid hR;have HAC:=hid hac;have HC:=hid hc;have HR:=hid hr;have hws:=hbw.size;have hrs:r.size≤140737488355328:=by have h1:=ao hr;rw[iN]at h1;omega
 have HKK:=hid (And.intro k0 (And.intro c0 (And.intro c1 c2)));clear hINIT hbw hd hR hac hc hr hdk hno c0 c1 c2;obtain⟨hp1,hp2⟩:=hpb;obtain⟨hd1,hd2⟩:=hdB;obtain⟨hc1,hc2⟩:=hcB;obtain⟨a0,n0,p0,rfl⟩:=aB HRR.out.own;have hown:∀y,(Value.slice a0 n0 p0).ownBlock=some y→base≤y∧y<wr.heap.size:=λy e=>⟨gt HRR.out.own e,sT HRR.out.own e⟩;have HOWN:=hid hown;clear hown;have hmf:∀(fn:Fn) (first cap:Array Value) (w:World),(Instr.makeFunc fn first cap).run prog w = .ok (.func fn first cap) w:=λ_ _ _ _=>rfl
 conv=>arg 2;whnf
 go_wp2_with fail
 refine(cf _ hp 0 (q:Int)).mono ?_;rintro e w5 ⟨⟨nm,hnm,rfl⟩,hb5⟩;have hns:nm.size=20:=by have h1:=ao hnm;have h2:=kA 0 q (by omega) hq;simp at h2;omega
 have hnml:nm.size≤maxLen:=by unfold maxLen;omega
 have HNM:=hid hnm;have hs5:=hb5.size;have HB5:=hid hb5;have k0:=(hb5.cell (p:=⟨dB,0,none⟩) (aw k0)).trans k0;have hkl:=aw k0;clear hnm hns hb5
 go_wp2_with fail
 have hb6:=ek w5 (.cells #[.int .i64 0,.int .i64 (q:Int)] 48) (.cells #[.int .i64 0,.slice (some ⟨w5.heap.size,0,none⟩) 1 1] 42);have hs6:((w5.alloc (.cells #[.int .i64 0,.int .i64 (q:Int)] 48)).alloc (.cells #[.int .i64 0,.slice (some ⟨w5.heap.size,0,none⟩) 1 1] 42)).heap.size=w5.heap.size+2:=by simp
 have hE:((w5.alloc (.cells #[.int .i64 0,.int .i64 (q:Int)] 48)).alloc (.cells #[.int .i64 0,.slice (some ⟨w5.heap.size,0,none⟩) 1 1] 42)).heap[w5.heap.size]?=some (.cells #[.int .i64 0,.int .i64 (q:Int)] 48 (0,0)):=(Below.heap_alloc _ _ _ (by simp)).trans (fm _ _ rfl);have hM:((w5.alloc (.cells #[.int .i64 0,.int .i64 (q:Int)] 48)).alloc (.cells #[.int .i64 0,.slice (some ⟨w5.heap.size,0,none⟩) 1 1] 42)).heap[w5.heap.size+1]?=some (.cells #[.int .i64 0,.slice (some ⟨w5.heap.size,0,none⟩) 1 1] 42 (0,0)):=fm _ _ (by simp);have k0':=(hb6.cell (p:=⟨dB,0,none⟩) (aw k0)).trans k0
 generalize (w5.alloc (.cells #[.int .i64 0,.int .i64 (q:Int)] 48)).alloc (.cells #[.int .i64 0,.slice (some ⟨w5.heap.size,0,none⟩) 1 1] 42)=w6 at *
 have HE:=hid hE;have HM:=hid hM;have HB6:=hid hb6;have HS6:=hid hs6;have hl6:w5.heap.size+2≤w6.heap.size:=by omega
 clear hE hM hb6 hs6;refine(sO w6 p nm r hnml hrs (by omega) b (by omega)).mono ?_;rintro e w7 ⟨vb,lb,Kb,rfl,⟨gb,cb,rfl,hcb⟩,hlb,hab,hdb,hKb,hb7⟩;rw[hlb];have hs7:=hb7.size;have k0:=(hb7.cell (p:=⟨dB,0,none⟩) (aw k0')).trans k0';have HB7:=hid (HB5.out.trans ((HB6.out.trans (hb7.mono HB6.out.size)).mono hs5));have HE7:=hid ((hb7.block _ (by omega)).trans HE.out);have HM7:=hid ((hb7.block _ (by omega)).trans HM.out);have hR7:sV p b w7 base (.slice a0 n0 p0) ss K:=HRR.out.pure HB7.out;have HRO:=hid hR7.own;have HR7:=hid hR7;have HDB:=hid hdb;have HKB:=hid hKb;have HAB:=hid hab;have HLB:=hid hlb;have hlc:lb.cells.length=3*1:=by unfold sL.cells;rw[List.length_map,hlb]
 have hone:∀u∈lb.cells,u.oneCell'=true:=by
  intro u hu;obtain⟨y,_,rfl⟩:=List.mem_map.1 hu;rfl
 have HLC:=hid (And.intro hlc (And.intro hcb hone));obtain⟨i0,hi,hz0,hz1,hz2⟩:=info_parts Tryz.infoStep;have HI:=hid hi;have HZ0:=hid hz0;have HZ1:=hid hz1;have HZ2:=hid hz2;clear hi hz0 hz1 hz2 hlc hcb hone hlb hab hdb hKb hb7 hR7 k0';unfold sR at HRO
 go_wp2_with (first
  | (refine wpList_append_lies _ rfl _ _ 90 rfl base 93 i0 _ 1 8 underlying90 HI.out HZ0.out HZ1.out HZ2.out rfl (by omega) _ ss.length ss.cells rfl HRO.out ⟨gb,0,none⟩ 3 cb lb.cells rfl HLC.out.1 HLC.out.2.1 HLC.out.2.2 (by omega) (by unfold maxLen;omega) (by omega) (by omega) w7.heap.size rfl ?_;intro gg cap w8 hown8 hgrow8 hat8 hlt8;have F8:=sU hgrow8;have k0:=F8.cellAt k0 (λe=>by have:=HOWN.out _ e;omega)))
 have hz8:=hgrow8.size;have hR8:=HR7.out.more (l:=lb) HDB.out (λk hk=>⟨⟨(HKB.out k hk).2.1,(HKB.out k hk).2.2⟩,λe=>by have:=HOWN.out k e;have:=HKB.out k hk;omega⟩) hgrow8 (n:=ss.length+3) hown8 (by rw[HLB.out]) hat8;have HR8:=hid hR8;have hown8':∀y,(Value.slice (some ⟨gg,0,none⟩) (ss.length+3) cap).ownBlock=some y→y=gg:=λy e=>(Option.some.inj e).symm;have hg8:gg<wr.heap.size∧base≤gg∨gg=w7.heap.size:=hat8.imp (λe=>by have:=HOWN.out gg e;omega) id;have hE8:=F8.heapAt HE7.out (λe=>by have:=HOWN.out _ e;omega);have hM8:=F8.heapAt HM7.out (λe=>by have:=HOWN.out _ e;omega);have HE8:=hid hE8;have HM8:=hid hM8;have FX8:=hid ((Fr.pure (S:=λk=>base≤k) HB7.out).trans (F8.mono λk _ e=>(HOWN.out k e).1));clear F8 hR8 hE8 hM8 hown8 hgrow8;have hst0:=sQ w8 dB (w5.heap.size+1) p b 0 (.slice (some ⟨w5.heap.size,0,none⟩) 1 1) [(0,(q:Int))] k0 ((cell_of_row _ _ _ _ _ _ HM8.out).trans rfl) ((cell_of_row _ _ _ _ _ _ HM8.out).trans rfl)
  ⟨some ⟨w5.heap.size,0,none⟩,1,rfl,.inr ⟨w5.heap.size,0,rfl,λi hi=>by
   obtain rfl:i=0:=by simp at hi;omega
   exact⟨(cell_of_row _ _ _ _ _ _ HE8.out).trans rfl,(cell_of_row _ _ _ _ _ _ HE8.out).trans rfl⟩⟩⟩ (by simp) (λk=>k=dB∨k=w5.heap.size∨k=w5.heap.size+1) (λk hk=>by omega) (.inl rfl) (.inr (.inr rfl)) (λk hk=>.inr (.inl (Option.some.inj hk).symm))
 have HST0:=hid hst0;clear hst0
 go_wp2_with fail
 refine(sH w8 p nm hnml (by omega) b (by omega) (40,#[],#[.pointer (some ⟨dB,0,none⟩),.pointer (some ⟨w5.heap.size+1,0,none⟩)]) (λst=>jt st 0 [(0,(q:Int))]) _ HST0.out).mono ?_;rintro e w9 ⟨f',K',rfl,hb9,hst,hK'⟩;have HB9:=hid hb9;have HST:=hid hst;have HK':=hid hK';have hs9:=hb9.size;have hR9:=HR8.out.pure hb9;have HR9:=hid hR9;have HO9:=hid (World.ownsRow.alloc (show w9.ownsRow base 93 1 (.slice (some ⟨gg,0,none⟩) (ss.length+3) cap) (ss.length+3) (ss++lb).cells from by have h:=hR9.own;unfold sR at h;rw[List.length_append,HLB.out]at h;exact h) (.cells #[sC f'] 93));clear hb9 hst hK' hR9 k0;unfold sC at HO9 ⊢
 go_wp2_with (first
  | (refine wpList_append_lies _ rfl _ _ 90 rfl base 93 i0 _ 1 8 underlying90 HI.out HZ0.out HZ1.out HZ2.out rfl (by omega) _ (ss.length+3) (ss++lb).cells rfl HO9.out ⟨w9.heap.size,0,none⟩ 1 1 [.func (.func f'.1) f'.2.1 f'.2.2] rfl rfl (aC rfl rfl) (by simp[Value.oneCell']) (by omega) (by unfold maxLen;omega) (by omega) (by simp;omega) (w9.heap.size+1) (by simp) ?_;intro gh ch w10 hown10 hgrow10 hat10 hlt10))
 have hz10:=hgrow10.size;simp at hz10;have F10:=sU hgrow10;have hb9a:=(Below.refl w9.heap.size w9).alloc (Nat.le_refl _) (.cells #[.func (.func f'.1) f'.2.1 f'.2.2] 93);have hR10:=(HR9.out.pure hb9a).more (l:=[(f',kV nm.data.toList (λst=>jt st 0 [(0,(q:Int))]))]) (K2:=K') (λy hy=>by rw[List.mem_singleton.1 hy];exact HST.out.pure hb9a) (λk hk=>⟨⟨by have:=(HST.out.lt k hk).1;simp;omega,(HST.out.lt k hk).2⟩,λe=>by have e2:gg=k:=Option.some.inj e;subst e2;rcases HK'.out gg hk with h|h<;>omega⟩) hgrow10 (n:=ss.length+3+1) hown10 (by rw[List.length_append,HLB.out];rfl) (hat10.imp id λe=>by simp;omega);have HR10:=hid hR10;have hgo:∀k,k=dB∨k=cB∨k=p∨k=b∨k=w5.heap.size∨k=w5.heap.size+1→¬((Value.slice (some ⟨gg,0,none⟩) (ss.length+3) cap).ownBlock=some k):=λk hk e=>by have e2:gg=k:=Option.some.inj e;omega
 have hfx10:=((FX8.out.trans (Fr.pure HB9.out)).alloc (.cells #[.func (.func f'.1) f'.2.1 f'.2.2] 93)).trans (F10.mono λk _ e=>by have e2:gg=k:=Option.some.inj e;omega);have FX10:=hid hfx10;have hE10:=F10.heapAt (((Fr.pure (S:=λk=>(Value.slice (some ⟨gg,0,none⟩) (ss.length+3) cap).ownBlock=some k) HB9.out).alloc (.cells #[.func (.func f'.1) f'.2.1 f'.2.2] 93)).heapAt HE8.out (hgo _ (by omega))) (hgo _ (by omega));have hM10:=F10.heapAt (((Fr.pure (S:=λk=>(Value.slice (some ⟨gg,0,none⟩) (ss.length+3) cap).ownBlock=some k) HB9.out).alloc (.cells #[.func (.func f'.1) f'.2.1 f'.2.2] 93)).heapAt HM8.out (hgo _ (by omega))) (hgo _ (by omega));have HE10:=hid hE10;have HM10:=hid hM10;have hd10:db w10 p b st:=HD.out.kept FX10.out (by omega) (by omega);have HD10:=hid hd10;have hacts:sL.acts (ss++lb++[(f',kV nm.data.toList λst=>jt st 0 [(0,(q:Int))])])=kX st q:=by
  rw[sL.acts_append,sL.acts_append,HAC.out,HAB.out,HNM.out,HR.out,List.append_assoc];rfl
 have HACTS:=hid hacts;have hlen:(ss++lb++[(f',kV nm.data.toList λst=>jt st 0 [(0,(q:Int))])]).length=ss.length+4:=by
  rw[List.length_append,List.length_append,HLB.out];rfl
 have HLEN:=hid hlen;have HK0:=hid (FX10.out.cellAt HKK.out.1 (by omega));have hc0:=FX10.out.cellAt HKK.out.2.1 (by omega);have hc1:=FX10.out.cellAt HKK.out.2.2.1 (by omega);have hc2:=FX10.out.cellAt HKK.out.2.2.2 (by omega);have HCC:=hid (And.intro hc0 (And.intro hc1 hc2));clear F10 hb9a hR10 hfx10 hE10 hM10 hd10 hacts hlen hown10 hgrow10 hat10 hlt10 hat8 hlt8 hc0 hc1 hc2 hgo hmf
 go_wp2_with fail
 refine(sS w10 p b base st _ _ (by rw[HLEN.out];omega) (by rw[HLEN.out];omega) HR10.out.own _ HR10.out.acts HD10.out (by omega) (by omega)).mono ?_;rintro e w11 ⟨rfl,hd11,hf11⟩;rw[HACTS.out]at hd11 ⊢;obtain⟨RR,hRR⟩:∃RR,RR=kT (kX st q) st:=⟨_,rfl⟩;rw[← hRR]at hd11 ⊢;have HRES:=HINIT.out;rw[← hRR]at HRES;have HRES2:=hid HRES;clear HRES hRR;have HD11:=hid hd11;have HF10:dY p b w w10:=(HW.out.trans (FX10.out.below (B:=w.heap.size) (by omega) (λk hk=>by omega)) |> Fr.pure);have HF11:=hid (HF10.trans hf11);have k0:=hf11.cellAt HK0.out (by omega);have c0:=hf11.cellAt HCC.out.1 (by omega);have c1:=hf11.cellAt HCC.out.2.1 (by omega);have c2:=hf11.cellAt HCC.out.2.2 (by omega);have hE11:=hf11.heapAt HE10.out (by omega);have hM11:=hf11.heapAt HM10.out (by omega);have m0:=(cell_of_row _ _ 0 _ _ _ hM11).trans rfl;have m1:=(cell_of_row _ _ 1 _ _ _ hM11).trans rfl;have e0:=(cell_of_row _ _ 0 _ _ _ hE11).trans rfl;have e1:=(cell_of_row _ _ 1 _ _ _ hE11).trans rfl;have E0:=hid e0;have E1:=hid e1;have hel:=aw e0;clear hd11 hf11 HF10 hE11 hM11 e0 e1;by_cases h0:RR.2=0
 ·have HRES:=hid (HRES2.out.trans (if_neg (by simpa using h0)))
  rw[h0];clear h0;obtain⟨ev,hev0,hev1,hev2,hev3⟩:=tG HC.out;rw[← hev0]at c1;have HE0:=hid hev0;have HE3:=hid hev3;have hrs2:r.size≤1048576:=by have h1:=ao HR.out;rw[iN]at h1;omega
  clear hev0 hev3
  go_wp2_with fail
  refine(pM r ev w11 hrs2 hev1 hev2).mono ?_;rintro e w12 ⟨hb12,h|⟨_,x,sv,hx,hsv,hix,rfl⟩⟩
  ·rw[HR.out,tF hq]at h;exact absurd rfl h.1
  rw[HR.out,tF hq]at hix;have k0:=(hb12.cell (p:=⟨dB,0,none⟩) (aw k0)).trans k0;have c0:=(hb12.cell (p:=⟨cB,0,none⟩) (aw c0)).trans c0;have c1:=(hb12.cell (p:=⟨cB,1,none⟩) (aw c1)).trans c1;have c2:=(hb12.cell (p:=⟨cB,2,none⟩) (aw c2)).trans c2;have m0:=(hb12.cell (p:=⟨w5.heap.size+1,0,none⟩) (aw m0)).trans m0;have m1:=(hb12.cell (p:=⟨w5.heap.size+1,1,none⟩) (aw m1)).trans m1;have hk0:=aw k0;have hc0:=aw c0;have hm0:=aw m0;have HB12:=hid hb12;have HX:=hid hx;have HSV:=hid hsv;have HIX:=hid hix;clear hb12 hx hsv hix;go_wp2;refine bodyPost_ret (v:=.tuple #[.pointer (some ⟨w12.heap.size+1,0,none⟩),.int .i64 0]) (by simp[results,results9,go_sem]) rfl ?_;rw[HRES.out];exact tH w w11 w12 p b RR.1 q c ev HE0 HE3 HF11 HD11 w5.heap.size (by omega) E0 E1 hel HB12 x sv HX HSV HIX
 ·have HRES:=hid (HRES2.out.trans (if_pos (by simpa using h0)))
  have hne:(RR.2 == 0)=false:=by simpa using h0
  have hnn:(RR.2 != 0)=true:=by simpa using h0
  clear h0;go_wp2;refine bodyPost_ret (v:=.tuple #[.pointer none,.int .i64 RR.2]) (by simp[results,results9,go_sem]) rfl ?_;rw[HRES.out];exact⟨HD11.out,HF11.out,rfl⟩
end
end Go.Proofs.YthjjgcfdhkhelaaGreatDoor
namespace Go.Proofs.OwnYthjjgcfdhkhelaaGreatDoor
section
open Go Go.Shelf Go.Proofs Go.RowKit
theorem bw_f (B b:Nat)(bs:List Value)(s:ByteArray)(w:World)(h:Lib.IsBuilderF 252 5 B b bs w)(hlen:bs.length+s.size≤140737488355328)(hBw:B≤w.heap.size) :
  Calls prog 176 #[.pointer (some ⟨b,0,none⟩),.string s] w λe w'=>e = .returned (.tuple #[.int .i64 s.size,.nilIface])∧(Lib.BuilderAtF 252 5 B b (.pointer (some ⟨b,0,none⟩)) (bs++Lib.strCells s) w'∧Below B w w'):=Any.Builder_WriteString_f (ρ:=Tryz.lays105_ren) { Tryz.lays105 with } Tryz.Builder_Extra_105 B b bs s w h hlen hBw
theorem bl_f (B b:Nat)(bs:List Value)(w:World)(h:Lib.IsBuilderF 252 5 B b bs w) :
  Calls prog 177 #[.pointer (some ⟨b,0,none⟩)] w λe w'=>e = .returned (.int .i64 bs.length)∧w'=w:=Any.Builder_Len_f (ρ:=Tryz.lays105_ren) { Tryz.lays105 with } B b bs w h
theorem bs_f (B b:Nat)(l:List UInt8)(w:World)(h:Lib.IsBuilderF 252 5 B b (Lib.byteCells l) w)(hBw:B≤w.heap.size) :
  Calls prog 178 #[.pointer (some ⟨b,0,none⟩)] w λe w'=>e = .returned (.string ⟨l.toArray⟩)∧(Lib.IsBuilderF 252 5 B b (Lib.byteCells l) w'∧Below B w w'):=Any.Builder_String_any_f (ρ:=Tryz.lays105_ren) { Tryz.lays105 with } Tryz.Builder_Extra_105 B b l w h hBw
end
end Go.Proofs.OwnYthjjgcfdhkhelaaGreatDoor
namespace Go.Proofs.YthjjgcfdhkhelaaGreatDoor
section
open Go.RowKit
theorem wG (w:World)(q r:Nat)(F:Nat→Prop)(g p b:Nat)(st:cZ)(l:kR)(h:wn w F g p b st l)(i:Nat)(hi:i<l.segs.length)(hix:l.ix.length≤64)
  (hq:w.cell? ⟨q,0,none⟩=some (.pointer (some ⟨g,0,none⟩))) (hr:w.cell? ⟨r,0,none⟩=some (.int .i64 (i:Int))) :
  Calls prog 74 #[.pointer (some ⟨q,0,none⟩),.pointer (some ⟨r,0,none⟩)] w λe w'=>e = .returned (.int .i64 (lh i (st,l)).2)∧wv w F g p b (lh i (st,l)).1 w':=by
 have HS:=hid (wF w F g p b st l h i hi hix);clear h
 go_enter func74,ntmps74
 go_wp2_with fail
 refine HS.out.mono ?_;rintro e w1 ⟨rfl,hl⟩;have HL:=hid hl;clear hl hq hr HS;go_wp2;go_ret;exact⟨rfl,HL.out⟩
theorem wH (i:Nat)(st:cZ)(l:kR):(lh i (st,l)).1.2.segs=l.segs∧(lh i (st,l)).1.2.gen=l.gen∧(lh i (st,l)).1.2.cfg=l.cfg∧((lh i (st,l)).2=0→(lh i (st,l)).1.2.ix.length=l.ix.length+1):=by
 unfold lh;simp only
 split
 ·exact⟨rfl,rfl,rfl,λh=>by simp at h⟩
 split
 ·rename_i h1 h2
  exact⟨rfl,rfl,rfl,λh=>absurd h h2⟩
 split
 ·exact⟨rfl,rfl,rfl,λh=>by simp at h⟩
 split
 ·split<;>exact⟨rfl,rfl,rfl,λ_=>by simp⟩
 split
 ·exact⟨rfl,rfl,rfl,λ_=>by simp⟩
 split<;>exact⟨rfl,rfl,rfl,λ_=>by simp⟩
theorem wI {st:cZ}{n m:List UInt8}(h:(cM st.fs m).isSome)(hne:(n == m)=false):(cM (kU n st).1.fs m).isSome:=by
 have hd:(cM (cK st.fs n) m).isSome:=by
  unfold cM cK at *;rw[List.find?_isSome]at *;obtain⟨f,hf,hm⟩:=h;refine⟨f,List.mem_filter.2 ⟨hf,?_⟩,hm⟩;have e:f.name=m:=by simpa using hm
  rw[e];have:m≠n:=λe=>by rw[e]at hne;simp at hne
  simpa using this
 unfold kU eh;simp only
 split
 ·exact h
 split
 ·exact h
 unfold dZ
 split
 ·exact h
 ·exact hd
theorem wJ {st:cZ}{n:List UInt8}(h:∀f∈st.fs,1≤f.name.length):∀f∈(kU n st).1.fs,1≤f.name.length:=by
 unfold kU eh;simp only
 split
 ·exact h
 split
 ·exact h
 unfold dZ
 split
 ·exact h
 ·exact λf hf=>h f (List.mem_filter.1 hf).1
def wK (fg:FnV)(g q:Nat)(rs:List Nat):List FnV:=
 fg::(73,#[.pointer (some ⟨g,0,none⟩)],#[])::rs.map λr=>(74,#[],#[.pointer (some ⟨q,0,none⟩),.pointer (some ⟨r,0,none⟩)])
structure OpR (Wa:World) (F0:Nat→Prop) (g p b:Nat) (l0:kR) (k:Nat) (s:cZ×kR) (W:World):Prop where
 env:∃F,wn W F g p b s.1 s.2∧∀j,F j→F0 j∨Wa.heap.size≤j
 fr:Fr (λj=>F0 j∨j=p∨j=b) Wa W
 segs:s.2.segs=l0.segs
 ix:s.2.ix.length=k-2
 disk:k≤1→(cM s.1.fs jh).isSome∧∀f∈s.1.fs,1≤f.name.length
def OpF (Wa:World)(F0:Nat→Prop)(p b:Nat)(s:cZ×kR)(W:World):Prop:=db W p b s.1∧Fr (λj=>F0 j∨j=p∨j=b) Wa W
theorem wL {S T:Nat→Prop}{w w1 w2:World}(h:Fr S w w1)(h2:Fr T w1 w2)(hT:∀k,T k→S k∨w.heap.size≤k):Fr S w w2:=
 ws ((h.mono (λ_ _ e=>.inl e)).trans (h2.mono (λk _ e=>hT k e)))
theorem wM {fs:Fs}{n:List UInt8}(h:(cM fs n).isSome):0<fs.length:=by
 cases fs with
 | nil=>simp[cM]at h
 | cons a r=>simp
theorem wO (s:cZ×kR):(ld s).1.2=s.2:=by
 unfold ld
 split<;>rfl
theorem wP (n:Nat):(li n).length=n+2:=by unfold li;simp
theorem wQ (fg:FnV)(g q:Nat)(rs:List Nat):(wK fg g q rs).length=rs.length+2:=by unfold wK;simp
theorem wR (fg:FnV)(g q:Nat)(rs:List Nat)(i:Nat)(h:i+2<(wK fg g q rs).length)(hi:i<rs.length):(wK fg g q rs)[i+2]=(74,#[],#[.pointer (some ⟨q,0,none⟩),.pointer (some ⟨rs[i],0,none⟩)]):=by
 have e:wK fg g q rs=fg::(73,#[.pointer (some ⟨g,0,none⟩)],#[])::rs.map λr=>(74,#[],#[.pointer (some ⟨q,0,none⟩),.pointer (some ⟨r,0,none⟩)]):=rfl;rw[List.getElem_of_eq e h];simp
theorem wS (n i:Nat)(h:i+2<(li n).length):(li n)[i+2]=lh i:=by
 have e:li n=(λs=>((((kU jg s.1).1,s.2),(kU jg s.1).2):(cZ×kR)×Int))::ld::(List.range n).map lh:=rfl;rw[List.getElem_of_eq e h];simp
theorem wT (Wa:World)(F0:Nat→Prop)(g p b:Nat)(st0:cZ)(l0:kR)(hE:wn Wa F0 g p b st0 l0)(hix:l0.ix=[])(hfile:(cM st0.fs jh).isSome)(hne:∀f∈st0.fs,1≤f.name.length)
  (fg:FnV) (K:Nat→Prop) (hfg:sA p b Wa K fg (kU jg)) (hK:∀k,K k→¬F0 k) (q:Nat) (hq:Wa.cell? ⟨q,0,none⟩=some (.pointer (some ⟨g,0,none⟩))) (hqn:¬F0 q∧q≠p∧q≠b)
  (rs:List Nat) (hrl:rs.length=l0.segs.length) (hrs:∀i (h:i<rs.length),Wa.cell? ⟨rs[i],0,none⟩=some (.int .i64 (i:Int))∧¬F0 rs[i]∧rs[i]≠p∧rs[i]≠b)
  (bb c:Nat) (hbb:¬F0 bb∧bb≠p∧bb≠b) (hrow:∀i (h:i<(wK fg g q rs).length),Wa.cell? ⟨bb,0+i,none⟩=some (sC (wK fg g q rs)[i])) :
  Calls prog 41 #[.slice (some ⟨bb,0,none⟩) (rs.length+2) c] Wa λe w'=>e = .returned (.int .i64 (kT (li rs.length) (st0,l0)).2) ∧
   ((kT (li rs.length) (st0,l0)).2=0→OpR Wa F0 g p b l0 (rs.length+2) (kT (li rs.length) (st0,l0)).1 w')∧((kT (li rs.length) (st0,l0)).2≠0→OpF Wa F0 p b (kT (li rs.length) (st0,l0)).1 w'):=by
 have hlen:=wQ fg g q rs;have hmay:=(gm hE.may).2.2.2.1;have hlt:=hE.lt;have key:=sm (σ:=cZ×kR) (OpR Wa F0 g p b l0) (OpF Wa F0 p b) (wK fg g q rs) (li rs.length) bb 0 c (by rw[wP,hlen]) (by omega)
  (λi h=>by
    match i,h with
    | 0,_=>exact hfg.ent
    | 1,_=>exact enters_of func73 (by kernel_rfl) rfl
    | i+2,h=>
     have e:=wR fg g q rs i h (by omega);rw[e];exact enters_of func74 (by kernel_rfl) rfl)
  (λi h s W hR=>hR.fr.cellAt (hrow i h) (λe=>by rcases e with e|e|e;exact hbb.1 e;exact hbb.2.1 e;exact hbb.2.2 e))
  (λi s W W' hR hb=>by
    obtain⟨⟨F,h1,h2⟩,h3,h4,h5,h6⟩:=hR;exact⟨⟨F,h1.pure hb,h2⟩,h3.trans (Fr.pure hb),h4,h5,h6⟩)
  (λi h h' s W hR=>by
    obtain⟨⟨F,h1,h2⟩,h3,h4,h5,h6⟩:=hR;obtain⟨st,l⟩:=s;have hFp:∀k,(F k∨k=p∨k=b)→(F0 k∨k=p∨k=b)∨Wa.heap.size≤k:=λk hk=>by
     rcases hk with hk|hk|hk
     ·rcases h2 k hk with h|h
      ·exact .inl (.inl h)
      ·exact .inr h
     ·exact .inl (.inr (.inl hk))
     ·exact .inl (.inr (.inr hk))
    have hDp:∀k,(k=p∨k=b)→(F0 k∨k=p∨k=b)∨Wa.heap.size≤k:=λk hk=>.inl (.inr hk)
    match i,h,h' with
    | 0,_,_=>
     have hk:∀k,K k→W.heap[k]?=Wa.heap[k]?:=λk hk=>h3.block k (hfg.lt k hk).1 (λe=>by rcases e with e|e|e;exact hK k hk e;exact(hfg.lt k hk).2.1 e;exact(hfg.lt k hk).2.2 e);refine(hfg.does st W h1.dk hk).mono ?_;rintro e w' ⟨rfl,hd,hf⟩;exact⟨rfl,λ_=>⟨⟨F,h1.disk hd hf,h2⟩,wL h3 hf hDp,h4,h5,λ_=>⟨wI (h6 (by omega)).1 (by decide),wJ (h6 (by omega)).2⟩⟩,λ_=>⟨hd,wL h3 hf hDp⟩⟩
    | 1,_,_=>
     have ho:=h6 (Nat.le_refl 1);have hc:=wu W F g p b st l h1 (wM ho.1) ho.2;refine Calls.mono (P:=prog) (f:=73) (by simpa[wK]using hc) ?_;rintro e w' ⟨rfl,hd,hf⟩;have hlg:(ld (st,l)).1.2=l:=wO (st,l);refine⟨rfl,λ_=>⟨⟨F,?_,h2⟩,wL h3 hf hDp,?_,?_,λh=>absurd h (by decide)⟩,λ_=>⟨hd,wL h3 hf hDp⟩⟩
     ·show wn w' F g p b (ld (st,l)).1.1 (ld (st,l)).1.2
      rw[hlg];exact h1.disk hd hf
     ·show(ld (st,l)).1.2.segs=l0.segs
      rw[hlg];exact h4
     ·show(ld (st,l)).1.2.ix.length=1+1-2
      rw[hlg];exact h5
    | i+2,h,h'=>
     have hi:i<rs.length:=by omega
     have e:=wR fg g q rs i h hi;have e2:=wS rs.length i h';rw[e,e2];obtain⟨r1,r2,r3,r4⟩:=hrs i hi;have h4':l.segs=l0.segs:=h4;have h5':l.ix.length=i+2-2:=h5;have hnot:∀k,¬F0 k→k≠p→k≠b→¬(F0 k∨k=p∨k=b):=λk a1 a2 a3 e=>by rcases e with e|e|e;exact a1 e;exact a2 e;exact a3 e
     have hc:=wG W q rs[i] F g p b st l h1 i (by rw[h4'];omega) (by omega) (h3.cellAt hq (hnot _ hqn.1 hqn.2.1 hqn.2.2)) (h3.cellAt r1 (hnot _ r2 r3 r4));refine Calls.mono (P:=prog) (f:=74) (by simpa using hc) ?_;rintro e w' ⟨rfl,F',he,hf,hF'⟩;obtain⟨a1,a2,a3,a4⟩:=wH i st l;refine⟨rfl,λhz=>⟨⟨F',he,λk hk=>?_⟩,wL h3 hf hFp,a1.trans h4',?_,λh=>absurd h (by omega)⟩,λ_=>⟨he.dk,wL h3 hf hFp⟩⟩
     ·rcases hF' k hk with h|h
      ·exact h2 k h
      ·exact .inr (Nat.le_trans h3.size h)
     ·have:=a4 hz;omega)
  Wa (st0,l0) ⟨⟨F0,hE,λ_ h=>.inl h⟩,Fr.refl _ _,rfl,by simp[hix],λ_=>⟨hfile,hne⟩⟩
 rw[hlen]at key;exact key
theorem wV (w:World)(hp:Pow w)(p b:Nat)(st:cZ)(hd:db w p b st)(q:Nat)(hq:q≤1048576)(c:Cfg)(h0:0≤c.v)(h1:c.v≤255)(hc:kN c=true)(hdk:st.dark=false)(hno:(cM st.fs jh).isSome=false) :
  Calls prog 9 #[.pointer (some ⟨p,0,none⟩),.int .i64 (q:Int),.agg #[.int .i64 c.ss,.int .i64 c.ev,.int .u8 c.v]] w λe w'=>tC p b (kY st (q:Int) c) w e w':=by
 have hn:bW (q:Int)=true:=by unfold bW;simp;omega
 have hn':=hn;have HDK:=hid hdk;have HNO:=hid hno;have HP:=hid hp;clear hdk hno hp;have HD:=hid hd;have hpl:=hd.lt;have hbl:=hd.own.lt;clear hd
 go_enter func9,ntmps9
 go_wp2_with fail
 refine(oF (q:Int) _).mono ?_;rintro e w1 ⟨⟨r,hr,rfl⟩,hb1⟩;have hs1:=hb1.size;simp at hs1;have HB:=hid ((ek w (.cells #[.pointer (some ⟨p,0,none⟩)] 31) (.cells #[.int .i64 c.ss,.int .i64 c.ev,.int .u8 c.v] 24)).trans (hb1.mono (by simp;omega)));have k0:w1.cell? ⟨w.heap.size,0,none⟩=some (.pointer (some ⟨p,0,none⟩)):=by rw[hb1.cell (by simp;omega),World.cell?_alloc_past _ _ _ (by simp),World.cell?_alloc_at _ _ _ _ rfl];rfl
 have kc:∀j,w1.cell? ⟨w.heap.size+1,j,none⟩=(#[.int .i64 c.ss,.int .i64 c.ev,.int .u8 c.v]:Array Value)[j]?:=λj=>by rw[hb1.cell (by simp),World.cell?_alloc_at _ _ _ _ (by simp)]
 have k1:=kc 0;have k2:=kc 1;have k3:=kc 2;simp at k1 k2 k3;have HR0:=hid hr;clear hb1 hr kc;rw[tD,hn];have HC:=hid hc;clear hc hn;simp only[if_true]
 go_wp2_with (go_at_call 33;refine(th _ c h0 h1).mono ?_;rintro e w2 ⟨rfl,hb2⟩;rw[HC.out];have HB2:=hid (HB.out.trans (hb2.mono HB.out.size));have hs2:=hb2.size;have m0:=(hb2.cell (p:=⟨w.heap.size,0,none⟩) (show w.heap.size<w1.heap.size by omega)).trans k0;have m1:=(hb2.cell (p:=⟨w.heap.size+1,0,none⟩) (show w.heap.size+1<w1.heap.size by omega)).trans k1;have m2:=(hb2.cell (p:=⟨w.heap.size+1,1,none⟩) (show w.heap.size+1<w1.heap.size by omega)).trans k2;have m3:=(hb2.cell (p:=⟨w.heap.size+1,2,none⟩) (show w.heap.size+1<w1.heap.size by omega)).trans k3;clear hb2)
 refine(rY _ p b st (HD.out.pure HB2.out)).mono ?_;rintro e w3 ⟨hb3,hpost⟩;have HB3:=hid (HB2.out.trans (hb3.mono HB2.out.size));have hs3:=hb3.size;have n0:=(hb3.cell (p:=⟨w.heap.size,0,none⟩) (show w.heap.size<w2.heap.size by omega)).trans m0;have n1:=(hb3.cell (p:=⟨w.heap.size+1,0,none⟩) (show w.heap.size+1<w2.heap.size by omega)).trans m1;have n2:=(hb3.cell (p:=⟨w.heap.size+1,1,none⟩) (show w.heap.size+1<w2.heap.size by omega)).trans m2;have n3:=(hb3.cell (p:=⟨w.heap.size+1,2,none⟩) (show w.heap.size+1<w2.heap.size by omega)).trans m3;rw[HDK.out]at hpost;obtain⟨v,rfl,hv⟩:=hpost;have HV:=hid hv;clear hb3 hv
 go_wp2_with fail
 refine(tB _ _ v _ HV.out _ (by rw[List.length_map];have:=HD.out.ok.fs.few;omega)).mono ?_;rintro e w4 ⟨rfl,rfl⟩;rw[tE,show(⟨#[77,65,78,73,70,69,83,84]⟩:ByteArray).data.toList=jh from rfl,HNO.out];obtain⟨ga,gc,rfl,_,hrow⟩:=jf HV.out;have HR:=hid hrow;clear hrow k0 m0;have hnl:(st.fs.map (·.name)).length≤64:=by rw[List.length_map];exact HD.out.ok.fs.few
 have HNM:=hid (λt (ht:t∈st.fs.map (·.name))=>by obtain⟨f,hf,e⟩:=List.mem_map.1 ht;exact(e▸HD.out.ok.fs.names f hf:t.length≤24))
 generalize hns:st.fs.map (·.name)=ns at *
 have HNS:=hid hns;clear hns;have HK4:=hid n0;have HC4:=hid (And.intro n1 (And.intro n2 n3));clear n0 n1 n2 n3
 go_upto_block 2 with fail
 go_cut [11] (λlv wx=>∃(ss:sL) (K:Nat→Prop),sV p b wx w4.heap.size lv ss K∧ss.length=ns.length∧ss.acts=ns.map kU∧Below w4.heap.size w4 wx)
 case rest=>
  obtain⟨ss,K,hrow,hsl,hac,hbx⟩:=hcut;have hB:=HB3.out.trans (hbx.mono HB3.out.size);have hr0:r.data.toList=iM q:=by have h:=HR0.out;unfold hdF at h;rw[hn']at h;exact h
  have k0:=(hbx.cell (p:=⟨w.heap.size,0,none⟩) (aw HK4.out)).trans HK4.out;have c0:=(hbx.cell (p:=⟨w.heap.size+1,0,none⟩) (aw HC4.out.1)).trans HC4.out.1;have c1:=(hbx.cell (p:=⟨w.heap.size+1,1,none⟩) (aw HC4.out.2.1)).trans HC4.out.2.1;have c2:=(hbx.cell (p:=⟨w.heap.size+1,2,none⟩) (aw HC4.out.2.2)).trans HC4.out.2.2
  apply_assumption
  exact wU w wc p b st q hq c HC.out HDK.out HNO.out (bS hB HP.out) hB (HD.out.pure hB) r hr0 w.heap.size (w.heap.size+1) w4.heap.size ⟨hpl,hbl⟩ (by omega) (by omega) hbx.size k0 c0 c1 c2 _ ss K hrow (by omega) (by rw[hac,← HNS.out,List.map_map];rfl)
 case first=>
  have n0:=HK4.out
  go_wp2_with fail
  go_loopw [11,48] (λlv i wr=>∃(k:Nat) (ss:sL) (K:Nat→Prop),i = .int .i64 (k:Int)∧k≤ns.length∧sV p b wr w4.heap.size lv ss K∧ss.length=k∧ss.acts=(ns.take k).map kU∧Below w4.heap.size w4 wr) (λ_ i _=>ns.length-(intOf i).toNat)
  case atStart=>exact⟨0,[],λ_=>False,rfl,by omega,sV.nil _ _ _ _,rfl,rfl,Below.refl _ _⟩
  case round=>
  obtain⟨k,ss,K,rfl,hk,hrow,hsl,hacts,hb⟩:=hrel;have hsz:=hb.size;obtain⟨a0,n0',c0,rfl⟩:=aB hrow.own;have HRW:=hid hrow;have HAC:=hid hacts;have HBR:=hid hb;have q0:=(hb.cell (p:=⟨w.heap.size,0,none⟩) (show w.heap.size<w4.heap.size by omega)).trans n0;clear hrow hacts hb;by_cases hlt:k<ns.length
  ·obtain⟨g5,rfl,hg5,hcell⟩:=HR.out k hlt
   have hcell:=(HBR.out.cell (p:=⟨g5,k,none⟩) (aw hcell)).trans hcell;have hnk:=HNM.out _ (List.getElem_mem hlt);have HTK:=hid (show ns.take (k+1)=ns.take k++[ns[k]]from List.take_succ_eq_append_getElem hlt);obtain⟨x,hx⟩:∃x:ByteArray,x=⟨ns[k].toArray⟩:=⟨_,rfl⟩;have hxl:x.data.toList=ns[k]:=by rw[hx]
   rw[← hx]at hcell;rw[← hxl]at HTK hnk;clear hx hxl
   go_wp2_with fail
   refine(sE _ p x (by rw[ak]at hnk;unfold maxLen;omega) (by omega) b (by omega)).mono ?_;rintro e w5 ⟨f,K5,rfl,hb5,hst,hk5⟩;have HK5:=hid hk5;have HB5:=hid hb5;have HST:=hid hst;clear hb5 hst hk5;have hs5:=HB5.out.size;have HR5:=hid (HRW.out.pure HB5.out);have HO5:=hid (World.ownsRow.alloc (by have h:=HR5.out.own;unfold sR at h;rw[hsl]at h;exact h:w5.ownsRow w4.heap.size 93 1 (.slice a0 n0' c0) k ss.cells) (.cells #[sC f] 93));unfold sC at HO5 ⊢;obtain⟨i0,hi,hz0,hz1,hz2⟩:=info_parts Tryz.infoStep;have HI:=hid hi;have HZ0:=hid hz0;have HZ1:=hid hz1;have HZ2:=hid hz2;clear hi hz0 hz1 hz2
   go_wp2_with (first
    | (refine wpList_append_lies _ rfl _ _ 90 rfl w4.heap.size 93 i0 _ 1 8 underlying90 HI.out HZ0.out HZ1.out HZ2.out rfl (by omega) _ k _ rfl HO5.out ⟨w5.heap.size,0,none⟩ 1 1 [.func (.func f.1) f.2.1 f.2.2] rfl rfl (aC rfl rfl) (by simp[Value.oneCell']) (by omega) (by unfold maxLen;omega) (by omega) (by simp;omega) (w5.heap.size+1) (by simp) ?_;intro gg cap w8 hown8 hgrow8 hat8 hlt8))
   go_roundw
   case rel=>
    have hb8:Below w4.heap.size w4 w8:=((HBR.out.trans (HB5.out.mono hsz)).alloc (by omega) _).grown hgrow8 (by simp;omega) (λj e=>gt HRW.out.own (by exact e));have hb5a:=(Below.refl w5.heap.size w5).alloc (Nat.le_refl _) (.cells #[.func (.func f.1) f.2.1 f.2.2] 93);have hR8:=(HR5.out.pure hb5a).more (l:=[(f,kU x.data.toList)]) (K2:=K5) (λy hy=>by rw[List.mem_singleton.1 hy];exact HST.out.pure hb5a) (λy hy=>⟨⟨by have:=(HST.out.lt y hy).1;simp;omega,(HST.out.lt y hy).2⟩,λe=>by have h1:=sT HRW.out.own e;have:=HK5.out y hy;omega⟩) hgrow8 (n:=k+1) hown8 (by rw[hsl];rfl) (hat8.imp id λe=>by simp;omega);exact⟨k+1,_,_,by go_num,by omega,hR8,by rw[List.length_append,hsl];rfl,by rw[sL.acts_append,HAC.out,HTK.out,List.map_append];rfl,hb8⟩
   case measure=>simp[intOf];omega
  ·have hkn:k=ns.length:=by omega
   subst hkn;have HTK:=hid (show ns.take ns.length=ns from List.take_length);rw[HTK.out]at HAC;go_wp2
   go_meet
   exact⟨ss,K,HRW.out,hsl,HAC.out,HBR.out⟩
end
end Go.Proofs.YthjjgcfdhkhelaaGreatDoor
