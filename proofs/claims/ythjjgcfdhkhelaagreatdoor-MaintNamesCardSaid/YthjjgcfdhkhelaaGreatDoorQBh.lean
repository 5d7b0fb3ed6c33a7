/- The walk of store.Newest. -/
import Derived.Test.YthjjgcfdhkhelaaGreatDoorQBg
set_option maxHeartbeats 4000000
set_option maxRecDepth 100000
open Go.Lib(hid)
open Go.Proofs.Tryz
namespace Go.Proofs.YthjjgcfdhkhelaaGreatDoor
section
open Go.RowKit
theorem CE (l:List UInt8):fV (Crc.seal_ l):=by
 refine⟨by rw[Crc.seal_length];omega,?_⟩;rw[Crc.seal_length,Nat.add_sub_cancel];unfold Crc.seal_;rw[List.take_left'];rfl
theorem CF {A B C:List UInt8}{k n:Nat}(hA:A.length=k)(hB:B.length=n):(⟨k,0,0⟩:bc).take (A++(B++C)) n=(B,true,⟨k+n,0,0⟩):=by
 unfold bc.take;rw[if_neg (by simp),if_neg (by simp[hA,hB])];simp only;rw[List.drop_left' hA,List.take_left' hB]
def CG (q c:Nat):List UInt8:=[115,110,112,49]++be 8 q++be 4 (qP c).length++qP c
theorem CH (q c:Nat):(CG q c).length=29:=by unfold CG;simp[aF];rfl
theorem CI (q c:Nat):(⟨0,0,0⟩:bc).take (CG q c) 4=([115,110,112,49],true,⟨4,0,0⟩):=by
 have:=CF (A:=[]) (B:=[115,110,112,49]) (C:=be 8 q++(be 4 (qP c).length++qP c)) (k:=0) (n:=4) rfl rfl;unfold CG;simpa using this
theorem CJ (q c:Nat)(hq:q≤1048576):(⟨4,0,0⟩:bc).fixed (CG q c) 8=(q,⟨12,0,0⟩):=by
 have:=CF (A:=[115,110,112,49]) (B:=be 8 q) (C:=be 4 (qP c).length++qP c) (k:=4) (n:=8) rfl (aF 8 q);unfold bc.fixed;rw[show CG q c=[115,110,112,49]++(be 8 q++(be 4 (qP c).length++qP c))from by unfold CG;simp,this];simp only;rw[gZ 8 q (by omega)]
theorem CK (q c:Nat):(⟨12,0,0⟩:bc).fixed (CG q c) 4=(13,⟨16,0,0⟩):=by
 have:=CF (A:=[115,110,112,49]++be 8 q) (B:=be 4 (qP c).length) (C:=qP c) (k:=12) (n:=4) (by simp[aF]) (aF 4 _);unfold bc.fixed;rw[show CG q c=([115,110,112,49]++be 8 q)++(be 4 (qP c).length++qP c)from by unfold CG;simp,this];simp only;rw[gZ 4 _ (by show 13<_;decide)];rfl
theorem CL (q c:Nat):(CG q c).drop 16=qP c:=by
 unfold CG;rw[List.drop_left' (by simp[aF])]
theorem CM (q c:Nat)(hq:q≤1048576)(hc:c<128)(w:World)(s:ByteArray)(hs:s.data.toList=qQ q c) :
  Calls prog 143 #[.string s] w λe w'=>e = .returned (.tuple #[.int .i64 (q:Int),AZ (c:Int) 0 1 1,A5,.int .i64 0])∧Below w.heap.size w w':=by
 have hz:s.size=33:=by rw[ao hs];show(Crc.seal_ (CG q c)).length=33;rw[Crc.seal_length,CH]
 have HS:=hid hs;clear hs
 go_enter func143,ntmps143
 go_wp2_with fail
 obtain⟨n,hn⟩:∃n,n=w.heap.size:=⟨_,rfl⟩;obtain⟨W0,hW0⟩:∃W0,W0=(w.alloc (.cells #[.int .i64 0,.int .i64 0,.int .i64 0,.int .i64 0,.slice none 0 0,.slice none 0 0,.slice none 0 0,.slice none 0 0,.slice none 0 0] 56)).alloc (.cells #[.slice none 0 0,.slice none 0 0,.slice none 0 0,.slice none 0 0] 64):=⟨_,rfl⟩;have hbel:Below w.heap.size w W0:=by rw[hW0];exact((Below.refl _ _).alloc (Nat.le_refl _) _).alloc (by simp) _
 have k0:W0.heap[n]?=some (.cells #[.int .i64 0,.int .i64 0,.int .i64 0,.int .i64 0,.slice none 0 0,.slice none 0 0,.slice none 0 0,.slice none 0 0,.slice none 0 0] 56 (0,0)):=by rw[hW0,hn];exact(Below.heap_alloc _ _ _ (by simp<;>omega)).trans (heap_alloc_new _ _)
 have k1:W0.heap[n+1]?=some (.cells #[.slice none 0 0,.slice none 0 0,.slice none 0 0,.slice none 0 0] 64 (0,0)):=by rw[hW0,hn];exact yS _ _ (by simp)
 have K0:=hid k0;have K1:=hid k1;have HB:=hid hbel;have HN:=hid hn;rw[← hW0,← hn];clear hW0 hn k0 k1 hbel;refine(fW s W0 (by unfold maxLen;omega) (by rw[HS.out];exact CE _)).mono ?_;rintro e w1 ⟨t,ht,rfl,hb1⟩;have htx:t.data.toList=CG q c:=by
  rw[ht,HS.out,hz];show(Crc.seal_ (CG q c)).take 29=_;unfold Crc.seal_;rw[List.take_left' (CH q c)]
 have htz:t.size=29:=by rw[ao htx];exact CH q c
 have HT:=hid htx;have B1:=hid hb1;clear ht htx hb1
 go_wp2_with fail
 refine(bf t w1 (by omega)).mono ?_;rintro e w2 ⟨rfl,hr2,hb2⟩;obtain⟨p,hp⟩:∃p,p=w1.heap.size:=⟨_,rfl⟩;rw[← hp]at hr2 ⊢;have hpn:n+1<p:=by have:=lt_of_block K1.out;have:=B1.out.size;omega
 have R2:=hid hr2;have F2:=hid (show Fr (λk=>k=p) W0 w2 from Fr.pure (AY B1.out hb2));clear hr2 hb2 hp
 go_wp2_with fail
 refine(bu w2 p t _ R2.out 4 (by omega)).mono ?_;rw[HT.out,CI];rintro e w3 ⟨r,hr,rfl,hr3,hf3⟩;have hcmp:(r.toList == [115,110,112,49])=true:=by rw[ByteArray.toList_eq,hr];decide
 have hrz:r.size=4:=by rw[ao hr];rfl
 have R3:=hid hr3;have F3:=hid (F2.out.trans hf3);have HR:=hid hr;clear hr hr3 hf3
 go_wp2_with fail
 refine(bB w3 p t _ R3.out).mono ?_;rw[HT.out,CJ q c hq];rintro e w4 ⟨rfl,hr4,hf4⟩;have R4:=hid hr4;have F4:=hid (F3.out.trans hf4);clear hr4 hf4
 go_wp2_with fail
 refine(nt w4 p t _ R4.out).mono ?_;rw[HT.out,CK q c];rintro e w5 ⟨rfl,hr5,hf5⟩;have R5:=hid hr5;have F5:=hid (F4.out.trans hf5);clear hr5 hf5
 go_wp2_with fail
 refine(bD w5 p t _ R5.out).mono ?_;rintro e w6 ⟨rfl,n6,rfl⟩
 go_wp2_with fail
 refine(bE _ p t _ (R5.out.drewN _)).mono ?_;rintro e w7 ⟨rfl,n7,rfl⟩;obtain⟨W7,hW7⟩:∃W7,W7=(w5.drewN n6).drewN n7:=⟨_,rfl⟩;have F7:=hid (show Fr (λk=>k=p) W0 W7 from by rw[hW7];exact(F5.out.drewN _).drewN _);rw[← hW7];clear hW7 R5
 go_wp2_with fail
 refine(CD c hc W7 (t.extract 16 29) (by rw[ap,HT.out,CL];rfl)).mono ?_;rintro e w8 ⟨rfl,hb8⟩;have F8:=hid (F7.out.andPure hb8);have hl8:n+1<w8.heap.size:=by have:=lt_of_block K1.out;have:=F8.out.size;omega
 clear hb8;unfold AZ A5;go_wp2;obtain⟨W9,hW9⟩:∃W9,W9=(w8.alloc (.cells #[.int .i64 (c:Int),.int .i64 0,.int .i64 1,.int .i64 1,.slice none 0 0,.slice none 0 0,.slice none 0 0,.slice none 0 0,.slice none 0 0] 56)).alloc (.cells #[.slice none 0 0,.slice none 0 0,.slice none 0 0,.slice none 0 0] 64):=⟨_,rfl⟩;have hb9:Below w8.heap.size w8 W9:=by rw[hW9];exact((Below.refl _ _).alloc (Nat.le_refl _) _).alloc (by simp) _
 have F9:=hid (F8.out.andPure hb9);have P9:=hid (F9.out.heapAt K0.out (by omega));have Q9:=hid (F9.out.heapAt K1.out (by omega));have ks:W9.heap[w8.heap.size]?=some (.cells #[.int .i64 (c:Int),.int .i64 0,.int .i64 1,.int .i64 1,.slice none 0 0,.slice none 0 0,.slice none 0 0,.slice none 0 0,.slice none 0 0] 56 (0,0)):=by rw[hW9];exact(Below.heap_alloc _ _ _ (by simp)).trans (heap_alloc_new _ _)
 have kv:W9.heap[w8.heap.size+1]?=some (.cells #[.slice none 0 0,.slice none 0 0,.slice none 0 0,.slice none 0 0] 64 (0,0)):=by rw[hW9];exact yS _ _ (by simp)
 rw[← hW9];clear hW9 hb9;obtain⟨x0,x1,x2,x3,x4,x5,x6,x7,x8⟩:=Ct (ks);obtain⟨y0,y1,y2,y3⟩:=Cv (kv);obtain⟨p0,pf0,p1,pf1,p2,pf2,p3,pf3,p4,pf4,p5,pf5,p6,pf6,p7,pf7,p8,pf8⟩:=Cu (P9.out);obtain⟨q0,qf0,q1,qf1,q2,qf2,q3,qf3⟩:=Cw (Q9.out);have hwq:IntKind.i64.wrap (q:Int)=(q:Int):=by rw[IntKind.wrap_i64];omega
 go_region
 go_wp2;obtain⟨Wf,hWf,FA⟩:=CB P9.out Q9.out (.int .i64 (c:Int)) (.int .i64 0) (.int .i64 1) (.int .i64 1) (.slice none 0 0) (.slice none 0 0) (.slice none 0 0) (.slice none 0 0) (.slice none 0 0) (.slice none 0 0) (.slice none 0 0) (.slice none 0 0) (.slice none 0 0);rw[← hWf];clear hWf;have FA:=FA.drew;have hfr:=FA.fr;refine bodyPost_ret (v:=.tuple #[.int .i64 (q:Int),.agg #[.int .i64 (c:Int),.int .i64 0,.int .i64 1,.int .i64 1,.slice none 0 0,.slice none 0 0,.slice none 0 0,.slice none 0 0,.slice none 0 0],.agg #[.slice none 0 0,.slice none 0 0,.slice none 0 0,.slice none 0 0],.int .i64 0]) (by simp[results,results143,go_sem,FA.s0,FA.s1,FA.s2,FA.s3,FA.s4,FA.s5,FA.s6,FA.s7,FA.s8,FA.t0,FA.t1,FA.t2,FA.t3]) rfl ⟨rfl,?_⟩;have hnw:=HN.out;exact HB.out.trans ((F9.out.below (B:=w.heap.size) HB.out.size (λk hk e=>by omega)).trans (hfr.below (B:=w.heap.size) (by have:=HB.out.size;have:=F9.out.size;omega) (λk hk e=>by omega)))
def stZ:Value:=.agg #[.int .i64 0,.int .i64 0,.int .i64 0,.int .i64 0,.slice none 0 0,.slice none 0 0,.slice none 0 0,.slice none 0 0,.slice none 0 0]
theorem CN (x:Int)(w:World):Calls prog 186 #[.int .i64 x] w λe w'=>e = .returned (.tuple #[.int .i64 0,stZ,A5,.int .i64 x])∧Below w.heap.size w w':=by
 go_enter func186,ntmps186
 go_wp2;obtain⟨n,hn⟩:∃n,n=w.heap.size:=⟨_,rfl⟩;obtain⟨W0,hW0⟩:∃W0,W0=(w.alloc (.cells #[.int .i64 0,.int .i64 0,.int .i64 0,.int .i64 0,.slice none 0 0,.slice none 0 0,.slice none 0 0,.slice none 0 0,.slice none 0 0] 56)).alloc (.cells #[.slice none 0 0,.slice none 0 0,.slice none 0 0,.slice none 0 0] 64):=⟨_,rfl⟩;have hbel:Below w.heap.size w W0:=by rw[hW0];exact((Below.refl _ _).alloc (Nat.le_refl _) _).alloc (by simp) _
 have k0:W0.heap[n]?=some (.cells #[.int .i64 0,.int .i64 0,.int .i64 0,.int .i64 0,.slice none 0 0,.slice none 0 0,.slice none 0 0,.slice none 0 0,.slice none 0 0] 56 (0,0)):=by rw[hW0,hn];exact(Below.heap_alloc _ _ _ (by simp<;>omega)).trans (heap_alloc_new _ _)
 have k1:W0.heap[n+1]?=some (.cells #[.slice none 0 0,.slice none 0 0,.slice none 0 0,.slice none 0 0] 64 (0,0)):=by rw[hW0,hn];exact yS _ _ (by simp)
 rw[← hW0,← hn];obtain⟨o0,o1,o2,o3,o4,o5,o6,o7,o8⟩:=Ct (k0);obtain⟨u0,u1,u2,u3⟩:=Cv (k1);clear hW0;exact bodyPost_ret (v:=.tuple #[.int .i64 0,.agg #[.int .i64 0,.int .i64 0,.int .i64 0,.int .i64 0,.slice none 0 0,.slice none 0 0,.slice none 0 0,.slice none 0 0,.slice none 0 0],.agg #[.slice none 0 0,.slice none 0 0,.slice none 0 0,.slice none 0 0],.int .i64 x]) (by simp[results,results186,go_sem,o0,o1,o2,o3,o4,o5,o6,o7,o8,u0,u1,u2,u3]) rfl ⟨rfl,by rw[hn];exact hbel⟩
theorem CO (w:World)(s:ByteArray)(hs:s.size<4) :
  Calls prog 143 #[.string s] w λe w'=>e = .returned (.tuple #[.int .i64 0,stZ,A5,.int .i64 8])∧Below w.heap.size w w':=by
 have he:∀(args:Array Value) (w:World),(callFunc 186 args).run prog w = .ok (.enter 186 args) w:=enters_of func186 (by kernel_rfl) rfl
 go_enter func143,ntmps143
 go_wp2_with fail
 obtain⟨n,hn⟩:∃n,n=w.heap.size:=⟨_,rfl⟩;obtain⟨W0,hW0⟩:∃W0,W0=(w.alloc (.cells #[.int .i64 0,.int .i64 0,.int .i64 0,.int .i64 0,.slice none 0 0,.slice none 0 0,.slice none 0 0,.slice none 0 0,.slice none 0 0] 56)).alloc (.cells #[.slice none 0 0,.slice none 0 0,.slice none 0 0,.slice none 0 0] 64):=⟨_,rfl⟩;have hbel:Below w.heap.size w W0:=by rw[hW0];exact((Below.refl _ _).alloc (Nat.le_refl _) _).alloc (by simp) _
 have k0:W0.heap[n]?=some (.cells #[.int .i64 0,.int .i64 0,.int .i64 0,.int .i64 0,.slice none 0 0,.slice none 0 0,.slice none 0 0,.slice none 0 0,.slice none 0 0] 56 (0,0)):=by rw[hW0,hn];exact(Below.heap_alloc _ _ _ (by simp<;>omega)).trans (heap_alloc_new _ _)
 have k1:W0.heap[n+1]?=some (.cells #[.slice none 0 0,.slice none 0 0,.slice none 0 0,.slice none 0 0] 64 (0,0)):=by rw[hW0,hn];exact yS _ _ (by simp)
 have K0:=hid k0;have K1:=hid k1;have HB:=hid hbel;have HN:=hid hn;rw[← hW0,← hn];clear hW0 hn k0 k1 hbel;refine(fU s W0 hs).mono ?_;rintro e w1 ⟨rfl,rfl⟩
 go_wp2_with fail
 refine(CN 8 _).mono ?_;rintro e w2 ⟨rfl,hb2⟩;have P9:=hid ((hb2.block _ (lt_of_block K0.out)).trans K0.out);have Q9:=hid ((hb2.block _ (lt_of_block K1.out)).trans K1.out);have HB2:=hid hb2;obtain⟨p0,pf0,p1,pf1,p2,pf2,p3,pf3,p4,pf4,p5,pf5,p6,pf6,p7,pf7,p8,pf8⟩:=Cu (P9.out);obtain⟨q0,qf0,q1,qf1,q2,qf2,q3,qf3⟩:=Cw (Q9.out);clear hb2;unfold stZ A5;go_wp2;obtain⟨Wf,hWf,FA⟩:=CB P9.out Q9.out (.int .i64 0) (.int .i64 0) (.int .i64 0) (.int .i64 0) (.slice none 0 0) (.slice none 0 0) (.slice none 0 0) (.slice none 0 0) (.slice none 0 0) (.slice none 0 0) (.slice none 0 0) (.slice none 0 0) (.slice none 0 0);rw[← hWf];clear hWf;have hfr:=FA.fr;refine bodyPost_ret (v:=.tuple #[.int .i64 0,.agg #[.int .i64 0,.int .i64 0,.int .i64 0,.int .i64 0,.slice none 0 0,.slice none 0 0,.slice none 0 0,.slice none 0 0,.slice none 0 0],.agg #[.slice none 0 0,.slice none 0 0,.slice none 0 0,.slice none 0 0],.int .i64 8]) (by simp[results,results143,go_sem,FA.s0,FA.s1,FA.s2,FA.s3,FA.s4,FA.s5,FA.s6,FA.s7,FA.s8,FA.t0,FA.t1,FA.t2,FA.t3]) rfl ⟨rfl,?_⟩;have hnw:=HN.out;exact HB.out.trans ((HB2.out.mono HB.out.size).trans (hfr.below (B:=w.heap.size) (by have:=HB.out.size;have:=HB2.out.size;omega) (λk hk e=>by omega)))
end
section
open Go.RowKit Go.Sort Go.Shelf
def Reads (w:World)(dv:Value)(nm D:List UInt8)(code:Int):Prop:=∀(W:World) (r:ByteArray),Below w.heap.size w W→r.data.toList=nm →
 Calls prog 56 #[dv,.string r] W λe w'=>(∃d:ByteArray,d.data.toList=D∧e = .returned (.tuple #[.string d,.int .i64 code]))∧Below W.heap.size W w'
theorem Reads.pure {w w':World}{dv:Value}{nm D:List UInt8}{code:Int}(h:Reads w dv nm D code)(hb:Below w.heap.size w w'):Reads w' dv nm D code:=λW r hW hr=>h W r (AY hb hW) hr
theorem CU (w:World)(dv:Value)(hp:Pow w)(n:Int)(hn9:bW n=true)(hd:Reads w dv (qc n) [] 0) :
  Calls prog 78 #[dv,.int .i64 n] w λe w'=>e = .returned (.tuple #[.agg #[.int .i64 0,.int .i64 0,.int .i64 0,.int .i64 0,.slice none 0 0,.slice none 0 0,.slice none 0 0,.slice none 0 0,.slice none 0 0],.agg #[.slice none 0 0,.slice none 0 0,.slice none 0 0,.slice none 0 0],.int .i64 8])∧Below w.heap.size w w':=by
 have HD:=hid hd;clear hd
 go_enter func78,ntmps78
 go_wp2_with fail
 obtain⟨b,hn⟩:∃b,b=w.heap.size:=⟨_,rfl⟩;obtain⟨W0,hW0⟩:∃W0,W0=(w.alloc (.cells #[.int .i64 0,.int .i64 0,.int .i64 0,.int .i64 0,.slice none 0 0,.slice none 0 0,.slice none 0 0,.slice none 0 0,.slice none 0 0] 56)).alloc (.cells #[.slice none 0 0,.slice none 0 0,.slice none 0 0,.slice none 0 0] 64):=⟨_,rfl⟩;have hbel:Below w.heap.size w W0:=by rw[hW0];exact((Below.refl _ _).alloc (Nat.le_refl _) _).alloc (by simp) _
 have k0:W0.heap[b]?=some (.cells #[.int .i64 0,.int .i64 0,.int .i64 0,.int .i64 0,.slice none 0 0,.slice none 0 0,.slice none 0 0,.slice none 0 0,.slice none 0 0] 56 (0,0)):=by rw[hW0,hn];exact(Below.heap_alloc _ _ _ (by simp<;>omega)).trans (heap_alloc_new _ _)
 have k1:W0.heap[b+1]?=some (.cells #[.slice none 0 0,.slice none 0 0,.slice none 0 0,.slice none 0 0] 64 (0,0)):=by rw[hW0,hn];exact yS _ _ (by simp)
 have K0:=hid k0;have K1:=hid k1;have HB:=hid hbel;have HN:=hid hn;rw[← hW0,← hn];clear hW0 hn k0 k1 hbel;refine(xz W0 n).mono ?_;rintro e w1 ⟨rfl,rfl⟩;rw[hn9]
 go_wp2_with fail
 refine(xA W0 (bS HB.out hp) n).mono ?_;rintro e w1 ⟨⟨r,hr,rfl⟩,hb1⟩;have B1:=hid hb1;have HR:=hid hr;clear hb1 hr
 go_wp2_with fail
 refine(HD.out w1 r (HB.out.trans (B1.out.mono HB.out.size)) HR.out).mono ?_;rintro e w2 ⟨⟨d,hd,rfl⟩,hb2⟩;have B2:=hid (AY B1.out hb2);have HDD:=hid hd;clear hb2 hd
 go_wp2_with fail
 refine(CO w2 d (by rw[ao HDD.out];decide)).mono ?_;rintro e w3 ⟨rfl,hb3⟩;have B4:=hid (AY B2.out hb3);have hl3:b+1<w3.heap.size:=by have:=lt_of_block K1.out;have:=B4.out.size;omega
 have hl4:b<w3.heap.size:=by omega
 clear hb3;have P3:=(B4.out.block _ (lt_of_block K0.out)).trans K0.out;have Q3:=(B4.out.block _ (lt_of_block K1.out)).trans K1.out;obtain⟨p0,pf0,p1,pf1,p2,pf2,p3,pf3,p4,pf4,p5,pf5,p6,pf6,p7,pf7,p8,pf8⟩:=Cu (P3);obtain⟨q0,qf0,q1,qf1,q2,qf2,q3,qf3⟩:=Cw (Q3);have P3x:=hid P3;have Q3x:=hid Q3;unfold stZ A5;go_wp2;obtain⟨Wf,hWf,FA⟩:=CB P3x.out Q3x.out (.int .i64 0) (.int .i64 0) (.int .i64 0) (.int .i64 0) (.slice none 0 0) (.slice none 0 0) (.slice none 0 0) (.slice none 0 0) (.slice none 0 0) (.slice none 0 0) (.slice none 0 0) (.slice none 0 0) (.slice none 0 0);rw[← hWf];clear hWf;have FB:=λo1 o2=>FA.pure (Cz Wf o1 o2);refine bodyPost_ret (v:=.tuple #[.agg #[.int .i64 0,.int .i64 0,.int .i64 0,.int .i64 0,.slice none 0 0,.slice none 0 0,.slice none 0 0,.slice none 0 0,.slice none 0 0],.agg #[.slice none 0 0,.slice none 0 0,.slice none 0 0,.slice none 0 0],.int .i64 8]) (by simp[results,results78,go_sem,λa b=>(FB a b).s0,λa b=>(FB a b).s1,λa b=>(FB a b).s2,λa b=>(FB a b).s3,λa b=>(FB a b).s4,λa b=>(FB a b).s5,λa b=>(FB a b).s6,λa b=>(FB a b).s7,λa b=>(FB a b).s8,λa b=>(FB a b).t0,λa b=>(FB a b).t1,λa b=>(FB a b).t2,λa b=>(FB a b).t3]) rfl ⟨rfl,?_⟩;have hnw:=HN.out;exact HB.out.trans ((B4.out.mono HB.out.size).trans ((FB _ _).fr.below (B:=w.heap.size) (by have:=HB.out.size;have:=B4.out.size;omega) (λk hk e=>by omega)))
theorem CV (w:World)(dv:Value)(hp:Pow w)(q c:Nat)(hq:q≤1048576)(hcc:c<128)(hd:Reads w dv (qc (q:Int)) (qQ q c) 0) :
  Calls prog 78 #[dv,.int .i64 (q:Int)] w λe w'=>e = .returned (.tuple #[AZ (c:Int) 0 1 1,A5,.int .i64 0])∧Below w.heap.size w w':=by
 obtain⟨n,hnq⟩:∃n:Int,n=(q:Int):=⟨_,rfl⟩;rw[← hnq]at hd ⊢;have hn9:bW n=true:=by rw[hnq];unfold bW;simp;omega
 have HD:=hid hd;have HNQ:=hid hnq;clear hd hnq
 go_enter func78,ntmps78
 go_wp2_with fail
 obtain⟨b,hn⟩:∃b,b=w.heap.size:=⟨_,rfl⟩;obtain⟨W0,hW0⟩:∃W0,W0=(w.alloc (.cells #[.int .i64 0,.int .i64 0,.int .i64 0,.int .i64 0,.slice none 0 0,.slice none 0 0,.slice none 0 0,.slice none 0 0,.slice none 0 0] 56)).alloc (.cells #[.slice none 0 0,.slice none 0 0,.slice none 0 0,.slice none 0 0] 64):=⟨_,rfl⟩;have hbel:Below w.heap.size w W0:=by rw[hW0];exact((Below.refl _ _).alloc (Nat.le_refl _) _).alloc (by simp) _
 have k0:W0.heap[b]?=some (.cells #[.int .i64 0,.int .i64 0,.int .i64 0,.int .i64 0,.slice none 0 0,.slice none 0 0,.slice none 0 0,.slice none 0 0,.slice none 0 0] 56 (0,0)):=by rw[hW0,hn];exact(Below.heap_alloc _ _ _ (by simp<;>omega)).trans (heap_alloc_new _ _)
 have k1:W0.heap[b+1]?=some (.cells #[.slice none 0 0,.slice none 0 0,.slice none 0 0,.slice none 0 0] 64 (0,0)):=by rw[hW0,hn];exact yS _ _ (by simp)
 have K0:=hid k0;have K1:=hid k1;have HB:=hid hbel;have HN:=hid hn;rw[← hW0,← hn];clear hW0 hn k0 k1 hbel;refine(xz W0 n).mono ?_;rintro e w1 ⟨rfl,rfl⟩;rw[hn9]
 go_wp2_with fail
 refine(xA W0 (bS HB.out hp) n).mono ?_;rintro e w1 ⟨⟨r,hr,rfl⟩,hb1⟩;have B1:=hid hb1;have HR:=hid hr;clear hb1 hr
 go_wp2_with fail
 refine(HD.out w1 r (HB.out.trans (B1.out.mono HB.out.size)) HR.out).mono ?_;rintro e w2 ⟨⟨d,hd,rfl⟩,hb2⟩;have B2:=hid (AY B1.out hb2);have HDD:=hid hd;clear hb2 hd
 go_wp2_with fail
 refine(CM q c hq hcc w2 d HDD.out).mono ?_;rw[← HNQ.out];rintro e w3 ⟨rfl,hb3⟩;have B4:=hid (AY B2.out hb3);have hl3:b+1<w3.heap.size:=by have:=lt_of_block K1.out;have:=B4.out.size;omega
 have hl4:b<w3.heap.size:=by omega
 clear hb3;unfold AZ A5;go_wp2;obtain⟨W9,hW9⟩:∃W9,W9=(w3.alloc (.cells #[.int .i64 (c:Int),.int .i64 0,.int .i64 1,.int .i64 1,.slice none 0 0,.slice none 0 0,.slice none 0 0,.slice none 0 0,.slice none 0 0] 56)).alloc (.cells #[.slice none 0 0,.slice none 0 0,.slice none 0 0,.slice none 0 0] 64):=⟨_,rfl⟩;have hb9:Below w3.heap.size w3 W9:=by rw[hW9];exact((Below.refl _ _).alloc (Nat.le_refl _) _).alloc (by simp) _
 have B9:=hid (AY B4.out hb9);have P9:=hid ((B9.out.block _ (lt_of_block K0.out)).trans K0.out);have Q9:=hid ((B9.out.block _ (lt_of_block K1.out)).trans K1.out);have ks:W9.heap[w3.heap.size]?=some (.cells #[.int .i64 (c:Int),.int .i64 0,.int .i64 1,.int .i64 1,.slice none 0 0,.slice none 0 0,.slice none 0 0,.slice none 0 0,.slice none 0 0] 56 (0,0)):=by rw[hW9];exact(Below.heap_alloc _ _ _ (by simp)).trans (heap_alloc_new _ _)
 have kv:W9.heap[w3.heap.size+1]?=some (.cells #[.slice none 0 0,.slice none 0 0,.slice none 0 0,.slice none 0 0] 64 (0,0)):=by rw[hW9];exact yS _ _ (by simp)
 rw[← hW9];clear hW9 hb9;obtain⟨x0,x1,x2,x3,x4,x5,x6,x7,x8⟩:=Ct (ks);obtain⟨y0,y1,y2,y3⟩:=Cv (kv);obtain⟨p0,pf0,p1,pf1,p2,pf2,p3,pf3,p4,pf4,p5,pf5,p6,pf6,p7,pf7,p8,pf8⟩:=Cu (P9.out);obtain⟨q0,qf0,q1,qf1,q2,qf2,q3,qf3⟩:=Cw (Q9.out)
 go_region
 go_wp2;obtain⟨Wf,hWf,FA⟩:=CB P9.out Q9.out (.int .i64 (c:Int)) (.int .i64 0) (.int .i64 1) (.int .i64 1) (.slice none 0 0) (.slice none 0 0) (.slice none 0 0) (.slice none 0 0) (.slice none 0 0) (.slice none 0 0) (.slice none 0 0) (.slice none 0 0) (.slice none 0 0);rw[← hWf];clear hWf;have FA:=FA.drew;have hfr:=FA.fr;refine bodyPost_ret (v:=.tuple #[.agg #[.int .i64 (c:Int),.int .i64 0,.int .i64 1,.int .i64 1,.slice none 0 0,.slice none 0 0,.slice none 0 0,.slice none 0 0,.slice none 0 0],.agg #[.slice none 0 0,.slice none 0 0,.slice none 0 0,.slice none 0 0],.int .i64 0]) (by simp[results,results78,go_sem,FA.s0,FA.s1,FA.s2,FA.s3,FA.s4,FA.s5,FA.s6,FA.s7,FA.s8,FA.t0,FA.t1,FA.t2,FA.t3]) rfl ⟨rfl,?_⟩;have hnw:=HN.out;exact HB.out.trans ((B9.out.mono HB.out.size).trans (hfr.below (B:=w.heap.size) (by have:=HB.out.size;have:=B9.out.size;omega) (λk hk e=>by omega)))
end
section
open Go.RowKit Go.Shelf
attribute [local go_sem] Oper.semAt_some
def Db (T:Nat→Option Nat):List Nat→Value
 | []=>.tuple #[.int .i64 0,stZ,A5,.bool false,.int .i64 0]
 | n::r=>match T n with
  | some c=>.tuple #[.int .i64 (n:Int),AZ (c:Int) 0 1 1,A5,.bool true,.int .i64 0]
  | none=>Db T r
theorem Dc {T:Nat→Option Nat}:∀{l:List Nat},(∀m∈l,T m=none)→Db T l = .tuple #[.int .i64 0,stZ,A5,.bool false,.int .i64 0]
 | [],_=>rfl
 | n::r,h=>by
  unfold Db;rw[h n (by simp)];exact Dc (λm hm=>h m (by simp[hm]))
theorem Dd {T:Nat→Option Nat}{n c:Nat}{r:List Nat}:∀{l:List Nat},(∀m∈l,T m=none)→T n=some c→Db T (l++n::r) = .tuple #[.int .i64 (n:Int),AZ (c:Int) 0 1 1,A5,.bool true,.int .i64 0]
 | [],_,hn=>by
  show Db T (n::r)=_;unfold Db;rw[hn]
 | m::l,h,hn=>by
  show Db T (m::(l++n::r))=_;unfold Db;rw[h m (by simp)];exact Dd (λk hk=>h k (by simp[hk])) hn
theorem De (f t:Int)(L:List (Nat×Nat))(k:Nat):∃r,flt f t L=flt f t (L.take k)++r:=by
 refine⟨flt f t (L.drop k),?_⟩;unfold flt;rw[← List.filter_append,← List.map_append,List.take_append_drop]
def Df (st:cZ)(T:Nat→Option Nat)(n:Nat):Prop:=match T n with
 | some c=>c<128∧eI st (qc (n:Int))=(qQ n c,0)
 | none=>eI st (qc (n:Int))=([],0)
theorem Dg {w:World}{p b:Nat}{st:cZ}(h:db w p b st){nm D:List UInt8}{code:Int}(hd:eI st nm=(D,code))(hnm:nm.length≤100):Reads w (.pointer (some ⟨p,0,none⟩)) nm D code:=λW r hW hr=>by
 have h1:=eK W p b st (h.pure hW) r (by rw[ao hr];unfold maxLen;omega);rw[hr,hd]at h1;exact h1
theorem Dh (n:Int):(qc n).length≤100:=by
 unfold qc
 split
 ·rename_i hc
  rw[List.length_cons];have:=bX n 10 (by omega) (by omega);omega
 ·simp
structure NwAt (w W:World) (b p:Nat) (r0:Int) (C:Array Value) (V:Array Value) (ok:Bool):Prop where
 d:W.heap[b]?=some (.cells #[.pointer (some ⟨p,0,none⟩)] 31 (0,0))
 q:W.heap[b+1]?=some (.cells #[.int .i64 r0] 2 (0,0))
 s:W.heap[b+1+1]?=some (.cells C 56 (0,0))
 v:W.heap[b+1+1+1]?=some (.cells V 64 (0,0))
 i:W.heap[b+1+1+1+1]?=some (.cells #[.bool ok] 4 (0,0))
 e:W.heap[b+1+1+1+1+1]?=some (.cells #[.int .i64 0] 26 (0,0))
 below:Below b w W
theorem NwAt.fr {w W W':World}{b p:Nat}{r0:Int}{C V:Array Value}{ok:Bool}{S:Nat→Prop}(h:NwAt w W b p r0 C V ok)(hf:Fr S W W')(hS:∀k,k<b+6→¬S k):NwAt w W' b p r0 C V ok:=
 ⟨hf.heapAt h.d (hS _ (by omega)),hf.heapAt h.q (hS _ (by omega)),hf.heapAt h.s (hS _ (by omega)),hf.heapAt h.v (hS _ (by omega)),hf.heapAt h.i (hS _ (by omega)),hf.heapAt h.e (hS _ (by omega)),h.below.trans (hf.below (B:=b) (by have:=lt_of_block h.d;omega) (λk hk=>hS k (by omega)))⟩
def zC:Array Value:=#[.int .i64 0,.int .i64 0,.int .i64 0,.int .i64 0,.slice none 0 0,.slice none 0 0,.slice none 0 0,.slice none 0 0,.slice none 0 0]
def zV:Array Value:=#[.slice none 0 0,.slice none 0 0,.slice none 0 0,.slice none 0 0]
theorem Di (w:World)(hl:xB w)(p bk:Nat)(st:cZ)(h:db w p bk st)(hd:st.dark=false)(f t:Int)(T:Nat→Option Nat)(hT:∀n∈qp (st.fs.map (·.name)),Df st T n)(hN:∀n∈qp (st.fs.map (·.name)),n≤1048576) :
  Calls prog 22 #[.pointer (some ⟨p,0,none⟩),.int .i64 f,.int .i64 t] w λe w'=>e = .returned (Db T (C4 f t (qp (st.fs.map (·.name)))))∧Below w.heap.size w w':=by
 have hnl:(qp (st.fs.map (·.name))).length≤64:=by have:=qs (st.fs.map (·.name));have:=h.ok.fs.few;rw[List.length_map]at *;omega
 obtain⟨ns,hns⟩:∃ns,ns=qp (st.fs.map (·.name)):=⟨_,rfl⟩;rw[← hns]at hT hN hnl ⊢;have HNS:=hid hns;have HT:=hid hT;have HNN:=hid hN;have HL:=hid hl;have H:=hid h;clear hT hN hl h hns;refine(callsIn_wide (n:=6)).1 ?_;refine callsIn_of_wp_marks func22 rfl trivial ?_ rfl;simp only[ntmps22,List.size_toArray,List.length_cons,List.length_nil,Nat.reduceAdd,Nat.reduceSub,Array.replicate_succ,Array.replicate_zero,List.push_toArray,List.append_toArray,List.nil_append,List.cons_append]
 gi_wp2_with fail
 obtain⟨b,hb⟩:∃b,b=w.heap.size:=⟨_,rfl⟩;obtain⟨W0,hW0⟩:∃W0,W0=(((((w.alloc (.cells #[.pointer (some ⟨p,0,none⟩)] 31)).alloc (.cells #[.int .i64 0] 2)).alloc (.cells #[.int .i64 0,.int .i64 0,.int .i64 0,.int .i64 0,.slice none 0 0,.slice none 0 0,.slice none 0 0,.slice none 0 0,.slice none 0 0] 56)).alloc (.cells #[.slice none 0 0,.slice none 0 0,.slice none 0 0,.slice none 0 0] 64)).alloc (.cells #[.bool false] 4)).alloc (.cells #[.int .i64 0] 26):=⟨_,rfl⟩;have hbel:Below b w W0:=by rw[hW0,hb];exact((((((Below.refl _ _).alloc (Nat.le_refl _) _).alloc (by simp) _).alloc (by simp<;>omega) _).alloc (by simp<;>omega) _).alloc (by simp<;>omega) _).alloc (by simp<;>omega) _
 have n0:NwAt w W0 b p 0 zC zV false:=⟨by rw[hW0,hb];exact(Below.heap_alloc _ _ _ (by simp<;>omega)).trans ((Below.heap_alloc _ _ _ (by simp<;>omega)).trans ((Below.heap_alloc _ _ _ (by simp<;>omega)).trans ((Below.heap_alloc _ _ _ (by simp<;>omega)).trans ((Below.heap_alloc _ _ _ (by simp<;>omega)).trans (heap_alloc_new _ _))))),by rw[hW0,hb];exact(Below.heap_alloc _ _ _ (by simp<;>omega)).trans ((Below.heap_alloc _ _ _ (by simp<;>omega)).trans ((Below.heap_alloc _ _ _ (by simp<;>omega)).trans ((Below.heap_alloc _ _ _ (by simp<;>omega)).trans (yS _ _ (by simp))))),by rw[hW0,hb];exact(Below.heap_alloc _ _ _ (by simp<;>omega)).trans ((Below.heap_alloc _ _ _ (by simp<;>omega)).trans ((Below.heap_alloc _ _ _ (by simp<;>omega)).trans (yS _ _ (by simp)))),by rw[hW0,hb];exact(Below.heap_alloc _ _ _ (by simp<;>omega)).trans ((Below.heap_alloc _ _ _ (by simp<;>omega)).trans (yS _ _ (by simp))),by rw[hW0,hb];exact(Below.heap_alloc _ _ _ (by simp<;>omega)).trans (yS _ _ (by simp)),by rw[hW0,hb];exact yS _ _ (by simp),hbel⟩;rw[← hW0,← hb];have hbw:Below w.heap.size w W0:=by rw[← hb];exact hbel
 have L0:=hid (HL.out.pure hbw);have K0:=hid (H.out.pure hbw);have N0:=hid n0;have HB:=hid hb;have hpb:p<b:=by rw[hb];exact H.out.lt
 have hkb:bk<b:=by rw[hb];exact H.out.own.lt
 clear hW0 hbel n0 hbw hb;refine⟨trivial,?_⟩;refine(callsIn_wide.2 (CS W0 L0.out p bk st K0.out)).mono ?_;rintro e w1 ⟨hb1,h1⟩;rw[hd,if_neg (by decide)]at h1;obtain⟨v,rfl,hown⟩:=h1;rw[← HNS.out]at hown;obtain⟨ga,gc,rfl,hrow⟩:=CT hown;have N1:=hid (N0.out.fr (Fr.pure (S:=λ_=>False) hb1) (λ_ _ h=>h));have L1:=hid (L0.out.pure hb1);have K1:=hid (K0.out.pure hb1);have ROW1:=hid (λi (hi:i<ns.length)=>by
  obtain⟨g,h1,h2,h3⟩:=hrow i hi;exact(⟨g,h1,by have:=lt_of_block N0.out.e;omega,h3⟩:∃g,ga=some ⟨g,0,none⟩∧g≠b+1+1+1+1+1∧w1.cell? ⟨g,i,none⟩=some (.int .i64 (ns[i]:Int))))
 have ce:w1.cell? ⟨b+1+1+1+1+1,0,none⟩=some (.int .i64 0):=(cell_of_row _ _ _ _ _ _ N1.out.e).trans rfl;have ze:w1.frozen? ⟨b+1+1+1+1+1,0,none⟩=false:=frozen_of_row _ _ 0 _ _ N1.out.e;clear hb1 hown hrow N0 L0 K0
 gi_wp2_with fail
 refine⟨trivial,?_⟩;refine(callsIn_wide.2 (C7 ga ns.length gc f t _)).mono ?_;rintro e w2 ⟨rfl,rfl⟩
 gi_wp2
 have hbs:b+6≤w1.heap.size:=by have:=lt_of_block N1.out.e;omega
 obtain⟨W2,hW2⟩:∃W2,W2=(((w1.setCell ⟨b+1+1+1+1+1,0,none⟩ (.int .i64 0)).alloc (.cells #[.slice ga ns.length gc] 126)).alloc (.cells #[.int .i64 f] 2)).alloc (.cells #[.int .i64 t] 2):=⟨_,rfl⟩;have hz2:W2.heap.size=w1.heap.size+3:=by rw[hW2];simp
 have hs:Fr (λk=>k=b+1+1+1+1+1) w1 W2:=by rw[hW2];exact(((dK (w:=w1) ⟨b+1+1+1+1+1,0,none⟩ (.int .i64 0)).alloc _).alloc _).alloc _
 have er:W2.heap[b+1+1+1+1+1]?=some (.cells #[.int .i64 0] 26 (0,0)):=by rw[hW2];exact(Below.heap_alloc _ _ _ (by simp<;>omega)).trans ((Below.heap_alloc _ _ _ (by simp<;>omega)).trans ((Below.heap_alloc _ _ _ (by simp<;>omega)).trans (one_setCell N1.out.e)))
 have k0:W2.heap[w1.heap.size]?=some (.cells #[.slice ga ns.length gc] 126 (0,0)):=by rw[hW2];exact(Below.heap_alloc _ _ _ (by simp<;>omega)).trans ((Below.heap_alloc _ _ _ (by simp<;>omega)).trans (yS _ _ (by simp)))
 have k1:W2.heap[w1.heap.size+1]?=some (.cells #[.int .i64 f] 2 (0,0)):=by rw[hW2];exact(Below.heap_alloc _ _ _ (by simp<;>omega)).trans (yS _ _ (by simp))
 have k2:W2.heap[w1.heap.size+2]?=some (.cells #[.int .i64 t] 2 (0,0)):=by rw[hW2];exact yS _ _ (by simp)
 have n2:NwAt w W2 b p 0 zC zV false:=⟨hs.heapAt N1.out.d (by omega),hs.heapAt N1.out.q (by omega),hs.heapAt N1.out.s (by omega),hs.heapAt N1.out.v (by omega),hs.heapAt N1.out.i (by omega),er,N1.out.below.trans (hs.below (B:=b) (by omega) (λk hk e=>by omega))⟩;have ROW2:=hid (λi (hi:i<ns.length)=>by
  obtain⟨g,h1,h2,h3⟩:=ROW1.out i hi;exact(⟨g,h1,hs.cellAt h3 (by omega)⟩:∃g,ga=some ⟨g,0,none⟩∧W2.cell? ⟨g,i,none⟩=some (.int .i64 (ns[i]:Int))))
 have K2:=hid (And.intro k0 (And.intro k1 k2));have N2:=hid n2;rw[← hW2];clear hW2 hs er k0 k1 k2 n2 ROW1 N1 L1 K1 ce ze;have HBD:=hid (λ(Wx:World) (hb:Below b w Wx)=>(by rw[HB.out]at hb;exact⟨HL.out.pure hb,H.out.pure hb⟩:xB Wx∧db Wx p bk st));refine yW (n:=6) rfl (by omega) (gf:=141) rfl trivial (enters_of func141 (by kernel_rfl) rfl)
  (Da W2 w1.heap.size ga gc f t ns hnl K2.out.1 K2.out.2.1 K2.out.2.2 ROW2.out) ⟨λh=>by omega,λh=>by omega⟩
  (λh k=>h.trans k) (λWx o h=>(Fr.refl (λk=>k=W2.heap.size+1) Wx).putObj _ (λ_=>rfl) o) (λh k=>(h.mono (λ_ _ e=>by omega)).trans k) (λA Wx o h=>h.putObj _ (λ_=>by omega) o) (λ_=>rfl)
  (λpre Wx=>(∀m∈pre,T m=none)∧NwAt w Wx b p 0 zC zV false)
  (λcd pre Wx=>cd = .ret∧∃ini m c,pre=ini++[m]∧(∀k∈ini,T k=none)∧T m=some c∧NwAt w Wx b p (m:Int) (stC (c:Int) 0 1 1) zV true) ?bears ?bearsX ⟨λ_ h=>(by simp at h),N2.out⟩
  (λpre x a' Wx=>((∀m∈pre,T m=none)∧NwAt w Wx b p 0 zC zV false) ∧
    a'={ tmps:=#[.pointer (some ⟨p,0,none⟩),.int .i64 f,.int .i64 t,.pointer (some ⟨b,0,none⟩),undef,undef,.pointer (some ⟨b+1,0,none⟩),.pointer (some ⟨b+1+1,0,none⟩),.pointer (some ⟨b+1+1+1,0,none⟩),.pointer (some ⟨b+1+1+1+1,0,none⟩),.pointer (some ⟨b+1+1+1+1+1,0,none⟩),.slice ga ns.length gc,.int .i64 (x:Int),undef,undef,undef,
     .tuple #[.slice ga ns.length gc,.int .i64 0],.pointer (some ⟨p,0,none⟩),.tuple #[.slice ga ns.length gc,.int .i64 0],.slice ga ns.length gc,.int .i64 0,.int .i64 0,.bool false,undef,undef,undef,.slice ga ns.length gc,.int .i64 f,.int .i64 t,
     .func (.func 141) #[] #[.pointer (some ⟨w1.heap.size,0,none⟩),.pointer (some ⟨w1.heap.size+1,0,none⟩),.pointer (some ⟨w1.heap.size+2,0,none⟩)],.int .i64 (x:Int),undef,undef,undef,undef,undef,undef,undef,undef,undef,undef,undef,undef,undef,undef],defers:=[] })
  ?hA ?assign ?body ?done ?stop
 case bears=>
  rintro pre A B ⟨h1,h2⟩ hf;exact⟨h1,h2.fr hf (λk hk e=>by rcases e with e|e|e<;>omega)⟩
 case bearsX=>
  rintro cd pre A B ⟨h1,ini,m,c,h2,h3,h4,h5⟩ hf;exact⟨h1,ini,m,c,h2,h3,h4,h5.fr hf (λk hk e=>by rcases e with e|e|e<;>omega)⟩
 case hA=>
  rintro pre x a' Wx o hlt ⟨⟨h1,h2⟩,h3⟩;exact⟨⟨h1,h2.fr ((Fr.refl (λk=>k=W2.heap.size+1) Wx).putObj _ (λ_=>rfl) o) (λk hk e=>by omega)⟩,h3⟩
 case assign=>
  intro pre x Wx K _ hlt hI hK;have HI:=hid hI;have HK:=hid hK;clear hI hK;unfold C8
  gi_wp2
  exact HK.out _ _ ⟨HI.out,rfl⟩ (m8.refl _ _) (Nat.le_refl _) (Fr.refl _ _)
 case body=>
  rintro pre x a' Wx hqx hlt ⟨⟨h1,h2⟩,rfl⟩ hlen;have hx:=HT.out x hqx;have hxn:=HNN.out x hqx;obtain⟨lx,kx⟩:=HBD.out Wx h2.below;unfold Df at hx;have HP:=hid h1;have NX:=hid h2;have LX:=hid lx;have KX:=hid kx;have cd:Wx.cell? ⟨b,0,none⟩=some (.pointer (some ⟨p,0,none⟩)):=(cell_of_row _ _ _ _ _ _ h2.d).trans rfl;clear h1 h2 lx kx hqx;cases hTx:T x
  ·rw[hTx]at hx
   have HX:=hid hx;have HTX:=hid hTx;clear hx hTx
   gi_wp2_with fail
   refine⟨trivial,?_⟩;refine(CallsIn.inRound _ (callsIn_wide.2 (CU Wx (.pointer (some ⟨p,0,none⟩)) LX.out.pow (x:Int) (by unfold bW;simp;omega) (Dg KX.out HX.out (Dh _))))).mono ?_;rintro e w3 ⟨rfl,hb3⟩;have B3:=hid hb3;clear hb3
   gi_wp2
   have hfr:Fr (λ_=>False) Wx ((w3.alloc (.cells #[.int .i64 0,.int .i64 0,.int .i64 0,.int .i64 0,.slice none 0 0,.slice none 0 0,.slice none 0 0,.slice none 0 0,.slice none 0 0] 56)).alloc (.cells #[.slice none 0 0,.slice none 0 0,.slice none 0 0,.slice none 0 0] 64)):=((Fr.pure B3.out).alloc _).alloc _;refine⟨m8.fr hfr hlt (λh=>h) (λh=>h),hfr.mono (λ_ _ e=>e.elim),λm hm=>?_,NX.out.fr hfr (λ_ _ h=>h)⟩
   rcases List.mem_append.1 hm with h|h
   ·exact HP.out m h
   ·rw[List.mem_singleton.1 h];exact HTX.out
  ·rename_i c
   rw[hTx]at hx;have hcc:=hx.1;have HX:=hid hx.2;have HTX:=hid hTx;clear hx hTx
   gi_wp2_with fail
   refine⟨trivial,?_⟩;refine(CallsIn.inRound _ (callsIn_wide.2 (CV Wx (.pointer (some ⟨p,0,none⟩)) LX.out.pow x c hxn hcc (Dg KX.out HX.out (Dh _))))).mono ?_;rintro e w3 ⟨rfl,hb3⟩;have B3:=hid hb3;clear hb3;unfold AZ A5
   gi_wp2
   obtain⟨W4,hW4⟩:∃W4,W4=(w3.alloc (.cells #[.int .i64 (c:Int),.int .i64 0,.int .i64 1,.int .i64 1,.slice none 0 0,.slice none 0 0,.slice none 0 0,.slice none 0 0,.slice none 0 0] 56)).alloc (.cells #[.slice none 0 0,.slice none 0 0,.slice none 0 0,.slice none 0 0] 64):=⟨_,rfl⟩;have hf4:Fr (λ_=>False) Wx W4:=by rw[hW4];exact((Fr.pure B3.out).alloc _).alloc _
   have ks:W4.heap[w3.heap.size]?=some (.cells #[.int .i64 (c:Int),.int .i64 0,.int .i64 1,.int .i64 1,.slice none 0 0,.slice none 0 0,.slice none 0 0,.slice none 0 0,.slice none 0 0] 56 (0,0)):=by rw[hW4];exact(Below.heap_alloc _ _ _ (by simp)).trans (heap_alloc_new _ _)
   have kv:W4.heap[w3.heap.size+1]?=some (.cells #[.slice none 0 0,.slice none 0 0,.slice none 0 0,.slice none 0 0] 64 (0,0)):=by rw[hW4];exact yS _ _ (by simp)
   have N4:=hid (NX.out.fr hf4 (λ_ _ h=>h));have F4:=hid hf4;rw[← hW4];clear hW4 hf4;obtain⟨x0,x1,x2,x3,x4,x5,x6,x7,x8⟩:=Ct (ks);obtain⟨y0,y1,y2,y3⟩:=Cv (kv);have q0:=(cell_of_row _ (b+1) 0 _ _ _ (N4.out.q)).trans (show _=some (.int .i64 0)from rfl);have qf0:=frozen_of_row _ (b+1) 0 _ _ (N4.out.q);obtain⟨s0,sf0,s1,sf1,s2,sf2,s3,sf3,s4,sf4,s5,sf5,s6,sf6,s7,sf7,s8,sf8⟩:=Cu (N4.out.s);obtain⟨v0,vf0,v1,vf1,v2,vf2,v3,vf3⟩:=Cw (N4.out.v);have i0:=(cell_of_row _ (b+1+1+1+1) 0 _ _ _ (N4.out.i)).trans (show _=some (.bool false)from rfl);have if0:=frozen_of_row _ (b+1+1+1+1) 0 _ _ (N4.out.i);have e0:=(cell_of_row _ (b+1+1+1+1+1) 0 _ _ _ (N4.out.e)).trans (show _=some (.int .i64 0)from rfl);have ef0:=frozen_of_row _ (b+1+1+1+1+1) 0 _ _ (N4.out.e);clear ks kv;have hlt3:b+1+1+1+1+1<w3.heap.size:=by have:=lt_of_block NX.out.e;have:=B3.out.size;omega
   obtain⟨Wa,hWa⟩:∃Wa,Wa=W4.setCell ⟨b+1,0,none⟩ (.int .i64 (x:Int)):=⟨_,rfl⟩;obtain⟨Wb,hWb⟩:∃Wb,Wb=Ch Wa (b+1+1) (.int .i64 (c:Int)) (.int .i64 0) (.int .i64 1) (.int .i64 1) (.slice none 0 0) (.slice none 0 0) (.slice none 0 0) (.slice none 0 0) (.slice none 0 0):=⟨_,rfl⟩;obtain⟨Wc,hWc⟩:∃Wc,Wc=Ck Wb (b+1+1+1) (.slice none 0 0) (.slice none 0 0) (.slice none 0 0) (.slice none 0 0):=⟨_,rfl⟩;obtain⟨Wd,hWd⟩:∃Wd,Wd=Wc.setCell ⟨b+1+1+1+1,0,none⟩ (.bool true):=⟨_,rfl⟩;obtain⟨We,hWe⟩:∃We,We=Wd.setCell ⟨b+1+1+1+1+1,0,none⟩ (.int .i64 0):=⟨_,rfl⟩;obtain⟨Wf,hWf⟩:∃Wf,Wf=We.drew:=⟨_,rfl⟩;have fa:Fr (λk=>k=b+1) W4 Wa:=by rw[hWa];exact dK (w:=W4) ⟨b+1,0,none⟩ _
   have fb:Fr (λk=>k=b+1+1) Wa Wb:=by rw[hWb];exact Ci Wa (b+1+1) (.int .i64 (c:Int)) (.int .i64 0) (.int .i64 1) (.int .i64 1) (.slice none 0 0) (.slice none 0 0) (.slice none 0 0) (.slice none 0 0) (.slice none 0 0)
   have fc:Fr (λk=>k=b+1+1+1) Wb Wc:=by rw[hWc];exact Cl Wb (b+1+1+1) (.slice none 0 0) (.slice none 0 0) (.slice none 0 0) (.slice none 0 0)
   have fd:Fr (λk=>k=b+1+1+1+1) Wc Wd:=by rw[hWd];exact dK (w:=Wc) ⟨b+1+1+1+1,0,none⟩ _
   have fe:Fr (λk=>k=b+1+1+1+1+1) Wd We:=by rw[hWe];exact dK (w:=Wd) ⟨b+1+1+1+1+1,0,none⟩ _
   have ra:Wa.heap[b+1]?=some (.cells #[.int .i64 (x:Int)] 2 (0,0)):=by rw[hWa];exact one_setCell N4.out.q
   have rb:Wb.heap[b+1+1]?=some (.cells #[.int .i64 (c:Int),.int .i64 0,.int .i64 1,.int .i64 1,.slice none 0 0,.slice none 0 0,.slice none 0 0,.slice none 0 0,.slice none 0 0] 56 (0,0)):=by rw[hWb];exact Cj (.int .i64 (c:Int)) (.int .i64 0) (.int .i64 1) (.int .i64 1) (.slice none 0 0) (.slice none 0 0) (.slice none 0 0) (.slice none 0 0) (.slice none 0 0) (fa.heapAt N4.out.s (by omega))
   have rc:Wc.heap[b+1+1+1]?=some (.cells #[.slice none 0 0,.slice none 0 0,.slice none 0 0,.slice none 0 0] 64 (0,0)):=by rw[hWc];exact Cm (.slice none 0 0) (.slice none 0 0) (.slice none 0 0) (.slice none 0 0) (fb.heapAt (fa.heapAt N4.out.v (by omega)) (by omega))
   have rd:Wd.heap[b+1+1+1+1]?=some (.cells #[.bool true] 4 (0,0)):=by rw[hWd];exact one_setCell (fc.heapAt (fb.heapAt (fa.heapAt N4.out.i (by omega)) (by omega)) (by omega))
   have re:We.heap[b+1+1+1+1+1]?=some (.cells #[.int .i64 0] 26 (0,0)):=by rw[hWe];exact one_setCell (fd.heapAt (fc.heapAt (fb.heapAt (fa.heapAt N4.out.e (by omega)) (by omega)) (by omega)) (by omega))
   have hfr:Fr (λk=>b+1≤k∧k≤b+1+1+1+1+1) W4 Wf:=by
    rw[hWf];exact(((((fa.mono (λ_ _ e=>by omega)).trans (fb.mono (λ_ _ e=>by omega))).trans (fc.mono (λ_ _ e=>by omega))).trans (fd.mono (λ_ _ e=>by omega))).trans (fe.mono (λ_ _ e=>by omega))).drew
   have hd6:NwAt w Wf b p (x:Int) (stC (c:Int) 0 1 1) zV true:=by
    refine⟨hfr.heapAt N4.out.d (by omega),?_,?_,?_,?_,?_,N4.out.below.trans (hfr.below (B:=b) (by have:=lt_of_block N4.out.d;omega) (λk hk e=>by omega))⟩
    ·rw[hWf];exact fe.heapAt (fd.heapAt (fc.heapAt (fb.heapAt ra (by omega)) (by omega)) (by omega)) (by omega)
    ·rw[hWf];exact fe.heapAt (fd.heapAt (fc.heapAt rb (by omega)) (by omega)) (by omega)
    ·rw[hWf];exact fe.heapAt (fd.heapAt rc (by omega)) (by omega)
    ·rw[hWf];exact fe.heapAt rd (by omega)
    ·rw[hWf];exact re
   have hxf:Fr (λk=>b+1≤k∧k≤b+1+1+1+1+1) Wx Wf:=(F4.out.mono (λ_ _ e=>e.elim)).trans hfr;clear fa fb fc fd fe ra rb rc rd re;have FIN:=hid (show m8 W2.heap.size Wx Wf∧Fr (λk=>k≤W2.heap.size+1) Wx Wf∧Code.ret = .ret∧∃(ini:List Nat) (m c':Nat),pre++[x]=ini++[m]∧(∀k∈ini,T k=none)∧T m=some c'∧NwAt w Wf b p (m:Int) (stC (c':Int) 0 1 1) zV true from⟨m8.fr hxf hlt (by omega) (by omega),hxf.mono (λ_ _ e=>by omega),rfl,pre,x,c,rfl,HP.out,HTX.out,hd6⟩);unfold Ch at hWb;unfold Ck at hWc;rw[hWe,hWd,hWc,hWb,hWa]at hWf;have EQ:=hid hWf;clear hWa hWb hWc hWd hWe hWf hfr hd6 hxf N4 F4 B3 hz2;have hmix:prog.follows .mixedOrders=true:=by kernel_rfl
   gi_region_with_o (fail)
   all_goals gi_wp2
   all_goals (have hq:=EQ.out;rw[← hq];obtain⟨g1,g2,_,ini,m,c9,e1,e2,e3,e4⟩:=FIN.out;first|exact⟨g1,g2,rfl,ini,m,e1,e2,c9,e3,e4⟩|exact⟨g1,g2,rfl,ini,m,c9,e1,e2,e3,e4⟩)
 case done=>
  rintro xs Wx rfl ⟨h1,h2⟩ hK;have HV:=hid (Dc h1);have NX:=hid h2;have HK:=hid hK;clear h1 h2 hK;have q0:=(cell_of_row _ (b+1) 0 _ _ _ (NX.out.q)).trans (show _=some (.int .i64 0)from rfl);have qf0:=frozen_of_row _ (b+1) 0 _ _ (NX.out.q);obtain⟨s0,sf0,s1,sf1,s2,sf2,s3,sf3,s4,sf4,s5,sf5,s6,sf6,s7,sf7,s8,sf8⟩:=Cu (NX.out.s);obtain⟨v0,vf0,v1,vf1,v2,vf2,v3,vf3⟩:=Cw (NX.out.v);have i0:=(cell_of_row _ (b+1+1+1+1) 0 _ _ _ (NX.out.i)).trans (show _=some (.bool false)from rfl);have if0:=frozen_of_row _ (b+1+1+1+1) 0 _ _ (NX.out.i);have e0:=(cell_of_row _ (b+1+1+1+1+1) 0 _ _ _ (NX.out.e)).trans (show _=some (.int .i64 0)from rfl);have ef0:=frozen_of_row _ (b+1+1+1+1+1) 0 _ _ (NX.out.e)
  gi_wp2
  obtain⟨Wa,hWa⟩:∃Wa,Wa=Wx.setCell ⟨b+1,0,none⟩ (.int .i64 0):=⟨_,rfl⟩;obtain⟨Wb,hWb⟩:∃Wb,Wb=Ch Wa (b+1+1) (.int .i64 0) (.int .i64 0) (.int .i64 0) (.int .i64 0) (.slice none 0 0) (.slice none 0 0) (.slice none 0 0) (.slice none 0 0) (.slice none 0 0):=⟨_,rfl⟩;obtain⟨Wc,hWc⟩:∃Wc,Wc=Ck Wb (b+1+1+1) (.slice none 0 0) (.slice none 0 0) (.slice none 0 0) (.slice none 0 0):=⟨_,rfl⟩;obtain⟨Wd,hWd⟩:∃Wd,Wd=Wc.setCell ⟨b+1+1+1+1,0,none⟩ (.bool false):=⟨_,rfl⟩;obtain⟨We,hWe⟩:∃We,We=Wd.setCell ⟨b+1+1+1+1+1,0,none⟩ (.int .i64 0):=⟨_,rfl⟩;have fa:Fr (λk=>k=b+1) Wx Wa:=by rw[hWa];exact dK (w:=Wx) ⟨b+1,0,none⟩ _
  have fb:Fr (λk=>k=b+1+1) Wa Wb:=by rw[hWb];exact Ci Wa (b+1+1) (.int .i64 0) (.int .i64 0) (.int .i64 0) (.int .i64 0) (.slice none 0 0) (.slice none 0 0) (.slice none 0 0) (.slice none 0 0) (.slice none 0 0)
  have fc:Fr (λk=>k=b+1+1+1) Wb Wc:=by rw[hWc];exact Cl Wb (b+1+1+1) (.slice none 0 0) (.slice none 0 0) (.slice none 0 0) (.slice none 0 0)
  have fd:Fr (λk=>k=b+1+1+1+1) Wc Wd:=by rw[hWd];exact dK (w:=Wc) ⟨b+1+1+1+1,0,none⟩ _
  have fe:Fr (λk=>k=b+1+1+1+1+1) Wd We:=by rw[hWe];exact dK (w:=Wd) ⟨b+1+1+1+1+1,0,none⟩ _
  have ra:Wa.heap[b+1]?=some (.cells #[.int .i64 0] 2 (0,0)):=by rw[hWa];exact one_setCell NX.out.q
  have rb:Wb.heap[b+1+1]?=some (.cells #[.int .i64 0,.int .i64 0,.int .i64 0,.int .i64 0,.slice none 0 0,.slice none 0 0,.slice none 0 0,.slice none 0 0,.slice none 0 0] 56 (0,0)):=by rw[hWb];exact Cj (.int .i64 0) (.int .i64 0) (.int .i64 0) (.int .i64 0) (.slice none 0 0) (.slice none 0 0) (.slice none 0 0) (.slice none 0 0) (.slice none 0 0) (fa.heapAt NX.out.s (by omega))
  have rc:Wc.heap[b+1+1+1]?=some (.cells #[.slice none 0 0,.slice none 0 0,.slice none 0 0,.slice none 0 0] 64 (0,0)):=by rw[hWc];exact Cm (.slice none 0 0) (.slice none 0 0) (.slice none 0 0) (.slice none 0 0) (fb.heapAt (fa.heapAt NX.out.v (by omega)) (by omega))
  have rd:Wd.heap[b+1+1+1+1]?=some (.cells #[.bool false] 4 (0,0)):=by rw[hWd];exact one_setCell (fc.heapAt (fb.heapAt (fa.heapAt NX.out.i (by omega)) (by omega)) (by omega))
  have re:We.heap[b+1+1+1+1+1]?=some (.cells #[.int .i64 0] 26 (0,0)):=by rw[hWe];exact one_setCell (fd.heapAt (fc.heapAt (fb.heapAt (fa.heapAt NX.out.e (by omega)) (by omega)) (by omega)) (by omega))
  have hfr:Fr (λk=>b+1≤k∧k≤b+1+1+1+1+1) Wx We:=((((fa.mono (λ_ _ e=>by omega)).trans (fb.mono (λ_ _ e=>by omega))).trans (fc.mono (λ_ _ e=>by omega))).trans (fd.mono (λ_ _ e=>by omega))).trans (fe.mono (λ_ _ e=>by omega));have hd6:NwAt w We b p 0 zC zV false:=⟨hfr.heapAt NX.out.d (by omega),fe.heapAt (fd.heapAt (fc.heapAt (fb.heapAt ra (by omega)) (by omega)) (by omega)) (by omega),fe.heapAt (fd.heapAt (fc.heapAt rb (by omega)) (by omega)) (by omega),fe.heapAt (fd.heapAt rc (by omega)) (by omega),fe.heapAt rd (by omega),re,NX.out.below.trans (hfr.below (B:=b) (by have:=lt_of_block NX.out.d;omega) (λk hk e=>by omega))⟩;have HK2:=hid (hfr.heapAt HK.out (by omega));clear fa fb fc fd fe ra rb rc rd re;unfold Ch at hWb;unfold Ck at hWc;rw[← hWa,← hWb,← hWc,← hWd,← hWe];refine⟨by simp,.inl ⟨_,_,rfl,run_takeDeferred HK2.out,?_⟩⟩;have hf9:Fr (λk=>k=W2.heap.size) We (We.putObj W2.heap.size (.deferred none)):=(Fr.refl (λk=>k=W2.heap.size) We).putObj _ (λ_=>rfl) _;have NF:=hd6.fr hf9 (λk hk e=>by omega);clear q0 qf0 i0 if0 e0 ef0;have o0:=(cell_of_row _ (b+1) 0 _ _ _ (NF.q)).trans (show _=some (.int .i64 0)from rfl);obtain⟨s0,s1,s2,s3,s4,s5,s6,s7,s8⟩:=Ct (NF.s);obtain⟨v0,v1,v2,v3⟩:=Cv (NF.v);have i0:=(cell_of_row _ (b+1+1+1+1) 0 _ _ _ (NF.i)).trans (show _=some (.bool false)from rfl);have e0:=(cell_of_row _ (b+1+1+1+1+1) 0 _ _ _ (NF.e)).trans (show _=some (.int .i64 0)from rfl);refine⟨.tuple #[.int .i64 0,.agg #[.int .i64 0,.int .i64 0,.int .i64 0,.int .i64 0,.slice none 0 0,.slice none 0 0,.slice none 0 0,.slice none 0 0,.slice none 0 0],.agg #[.slice none 0 0,.slice none 0 0,.slice none 0 0,.slice none 0 0],.bool false,.int .i64 0],by simp[results,results22,go_sem,o0,s0,s1,s2,s3,s4,s5,s6,s7,s8,v0,v1,v2,v3,i0,e0],by rw[HV.out];rfl,?_⟩;rw[← HB.out];exact NF.below
 case stop=>
  rintro cd pre Wx ⟨k,hk,hne⟩ ⟨rfl,ini,m,c,h1,h2,h3,h4⟩ hK;have HV:=hid (show Db T (C4 f t ns) = .tuple #[.int .i64 (m:Int),AZ (c:Int) 0 1 1,A5,.bool true,.int .i64 0]from by
   obtain⟨r,hr⟩:=De f t (bwL ns) k;show Db T (flt f t (bwL ns))=_;rw[hr,← hk,h1,List.append_assoc];exact Dd h2 h3)
  have NX:=hid h4;have HK:=hid hK;clear h1 h2 h3 h4 hK hk hne
  gi_wp2
  refine⟨by simp,.inl ⟨_,_,rfl,run_takeDeferred HK.out,?_⟩⟩;have hf9:Fr (λk=>k=W2.heap.size) Wx (Wx.putObj W2.heap.size (.deferred none)):=(Fr.refl (λk=>k=W2.heap.size) Wx).putObj _ (λ_=>rfl) _;have NF:=NX.out.fr hf9 (λk hk e=>by omega);have o0:=(cell_of_row _ (b+1) 0 _ _ _ (NF.q)).trans (show _=some (.int .i64 (m:Int))from rfl);obtain⟨s0,s1,s2,s3,s4,s5,s6,s7,s8⟩:=Ct (NF.s);obtain⟨v0,v1,v2,v3⟩:=Cv (NF.v);have i0:=(cell_of_row _ (b+1+1+1+1) 0 _ _ _ (NF.i)).trans (show _=some (.bool true)from rfl);have e0:=(cell_of_row _ (b+1+1+1+1+1) 0 _ _ _ (NF.e)).trans (show _=some (.int .i64 0)from rfl);refine⟨.tuple #[.int .i64 (m:Int),.agg #[.int .i64 (c:Int),.int .i64 0,.int .i64 1,.int .i64 1,.slice none 0 0,.slice none 0 0,.slice none 0 0,.slice none 0 0,.slice none 0 0],.agg #[.slice none 0 0,.slice none 0 0,.slice none 0 0,.slice none 0 0],.bool true,.int .i64 0],by simp[results,results22,go_sem,o0,s0,s1,s2,s3,s4,s5,s6,s7,s8,v0,v1,v2,v3,i0,e0],by rw[HV.out];rfl,?_⟩;rw[← HB.out];exact NF.below
end
end Go.Proofs.YthjjgcfdhkhelaaGreatDoor
