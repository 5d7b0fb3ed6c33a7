/- The walk of store.List. -/
import Derived.Test.YtaeakdichkhjaaaGreatDoorQAl
import Derived.Test.YtaeakdichkhjaaaGreatDoorQAj
import Derived.Test.YtaeakdichkhjaaaGreatDoorQAg
import Derived.Test.YtaeakdichkhjaaaGreatDoorShelfD
import Derived.Lib.SmallJoins
import Derived.Test.YtaeakdichkhjaaaGreatDoorQAa
import Derived.Test.YtaeakdichkhjaaaGreatDoorChecked
import Derived.Deep.AppendLies
import Derived.Test.YtaeakdichkhjaaaGreatDoorQAh
set_option maxHeartbeats 4000000
open Go.Lib(hid)
namespace Go.Proofs.YtaeakdichkhjaaaGreatDoor
section
open Go.RowKit
theorem mz (l:List UInt8):ke (Crc.seal_ l):=by
 refine⟨by rw[Crc.seal_length];omega,?_⟩;rw[Crc.seal_length,Nat.add_sub_cancel];unfold Crc.seal_;rw[List.take_left'];rfl
theorem mA {A B C:List UInt8}{k n:Nat}(hA:A.length=k)(hB:B.length=n):(⟨k,0,0⟩:RdSt).take (A++(B++C)) n=(B,true,⟨k+n,0,0⟩):=by
 unfold RdSt.take;rw[if_neg (by simp),if_neg (by simp[hA,hB])];simp only;rw[List.drop_left' hA,List.take_left' hB]
def mB (q c:Nat):List UInt8:=[115,110,112,49]++be 8 q++be 4 (iT c).length++iT c
theorem mC (q c:Nat):(mB q c).length=29:=by unfold mB;simp[bf];rfl
theorem mD (q c:Nat):(⟨0,0,0⟩:RdSt).take (mB q c) 4=([115,110,112,49],true,⟨4,0,0⟩):=by
 have:=mA (A:=[]) (B:=[115,110,112,49]) (C:=be 8 q++(be 4 (iT c).length++iT c)) (k:=0) (n:=4) rfl rfl;unfold mB;simpa using this
theorem mE (q c:Nat)(hq:q≤1048576):(⟨4,0,0⟩:RdSt).fixed (mB q c) 8=(q,⟨12,0,0⟩):=by
 have:=mA (A:=[115,110,112,49]) (B:=be 8 q) (C:=be 4 (iT c).length++iT c) (k:=4) (n:=8) rfl (bf 8 q);unfold RdSt.fixed;rw[show mB q c=[115,110,112,49]++(be 8 q++(be 4 (iT c).length++iT c))from by unfold mB;simp,this];simp only;rw[jJ 8 q (by omega)]
theorem mF (q c:Nat):(⟨12,0,0⟩:RdSt).fixed (mB q c) 4=(13,⟨16,0,0⟩):=by
 have:=mA (A:=[115,110,112,49]++be 8 q) (B:=be 4 (iT c).length) (C:=iT c) (k:=12) (n:=4) (by simp[bf]) (bf 4 _);unfold RdSt.fixed;rw[show mB q c=([115,110,112,49]++be 8 q)++(be 4 (iT c).length++iT c)from by unfold mB;simp,this];simp only;rw[jJ 4 _ (by show 13<_;decide)];rfl
theorem mG (q c:Nat):(mB q c).drop 16=iT c:=by
 unfold mB;rw[List.drop_left' (by simp[bf])]
set_option maxRecDepth 100000 in
theorem mH (q c:Nat)(hq:q≤1048576)(hc:c<128)(w:World)(s:ByteArray)(hs:s.data.toList=iU q c) :
  Calls Tryz.prog 32 #[.string s] w λe w'=>e = .returned (.tuple #[.int .i64 (q:Int),stV (c:Int) 0 1 1,dl,.int .i64 0])∧Below w.heap.size w w':=by
 have hz:s.size=33:=by rw[ay hs];show(Crc.seal_ (mB q c)).length=33;rw[Crc.seal_length,mC]
 have HS:=hid hs;clear hs
 go_enter Tryz.func32,Tryz.ntmps32
 go_wp2_with fail
 obtain⟨n,hn⟩:∃n,n=w.heap.size:=⟨_,rfl⟩;obtain⟨W0,hW0⟩:∃W0,W0=(w.alloc (.cells #[.int .i64 0,.int .i64 0,.int .i64 0,.int .i64 0,.slice none 0 0,.slice none 0 0,.slice none 0 0,.slice none 0 0,.slice none 0 0] 29)).alloc (.cells #[.slice none 0 0,.slice none 0 0,.slice none 0 0,.slice none 0 0] 35):=⟨_,rfl⟩;have hbel:Below w.heap.size w W0:=by rw[hW0];exact((Below.refl _ _).alloc (Nat.le_refl _) _).alloc (by simp) _
 have k0:W0.heap[n]?=some (.cells #[.int .i64 0,.int .i64 0,.int .i64 0,.int .i64 0,.slice none 0 0,.slice none 0 0,.slice none 0 0,.slice none 0 0,.slice none 0 0] 29 (0,0)):=by rw[hW0,hn];exact(Below.heap_alloc _ _ _ (by simp<;>omega)).trans (heap_alloc_new _ _)
 have k1:W0.heap[n+1]?=some (.cells #[.slice none 0 0,.slice none 0 0,.slice none 0 0,.slice none 0 0] 35 (0,0)):=by rw[hW0,hn];exact cK _ _ (by simp)
 have K0:=hid k0;have K1:=hid k1;have HB:=hid hbel;have HN:=hid hn;rw[← hW0,← hn];clear hW0 hn k0 k1 hbel;refine(kf s W0 (by unfold maxLen;omega) (by rw[HS.out];exact mz _)).mono ?_;rintro e w1 ⟨t,ht,rfl,hb1⟩;have htx:t.data.toList=mB q c:=by
  rw[ht,HS.out,hz];show(Crc.seal_ (mB q c)).take 29=_;unfold Crc.seal_;rw[List.take_left' (mC q c)]
 have htz:t.size=29:=by rw[ay htx];exact mC q c
 have HT:=hid htx;have B1:=hid hb1;clear ht htx hb1
 go_wp2_with fail
 refine(aK t w1 (by omega)).mono ?_;rintro e w2 ⟨rfl,hr2,hb2⟩;obtain⟨p,hp⟩:∃p,p=w1.heap.size:=⟨_,rfl⟩;rw[← hp]at hr2 ⊢;have hpn:n+1<p:=by have:=lt_of_block K1.out;have:=B1.out.size;omega
 have R2:=hid hr2;have F2:=hid (show Fr (λk=>k=p) W0 w2 from Fr.pure (dj B1.out hb2));clear hr2 hb2 hp
 go_wp2_with fail
 refine(aT w2 p t _ R2.out 4 (by omega)).mono ?_;rw[HT.out,mD];rintro e w3 ⟨r,hr,rfl,hr3,hf3⟩;have hcmp:(r.toList == [115,110,112,49])=true:=by rw[ByteArray.toList_eq,hr];decide
 have hrz:r.size=4:=by rw[ay hr];rfl
 have R3:=hid hr3;have F3:=hid (F2.out.trans hf3);have HR:=hid hr;clear hr hr3 hf3
 go_wp2_with fail
 refine(aX w3 p t _ R3.out).mono ?_;rw[HT.out,mE q c hq];rintro e w4 ⟨rfl,hr4,hf4⟩;have R4:=hid hr4;have F4:=hid (F3.out.trans hf4);clear hr4 hf4
 go_wp2_with fail
 refine(jN w4 p t _ R4.out).mono ?_;rw[HT.out,mF q c];rintro e w5 ⟨rfl,hr5,hf5⟩;have R5:=hid hr5;have F5:=hid (F4.out.trans hf5);clear hr5 hf5
 go_wp2_with fail
 refine(aY w5 p t _ R5.out).mono ?_;rintro e w6 ⟨rfl,n6,rfl⟩
 go_wp2_with fail
 refine(aZ _ p t _ (R5.out.drewN _)).mono ?_;rintro e w7 ⟨rfl,n7,rfl⟩;obtain⟨W7,hW7⟩:∃W7,W7=(w5.drewN n6).drewN n7:=⟨_,rfl⟩;have F7:=hid (show Fr (λk=>k=p) W0 W7 from by rw[hW7];exact(F5.out.drewN _).drewN _);rw[← hW7];clear hW7 R5
 go_wp2_with fail
 refine(my c hc W7 (t.extract 16 29) (by rw[az,HT.out,mG];rfl)).mono ?_;rintro e w8 ⟨rfl,hb8⟩;have F8:=hid (F7.out.andPure hb8);have hl8:n+1<w8.heap.size:=by have:=lt_of_block K1.out;have:=F8.out.size;omega
 clear hb8;unfold stV dl;go_wp2;obtain⟨W9,hW9⟩:∃W9,W9=(w8.alloc (.cells #[.int .i64 (c:Int),.int .i64 0,.int .i64 1,.int .i64 1,.slice none 0 0,.slice none 0 0,.slice none 0 0,.slice none 0 0,.slice none 0 0] 29)).alloc (.cells #[.slice none 0 0,.slice none 0 0,.slice none 0 0,.slice none 0 0] 35):=⟨_,rfl⟩;have hb9:Below w8.heap.size w8 W9:=by rw[hW9];exact((Below.refl _ _).alloc (Nat.le_refl _) _).alloc (by simp) _
 have F9:=hid (F8.out.andPure hb9);have P9:=hid (F9.out.heapAt K0.out (by omega));have Q9:=hid (F9.out.heapAt K1.out (by omega));have ks:W9.heap[w8.heap.size]?=some (.cells #[.int .i64 (c:Int),.int .i64 0,.int .i64 1,.int .i64 1,.slice none 0 0,.slice none 0 0,.slice none 0 0,.slice none 0 0,.slice none 0 0] 29 (0,0)):=by rw[hW9];exact(Below.heap_alloc _ _ _ (by simp)).trans (heap_alloc_new _ _)
 have kv:W9.heap[w8.heap.size+1]?=some (.cells #[.slice none 0 0,.slice none 0 0,.slice none 0 0,.slice none 0 0] 35 (0,0)):=by rw[hW9];exact cK _ _ (by simp)
 rw[← hW9];clear hW9 hb9;obtain⟨x0,x1,x2,x3,x4,x5,x6,x7,x8⟩:=ml (ks);obtain⟨y0,y1,y2,y3⟩:=mo (kv);obtain⟨p0,pf0,p1,pf1,p2,pf2,p3,pf3,p4,pf4,p5,pf5,p6,pf6,p7,pf7,p8,pf8⟩:=mn (P9.out);obtain⟨q0,qf0,q1,qf1,q2,qf2,q3,qf3⟩:=mq (Q9.out);have hwq:IntKind.i64.wrap (q:Int)=(q:Int):=by rw[IntKind.wrap_i64];omega
 go_region
 go_wp2;obtain⟨Wf,hWf,FA⟩:=mx P9.out Q9.out (.int .i64 (c:Int)) (.int .i64 0) (.int .i64 1) (.int .i64 1) (.slice none 0 0) (.slice none 0 0) (.slice none 0 0) (.slice none 0 0) (.slice none 0 0) (.slice none 0 0) (.slice none 0 0) (.slice none 0 0) (.slice none 0 0);rw[← hWf];clear hWf;have FA:=FA.drew;have hfr:=FA.fr;refine bodyPost_ret (v:=.tuple #[.int .i64 (q:Int),.agg #[.int .i64 (c:Int),.int .i64 0,.int .i64 1,.int .i64 1,.slice none 0 0,.slice none 0 0,.slice none 0 0,.slice none 0 0,.slice none 0 0],.agg #[.slice none 0 0,.slice none 0 0,.slice none 0 0,.slice none 0 0],.int .i64 0]) (by simp[results,Tryz.results32,go_sem,FA.s0,FA.s1,FA.s2,FA.s3,FA.s4,FA.s5,FA.s6,FA.s7,FA.s8,FA.t0,FA.t1,FA.t2,FA.t3]) rfl ⟨rfl,?_⟩;have hnw:=HN.out;exact HB.out.trans ((F9.out.below (B:=w.heap.size) HB.out.size (λk hk e=>by omega)).trans (hfr.below (B:=w.heap.size) (by have:=HB.out.size;have:=F9.out.size;omega) (λk hk e=>by omega)))
def stZ:Value:=.agg #[.int .i64 0,.int .i64 0,.int .i64 0,.int .i64 0,.slice none 0 0,.slice none 0 0,.slice none 0 0,.slice none 0 0,.slice none 0 0]
set_option maxRecDepth 100000 in
theorem mI (x:Int)(w:World):Calls Tryz.prog 63 #[.int .i64 x] w λe w'=>e = .returned (.tuple #[.int .i64 0,stZ,dl,.int .i64 x])∧Below w.heap.size w w':=by
 go_enter Tryz.func63,Tryz.ntmps63
 go_wp2;obtain⟨n,hn⟩:∃n,n=w.heap.size:=⟨_,rfl⟩;obtain⟨W0,hW0⟩:∃W0,W0=(w.alloc (.cells #[.int .i64 0,.int .i64 0,.int .i64 0,.int .i64 0,.slice none 0 0,.slice none 0 0,.slice none 0 0,.slice none 0 0,.slice none 0 0] 29)).alloc (.cells #[.slice none 0 0,.slice none 0 0,.slice none 0 0,.slice none 0 0] 35):=⟨_,rfl⟩;have hbel:Below w.heap.size w W0:=by rw[hW0];exact((Below.refl _ _).alloc (Nat.le_refl _) _).alloc (by simp) _
 have k0:W0.heap[n]?=some (.cells #[.int .i64 0,.int .i64 0,.int .i64 0,.int .i64 0,.slice none 0 0,.slice none 0 0,.slice none 0 0,.slice none 0 0,.slice none 0 0] 29 (0,0)):=by rw[hW0,hn];exact(Below.heap_alloc _ _ _ (by simp<;>omega)).trans (heap_alloc_new _ _)
 have k1:W0.heap[n+1]?=some (.cells #[.slice none 0 0,.slice none 0 0,.slice none 0 0,.slice none 0 0] 35 (0,0)):=by rw[hW0,hn];exact cK _ _ (by simp)
 rw[← hW0,← hn];obtain⟨o0,o1,o2,o3,o4,o5,o6,o7,o8⟩:=ml (k0);obtain⟨u0,u1,u2,u3⟩:=mo (k1);clear hW0;exact bodyPost_ret (v:=.tuple #[.int .i64 0,.agg #[.int .i64 0,.int .i64 0,.int .i64 0,.int .i64 0,.slice none 0 0,.slice none 0 0,.slice none 0 0,.slice none 0 0,.slice none 0 0],.agg #[.slice none 0 0,.slice none 0 0,.slice none 0 0,.slice none 0 0],.int .i64 x]) (by simp[results,Tryz.results63,go_sem,o0,o1,o2,o3,o4,o5,o6,o7,o8,u0,u1,u2,u3]) rfl ⟨rfl,by rw[hn];exact hbel⟩
set_option maxRecDepth 100000 in
theorem mJ (w:World)(s:ByteArray)(hs:s.size<4) :
  Calls Tryz.prog 32 #[.string s] w λe w'=>e = .returned (.tuple #[.int .i64 0,stZ,dl,.int .i64 8])∧Below w.heap.size w w':=by
 have he:∀(args:Array Value) (w:World),(callFunc 63 args).run Tryz.prog w = .ok (.enter 63 args) w:=enters_of Tryz.func63 (by kernel_rfl) rfl
 go_enter Tryz.func32,Tryz.ntmps32
 go_wp2_with fail
 obtain⟨n,hn⟩:∃n,n=w.heap.size:=⟨_,rfl⟩;obtain⟨W0,hW0⟩:∃W0,W0=(w.alloc (.cells #[.int .i64 0,.int .i64 0,.int .i64 0,.int .i64 0,.slice none 0 0,.slice none 0 0,.slice none 0 0,.slice none 0 0,.slice none 0 0] 29)).alloc (.cells #[.slice none 0 0,.slice none 0 0,.slice none 0 0,.slice none 0 0] 35):=⟨_,rfl⟩;have hbel:Below w.heap.size w W0:=by rw[hW0];exact((Below.refl _ _).alloc (Nat.le_refl _) _).alloc (by simp) _
 have k0:W0.heap[n]?=some (.cells #[.int .i64 0,.int .i64 0,.int .i64 0,.int .i64 0,.slice none 0 0,.slice none 0 0,.slice none 0 0,.slice none 0 0,.slice none 0 0] 29 (0,0)):=by rw[hW0,hn];exact(Below.heap_alloc _ _ _ (by simp<;>omega)).trans (heap_alloc_new _ _)
 have k1:W0.heap[n+1]?=some (.cells #[.slice none 0 0,.slice none 0 0,.slice none 0 0,.slice none 0 0] 35 (0,0)):=by rw[hW0,hn];exact cK _ _ (by simp)
 have K0:=hid k0;have K1:=hid k1;have HB:=hid hbel;have HN:=hid hn;rw[← hW0,← hn];clear hW0 hn k0 k1 hbel;refine(kd s W0 hs).mono ?_;rintro e w1 ⟨rfl,rfl⟩
 go_wp2_with fail
 refine(mI 8 _).mono ?_;rintro e w2 ⟨rfl,hb2⟩;have P9:=hid ((hb2.block _ (lt_of_block K0.out)).trans K0.out);have Q9:=hid ((hb2.block _ (lt_of_block K1.out)).trans K1.out);have HB2:=hid hb2;obtain⟨p0,pf0,p1,pf1,p2,pf2,p3,pf3,p4,pf4,p5,pf5,p6,pf6,p7,pf7,p8,pf8⟩:=mn (P9.out);obtain⟨q0,qf0,q1,qf1,q2,qf2,q3,qf3⟩:=mq (Q9.out);clear hb2;unfold stZ dl;go_wp2;obtain⟨Wf,hWf,FA⟩:=mx P9.out Q9.out (.int .i64 0) (.int .i64 0) (.int .i64 0) (.int .i64 0) (.slice none 0 0) (.slice none 0 0) (.slice none 0 0) (.slice none 0 0) (.slice none 0 0) (.slice none 0 0) (.slice none 0 0) (.slice none 0 0) (.slice none 0 0);rw[← hWf];clear hWf;have hfr:=FA.fr;refine bodyPost_ret (v:=.tuple #[.int .i64 0,.agg #[.int .i64 0,.int .i64 0,.int .i64 0,.int .i64 0,.slice none 0 0,.slice none 0 0,.slice none 0 0,.slice none 0 0,.slice none 0 0],.agg #[.slice none 0 0,.slice none 0 0,.slice none 0 0,.slice none 0 0],.int .i64 8]) (by simp[results,Tryz.results32,go_sem,FA.s0,FA.s1,FA.s2,FA.s3,FA.s4,FA.s5,FA.s6,FA.s7,FA.s8,FA.t0,FA.t1,FA.t2,FA.t3]) rfl ⟨rfl,?_⟩;have hnw:=HN.out;exact HB.out.trans ((HB2.out.mono HB.out.size).trans (hfr.below (B:=w.heap.size) (by have:=HB.out.size;have:=HB2.out.size;omega) (λk hk e=>by omega)))
end
section
open Go.RowKit Go.Sort Go.Shelf
set_option maxRecDepth 100000 in
theorem mK (w:World)(f:Int):Calls Tryz.prog 31 #[.int .i64 f] w λe w'=>e = .returned (.bool (gv f))∧w=w':=by
 by_cases h0:0≤f
 ·by_cases h1:f≤1048576
  ·go_enter Tryz.func31,Tryz.ntmps31
   go_wp2;go_ret;exact⟨aE (by unfold gv;simp[h0,h1]),rfl⟩
  ·go_enter Tryz.func31,Tryz.ntmps31
   go_wp2;go_ret;exact⟨aE (by unfold gv;simp[h1]),rfl⟩
 ·go_enter Tryz.func31,Tryz.ntmps31
  go_wp2;go_ret;exact⟨aE (by unfold gv;simp;omega),rfl⟩
set_option maxRecDepth 100000 in
theorem mL (w:World)(hp:Pow w)(n:Int) :
  Calls Tryz.prog 15 #[.int .i64 n] w λe w'=>(∃r:ByteArray,r.data.toList=gQ n∧e = .returned (.string r))∧Below w.heap.size w w':=by
 have HP:=hid hp;clear hp;cases hn:gv n
 ·have hE:=hid (show gQ n=[]from by unfold gQ;rw[if_neg (by unfold gv at hn;simp at hn;omega)])
  go_enter Tryz.func15,Tryz.ntmps15
  go_wp2_with fail
  refine(mK _ n).mono ?_;rintro e w1 ⟨rfl,rfl⟩;rw[hn];go_wp2;go_ret;exact⟨⟨⟨#[]⟩,by rw[hE.out],rfl⟩,Below.refl _ _⟩
 ·have hf:0≤n∧n≤1048576:=by unfold gv at hn;simp at hn;exact hn
  obtain⟨h0,h1⟩:=hf;have hE:=hid (show gQ n=110::gu n 10 from by unfold gQ;rw[if_pos ⟨h0,h1⟩])
  go_enter Tryz.func15,Tryz.ntmps15
  go_wp2_with fail
  refine(mK _ n).mono ?_;rintro e w1 ⟨rfl,rfl⟩;rw[hn]
  go_wp2_with fail
  refine(Tryz.strconv_FormatInt_10 n (by omega) (by omega) w HP.out).mono ?_;rintro e w1 ⟨rfl,k,os,hw1⟩;have hb1:Below w.heap.size w w1:=by rw[hw1];exact⟨rfl,rfl,rfl,by simp[grow,World.drewN],λj hj=>by simp[grow,World.drewN,Array.getElem?_append,hj]⟩
  clear hw1;obtain⟨t,ht⟩:∃t:ByteArray,t=⟨(Lib.itoa n).toArray⟩:=⟨_,rfl⟩;rw[← ht];have htl:=hid (show t.data.toList=Lib.itoa n from by rw[ht]);clear ht;have hts:t.size≤7:=by
   rw[ay htl.out];obtain⟨u,rfl⟩:∃u:Nat,n=(u:Int):=⟨n.toNat,by omega⟩;rw[Lib.itoa_nonneg];exact gC u 6 (by omega)
  have hw2:IntKind.i64.wrap (10-(t.size:Int))=10-(t.size:Int):=IntWalk.i64_in _ (by omega);have hw3:(10-(t.size:Int))=((10-t.size:Nat):Int):=by omega
  rw[hw3]at hw2
  go_wp2_with fail
  try rw[hw3]
  refine(Tryz.strings_Repeat ⟨#[48]⟩ (10-t.size) w1 (by omega) (by show 1*(10-t.size)≤_;omega)).mono ?_;rintro e w2 ⟨rfl,hb2⟩;obtain⟨z,hz⟩:∃z:ByteArray,z=⟨(Lib.repeatL (⟨#[48]⟩:ByteArray).data.toList (10-t.size)).toArray⟩:=⟨_,rfl⟩;rw[← hz];have hzl:=hid (show z.data.toList=gr (10-t.size)from by rw[hz];exact gt _);clear hz;have hzs:z.size≤10:=by rw[ay hzl.out];unfold gr;rw[List.length_replicate];omega
  have hcat0:(⟨#[110]⟩:ByteArray).size+z.size≤9223372036854775807:=by show 1+z.size≤_;omega
  have hcat1:1+z.size≤9223372036854775807:=by omega
  have hcat:1+z.size+t.size≤9223372036854775807:=by omega
  have HB:=hid (hb1.trans (hb2.mono hb1.size));clear hb1 hb2;go_wp2;go_ret;refine⟨⟨_,?_,rfl⟩,HB.out⟩;rw[hE.out];unfold gu;rw[← htl.out,aq,← hzl.out];simp
def ErrIn (w:World)(g:Nat):Prop:=∃ev,w.cell? ⟨g,0,none⟩=some ev∧(ev = .nilIface∨∃te pe,ev = .iface te pe)
structure Libz (w:World):Prop where
 pow:Pow w
 syn:ErrIn w 1
 rng:ErrIn w 2
theorem ErrIn.kept {S:Nat→Prop}{w w':World}{g:Nat}(h:ErrIn w g)(hf:Fr S w w')(hs:¬S g):ErrIn w' g:=by
 obtain⟨ev,h1,h2⟩:=h;exact⟨ev,hf.cellAt h1 hs,h2⟩
def mM (k:Nat):Prop:=k=0∨k=1∨k=2
theorem Libz.kept {S:Nat→Prop}{w w':World}(h:Libz w)(hf:Fr S w w')(hs:∀k,S k→¬mM k):Libz w':=
 ⟨hf.pow h.pow (λe=>hs _ e (.inl rfl)),h.syn.kept hf (λe=>hs _ e (.inr (.inl rfl))),h.rng.kept hf (λe=>hs _ e (.inr (.inr rfl)))⟩
theorem Libz.pure {w w':World}(h:Libz w)(hb:Below w.heap.size w w'):Libz w':=h.kept (Fr.pure (S:=λ_=>False) hb) (λ_ e=>e.elim)
theorem Libz.lt {w:World}(h:Libz w)(k:Nat)(hk:mM k):k<w.heap.size:=by
 rcases hk with rfl|rfl|rfl
 ·exact gp h.pow
 ·obtain⟨ev,h1,_⟩:=h.syn;exact Lib.lt_of_cell h1
 ·obtain⟨ev,h1,_⟩:=h.rng;exact Lib.lt_of_cell h1
theorem mN (s:ByteArray)(hz:s.size≤281474976710656)(w:World)(h:Libz w) :
  Calls Tryz.prog 62 #[.string s,.int .i64 10,.int .i64 64] w λe w'=>((∃v:Int,Lib.parseIntB 64 s.data.toList = .ok v∧e = .returned (.tuple #[.int .i64 v,.nilIface]))∨(∃(v:Int) (t:TypeId) (a:Addr),(∀u,Lib.parseIntB 64 s.data.toList ≠ .ok u)∧e = .returned (.tuple #[.int .i64 v,.iface t (.pointer (some a))])))∧Below w.heap.size w w':=by
 cases hp:Lib.parseIntB 64 s.data.toList
 ·rename_i v
  refine(Any.strconv_ParseInt_10_at64_ok Tryz.laysD174 s (by omega) v hp w).mono ?_;rintro e w' ⟨he,h⟩;refine⟨.inl ⟨v,rfl,he⟩,?_⟩
  rcases h with rfl|⟨t,rfl⟩
  ·exact Below.refl _ _
  ·exact Joins.below_bytesWorld _ _ _ _ (Nat.le_refl _)
 ·obtain⟨ev,h1,h2⟩:=h.syn
  refine(Any.strconv_ParseInt_10_at64_syntax Tryz.laysD174 s hz hp ev w h1 h2).mono ?_;rintro e w' ⟨n,he,_,_,hb⟩;exact⟨.inr ⟨_,_,_,(λu hu=>by cases hu),he⟩,hb⟩
 ·obtain⟨ev,h1,h2⟩:=h.rng
  refine(Any.strconv_ParseInt_10_at64_range Tryz.laysD174 s hz hp ev w h1 h2).mono ?_;rintro e w' ⟨n,he,_,_,hb⟩;exact⟨.inr ⟨_,_,_,(λu hu=>by cases hu),he⟩,hb⟩
def mO (s:List UInt8)(r:Value):Prop:=(∃n:Nat,n≤1048576∧s=gQ (n:Int)∧r = .tuple #[.int .i64 (n:Int),.bool true])∨(¬gR s∧r = .tuple #[.int .i64 0,.bool false])
set_option maxRecDepth 100000 in
theorem mP (w:World)(h:Libz w)(s:ByteArray)(hz:s.size≤281474976710656) :
  Calls Tryz.prog 30 #[.string s] w λe w'=>(∃r,mO s.data.toList r∧e = .returned r)∧Below w.heap.size w w':=by
 have H:=hid h;clear h;obtain⟨t,ht⟩:∃t:ByteArray,t=⟨(Lib.trimPrefix s.data.toList (⟨#[110]⟩:ByteArray).data.toList).toArray⟩:=⟨_,rfl⟩;have htz:t.size≤281474976710656:=by
  have h9:t.data.toList.length≤s.data.toList.length:=by
   rw[ht];show(Lib.trimPrefix s.data.toList [110]).toArray.toList.length≤_;exact gX _ _
  rw[aq,aq]at h9;omega
 have htl:t.data.toList=Lib.trimPrefix s.data.toList [110]:=by rw[ht]
 have HT:=hid htl;clear htl;cases hpre:Lib.hasPrefix s.data.toList (⟨#[110]⟩:ByteArray).data.toList
 ·have HX:=hid (show ¬gR s.data.toList from by
   rintro⟨n,hn,e⟩;rw[e,gS n hn]at hpre;have:=gV (gu (n:Int) 10);rw[show(⟨#[110]⟩:ByteArray).data.toList=[110]from rfl,this]at hpre;cases hpre)
  go_enter Tryz.func30,Tryz.ntmps30
  go_wp2_with fail
  refine(Tryz.strings_CutPrefix s ⟨#[110]⟩ w).mono ?_;rintro e w1 ⟨rfl,rfl⟩;rw[← ht,hpre];clear ht
  go_wp2_with fail
  refine(mN t htz w1 H.out).mono ?_;rintro e w2 ⟨⟨v,_,rfl⟩|⟨v,ty,a,_,rfl⟩,hb2⟩
  ·have B2:=hid hb2
   clear hb2;go_wp2
   go_ret2
   exact⟨⟨_,.inr ⟨HX.out,rfl⟩,rfl⟩,B2.out⟩
  ·have B2:=hid hb2
   clear hb2;go_wp2
   go_ret2
   exact⟨⟨_,.inr ⟨HX.out,rfl⟩,rfl⟩,B2.out⟩
 ·have hdec:∀n:Nat,n≤1048576→s.data.toList=gQ (n:Int)→Lib.parseIntB 64 t.data.toList = .ok (n:Int):=by
   intro n hn e;rw[HT.out,e,gS n hn,gW];exact gI n 10 (by omega)
  have HD:=hid hdec;clear hdec
  go_enter Tryz.func30,Tryz.ntmps30
  go_wp2_with fail
  refine(Tryz.strings_CutPrefix s ⟨#[110]⟩ w).mono ?_;rintro e w1 ⟨rfl,rfl⟩;rw[← ht,hpre];clear ht
  go_wp2_with fail
  refine(mN t htz w1 H.out).mono ?_;rintro e w2 ⟨⟨v,hv,rfl⟩|⟨v,ty,a,hv,rfl⟩,hb2⟩
  ·have B2:=hid hb2
   have HV:=hid hv;clear hb2 hv
   go_wp2_with fail
   refine(mL w2 (gq B2.out H.out.pow) v).mono ?_;rintro e w3 ⟨⟨r,hr,rfl⟩,hb3⟩;have B3:=hid (B2.out.trans (hb3.mono B2.out.size));by_cases heq:r.data.toList=s.data.toList
   ·have hne:gQ v≠[]:=by
     intro e;rw[hr,e]at heq;rw[← heq]at hpre
     revert hpre;decide
    obtain⟨h0,h1⟩:=gU hne;obtain⟨n,rfl⟩:∃n:Nat,v=(n:Int):=⟨v.toNat,by omega⟩;have HY:=hid (show n≤1048576∧s.data.toList=gQ (n:Int)from⟨by omega,by rw[← heq,hr]⟩);have hee:(r.toList == s.toList)=true:=aB heq;have hne:(r.toList != s.toList)=false:=by unfold bne;rw[hee];rfl
    clear hb3 hr heq;go_wp2
    go_ret2
    exact⟨⟨_,.inl ⟨n,HY.out.1,HY.out.2,rfl⟩,rfl⟩,B3.out⟩
   ·have HX:=hid (show ¬gR s.data.toList from by
     rintro⟨n,hn,e⟩;have:=HD.out n hn e;rw[HV.out]at this;cases this;exact heq (by rw[hr,e]))
    have hee:(r.toList == s.toList)=false:=by
     rw[ByteArray.toList_eq,ByteArray.toList_eq];simpa using heq
    have hne:(r.toList != s.toList)=true:=by unfold bne;rw[hee];rfl
    clear hb3 hr heq;go_wp2
    go_ret2
    exact⟨⟨_,.inr ⟨HX.out,rfl⟩,rfl⟩,B3.out⟩
  ·have B2:=hid hb2
   have HX:=hid (show ¬gR s.data.toList from by
    rintro⟨n,hn,e⟩;exact hv _ (HD.out n hn e))
   clear hb2 hv;go_wp2
   go_ret2
   exact⟨⟨_,.inr ⟨HX.out,rfl⟩,rfl⟩,B2.out⟩
end
section
open Go.RowKit
theorem Tryz.infoStr:(Tryz.prog.info? 9).map (λi=>(i.zero,i.size,i.bytes))=some (some (.string ⟨#[]⟩),1,16):=by kernel_rfl
theorem mQ {w:World}{base:Nat}{e:TypeId}{size:Nat}{v:Value}{n:Nat}{xs:List Value}(h:w.ownsRow base e size v n xs){g:Nat}(hg:v.ownBlock=some g):base≤g:=by
 obtain⟨_,⟨rfl,_⟩|⟨g',cap,cur,rfl,hb,_⟩⟩:=h
 ·cases hg
 ·cases hg;exact hb
end
section
open Go.RowKit Go.Maps Go.Sort
def mR (l:Fs):List Value:=l.flatMap λf=>[encStr f.name,encStr f.firm,encStr f.pend]
theorem mS (l:Fs)(i:Nat)(h:i<l.length):(mR l)[i*3]?=some (encStr l[i].name)∧(mR l)[i*3+1]?=some (encStr l[i].firm)∧(mR l)[i*3+2]?=some (encStr l[i].pend):=by
 induction l generalizing i with
 | nil=>simp at h
 | cons x l ih=>
  rcases i with _|i
  ·simp[mR]
  ·have:=ih i (by simpa using h)
   simp only[mR,List.flatMap_cons,List.getElem_cons_succ]at this ⊢;rw[show(i+1)*3=i*3+1+1+1 from by omega];simpa using this
theorem mT (l:Fs)(f:FileS):mR (l++[f])=mR l++[encStr f.name,encStr f.firm,encStr f.pend]:=by simp[mR]
def OwnFiles (w:World)(v:Value)(l:Fs):Prop:=w.ownsRow 0 60 3 v l.length (mR l)
theorem mU (l:List UInt8):(⟨l.toArray⟩:ByteArray).data.toList=l:=by simp
theorem OwnFiles.at {w:World}{v:Value}{l:Fs}(h:OwnFiles w v l):FilesAt w v l:=by
 rcases h.2 with⟨hv,hn⟩|⟨g,cap,cur,hv,hh⟩
 ·exact⟨none,0,by rw[hv,hn],.inl (List.eq_nil_of_length_eq_zero hn)⟩
 ·subst hv
  refine⟨_,cap,rfl,.inr ⟨g,0,rfl,λi hi=>?_⟩⟩;obtain⟨h1,h2,h3⟩:=mS l i hi;refine⟨_,_,_,mU _,mU _,mU _,?_⟩;rw[Nat.zero_add,World.ownsRow.cellAt h (i*3) (by omega),World.ownsRow.cellAt h (i*3+1) (by omega),World.ownsRow.cellAt h (i*3+2) (by omega)];exact⟨h1,h2,h3⟩
theorem FilesAt.kept {S:Nat→Prop}{w w':World}{sv:Value}{l:Fs}(h:FilesAt w sv l)(hf:Fr S w w')(hs:∀g,sv.ownBlock=some g→¬S g):FilesAt w' sv l:=by
 obtain⟨a,c,rfl,h|⟨b,o,rfl,h⟩⟩:=h
 ·exact⟨a,c,rfl,.inl h⟩
 ·refine⟨_,c,rfl,.inr ⟨b,o,rfl,λi hi=>?_⟩⟩
  obtain⟨x,y,z,e1,e2,e3,h1,h2,h3⟩:=h i hi;exact⟨x,y,z,e1,e2,e3,hf.cellAt h1 (hs b rfl),hf.cellAt h2 (hs b rfl),hf.cellAt h3 (hs b rfl)⟩
theorem FilesAt.pure {w w':World}{sv:Value}{l:Fs}(h:FilesAt w sv l)(hb:Below w.heap.size w w'):FilesAt w' sv l:=h.kept (Fr.pure (S:=λ_=>False) hb) (λ_ _ h=>h)
theorem Tryz.infoFile:(Tryz.prog.info? 60).map (λi=>(i.zero,i.size,i.bytes))=some (some (.agg #[.string ⟨#[]⟩,.string ⟨#[]⟩,.string ⟨#[]⟩]),3,48):=by kernel_rfl
theorem mV {x:ByteArray}{l:List UInt8}(h:x.data.toList=l):Value.string x=encStr l:=by unfold encStr;rw[← h]
set_option maxRecDepth 100000 in
theorem mW (w:World)(p b:Nat)(st:DkSt)(h:IsDk w p b st) :
  Calls Tryz.prog 16 #[.pointer (some ⟨p,0,none⟩)] w λe w'=>∃v,e = .returned v∧OwnFiles w' v st.fs∧(∀g,v.ownBlock=some g→w.heap.size≤g)∧Below w.heap.size w w':=by
 have H:=hid h;have hp:=h.lt;have hbl:=h.own.lt;have hfew:=h.ok.fs.few;clear h
 go_enter Tryz.func16,Tryz.ntmps16
 go_wp2_with fail
 refine(iA w p b st H.out).mono ?_;rintro e w1 ⟨v,rfl,hown,hb1⟩;obtain⟨ga,gc,rfl,_,hrow⟩:=iJ hown;have HR:=hid hrow;have HB1:=hid hb1;have hs1:=hb1.size;clear hown hrow hb1
 rename_i hnl
 clear hnl;go_wp2
 go_loopw [3,12] (λv i wr=>∃k:Nat,i = .int .i64 k∧k≤st.fs.length∧wr.ownsRow w1.heap.size 60 3 v k (mR (st.fs.take k))∧Below w1.heap.size w1 wr) (λ_ i _=>st.fs.length-(intOf i).toNat)
 case atStart=>exact⟨0,rfl,by omega,World.ownsRow_nil _ _ _ _,Below.refl _ _⟩
 case round=>
  obtain⟨k,rfl,hk,hown,hb⟩:=hrel;have hsz:=hb.size;obtain⟨a0,n0,c0,rfl⟩:=aG hown;have HO:=hid hown;have HB:=hid hb;clear hown hb;by_cases hlt:k<st.fs.length
  ·obtain⟨g,rfl,hg,hcell⟩:=HR.out k (by simpa using hlt)
   have hcell:=(HB.out.cell (p:=⟨g,k,none⟩) (aD hcell)).trans hcell;rw[List.getElem_map]at hcell;have hdk:IsDk wr p b st:=H.out.pure (HB1.out.trans (HB.out.mono HB1.out.size));have hmem:dR st.fs st.fs[k].name=some st.fs[k]:=by
    have e:st.fs=st.fs.take k++st.fs[k]::st.fs.drop (k+1):=by rw[List.getElem_cons_drop,List.take_append_drop]
    have:=iD (A:=st.fs.take k) (f:=st.fs[k]) (B:=st.fs.drop (k+1)) (by rw[← e];exact hdk.ok.fs.sorted);rw[← e]at this;exact this
   have hname:=hdk.ok.fs.names st.fs[k] (List.getElem_mem hlt);obtain⟨x,hx⟩:∃x:ByteArray,x=⟨st.fs[k].name.toArray⟩:=⟨_,rfl⟩;have hxl:x.data.toList=st.fs[k].name:=by rw[hx]
   rw[← hx]at hcell;obtain⟨f1,f2,hlook,hgot⟩:=iI wr b st.fs hdk.own x (by have:=ay hxl;unfold maxLen;omega);unfold el at hgot;rw[hxl,hmem]at hgot;have E:=hid (And.intro (mV hxl) (And.intro (mV hgot.1) (mV hgot.2)));obtain⟨d0,d1,d2,d3⟩:=hdk.cs;have HO1:=hid ((HO.out.alloc (.cells #[.string f1,.string f2] 81)).alloc (.cells #[.string x,.string f1,.string f2] 60));obtain⟨i0,hi,hz0,hz1,hz2⟩:=info_parts Tryz.infoFile;have HI:=hid hi;have HZ0:=hid hz0;have HZ1:=hid hz1;have HZ2:=hid hz2;clear hi hz0 hz1 hz2 hx hxl hgot hmem hdk d1 d2 d3
   go_wp2_with (first
    | (refine wpList_append_lies _ rfl _ _ 22 rfl w1.heap.size 60 i0 _ 3 48 Tryz.underlying22 HI.out HZ0.out HZ1.out HZ2.out rfl (by omega) _ k _ rfl HO1.out ⟨wr.heap.size+1,0,none⟩ 1 1 [.string x,.string f1,.string f2] rfl rfl (aH rfl (by simp)) (by simp[Value.oneCell']) (by omega) (by unfold maxLen;omega) (by omega) (by simp;omega) (wr.heap.size+1+1) (by simp) ?_;intro gg cap w8 hown8 hgrow8 hat8 hlt8))
   go_roundw
   case rel=>
    refine⟨k+1,by go_num,by omega,?_,?_⟩
    ·rw[List.take_succ_eq_append_getElem hlt,mT,← E.out.1,← E.out.2.1,← E.out.2.2];exact hown8
    ·exact((HB.out.alloc hsz _).alloc (by simp;omega) _).grown hgrow8 (by simp;omega) (λj e=>mQ HO.out (by exact e))
   case measure=>simp[intOf];omega
  ·have hkl:k=st.fs.length:=by omega
   go_wp2;go_ret;have ho:=HO.out;rw[hkl,List.take_length]at ho;exact⟨_,rfl,aF ho (λ_ _=>Nat.zero_le _),λj e=>by have:=mQ ho e;omega,HB1.out.trans (HB.out.mono HB1.out.size)⟩
def mX (w:World)(base:Nat)(v:Value)(l:List (List UInt8)):Prop:=w.ownsRow base 9 1 v l.length (l.map encStr)
theorem mY (w:World)(p b:Nat)(st:DkSt)(h:IsDk w p b st) :
  Calls Tryz.prog 29 #[.pointer (some ⟨p,0,none⟩)] w λe w'=>Below w.heap.size w w' ∧
   (if st.dark then e = .returned (.tuple #[.slice none 0 0,.int .i64 45]) else ∃v,e = .returned (.tuple #[v,.int .i64 0])∧mX w' w.heap.size v (st.fs.map (·.name))):=by
 have H:=hid h;clear h;cases hd:st.dark
 ·have HD:=hid hd
  clear hd
  go_enter Tryz.func29,Tryz.ntmps29
  go_wp2_with fail
  refine(ei _ p b st H.out).mono ?_;rintro e w1 ⟨rfl,rfl⟩;rw[HD.out]
  go_wp2_with fail
  refine(iA _ p b st H.out).mono ?_;rintro e w1 ⟨v,rfl,ho,hb⟩;have HO:=hid ho;have HB:=hid hb;clear ho hb;go_wp2;refine bodyPost_ret (v:=.tuple #[v,.int .i64 0]) (by simp[results,Tryz.results29,go_sem]) rfl ?_;exact⟨HB.out,v,rfl,by have:=HO.out;unfold mX;rw[List.length_map];exact this⟩
 ·have HD:=hid hd
  clear hd
  go_enter Tryz.func29,Tryz.ntmps29
  go_wp2_with fail
  refine(ei _ p b st H.out).mono ?_;rintro e w1 ⟨rfl,rfl⟩;rw[HD.out];go_wp2;refine bodyPost_ret (v:=.tuple #[.slice none 0 0,.int .i64 45]) (by simp[results,Tryz.results29,go_sem]) rfl ?_;exact⟨Below.refl _ _,rfl⟩
end
section
open Go.RowKit Go.Sort Go.Shelf
theorem Tryz.infoI64:(Tryz.prog.info? 2).map (λi=>(i.zero,i.size,i.bytes))=some (some (.int .i64 0),1,8):=by kernel_rfl
def mZ (n:Nat):Value:=.int .i64 (n:Int)
def m1 (w:World)(base:Nat)(v:Value)(l:List Nat):Prop:=w.ownsRow base 2 1 v l.length (l.map mZ)
def m2 (st:DkSt)(w:World)(e:Ending)(w':World):Prop:=Below w.heap.size w w' ∧
 (if st.dark then e = .returned (.tuple #[.slice none 0 0,.int .i64 45]) else ∃v,e = .returned (.tuple #[v,.int .i64 0])∧m1 w' w.heap.size v (hU (st.fs.map (·.name))))
set_option maxRecDepth 100000 in
theorem m3 (w:World)(hl:Libz w)(p b:Nat)(st:DkSt)(h:IsDk w p b st) :
  Calls Tryz.prog 10 #[.pointer (some ⟨p,0,none⟩)] w λe w'=>m2 st w e w':=by
 have H:=hid h;have HL:=hid hl;have hfew:=h.ok.fs.few;have hnm:=hid h.ok.fs.names;clear h hl;cases hd:st.dark
 ·have HD:=hid hd
  clear hd
  go_enter Tryz.func10,Tryz.ntmps10
  go_wp2_with fail
  refine(mY w p b st H.out).mono ?_;rintro e w1 ⟨hb1,h1⟩;rw[HD.out,if_neg (by decide)]at h1;obtain⟨v,rfl,hown⟩:=h1;obtain⟨ns,hns⟩:∃ns,ns=st.fs.map (·.name):=⟨_,rfl⟩;rw[← hns]at hown;have hnl:ns.length≤64:=by rw[hns,List.length_map];exact hfew
  have hnz:=hid (show ∀x∈ns,x.length≤24 from λx hx=>by
   rw[hns]at hx;obtain⟨f,hf,rfl⟩:=List.mem_map.1 hx;exact hnm.out f hf)
  have HN:=hid hns;clear hns;obtain⟨ga,gc,rfl,_,hrow⟩:=iJ hown
  rename_i hlen
  clear hlen;have HR:=hid hrow;have HB1:=hid hb1;have HL1:=hid (HL.out.pure hb1);clear hown hrow hb1;go_wp2
  go_loopw [6,21] (λv i wr=>∃k:Nat,i = .int .i64 k∧k≤ns.length∧Hid (m1 wr w1.heap.size v (hU (ns.take k)))∧Hid (Below w1.heap.size w1 wr)) (λ_ i _=>ns.length-(intOf i).toNat)
  case atStart=>exact⟨0,rfl,by omega,hid (World.ownsRow_nil _ _ _ _),hid (Below.refl _ _)⟩
  case round=>
   obtain⟨k,rfl,hk,HO,HB⟩:=hrel;have hsz:=HB.out.size;obtain⟨a0,n0,c0,rfl⟩:=aG HO.out;by_cases hlt:k<ns.length
   ·obtain⟨g,rfl,hg,hcell⟩:=HR.out k hlt
    have hcell:=(HB.out.cell (p:=⟨g,k,none⟩) (aD hcell)).trans hcell;obtain⟨x,hx⟩:∃x:ByteArray,x=⟨ns[k].toArray⟩:=⟨_,rfl⟩;have hxl:x.data.toList=ns[k]:=by rw[hx]
    rw[← hx]at hcell;have hxz:x.size≤24:=by rw[ay hxl];exact hnz.out _ (List.getElem_mem hlt)
    have HX:=hid hxl;have HLr:=hid (HL1.out.pure HB.out);clear hx hxl
    go_wp2_with fail
    refine(mP wr HLr.out x (by omega)).mono ?_;rintro e w2 ⟨⟨r,⟨m,hm,hs,rfl⟩|⟨hs,rfl⟩,rfl⟩,hb2⟩
    ·have HS:=hid (show hU (ns.take (k+1))=hU (ns.take k)++[m]from by
      rw[hZ hlt,← HX.out,hs,gZ m hm];rfl)
     have hs2:=hb2.size;have HO2:=hid (((Fr.pure (S:=λ_=>False) hb2).ownsRow HO.out (λ_ _ h=>h)).alloc (.cells #[.int .i64 (m:Int)] 2));have HB2:=hid (HB.out.trans (hb2.mono hsz));have hcnt:(hU (ns.take k)).length≤64:=by have:=ia (ns.take k);rw[List.length_take]at this;omega
     clear hb2 hs;obtain⟨i0,hi,hz0,hz1,hz2⟩:=info_parts Tryz.infoI64;have HI:=hid hi;have HZ0:=hid hz0;have HZ1:=hid hz1;have HZ2:=hid hz2;clear hi hz0 hz1 hz2
     go_wp2_with (first
      | (refine wpList_append_lies _ rfl _ _ 45 rfl w1.heap.size 2 i0 _ 1 8 Tryz.underlying45 HI.out HZ0.out HZ1.out HZ2.out rfl (by omega) _ (hU (ns.take k)).length _ rfl HO2.out ⟨w2.heap.size,0,none⟩ 1 1 [.int .i64 (m:Int)] rfl rfl (aH rfl rfl) (by simp[Value.oneCell']) (by omega) (by unfold maxLen;omega) (by omega) (by simp;omega) (w2.heap.size+1) (by simp) ?_;intro gg cap w8 hown8 hgrow8 hat8 hlt8))
     go_roundw
     case rel=>
      refine⟨k+1,by go_num,by omega,hid ?_,hid ?_⟩
      ·unfold m1
       rw[HS.out,List.map_append,List.length_append];exact hown8
      ·exact(HB2.out.alloc (by omega) _).grown hgrow8 (by simp;omega) (λj e=>mQ HO.out (by exact e))
     case measure=>simp[intOf];omega
    ·have HS:=hid (show hU (ns.take (k+1))=hU (ns.take k)from by
      rw[hZ hlt,← HX.out,hG.2 hs];simp)
     have HO2:=hid ((Fr.pure (S:=λ_=>False) hb2).ownsRow HO.out (λ_ _ h=>h));have HB2:=hid (HB.out.trans (hb2.mono hsz));clear hb2 hs;go_wp2
     go_roundw
     case rel=>
      refine⟨k+1,by go_num,by omega,hid ?_,HB2⟩;unfold m1;rw[HS.out];exact HO2.out
     case measure=>simp[intOf];omega
   ·have hkl:k=ns.length:=by omega
    have HO2:=hid (show m1 wr w1.heap.size (.slice a0 n0 c0) (hU ns)from by have:=HO.out;rw[hkl,List.take_length]at this;exact this);go_wp2;refine bodyPost_ret (v:=.tuple #[.slice a0 n0 c0,.int .i64 0]) (by simp[results,Tryz.results10,go_sem]) rfl ?_;refine⟨HB1.out.trans (HB.out.mono HB1.out.size),?_⟩;rw[HD.out,if_neg (by decide),← HN.out];exact⟨_,rfl,aF HO2.out (λg e=>by have:=mQ HO2.out e;have:=HB1.out.size;omega)⟩
 ·have HD:=hid hd
  clear hd
  go_enter Tryz.func10,Tryz.ntmps10
  go_wp2_with fail
  refine(mY w p b st H.out).mono ?_;rintro e w1 ⟨hb1,h1⟩;rw[HD.out,if_pos rfl]at h1;subst h1;have HB1:=hid hb1;clear hb1;go_wp2;refine bodyPost_ret (v:=.tuple #[.slice none 0 0,.int .i64 45]) (by simp[results,Tryz.results10,go_sem]) rfl ?_;exact⟨HB1.out,by rw[HD.out,if_pos rfl]⟩
theorem m4 {w:World}{base:Nat}{v:Value}{ns:List Nat}(h:m1 w base v ns):∃a c,v = .slice a ns.length c∧∀i (hi:i<ns.length),∃g,a=some ⟨g,0,none⟩∧base≤g∧w.cell? ⟨g,i,none⟩=some (.int .i64 (ns[i]:Int)):=by
 obtain⟨hl,⟨rfl,h0⟩|⟨g,cap,cur,rfl,hb,hh,hn,_,hsz,ht⟩⟩:=h
 ·exact⟨none,0,by rw[h0],λi hi=>by omega⟩
 ·refine⟨_,cap,rfl,λi hi=>⟨g,rfl,hb,?_⟩⟩
  rw[cell_of_row w g i _ _ _ hh];have e:(ns.map mZ)[i]?=some (mZ ns[i]):=by simp[hi]
  rw[← ht,List.getElem?_take,if_pos (by omega)]at e;rw[← Array.getElem?_toList];exact e
end
end Go.Proofs.YtaeakdichkhjaaaGreatDoor
