/- The walk of snap.Open, at any file. -/
import Derived.Test.YtaeakdichkhjaaaGreatDoorQBc
import Derived.Test.YtaeakdichkhjaaaGreatDoorQBd
set_option maxHeartbeats 8000000
open Go.Lib(hid)
namespace Go.Proofs.YtaeakdichkhjaaaGreatDoor
section
open Go.RowKit
def uN (w:World)(R:Int×StD×VwD×Int)(e:Ending)(w':World):Prop:=
 (∃sv dv,e = .returned (.tuple #[.int .i64 R.1,.agg (jc R.2.1 sv),.agg (jd dv),.int .i64 R.2.2.2])∧StAt (λg=>w.heap.size≤g) w' sv R.2.1∧VwAt (λg=>w.heap.size≤g) w' dv R.2.2.1)∧Below w.heap.size w w'
theorem uO {w w':World}{R:Int×StD×VwD×Int}(c:Int)(hR:R=(0,mB,mC,c))(hb:Below w.heap.size w w'):uN w R (.returned (.tuple #[.int .i64 0,.agg #[.int .i64 0,.int .i64 0,.int .i64 0,.int .i64 0,.slice none 0 0,.slice none 0 0,.slice none 0 0,.slice none 0 0,.slice none 0 0],.agg #[.slice none 0 0,.slice none 0 0,.slice none 0 0,.slice none 0 0],.int .i64 c])) w':=by
 subst hR;exact⟨⟨⟨.slice none 0 0,.slice none 0 0,.slice none 0 0,.slice none 0 0,.slice none 0 0⟩,⟨.slice none 0 0,.slice none 0 0,.slice none 0 0,.slice none 0 0⟩,rfl,tt _ _,tu _ _⟩,hb⟩
theorem uP {st st':RdSt}{s a:List UInt8}{b:Bool}{n:Nat}(h:st.take s n=(a,b,st'))(he:st'.e=0):st.e=0∧st'.at_=st.at_+n∧n≤s.length-st.at_:=by
 unfold RdSt.take at h
 split at h
 ·rename_i h1;simp only[Prod.mk.injEq]at h;rw[← h.2.2]at he;exact absurd he h1
 ·rename_i h1
  split at h
  ·simp only[Prod.mk.injEq]at h;rw[← h.2.2]at he;simp at he
  ·simp only[Prod.mk.injEq]at h
   rw[← h.2.2];exact⟨Classical.not_not.1 h1,rfl,by omega⟩
theorem uQ {st st':RdSt}{s:List UInt8}{n m:Nat}(h:st.fixed s n=(m,st'))(he:st'.e=0):st.e=0∧st'.at_=st.at_+n∧n≤s.length-st.at_:=by
 unfold RdSt.fixed at h;have h2:=(Prod.mk.inj h).2;exact uP (s:=s) (n:=n) (st:=st) (a:=(st.take s n).1) (b:=(st.take s n).2.1) (by rw[← h2]) he
theorem uR {t a:List UInt8}{b:Bool}{st1 st2 st3:RdSt}{x m:Nat}(h1:(⟨0,0,0⟩:RdSt).take t 4=(a,b,st1))(h2:st1.fixed t 8=(x,st2))(h3:st2.fixed t 4=(m,st3))(he:st3.e=0):16≤t.length∧st3.at_=16:=by
 obtain⟨e2,a3,l3⟩:=uQ h3 he;obtain⟨e1,a2,l2⟩:=uQ h2 e2;obtain⟨_,a1,l1⟩:=uP h1 e1;simp only[]at a1;omega
theorem uS {t a:List UInt8}{b:Bool}{st1 st2 st3:RdSt}{x m:Nat}{R:Int×StD×VwD×Int}(hR:R=uI t)(h1:(⟨0,0,0⟩:RdSt).take t 4=(a,b,st1))(h2:st1.fixed t 8=(x,st2))(h3:st2.fixed t 4=(m,st3)) :
  (¬(st3.e=0∧a=[115,110,112,49]∧x≤1048576∧(m:Int)=(t.length:Int)-st3.at_∧(mE (t.drop 16)).2.2=0)→R=(0,mB,mC,4)) ∧
  (st3.e=0∧a=[115,110,112,49]∧x≤1048576∧(m:Int)=(t.length:Int)-st3.at_∧(mE (t.drop 16)).2.2=0→R=((x:Int),(mE (t.drop 16)).1,(mE (t.drop 16)).2.1,0)):=by
 unfold uI at hR;rw[h1]at hR;dsimp only at hR;rw[h2]at hR;dsimp only at hR;rw[h3]at hR;dsimp only at hR;subst hR;constructor
 ·intro h
  split
  ·rfl
  ·split
   ·rfl
   ·split
    ·rfl
    ·split
     ·rfl
     ·split
      ·rfl
      ·rename_i c1 c2 c3 c4 c5
       exact absurd ⟨Classical.not_not.1 c1,Classical.not_not.1 c2,by omega,Classical.not_not.1 c4,Classical.not_not.1 c5⟩ h
 ·rintro⟨c1,c2,c3,c4,c5⟩
  rw[if_neg (λh=>h c1),if_neg (λh=>h c2),if_neg (by omega),if_neg (λh=>h c4),if_neg (λh=>h c5)]
set_option maxRecDepth 100000 in
theorem uT (w:World)(s:ByteArray)(h:1048576<s.size):Calls Tryz.prog 32 #[.string s] w λe w'=>uN w (uJ s.data.toList) e w':=by
 have HR:=hid (show uJ s.data.toList=(0,mB,mC,40)from by unfold uJ;rw[if_pos (by rw[nP];exact h)]);have hd:decide ((1048576:Int)<(s.size:Int))=true:=by simp;omega
 clear h;have he:∀(args:Array Value) (w:World),(callFunc 63 args).run Tryz.prog w = .ok (.enter 63 args) w:=enters_of Tryz.func63 (by kernel_rfl) rfl
 go_enter Tryz.func32,Tryz.ntmps32
 go_wp2_with fail
 obtain⟨n,hn⟩:∃n,n=w.heap.size:=⟨_,rfl⟩;obtain⟨W0,hW0⟩:∃W0,W0=(w.alloc (.cells #[.int .i64 0,.int .i64 0,.int .i64 0,.int .i64 0,.slice none 0 0,.slice none 0 0,.slice none 0 0,.slice none 0 0,.slice none 0 0] 29)).alloc (.cells #[.slice none 0 0,.slice none 0 0,.slice none 0 0,.slice none 0 0] 35):=⟨_,rfl⟩;have hbel:Below w.heap.size w W0:=by rw[hW0];exact((Below.refl _ _).alloc (Nat.le_refl _) _).alloc (by simp) _
 have k0:W0.heap[n]?=some (.cells #[.int .i64 0,.int .i64 0,.int .i64 0,.int .i64 0,.slice none 0 0,.slice none 0 0,.slice none 0 0,.slice none 0 0,.slice none 0 0] 29 (0,0)):=by rw[hW0,hn];exact(Below.heap_alloc _ _ _ (by simp<;>omega)).trans (heap_alloc_new _ _)
 have k1:W0.heap[n+1]?=some (.cells #[.slice none 0 0,.slice none 0 0,.slice none 0 0,.slice none 0 0] 35 (0,0)):=by rw[hW0,hn];exact oN _ _ (by simp)
 have K0:=hid k0;have K1:=hid k1;have HB:=hid hbel;have HN:=hid hn;have hl0:=lt_of_block k1;rw[← hW0,← hn];clear hW0 hn k0 k1 hbel;have PW:=K0;have QW:=K1;have BASE:=hid (show ∀Wf,Fr (λk=>k=n∨k=n+1) W0 Wf→Below w.heap.size w Wf from λWf hf=>by
  have hnw:=HN.out;exact HB.out.trans ((Below.refl w.heap.size W0).trans (hf.below (B:=w.heap.size) (by have:=HB.out.size;have:=(Below.refl w.heap.size W0).size;omega) (λk hk e=>by omega))))
 refine(kE 40 W0).mono ?_;rintro e wz ⟨rfl,hbz⟩;have PZ:=hid ((hbz.block _ (lt_of_block PW.out)).trans PW.out);have QZ:=hid ((hbz.block _ (lt_of_block QW.out)).trans QW.out);have BZ:=hid hbz;clear hbz;obtain⟨p0,pf0,p1,pf1,p2,pf2,p3,pf3,p4,pf4,p5,pf5,p6,pf6,p7,pf7,p8,pf8⟩:=kr (PZ.out);obtain⟨q0,qf0,q1,qf1,q2,qf2,q3,qf3⟩:=kw (QZ.out);unfold stZ cy;go_wp2;obtain⟨Wf,hWf,FA⟩:=kB PZ.out QZ.out (.int .i64 0) (.int .i64 0) (.int .i64 0) (.int .i64 0) (.slice none 0 0) (.slice none 0 0) (.slice none 0 0) (.slice none 0 0) (.slice none 0 0) (.slice none 0 0) (.slice none 0 0) (.slice none 0 0) (.slice none 0 0);rw[← hWf];clear hWf;have hfr:=FA.fr;refine bodyPost_ret (v:=.tuple #[.int .i64 0,.agg #[.int .i64 0,.int .i64 0,.int .i64 0,.int .i64 0,.slice none 0 0,.slice none 0 0,.slice none 0 0,.slice none 0 0,.slice none 0 0],.agg #[.slice none 0 0,.slice none 0 0,.slice none 0 0,.slice none 0 0],.int .i64 40]) (by simp[results,Tryz.results32,go_sem,FA.s0,FA.s1,FA.s2,FA.s3,FA.s4,FA.s5,FA.s6,FA.s7,FA.s8,FA.t0,FA.t1,FA.t2,FA.t3]) rfl ?_;exact uO 40 (HR.out) (BASE.out _ ((Fr.pure BZ.out).trans hfr))
set_option maxRecDepth 100000 in
theorem uU (w:World)(s:ByteArray)(h:s.size≤1048576)(c:Int)(hc:c≠0)(hR:uJ s.data.toList=(0,mB,mC,c))(hO:∀W:World,Calls Tryz.prog 64 #[.string s] W λe w'=>e = .returned (.tuple #[.string ⟨#[]⟩,.int .i64 c])∧Below W.heap.size W w') :
  Calls Tryz.prog 32 #[.string s] w λe w'=>uN w (uJ s.data.toList) e w':=by
 have HR:=hid hR;have HO:=hid hO;have hd:decide ((1048576:Int)<(s.size:Int))=false:=by simp;omega
 have hc1:(c == 0)=false:=by simpa using hc
 have hc2:(c != 0)=true:=by simpa using hc
 clear h hR hO hc;have he:∀(args:Array Value) (w:World),(callFunc 63 args).run Tryz.prog w = .ok (.enter 63 args) w:=enters_of Tryz.func63 (by kernel_rfl) rfl
 go_enter Tryz.func32,Tryz.ntmps32
 go_wp2_with fail
 obtain⟨n,hn⟩:∃n,n=w.heap.size:=⟨_,rfl⟩;obtain⟨W0,hW0⟩:∃W0,W0=(w.alloc (.cells #[.int .i64 0,.int .i64 0,.int .i64 0,.int .i64 0,.slice none 0 0,.slice none 0 0,.slice none 0 0,.slice none 0 0,.slice none 0 0] 29)).alloc (.cells #[.slice none 0 0,.slice none 0 0,.slice none 0 0,.slice none 0 0] 35):=⟨_,rfl⟩;have hbel:Below w.heap.size w W0:=by rw[hW0];exact((Below.refl _ _).alloc (Nat.le_refl _) _).alloc (by simp) _
 have k0:W0.heap[n]?=some (.cells #[.int .i64 0,.int .i64 0,.int .i64 0,.int .i64 0,.slice none 0 0,.slice none 0 0,.slice none 0 0,.slice none 0 0,.slice none 0 0] 29 (0,0)):=by rw[hW0,hn];exact(Below.heap_alloc _ _ _ (by simp<;>omega)).trans (heap_alloc_new _ _)
 have k1:W0.heap[n+1]?=some (.cells #[.slice none 0 0,.slice none 0 0,.slice none 0 0,.slice none 0 0] 35 (0,0)):=by rw[hW0,hn];exact oN _ _ (by simp)
 have K0:=hid k0;have K1:=hid k1;have HB:=hid hbel;have HN:=hid hn;have hl0:=lt_of_block k1;rw[← hW0,← hn];clear hW0 hn k0 k1 hbel;refine(HO.out W0).mono ?_;rintro e w1 ⟨rfl,hb1⟩;have PW:=hid ((hb1.block _ (lt_of_block K0.out)).trans K0.out);have QW:=hid ((hb1.block _ (lt_of_block K1.out)).trans K1.out);have B1:=hid (hb1.mono HB.out.size);clear hb1;have BASE:=hid (show ∀Wf,Fr (λk=>k=n∨k=n+1) w1 Wf→Below w.heap.size w Wf from λWf hf=>by
  have hnw:=HN.out;exact HB.out.trans ((B1.out).trans (hf.below (B:=w.heap.size) (by have:=HB.out.size;have:=(B1.out).size;omega) (λk hk e=>by omega))))
 go_wp2_with fail
 refine(kE c w1).mono ?_;rintro e wz ⟨rfl,hbz⟩;have PZ:=hid ((hbz.block _ (lt_of_block PW.out)).trans PW.out);have QZ:=hid ((hbz.block _ (lt_of_block QW.out)).trans QW.out);have BZ:=hid hbz;clear hbz;obtain⟨p0,pf0,p1,pf1,p2,pf2,p3,pf3,p4,pf4,p5,pf5,p6,pf6,p7,pf7,p8,pf8⟩:=kr (PZ.out);obtain⟨q0,qf0,q1,qf1,q2,qf2,q3,qf3⟩:=kw (QZ.out);unfold stZ cy;go_wp2;obtain⟨Wf,hWf,FA⟩:=kB PZ.out QZ.out (.int .i64 0) (.int .i64 0) (.int .i64 0) (.int .i64 0) (.slice none 0 0) (.slice none 0 0) (.slice none 0 0) (.slice none 0 0) (.slice none 0 0) (.slice none 0 0) (.slice none 0 0) (.slice none 0 0) (.slice none 0 0);rw[← hWf];clear hWf;have hfr:=FA.fr;refine bodyPost_ret (v:=.tuple #[.int .i64 0,.agg #[.int .i64 0,.int .i64 0,.int .i64 0,.int .i64 0,.slice none 0 0,.slice none 0 0,.slice none 0 0,.slice none 0 0,.slice none 0 0],.agg #[.slice none 0 0,.slice none 0 0,.slice none 0 0,.slice none 0 0],.int .i64 c]) (by simp[results,Tryz.results32,go_sem,FA.s0,FA.s1,FA.s2,FA.s3,FA.s4,FA.s5,FA.s6,FA.s7,FA.s8,FA.t0,FA.t1,FA.t2,FA.t3]) rfl ?_;exact uO c (HR.out) (BASE.out _ ((Fr.pure BZ.out).trans hfr))
set_option maxRecDepth 100000 in
theorem uV (w:World)(s:ByteArray)(h:s.size≤1048576)(h4:4≤s.size)(hS:iS s.data.toList):Calls Tryz.prog 32 #[.string s] w λe w'=>uN w (uJ s.data.toList) e w':=by
 obtain⟨RR,hRR⟩:∃RR,RR=uI (s.data.toList.take (s.size-4)):=⟨_,rfl⟩;have hRF:uJ s.data.toList=RR:=by
  unfold uJ;rw[nP,if_neg (by omega),if_neg (by omega),if_neg (λhn=>hn hS),hRR]
 rw[hRF];have HQ:=hid hRR;have HSS:=hid hS;have HZ:=hid h;have hd:decide ((1048576:Int)<(s.size:Int))=false:=by simp;omega
 clear h h4 hRF hRR hS;have he:∀(args:Array Value) (w:World),(callFunc 63 args).run Tryz.prog w = .ok (.enter 63 args) w:=enters_of Tryz.func63 (by kernel_rfl) rfl
 go_enter Tryz.func32,Tryz.ntmps32
 go_wp2_with fail
 obtain⟨n,hn⟩:∃n,n=w.heap.size:=⟨_,rfl⟩;obtain⟨W0,hW0⟩:∃W0,W0=(w.alloc (.cells #[.int .i64 0,.int .i64 0,.int .i64 0,.int .i64 0,.slice none 0 0,.slice none 0 0,.slice none 0 0,.slice none 0 0,.slice none 0 0] 29)).alloc (.cells #[.slice none 0 0,.slice none 0 0,.slice none 0 0,.slice none 0 0] 35):=⟨_,rfl⟩;have hbel:Below w.heap.size w W0:=by rw[hW0];exact((Below.refl _ _).alloc (Nat.le_refl _) _).alloc (by simp) _
 have k0:W0.heap[n]?=some (.cells #[.int .i64 0,.int .i64 0,.int .i64 0,.int .i64 0,.slice none 0 0,.slice none 0 0,.slice none 0 0,.slice none 0 0,.slice none 0 0] 29 (0,0)):=by rw[hW0,hn];exact(Below.heap_alloc _ _ _ (by simp<;>omega)).trans (heap_alloc_new _ _)
 have k1:W0.heap[n+1]?=some (.cells #[.slice none 0 0,.slice none 0 0,.slice none 0 0,.slice none 0 0] 35 (0,0)):=by rw[hW0,hn];exact oN _ _ (by simp)
 have K0:=hid k0;have K1:=hid k1;have HB:=hid hbel;have HN:=hid hn;have hl0:=lt_of_block k1;rw[← hW0,← hn];clear hW0 hn k0 k1 hbel;refine(iT s W0 (by have:=HZ.out;unfold maxLen;omega) HSS.out).mono ?_;rintro e w1 ⟨t,ht,rfl,hb1⟩;have htz:t.size≤1048576:=by have:=HZ.out;rw[av ht,List.length_take];omega
 have HT:=hid (show RR=uI t.data.toList from by rw[HQ.out,ht]);have HTZ:=hid htz;have B1:=hid hb1;clear ht hb1 HQ htz;obtain⟨⟨a,bb,st1⟩,hA⟩:∃A,A=(⟨0,0,0⟩:RdSt).take t.data.toList 4:=⟨_,rfl⟩;obtain⟨⟨x,st2⟩,hX⟩:∃A,A=st1.fixed t.data.toList 8:=⟨_,rfl⟩;obtain⟨⟨m,st3⟩,hM⟩:∃A,A=st2.fixed t.data.toList 4:=⟨_,rfl⟩;have HP:=hid (uS HT.out hA.symm hX.symm hM.symm);have HAT:=hid (λhe=>uR hA.symm hX.symm hM.symm he);have hm:m<72057594037927936:=by
  have:=congrArg Prod.fst hM;unfold RdSt.fixed at this;simp only at this;rw[this];exact aO (Nat.le_trans (aP _ _ _) (by omega))
 have HA:=hid hA;have HX:=hid hX;have HM:=hid hM;have hwm:IntKind.i64.wrap (m:Int)=(m:Int):=by rw[IntKind.wrap_i64];omega
 clear hA hX hM HT hm
 go_wp2_with fail
 refine(aH t w1 (by have:=HTZ.out;omega)).mono ?_;rintro e w2 ⟨rfl,hr2,hb2⟩;obtain⟨p,hp⟩:∃p,p=w1.heap.size:=⟨_,rfl⟩;rw[← hp]at hr2 ⊢;have hpn:n+1<p:=by have:=B1.out.size;omega
 have R2:=hid hr2;have F2:=hid (show Fr (λk=>k=p) W0 w2 from Fr.pure (cx B1.out hb2));clear hr2 hb2 hp
 go_wp2_with fail
 refine(aQ w2 p t _ R2.out 4 (by omega)).mono ?_;rw[← HA.out];rintro e w3 ⟨r,hr,rfl,hr3,hf3⟩;have hra:r=⟨a.toArray⟩:=aq (by simpa using hr);have R3:=hid hr3;have F3:=hid (F2.out.trans hf3);clear hr3 hf3 hr;obtain⟨bm,hbm⟩:∃b:Bool,b=decide (a=[115,110,112,49]):=⟨_,rfl⟩;have hcmp:(r.toList == [115,110,112,49])=bm:=by rw[hra,ByteArray.toList_eq,hbm];exact Bool.eq_iff_iff.2 (by simp)
 have HBM:=hid hbm;clear hbm;have hrz:r.size=a.length:=by rw[hra];show a.toArray.size=_;simp
 clear hra
 go_wp2_with fail
 refine(aU w3 p t _ R3.out).mono ?_;rw[← HX.out];rintro e w4 ⟨rfl,hr4,hf4⟩;have R4:=hid hr4;have F4:=hid (F3.out.trans hf4);clear hr4 hf4
 go_wp2_with fail
 refine(iq w4 p t _ R4.out).mono ?_;rw[← HM.out];rintro e w5 ⟨rfl,hr5,hf5⟩;have R5:=hid hr5;have F5:=hid (F4.out.trans hf5);clear hr5 hf5
 go_wp2_with fail
 refine(aV w5 p t _ R5.out).mono ?_;rintro e w6 ⟨rfl,n6,rfl⟩;obtain⟨W6,hW6⟩:∃W6,W6=w5.drewN n6:=⟨_,rfl⟩;have F6:=hid (show Fr (λk=>k=p) W0 W6 from by rw[hW6];exact F5.out.drewN _);have R6:=hid (show IsRd W6 p t st3 from by rw[hW6];exact R5.out.drewN _);rw[← hW6];clear hW6 R5 F5 R2 R3 R4 F2 F3 F4;have PW:=hid (F6.out.heapAt K0.out (by omega));have QW:=hid (F6.out.heapAt K1.out (by omega));have hl6:=F6.out.size;have BASE:=hid (show ∀Wf,Fr (λk=>k=n∨k=n+1) W6 Wf→Below w.heap.size w Wf from λWf hf=>by
  have hnw:=HN.out;exact HB.out.trans ((F6.out.below (B:=w.heap.size) HB.out.size (λk hk e=>by omega)).trans (hf.below (B:=w.heap.size) (by have:=HB.out.size;have:=F6.out.size;omega) (λk hk e=>by omega))))
 by_cases hend:st3.e=0;rotate_left
 ·have hq1:(st3.e == 0)=false:=by simpa using hend
  have hq2:(st3.e != 0)=true:=by simpa using hend
  have HNO:=hid (HP.out.1 (λh=>hend h.1));clear hend
  go_wp2_with fail
  refine(kE 4 W6).mono ?_;rintro e wz ⟨rfl,hbz⟩;have PZ:=hid ((hbz.block _ (lt_of_block PW.out)).trans PW.out);have QZ:=hid ((hbz.block _ (lt_of_block QW.out)).trans QW.out);have BZ:=hid hbz;clear hbz;obtain⟨p0,pf0,p1,pf1,p2,pf2,p3,pf3,p4,pf4,p5,pf5,p6,pf6,p7,pf7,p8,pf8⟩:=kr (PZ.out);obtain⟨q0,qf0,q1,qf1,q2,qf2,q3,qf3⟩:=kw (QZ.out);unfold stZ cy;go_wp2;obtain⟨Wf,hWf,FA⟩:=kB PZ.out QZ.out (.int .i64 0) (.int .i64 0) (.int .i64 0) (.int .i64 0) (.slice none 0 0) (.slice none 0 0) (.slice none 0 0) (.slice none 0 0) (.slice none 0 0) (.slice none 0 0) (.slice none 0 0) (.slice none 0 0) (.slice none 0 0);rw[← hWf];clear hWf;have hfr:=FA.fr;refine bodyPost_ret (v:=.tuple #[.int .i64 0,.agg #[.int .i64 0,.int .i64 0,.int .i64 0,.int .i64 0,.slice none 0 0,.slice none 0 0,.slice none 0 0,.slice none 0 0,.slice none 0 0],.agg #[.slice none 0 0,.slice none 0 0,.slice none 0 0,.slice none 0 0],.int .i64 4]) (by simp[results,Tryz.results32,go_sem,FA.s0,FA.s1,FA.s2,FA.s3,FA.s4,FA.s5,FA.s6,FA.s7,FA.s8,FA.t0,FA.t1,FA.t2,FA.t3]) rfl ?_;exact uO 4 (HNO.out) (BASE.out _ ((Fr.pure BZ.out).trans hfr))
 have hq1:(st3.e == 0)=true:=by simpa using hend
 have hq2:(st3.e != 0)=false:=by simpa using hend
 have HEN:=hid hend;clear hend;cases bm
 ·have HNO:=hid (HP.out.1 (λh=>by have h1:=HBM.out;rw[h.2.1]at h1;simp at h1))
  go_wp2_with fail
  refine(kE 4 W6).mono ?_;rintro e wz ⟨rfl,hbz⟩;have PZ:=hid ((hbz.block _ (lt_of_block PW.out)).trans PW.out);have QZ:=hid ((hbz.block _ (lt_of_block QW.out)).trans QW.out);have BZ:=hid hbz;clear hbz;obtain⟨p0,pf0,p1,pf1,p2,pf2,p3,pf3,p4,pf4,p5,pf5,p6,pf6,p7,pf7,p8,pf8⟩:=kr (PZ.out);obtain⟨q0,qf0,q1,qf1,q2,qf2,q3,qf3⟩:=kw (QZ.out);unfold stZ cy;go_wp2;obtain⟨Wf,hWf,FA⟩:=kB PZ.out QZ.out (.int .i64 0) (.int .i64 0) (.int .i64 0) (.int .i64 0) (.slice none 0 0) (.slice none 0 0) (.slice none 0 0) (.slice none 0 0) (.slice none 0 0) (.slice none 0 0) (.slice none 0 0) (.slice none 0 0) (.slice none 0 0);rw[← hWf];clear hWf;have hfr:=FA.fr;refine bodyPost_ret (v:=.tuple #[.int .i64 0,.agg #[.int .i64 0,.int .i64 0,.int .i64 0,.int .i64 0,.slice none 0 0,.slice none 0 0,.slice none 0 0,.slice none 0 0,.slice none 0 0],.agg #[.slice none 0 0,.slice none 0 0,.slice none 0 0,.slice none 0 0],.int .i64 4]) (by simp[results,Tryz.results32,go_sem,FA.s0,FA.s1,FA.s2,FA.s3,FA.s4,FA.s5,FA.s6,FA.s7,FA.s8,FA.t0,FA.t1,FA.t2,FA.t3]) rfl ?_;exact uO 4 (HNO.out) (BASE.out _ ((Fr.pure BZ.out).trans hfr))
 have HMG:=hid (show a=[115,110,112,49]from of_decide_eq_true HBM.out.symm);by_cases hx:1048576<x
 ·have hx2:decide ((1048576:Int)<(x:Int))=true:=by simp;omega
  have HNO:=hid (HP.out.1 (λh=>by have:=h.2.2.1;omega))
  go_wp2_with fail
  refine(kE 4 W6).mono ?_;rintro e wz ⟨rfl,hbz⟩;have PZ:=hid ((hbz.block _ (lt_of_block PW.out)).trans PW.out);have QZ:=hid ((hbz.block _ (lt_of_block QW.out)).trans QW.out);have BZ:=hid hbz;clear hbz;obtain⟨p0,pf0,p1,pf1,p2,pf2,p3,pf3,p4,pf4,p5,pf5,p6,pf6,p7,pf7,p8,pf8⟩:=kr (PZ.out);obtain⟨q0,qf0,q1,qf1,q2,qf2,q3,qf3⟩:=kw (QZ.out);unfold stZ cy;go_wp2;obtain⟨Wf,hWf,FA⟩:=kB PZ.out QZ.out (.int .i64 0) (.int .i64 0) (.int .i64 0) (.int .i64 0) (.slice none 0 0) (.slice none 0 0) (.slice none 0 0) (.slice none 0 0) (.slice none 0 0) (.slice none 0 0) (.slice none 0 0) (.slice none 0 0) (.slice none 0 0);rw[← hWf];clear hWf;have hfr:=FA.fr;refine bodyPost_ret (v:=.tuple #[.int .i64 0,.agg #[.int .i64 0,.int .i64 0,.int .i64 0,.int .i64 0,.slice none 0 0,.slice none 0 0,.slice none 0 0,.slice none 0 0,.slice none 0 0],.agg #[.slice none 0 0,.slice none 0 0,.slice none 0 0,.slice none 0 0],.int .i64 4]) (by simp[results,Tryz.results32,go_sem,FA.s0,FA.s1,FA.s2,FA.s3,FA.s4,FA.s5,FA.s6,FA.s7,FA.s8,FA.t0,FA.t1,FA.t2,FA.t3]) rfl ?_;exact uO 4 (HNO.out) (BASE.out _ ((Fr.pure BZ.out).trans hfr))
 have hx2:decide ((1048576:Int)<(x:Int))=false:=by simp;omega
 have HXL:=hid (show x≤1048576 from by omega);clear hx
 go_wp2_with fail
 refine(aW W6 p t _ R6.out).mono ?_;rintro e w7 ⟨rfl,n7,rfl⟩;obtain⟨W7,hW7⟩:∃W7,W7=W6.drewN n7:=⟨_,rfl⟩;have F7:=hid (show Fr (λk=>k=p) W0 W7 from by rw[hW7];exact F6.out.drewN _);rw[← hW7];clear hW7 R6 PW QW BASE;have PW:=hid (F7.out.heapAt K0.out (by omega));have QW:=hid (F7.out.heapAt K1.out (by omega));have hl7:=F7.out.size;have BASE:=hid (show ∀Wf,Fr (λk=>k=n∨k=n+1) W7 Wf→Below w.heap.size w Wf from λWf hf=>by
  have hnw:=HN.out;exact HB.out.trans ((F7.out.below (B:=w.heap.size) HB.out.size (λk hk e=>by omega)).trans (hf.below (B:=w.heap.size) (by have:=HB.out.size;have:=F7.out.size;omega) (λk hk e=>by omega))))
 obtain⟨h16,hat⟩:=HAT.out HEN.out;rw[nP]at h16;by_cases hlf:(m:Int)=(t.size:Int)-(st3.at_:Int);rotate_left
 ·have hl1:((m:Int) == (t.size:Int)-(st3.at_:Int))=false:=by simpa using hlf
  have hl2:((m:Int) != (t.size:Int)-(st3.at_:Int))=true:=by simpa using hlf
  have HNO:=hid (HP.out.1 (λh=>hlf (by have:=h.2.2.2.1;rw[nP]at this;exact this)));clear hlf hat
  go_wp2_with fail
  refine(kE 4 W7).mono ?_;rintro e wz ⟨rfl,hbz⟩;have PZ:=hid ((hbz.block _ (lt_of_block PW.out)).trans PW.out);have QZ:=hid ((hbz.block _ (lt_of_block QW.out)).trans QW.out);have BZ:=hid hbz;clear hbz;obtain⟨p0,pf0,p1,pf1,p2,pf2,p3,pf3,p4,pf4,p5,pf5,p6,pf6,p7,pf7,p8,pf8⟩:=kr (PZ.out);obtain⟨q0,qf0,q1,qf1,q2,qf2,q3,qf3⟩:=kw (QZ.out);unfold stZ cy;go_wp2;obtain⟨Wf,hWf,FA⟩:=kB PZ.out QZ.out (.int .i64 0) (.int .i64 0) (.int .i64 0) (.int .i64 0) (.slice none 0 0) (.slice none 0 0) (.slice none 0 0) (.slice none 0 0) (.slice none 0 0) (.slice none 0 0) (.slice none 0 0) (.slice none 0 0) (.slice none 0 0);rw[← hWf];clear hWf;have hfr:=FA.fr;refine bodyPost_ret (v:=.tuple #[.int .i64 0,.agg #[.int .i64 0,.int .i64 0,.int .i64 0,.int .i64 0,.slice none 0 0,.slice none 0 0,.slice none 0 0,.slice none 0 0,.slice none 0 0],.agg #[.slice none 0 0,.slice none 0 0,.slice none 0 0,.slice none 0 0],.int .i64 4]) (by simp[results,Tryz.results32,go_sem,FA.s0,FA.s1,FA.s2,FA.s3,FA.s4,FA.s5,FA.s6,FA.s7,FA.s8,FA.t0,FA.t1,FA.t2,FA.t3]) rfl ?_;exact uO 4 (HNO.out) (BASE.out _ ((Fr.pure BZ.out).trans hfr))
 have hl1:((m:Int) == (t.size:Int)-(st3.at_:Int))=true:=by simpa using hlf
 have hl2:((m:Int) != (t.size:Int)-(st3.at_:Int))=false:=by simpa using hlf
 have HLF:=hid hlf;clear hlf hat
 go_wp2_with fail
 refine(tB W7 (t.extract 16 t.size)).mono ?_;have hcut:(t.extract 16 t.size).data.toList=t.data.toList.drop 16:=by rw[aw];rw[← nP,List.take_of_length_le (by rw[List.length_drop];exact Nat.le_refl _)]
 rw[hcut];obtain⟨⟨S,V,code⟩,hSV⟩:∃A,A=mE (t.data.toList.drop 16):=⟨_,rfl⟩;rw[← hSV];have HP2:=hid HP.out;rw[← hSV]at HP2;dsimp only at HP2;clear hSV HP hcut;rintro e w8 ⟨⟨sv,dv,rfl,hst,hvt⟩,hb8⟩;dsimp only at hst hvt ⊢;have S8:=hid (hst.mono (G:=λg=>n+1<g) (λg hg=>by omega));have V8:=hid (hvt.mono (G:=λg=>n+1<g) (λg hg=>by omega));obtain⟨s4,s5,s6,s7,s8⟩:=sv;obtain⟨d0,d1,d2,d3⟩:=dv;obtain⟨sa4,sm4,sc4,rfl⟩:∃a m c,s4=Value.slice a m c:=by obtain⟨a,c,h⟩:=hst.a.shape;exact⟨a,_,c,h⟩
 obtain⟨sa5,sm5,sc5,rfl⟩:∃a m c,s5=Value.slice a m c:=by obtain⟨a,c,h⟩:=hst.i.shape;exact⟨a,_,c,h⟩
 obtain⟨sa6,sm6,sc6,rfl⟩:∃a m c,s6=Value.slice a m c:=by obtain⟨a,c,h⟩:=hst.r.shape;exact⟨a,_,c,h⟩
 obtain⟨sa7,sm7,sc7,rfl⟩:∃a m c,s7=Value.slice a m c:=by obtain⟨a,c,h⟩:=hst.o.shape;exact⟨a,_,c,h⟩
 obtain⟨sa8,sm8,sc8,rfl⟩:∃a m c,s8=Value.slice a m c:=by obtain⟨a,c,h⟩:=hst.u.shape;exact⟨a,_,c,h⟩
 obtain⟨da0,dm0,dc0,rfl⟩:∃a m c,d0=Value.slice a m c:=by obtain⟨a,c,h⟩:=hvt.o.shape;exact⟨a,_,c,h⟩
 obtain⟨da1,dm1,dc1,rfl⟩:∃a m c,d1=Value.slice a m c:=by obtain⟨a,c,h⟩:=hvt.l.shape;exact⟨a,_,c,h⟩
 obtain⟨da2,dm2,dc2,rfl⟩:∃a m c,d2=Value.slice a m c:=by obtain⟨a,c,h⟩:=hvt.p.shape;exact⟨a,_,c,h⟩
 obtain⟨da3,dm3,dc3,rfl⟩:∃a m c,d3=Value.slice a m c:=by obtain⟨a,c,h⟩:=hvt.n.shape;exact⟨a,_,c,h⟩
 have F8:=hid (F7.out.andPure hb8);have hl8:n+1<w8.heap.size:=by have:=hb8.size;omega
 have hl8b:n<w8.heap.size:=by omega
 clear hb8 hst hvt PW QW BASE;unfold jc jd;dsimp only;obtain⟨W9,hW9⟩:∃W9,W9=(w8.alloc (.cells #[.int .i64 S.clock,.int .i64 S.fee,.int .i64 S.nextO,.int .i64 S.nextA,.slice sa4 sm4 sc4,.slice sa5 sm5 sc5,.slice sa6 sm6 sc6,.slice sa7 sm7 sc7,.slice sa8 sm8 sc8] 29)).alloc (.cells #[.slice da0 dm0 dc0,.slice da1 dm1 dc1,.slice da2 dm2 dc2,.slice da3 dm3 dc3] 35):=⟨_,rfl⟩;have hb9:Below w8.heap.size w8 W9:=by rw[hW9];exact((Below.refl _ _).alloc (Nat.le_refl _) _).alloc (by simp) _
 have F9:=hid (F8.out.andPure hb9);have S9:=hid (S8.out.pure hb9);have V9:=hid (V8.out.pure hb9);have PW:=hid (F9.out.heapAt K0.out (by omega));have QW:=hid (F9.out.heapAt K1.out (by omega));have hl9:=F9.out.size;have BASE:=hid (show ∀Wf,Fr (λk=>k=n∨k=n+1) W9 Wf→Below w.heap.size w Wf from λWf hf=>by
  have hnw:=HN.out;exact HB.out.trans ((F9.out.below (B:=w.heap.size) HB.out.size (λk hk e=>by omega)).trans (hf.below (B:=w.heap.size) (by have:=HB.out.size;have:=F9.out.size;omega) (λk hk e=>by omega))))
 have ks:W9.heap[w8.heap.size]?=some (.cells #[.int .i64 S.clock,.int .i64 S.fee,.int .i64 S.nextO,.int .i64 S.nextA,.slice sa4 sm4 sc4,.slice sa5 sm5 sc5,.slice sa6 sm6 sc6,.slice sa7 sm7 sc7,.slice sa8 sm8 sc8] 29 (0,0)):=by rw[hW9];exact(Below.heap_alloc _ _ _ (by simp)).trans (heap_alloc_new _ _)
 have kv:W9.heap[w8.heap.size+1]?=some (.cells #[.slice da0 dm0 dc0,.slice da1 dm1 dc1,.slice da2 dm2 dc2,.slice da3 dm3 dc3] 35 (0,0)):=by rw[hW9];exact oN _ _ (by simp)
 have KS:=hid ks;have KV:=hid kv;have HW9:=hid hW9;clear hb9 ks kv hW9;by_cases hcd:code=0;rotate_left
 ·have hc1:(code == 0)=false:=by simpa using hcd
  have hc2:(code != 0)=true:=by simpa using hcd
  have HNO:=hid (HP2.out.1 (λh=>hcd h.2.2.2.2));clear hcd
  go_wp2_with fail
  rw[← HW9.out];refine(kE 4 W9).mono ?_;rintro e wz ⟨rfl,hbz⟩;have PZ:=hid ((hbz.block _ (lt_of_block PW.out)).trans PW.out);have QZ:=hid ((hbz.block _ (lt_of_block QW.out)).trans QW.out);have BZ:=hid hbz;clear hbz;obtain⟨p0,pf0,p1,pf1,p2,pf2,p3,pf3,p4,pf4,p5,pf5,p6,pf6,p7,pf7,p8,pf8⟩:=kr (PZ.out);obtain⟨q0,qf0,q1,qf1,q2,qf2,q3,qf3⟩:=kw (QZ.out);unfold stZ cy;go_wp2;obtain⟨Wf,hWf,FA⟩:=kB PZ.out QZ.out (.int .i64 0) (.int .i64 0) (.int .i64 0) (.int .i64 0) (.slice none 0 0) (.slice none 0 0) (.slice none 0 0) (.slice none 0 0) (.slice none 0 0) (.slice none 0 0) (.slice none 0 0) (.slice none 0 0) (.slice none 0 0);rw[← hWf];clear hWf;have hfr:=FA.fr;refine bodyPost_ret (v:=.tuple #[.int .i64 0,.agg #[.int .i64 0,.int .i64 0,.int .i64 0,.int .i64 0,.slice none 0 0,.slice none 0 0,.slice none 0 0,.slice none 0 0,.slice none 0 0],.agg #[.slice none 0 0,.slice none 0 0,.slice none 0 0,.slice none 0 0],.int .i64 4]) (by simp[results,Tryz.results32,go_sem,FA.s0,FA.s1,FA.s2,FA.s3,FA.s4,FA.s5,FA.s6,FA.s7,FA.s8,FA.t0,FA.t1,FA.t2,FA.t3]) rfl ?_;exact uO 4 (HNO.out) (BASE.out _ ((Fr.pure BZ.out).trans hfr))
 subst hcd;have HYES:=hid (HP2.out.2 ⟨HEN.out,HMG.out,HXL.out,by rw[nP];exact HLF.out,rfl⟩);have hwx:IntKind.i64.wrap (x:Int)=(x:Int):=by have:=HXL.out;rw[IntKind.wrap_i64];omega
 go_wp2;rw[← HW9.out];obtain⟨x0,x1,x2,x3,x4,x5,x6,x7,x8⟩:=kq (KS.out);obtain⟨y0,y1,y2,y3⟩:=ku (KV.out);obtain⟨p0,pf0,p1,pf1,p2,pf2,p3,pf3,p4,pf4,p5,pf5,p6,pf6,p7,pf7,p8,pf8⟩:=kr (PW.out);obtain⟨q0,qf0,q1,qf1,q2,qf2,q3,qf3⟩:=kw (QW.out)
 go_region
 go_wp2;obtain⟨Wf,hWf,FA⟩:=kB PW.out QW.out (.int .i64 S.clock) (.int .i64 S.fee) (.int .i64 S.nextO) (.int .i64 S.nextA) (.slice sa4 sm4 sc4) (.slice sa5 sm5 sc5) (.slice sa6 sm6 sc6) (.slice sa7 sm7 sc7) (.slice sa8 sm8 sc8) (.slice da0 dm0 dc0) (.slice da1 dm1 dc1) (.slice da2 dm2 dc2) (.slice da3 dm3 dc3);rw[← hWf];clear hWf;have FA:=FA.drew;have hfr:=FA.fr;refine bodyPost_ret (v:=.tuple #[.int .i64 (x:Int),.agg #[.int .i64 S.clock,.int .i64 S.fee,.int .i64 S.nextO,.int .i64 S.nextA,.slice sa4 sm4 sc4,.slice sa5 sm5 sc5,.slice sa6 sm6 sc6,.slice sa7 sm7 sc7,.slice sa8 sm8 sc8],.agg #[.slice da0 dm0 dc0,.slice da1 dm1 dc1,.slice da2 dm2 dc2,.slice da3 dm3 dc3],.int .i64 0]) (by simp[results,Tryz.results32,go_sem,FA.s0,FA.s1,FA.s2,FA.s3,FA.s4,FA.s5,FA.s6,FA.s7,FA.s8,FA.t0,FA.t1,FA.t2,FA.t3]) rfl ?_;rw[HYES.out];have hnw:=HN.out;refine⟨⟨⟨.slice sa4 sm4 sc4,.slice sa5 sm5 sc5,.slice sa6 sm6 sc6,.slice sa7 sm7 sc7,.slice sa8 sm8 sc8⟩,⟨.slice da0 dm0 dc0,.slice da1 dm1 dc1,.slice da2 dm2 dc2,.slice da3 dm3 dc3⟩,rfl,?_,?_⟩,BASE.out _ hfr⟩
 ·exact(S9.out.kept hfr (λg hg e=>by have hg:n+1<g:=hg;omega)).mono (λg hg=>by have hg:n+1<g:=hg;omega)
 ·exact(V9.out.kept hfr (λg hg e=>by have hg:n+1<g:=hg;omega)).mono (λg hg=>by have hg:n+1<g:=hg;omega)
theorem uW (w:World)(s:ByteArray)(hs:s.size≤maxLen):Calls Tryz.prog 32 #[.string s] w λe w'=>uN w (uJ s.data.toList) e w':=by
 by_cases h:1048576<s.size
 ·exact uT w s h
 ·by_cases h4:s.size<4
  ·exact uU w s (by omega) 8 (by omega) (by unfold uJ;rw[nP,if_neg h,if_pos h4]) (λW=>(iR s W h4).mono (λe w' h=>⟨h.1,by rw[h.2];exact Below.refl _ _⟩))
  ·by_cases hS:iS s.data.toList
   ·exact uV w s (by omega) (by omega) hS
   ·exact uU w s (by omega) 42 (by omega) (by unfold uJ;rw[nP,if_neg h,if_neg h4,if_pos hS]) (λW=>iU s W (by omega) hs hS)
end
end Go.Proofs.YtaeakdichkhjaaaGreatDoor
