/- The walks of the empty state, and of at, of the laws of snapshots' files. -/
import Derived.Test.YtaeakdichkhjaaaGreatDoorQAm
import Derived.Test.YtaeakdichkhjaaaGreatDoorQAf
set_option maxHeartbeats 4000000
open Go.Lib(hid)
namespace Go.Proofs.YtaeakdichkhjaaaGreatDoor
section
open Go.RowKit Go.Sort Go.Shelf
def Reads (w:World)(dv:Value)(nm D:List UInt8)(code:Int):Prop:=∀(W:World) (r:ByteArray),Below w.heap.size w W→r.data.toList=nm →
 Calls Tryz.prog 17 #[dv,.string r] W λe w'=>(∃d:ByteArray,d.data.toList=D∧e = .returned (.tuple #[.string d,.int .i64 code]))∧Below W.heap.size W w'
theorem Reads.pure {w w':World}{dv:Value}{nm D:List UInt8}{code:Int}(h:Reads w dv nm D code)(hb:Below w.heap.size w w'):Reads w' dv nm D code:=λW r hW hr=>h W r (dj hb hW) hr
set_option maxRecDepth 100000 in
theorem m6 (w:World)(dv:Value)(hp:Pow w)(n:Int)(hn9:gv n=true)(D:List UInt8)(code:Int)(hc:code≠0)(hd:Reads w dv (gQ n) D code) :
  Calls Tryz.prog 11 #[dv,.int .i64 n] w λe w'=>e = .returned (.tuple #[.agg #[.int .i64 0,.int .i64 0,.int .i64 0,.int .i64 0,.slice none 0 0,.slice none 0 0,.slice none 0 0,.slice none 0 0,.slice none 0 0],.agg #[.slice none 0 0,.slice none 0 0,.slice none 0 0,.slice none 0 0],.int .i64 code])∧Below w.heap.size w w':=by
 have HD:=hid hd;have hcf:(code == 0)=false:=by simpa using hc
 have hct:(code != 0)=true:=by simpa using hc
 clear hd
 go_enter Tryz.func11,Tryz.ntmps11
 go_wp2_with fail
 obtain⟨b,hn⟩:∃b,b=w.heap.size:=⟨_,rfl⟩;obtain⟨W0,hW0⟩:∃W0,W0=(w.alloc (.cells #[.int .i64 0,.int .i64 0,.int .i64 0,.int .i64 0,.slice none 0 0,.slice none 0 0,.slice none 0 0,.slice none 0 0,.slice none 0 0] 29)).alloc (.cells #[.slice none 0 0,.slice none 0 0,.slice none 0 0,.slice none 0 0] 35):=⟨_,rfl⟩;have hbel:Below w.heap.size w W0:=by rw[hW0];exact((Below.refl _ _).alloc (Nat.le_refl _) _).alloc (by simp) _
 have k0:W0.heap[b]?=some (.cells #[.int .i64 0,.int .i64 0,.int .i64 0,.int .i64 0,.slice none 0 0,.slice none 0 0,.slice none 0 0,.slice none 0 0,.slice none 0 0] 29 (0,0)):=by rw[hW0,hn];exact(Below.heap_alloc _ _ _ (by simp<;>omega)).trans (heap_alloc_new _ _)
 have k1:W0.heap[b+1]?=some (.cells #[.slice none 0 0,.slice none 0 0,.slice none 0 0,.slice none 0 0] 35 (0,0)):=by rw[hW0,hn];exact cK _ _ (by simp)
 have K0:=hid k0;have K1:=hid k1;have HB:=hid hbel;have HN:=hid hn;rw[← hW0,← hn];clear hW0 hn k0 k1 hbel;refine(mK W0 n).mono ?_;rintro e w1 ⟨rfl,rfl⟩;rw[hn9]
 go_wp2_with fail
 refine(mL W0 (gq HB.out hp) n).mono ?_;rintro e w1 ⟨⟨r,hr,rfl⟩,hb1⟩;have B1:=hid hb1;have HR:=hid hr;clear hb1 hr
 go_wp2_with fail
 refine(HD.out w1 r (HB.out.trans (B1.out.mono HB.out.size)) HR.out).mono ?_;rintro e w2 ⟨⟨d,hd,rfl⟩,hb2⟩;have B2:=hid (dj B1.out hb2);have HDD:=hid hd;clear hb2 hd;have P9:=hid ((B2.out.block _ (lt_of_block K0.out)).trans K0.out);have Q9:=hid ((B2.out.block _ (lt_of_block K1.out)).trans K1.out);obtain⟨p0,pf0,p1,pf1,p2,pf2,p3,pf3,p4,pf4,p5,pf5,p6,pf6,p7,pf7,p8,pf8⟩:=mn (P9.out);obtain⟨q0,qf0,q1,qf1,q2,qf2,q3,qf3⟩:=mq (Q9.out);go_wp2;obtain⟨Wf,hWf,FA⟩:=mx P9.out Q9.out (.int .i64 0) (.int .i64 0) (.int .i64 0) (.int .i64 0) (.slice none 0 0) (.slice none 0 0) (.slice none 0 0) (.slice none 0 0) (.slice none 0 0) (.slice none 0 0) (.slice none 0 0) (.slice none 0 0) (.slice none 0 0);rw[← hWf];clear hWf;have hfr:=FA.fr;refine bodyPost_ret (v:=.tuple #[.agg #[.int .i64 0,.int .i64 0,.int .i64 0,.int .i64 0,.slice none 0 0,.slice none 0 0,.slice none 0 0,.slice none 0 0,.slice none 0 0],.agg #[.slice none 0 0,.slice none 0 0,.slice none 0 0,.slice none 0 0],.int .i64 code]) (by simp[results,Tryz.results11,go_sem,FA.s0,FA.s1,FA.s2,FA.s3,FA.s4,FA.s5,FA.s6,FA.s7,FA.s8,FA.t0,FA.t1,FA.t2,FA.t3]) rfl ⟨rfl,?_⟩;have hnw:=HN.out;exact HB.out.trans ((B2.out.mono HB.out.size).trans (hfr.below (B:=w.heap.size) (by have:=HB.out.size;have:=B2.out.size;omega) (λk hk e=>by omega)))
set_option maxRecDepth 100000 in
theorem m7 (w:World)(dv:Value)(hp:Pow w)(n:Int)(hn9:gv n=true)(hd:Reads w dv (gQ n) [] 0) :
  Calls Tryz.prog 11 #[dv,.int .i64 n] w λe w'=>e = .returned (.tuple #[.agg #[.int .i64 0,.int .i64 0,.int .i64 0,.int .i64 0,.slice none 0 0,.slice none 0 0,.slice none 0 0,.slice none 0 0,.slice none 0 0],.agg #[.slice none 0 0,.slice none 0 0,.slice none 0 0,.slice none 0 0],.int .i64 8])∧Below w.heap.size w w':=by
 have HD:=hid hd;clear hd
 go_enter Tryz.func11,Tryz.ntmps11
 go_wp2_with fail
 obtain⟨b,hn⟩:∃b,b=w.heap.size:=⟨_,rfl⟩;obtain⟨W0,hW0⟩:∃W0,W0=(w.alloc (.cells #[.int .i64 0,.int .i64 0,.int .i64 0,.int .i64 0,.slice none 0 0,.slice none 0 0,.slice none 0 0,.slice none 0 0,.slice none 0 0] 29)).alloc (.cells #[.slice none 0 0,.slice none 0 0,.slice none 0 0,.slice none 0 0] 35):=⟨_,rfl⟩;have hbel:Below w.heap.size w W0:=by rw[hW0];exact((Below.refl _ _).alloc (Nat.le_refl _) _).alloc (by simp) _
 have k0:W0.heap[b]?=some (.cells #[.int .i64 0,.int .i64 0,.int .i64 0,.int .i64 0,.slice none 0 0,.slice none 0 0,.slice none 0 0,.slice none 0 0,.slice none 0 0] 29 (0,0)):=by rw[hW0,hn];exact(Below.heap_alloc _ _ _ (by simp<;>omega)).trans (heap_alloc_new _ _)
 have k1:W0.heap[b+1]?=some (.cells #[.slice none 0 0,.slice none 0 0,.slice none 0 0,.slice none 0 0] 35 (0,0)):=by rw[hW0,hn];exact cK _ _ (by simp)
 have K0:=hid k0;have K1:=hid k1;have HB:=hid hbel;have HN:=hid hn;rw[← hW0,← hn];clear hW0 hn k0 k1 hbel;refine(mK W0 n).mono ?_;rintro e w1 ⟨rfl,rfl⟩;rw[hn9]
 go_wp2_with fail
 refine(mL W0 (gq HB.out hp) n).mono ?_;rintro e w1 ⟨⟨r,hr,rfl⟩,hb1⟩;have B1:=hid hb1;have HR:=hid hr;clear hb1 hr
 go_wp2_with fail
 refine(HD.out w1 r (HB.out.trans (B1.out.mono HB.out.size)) HR.out).mono ?_;rintro e w2 ⟨⟨d,hd,rfl⟩,hb2⟩;have B2:=hid (dj B1.out hb2);have HDD:=hid hd;clear hb2 hd
 go_wp2_with fail
 refine(mJ w2 d (by rw[ay HDD.out];decide)).mono ?_;rintro e w3 ⟨rfl,hb3⟩;have B4:=hid (dj B2.out hb3);have hl3:b+1<w3.heap.size:=by have:=lt_of_block K1.out;have:=B4.out.size;omega
 have hl4:b<w3.heap.size:=by omega
 clear hb3;have P3:=(B4.out.block _ (lt_of_block K0.out)).trans K0.out;have Q3:=(B4.out.block _ (lt_of_block K1.out)).trans K1.out;obtain⟨p0,pf0,p1,pf1,p2,pf2,p3,pf3,p4,pf4,p5,pf5,p6,pf6,p7,pf7,p8,pf8⟩:=mn (P3);obtain⟨q0,qf0,q1,qf1,q2,qf2,q3,qf3⟩:=mq (Q3);have P3x:=hid P3;have Q3x:=hid Q3;unfold stZ dl;go_wp2;obtain⟨Wf,hWf,FA⟩:=mx P3x.out Q3x.out (.int .i64 0) (.int .i64 0) (.int .i64 0) (.int .i64 0) (.slice none 0 0) (.slice none 0 0) (.slice none 0 0) (.slice none 0 0) (.slice none 0 0) (.slice none 0 0) (.slice none 0 0) (.slice none 0 0) (.slice none 0 0);rw[← hWf];clear hWf;have FB:=λo1 o2=>FA.pure (mw Wf o1 o2);refine bodyPost_ret (v:=.tuple #[.agg #[.int .i64 0,.int .i64 0,.int .i64 0,.int .i64 0,.slice none 0 0,.slice none 0 0,.slice none 0 0,.slice none 0 0,.slice none 0 0],.agg #[.slice none 0 0,.slice none 0 0,.slice none 0 0,.slice none 0 0],.int .i64 8]) (by simp[results,Tryz.results11,go_sem,λa b=>(FB a b).s0,λa b=>(FB a b).s1,λa b=>(FB a b).s2,λa b=>(FB a b).s3,λa b=>(FB a b).s4,λa b=>(FB a b).s5,λa b=>(FB a b).s6,λa b=>(FB a b).s7,λa b=>(FB a b).s8,λa b=>(FB a b).t0,λa b=>(FB a b).t1,λa b=>(FB a b).t2,λa b=>(FB a b).t3]) rfl ⟨rfl,?_⟩;have hnw:=HN.out;exact HB.out.trans ((B4.out.mono HB.out.size).trans ((FB _ _).fr.below (B:=w.heap.size) (by have:=HB.out.size;have:=B4.out.size;omega) (λk hk e=>by omega)))
set_option maxRecDepth 100000 in
theorem nc (w:World)(dv:Value)(hp:Pow w)(q c:Nat)(hq:q≤1048576)(hcc:c<128)(hd:Reads w dv (gQ (q:Int)) (iU q c) 0) :
  Calls Tryz.prog 11 #[dv,.int .i64 (q:Int)] w λe w'=>e = .returned (.tuple #[stV (c:Int) 0 1 1,dl,.int .i64 0])∧Below w.heap.size w w':=by
 obtain⟨n,hnq⟩:∃n:Int,n=(q:Int):=⟨_,rfl⟩;rw[← hnq]at hd ⊢;have hn9:gv n=true:=by rw[hnq];unfold gv;simp;omega
 have HD:=hid hd;have HNQ:=hid hnq;clear hd hnq
 go_enter Tryz.func11,Tryz.ntmps11
 go_wp2_with fail
 obtain⟨b,hn⟩:∃b,b=w.heap.size:=⟨_,rfl⟩;obtain⟨W0,hW0⟩:∃W0,W0=(w.alloc (.cells #[.int .i64 0,.int .i64 0,.int .i64 0,.int .i64 0,.slice none 0 0,.slice none 0 0,.slice none 0 0,.slice none 0 0,.slice none 0 0] 29)).alloc (.cells #[.slice none 0 0,.slice none 0 0,.slice none 0 0,.slice none 0 0] 35):=⟨_,rfl⟩;have hbel:Below w.heap.size w W0:=by rw[hW0];exact((Below.refl _ _).alloc (Nat.le_refl _) _).alloc (by simp) _
 have k0:W0.heap[b]?=some (.cells #[.int .i64 0,.int .i64 0,.int .i64 0,.int .i64 0,.slice none 0 0,.slice none 0 0,.slice none 0 0,.slice none 0 0,.slice none 0 0] 29 (0,0)):=by rw[hW0,hn];exact(Below.heap_alloc _ _ _ (by simp<;>omega)).trans (heap_alloc_new _ _)
 have k1:W0.heap[b+1]?=some (.cells #[.slice none 0 0,.slice none 0 0,.slice none 0 0,.slice none 0 0] 35 (0,0)):=by rw[hW0,hn];exact cK _ _ (by simp)
 have K0:=hid k0;have K1:=hid k1;have HB:=hid hbel;have HN:=hid hn;rw[← hW0,← hn];clear hW0 hn k0 k1 hbel;refine(mK W0 n).mono ?_;rintro e w1 ⟨rfl,rfl⟩;rw[hn9]
 go_wp2_with fail
 refine(mL W0 (gq HB.out hp) n).mono ?_;rintro e w1 ⟨⟨r,hr,rfl⟩,hb1⟩;have B1:=hid hb1;have HR:=hid hr;clear hb1 hr
 go_wp2_with fail
 refine(HD.out w1 r (HB.out.trans (B1.out.mono HB.out.size)) HR.out).mono ?_;rintro e w2 ⟨⟨d,hd,rfl⟩,hb2⟩;have B2:=hid (dj B1.out hb2);have HDD:=hid hd;clear hb2 hd
 go_wp2_with fail
 refine(mH q c hq hcc w2 d HDD.out).mono ?_;rw[← HNQ.out];rintro e w3 ⟨rfl,hb3⟩;have B4:=hid (dj B2.out hb3);have hl3:b+1<w3.heap.size:=by have:=lt_of_block K1.out;have:=B4.out.size;omega
 have hl4:b<w3.heap.size:=by omega
 clear hb3;unfold stV dl;go_wp2;obtain⟨W9,hW9⟩:∃W9,W9=(w3.alloc (.cells #[.int .i64 (c:Int),.int .i64 0,.int .i64 1,.int .i64 1,.slice none 0 0,.slice none 0 0,.slice none 0 0,.slice none 0 0,.slice none 0 0] 29)).alloc (.cells #[.slice none 0 0,.slice none 0 0,.slice none 0 0,.slice none 0 0] 35):=⟨_,rfl⟩;have hb9:Below w3.heap.size w3 W9:=by rw[hW9];exact((Below.refl _ _).alloc (Nat.le_refl _) _).alloc (by simp) _
 have B9:=hid (dj B4.out hb9);have P9:=hid ((B9.out.block _ (lt_of_block K0.out)).trans K0.out);have Q9:=hid ((B9.out.block _ (lt_of_block K1.out)).trans K1.out);have ks:W9.heap[w3.heap.size]?=some (.cells #[.int .i64 (c:Int),.int .i64 0,.int .i64 1,.int .i64 1,.slice none 0 0,.slice none 0 0,.slice none 0 0,.slice none 0 0,.slice none 0 0] 29 (0,0)):=by rw[hW9];exact(Below.heap_alloc _ _ _ (by simp)).trans (heap_alloc_new _ _)
 have kv:W9.heap[w3.heap.size+1]?=some (.cells #[.slice none 0 0,.slice none 0 0,.slice none 0 0,.slice none 0 0] 35 (0,0)):=by rw[hW9];exact cK _ _ (by simp)
 rw[← hW9];clear hW9 hb9;obtain⟨x0,x1,x2,x3,x4,x5,x6,x7,x8⟩:=ml (ks);obtain⟨y0,y1,y2,y3⟩:=mo (kv);obtain⟨p0,pf0,p1,pf1,p2,pf2,p3,pf3,p4,pf4,p5,pf5,p6,pf6,p7,pf7,p8,pf8⟩:=mn (P9.out);obtain⟨q0,qf0,q1,qf1,q2,qf2,q3,qf3⟩:=mq (Q9.out)
 go_region
 go_wp2;obtain⟨Wf,hWf,FA⟩:=mx P9.out Q9.out (.int .i64 (c:Int)) (.int .i64 0) (.int .i64 1) (.int .i64 1) (.slice none 0 0) (.slice none 0 0) (.slice none 0 0) (.slice none 0 0) (.slice none 0 0) (.slice none 0 0) (.slice none 0 0) (.slice none 0 0) (.slice none 0 0);rw[← hWf];clear hWf;have FA:=FA.drew;have hfr:=FA.fr;refine bodyPost_ret (v:=.tuple #[.agg #[.int .i64 (c:Int),.int .i64 0,.int .i64 1,.int .i64 1,.slice none 0 0,.slice none 0 0,.slice none 0 0,.slice none 0 0,.slice none 0 0],.agg #[.slice none 0 0,.slice none 0 0,.slice none 0 0,.slice none 0 0],.int .i64 0]) (by simp[results,Tryz.results11,go_sem,FA.s0,FA.s1,FA.s2,FA.s3,FA.s4,FA.s5,FA.s6,FA.s7,FA.s8,FA.t0,FA.t1,FA.t2,FA.t3]) rfl ⟨rfl,?_⟩;have hnw:=HN.out;exact HB.out.trans ((B9.out.mono HB.out.size).trans (hfr.below (B:=w.heap.size) (by have:=HB.out.size;have:=B9.out.size;omega) (λk hk e=>by omega)))
end
section
open Go.RowKit
set_option maxRecDepth 100000 in
theorem nf (w:World):Calls Tryz.prog 54 #[] w λe w'=>e = .returned (stV 0 0 1 1)∧Below w.heap.size w w':=by
 go_enter Tryz.func54,Tryz.ntmps54
 go_wp2;obtain⟨W0,hW0⟩:∃W0,W0=w.alloc (.cells #[.int .i64 0,.int .i64 0,.int .i64 1,.int .i64 1,.slice none 0 0,.slice none 0 0,.slice none 0 0,.slice none 0 0,.slice none 0 0] 29):=⟨_,rfl⟩;have hbel:Below w.heap.size w W0:=by rw[hW0];exact(Below.refl _ _).alloc (Nat.le_refl _) _
 have k0:W0.heap[w.heap.size]?=some (.cells #[.int .i64 0,.int .i64 0,.int .i64 1,.int .i64 1,.slice none 0 0,.slice none 0 0,.slice none 0 0,.slice none 0 0,.slice none 0 0] 29 (0,0)):=by rw[hW0];exact heap_alloc_new _ _
 rw[← hW0];obtain⟨o0,o1,o2,o3,o4,o5,o6,o7,o8⟩:=ml (k0);exact bodyPost_ret (v:=.agg #[.int .i64 0,.int .i64 0,.int .i64 1,.int .i64 1,.slice none 0 0,.slice none 0 0,.slice none 0 0,.slice none 0 0,.slice none 0 0]) (by simp[results,Tryz.results54,go_sem,o0,o1,o2,o3,o4,o5,o6,o7,o8]) rfl ⟨rfl,hbel⟩
set_option maxRecDepth 100000 in
theorem ng (c:Int)(w:World):Calls Tryz.prog 24 #[.int .i64 c] w λe w'=>e = .returned (stV c 0 1 1)∧Below w.heap.size w w':=by
 go_enter Tryz.func24,Tryz.ntmps24
 go_wp2_with fail
 refine(nf _).mono ?_;rintro e w1 ⟨rfl,hb1⟩;obtain⟨n,hn⟩:∃n,n=w.heap.size:=⟨_,rfl⟩;have k0:w1.heap[n]?=some (.cells #[.int .i64 0,.int .i64 0,.int .i64 0,.int .i64 0,.slice none 0 0,.slice none 0 0,.slice none 0 0,.slice none 0 0,.slice none 0 0] 29 (0,0)):=by rw[hn];exact(hb1.block _ (by simp)).trans (heap_alloc_new _ _)
 have K0:=hid k0;have HB:=hid (di hb1);have hlt:n<w1.heap.size:=lt_of_block k0;have HN:=hid hn;rw[← hn];clear hb1 hn k0;obtain⟨p0,pf0,p1,pf1,p2,pf2,p3,pf3,p4,pf4,p5,pf5,p6,pf6,p7,pf7,p8,pf8⟩:=mn (K0.out);unfold stV;go_wp2;obtain⟨Wa,hWa⟩:∃Wa,Wa=km w1 n (.int .i64 c) (.int .i64 0) (.int .i64 1) (.int .i64 1) (.slice none 0 0) (.slice none 0 0) (.slice none 0 0) (.slice none 0 0) (.slice none 0 0):=⟨_,rfl⟩;have fa:Fr (λk=>k=n) w1 Wa:=by rw[hWa];exact kn w1 n (.int .i64 c) (.int .i64 0) (.int .i64 1) (.int .i64 1) (.slice none 0 0) (.slice none 0 0) (.slice none 0 0) (.slice none 0 0) (.slice none 0 0)
 have ra:Wa.heap[n]?=some (.cells #[.int .i64 c,.int .i64 0,.int .i64 1,.int .i64 1,.slice none 0 0,.slice none 0 0,.slice none 0 0,.slice none 0 0,.slice none 0 0] 29 (0,0)):=by rw[hWa];exact ko (.int .i64 c) (.int .i64 0) (.int .i64 1) (.int .i64 1) (.slice none 0 0) (.slice none 0 0) (.slice none 0 0) (.slice none 0 0) (.slice none 0 0) K0.out
 obtain⟨Wf,hWf⟩:∃Wf,Wf=Wa.alloc (.cells #[.int .i64 c,.int .i64 0,.int .i64 1,.int .i64 1,.slice none 0 0,.slice none 0 0,.slice none 0 0,.slice none 0 0,.slice none 0 0] 29):=⟨_,rfl⟩;have rf:Wf.heap[n]?=some (.cells #[.int .i64 c,.int .i64 0,.int .i64 1,.int .i64 1,.slice none 0 0,.slice none 0 0,.slice none 0 0,.slice none 0 0,.slice none 0 0] 29 (0,0)):=by rw[hWf];exact(Below.heap_alloc _ _ _ (lt_of_block ra)).trans ra
 have ff:Fr (λk=>k=n) w1 Wf:=by rw[hWf];exact fa.alloc _
 clear fa ra;obtain⟨o0,o1,o2,o3,o4,o5,o6,o7,o8⟩:=ml (rf);unfold km at hWa;rw[← hWa,← hWf];clear hWa hWf;refine bodyPost_ret (v:=.agg #[.int .i64 c,.int .i64 0,.int .i64 1,.int .i64 1,.slice none 0 0,.slice none 0 0,.slice none 0 0,.slice none 0 0,.slice none 0 0]) (by simp[results,Tryz.results24,go_sem,o0,o1,o2,o3,o4,o5,o6,o7,o8]) rfl ⟨rfl,?_⟩;have hnw:=HN.out;exact HB.out.trans (ff.below (B:=w.heap.size) HB.out.size (λk hk e=>by omega))
end
end Go.Proofs.YtaeakdichkhjaaaGreatDoor
