/- States and views that were read are short. -/
import Derived.Test.YtaeakdichkhjaaaGreatDoorQBj
import Derived.Test.YtaeakdichkhjaaaGreatDoorQAk
import Derived.Test.YtaeakdichkhjaaaGreatDoorQBf
import Derived.Test.YtaeakdichkhjaaaGreatDoorQBg
import Derived.Test.YtaeakdichkhjaaaGreatDoorQBi
import Derived.Test.YtaeakdichkhjaaaGreatDoorQBc
import Derived.Test.YtaeakdichkhjaaaGreatDoorQBd
set_option maxHeartbeats 4000000
open Go.Lib(hid)
namespace Go.Proofs.YtaeakdichkhjaaaGreatDoor
section
open Go.RowKit
theorem xf (w:World)(o1 o2:Obj):Below w.heap.size w ((w.alloc o1).alloc o2):=((Below.refl _ _).alloc (Nat.le_refl _) _).alloc (by simp) _
theorem xg {w w1 w2:World}(h:Below w.heap.size w w1)(k:Below w1.heap.size w1 w2):Below w.heap.size w w2:=h.trans (k.mono h.size)
theorem xh {n:Nat}(w:World)(o:Obj)(h:n=w.heap.size):(w.alloc o).heap[n]?=some o:=by subst h;exact heap_alloc_new _ _
set_option maxRecDepth 100000 in
theorem xj (F G:Nat→Prop)(w:World)(bx bz:Value)(x y:AucD)(hx:BidsAt F w bx x.bids)(hy:BidsAt G w bz y.bids)(hlx:x.bids.length≤1099511627776)(hly:y.bids.length≤1099511627776) :
  Calls Tryz.prog 38 #[x.agg bx,y.agg bz] w λe w'=>TB (x=y) e∧Below w.heap.size w w':=by
 obtain⟨a0,a1,a2,a3,a4,a5,a6,a7,a8⟩:=x;obtain⟨b0,b1,b2,b3,b4,b5,b6,b7,b8⟩:=y;obtain⟨ba,m8,bc,rfl⟩:∃a m c,bx=Value.slice a m c:=by obtain⟨a,c,h⟩:=hx.shape;exact⟨a,_,c,h⟩
 obtain⟨da,k8,dc,rfl⟩:∃a m c,bz=Value.slice a m c:=by obtain⟨a,c,h⟩:=hy.shape;exact⟨a,_,c,h⟩
 unfold AucD.agg;dsimp only at hx hy hlx hly ⊢;obtain⟨n,hn⟩:∃n,n=w.heap.size:=⟨_,rfl⟩;obtain⟨W0,hW0⟩:∃W0,W0=(w.alloc (.cells #[.int .i64 a0,.int .i64 a1,.int .i64 a2,.bool a3,.int .i64 a4,.int .i64 a5,.int .i64 a6,.int .i64 a7,.slice ba m8 bc] 68)).alloc (.cells #[.int .i64 b0,.int .i64 b1,.int .i64 b2,.bool b3,.int .i64 b4,.int .i64 b5,.int .i64 b6,.int .i64 b7,.slice da k8 dc] 68):=⟨_,rfl⟩;have hbel:Below w.heap.size w W0:=by rw[hW0];exact xf _ _ _
 have k0:W0.heap[n]?=some (.cells #[.int .i64 a0,.int .i64 a1,.int .i64 a2,.bool a3,.int .i64 a4,.int .i64 a5,.int .i64 a6,.int .i64 a7,.slice ba m8 bc] 68 (0,0)):=by rw[hW0,hn];exact(Below.heap_alloc _ _ _ (by simp<;>omega)).trans (heap_alloc_new _ _)
 have k1:W0.heap[n+1]?=some (.cells #[.int .i64 b0,.int .i64 b1,.int .i64 b2,.bool b3,.int .i64 b4,.int .i64 b5,.int .i64 b6,.int .i64 b7,.slice da k8 dc] 68 (0,0)):=by rw[hW0,hn];exact xh _ _ (by simp)
 have K0:=hid k0;have K1:=hid k1;have HB:=hid hbel;clear k0 k1 hbel;have HX:=hid (hx.pure HB.out);have HY:=hid (hy.pure HB.out);have HLL:=hid (And.intro hlx hly);clear hx hy hlx hly;by_cases h0:a0=b0;rotate_left
 ·have HNO:=hid (show ¬AucD.mk a0 a1 a2 a3 a4 a5 a6 a7 a8=AucD.mk b0 b1 b2 b3 b4 b5 b6 b7 b8 from λe=>by simp only[AucD.mk.injEq]at e;exact h0 e.1)
  have e0:(a0 == b0)=false:=by simpa using h0
  clear h0
  go_enter Tryz.func38,Tryz.ntmps38
  go_wp2;go_ret;exact⟨TB.no HNO.out,by first|exact xf _ _ _|exact HB.out⟩
 subst h0;by_cases h1:a1=b1;rotate_left
 ·have HNO:=hid (show ¬AucD.mk a0 a1 a2 a3 a4 a5 a6 a7 a8=AucD.mk a0 b1 b2 b3 b4 b5 b6 b7 b8 from λe=>by simp only[AucD.mk.injEq]at e;exact h1 e.2.1)
  have e1:(a1 == b1)=false:=by simpa using h1
  clear h1
  go_enter Tryz.func38,Tryz.ntmps38
  go_wp2;go_ret;exact⟨TB.no HNO.out,by first|exact xf _ _ _|exact HB.out⟩
 subst h1;by_cases h2:a2=b2;rotate_left
 ·have HNO:=hid (show ¬AucD.mk a0 a1 a2 a3 a4 a5 a6 a7 a8=AucD.mk a0 a1 b2 b3 b4 b5 b6 b7 b8 from λe=>by simp only[AucD.mk.injEq]at e;exact h2 e.2.2.1)
  have e2:(a2 == b2)=false:=by simpa using h2
  clear h2
  go_enter Tryz.func38,Tryz.ntmps38
  go_wp2;go_ret;exact⟨TB.no HNO.out,by first|exact xf _ _ _|exact HB.out⟩
 subst h2;by_cases h3:a3=b3;rotate_left
 ·have HNO:=hid (show ¬AucD.mk a0 a1 a2 a3 a4 a5 a6 a7 a8=AucD.mk a0 a1 a2 b3 b4 b5 b6 b7 b8 from λe=>by simp only[AucD.mk.injEq]at e;exact h3 e.2.2.2.1)
  have e3:(a3 == b3)=false:=by simpa using h3
  clear h3
  go_enter Tryz.func38,Tryz.ntmps38
  go_wp2;go_ret;exact⟨TB.no HNO.out,by first|exact xf _ _ _|exact HB.out⟩
 subst h3;by_cases h4:a4=b4;rotate_left
 ·have HNO:=hid (show ¬AucD.mk a0 a1 a2 a3 a4 a5 a6 a7 a8=AucD.mk a0 a1 a2 a3 b4 b5 b6 b7 b8 from λe=>by simp only[AucD.mk.injEq]at e;exact h4 e.2.2.2.2.1)
  have e4:(a4 == b4)=false:=by simpa using h4
  clear h4
  go_enter Tryz.func38,Tryz.ntmps38
  go_wp2;go_ret;exact⟨TB.no HNO.out,by first|exact xf _ _ _|exact HB.out⟩
 subst h4;by_cases h5:a5=b5;rotate_left
 ·have HNO:=hid (show ¬AucD.mk a0 a1 a2 a3 a4 a5 a6 a7 a8=AucD.mk a0 a1 a2 a3 a4 b5 b6 b7 b8 from λe=>by simp only[AucD.mk.injEq]at e;exact h5 e.2.2.2.2.2.1)
  have e5:(a5 == b5)=false:=by simpa using h5
  clear h5
  go_enter Tryz.func38,Tryz.ntmps38
  go_wp2;go_ret;exact⟨TB.no HNO.out,by first|exact xf _ _ _|exact HB.out⟩
 subst h5;by_cases h6:a6=b6;rotate_left
 ·have HNO:=hid (show ¬AucD.mk a0 a1 a2 a3 a4 a5 a6 a7 a8=AucD.mk a0 a1 a2 a3 a4 a5 b6 b7 b8 from λe=>by simp only[AucD.mk.injEq]at e;exact h6 e.2.2.2.2.2.2.1)
  have e6:(a6 == b6)=false:=by simpa using h6
  clear h6
  go_enter Tryz.func38,Tryz.ntmps38
  go_wp2;go_ret;exact⟨TB.no HNO.out,by first|exact xf _ _ _|exact HB.out⟩
 subst h6;by_cases h7:a7=b7;rotate_left
 ·have HNO:=hid (show ¬AucD.mk a0 a1 a2 a3 a4 a5 a6 a7 a8=AucD.mk a0 a1 a2 a3 a4 a5 a6 b7 b8 from λe=>by simp only[AucD.mk.injEq]at e;exact h7 e.2.2.2.2.2.2.2.1)
  have e7:(a7 == b7)=false:=by simpa using h7
  clear h7
  go_enter Tryz.func38,Tryz.ntmps38
  go_wp2;go_ret;exact⟨TB.no HNO.out,by first|exact xf _ _ _|exact HB.out⟩
 subst h7
 go_enter Tryz.func38,Tryz.ntmps38
 go_wp2_with fail
 rw[← hW0]
 try rw[← hn]
 clear hW0 hn;refine(wV F G W0 _ _ a8 b8 HX.out HY.out HLL.out.1 HLL.out.2).mono ?_;rintro e w1 ⟨⟨b,hb,rfl⟩,hb1⟩;have H0B:=hid hb;have B1:=hid (xg HB.out hb1);have BB1:=hid hb1;have K01:=hid ((hb1.block _ (lt_of_block K0.out)).trans K0.out);have K11:=hid ((hb1.block _ (lt_of_block K1.out)).trans K1.out);clear hb hb1;go_wp2;go_ret;exact⟨⟨b,H0B.out.trans ⟨λe=>by rw[e],λe=>by simp only[AucD.mk.injEq]at e;exact e.2.2.2.2.2.2.2.2⟩,rfl⟩,B1.out⟩
set_option maxRecDepth 100000 in
theorem xk (F G:Nat→Prop)(w:World)(sa sb:Value)(x y:List AucD)(hx:AucsAt F w sa x)(hy:AucsAt G w sb y)(hlx:x.length≤1099511627776)(hly:y.length≤1099511627776)(hbx:∀a∈x,a.bids.length≤1099511627776)(hby:∀a∈y,a.bids.length≤1099511627776) :
  Calls Tryz.prog 37 #[sa,sb,.func (.func 38) #[] #[]] w λe w'=>TB (x=y) e∧Below w.heap.size w w':=by
 obtain⟨a,c,rfl⟩:=hx.shape;obtain⟨b,d,rfl⟩:=hy.shape;have HX:=hid hx;have HY:=hid hy;have HBX:=hid hbx;have HBY:=hid hby;have ent:∀(args:Array Value) (w:World),(callFunc 38 args).run Tryz.prog w = .ok (.enter 38 args) w:=enters_of Tryz.func38 (by kernel_rfl) rfl;clear hx hy hbx hby;by_cases hl:x.length=y.length
 ·have HL:=hid hl
  have hle:((x.length:Int) != (y.length:Int))=false:=by simp[hl]
  clear hl
  go_enter Tryz.func37,Tryz.ntmps37
  go_wp2
  go_loopw [17] (λi wr=>∃k:Nat,k≤x.length∧i = .int .i64 k∧Hid (x.take k=y.take k)∧Hid (Below w.heap.size w wr)) (λi _=>x.length-(intOf i).toNat)
  case atStart=>exact⟨0,by omega,rfl,hid rfl,hid (Below.refl _ _)⟩
  case round=>
   obtain⟨k,hk,rfl,HT,HB⟩:=hrel;by_cases hlt:k<x.length
   ·have hlt2:k<y.length:=by have:=HL.out;omega
    obtain⟨b1,o1,v1,rfl,hF1,hbl1,hv1,g0,g1,g2,g3,g4,g5,g6,g7,g8⟩:=(HX.out.pure HB.out).at k hlt;obtain⟨b2,o2,v2,rfl,hF2,hbl2,hv2,h0,h1,h2,h3,h4,h5,h6,h7,h8⟩:=(HY.out.pure HB.out).at k hlt2;have HE:=hid (λe=>wL hlt hlt2 HT.out e);have HE2:=hid (show x=y→x[k]=y[k]from λe=>by subst e;rfl);have HM1:=hid (HBX.out _ (List.getElem_mem hlt));have HM2:=hid (HBY.out _ (List.getElem_mem hlt2))
    generalize x[k]=u at *
    generalize y[k]=v at *
    obtain⟨p1,q1,r1,rfl⟩:∃a m c,v1=Value.slice a m c:=by obtain⟨a,c,h⟩:=hv1.shape;exact⟨a,_,c,h⟩
    obtain⟨p2,q2,r2,rfl⟩:∃a m c,v2=Value.slice a m c:=by obtain⟨a,c,h⟩:=hv2.shape;exact⟨a,_,c,h⟩
    have HC:=hid (λ(W:World) (hb:Below wr.heap.size wr W)=>xj F G W _ _ u v (hv1.pure hb) (hv2.pure hb) HM1.out HM2.out);unfold AucD.agg at HC;obtain⟨W2,hW2⟩:∃W2,W2=(wr.alloc (.cells #[.int .i64 u.id,.int .i64 u.seller,.int .i64 u.inst,.bool u.sealed,.int .i64 u.qty,.int .i64 u.reserve,.int .i64 u.step,.int .i64 u.fin,.slice p1 q1 r1] 68)).alloc (.cells #[.int .i64 v.id,.int .i64 v.seller,.int .i64 v.inst,.bool v.sealed,.int .i64 v.qty,.int .i64 v.reserve,.int .i64 v.step,.int .i64 v.fin,.slice p2 q2 r2] 68):=⟨_,rfl⟩;have HW:=hid (show Below wr.heap.size wr W2 from by rw[hW2];exact xf _ _ _);clear hF1 hF2 hv1 hv2
    go_wp2_with fail
    rw[← hW2];clear hW2;refine(HC.out W2 HW.out).mono ?_;rintro e w3 ⟨⟨bb,hb,rfl⟩,hb3⟩;have HB3:=hid (xg (xg HB.out HW.out) hb3);have HBB:=hid hb;clear hb hb3 g0 g1 h1 g2 h2 g3 h3 g4 h4 g5 h5 g6 h6 g7 h7 g8 h8 h0;cases bb
    ·have HN:=hid (show ¬x=y from λe=>by have:=HBB.out.2 (HE2.out e);cases this)
     go_wp2;go_ret;exact⟨TB.no HN.out,HB3.out⟩
    ·have HN:=hid (HE.out (HBB.out.1 rfl))
     go_wp2
     go_roundw
     case rel=>exact⟨k+1,by omega,by go_num,HN,HB3⟩
     case measure=>simp[intOf];omega
   ·have HE:=hid (show x=y from by
     have h1:=HT.out;have h2:=HL.out;rw[List.take_of_length_le (by omega),List.take_of_length_le (by omega)]at h1;exact h1)
    go_wp2;go_ret;exact⟨⟨true,by simp[HE.out],rfl⟩,HB.out⟩
 ·have HN:=hid (show ¬x=y from λe=>hl (by rw[e]))
  have hle:((x.length:Int) != (y.length:Int))=true:=by simp;omega
  have hle2:((x.length:Int) == (y.length:Int))=false:=by simp;omega
  clear hl
  go_enter Tryz.func37,Tryz.ntmps37
  go_wp2;go_ret;exact⟨TB.no HN.out,Below.refl _ _⟩
structure StShort (x:StD):Prop where
 a:x.accts.length≤1099511627776
 i:x.insts.length≤1099511627776
 r:x.rows.length≤1099511627776
 o:x.ords.length≤1099511627776
 u:x.aucs.length≤1099511627776
 b:∀a∈x.aucs,a.bids.length≤1099511627776
structure VwShort (x:VwD):Prop where
 o:x.open_.length≤1099511627776
 l:x.lots.length≤1099511627776
 p:x.poss.length≤1099511627776
 n:x.lins.length≤1099511627776
set_option maxRecDepth 100000 in
theorem xm (F G:Nat→Prop)(w:World)(sa sb:StV)(x y:StD)(hx:StAt F w sa x)(hy:StAt G w sb y)(hlx:StShort x)(hly:StShort y) :
  Calls Tryz.prog 12 #[.agg (jc x sa),.agg (jc y sb)] w λe w'=>TB (x=y) e∧Below w.heap.size w w':=by
 obtain⟨a0,a1,a2,a3,a4,a5,a6,a7,a8⟩:=x;obtain⟨b0,b1,b2,b3,b4,b5,b6,b7,b8⟩:=y;obtain⟨s4,s5,s6,s7,s8⟩:=sa;obtain⟨t4,t5,t6,t7,t8⟩:=sb;obtain⟨sa4,sm4,sc4,rfl⟩:∃a m c,s4=Value.slice a m c:=by obtain⟨a,c,h⟩:=hx.a.shape;exact⟨a,_,c,h⟩
 obtain⟨ta4,tm4,tc4,rfl⟩:∃a m c,t4=Value.slice a m c:=by obtain⟨a,c,h⟩:=hy.a.shape;exact⟨a,_,c,h⟩
 obtain⟨sa5,sm5,sc5,rfl⟩:∃a m c,s5=Value.slice a m c:=by obtain⟨a,c,h⟩:=hx.i.shape;exact⟨a,_,c,h⟩
 obtain⟨ta5,tm5,tc5,rfl⟩:∃a m c,t5=Value.slice a m c:=by obtain⟨a,c,h⟩:=hy.i.shape;exact⟨a,_,c,h⟩
 obtain⟨sa6,sm6,sc6,rfl⟩:∃a m c,s6=Value.slice a m c:=by obtain⟨a,c,h⟩:=hx.r.shape;exact⟨a,_,c,h⟩
 obtain⟨ta6,tm6,tc6,rfl⟩:∃a m c,t6=Value.slice a m c:=by obtain⟨a,c,h⟩:=hy.r.shape;exact⟨a,_,c,h⟩
 obtain⟨sa7,sm7,sc7,rfl⟩:∃a m c,s7=Value.slice a m c:=by obtain⟨a,c,h⟩:=hx.o.shape;exact⟨a,_,c,h⟩
 obtain⟨ta7,tm7,tc7,rfl⟩:∃a m c,t7=Value.slice a m c:=by obtain⟨a,c,h⟩:=hy.o.shape;exact⟨a,_,c,h⟩
 obtain⟨sa8,sm8,sc8,rfl⟩:∃a m c,s8=Value.slice a m c:=by obtain⟨a,c,h⟩:=hx.u.shape;exact⟨a,_,c,h⟩
 obtain⟨ta8,tm8,tc8,rfl⟩:∃a m c,t8=Value.slice a m c:=by obtain⟨a,c,h⟩:=hy.u.shape;exact⟨a,_,c,h⟩
 unfold jc;dsimp only;obtain⟨n,hn⟩:∃n,n=w.heap.size:=⟨_,rfl⟩;obtain⟨W0,hW0⟩:∃W0,W0=(w.alloc (.cells #[.int .i64 a0,.int .i64 a1,.int .i64 a2,.int .i64 a3,.slice sa4 sm4 sc4,.slice sa5 sm5 sc5,.slice sa6 sm6 sc6,.slice sa7 sm7 sc7,.slice sa8 sm8 sc8] 29)).alloc (.cells #[.int .i64 b0,.int .i64 b1,.int .i64 b2,.int .i64 b3,.slice ta4 tm4 tc4,.slice ta5 tm5 tc5,.slice ta6 tm6 tc6,.slice ta7 tm7 tc7,.slice ta8 tm8 tc8] 29):=⟨_,rfl⟩;have hbel:Below w.heap.size w W0:=by rw[hW0];exact xf _ _ _
 have k0:W0.heap[n]?=some (.cells #[.int .i64 a0,.int .i64 a1,.int .i64 a2,.int .i64 a3,.slice sa4 sm4 sc4,.slice sa5 sm5 sc5,.slice sa6 sm6 sc6,.slice sa7 sm7 sc7,.slice sa8 sm8 sc8] 29 (0,0)):=by rw[hW0,hn];exact(Below.heap_alloc _ _ _ (by simp<;>omega)).trans (heap_alloc_new _ _)
 have k1:W0.heap[n+1]?=some (.cells #[.int .i64 b0,.int .i64 b1,.int .i64 b2,.int .i64 b3,.slice ta4 tm4 tc4,.slice ta5 tm5 tc5,.slice ta6 tm6 tc6,.slice ta7 tm7 tc7,.slice ta8 tm8 tc8] 29 (0,0)):=by rw[hW0,hn];exact xh _ _ (by simp)
 have K0:=hid k0;have K1:=hid k1;have HB:=hid hbel;clear k0 k1 hbel;have HX:=hid (hx.pure HB.out);have HY:=hid (hy.pure HB.out);have HLX:=hid hlx;have HLY:=hid hly;clear hx hy hlx hly;by_cases h0:a0=b0;rotate_left
 ·have HNO:=hid (show ¬StD.mk a0 a1 a2 a3 a4 a5 a6 a7 a8=StD.mk b0 b1 b2 b3 b4 b5 b6 b7 b8 from λe=>by simp only[StD.mk.injEq]at e;exact h0 e.1)
  have e0:(a0 == b0)=false:=by simpa using h0
  clear h0
  go_enter Tryz.func12,Tryz.ntmps12
  go_wp2;go_ret;exact⟨TB.no HNO.out,by first|exact xf _ _ _|exact HB.out⟩
 subst h0;by_cases h1:a1=b1;rotate_left
 ·have HNO:=hid (show ¬StD.mk a0 a1 a2 a3 a4 a5 a6 a7 a8=StD.mk a0 b1 b2 b3 b4 b5 b6 b7 b8 from λe=>by simp only[StD.mk.injEq]at e;exact h1 e.2.1)
  have e1:(a1 == b1)=false:=by simpa using h1
  clear h1
  go_enter Tryz.func12,Tryz.ntmps12
  go_wp2;go_ret;exact⟨TB.no HNO.out,by first|exact xf _ _ _|exact HB.out⟩
 subst h1;by_cases h2:a2=b2;rotate_left
 ·have HNO:=hid (show ¬StD.mk a0 a1 a2 a3 a4 a5 a6 a7 a8=StD.mk a0 a1 b2 b3 b4 b5 b6 b7 b8 from λe=>by simp only[StD.mk.injEq]at e;exact h2 e.2.2.1)
  have e2:(a2 == b2)=false:=by simpa using h2
  clear h2
  go_enter Tryz.func12,Tryz.ntmps12
  go_wp2;go_ret;exact⟨TB.no HNO.out,by first|exact xf _ _ _|exact HB.out⟩
 subst h2;by_cases h3:a3=b3;rotate_left
 ·have HNO:=hid (show ¬StD.mk a0 a1 a2 a3 a4 a5 a6 a7 a8=StD.mk a0 a1 a2 b3 b4 b5 b6 b7 b8 from λe=>by simp only[StD.mk.injEq]at e;exact h3 e.2.2.2.1)
  have e3:(a3 == b3)=false:=by simpa using h3
  clear h3
  go_enter Tryz.func12,Tryz.ntmps12
  go_wp2;go_ret;exact⟨TB.no HNO.out,by first|exact xf _ _ _|exact HB.out⟩
 subst h3
 go_enter Tryz.func12,Tryz.ntmps12
 go_wp2_with fail
 rw[← hW0]
 try rw[← hn]
 clear hW0 hn;refine(wN F G W0 _ _ a4 b4 HX.out.a HY.out.a HLX.out.a HLY.out.a).mono ?_;rintro e w1 ⟨⟨b,hb,rfl⟩,hb1⟩;have H0B:=hid hb;have B1:=hid (xg HB.out hb1);have BB1:=hid hb1;have K01:=hid ((hb1.block _ (lt_of_block K0.out)).trans K0.out);have K11:=hid ((hb1.block _ (lt_of_block K1.out)).trans K1.out);clear hb hb1;cases b
 ·have HNO:=hid (show ¬StD.mk a0 a1 a2 a3 a4 a5 a6 a7 a8=StD.mk a0 a1 a2 a3 b4 b5 b6 b7 b8 from λe=>by simp only[StD.mk.injEq]at e;have:=H0B.out.2 e.2.2.2.2.1;cases this)
  go_wp2;go_ret;exact⟨TB.no HNO.out,B1.out⟩
 have HY0:=hid (H0B.out.1 rfl);have c00:=(cell_of_row _ n 5 _ _ _ K01.out).trans (show _=some (.slice sa5 sm5 sc5)from rfl);have c10:=(cell_of_row _ (n+1) 5 _ _ _ K11.out).trans (show _=some (.slice ta5 tm5 tc5)from rfl)
 go_wp2_with fail
 clear c00 c10;refine(wP F G w1 _ _ a5 b5 (HX.out.i.pure BB1.out) (HY.out.i.pure BB1.out) HLX.out.i HLY.out.i).mono ?_;rintro e w2 ⟨⟨b,hb,rfl⟩,hb2⟩;have H1B:=hid hb;have B2:=hid (xg B1.out hb2);have BB2:=hid (xg BB1.out hb2);have K02:=hid ((hb2.block _ (lt_of_block K01.out)).trans K01.out);have K12:=hid ((hb2.block _ (lt_of_block K11.out)).trans K11.out);clear hb hb2;cases b
 ·have HNO:=hid (show ¬StD.mk a0 a1 a2 a3 a4 a5 a6 a7 a8=StD.mk a0 a1 a2 a3 b4 b5 b6 b7 b8 from λe=>by simp only[StD.mk.injEq]at e;have:=H1B.out.2 e.2.2.2.2.2.1;cases this)
  go_wp2;go_ret;exact⟨TB.no HNO.out,B2.out⟩
 have HY1:=hid (H1B.out.1 rfl);have c01:=(cell_of_row _ n 6 _ _ _ K02.out).trans (show _=some (.slice sa6 sm6 sc6)from rfl);have c11:=(cell_of_row _ (n+1) 6 _ _ _ K12.out).trans (show _=some (.slice ta6 tm6 tc6)from rfl)
 go_wp2_with fail
 clear c01 c11;refine(wR F G w2 _ _ a6 b6 (HX.out.r.pure BB2.out) (HY.out.r.pure BB2.out) HLX.out.r HLY.out.r).mono ?_;rintro e w3 ⟨⟨b,hb,rfl⟩,hb3⟩;have H2B:=hid hb;have B3:=hid (xg B2.out hb3);have BB3:=hid (xg BB2.out hb3);have K03:=hid ((hb3.block _ (lt_of_block K02.out)).trans K02.out);have K13:=hid ((hb3.block _ (lt_of_block K12.out)).trans K12.out);clear hb hb3;cases b
 ·have HNO:=hid (show ¬StD.mk a0 a1 a2 a3 a4 a5 a6 a7 a8=StD.mk a0 a1 a2 a3 b4 b5 b6 b7 b8 from λe=>by simp only[StD.mk.injEq]at e;have:=H2B.out.2 e.2.2.2.2.2.2.1;cases this)
  go_wp2;go_ret;exact⟨TB.no HNO.out,B3.out⟩
 have HY2:=hid (H2B.out.1 rfl);have c02:=(cell_of_row _ n 7 _ _ _ K03.out).trans (show _=some (.slice sa7 sm7 sc7)from rfl);have c12:=(cell_of_row _ (n+1) 7 _ _ _ K13.out).trans (show _=some (.slice ta7 tm7 tc7)from rfl)
 go_wp2_with fail
 clear c02 c12;refine(wT F G w3 _ _ a7 b7 (HX.out.o.pure BB3.out) (HY.out.o.pure BB3.out) HLX.out.o HLY.out.o).mono ?_;rintro e w4 ⟨⟨b,hb,rfl⟩,hb4⟩;have H3B:=hid hb;have B4:=hid (xg B3.out hb4);have BB4:=hid (xg BB3.out hb4);have K04:=hid ((hb4.block _ (lt_of_block K03.out)).trans K03.out);have K14:=hid ((hb4.block _ (lt_of_block K13.out)).trans K13.out);clear hb hb4;cases b
 ·have HNO:=hid (show ¬StD.mk a0 a1 a2 a3 a4 a5 a6 a7 a8=StD.mk a0 a1 a2 a3 b4 b5 b6 b7 b8 from λe=>by simp only[StD.mk.injEq]at e;have:=H3B.out.2 e.2.2.2.2.2.2.2.1;cases this)
  go_wp2;go_ret;exact⟨TB.no HNO.out,B4.out⟩
 have HY3:=hid (H3B.out.1 rfl);have c03:=(cell_of_row _ n 8 _ _ _ K04.out).trans (show _=some (.slice sa8 sm8 sc8)from rfl);have c13:=(cell_of_row _ (n+1) 8 _ _ _ K14.out).trans (show _=some (.slice ta8 tm8 tc8)from rfl)
 go_wp2_with fail
 clear c03 c13;refine(xk F G w4 _ _ a8 b8 (HX.out.u.pure BB4.out) (HY.out.u.pure BB4.out) HLX.out.u HLY.out.u HLX.out.b HLY.out.b).mono ?_;rintro e w5 ⟨⟨b,hb,rfl⟩,hb5⟩;have H4B:=hid hb;have B5:=hid (xg B4.out hb5);have BB5:=hid (xg BB4.out hb5);have K05:=hid ((hb5.block _ (lt_of_block K04.out)).trans K04.out);have K15:=hid ((hb5.block _ (lt_of_block K14.out)).trans K14.out);clear hb hb5;go_wp2;go_ret;exact⟨⟨b,H4B.out.trans ⟨λe=>by rw[HY0.out,HY1.out,HY2.out,HY3.out,e],λe=>by simp only[StD.mk.injEq]at e;exact e.2.2.2.2.2.2.2.2⟩,rfl⟩,B5.out⟩
set_option maxRecDepth 100000 in
theorem xq (F G:Nat→Prop)(w:World)(sa sb:VwV)(x y:VwD)(hx:VwAt F w sa x)(hy:VwAt G w sb y)(hlx:VwShort x)(hly:VwShort y) :
  Calls Tryz.prog 13 #[.agg (jd sa),.agg (jd sb)] w λe w'=>TB (x=y) e∧Below w.heap.size w w':=by
 obtain⟨a0,a1,a2,a3⟩:=x;obtain⟨b0,b1,b2,b3⟩:=y;obtain⟨s0,s1,s2,s3⟩:=sa;obtain⟨t0,t1,t2,t3⟩:=sb;obtain⟨sa0,sm0,sc0,rfl⟩:∃a m c,s0=Value.slice a m c:=by obtain⟨a,c,h⟩:=hx.o.shape;exact⟨a,_,c,h⟩
 obtain⟨ta0,tm0,tc0,rfl⟩:∃a m c,t0=Value.slice a m c:=by obtain⟨a,c,h⟩:=hy.o.shape;exact⟨a,_,c,h⟩
 obtain⟨sa1,sm1,sc1,rfl⟩:∃a m c,s1=Value.slice a m c:=by obtain⟨a,c,h⟩:=hx.l.shape;exact⟨a,_,c,h⟩
 obtain⟨ta1,tm1,tc1,rfl⟩:∃a m c,t1=Value.slice a m c:=by obtain⟨a,c,h⟩:=hy.l.shape;exact⟨a,_,c,h⟩
 obtain⟨sa2,sm2,sc2,rfl⟩:∃a m c,s2=Value.slice a m c:=by obtain⟨a,c,h⟩:=hx.p.shape;exact⟨a,_,c,h⟩
 obtain⟨ta2,tm2,tc2,rfl⟩:∃a m c,t2=Value.slice a m c:=by obtain⟨a,c,h⟩:=hy.p.shape;exact⟨a,_,c,h⟩
 obtain⟨sa3,sm3,sc3,rfl⟩:∃a m c,s3=Value.slice a m c:=by obtain⟨a,c,h⟩:=hx.n.shape;exact⟨a,_,c,h⟩
 obtain⟨ta3,tm3,tc3,rfl⟩:∃a m c,t3=Value.slice a m c:=by obtain⟨a,c,h⟩:=hy.n.shape;exact⟨a,_,c,h⟩
 unfold jd;dsimp only;obtain⟨n,hn⟩:∃n,n=w.heap.size:=⟨_,rfl⟩;obtain⟨W0,hW0⟩:∃W0,W0=(w.alloc (.cells #[.slice sa0 sm0 sc0,.slice sa1 sm1 sc1,.slice sa2 sm2 sc2,.slice sa3 sm3 sc3] 35)).alloc (.cells #[.slice ta0 tm0 tc0,.slice ta1 tm1 tc1,.slice ta2 tm2 tc2,.slice ta3 tm3 tc3] 35):=⟨_,rfl⟩;have hbel:Below w.heap.size w W0:=by rw[hW0];exact xf _ _ _
 have k0:W0.heap[n]?=some (.cells #[.slice sa0 sm0 sc0,.slice sa1 sm1 sc1,.slice sa2 sm2 sc2,.slice sa3 sm3 sc3] 35 (0,0)):=by rw[hW0,hn];exact(Below.heap_alloc _ _ _ (by simp<;>omega)).trans (heap_alloc_new _ _)
 have k1:W0.heap[n+1]?=some (.cells #[.slice ta0 tm0 tc0,.slice ta1 tm1 tc1,.slice ta2 tm2 tc2,.slice ta3 tm3 tc3] 35 (0,0)):=by rw[hW0,hn];exact xh _ _ (by simp)
 have K0:=hid k0;have K1:=hid k1;have HB:=hid hbel;clear k0 k1 hbel;have HX:=hid (hx.pure HB.out);have HY:=hid (hy.pure HB.out);have HLX:=hid hlx;have HLY:=hid hly;clear hx hy hlx hly
 go_enter Tryz.func13,Tryz.ntmps13
 go_wp2_with fail
 rw[← hW0]
 try rw[← hn]
 clear hW0 hn;refine(wX F G W0 _ _ a0 b0 HX.out.o HY.out.o HLX.out.o HLY.out.o).mono ?_;rintro e w1 ⟨⟨b,hb,rfl⟩,hb1⟩;have H0B:=hid hb;have B1:=hid (xg HB.out hb1);have BB1:=hid hb1;have K01:=hid ((hb1.block _ (lt_of_block K0.out)).trans K0.out);have K11:=hid ((hb1.block _ (lt_of_block K1.out)).trans K1.out);clear hb hb1;cases b
 ·have HNO:=hid (show ¬VwD.mk a0 a1 a2 a3=VwD.mk b0 b1 b2 b3 from λe=>by simp only[VwD.mk.injEq]at e;have:=H0B.out.2 e.1;cases this)
  go_wp2;go_ret;exact⟨TB.no HNO.out,B1.out⟩
 have HY0:=hid (H0B.out.1 rfl);have c00:=(cell_of_row _ n 1 _ _ _ K01.out).trans (show _=some (.slice sa1 sm1 sc1)from rfl);have c10:=(cell_of_row _ (n+1) 1 _ _ _ K11.out).trans (show _=some (.slice ta1 tm1 tc1)from rfl)
 go_wp2_with fail
 clear c00 c10;refine(wZ F G w1 _ _ a1 b1 (HX.out.l.pure BB1.out) (HY.out.l.pure BB1.out) HLX.out.l HLY.out.l).mono ?_;rintro e w2 ⟨⟨b,hb,rfl⟩,hb2⟩;have H1B:=hid hb;have B2:=hid (xg B1.out hb2);have BB2:=hid (xg BB1.out hb2);have K02:=hid ((hb2.block _ (lt_of_block K01.out)).trans K01.out);have K12:=hid ((hb2.block _ (lt_of_block K11.out)).trans K11.out);clear hb hb2;cases b
 ·have HNO:=hid (show ¬VwD.mk a0 a1 a2 a3=VwD.mk b0 b1 b2 b3 from λe=>by simp only[VwD.mk.injEq]at e;have:=H1B.out.2 e.2.1;cases this)
  go_wp2;go_ret;exact⟨TB.no HNO.out,B2.out⟩
 have HY1:=hid (H1B.out.1 rfl);have c01:=(cell_of_row _ n 2 _ _ _ K02.out).trans (show _=some (.slice sa2 sm2 sc2)from rfl);have c11:=(cell_of_row _ (n+1) 2 _ _ _ K12.out).trans (show _=some (.slice ta2 tm2 tc2)from rfl)
 go_wp2_with fail
 clear c01 c11;refine(xc F G w2 _ _ a2 b2 (HX.out.p.pure BB2.out) (HY.out.p.pure BB2.out) HLX.out.p HLY.out.p).mono ?_;rintro e w3 ⟨⟨b,hb,rfl⟩,hb3⟩;have H2B:=hid hb;have B3:=hid (xg B2.out hb3);have BB3:=hid (xg BB2.out hb3);have K03:=hid ((hb3.block _ (lt_of_block K02.out)).trans K02.out);have K13:=hid ((hb3.block _ (lt_of_block K12.out)).trans K12.out);clear hb hb3;cases b
 ·have HNO:=hid (show ¬VwD.mk a0 a1 a2 a3=VwD.mk b0 b1 b2 b3 from λe=>by simp only[VwD.mk.injEq]at e;have:=H2B.out.2 e.2.2.1;cases this)
  go_wp2;go_ret;exact⟨TB.no HNO.out,B3.out⟩
 have HY2:=hid (H2B.out.1 rfl);have c02:=(cell_of_row _ n 3 _ _ _ K03.out).trans (show _=some (.slice sa3 sm3 sc3)from rfl);have c12:=(cell_of_row _ (n+1) 3 _ _ _ K13.out).trans (show _=some (.slice ta3 tm3 tc3)from rfl)
 go_wp2_with fail
 clear c02 c12;refine(xe F G w3 _ _ a3 b3 (HX.out.n.pure BB3.out) (HY.out.n.pure BB3.out) HLX.out.n HLY.out.n).mono ?_;rintro e w4 ⟨⟨b,hb,rfl⟩,hb4⟩;have H3B:=hid hb;have B4:=hid (xg B3.out hb4);have BB4:=hid (xg BB3.out hb4);have K04:=hid ((hb4.block _ (lt_of_block K03.out)).trans K03.out);have K14:=hid ((hb4.block _ (lt_of_block K13.out)).trans K13.out);clear hb hb4;go_wp2;go_ret;exact⟨⟨b,H3B.out.trans ⟨λe=>by rw[HY0.out,HY1.out,HY2.out,e],λe=>by simp only[VwD.mk.injEq]at e;exact e.2.2.2⟩,rfl⟩,B4.out⟩
end
section
open Go.RowKit Go.Maps Go.Sort
theorem StIn.lim {s:StD}{v:VwD}(h:StIn s)(hs:Small s v):StLim s:=by
 have hr:reachBytes<2 ^ 47:=reachBytes_lt;refine⟨by have:=hs.a;omega,by have:=hs.i;omega,by have:=hs.r;omega,by have:=hs.o;omega,by have:=hs.u;omega,λa ha=>(by have:=hs.b a ha;omega),λx hx=>?_,λx hx=>?_,λr hr=>?_⟩
 ·have h1:=h.a x hx
  unfold vC at h1;omega
 ·have h1:=h.i x hx
  unfold vG at h1;omega
 ·have h1:=h.r r hr
  unfold vJ at h1;omega
theorem Small.st {s:StD}{v:VwD}(hs:Small s v):StShort s:=⟨by have:=hs.a;omega,by have:=hs.i;omega,by have:=hs.r;omega,by have:=hs.o;omega,by have:=hs.u;omega,λa ha=>by have:=hs.b a ha;omega⟩
theorem Small.vw {s:StD}{v:VwD}(hs:Small s v):VwShort v:=⟨by have:=hs.vo;omega,by have:=hs.vl;omega,by have:=hs.p;omega,by have:=hs.n;omega⟩
theorem VwIn.lim {v:VwD}(h:VwIn v):VwLim v:=by
 have hr:reachBytes<2 ^ 47:=reachBytes_lt;refine⟨by have:=h.lo;omega,by have:=h.ll;omega,by have:=h.lp;omega,by have:=h.ln;omega,λx hx=>?_⟩;have h1:=h.n x hx;unfold wb at h1;omega
theorem xr {q:Int}{s:StD}{v:VwD}:(vf q s v).1.length≤1048576:=by
 by_cases h:(vf q s v).2=0
 ·obtain⟨n,L,_,_,h1,_,_,h2,_⟩:=vq h
  rw[h1];show(gR n L).length≤_;rw[vt];omega
 ·have:(vf q s v).1=[]:=by
   unfold vf at h ⊢
   split
   ·rfl
   ·rename_i h1
    rw[if_neg h1]at h
    split
    ·rfl
    ·rename_i h2;rw[if_neg h2]at h;exact absurd rfl h
  rw[this];simp
theorem xt {st:DkSt}{q:Int}{R:List UInt8×Int}(h:R.2≠0):gV st q R=(st,R.2):=by unfold gV;rw[if_pos h]
theorem xu {w0 W:World}{p b:Nat}{st:DkSt}(h:Own27 w0 W p b st)(hl:Libz w0)(q:Int)(F:Nat→Prop)(sv:StV)(dv:VwV)(s:StD)(v:VwD)(hs:StAt F W sv s)(hv:VwAt F W dv v)(hF:∀g,F g→g<W.heap.size)(LM:StLim s)(LV:VwLim v)(hsm:Small s v) :
  Calls Tryz.prog 14 #[.pointer (some ⟨p,0,none⟩),.int .i64 q,.agg (jc s sv),.agg (jd dv)] W λe w'=>e = .returned (.int .i64 (gV st q (vf q s v)).2)∧Own27 w0 w' p b (gV st q (vf q s v)).1:=by
 obtain⟨h1,h2⟩:=h.lz hl;have hT:kY W q (.agg (jc s sv)) (.agg (jd dv)) (vf q s v).1 (vf q s v).2:=λW2 hb=>vg F W2 q sv dv s v (hs.pure hb) (hv.pure hb) (λg hg=>Nat.lt_of_lt_of_le (hF g hg) hb.size) LM LV (λhso hvo=>wJ hsm hso hvo);have hlen:=xr (q:=q) (s:=s) (v:=v);obtain⟨s4,s5,s6,s7,s8⟩:=sv;obtain⟨d0,d1,d2,d3⟩:=dv;obtain⟨sa4,sc4,rfl⟩:∃a c,s4=Value.slice a s.accts.length c:=hs.a.shape;obtain⟨sa5,sc5,rfl⟩:∃a c,s5=Value.slice a s.insts.length c:=hs.i.shape;obtain⟨sa6,sc6,rfl⟩:∃a c,s6=Value.slice a s.rows.length c:=hs.r.shape;obtain⟨sa7,sc7,rfl⟩:∃a c,s7=Value.slice a s.ords.length c:=hs.o.shape;obtain⟨sa8,sc8,rfl⟩:∃a c,s8=Value.slice a s.aucs.length c:=hs.u.shape;obtain⟨da0,dc0,rfl⟩:∃a c,d0=Value.slice a v.open_.length c:=hv.o.shape;obtain⟨da1,dc1,rfl⟩:∃a c,d1=Value.slice a v.lots.length c:=hv.l.shape;obtain⟨da2,dc2,rfl⟩:∃a c,d2=Value.slice a v.poss.length c:=hv.p.shape;obtain⟨da3,dc3,rfl⟩:∃a c,d3=Value.slice a v.lins.length c:=hv.n.shape;unfold jc jd at hT ⊢;dsimp only at hT ⊢;obtain⟨⟨D,code⟩,hR⟩:∃R,R=vf q s v:=⟨_,rfl⟩;rw[← hR]at hT hlen ⊢;dsimp only at hT hlen;by_cases hc:code=0
 ·subst hc
  refine(lh W h1 p b st h.dk h2 q D (by omega) hT).mono ?_;rintro e w' ⟨h3,h4,h5⟩;exact⟨h3,h.op h4 h5⟩
 ·rw[xt (R:=(D,code)) hc]
  refine(lj W (some ⟨p,0,none⟩) q D code hc hT).mono ?_;rintro e w' ⟨h3,h4⟩;exact⟨h3,h.pure h4⟩
theorem xv {st:DkSt}(h:DkOk st)(n:List UInt8):(eG st n).1.length≤1048576:=by
 unfold eG
 split
 ·simp
 ·split
  ·simp
  ·rename_i f hf
   have:=h.fs.small f (List.mem_of_find?_eq_some hf);simpa using this
theorem xw {w0 W:World}{p b:Nat}{st:DkSt}(h:Own27 w0 W p b st)(hl:Libz w0)(n:Int) :
  Calls Tryz.prog 11 #[.pointer (some ⟨p,0,none⟩),.int .i64 n] W λe w'=>tq W (uM n (eG st (fN n))) e w':=by
 obtain⟨⟨D,code⟩,hR⟩:∃R,R=eG st (fN n):=⟨_,rfl⟩;have hlen:=xv h.dk.ok (fN n);rw[← hR]at hlen ⊢;exact uX W (h.lz hl).1.pow _ n D code (by unfold maxLen;dsimp only at hlen;omega) (lI h.dk hR.symm (lJ n))
end
section
open Go.RowKit
theorem xx {w0 W:World}{p b:Nat}{st:DkSt}(h:Own27 w0 W p b st)(hl:Libz w0)(q:Int)(F:Nat→Prop)(sv:StV)(dv:VwV)(s:StD)(v:VwD)(hs:StAt F W sv s)(hv:VwAt F W dv v)(hF:∀g,F g→g<W.heap.size)(LM:StLim s)(LV:VwLim v)(hsm:Small s v) :
  Calls Tryz.prog 14 #[.pointer (some ⟨p,0,none⟩),.int .i64 q,.agg (jc s sv),.agg (jd dv)] W λe w'=>e = .returned (.int .i64 (gV st q (vf q s v)).2)∧Own27 w0 w' p b (gV st q (vf q s v)).1∧DFr p b W w':=by
 obtain⟨h1,h2⟩:=h.lz hl;have hT:kY W q (.agg (jc s sv)) (.agg (jd dv)) (vf q s v).1 (vf q s v).2:=λW2 hb=>vg F W2 q sv dv s v (hs.pure hb) (hv.pure hb) (λg hg=>Nat.lt_of_lt_of_le (hF g hg) hb.size) LM LV (λhso hvo=>wJ hsm hso hvo);have hlen:=xr (q:=q) (s:=s) (v:=v);obtain⟨s4,s5,s6,s7,s8⟩:=sv;obtain⟨d0,d1,d2,d3⟩:=dv;obtain⟨sa4,sc4,rfl⟩:∃a c,s4=Value.slice a s.accts.length c:=hs.a.shape;obtain⟨sa5,sc5,rfl⟩:∃a c,s5=Value.slice a s.insts.length c:=hs.i.shape;obtain⟨sa6,sc6,rfl⟩:∃a c,s6=Value.slice a s.rows.length c:=hs.r.shape;obtain⟨sa7,sc7,rfl⟩:∃a c,s7=Value.slice a s.ords.length c:=hs.o.shape;obtain⟨sa8,sc8,rfl⟩:∃a c,s8=Value.slice a s.aucs.length c:=hs.u.shape;obtain⟨da0,dc0,rfl⟩:∃a c,d0=Value.slice a v.open_.length c:=hv.o.shape;obtain⟨da1,dc1,rfl⟩:∃a c,d1=Value.slice a v.lots.length c:=hv.l.shape;obtain⟨da2,dc2,rfl⟩:∃a c,d2=Value.slice a v.poss.length c:=hv.p.shape;obtain⟨da3,dc3,rfl⟩:∃a c,d3=Value.slice a v.lins.length c:=hv.n.shape;unfold jc jd at hT ⊢;dsimp only at hT ⊢;obtain⟨⟨D,code⟩,hR⟩:∃R,R=vf q s v:=⟨_,rfl⟩;rw[← hR]at hT hlen ⊢;dsimp only at hT hlen;by_cases hc:code=0
 ·subst hc
  refine(lh W h1 p b st h.dk h2 q D (by omega) hT).mono ?_;rintro e w' ⟨h3,h4,h5⟩;exact⟨h3,h.op h4 h5,h5⟩
 ·rw[xt (R:=(D,code)) hc]
  refine(lj W (some ⟨p,0,none⟩) q D code hc hT).mono ?_;rintro e w' ⟨h3,h4⟩;exact⟨h3,h.pure h4,(Fr.pure (S:=λ_=>False) h4).mono (λ_ _ e=>e.elim)⟩
theorem xy {n:Nat}(h:n≤1048576):n≤1099511627776:=by omega
theorem xz {up:Nat→RS→Int×RS}{lg:RS→Int×RS}{ys:RS→Bool×RS}{ls:RS→List BidD×RS}{r:RS}(h:∀r,(ls r).1.length≤1048576):(oo up lg ys ls r).1.bids.length≤1099511627776:=xy (h _)
theorem xA (s:List UInt8)(r:RS)(hs:s.length≤1048576):(mu s r).1.bids.length≤1099511627776:=by
 rw[oq];exact xz (λr=>sU s (mr s) r hs)
theorem xB {lg:RS→Int×RS}{l1:RS→List AccD×RS}{l2:RS→List InsD×RS}{l3:RS→List RowD×RS}{l4:RS→List OrdD×RS}{l5:RS→List AucD×RS}{r:RS}
  (h1:∀r,(l1 r).1.length≤1048576) (h2:∀r,(l2 r).1.length≤1048576) (h3:∀r,(l3 r).1.length≤1048576) (h4:∀r,(l4 r).1.length≤1048576) (h5:∀r,(l5 r).1.length≤1048576)
  (h6:∀r,∀a∈(l5 r).1,a.bids.length≤1099511627776):StShort (stG lg l1 l2 l3 l4 l5 r).1:=
 ⟨xy (h1 _),xy (h2 _),xy (h3 _),xy (h4 _),xy (h5 _),h6 _⟩
theorem xC {l1:RS→List OpnD×RS}{l2:RS→List LotD×RS}{l3:RS→List PosD×RS}{l4:RS→List LinD×RS}{r:RS}
  (h1:∀r,(l1 r).1.length≤1048576) (h2:∀r,(l2 r).1.length≤1048576) (h3:∀r,(l3 r).1.length≤1048576) (h4:∀r,(l4 r).1.length≤1048576):VwShort (vwG l1 l2 l3 l4 r).1:=
 ⟨xy (h1 _),xy (h2 _),xy (h3 _),xy (h4 _)⟩
theorem xD (s:List UInt8)(r:RS)(hs:s.length≤1048576):StShort (stR s r).1:=by
 rw[ot];exact xB (λr=>sU s _ r hs) (λr=>sU s _ r hs) (λr=>sU s _ r hs) (λr=>sU s _ r hs) (λr=>sU s _ r hs)
  (λr=>sV s (mu s) r (λa=>a.bids.length≤1099511627776) (λr=>xA s r hs))
theorem xE (s:List UInt8)(r:RS)(hs:s.length≤1048576):VwShort (vwR s r).1:=by
 rw[ou];exact xC (λr=>sU s _ r hs) (λr=>sU s _ r hs) (λr=>sU s _ r hs) (λr=>sU s _ r hs)
theorem xF:StShort mB∧VwShort mC:=by
 constructor<;>constructor<;>simp[mB,mC]
theorem xG (s:List UInt8)(hs:s.length≤1048576):StShort (mE s).1∧VwShort (mE s).2.1:=by
 unfold mE
 split
 ·exact xF
 ·split
  ·exact⟨xD s _ hs,xE s _ hs⟩
  ·exact xF
theorem xH (t:List UInt8)(hs:t.length≤1048576):StShort (uI t).2.1∧VwShort (uI t).2.2.1:=by
 unfold uI
 split
 ·exact xF
 ·split
  ·exact xF
  ·split
   ·exact xF
   ·split
    ·exact xF
    ·split
     ·exact xF
     ·exact xG _ (by rw[List.length_drop];omega)
theorem xI (s:List UInt8):StShort (uJ s).2.1∧VwShort (uJ s).2.2.1:=by
 unfold uJ
 split
 ·exact xF
 ·split
  ·exact xF
  ·split
   ·exact xF
   ·exact xH _ (by rw[List.length_take];omega)
theorem xJ (n:Int)(r:List UInt8×Int):StShort (uM n r).1∧VwShort (uM n r).2.1:=by
 unfold uM
 split
 ·exact xF
 ·split
  ·exact xF
  ·split
   ·exact xF
   ·split
    ·exact xF
    ·exact xI _
end
end Go.Proofs.YtaeakdichkhjaaaGreatDoor
