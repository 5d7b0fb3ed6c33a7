/- The walk of Up. -/
import Derived.Test.YtaeakdichkhjaaaGreatDoorQBk
import Derived.Test.YtaeakdichkhjaaaGreatDoorQBm
import Derived.Test.YtaeakdichkhjaaaGreatDoorQAi
import Derived.Test.YtaeakdichkhjaaaGreatDoorQAd
set_option maxHeartbeats 4000000
open Go.Lib(hid)
namespace Go.Proofs.YtaeakdichkhjaaaGreatDoor
section
open Go.RowKit Go.Maps Go.Sort
def stE (c:Int):StD:=⟨c,0,1,1,[],[],[],[],[]⟩
theorem yM (c:Nat)(hc:c<128):jW (stE (c:Int)):=by
 refine⟨?_,?_,?_,?_,?_,?_,rfl⟩
 ·unfold jm ji stE;dsimp only;omega
 ·exact⟨by simp[stE],by simp[jl,stE]⟩
 ·exact⟨by simp[stE],by simp[stE],by simp[jl,stE]⟩
 ·exact⟨λ_ _ _=>rfl,by simp[stE]⟩
 ·exact⟨⟨by simp[stE],by simp[stE],λi h=>absurd h (by simp[stE])⟩,by simp[stE]⟩
 ·exact⟨⟨trivial,by simp[stE]⟩,by simp[stE]⟩
theorem yN:j9 mC:=by
 refine⟨?_,?_,?_⟩
 ·unfold jZ jC mC;simp
 ·unfold j3 jC mC;simp
 ·exact trivial
theorem yO (q c:Nat)(hq:q≤1048576)(hc:c<128):vf (q:Int) (stE (c:Int)) mC=(gX q c,0)∧mE (gW c)=(stE (c:Int),mC,0):=by
 have hb:mi (stE (c:Int)) mC=gW c:=by
  have e:ie (c:Int)=c:=by unfold ie;omega
  have e1:bB c=[UInt8.ofNat c]:=bC hc;show ig [(c:Int),0,1,1]++_++_=_;rw[mI,e,e1];simp[gW,ig,lS,stE,mC,vwB,ie,bC]
 have hw:mF (stE (c:Int)) mC=(gW c,0):=by
  unfold mF;rw[if_neg (λh=>h ⟨yM c hc,yN⟩),hb,if_neg (by unfold mD gW;simp)]
 refine⟨?_,(uA hw).1⟩;unfold vf;rw[if_neg (by omega),hw];simp[gX]
theorem yP (q c:Nat)(hq:q≤1048576)(hc:c<128):uM (q:Int) (gX q c,0)=(stE (c:Int),mC,0):=by
 unfold uM;rw[if_neg (by omega)];simp only[ne_eq,not_true_eq_false,if_false];unfold gX;rw[uL hq (by unfold gW;simp) (yO q c hq hc).2];simp
theorem yQ {w0 W:World}{p b:Nat}{st:DkSt}(h:Own27 w0 W p b st)(hl:Libz w0)(q c:Nat)(hq:q≤1048576)(hc:c<128) :
  Calls Tryz.prog 14 #[.pointer (some ⟨p,0,none⟩),.int .i64 (q:Int),stV (c:Int) 0 1 1,cy] W λe w'=>e = .returned (.int .i64 (gV st (q:Int) (gX q c,0)).2)∧Own27 w0 w' p b (gV st (q:Int) (gX q c,0)).1:=by
 have h1:=xu h hl (q:Int) (λ_=>False) ⟨.slice none 0 0,.slice none 0 0,.slice none 0 0,.slice none 0 0,.slice none 0 0⟩ ⟨.slice none 0 0,.slice none 0 0,.slice none 0 0,.slice none 0 0⟩ (stE (c:Int)) mC
  ⟨SlAt.nil W,SlAt.nil W,SlAt.nil W,SlAt.nil W,[],rfl,SlAt.nil W,λ_ h=>(by cases h)⟩ (tu _ _) (λ_ h=>h.elim)
  ⟨by simp[stE],by simp[stE],by simp[stE],by simp[stE],by simp[stE],by simp[stE],by simp[stE],by simp[stE],by simp[stE,qW]⟩ ⟨by simp[mC],by simp[mC],by simp[mC],by simp[mC],by simp[mC,sP]⟩ (by constructor<;>simp[stE,mC])
 rw[(yO q c hq hc).1]at h1;exact h1
theorem yR:yn seC.1 (lC 0 8 (gd (seC.1.fs.map (·.name))))=(5,stE 50,mC,true):=by
 rw[gZ,show lC 0 8 [3,5,9]=[5,3]from by decide];have h:RD seC.1 5=(stE 50,mC,0):=by
  show uM 5 (eG seC.1 (fN 5))=_;rw[g9.2];exact yP 5 50 (by omega) (by omega)
 unfold yn;rw[h];rfl
theorem yT:(uJ []).2.2.2≠0:=by unfold uJ;rw[if_neg (by simp),if_pos (by simp)];decide
theorem yU:yn seC.1 (lC 0 4 (gd (seC.1.fs.map (·.name))))=(0,mB,mC,false):=by
 rw[gZ,show lC 0 4 [3,5,9]=[3]from by decide];refine yo λm hm=>?_;obtain rfl:m=3:=by simpa using hm
 show(uM 3 (eG seC.1 (fN 3))).2.2≠0;rw[g9.1];unfold uM;rw[if_neg (by omega)];simp only[ne_eq,not_true_eq_false,if_false];rw[if_pos yT];exact yT
theorem yV {st:DkSt}(h:eG st (fN 5)=([],5)):uM 5 (eG st (fN 5))=(mB,mC,5):=by
 rw[h];unfold uM;rw[if_neg (by omega),if_pos (by decide)]
theorem yW:uM 5 (eG (seX 4) (fN 5))=(stE 50,mC,0):=by
 rw[hU.2.2];exact yP 5 50 (by omega) (by omega)
set_option maxRecDepth 100000 in
theorem yX (w:World)(hl:Libz w):Calls Tryz.prog 7 #[] w λe w'=>e = .returned (.bool true)∧Below w.heap.size w w':=by
 have HL:=hid hl;clear hl
 go_enter Tryz.func7,Tryz.ntmps7
 go_wp2_with fail
 refine(kG w HL.out.pow 17).mono ?_;rintro e w1 ⟨⟨r,hr,rfl⟩,hb1⟩;have hcmp:(r.toList == [110,48,48,48,48,48,48,48,48,49,55])=true:=by rw[ByteArray.toList_eq,hr,lM];decide
 have hcne:(r.toList != [110,48,48,48,48,48,48,48,48,49,55])=false:=by unfold bne;rw[hcmp];rfl
 have HB1:=hid hb1;clear hr hb1
 go_wp2_with fail
 refine(lO w w1 HB1.out).mono ?_;rintro e w2 ⟨p,b,rfl,o2⟩;have O2:=hid o2;clear o2 HB1
 go_wp2_with fail
 refine(kX 50 _).mono ?_;rintro e w3 ⟨rfl,hb3⟩;have O3:=hid (O2.out.pure hb3);clear hb3 O2;unfold stV
 go_wp2_with fail
 refine(show Calls Tryz.prog 14 #[.pointer (some ⟨p,0,none⟩),.int .i64 5,.agg #[.int .i64 50,.int .i64 0,.int .i64 1,.int .i64 1,.slice none 0 0,.slice none 0 0,.slice none 0 0,.slice none 0 0,.slice none 0 0],.agg #[.slice none 0 0,.slice none 0 0,.slice none 0 0,.slice none 0 0]] w3 _ from yQ O3.out HL.out 5 50 (by omega) (by omega)).mono ?_;rintro e w4 ⟨rfl,o4⟩;have O4:=hid (show Own27 w w4 p b seA.1 from o4);rw[show(gV seT ((5:Nat):Int) (gX 5 50,0)).2=seA.2 from rfl];clear o4 O3;rw[gY.1]
 go_wp2_with fail
 refine(kX 90 _).mono ?_;rintro e w5 ⟨rfl,hb5⟩;have O5:=hid (O4.out.pure hb5);clear hb5 O4;unfold stV
 go_wp2_with fail
 refine(show Calls Tryz.prog 14 #[.pointer (some ⟨p,0,none⟩),.int .i64 9,.agg #[.int .i64 90,.int .i64 0,.int .i64 1,.int .i64 1,.slice none 0 0,.slice none 0 0,.slice none 0 0,.slice none 0 0,.slice none 0 0],.agg #[.slice none 0 0,.slice none 0 0,.slice none 0 0,.slice none 0 0]] w5 _ from yQ O5.out HL.out 9 90 (by omega) (by omega)).mono ?_;rintro e w6 ⟨rfl,o6⟩;have O6:=hid (show Own27 w w6 p b seB.1 from o6);rw[show(gV seA.1 ((9:Nat):Int) (gX 9 90,0)).2=seB.2 from rfl];clear o6 O5;rw[gY.2.1]
 go_wp2_with fail
 refine(show Calls Tryz.prog 25 #[.pointer (some ⟨p,0,none⟩),.string ⟨#[110,48,48,48,48,48,48,48,48,48,51]⟩] w6 λe w'=>ec p b seC w6 e w' from eo w6 p b seB.1 O6.out.dk ⟨#[110,48,48,48,48,48,48,48,48,48,51]⟩ (by decide)).mono ?_;rintro e w7 ⟨rfl,hd7,hf7⟩;have O7:=hid (O6.out.op hd7 hf7);rw[gY.2.2.1];clear hd7 hf7 O6
 go_wp2_with fail
 refine(yL _ (O7.out.lz HL.out).1 p b seC.1 O7.out.dk gY.2.2.2 0 8).mono ?_;rw[yR];rintro e w8 ⟨⟨sv,dv,rfl,hst,hvt⟩,hb8⟩;dsimp only at hst hvt ⊢;obtain⟨s4,s5,s6,s7,s8⟩:=sv;obtain⟨sa4,sm4,sc4,rfl⟩:∃a m c,s4=Value.slice a m c:=by obtain⟨a,c,h⟩:=hst.a.shape;exact⟨a,_,c,h⟩
 obtain⟨sa5,sm5,sc5,rfl⟩:∃a m c,s5=Value.slice a m c:=by obtain⟨a,c,h⟩:=hst.i.shape;exact⟨a,_,c,h⟩
 obtain⟨sa6,sm6,sc6,rfl⟩:∃a m c,s6=Value.slice a m c:=by obtain⟨a,c,h⟩:=hst.r.shape;exact⟨a,_,c,h⟩
 obtain⟨sa7,sm7,sc7,rfl⟩:∃a m c,s7=Value.slice a m c:=by obtain⟨a,c,h⟩:=hst.o.shape;exact⟨a,_,c,h⟩
 obtain⟨sa8,sm8,sc8,rfl⟩:∃a m c,s8=Value.slice a m c:=by obtain⟨a,c,h⟩:=hst.u.shape;exact⟨a,_,c,h⟩
 obtain⟨d0,d1,d2,d3⟩:=dv;obtain⟨da0,dm0,dc0,rfl⟩:∃a m c,d0=Value.slice a m c:=by obtain⟨a,c,h⟩:=hvt.o.shape;exact⟨a,_,c,h⟩
 obtain⟨da1,dm1,dc1,rfl⟩:∃a m c,d1=Value.slice a m c:=by obtain⟨a,c,h⟩:=hvt.l.shape;exact⟨a,_,c,h⟩
 obtain⟨da2,dm2,dc2,rfl⟩:∃a m c,d2=Value.slice a m c:=by obtain⟨a,c,h⟩:=hvt.p.shape;exact⟨a,_,c,h⟩
 obtain⟨da3,dm3,dc3,rfl⟩:∃a m c,d3=Value.slice a m c:=by obtain⟨a,c,h⟩:=hvt.n.shape;exact⟨a,_,c,h⟩
 have O8:=hid (O7.out.pure hb8);clear hb8 O7 hst hvt;unfold jc jd;dsimp only[stE,mB]
 go_wp2_with fail
 obtain⟨W9,hW9⟩:∃W9,W9=(w8.alloc (.cells #[.int .i64 50,.int .i64 0,.int .i64 1,.int .i64 1,.slice sa4 sm4 sc4,.slice sa5 sm5 sc5,.slice sa6 sm6 sc6,.slice sa7 sm7 sc7,.slice sa8 sm8 sc8] 29)).alloc (.cells #[.slice da0 dm0 dc0,.slice da1 dm1 dc1,.slice da2 dm2 dc2,.slice da3 dm3 dc3] 35):=⟨_,rfl⟩;have hb9:Below w8.heap.size w8 W9:=by rw[hW9];exact((Below.refl _ _).alloc (Nat.le_refl _) _).alloc (by simp) _
 have O9:=hid (O8.out.pure hb9);have K9:=hid (show W9.heap[w8.heap.size]?=some (.cells #[.int .i64 50,.int .i64 0,.int .i64 1,.int .i64 1,.slice sa4 sm4 sc4,.slice sa5 sm5 sc5,.slice sa6 sm6 sc6,.slice sa7 sm7 sc7,.slice sa8 sm8 sc8] 29 (0,0))from by rw[hW9];exact(Below.heap_alloc _ _ _ (by simp)).trans (heap_alloc_new _ _));rw[← hW9];clear hW9 hb9 O8;refine(yL _ (O9.out.lz HL.out).1 p b seC.1 O9.out.dk gY.2.2.2 0 4).mono ?_;rw[yU];rintro e w10 ⟨⟨sv,dv,rfl,hst,hvt⟩,hb10⟩;dsimp only at hst hvt ⊢;obtain⟨t4,t5,t6,t7,t8⟩:=sv;obtain⟨ta4,tm4,tc4,rfl⟩:∃a m c,t4=Value.slice a m c:=by obtain⟨a,c,h⟩:=hst.a.shape;exact⟨a,_,c,h⟩
 obtain⟨ta5,tm5,tc5,rfl⟩:∃a m c,t5=Value.slice a m c:=by obtain⟨a,c,h⟩:=hst.i.shape;exact⟨a,_,c,h⟩
 obtain⟨ta6,tm6,tc6,rfl⟩:∃a m c,t6=Value.slice a m c:=by obtain⟨a,c,h⟩:=hst.r.shape;exact⟨a,_,c,h⟩
 obtain⟨ta7,tm7,tc7,rfl⟩:∃a m c,t7=Value.slice a m c:=by obtain⟨a,c,h⟩:=hst.o.shape;exact⟨a,_,c,h⟩
 obtain⟨ta8,tm8,tc8,rfl⟩:∃a m c,t8=Value.slice a m c:=by obtain⟨a,c,h⟩:=hst.u.shape;exact⟨a,_,c,h⟩
 obtain⟨u0,u1,u2,u3⟩:=dv;obtain⟨ua0,um0,uc0,rfl⟩:∃a m c,u0=Value.slice a m c:=by obtain⟨a,c,h⟩:=hvt.o.shape;exact⟨a,_,c,h⟩
 obtain⟨ua1,um1,uc1,rfl⟩:∃a m c,u1=Value.slice a m c:=by obtain⟨a,c,h⟩:=hvt.l.shape;exact⟨a,_,c,h⟩
 obtain⟨ua2,um2,uc2,rfl⟩:∃a m c,u2=Value.slice a m c:=by obtain⟨a,c,h⟩:=hvt.p.shape;exact⟨a,_,c,h⟩
 obtain⟨ua3,um3,uc3,rfl⟩:∃a m c,u3=Value.slice a m c:=by obtain⟨a,c,h⟩:=hvt.n.shape;exact⟨a,_,c,h⟩
 have O10:=hid (O9.out.pure hb10);have K10:=hid ((hb10.block _ (lt_of_block K9.out)).trans K9.out);clear hb10 O9 hst hvt K9;unfold jc jd;dsimp only[stE,mB]
 go_wp2_with fail
 obtain⟨W11,hW11⟩:∃W11,W11=(w10.alloc (.cells #[.int .i64 0,.int .i64 0,.int .i64 0,.int .i64 0,.slice ta4 tm4 tc4,.slice ta5 tm5 tc5,.slice ta6 tm6 tc6,.slice ta7 tm7 tc7,.slice ta8 tm8 tc8] 29)).alloc (.cells #[.slice ua0 um0 uc0,.slice ua1 um1 uc1,.slice ua2 um2 uc2,.slice ua3 um3 uc3] 35):=⟨_,rfl⟩;have hb11:Below w10.heap.size w10 W11:=by rw[hW11];exact((Below.refl _ _).alloc (Nat.le_refl _) _).alloc (by simp) _
 have O11:=hid (O10.out.pure hb11);have K11:=hid ((hb11.block _ (lt_of_block K10.out)).trans K10.out);rw[← hW11];clear hW11 hb11 O10 K10;refine(kU W11 (O11.out.lz HL.out).1 p b seC.1 O11.out.dk).mono ?_;rintro e w12 ⟨hb12,h12⟩;rw[gY.2.2.2,if_neg (by decide),gZ]at h12;obtain⟨v,rfl,hown⟩:=h12;obtain⟨ga,gc,rfl,hrow⟩:=kV hown;obtain⟨gb,hgb,_,hl2⟩:=hrow 2 (by decide);subst hgb;have O12:=hid (O11.out.pure hb12);have k12:=(hb12.block _ (lt_of_block K11.out)).trans K11.out;have x50:w12.cell? ⟨w8.heap.size,0,none⟩=some (.int .i64 50):=(cell_of_row _ _ _ _ _ _ k12).trans rfl;have hl2':w12.cell? ⟨gb,2,none⟩=some (.int .i64 9):=hl2;clear hb12 O11 K11 hown hrow k12 hl2;go_wp2;have HB12:=hid O12.out.below;clear O12
 go_loopw [15] (λi wr=>∃z:Int,i = .int .i64 z∧(z=2∨z=3∨z=4∨z=5)∧Hid (Below w.heap.size w wr)) (λi _=>5-(intOf i).toNat)
 case atStart=>exact⟨2,rfl,.inl rfl,HB12⟩
 case round=>
  obtain⟨z,rfl,hz,HB⟩:=hrel
  rcases hz with rfl|rfl|rfl|rfl
  ·go_wp2_with fail
   refine(lO w wr HB.out).mono ?_;rintro e w2 ⟨p,b,rfl,o2⟩;have O2:=hid o2;clear o2
   go_wp2_with fail
   refine(eK w2 p b seT O2.out.dk 2 (by omega) (by omega)).mono ?_;rintro e w3 ⟨rfl,hd3,hf3⟩;rw[hG.1];have O3:=hid (O2.out.op hd3 hf3);clear hd3 hf3 O2
   go_wp2_with fail
   refine(kX 50 _).mono ?_;rintro e w4 ⟨rfl,hb4⟩;have O4:=hid (O3.out.pure hb4);clear hb4 O3;unfold stV
   go_wp2_with fail
   refine(show Calls Tryz.prog 14 #[.pointer (some ⟨p,0,none⟩),.int .i64 5,.agg #[.int .i64 50,.int .i64 0,.int .i64 1,.int .i64 1,.slice none 0 0,.slice none 0 0,.slice none 0 0,.slice none 0 0,.slice none 0 0],.agg #[.slice none 0 0,.slice none 0 0,.slice none 0 0,.slice none 0 0]] w4 _ from yQ O4.out HL.out 5 50 (by omega) (by omega)).mono ?_;rintro e w5 ⟨rfl,o5⟩;have O5:=hid (show Own27 w w5 p b (seK 2).1 from o5);rw[show(gV (eJ seT 2).1 ((5:Nat):Int) (gX 5 50,0)).2=(seK 2).2 from rfl];clear o5 O4;obtain⟨cd,hcd⟩:∃cd,cd=(seK 2).2:=⟨_,rfl⟩;have hc0:cd≠0:=by rw[hcd];exact hG.2.2.2.1
   have hcf:(cd == 0)=false:=by simpa using hc0
   have hct:(cd != 0)=true:=by simpa using hc0
   rw[← hcd];clear hcd
   go_wp2_with fail
   have hal:Below w5.heap.size w5 (w5.alloc (.cells #[.int .i64 99] 3)):=(Below.refl _ _).alloc (Nat.le_refl _) _;have o6:=O5.out.pure hal;have hpl:=O5.out.dk.lt;have hbl:=O5.out.dk.own.lt;refine(gO _ p b (seK 2).1 o6.dk (.slice (some ⟨w5.heap.size,0,none⟩) 1 1) [99] ⟨_,1,rfl,by simp,.inr ⟨w5.heap.size,0,rfl,λi hi=>by
    obtain rfl:i=0:=by simpa using hi
    exact(World.cell?_alloc_at _ _ _ _ rfl).trans rfl⟩⟩ (λg e=>by cases e;exact⟨by show w5.heap.size≠p;omega,by show w5.heap.size≠b;omega⟩)).mono ?_
   rintro e w7 ⟨rfl,hd7,hf7⟩;have O7:=hid (show Own27 w w7 p b (seX 2)from o6.op hd7 hf7);clear hal o6 hpl hbl hd7 hf7 O5
   go_wp2_with fail
   refine(xw O7.out HL.out 5).mono ?_;rw[yV hU.1];rintro e w8 ⟨⟨sv,dv,rfl,hst,hvt⟩,hb8⟩;dsimp only at hst hvt ⊢;obtain⟨s4,s5,s6,s7,s8⟩:=sv;obtain⟨sa4,sm4,sc4,rfl⟩:∃a m c,s4=Value.slice a m c:=by obtain⟨a,c,h⟩:=hst.a.shape;exact⟨a,_,c,h⟩
   obtain⟨sa5,sm5,sc5,rfl⟩:∃a m c,s5=Value.slice a m c:=by obtain⟨a,c,h⟩:=hst.i.shape;exact⟨a,_,c,h⟩
   obtain⟨sa6,sm6,sc6,rfl⟩:∃a m c,s6=Value.slice a m c:=by obtain⟨a,c,h⟩:=hst.r.shape;exact⟨a,_,c,h⟩
   obtain⟨sa7,sm7,sc7,rfl⟩:∃a m c,s7=Value.slice a m c:=by obtain⟨a,c,h⟩:=hst.o.shape;exact⟨a,_,c,h⟩
   obtain⟨sa8,sm8,sc8,rfl⟩:∃a m c,s8=Value.slice a m c:=by obtain⟨a,c,h⟩:=hst.u.shape;exact⟨a,_,c,h⟩
   obtain⟨d0,d1,d2,d3⟩:=dv;obtain⟨da0,dm0,dc0,rfl⟩:∃a m c,d0=Value.slice a m c:=by obtain⟨a,c,h⟩:=hvt.o.shape;exact⟨a,_,c,h⟩
   obtain⟨da1,dm1,dc1,rfl⟩:∃a m c,d1=Value.slice a m c:=by obtain⟨a,c,h⟩:=hvt.l.shape;exact⟨a,_,c,h⟩
   obtain⟨da2,dm2,dc2,rfl⟩:∃a m c,d2=Value.slice a m c:=by obtain⟨a,c,h⟩:=hvt.p.shape;exact⟨a,_,c,h⟩
   obtain⟨da3,dm3,dc3,rfl⟩:∃a m c,d3=Value.slice a m c:=by obtain⟨a,c,h⟩:=hvt.n.shape;exact⟨a,_,c,h⟩
   have HB8:=hid (cx O7.out.below hb8);clear hb8 O7 hst hvt;unfold jc jd;dsimp only[mB];go_wp2
   go_roundw
   case rel=>exact⟨3,by go_num,by decide,hid ((HB8.out.alloc HB8.out.size _).alloc (by have:=HB8.out.size;simp;omega) _)⟩
   case measure=>simp[intOf]
  ·go_wp2_with fail
   refine(lO w wr HB.out).mono ?_;rintro e w2 ⟨p,b,rfl,o2⟩;have O2:=hid o2;clear o2
   go_wp2_with fail
   refine(eK w2 p b seT O2.out.dk 3 (by omega) (by omega)).mono ?_;rintro e w3 ⟨rfl,hd3,hf3⟩;rw[hG.2.1];have O3:=hid (O2.out.op hd3 hf3);clear hd3 hf3 O2
   go_wp2_with fail
   refine(kX 50 _).mono ?_;rintro e w4 ⟨rfl,hb4⟩;have O4:=hid (O3.out.pure hb4);clear hb4 O3;unfold stV
   go_wp2_with fail
   refine(show Calls Tryz.prog 14 #[.pointer (some ⟨p,0,none⟩),.int .i64 5,.agg #[.int .i64 50,.int .i64 0,.int .i64 1,.int .i64 1,.slice none 0 0,.slice none 0 0,.slice none 0 0,.slice none 0 0,.slice none 0 0],.agg #[.slice none 0 0,.slice none 0 0,.slice none 0 0,.slice none 0 0]] w4 _ from yQ O4.out HL.out 5 50 (by omega) (by omega)).mono ?_;rintro e w5 ⟨rfl,o5⟩;have O5:=hid (show Own27 w w5 p b (seK 3).1 from o5);rw[show(gV (eJ seT 3).1 ((5:Nat):Int) (gX 5 50,0)).2=(seK 3).2 from rfl];clear o5 O4;obtain⟨cd,hcd⟩:∃cd,cd=(seK 3).2:=⟨_,rfl⟩;have hc0:cd≠0:=by rw[hcd];exact hG.2.2.2.2.1
   have hcf:(cd == 0)=false:=by simpa using hc0
   have hct:(cd != 0)=true:=by simpa using hc0
   rw[← hcd];clear hcd
   go_wp2_with fail
   have hal:Below w5.heap.size w5 (w5.alloc (.cells #[.int .i64 99] 3)):=(Below.refl _ _).alloc (Nat.le_refl _) _;have o6:=O5.out.pure hal;have hpl:=O5.out.dk.lt;have hbl:=O5.out.dk.own.lt;refine(gO _ p b (seK 3).1 o6.dk (.slice (some ⟨w5.heap.size,0,none⟩) 1 1) [99] ⟨_,1,rfl,by simp,.inr ⟨w5.heap.size,0,rfl,λi hi=>by
    obtain rfl:i=0:=by simpa using hi
    exact(World.cell?_alloc_at _ _ _ _ rfl).trans rfl⟩⟩ (λg e=>by cases e;exact⟨by show w5.heap.size≠p;omega,by show w5.heap.size≠b;omega⟩)).mono ?_
   rintro e w7 ⟨rfl,hd7,hf7⟩;have O7:=hid (show Own27 w w7 p b (seX 3)from o6.op hd7 hf7);clear hal o6 hpl hbl hd7 hf7 O5
   go_wp2_with fail
   refine(xw O7.out HL.out 5).mono ?_;rw[yV hU.2.1];rintro e w8 ⟨⟨sv,dv,rfl,hst,hvt⟩,hb8⟩;dsimp only at hst hvt ⊢;obtain⟨s4,s5,s6,s7,s8⟩:=sv;obtain⟨sa4,sm4,sc4,rfl⟩:∃a m c,s4=Value.slice a m c:=by obtain⟨a,c,h⟩:=hst.a.shape;exact⟨a,_,c,h⟩
   obtain⟨sa5,sm5,sc5,rfl⟩:∃a m c,s5=Value.slice a m c:=by obtain⟨a,c,h⟩:=hst.i.shape;exact⟨a,_,c,h⟩
   obtain⟨sa6,sm6,sc6,rfl⟩:∃a m c,s6=Value.slice a m c:=by obtain⟨a,c,h⟩:=hst.r.shape;exact⟨a,_,c,h⟩
   obtain⟨sa7,sm7,sc7,rfl⟩:∃a m c,s7=Value.slice a m c:=by obtain⟨a,c,h⟩:=hst.o.shape;exact⟨a,_,c,h⟩
   obtain⟨sa8,sm8,sc8,rfl⟩:∃a m c,s8=Value.slice a m c:=by obtain⟨a,c,h⟩:=hst.u.shape;exact⟨a,_,c,h⟩
   obtain⟨d0,d1,d2,d3⟩:=dv;obtain⟨da0,dm0,dc0,rfl⟩:∃a m c,d0=Value.slice a m c:=by obtain⟨a,c,h⟩:=hvt.o.shape;exact⟨a,_,c,h⟩
   obtain⟨da1,dm1,dc1,rfl⟩:∃a m c,d1=Value.slice a m c:=by obtain⟨a,c,h⟩:=hvt.l.shape;exact⟨a,_,c,h⟩
   obtain⟨da2,dm2,dc2,rfl⟩:∃a m c,d2=Value.slice a m c:=by obtain⟨a,c,h⟩:=hvt.p.shape;exact⟨a,_,c,h⟩
   obtain⟨da3,dm3,dc3,rfl⟩:∃a m c,d3=Value.slice a m c:=by obtain⟨a,c,h⟩:=hvt.n.shape;exact⟨a,_,c,h⟩
   have HB8:=hid (cx O7.out.below hb8);clear hb8 O7 hst hvt;unfold jc jd;dsimp only[mB];go_wp2
   go_roundw
   case rel=>exact⟨4,by go_num,by decide,hid ((HB8.out.alloc HB8.out.size _).alloc (by have:=HB8.out.size;simp;omega) _)⟩
   case measure=>simp[intOf]
  ·go_wp2_with fail
   refine(lO w wr HB.out).mono ?_;rintro e w2 ⟨p,b,rfl,o2⟩;have O2:=hid o2;clear o2
   go_wp2_with fail
   refine(eK w2 p b seT O2.out.dk 4 (by omega) (by omega)).mono ?_;rintro e w3 ⟨rfl,hd3,hf3⟩;rw[hG.2.2.1];have O3:=hid (O2.out.op hd3 hf3);clear hd3 hf3 O2
   go_wp2_with fail
   refine(kX 50 _).mono ?_;rintro e w4 ⟨rfl,hb4⟩;have O4:=hid (O3.out.pure hb4);clear hb4 O3;unfold stV
   go_wp2_with fail
   refine(show Calls Tryz.prog 14 #[.pointer (some ⟨p,0,none⟩),.int .i64 5,.agg #[.int .i64 50,.int .i64 0,.int .i64 1,.int .i64 1,.slice none 0 0,.slice none 0 0,.slice none 0 0,.slice none 0 0,.slice none 0 0],.agg #[.slice none 0 0,.slice none 0 0,.slice none 0 0,.slice none 0 0]] w4 _ from yQ O4.out HL.out 5 50 (by omega) (by omega)).mono ?_;rintro e w5 ⟨rfl,o5⟩;have O5:=hid (show Own27 w w5 p b (seK 4).1 from o5);rw[show(gV (eJ seT 4).1 ((5:Nat):Int) (gX 5 50,0)).2=(seK 4).2 from rfl];clear o5 O4;rw[hG.2.2.2.2.2]
   go_wp2_with fail
   have hal:Below w5.heap.size w5 (w5.alloc (.cells #[.int .i64 99] 3)):=(Below.refl _ _).alloc (Nat.le_refl _) _;have o6:=O5.out.pure hal;have hpl:=O5.out.dk.lt;have hbl:=O5.out.dk.own.lt;refine(gO _ p b (seK 4).1 o6.dk (.slice (some ⟨w5.heap.size,0,none⟩) 1 1) [99] ⟨_,1,rfl,by simp,.inr ⟨w5.heap.size,0,rfl,λi hi=>by
    obtain rfl:i=0:=by simpa using hi
    exact(World.cell?_alloc_at _ _ _ _ rfl).trans rfl⟩⟩ (λg e=>by cases e;exact⟨by show w5.heap.size≠p;omega,by show w5.heap.size≠b;omega⟩)).mono ?_
   rintro e w7 ⟨rfl,hd7,hf7⟩;have O7:=hid (show Own27 w w7 p b (seX 4)from o6.op hd7 hf7);clear hal o6 hpl hbl hd7 hf7 O5
   go_wp2_with fail
   refine(xw O7.out HL.out 5).mono ?_;rw[yW];rintro e w8 ⟨⟨sv,dv,rfl,hst,hvt⟩,hb8⟩;dsimp only at hst hvt ⊢;obtain⟨s4,s5,s6,s7,s8⟩:=sv;obtain⟨sa4,sm4,sc4,rfl⟩:∃a m c,s4=Value.slice a m c:=by obtain⟨a,c,h⟩:=hst.a.shape;exact⟨a,_,c,h⟩
   obtain⟨sa5,sm5,sc5,rfl⟩:∃a m c,s5=Value.slice a m c:=by obtain⟨a,c,h⟩:=hst.i.shape;exact⟨a,_,c,h⟩
   obtain⟨sa6,sm6,sc6,rfl⟩:∃a m c,s6=Value.slice a m c:=by obtain⟨a,c,h⟩:=hst.r.shape;exact⟨a,_,c,h⟩
   obtain⟨sa7,sm7,sc7,rfl⟩:∃a m c,s7=Value.slice a m c:=by obtain⟨a,c,h⟩:=hst.o.shape;exact⟨a,_,c,h⟩
   obtain⟨sa8,sm8,sc8,rfl⟩:∃a m c,s8=Value.slice a m c:=by obtain⟨a,c,h⟩:=hst.u.shape;exact⟨a,_,c,h⟩
   obtain⟨d0,d1,d2,d3⟩:=dv;obtain⟨da0,dm0,dc0,rfl⟩:∃a m c,d0=Value.slice a m c:=by obtain⟨a,c,h⟩:=hvt.o.shape;exact⟨a,_,c,h⟩
   obtain⟨da1,dm1,dc1,rfl⟩:∃a m c,d1=Value.slice a m c:=by obtain⟨a,c,h⟩:=hvt.l.shape;exact⟨a,_,c,h⟩
   obtain⟨da2,dm2,dc2,rfl⟩:∃a m c,d2=Value.slice a m c:=by obtain⟨a,c,h⟩:=hvt.p.shape;exact⟨a,_,c,h⟩
   obtain⟨da3,dm3,dc3,rfl⟩:∃a m c,d3=Value.slice a m c:=by obtain⟨a,c,h⟩:=hvt.n.shape;exact⟨a,_,c,h⟩
   have HB8:=hid (cx O7.out.below hb8);clear hb8 O7 hst hvt;unfold jc jd;dsimp only[stE];go_wp2
   go_roundw
   case rel=>exact⟨5,by go_num,by decide,hid ((HB8.out.alloc HB8.out.size _).alloc (by have:=HB8.out.size;simp;omega) _)⟩
   case measure=>simp[intOf]
  ·go_wp2
   go_ret;exact⟨rfl,HB.out⟩
def yY (w:World)(e:Ending)(w':World):Prop:=(∃bo,e = .returned (.bool bo))∧Below w.heap.size w w'
theorem yZ (w:World)(q:Nat):Below w.heap.size w (w.drewN q):=⟨rfl,rfl,rfl,Nat.le_refl _,λ_ _=>rfl⟩
set_option maxRecDepth 100000 in
theorem za (w:World)(sv:Value)(l:Fs)(hl:FilesAt w sv l)(hlen:l.length≤4398046511104) :
  Calls Tryz.prog 5 #[sv] w λe w'=>yY w e w':=by
 obtain⟨a,c,rfl⟩:=hl.shape;have HS:=hid hl;clear hl
 go_enter Tryz.func5,Tryz.ntmps5
 go_wp2
 go_loopw [3,4] (λn i wr=>∃(k:Nat) (m:Int),i = .int .i64 k∧k≤l.length∧n = .int .i64 m∧0≤m∧m≤300000∧∃q,wr=w.drewN q) (λ_ i _=>l.length-(intOf i).toNat)
 case atStart=>exact⟨0,0,rfl,by omega,rfl,by omega,by omega,0,rfl⟩
 case round=>
  obtain⟨k,m,rfl,hk,rfl,hm0,hm1,q,rfl⟩:=hrel;have hb:Below w.heap.size w (w.drewN q):=yZ w q;by_cases hlt:k<l.length
  ·by_cases hm:m≤30000
   ·obtain⟨b,o,rfl,hbl,x,y,z,e1,e2,e3,h1,h2,h3⟩:=HS.out.at k hlt
    clear e1 e2 e3;go_wp2
    go_quiet (fail)
    go_wp2
    go_roundw
    case rel=>exact⟨k+1,_,by go_num,by omega,rfl,by omega,by omega,_,rfl⟩
    case measure=>simp[intOf];omega
   ·go_wp2
    go_ret;exact⟨⟨_,rfl⟩,hb⟩
  ·go_wp2
   go_ret;exact⟨⟨_,rfl⟩,hb⟩
end
section
open Go.RowKit
end
end Go.Proofs.YtaeakdichkhjaaaGreatDoor
