/- slices.Compact of numbers: how many are left. -/
import Derived.Test.YtaeakdichkhjaaaGreatDoorQAv
import Derived.Laws.EntriesVeiled
import Derived.Test.YtaeakdichkhjaaaGreatDoorQAx
import Derived.Test.YtaeakdichkhjaaaGreatDoorQAm
import Derived.Lib.LazyBuf
import Derived.Deep.QuietTactic
import Derived.BigQuiet
import Derived.Lib.SliceRun
import Derived.Test.YtaeakdichkhjaaaGreatDoorQAh
set_option maxHeartbeats 8000000
open Go.Lib(hid)
namespace Go.Proofs.YtaeakdichkhjaaaGreatDoor
section
open Go.RowKit
set_option maxRecDepth 100000 in
theorem sc (F:Nat→Prop)(w:World)(B:Nat)(v:StV)(s:StD)(h:StBox F w B v s)(hti:∀x∈s.insts,1≤x.tick∧x.tick≤1073741824)(o:OrdD)(hpr:0≤o.price∧o.price≤1073741824) :
  Calls Tryz.prog 287 #[o.agg,.pointer (some ⟨B,0,none⟩)] w λe w'=>TB (¬jE s o) e∧Below w.heap.size w w':=by
 have HO:=hid (λW (hb:Below w.heap.size w W)=>kk F W v s (h.at_.pure hb) h.la o.acct);have HI:=hid (λW (hb:Below w.heap.size w W)=>ko F W v s (h.at_.pure hb) h.li o.inst);obtain⟨va,vi,vr,vo,vu⟩:=v;have H:=hid h;have HTI:=hid hti;clear h hti;unfold OrdD.agg;unfold jc at HO HI;have x0:w.cell? ⟨B,0,none⟩=some (.int .i64 s.clock):=H.out.cs 0 _ rfl;have x1:w.cell? ⟨B,1,none⟩=some (.int .i64 s.fee):=H.out.cs 1 _ rfl;have x2:w.cell? ⟨B,2,none⟩=some (.int .i64 s.nextO):=H.out.cs 2 _ rfl;have x3:w.cell? ⟨B,3,none⟩=some (.int .i64 s.nextA):=H.out.cs 3 _ rfl;have x4:w.cell? ⟨B,4,none⟩=some va:=H.out.cs 4 _ rfl;have x5:w.cell? ⟨B,5,none⟩=some vi:=H.out.cs 5 _ rfl;have x6:w.cell? ⟨B,6,none⟩=some vr:=H.out.cs 6 _ rfl;have x7:w.cell? ⟨B,7,none⟩=some vo:=H.out.cs 7 _ rfl;have x8:w.cell? ⟨B,8,none⟩=some vu:=H.out.cs 8 _ rfl;have hBl:B<w.heap.size:=aA x0
 go_enter Tryz.func287,Tryz.ntmps287
 go_wp2_with fail
 refine(HI.out _ (ke _ _)).mono ?_;rintro e w1 ⟨hp,hb1⟩;have HB1:=hid (kc hb1);have r0:=ka hb1 0 _ rfl;have r1:=ka hb1 1 _ rfl;have r4:=ka hb1 4 _ rfl;have y:=λj u (h:w.cell? ⟨B,j,none⟩=some u)=>(HB1.out.cell (p:=⟨B,j,none⟩) hBl).trans h;have y2:=y 2 _ x2;have z0:=y 0 _ x0;have z1:=y 1 _ x1;have z3:=y 3 _ x3;have z4:=y 4 _ x4;have z5:=y 5 _ x5;have z6:=y 6 _ x6;have z7:=y 7 _ x7;have z8:=y 8 _ x8;have hnl:w.heap.size<w1.heap.size:=aA r0;have hB1l:B<w1.heap.size:=aA y2;clear hb1 y x0 x1 x2 x3 x4 x5 x6 x7 x8;have fin:∀(ix:InsD) (is:Bool),(is=true→jq s.insts o.inst ix)→(is=false→¬jr s.insts o.inst)→True:=λ_ _ _ _=>trivial;clear fin
 rcases hp with⟨ix,hix,rfl⟩|⟨hno,rfl⟩
 ·have HIX:=hid hix
  have htk:=HTI.out ix (List.mem_of_getElem? hix.2);obtain⟨nm,tk,ht⟩:=ix;unfold InsD.agg;dsimp only at htk ⊢;clear hix;by_cases hidq:s.nextO≤o.id
  ·have hno:¬jE s o:=λh=>by have:=h.1;omega
   have HNO:=hid hno;clear hno;go_wp2;go_ret;exact⟨TB.yes HNO.out,(by have HB:=HB1;repeat (first|exact Below.refl _ _|exact HB.out|refine Below.drew ?_|refine Below.alloc ?_ (by first|exact Nat.le_refl _|exact HB.out.size|(simp;done)|(simp;omega)|omega|(have:=HB.out.size;simp;omega)) _|refine Below.setCell ?_ (by first|exact Nat.le_refl _|exact HB.out.size|(simp;done)|(simp;omega)|omega|(have:=HB.out.size;simp;omega)) _))⟩
  ·go_wp2_with fail
   refine(HO.out _ (by have HB:=HB1;repeat (first|exact Below.refl _ _|exact HB.out|refine Below.drew ?_|refine Below.alloc ?_ (by first|exact Nat.le_refl _|exact HB.out.size|(simp;done)|(simp;omega)|omega|(have:=HB.out.size;simp;omega)) _|refine Below.setCell ?_ (by first|exact Nat.le_refl _|exact HB.out.size|(simp;done)|(simp;omega)|omega|(have:=HB.out.size;simp;omega)) _))).mono ?_;rintro e w2 ⟨⟨b,hb,rfl⟩,hb2⟩;have HX:=hid hb;have t1:=ka hb2 1 _ rfl;have hb3:=kc hb2;have HB2:=hid (kd HB1.out hb3);have q4:=(hb3.cell (p:=⟨w.heap.size,4,none⟩) hnl).trans r4;clear hb hb2 hb3;cases b
   ·have hno:¬jE s o:=λh=>by have:=HX.out.2 h.2.1;cases this
    have HNO:=hid hno;clear hno;go_wp2;go_ret;exact⟨TB.yes HNO.out,HB2.out⟩
   ·have htz:¬tk=0:=by omega
    have htz2:(tk == 0)=false:=by simpa using htz
    by_cases hm:o.price.tmod tk=0
    ·have HY:=hid (show jE s o from⟨by omega,HX.out.1 (by first|rfl|trivial),⟨nm,tk,ht⟩,HIX.out,hm⟩)
     have hm2:(o.price % tk != 0)=false:=by rw[← Int.tmod_eq_emod_of_nonneg hpr.1];simpa using hm
     go_wp2;go_ret;exact⟨TB.no (not_not_intro HY.out),HB2.out⟩
    ·have hno:¬jE s o:=λh=>by
      obtain⟨x,hx,he⟩:=h.2.2;have hxe:=hx.2.symm.trans HIX.out.2;obtain rfl:=Option.some.inj hxe;exact hm he
     have HNO:=hid hno;have hm2:(o.price % tk != 0)=true:=by rw[← Int.tmod_eq_emod_of_nonneg hpr.1];simpa using hm
     clear hno;go_wp2;go_ret;exact⟨TB.yes HNO.out,HB2.out⟩
 ·have hbad:¬jE s o:=λh=>by
   obtain⟨x,hx,_⟩:=h.2.2;exact hno (kn hx)
  have HNO:=hid hbad;clear hbad hno;by_cases hidq:s.nextO≤o.id
  ·go_wp2
   go_ret;exact⟨TB.yes HNO.out,(by have HB:=HB1;repeat (first|exact Below.refl _ _|exact HB.out|refine Below.drew ?_|refine Below.alloc ?_ (by first|exact Nat.le_refl _|exact HB.out.size|(simp;done)|(simp;omega)|omega|(have:=HB.out.size;simp;omega)) _|refine Below.setCell ?_ (by first|exact Nat.le_refl _|exact HB.out.size|(simp;done)|(simp;omega)|omega|(have:=HB.out.size;simp;omega)) _))⟩
  ·go_wp2_with fail
   refine(HO.out _ (by have HB:=HB1;repeat (first|exact Below.refl _ _|exact HB.out|refine Below.drew ?_|refine Below.alloc ?_ (by first|exact Nat.le_refl _|exact HB.out.size|(simp;done)|(simp;omega)|omega|(have:=HB.out.size;simp;omega)) _|refine Below.setCell ?_ (by first|exact Nat.le_refl _|exact HB.out.size|(simp;done)|(simp;omega)|omega|(have:=HB.out.size;simp;omega)) _))).mono ?_;rintro e w2 ⟨⟨b,hb,rfl⟩,hb2⟩;have hb3:=kc hb2;have HB2:=hid (kd HB1.out hb3);clear hb hb2 hb3;cases b<;>(go_wp2;go_ret;exact⟨TB.yes HNO.out,HB2.out⟩)
set_option maxRecDepth 100000 in
theorem se (F:Nat→Prop)(w:World)(v:StV)(s:StD)(h:StAt F w v s)(la:s.accts.length≤4398046511104)(li:s.insts.length≤4398046511104)(lo:s.ords.length≤4398046511104)(hti:∀x∈s.insts,1≤x.tick∧x.tick≤1073741824) :
  Calls Tryz.prog 260 #[.agg (jc s v)] w λe w'=>TB (jF s) e∧Below w.heap.size w w':=by
 obtain⟨B,hB⟩:∃B,B=w.heap.size:=⟨_,rfl⟩;have hbox:StBox F (w.alloc (.cells (jc s v) 29)) B v s:=⟨by rw[hB];exact heap_alloc_new _ _,h.pure (ke _ _),la,li⟩;have HBX:=hid hbox;have HL:=hid (rt F (w.alloc (.cells (jc s v) 29)) v.o s.ords hbox.at_.o lo);have HCT:=hid (λW (hb:Below (w.alloc (.cells (jc s v) 29)).heap.size (w.alloc (.cells (jc s v) 29)) W) (hall:∀o∈s.ords,jB o)=>nk W F v.o s.ords ((hbox.pure hb).at_.o) lo 287 (.pointer (some ⟨B,0,none⟩)) (enters_of Tryz.func287 (by kernel_rfl) rfl) (λo=>tf (¬jE s o)) (λW2 k hk hb2=>(sc F W2 B v s ((hbox.pure hb).pure hb2) hti s.ords[k] (by have:=hall _ (List.getElem_mem hk);unfold jB ji at this;omega)).mono (by rintro e w' ⟨h1,h2⟩;exact⟨h1.tf,h2⟩)));have HBB:=hid hB;have hmf:∀(fn:Fn) (first cap:Array Value) (w:World),(Instr.makeFunc fn first cap).run Tryz.prog w = .ok (.func fn first cap) w:=λ_ _ _ _=>rfl;have hgo:∀C,C=jc s v→Calls Tryz.prog 260 #[.agg C] w λe w'=>TB (jF s) e∧Below w.heap.size w w':=by
  intro C hC;rw[← hC]at HL HCT;clear hbox h HBX;obtain⟨va,vi,vr,vo,vu⟩:=v;unfold jc at hC;dsimp only at hC HL HCT;subst hC
  go_enter Tryz.func260,Tryz.ntmps260
  go_wp2_with fail
  refine HL.out.mono ?_;rintro e w1 ⟨⟨b,hb,rfl⟩,hb1⟩;have HX:=hid hb;have HB1:=hid hb1;have HB:=hid (kc hb1);have c6:=ka hb1 7 _ rfl;clear hb hb1;cases b
  ·have hno:¬jF s:=λh=>by have:=HX.out.2 h.1;cases this
   have HNO:=hid hno;clear hno;go_wp2;go_ret;exact⟨TB.no HNO.out,HB.out⟩
  ·have HOK:=hid (HX.out.1 (by first|rfl|trivial))
   have HCC:=hid (HCT.out w1 HB1.out HOK.out.2.1);have HE:=HBB.out;subst HE
   go_wp2_with fail
   refine HCC.out.mono ?_;rintro e w2 ⟨rfl,hb2⟩;have HB2:=hid (kd HB.out hb2);clear hb2;cases hany:s.ords.any (λr=>tf (¬jE s r))
   ·have HY:=hid (show jF s from⟨HOK.out,Classical.byContradiction λh=>by have:=rr.2 h;rw[hany]at this;cases this⟩)
    clear hany;go_wp2;go_ret;exact⟨TB.yes HY.out,HB2.out⟩
   ·have hno:¬jF s:=λh=>rr.1 hany h.2
    have HNO:=hid hno;clear hno hany;go_wp2;go_ret;exact⟨TB.no HNO.out,HB2.out⟩
 exact hgo _ rfl
structure StLim (s:StD):Prop where
 la:s.accts.length≤4398046511104
 li:s.insts.length≤4398046511104
 lr:s.rows.length≤4398046511104
 lo:s.ords.length≤4398046511104
 lu:s.aucs.length≤4398046511104
 lb:∀a∈s.aucs,a.bids.length≤4398046511104
 na:∀x∈s.accts,x.name.length≤140737488355328
 ni:∀x∈s.insts,x.name.length≤140737488355328
 ri:qW s.rows
def sf (s:StD):Nat→Prop
 | 0=>jm s
 | 1=>jn s
 | 2=>jo s
 | 3=>jA s
 | 4=>jF s
 | 5=>jM s
 | _=>jV s
theorem sg (s:StD):jW s↔∀j,j<7→sf s j:=by
 unfold jW;constructor
 ·rintro⟨h0,h1,h2,h3,h4,h5,h6⟩ j hj
  match j,hj with
  | 0,_=>exact h0
  | 1,_=>exact h1
  | 2,_=>exact h2
  | 3,_=>exact h3
  | 4,_=>exact h4
  | 5,_=>exact h5
  | 6,_=>exact h6
 ·intro h
  exact⟨h 0 (by omega),h 1 (by omega),h 2 (by omega),h 3 (by omega),h 4 (by omega),h 5 (by omega),h 6 (by omega)⟩
theorem si:∀(n:Int) (l:List AucD),jJ n l→∀a∈l,jI a
 | _,[],_,a,h=>by cases h
 | _,b::t,hg,a,h=>by
  rcases List.mem_cons.1 h with rfl|h
  ·exact hg.2.1
  ·exact si _ t hg.2.2 a h
def sj:Array Value:=#[.string ⟨#[110,117,109,98,101,114,115]⟩,.func (.func 256) #[] #[],.string ⟨#[97,99,99,111,117,110,116,115]⟩,.func (.func 257) #[] #[],
 .string ⟨#[105,110,115,116,114,117,109,101,110,116,115]⟩,.func (.func 258) #[] #[],.string ⟨#[114,111,119,115]⟩,.func (.func 259) #[] #[],
 .string ⟨#[111,114,100,101,114,115]⟩,.func (.func 260) #[] #[],.string ⟨#[97,117,99,116,105,111,110,115]⟩,.func (.func 261) #[] #[],
 .string ⟨#[104,101,108,100]⟩,.func (.func 262) #[] #[]]
set_option maxRecDepth 100000 in
theorem sm (w:World):Calls Tryz.prog 217 #[] w λe w'=>e = .returned (.slice (some ⟨w.heap.size,0,none⟩) 7 7)∧w'=w.alloc (.cells sj 295):=by
 go_enter Tryz.func217,Tryz.ntmps217
 go_wp2;go_ret;exact⟨rfl,rfl⟩
theorem sn (k:Nat)(hk:k<7)(F:Nat→Prop)(v:StV)(s:StD)(L:StLim s)(hb4:∀j,j<k→sf s j):∃(fk:FuncId) (nm:ByteArray),Enters Tryz.prog fk∧sj[k*2]?=some (.string nm)∧sj[k*2+1]?=some (.func (.func fk) #[] #[])∧nm≠⟨#[]⟩ ∧
  ∀w:World,StAt F w v s→(∀g,F g→g<w.heap.size)→Calls Tryz.prog fk #[.agg (jc s v)] w λe w'=>TB (sf s k) e∧Below w.heap.size w w':=by
 match k,hk with
 | 0,_=>exact⟨_,_,enters_of Tryz.func256 (by kernel_rfl) rfl,rfl,rfl,by decide,λw _ _=>kh w v s⟩
 | 1,_=>exact⟨_,_,enters_of Tryz.func257 (by kernel_rfl) rfl,rfl,rfl,by decide,λw h _=>nK F w v s h L.la L.na⟩
 | 2,_=>exact⟨_,_,enters_of Tryz.func258 (by kernel_rfl) rfl,rfl,rfl,by decide,λw h _=>nL F w v s h L.li L.ni⟩
 | 3,_=>exact⟨_,_,enters_of Tryz.func259 (by kernel_rfl) rfl,rfl,rfl,by decide,λw h _=>rv F w v s h L.la L.li L.lr L.ri⟩
 | 4,_=>exact⟨_,_,enters_of Tryz.func260 (by kernel_rfl) rfl,rfl,rfl,by decide,λw h _=>se F w v s h L.la L.li L.lo (hb4 2 (by omega)).1⟩
 | 5,_=>exact⟨_,_,enters_of Tryz.func261 (by kernel_rfl) rfl,rfl,rfl,by decide,λw h _=>rQ F w v s h L.la L.li L.lu L.lb⟩
 | 6,_=>exact⟨_,_,enters_of Tryz.func262 (by kernel_rfl) rfl,rfl,rfl,by decide,λw h hF=>rZ F w v s h hF (hb4 4 (by omega)).1.2.1 (si _ _ (hb4 5 (by omega)).1.1) L.lr L.lo L.lu L.lb⟩
set_option maxRecDepth 100000 in
theorem sq (F:Nat→Prop)(w:World)(v:StV)(s:StD)(L:StLim s)(hat:StAt F w v s)(hF:∀g,F g→g<w.heap.size):Calls Tryz.prog 167 #[.agg (jc s v)] w λe w'=>(∃nm,e = .returned (.string nm)∧(nm=⟨#[]⟩↔jW s))∧Below w.heap.size w w':=by
 have HAT:=hid hat;have HFF:=hid hF;clear hat hF;obtain⟨C,hC⟩:∃C,C=jc s v:=⟨_,rfl⟩;have HRU:=hid (λk hk=>sn k hk F v s L);obtain⟨va,vi,vr,vo,vu⟩:=v;unfold jc at hC HRU ⊢;dsimp only at hC HRU ⊢;rw[← hC]at HRU
 go_enter Tryz.func167,Tryz.ntmps167
 go_wp2_with fail
 refine(sm _).mono ?_;rintro e w1 ⟨rfl,rfl⟩;obtain⟨b,hb⟩:∃b,b=w.heap.size:=⟨_,rfl⟩;obtain⟨W0,hW0⟩:∃W0,W0=(w.alloc (.cells C 29)).alloc (.cells sj 295):=⟨_,rfl⟩;have hsz:W0.heap.size=b+2:=by rw[hW0,hb];simp
 have k0:W0.heap[b]?=some (.cells C 29 (0,0)):=by rw[hW0,hb];exact(Below.heap_alloc _ _ _ (by simp)).trans (heap_alloc_new _ _)
 have k1:W0.heap[b+1]?=some (.cells sj 295 (0,0)):=by rw[hW0,hb];exact cj _ _ (by simp)
 have hbel:Below w.heap.size w W0:=by rw[hW0];exact((Below.refl _ _).alloc (Nat.le_refl _) _).alloc (by simp) _
 have HA0:=hid (HAT.out.pure hbel);have HFB:Hid (∀g,F g→g<W0.heap.size):=hid (λg hg=>by have:=HFF.out g hg;omega);have K0:=hid k0;have K1:=hid k1;have HB:=hid hbel
 try simp only[World.size_alloc]
 rw[← hC,← hW0,← hb];have HBS:=hid hb;have HC:=hid hC;clear hW0 hb k0 k1 hbel hC HAT HFF;go_wp2
 go_loopw [7] (λi wr=>∃k:Nat,i = .int .i64 k∧k≤7∧Hid (Below W0.heap.size W0 wr)∧Hid (∀j,j<k→sf s j)) (λi _=>7-(intOf i).toNat)
 case atStart=>exact⟨0,rfl,by omega,hid (Below.refl _ _),hid (λj h=>absurd h (Nat.not_lt_zero _))⟩
 case round=>
  obtain⟨k,rfl,hk,HF,HJ⟩:=hrel;by_cases hlt:k<7
  ·obtain⟨fk,nm,hent,ha1,ha2,hnm,hcon⟩:=HRU.out k hlt HJ.out
   have he:∀(args:Array Value) (w:World),(callFunc fk args).run Tryz.prog w = .ok (.enter fk args) w:=hent;have r1:=(HF.out.block _ (lt_of_block K1.out)).trans K1.out;have r0:=(HF.out.block _ (lt_of_block K0.out)).trans K0.out;have g1:wr.cell? ⟨b+1,k*2,none⟩=some (.string nm):=(cell_of_row _ _ _ _ _ _ r1).trans ha1;have g2:wr.cell? ⟨b+1,k*2+1,none⟩=some (.func (.func fk) #[] #[]):=(cell_of_row _ _ _ _ _ _ r1).trans ha2;have HX:=hid (λj v (h:C[j]?=some v)=>((cell_of_row _ _ _ _ _ _ r0).trans h:wr.cell? ⟨b,j,none⟩=some v));rw[HC.out]at HX;have x0:=HX.out 0 _ rfl;have x1:=HX.out 1 _ rfl;have x2:=HX.out 2 _ rfl;have x3:=HX.out 3 _ rfl;have x4:=HX.out 4 _ rfl;have x5:=HX.out 5 _ rfl;have x6:=HX.out 6 _ rfl;have x7:=HX.out 7 _ rfl;have x8:=HX.out 8 _ rfl;have HNM:=hid hnm;have hwz:W0.heap.size≤wr.heap.size:=HF.out.size;have hbl:b<wr.heap.size:=aA x0;have hbl1:b+1<wr.heap.size:=aA g1;have hcon2:=hcon (wr.alloc (.cells #[.string nm,.func (.func fk) #[] #[]] 295)) (HA0.out.pure (HF.out.alloc hwz _)) (λg hg=>by have:=HFB.out g hg;simp;omega);rw[HC.out]at hcon2;have HCON:=hid hcon2;have gn1:∀W:World,Below (wr.alloc (.cells #[.string nm,.func (.func fk) #[] #[]] 295)).heap.size (wr.alloc (.cells #[.string nm,.func (.func fk) #[] #[]] 295)) W→W.cell? ⟨wr.heap.size,0,none⟩=some (.string nm):=λW h=>ka h 0 _ rfl;have GN:=hid gn1;clear r0 r1 hent ha1 ha2 hcon hcon2 hnm gn1
   go_wp2_with fail
   refine HCON.out.mono ?_;rintro e w4 ⟨h4,hb4⟩;have HF4:=hid ((HF.out.alloc hwz _).trans (hb4.mono (by simp;omega)));have cn:=GN.out w4 hb4;clear hb4;by_cases hr:sf s k
   ·obtain rfl:=h4.pos hr
    have HJ2:=hid (show ∀j,j<k+1→sf s j from λj hj=>by
     rcases Nat.lt_succ_iff_lt_or_eq.1 hj with h|rfl
     ·exact HJ.out j h
     ·exact hr)
    clear h4 hr;go_wp2
    go_roundw
    case rel=>exact⟨k+1,by go_num,by omega,HF4,HJ2⟩
    case measure=>simp[intOf];omega
   ·obtain rfl:=h4.neg hr
    have HNO:=hid (show ¬jW s from λh=>hr ((sg s).1 h k hlt));clear h4 hr;go_wp2;go_ret;exact⟨⟨_,rfl,⟨λh=>absurd h HNM.out,λh=>absurd h HNO.out⟩⟩,HB.out.trans (HF4.out.mono (by have:=HBS.out;omega))⟩
  ·have HYES:=hid (show jW s from(sg s).2 (λj hj=>HJ.out j (by omega)))
   go_wp2;go_ret;exact⟨⟨_,rfl,⟨λ_=>HYES.out,λ_=>rfl⟩⟩,HB.out.trans (HF.out.mono (by have:=HBS.out;omega))⟩
set_option maxRecDepth 100000 in
theorem su (F:Nat→Prop)(w:World)(v:StV)(s:StD)(L:StLim s)(hat:StAt F w v s)(hF:∀g,F g→g<w.heap.size):Calls Tryz.prog 109 #[.agg (jc s v)] w λe w'=>TB (jW s) e∧Below w.heap.size w w':=by
 have HCK:=hid (sq F (w.alloc (.cells (jc s v) 29)) v s L (hat.pure (ke _ _)) (λg hg=>by have:=hF g hg;simp;omega));clear hat hF;obtain⟨va,vi,vr,vo,vu⟩:=v;unfold jc at HCK ⊢;dsimp only at HCK ⊢
 go_enter Tryz.func109,Tryz.ntmps109
 go_wp2_with fail
 refine HCK.out.mono ?_;rintro e w1 ⟨⟨nm,rfl,hnm⟩,hb1⟩;have HB:=hid (kc hb1);have HN:=hid hnm;clear hb1 hnm;go_wp2;go_ret;refine⟨⟨_,?_,rfl⟩,HB.out⟩;rw[← HN.out];simp only[List.isEmpty_iff,ByteArray.toList_eq];obtain⟨⟨l⟩⟩:=nm;simp
end
section
open Go.RowKit Go.Shelf
theorem sw {w:World}{nb:Nat}:∀{vs:List Value} {wr:World} (_:Fr (λk=>k=nb) w wr) (o:Nat) (vs':List Value),vs'=vs→Fr (λk=>k=nb) w (wr.setCells nb o vs')
 | [],_,h,_,_,e=>by subst e;exact h
 | v::r,wr,h,o,_,e=>by subst e;exact sw (vs:=r) (h.setCell ⟨nb,o,none⟩ (λ_=>rfl) v) (o+1) r rfl
set_option maxRecDepth 100000 in
theorem sy (w:World)(g c N:Nat)(xs:List Int)(f:Nat→Value)(hrow:w.rowIs g 2 N f)(hf:∀i (h:i<xs.length),f i = .int .i64 xs[i])(hN:xs.length≤N)(hc:xs.length≤c)(hl:xs.length≤4398046511104) :
  Calls Tryz.prog 224 #[.slice (some ⟨g,0,none⟩) xs.length c] w λe w'=>
   (∃m c2:Nat,e = .returned (.slice (some ⟨g,0,none⟩) m c2)∧(m=xs.length↔∀j (h:j+1<xs.length),xs[j+1]≠xs[j])∧m≤xs.length)∧Fr (λk=>k=g) w w':=by
 have HR:=hid hrow;have HF:=hid hf;clear hrow hf;obtain⟨P,hP⟩:∃P,P=∀j (h:j+1<xs.length),xs[j+1]≠xs[j]:=⟨_,rfl⟩;rw[← hP];have HP:=hid hP;clear hP;by_cases h2:xs.length<2
 ·have HY:=hid (show P from by rw[HP.out];intro j h;omega)
  have hd:decide ((xs.length:Int)<2)=true:=by simp;omega
  go_enter Tryz.func224,Tryz.ntmps224
  go_wp2;go_ret;exact⟨⟨_,_,rfl,⟨λ_=>HY.out,λ_=>rfl⟩,Nat.le_refl _⟩,Fr.refl _ _⟩
 ·have hd:decide ((xs.length:Int)<2)=false:=by simp;omega
  go_enter Tryz.func224,Tryz.ntmps224
  go_wp2
  go_loopw [3] (λiv wr=>∃p:Nat,iv = .int .i64 ((p:Int)+1)∧p+1≤xs.length∧Hid (Below w.heap.size w wr)∧Hid (∀j (h:j+1<xs.length),j<p→xs[j+1]≠xs[j])) (λiv _=>xs.length-(intOf iv).toNat)
  case atStart=>exact⟨0,rfl,by omega,hid (Below.refl _ _),hid (λj _ h=>absurd h (Nat.not_lt_zero _))⟩
  case round=>
   obtain⟨p,rfl,hp,HB,HD⟩:=hrel;by_cases hlt:p+1<xs.length
   ·have hrw:wr.rowIs g 2 N f:=HR.out.of_block (HB.out.block g HR.out.lt)
    have c0:wr.cell? ⟨g,p,none⟩=some (.int .i64 xs[p]):=by rw[hrw.cell (by omega),HF.out p (by omega)]
    have c1:wr.cell? ⟨g,p+1,none⟩=some (.int .i64 xs[p+1]):=by rw[hrw.cell (by omega),HF.out (p+1) hlt]
    obtain⟨x,hx⟩:∃x,x=xs[p]:=⟨_,rfl⟩;obtain⟨y,hy⟩:∃y,y=xs[p+1]:=⟨_,rfl⟩;rw[← hx]at c0;rw[← hy]at c1;have hi4:wrap64 ((p:Int)+1-1)=(p:Int):=by unfold wrap64;omega
    have hi5:IntKind.i64.wrap ((p:Int)+1-1)=(p:Int):=by rw[IntKind.wrap_i64];omega
    have hi0:(0:Int)≤(p:Int):=by omega
    have hi1:(p:Int)<(xs.length:Int):=by omega
    have hi2:(p:Int)+1<(xs.length:Int):=by omega
    have hi3:(0:Int)≤(p:Int)+1:=by omega
    have HX:=hid (And.intro hx hy);have HRW:=hid hrw;clear hx hy hrw;by_cases hxy:y=x
    ·have hq:(y == x)=true:=by simpa using hxy
     have HNO:=hid (show ¬P from λh=>by rw[HP.out]at h;exact h p hlt (by rw[← HX.out.1,← HX.out.2];exact hxy));clear hxy;go_wp2
     go_quiet (fail)
     have HFW:=hid (show Fr (λk=>k=g) w (wr.drewN nq)from(Fr.pure (S:=λk=>k=g) HB.out).trans ⟨rfl,rfl,rfl,Nat.le_refl _,λ_ _ _=>rfl⟩);have HR2:=hid (show(wr.drewN nq).rowIs g 2 N f from HRW.out)
     generalize wr.drewN nq=w2 at *
     clear c0 c1 hi4 hi5 hi1 hi3;obtain⟨i0,hi0'⟩:∃i0:Nat,i0=p+1:=⟨_,rfl⟩;have hcast:((p:Int)+1)=(i0:Int):=by omega
     have HI0:=hid hi0';have hlt0:i0<xs.length:=by omega
     rw[hcast]at *;rw[← hi0'];clear HX HD;clear hi0' hcast hi0 hlt hi2 hp;have hsl0:(0:Int)≤(i0:Int):=by omega
     have hsl1:(i0:Int)≤(c:Int):=by omega
     obtain⟨d0,hd0⟩:∃d0,xs.length=i0+(d0+1):=⟨xs.length-i0-1,by omega⟩;have HD0:=hid hd0;have hsub:((xs.length-i0:Nat):Int)=(d0:Int)+1:=by omega
     have hsub2:xs.length-i0=d0+1:=by omega
     clear hd0;go_wp2
     go_loopw [3,5] (λiv kv wr=>∃(i q:Nat) (f':Nat→Value),iv = .int .i64 (i:Int)∧kv = .int .i64 ((q:Int)+1)∧q≤d0∧i0≤i∧i≤i0+q∧Hid (∀t,t<xs.length→∃y,f' t = .int .i64 y)∧Hid (wr.rowIs g 2 N f')∧Hid (Fr (λk=>k=g) w wr)) (λ_ kv _=>xs.length-(intOf kv).toNat)
     case atStart=>exact⟨i0,0,f,rfl,rfl,by omega,by omega,by omega,hid (λt ht=>⟨_,HF.out t ht⟩),HR2,HFW⟩
     case round=>
      obtain⟨i,q,f',rfl,rfl,hq1,hi1,hi2,HIN,HRR,HFR⟩:=hrel;by_cases hql:q<d0
      ·obtain⟨x1,hx1⟩:=HIN.out (i0+q) (by have:=HD0.out;omega)
       obtain⟨y1,hy1⟩:=HIN.out (i0+q+1) (by have:=HD0.out;omega);have c0:wr.cell? ⟨g,i0+q,none⟩=some (.int .i64 x1):=by rw[HRR.out.cell (by have:=HD0.out;omega),hx1]
       have c1:wr.cell? ⟨g,i0+(q+1),none⟩=some (.int .i64 y1):=by rw[← Nat.add_assoc,HRR.out.cell (by have:=HD0.out;omega),hy1]
       have hi4:wrap64 ((q:Int)+1-1)=(q:Int):=by unfold wrap64;omega
       have hi5:IntKind.i64.wrap ((q:Int)+1-1)=(q:Int):=by rw[IntKind.wrap_i64];omega
       have hq3:(q:Int)<(d0:Int)+1:=by omega
       have hq4:(q:Int)+1<(d0:Int)+1:=by omega
       have hin:i<xs.length:=by have:=HD0.out;omega
       have hin2:(i:Int)<(xs.length:Int):=by omega
       have HIJ:=hid (show i<xs.length∧i0+q+1<xs.length∧i+1≤i0+(q+1)from by have:=HD0.out;omega);by_cases hxy1:y1=x1
       ·have hq9:(y1 == x1)=true:=by simpa using hxy1
        clear hxy1;go_wp2
        go_quiet (fail)
        have HRR2:=hid (show(wr.drewN nq).rowIs g 2 N f' from HRR.out);have HFR2:=hid (show Fr (λk=>k=g) w (wr.drewN nq)from HFR.out.trans ⟨rfl,rfl,rfl,Nat.le_refl _,λ_ _ _=>rfl⟩)
        generalize wr.drewN nq=w4 at *
        go_wp2;refine⟨⟨i,q+1,f',rfl,by go_num,by omega,hi1,by omega,HIN,HRR2,HFR2⟩,?_⟩;simp[intOf];have:=HIJ.out;omega
       ·have hq9:(y1 == x1)=false:=by simpa using hxy1
        clear hxy1;go_wp2
        go_quiet (fail)
        have HRR2:=hid (show(wr.drewN nq).rowIs g 2 N f' from HRR.out);have HFR2:=hid (show Fr (λk=>k=g) w (wr.drewN nq)from HFR.out.trans ⟨rfl,rfl,rfl,Nat.le_refl _,λ_ _ _=>rfl⟩);have c1n:(wr.drewN nq).cell? ⟨g,i0+(q+1),none⟩=some (.int .i64 y1):=c1;have ci:(wr.drewN nq).cell? ⟨g,i,none⟩=some (f' i):=HRR2.out.cell (by have:=HIJ.out;omega);have zi:(wr.drewN nq).frozen? ⟨g,i,none⟩=false:=HRR2.out.frozen _;clear c0 c1
        generalize wr.drewN nq=w4 at *
        go_wp2;refine⟨⟨i+1,q+1,_,by go_num,by go_num,by omega,by omega,by omega,hid (λt ht=>?_),hid (HRR2.out.set i _),hid (HFR2.out.setCell ⟨g,i,none⟩ (λ_=>rfl) _)⟩,?_⟩
        ·by_cases hti:t=i
         ·exact⟨y1,by rw[if_pos hti]⟩
         ·obtain⟨y9,hy9⟩:=HIN.out t ht
          exact⟨y9,by rw[if_neg hti];exact hy9⟩
        ·simp[intOf];have:=HIJ.out;omega
      ·have hqd:q=d0:=by omega
       have HQD:=hid hqd;have hq4:¬(q:Int)+1<(d0:Int)+1:=by omega
       have HIN2:=hid (show i<xs.length from by have:=HD0.out;omega);have hcl:∀ty,(Builtin.clear_ #[45] ty #[.slice (some ⟨g,i,none⟩) (xs.length-i) (c-i)]).run Tryz.prog wr = .ok (.tuple #[]) (wr.setCells g i (List.replicate (xs.length-i) (.int .i64 0))):=
        λty=>Lib.run_clear_slice wr _ 2 ty _ Tryz.underlying45 (λw=>by rfl) rfl rfl g i _ _ (by have:=HIN2.out;omega) (λt ht=>by rw[HRR.out.cell (by omega)];rfl) (λt ht=>HRR.out.frozen _)
       have hj0:(0:Int)≤(i:Int):=by omega
       have hj1:(i:Int)≤(xs.length:Int):=by have:=HIN2.out;omega
       have hj2:(i:Int)≤(c:Int):=by omega
       clear hqd;go_wp2;go_ret;exact⟨⟨_,⟨_,rfl⟩,⟨λe=>by have:=HIN2.out;omega,λh=>absurd h HNO.out⟩,by have:=HIN2.out;omega⟩,sw HFR.out _ _ rfl⟩
    ·have hq:(y == x)=false:=by simpa using hxy
     have HD2:=hid (show ∀j (h:j+1<xs.length),j<p+1→xs[j+1]≠xs[j]from λj hj hj2=>by
      by_cases hjp:j=p
      ·subst hjp;rw[← HX.out.1,← HX.out.2];exact hxy
      ·exact HD.out j hj (by omega))
     clear hxy;go_wp2
     go_quiet (fail)
     have HB2:=hid (show Below w.heap.size w (wr.drewN nq)from HB.out.trans ⟨rfl,rfl,rfl,Nat.le_refl _,λ_ _=>rfl⟩)
     generalize wr.drewN nq=w2 at *
     go_wp2
     go_roundw
     case rel=>exact⟨p+1,by go_num,by omega,HB2,HD2⟩
     case measure=>simp[intOf];omega
   ·have HY:=hid (show P from by rw[HP.out];exact λj hj=>HD.out j hj (by omega))
    have hi2:¬(p:Int)+1<(xs.length:Int):=by omega
    go_wp2;go_ret;exact⟨⟨_,⟨_,rfl⟩,⟨λ_=>HY.out,λ_=>rfl⟩,Nat.le_refl _⟩,Fr.pure HB.out⟩
end
end Go.Proofs.YtaeakdichkhjaaaGreatDoor
