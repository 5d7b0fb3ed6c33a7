/- Writing an empty market to a disk that is newer than a world. -/
import Derived.Test.YthjjgcfdhkhelaaGreatDoorQBh
import Derived.Test.YthjjgcfdhkhelaaGreatDoorQBj
set_option maxHeartbeats 4000000
set_option maxRecDepth 100000
open Go.Lib(hid)
open Go.Proofs.Tryz
namespace Go.Proofs.YthjjgcfdhkhelaaGreatDoor
section
open Go.RowKit Go.Sort Go.Shelf
def Dn (w:World)(seq:Int)(sv vv:Value)(D:List UInt8)(code:Int):Prop:=∀W:World,Below w.heap.size w W →
 Calls prog 69 #[.int .i64 seq,sv,vv] W λe w'=>(∃r:ByteArray,r.data.toList=D∧e = .returned (.tuple #[.string r,.int .i64 code]))∧Below W.heap.size W w'
theorem Dp (st:cZ)(n:List UInt8):(eh st n).2=0∨(eh st n).2=5∨(eh st n).2=45:=by
 unfold eh dZ
 split
 ·simp
 ·split
  ·simp
  ·split<;>simp
theorem Dq (w:World)(c q p b:Nat)(st:cZ)(code:Int)(u:FrameMode)(h:db w p b st)(hc:w.heap[c]?=some (.cells #[.int .i64 code] 26 (0,0)))(hq:w.cell? ⟨q,0,none⟩=some (.pointer (some ⟨p,0,none⟩)))(hcp:c≠p)(hqc:q≠c) :
  CallsD prog 70 #[.pointer (some ⟨c,0,none⟩),.pointer (some ⟨q,0,none⟩)] u w λe u' w'=>u'=u∧(e = .returned (.tuple #[])∧w'.cell? ⟨c,0,none⟩=some (.int .i64 (qM (st,code)).2)∧db w' p b (qM (st,code)).1∧Fr (λk=>k=p∨k=b∨k=c) w w'):=by
 have hc0:w.cell? ⟨c,0,none⟩=some (.int .i64 code):=by rw[cell_of_row w c 0 _ _ _ hc];rfl
 have hcz:w.frozen? ⟨c,0,none⟩=false:=frozen_of_row w c 0 _ _ hc;have H:=hid h;have HC:=hid hc;have hcb:c≠b:=h.off hc0;clear h hc
 go_enter_d func70,ntmps70
 by_cases h44:code=44
 ·go_wp2_with fail
  refine(show Calls prog 30 #[.pointer (some ⟨p,0,none⟩),.string ⟨#[83,78,65,80,83,72,79,84,46,110,101,119]⟩] w λe w'=>d8 p b (eh st qL) w e w' from eC w p b st H.out ⟨#[83,78,65,80,83,72,79,84,46,110,101,119]⟩ (by decide)).mono ?_;rintro e w1 ⟨rfl,hd,hf⟩;have hcb2:¬(c=p∨c=b):=by omega
  have c1:=hf.cellAt hc0 hcb2;have z1:w1.frozen? ⟨c,0,none⟩=false:=(hf.frozen (aw hc0) hcb2).trans hcz;have HD:=hid (And.intro hd (hf.mono (T:=λk=>k=p∨k=b∨k=c) (λ_ _ h=>by omega)));clear hd hf
  rcases Dp st qL with h0|h5|h45
  ·have e1:=hid (show qM (st,code)=((eh st qL).1,44)from by unfold qM;rw[if_pos h44,if_neg (by simp only;omega)])
   rw[h0];clear h0;go_wp2
   go_end0
   rw[e1.out];exact⟨rfl,by rw[c1,h44],HD.out.1,HD.out.2⟩
  ·have e1:=hid (show qM (st,code)=((eh st qL).1,44)from by unfold qM;rw[if_pos h44,if_neg (by simp only;omega)])
   rw[h5];clear h5;go_wp2
   go_end0
   rw[e1.out];exact⟨rfl,by rw[c1,h44],HD.out.1,HD.out.2⟩
  ·have e1:=hid (show qM (st,code)=eh st qL from by unfold qM;rw[if_pos h44,if_pos h45])
   have e2:=hid h45;rw[h45];clear h45;go_wp2
   go_end0
   rw[e1.out];refine⟨rfl,by rw[World.cell?_setCell_same _ _ _ c1,e2.out],HD.out.1.kept (dK _ _) (by show ¬p=c;omega) (by show ¬b=c;omega),HD.out.2.setCell ⟨c,0,none⟩ (λ_=>.inr (.inr rfl)) _⟩
 ·have e1:=hid (show qM (st,code)=(st,code)from by unfold qM;rw[if_neg h44])
  go_wp2
  go_end0
  rw[e1.out];exact⟨rfl,hc0,H.out,Fr.refl _ _⟩
theorem Dr (tmps:Array Value)(w:World)(c:Nat)(v:Value)(n:Int)(ht:tmps[8]?.getD undef = .pointer (some ⟨c,0,none⟩))(hc:w.cell? ⟨c,0,none⟩=some v)(hsm:v = .int .i64 n):(results Tryz.f18 tmps).run prog w = .ok v w:=by
 subst hsm;simp[results,results18,go_sem,ht,hc]
theorem Ds (wd:World)(p b c q:Nat)(st:cZ)(code:Int)(tmps:Array Value)(ht:tmps[8]?.getD undef = .pointer (some ⟨c,0,none⟩))(hd:db wd p b st)(hc:wd.heap[c]?=some (.cells #[.int .i64 code] 26 (0,0)))
  (hq:wd.cell? ⟨q,0,none⟩=some (.pointer (some ⟨p,0,none⟩))) (hcp:c≠p) (hqc:q≠c) (R:Ending→World→Prop)
  (hR:∀w',db w' p b (qM (st,code)).1→Fr (λk=>k=p∨k=b∨k=c) wd w'→R (.returned (.int .i64 (qM (st,code)).2)) w') :
  bodyPostD prog Tryz.f18 R Exit.ret { tmps:=tmps,defers:=[{ target:=Target.fn (Fn.func 70) #[.pointer (some ⟨c,0,none⟩),.pointer (some ⟨q,0,none⟩)],args:=#[] }] } wd:=by
 refine leaves_cons (f:=70) (args:=#[.pointer (some ⟨c,0,none⟩),.pointer (some ⟨q,0,none⟩)]) (by simp) (by simp[go_sem]) ?_;refine(Dq wd c q p b st code .returning hd hc hq hcp hqc).mono ?_;rintro e u' w'' ⟨rfl,rfl,hc',hd',hf'⟩;exact⟨_,Dr tmps w'' c _ _ ht hc' rfl,hR w'' hd' hf'⟩
structure WAt (w W:World) (n p b:Nat) (st:cZ) (code:Int):Prop where
 dk:db W p b st
 q:W.cell? ⟨n,0,none⟩=some (.pointer (some ⟨p,0,none⟩))
 c:W.heap[n+1+1+1]?=some (.cells #[.int .i64 code] 26 (0,0))
 fr:dY p b w W
 lz:xB W
 hn:n=w.heap.size
 hp:p<n
 hb:b<n
 lb:¬xC p∧¬xC b
 wl:∀k,xC k→k<w.heap.size
theorem WAt.c0 {w W:World}{n p b:Nat}{st:cZ}{code:Int}(h:WAt w W n p b st code):W.cell? ⟨n+1+1+1,0,none⟩=some (.int .i64 code):=(cell_of_row _ _ _ _ _ _ h.c).trans rfl
theorem WAt.z {w W:World}{n p b:Nat}{st:cZ}{code:Int}(h:WAt w W n p b st code):W.frozen? ⟨n+1+1+1,0,none⟩=false:=frozen_of_row _ _ 0 _ _ h.c
theorem WAt.op {w W W':World}{n p b:Nat}{st st':cZ}{code:Int}(h:WAt w W n p b st code)(h1:db W' p b st')(hf:dY p b W W'):WAt w W' n p b st' code:=
 ⟨h1,hf.cellAt h.q (by have:=h.hp;have:=h.hb;omega),hf.heapAt h.c (by have:=h.hp;have:=h.hb;omega),h.fr.trans hf,h.lz.kept hf (λi hi hx=>by rcases hi with e|e<;>(subst e;first|exact h.lb.1 hx|exact h.lb.2 hx)),h.hn,h.hp,h.hb,h.lb,h.wl⟩
theorem WAt.set {w W:World}{n p b:Nat}{st:cZ}{code:Int}(h:WAt w W n p b st code)(x:Int):WAt w (W.setCell ⟨n+1+1+1,0,none⟩ (.int .i64 x)) n p b st x:=
 ⟨h.dk.kept (dK _ _) (by have:=h.hp;show ¬p=n+1+1+1;omega) (by have:=h.hb;show ¬b=n+1+1+1;omega),(dK _ _).cellAt h.q (by show ¬n=n+1+1+1;omega),one_setCell h.c,h.fr.setCell ⟨n+1+1+1,0,none⟩ (λe=>by have:=h.hn;have:n+1+1+1<w.heap.size:=e;omega) _,h.lz.kept (dK (w:=W) ⟨n+1+1+1,0,none⟩ (.int .i64 x)) (λk hk hx=>by
  have h1:k=n+1+1+1:=hk;have h2:=h.hn;have h3:=h.wl k hx;omega),h.hn,h.hp,h.hb,h.lb,h.wl⟩
theorem WAt.drew {w W:World}{n p b:Nat}{st:cZ}{code:Int}(h:WAt w W n p b st code):WAt w W.drew n p b st code:=
 ⟨⟨h.dk.cell,h.dk.own,h.dk.ok⟩,h.q,h.c,h.fr.drew,⟨h.lz.pow,h.lz.syn,h.lz.rng⟩,h.hn,h.hp,h.hb,h.lb,h.wl⟩
theorem Dt (w:World)(hl:xB w)(p b:Nat)(st:cZ)(h:db w p b st)(hlb:¬xC p∧¬xC b)(seq:Int){s0 s1 s2 s3:Int}{xa4 xa5 xa6 xa7 xa8 ya0 ya1 ya2 ya3:Option Addr}{xm4 xc4 xm5 xc5 xm6 xc6 xm7 xc7 xm8 xc8 ym0 yc0 ym1 yc1 ym2 yc2 ym3 yc3:Nat}(D:List UInt8)(hD:D.length≤140737488355328)(hF:Dn w seq (.agg #[.int .i64 s0,.int .i64 s1,.int .i64 s2,.int .i64 s3,.slice xa4 xm4 xc4,.slice xa5 xm5 xc5,.slice xa6 xm6 xc6,.slice xa7 xm7 xc7,.slice xa8 xm8 xc8]) (.agg #[.slice ya0 ym0 yc0,.slice ya1 ym1 yc1,.slice ya2 ym2 yc2,.slice ya3 ym3 yc3]) D 0) :
  Calls prog 18 #[.pointer (some ⟨p,0,none⟩),.int .i64 seq,.agg #[.int .i64 s0,.int .i64 s1,.int .i64 s2,.int .i64 s3,.slice xa4 xm4 xc4,.slice xa5 xm5 xc5,.slice xa6 xm6 xc6,.slice xa7 xm7 xc7,.slice xa8 xm8 xc8],.agg #[.slice ya0 ym0 yc0,.slice ya1 ym1 yc1,.slice ya2 ym2 yc2,.slice ya3 ym3 yc3]] w λe w'=>d8 p b (qO st seq (D,0)) w e w':=by
 have hmf:∀(fn:Fn) (first cap:Array Value) (w:World),(Instr.makeFunc fn first cap).run prog w = .ok (.func fn first cap) w:=λ_ _ _ _=>rfl;have HFT:=hid hF;have HL:=hid hl;have H:=hid h;have hp:=h.lt;have hbl:=h.own.lt;have HDK:=hid (show qO st seq (D,0)=qM (qN st D (qc seq))from by unfold qO;rw[if_neg (by simp)]);clear hF hl h
 go_enter_defers func18,ntmps18
 go_wp2_with fail
 obtain⟨n,hn⟩:∃n,n=w.heap.size:=⟨_,rfl⟩;obtain⟨W0,hW0⟩:∃W0,W0=(((w.alloc (.cells #[.pointer (some ⟨p,0,none⟩)] 31)).alloc (.cells #[.int .i64 s0,.int .i64 s1,.int .i64 s2,.int .i64 s3,.slice xa4 xm4 xc4,.slice xa5 xm5 xc5,.slice xa6 xm6 xc6,.slice xa7 xm7 xc7,.slice xa8 xm8 xc8] 56)).alloc (.cells #[.slice ya0 ym0 yc0,.slice ya1 ym1 yc1,.slice ya2 ym2 yc2,.slice ya3 ym3 yc3] 64)).alloc (.cells #[.int .i64 0] 26):=⟨_,rfl⟩;have hbel:Below w.heap.size w W0:=by rw[hW0];exact((((Below.refl _ _).alloc (Nat.le_refl _) _).alloc (by simp) _).alloc (by simp<;>omega) _).alloc (by simp<;>omega) _
 have k0:W0.cell? ⟨n,0,none⟩=some (.pointer (some ⟨p,0,none⟩)):=by rw[hW0,hn,World.cell?_alloc_past _ _ _ (by simp<;>omega),World.cell?_alloc_past _ _ _ (by simp<;>omega),World.cell?_alloc_past _ _ _ (by simp),World.cell?_alloc_at _ _ _ _ rfl];rfl
 have k3:W0.heap[n+1+1+1]?=some (.cells #[.int .i64 0] 26 (0,0)):=by rw[hW0,hn];exact yS _ _ (by simp)
 have hz0:W0.heap.size=n+4:=by rw[hW0,hn];simp
 have A0:=hid (show WAt w W0 n p b st 0 from⟨H.out.pure hbel,k0,k3,Fr.pure hbel,HL.out.pure hbel,hn,by omega,by omega,hlb,HL.out.lt⟩);rw[← hW0]
 try rw[← hn]
 have HBL:=hid hbel;clear hW0 k0 k3 hbel hn;refine(show Calls prog 69 #[.int .i64 seq,.agg #[.int .i64 s0,.int .i64 s1,.int .i64 s2,.int .i64 s3,.slice xa4 xm4 xc4,.slice xa5 xm5 xc5,.slice xa6 xm6 xc6,.slice xa7 xm7 xc7,.slice xa8 xm8 xc8],.agg #[.slice ya0 ym0 yc0,.slice ya1 ym1 yc1,.slice ya2 ym2 yc2,.slice ya3 ym3 yc3]] W0 _ from HFT.out W0 HBL.out).mono ?_;rintro e w1 ⟨⟨r,hr,rfl⟩,hb1⟩;have HR:=hid hr;have hrz:r.size≤140737488355328:=by rw[ao hr];exact hD
 have A1:=hid (A0.out.op (A0.out.dk.pure hb1) (Fr.pure hb1));have q1:=A1.out.q;have c1:=A1.out.c0;have z1:=A1.out.z;have hnp:p<n:=A1.out.hp;have hnb:b<n:=A1.out.hb;have AX:=hid (A1.out.set 0);clear A0 A1 hb1 hr HFT;have DOOR:=hid (λ(Wd:World) (sd:cZ) (cd:Int) (tmps:Array Value) (ht:tmps[8]?.getD undef = .pointer (some ⟨n+1+1+1,0,none⟩)) (ha:WAt w Wd n p b sd cd) (hx:qN st D (qc seq)=(sd,cd))=>(Ds Wd p b (n+1+1+1) n sd cd tmps ht ha.dk ha.c ha.q (by omega) (by omega) (λe w'=>d8 p b (qO st seq (D,0)) w e w') (λw' hd hf=>by
   have hn:=ha.hn;rw[HDK.out,hx];exact⟨rfl,hd,ha.fr.then hf (λi hi e=>by omega)⟩)))
 go_wp2_with fail
 refine(show Calls prog 30 #[.pointer (some ⟨p,0,none⟩),.string ⟨#[83,78,65,80,83,72,79,84,46,110,101,119]⟩] _ _ from eC _ p b st AX.out.dk ⟨#[83,78,65,80,83,72,79,84,46,110,101,119]⟩ (by decide)).mono ?_;rintro e w2 ⟨rfl,hd2,hf2⟩;obtain⟨⟨s2x,d2⟩,hs2⟩:∃x:cZ×Int,x=eh st qL:=⟨_,rfl⟩;have hd2':db w2 p b s2x:=by have:=hd2;rwa [show eh st (⟨#[83,78,65,80,83,72,79,84,46,110,101,119]⟩:ByteArray).data.toList=(s2x,d2)from hs2.symm]at this
 rw[show(eh st (⟨#[83,78,65,80,83,72,79,84,46,110,101,119]⟩:ByteArray).data.toList).2=d2 from by have:=congrArg Prod.snd hs2;exact this.symm];have HS2:=hid hs2.symm;have AO2:=hid (AX.out.op hd2' hf2);have AS2:=hid (AO2.out.set d2);have q2:=AO2.out.q;have c2:=AO2.out.c0;have z2:=AO2.out.z;clear hd2 hd2' hf2 hs2 AX q1 c1 z1;by_cases h0:d2=0
 ·subst h0
  have N2:¬((0:Int)≠0∧(0:Int)≠5):=by simp
  go_wp2_with fail
  refine(show Calls prog 62 #[.pointer (some ⟨p,0,none⟩),.string ⟨#[83,78,65,80,83,72,79,84,46,110,101,119]⟩] _ _ from ep _ p b s2x AS2.out.dk ⟨#[83,78,65,80,83,72,79,84,46,110,101,119]⟩ (by decide)).mono ?_;rintro e w3 ⟨rfl,hd3,hf3⟩;obtain⟨⟨s3x,d3⟩,hs3⟩:∃x:cZ×Int,x=ee s2x qL:=⟨_,rfl⟩;have hd3':db w3 p b s3x:=by have:=hd3;rwa [show ee s2x (⟨#[83,78,65,80,83,72,79,84,46,110,101,119]⟩:ByteArray).data.toList=(s3x,d3)from hs3.symm]at this
  rw[show(ee s2x (⟨#[83,78,65,80,83,72,79,84,46,110,101,119]⟩:ByteArray).data.toList).2=d3 from by have:=congrArg Prod.snd hs3;exact this.symm];have HS3:=hid hs3.symm;have AO3:=hid (AS2.out.op hd3' hf3);have AS3:=hid (AO3.out.set d3);have q3:=AO3.out.q;have c3:=AO3.out.c0;have z3:=AO3.out.z;clear hd3 hd3' hf3 hs3 AS2 q2 c2 z2;by_cases h0:d3=0
  ·subst h0
   have N3:¬((0:Int)≠0):=by simp
   go_wp2_with fail
   refine(show Calls prog 51 #[.pointer (some ⟨p,0,none⟩),.string ⟨#[83,78,65,80,83,72,79,84,46,110,101,119]⟩,.string r] _ _ from eU _ p b s3x AS3.out.dk ⟨#[83,78,65,80,83,72,79,84,46,110,101,119]⟩ r (by decide) hrz).mono ?_;rintro e w4 ⟨rfl,hd4,hf4⟩;rw[HR.out]at hd4 ⊢;obtain⟨⟨s4x,d4⟩,hs4⟩:∃x:cZ×Int,x=eR s3x qL D:=⟨_,rfl⟩;have hd4':db w4 p b s4x:=by have:=hd4;rwa [show eR s3x (⟨#[83,78,65,80,83,72,79,84,46,110,101,119]⟩:ByteArray).data.toList D=(s4x,d4)from hs4.symm]at this
   rw[show(eR s3x (⟨#[83,78,65,80,83,72,79,84,46,110,101,119]⟩:ByteArray).data.toList D).2=d4 from by have:=congrArg Prod.snd hs4;exact this.symm];have HS4:=hid hs4.symm;have AO4:=hid (AS3.out.op hd4' hf4);have AS4:=hid (AO4.out.set d4);have q4:=AO4.out.q;have c4:=AO4.out.c0;have z4:=AO4.out.z;clear hd4 hd4' hf4 hs4 AS3 q3 c3 z3;by_cases h0:d4=0
   ·subst h0
    have N4:¬((0:Int)≠0):=by simp
    go_wp2_with fail
    refine(show Calls prog 65 #[.pointer (some ⟨p,0,none⟩),.string ⟨#[83,78,65,80,83,72,79,84,46,110,101,119]⟩] _ _ from eG _ p b s4x AS4.out.dk ⟨#[83,78,65,80,83,72,79,84,46,110,101,119]⟩ (by decide)).mono ?_;rintro e w5 ⟨rfl,hd5,hf5⟩;obtain⟨⟨s5x,d5⟩,hs5⟩:∃x:cZ×Int,x=eD s4x qL:=⟨_,rfl⟩;have hd5':db w5 p b s5x:=by have:=hd5;rwa [show eD s4x (⟨#[83,78,65,80,83,72,79,84,46,110,101,119]⟩:ByteArray).data.toList=(s5x,d5)from hs5.symm]at this
    rw[show(eD s4x (⟨#[83,78,65,80,83,72,79,84,46,110,101,119]⟩:ByteArray).data.toList).2=d5 from by have:=congrArg Prod.snd hs5;exact this.symm];have HS5:=hid hs5.symm;have AO5:=hid (AS4.out.op hd5' hf5);have AS5:=hid (AO5.out.set d5);have q5:=AO5.out.q;have c5:=AO5.out.c0;have z5:=AO5.out.z;clear hd5 hd5' hf5 hs5 AS4 q4 c4 z4;by_cases h0:d5=0
    ·subst h0
     have N5:¬((0:Int)≠0):=by simp
     go_wp2;have q5:=AS5.out.q;have c5:=AS5.out.c0;refine wp_region_held_drew (S:=(λw'=>w'.cell? ⟨n,0,none⟩=some (.pointer (some ⟨p,0,none⟩)))) (by kernel_rfl) q5 (λhHeld=>?_);refine wpAnyH_ready (rs:=[0,1]) (by kernel_rfl) (by simp) ?_;refine AllReadyH.cons (o:=_) (by simp only[List.getElem?_toArray,List.getElem?_cons_zero];rfl) (λK hK=>?_) (AllReadyH.cons (o:=_) (by simp only[List.getElem?_toArray,List.getElem?_cons_succ,List.getElem?_cons_zero];rfl) (λK hK=>?_) AllReadyH.nil)
     ·go_simp
      refine hK.out _ _ (by assumption) (λhHeld=>?_);clear hK K;refine wpAnyH_ready (rs:=[1]) (by kernel_rfl) (by simp) ?_;refine AllReadyH.cons (o:=_) (by simp only[List.getElem?_toArray,List.getElem?_cons_succ,List.getElem?_cons_zero];rfl) (λK hK=>?_) AllReadyH.nil
      go_simp
      refine hK.out _ _ (by assumption) (λhHeld=>?_);clear hK K;refine wpAnyH_ready (rs:=[2]) (by kernel_rfl) (by simp) ?_;refine AllReadyH.cons (o:=_) (by simp only[List.getElem?_toArray,List.getElem?_cons_succ,List.getElem?_cons_zero];rfl) (λK hK=>?_) AllReadyH.nil
      go_simp
      refine(xA _ AS5.out.drew.lz.pow seq).mono ?_;rintro e w6 ⟨⟨nm,hnm,rfl⟩,hb6⟩;have A6:=hid (AS5.out.drew.op (AS5.out.drew.dk.pure hb6) (Fr.pure hb6));have HNM:=hid hnm;have hnz:nm.size≤9223372036854775807:=by
       rw[ao hnm];unfold qc
       split
       ·rename_i hc
        rw[List.length_cons];have:=bX seq 10 (by omega) (by omega);omega
       ·simp
      clear hb6 hnm;refine hK.out _ _ A6.out.q (λhHeld=>?_);clear hK K;refine wpAnyH_ready (rs:=[3]) (by kernel_rfl) (by simp) ?_;refine AllReadyH.cons (o:=_) (by simp only[List.getElem?_toArray,List.getElem?_cons_succ,List.getElem?_cons_zero];rfl) (λK hK=>?_) AllReadyH.nil
      go_simp
      refine(show Calls prog 67 #[.pointer (some ⟨p,0,none⟩),.string ⟨#[83,78,65,80,83,72,79,84,46,110,101,119]⟩,.string nm] _ _ from eQ _ p b s5x A6.out.dk ⟨#[83,78,65,80,83,72,79,84,46,110,101,119]⟩ nm (by decide) hnz).mono ?_;rintro e w7 ⟨rfl,hd7,hf7⟩;rw[HNM.out]at hd7 ⊢;obtain⟨⟨s7x,d7⟩,hs7⟩:∃x:cZ×Int,x=eL s5x qL (qc seq):=⟨_,rfl⟩;have hd7':db w7 p b s7x:=by have:=hd7;rwa [show eL s5x (⟨#[83,78,65,80,83,72,79,84,46,110,101,119]⟩:ByteArray).data.toList (qc seq)=(s7x,d7)from hs7.symm]at this
      rw[show(eL s5x (⟨#[83,78,65,80,83,72,79,84,46,110,101,119]⟩:ByteArray).data.toList (qc seq)).2=d7 from by have:=congrArg Prod.snd hs7;exact this.symm];have HS7:=hid hs7.symm;have AO7:=hid (A6.out.op hd7' hf7);have AS7:=hid (AO7.out.set d7);have c7:=AO7.out.c0;have z7:=AO7.out.z;clear hd7 hd7' hf7 hs7;refine hK.out _ _ AO7.out.q (λhHeld=>?_);clear hK K;refine wpAnyH_ready (rs:=[4]) (by kernel_rfl) (by simp) ?_;refine AllReadyH.cons (o:=_) (by simp only[List.getElem?_toArray,List.getElem?_cons_succ,List.getElem?_cons_zero];rfl) (λK hK=>?_) AllReadyH.nil
      go_simp
      skip
      refine hK.out _ _ AS7.out.q (λhHeld=>?_);clear hK K;refine wpAnyH_done (by kernel_rfl) ?_ _;clear hHeld AS5 A6 AO7 q5 c5 c7 z7;go_wp2;exact DOOR.out _ s7x d7 _ (by rfl) AS7.out (by unfold qN;simp only[HS2.out];rw[if_neg N2];simp only[HS3.out];rw[if_neg N3];simp only[HS4.out];rw[if_neg N4];simp only[HS5.out];rw[if_neg N5];exact HS7.out)
     ·go_simp
      refine hK.out _ _ (by assumption) (λhHeld=>?_);clear hK K;refine wpAnyH_ready (rs:=[0,2]) (by kernel_rfl) (by simp) ?_;refine AllReadyH.cons (o:=_) (by simp only[List.getElem?_toArray,List.getElem?_cons_zero];rfl) (λK hK=>?_) (AllReadyH.cons (o:=_) (by simp only[List.getElem?_toArray,List.getElem?_cons_succ,List.getElem?_cons_zero];rfl) (λK hK=>?_) AllReadyH.nil)
      ·go_simp
       refine hK.out _ _ (by assumption) (λhHeld=>?_);clear hK K;refine wpAnyH_ready (rs:=[2]) (by kernel_rfl) (by simp) ?_;refine AllReadyH.cons (o:=_) (by simp only[List.getElem?_toArray,List.getElem?_cons_succ,List.getElem?_cons_zero];rfl) (λK hK=>?_) AllReadyH.nil
       go_simp
       refine(xA _ AS5.out.drew.lz.pow seq).mono ?_;rintro e w6 ⟨⟨nm,hnm,rfl⟩,hb6⟩;have A6:=hid (AS5.out.drew.op (AS5.out.drew.dk.pure hb6) (Fr.pure hb6));have HNM:=hid hnm;have hnz:nm.size≤9223372036854775807:=by
        rw[ao hnm];unfold qc
        split
        ·rename_i hc
         rw[List.length_cons];have:=bX seq 10 (by omega) (by omega);omega
        ·simp
       clear hb6 hnm;refine hK.out _ _ A6.out.q (λhHeld=>?_);clear hK K;refine wpAnyH_ready (rs:=[3]) (by kernel_rfl) (by simp) ?_;refine AllReadyH.cons (o:=_) (by simp only[List.getElem?_toArray,List.getElem?_cons_succ,List.getElem?_cons_zero];rfl) (λK hK=>?_) AllReadyH.nil
       go_simp
       refine(show Calls prog 67 #[.pointer (some ⟨p,0,none⟩),.string ⟨#[83,78,65,80,83,72,79,84,46,110,101,119]⟩,.string nm] _ _ from eQ _ p b s5x A6.out.dk ⟨#[83,78,65,80,83,72,79,84,46,110,101,119]⟩ nm (by decide) hnz).mono ?_;rintro e w7 ⟨rfl,hd7,hf7⟩;rw[HNM.out]at hd7 ⊢;obtain⟨⟨s7x,d7⟩,hs7⟩:∃x:cZ×Int,x=eL s5x qL (qc seq):=⟨_,rfl⟩;have hd7':db w7 p b s7x:=by have:=hd7;rwa [show eL s5x (⟨#[83,78,65,80,83,72,79,84,46,110,101,119]⟩:ByteArray).data.toList (qc seq)=(s7x,d7)from hs7.symm]at this
       rw[show(eL s5x (⟨#[83,78,65,80,83,72,79,84,46,110,101,119]⟩:ByteArray).data.toList (qc seq)).2=d7 from by have:=congrArg Prod.snd hs7;exact this.symm];have HS7:=hid hs7.symm;have AO7:=hid (A6.out.op hd7' hf7);have AS7:=hid (AO7.out.set d7);have c7:=AO7.out.c0;have z7:=AO7.out.z;clear hd7 hd7' hf7 hs7;refine hK.out _ _ AO7.out.q (λhHeld=>?_);clear hK K;refine wpAnyH_ready (rs:=[4]) (by kernel_rfl) (by simp) ?_;refine AllReadyH.cons (o:=_) (by simp only[List.getElem?_toArray,List.getElem?_cons_succ,List.getElem?_cons_zero];rfl) (λK hK=>?_) AllReadyH.nil
       go_simp
       skip
       refine hK.out _ _ AS7.out.q (λhHeld=>?_);clear hK K;refine wpAnyH_done (by kernel_rfl) ?_ _;clear hHeld AS5 A6 AO7 q5 c5 c7 z7;go_wp2;exact DOOR.out _ s7x d7 _ (by rfl) AS7.out (by unfold qN;simp only[HS2.out];rw[if_neg N2];simp only[HS3.out];rw[if_neg N3];simp only[HS4.out];rw[if_neg N4];simp only[HS5.out];rw[if_neg N5];exact HS7.out)
      ·go_simp
       refine(xA _ AS5.out.drew.lz.pow seq).mono ?_;rintro e w6 ⟨⟨nm,hnm,rfl⟩,hb6⟩;have A6:=hid (AS5.out.drew.op (AS5.out.drew.dk.pure hb6) (Fr.pure hb6));have HNM:=hid hnm;have hnz:nm.size≤9223372036854775807:=by
        rw[ao hnm];unfold qc
        split
        ·rename_i hc
         rw[List.length_cons];have:=bX seq 10 (by omega) (by omega);omega
        ·simp
       clear hb6 hnm;refine hK.out _ _ A6.out.q (λhHeld=>?_);clear hK K;refine wpAnyH_ready (rs:=[0]) (by kernel_rfl) (by simp) ?_;refine AllReadyH.cons (o:=_) (by simp only[List.getElem?_toArray,List.getElem?_cons_zero];rfl) (λK hK=>?_) AllReadyH.nil
       go_simp
       refine hK.out _ _ A6.out.q (λhHeld=>?_);clear hK K;refine wpAnyH_ready (rs:=[3]) (by kernel_rfl) (by simp) ?_;refine AllReadyH.cons (o:=_) (by simp only[List.getElem?_toArray,List.getElem?_cons_succ,List.getElem?_cons_zero];rfl) (λK hK=>?_) AllReadyH.nil
       go_simp
       refine(show Calls prog 67 #[.pointer (some ⟨p,0,none⟩),.string ⟨#[83,78,65,80,83,72,79,84,46,110,101,119]⟩,.string nm] _ _ from eQ _ p b s5x A6.out.dk ⟨#[83,78,65,80,83,72,79,84,46,110,101,119]⟩ nm (by decide) hnz).mono ?_;rintro e w7 ⟨rfl,hd7,hf7⟩;rw[HNM.out]at hd7 ⊢;obtain⟨⟨s7x,d7⟩,hs7⟩:∃x:cZ×Int,x=eL s5x qL (qc seq):=⟨_,rfl⟩;have hd7':db w7 p b s7x:=by have:=hd7;rwa [show eL s5x (⟨#[83,78,65,80,83,72,79,84,46,110,101,119]⟩:ByteArray).data.toList (qc seq)=(s7x,d7)from hs7.symm]at this
       rw[show(eL s5x (⟨#[83,78,65,80,83,72,79,84,46,110,101,119]⟩:ByteArray).data.toList (qc seq)).2=d7 from by have:=congrArg Prod.snd hs7;exact this.symm];have HS7:=hid hs7.symm;have AO7:=hid (A6.out.op hd7' hf7);have AS7:=hid (AO7.out.set d7);have c7:=AO7.out.c0;have z7:=AO7.out.z;clear hd7 hd7' hf7 hs7;refine hK.out _ _ AO7.out.q (λhHeld=>?_);clear hK K;refine wpAnyH_ready (rs:=[4]) (by kernel_rfl) (by simp) ?_;refine AllReadyH.cons (o:=_) (by simp only[List.getElem?_toArray,List.getElem?_cons_succ,List.getElem?_cons_zero];rfl) (λK hK=>?_) AllReadyH.nil
       go_simp
       skip
       refine hK.out _ _ AS7.out.q (λhHeld=>?_);clear hK K;refine wpAnyH_done (by kernel_rfl) ?_ _;clear hHeld AS5 A6 AO7 q5 c5 c7 z7;go_wp2;exact DOOR.out _ s7x d7 _ (by rfl) AS7.out (by unfold qN;simp only[HS2.out];rw[if_neg N2];simp only[HS3.out];rw[if_neg N3];simp only[HS4.out];rw[if_neg N4];simp only[HS5.out];rw[if_neg N5];exact HS7.out)
    ·have hcf:(d5 == 0)=false:=by simpa using h0
     have hct:(d5 != 0)=true:=by simpa using h0
     have HX:=hid (show qN st D (qc seq)=(s5x,d5)from by unfold qN;simp only[HS2.out];rw[if_neg N2];simp only[HS3.out];rw[if_neg N3];simp only[HS4.out];rw[if_neg N4];simp only[HS5.out];rw[if_pos h0]);have AT:=hid (AS5.out.set d5);clear AO5 AS5;go_wp2;exact DOOR.out _ s5x d5 _ (by rfl) AT.out HX.out
   ·have hcf:(d4 == 0)=false:=by simpa using h0
    have hct:(d4 != 0)=true:=by simpa using h0
    have HX:=hid (show qN st D (qc seq)=(s4x,d4)from by unfold qN;simp only[HS2.out];rw[if_neg N2];simp only[HS3.out];rw[if_neg N3];simp only[HS4.out];rw[if_pos h0]);have AT:=hid (AS4.out.set d4);clear AO4 AS4;go_wp2;exact DOOR.out _ s4x d4 _ (by rfl) AT.out HX.out
  ·have hcf:(d3 == 0)=false:=by simpa using h0
   have hct:(d3 != 0)=true:=by simpa using h0
   have HX:=hid (show qN st D (qc seq)=(s3x,d3)from by unfold qN;simp only[HS2.out];rw[if_neg N2];simp only[HS3.out];rw[if_pos h0]);have AT:=hid (AS3.out.set d3);clear AO3 AS3;go_wp2;exact DOOR.out _ s3x d3 _ (by rfl) AT.out HX.out
 ·by_cases h5:d2=5
  ·subst h5
   have N2:¬((5:Int)≠0∧(5:Int)≠5):=by simp
   go_wp2_with fail
   refine(show Calls prog 62 #[.pointer (some ⟨p,0,none⟩),.string ⟨#[83,78,65,80,83,72,79,84,46,110,101,119]⟩] _ _ from ep _ p b s2x AS2.out.dk ⟨#[83,78,65,80,83,72,79,84,46,110,101,119]⟩ (by decide)).mono ?_;rintro e w3 ⟨rfl,hd3,hf3⟩;obtain⟨⟨s3x,d3⟩,hs3⟩:∃x:cZ×Int,x=ee s2x qL:=⟨_,rfl⟩;have hd3':db w3 p b s3x:=by have:=hd3;rwa [show ee s2x (⟨#[83,78,65,80,83,72,79,84,46,110,101,119]⟩:ByteArray).data.toList=(s3x,d3)from hs3.symm]at this
   rw[show(ee s2x (⟨#[83,78,65,80,83,72,79,84,46,110,101,119]⟩:ByteArray).data.toList).2=d3 from by have:=congrArg Prod.snd hs3;exact this.symm];have HS3:=hid hs3.symm;have AO3:=hid (AS2.out.op hd3' hf3);have AS3:=hid (AO3.out.set d3);have q3:=AO3.out.q;have c3:=AO3.out.c0;have z3:=AO3.out.z;clear hd3 hd3' hf3 hs3 AS2 q2 c2 z2;by_cases h0:d3=0
   ·subst h0
    have N3:¬((0:Int)≠0):=by simp
    go_wp2_with fail
    refine(show Calls prog 51 #[.pointer (some ⟨p,0,none⟩),.string ⟨#[83,78,65,80,83,72,79,84,46,110,101,119]⟩,.string r] _ _ from eU _ p b s3x AS3.out.dk ⟨#[83,78,65,80,83,72,79,84,46,110,101,119]⟩ r (by decide) hrz).mono ?_;rintro e w4 ⟨rfl,hd4,hf4⟩;rw[HR.out]at hd4 ⊢;obtain⟨⟨s4x,d4⟩,hs4⟩:∃x:cZ×Int,x=eR s3x qL D:=⟨_,rfl⟩;have hd4':db w4 p b s4x:=by have:=hd4;rwa [show eR s3x (⟨#[83,78,65,80,83,72,79,84,46,110,101,119]⟩:ByteArray).data.toList D=(s4x,d4)from hs4.symm]at this
    rw[show(eR s3x (⟨#[83,78,65,80,83,72,79,84,46,110,101,119]⟩:ByteArray).data.toList D).2=d4 from by have:=congrArg Prod.snd hs4;exact this.symm];have HS4:=hid hs4.symm;have AO4:=hid (AS3.out.op hd4' hf4);have AS4:=hid (AO4.out.set d4);have q4:=AO4.out.q;have c4:=AO4.out.c0;have z4:=AO4.out.z;clear hd4 hd4' hf4 hs4 AS3 q3 c3 z3;by_cases h0:d4=0
    ·subst h0
     have N4:¬((0:Int)≠0):=by simp
     go_wp2_with fail
     refine(show Calls prog 65 #[.pointer (some ⟨p,0,none⟩),.string ⟨#[83,78,65,80,83,72,79,84,46,110,101,119]⟩] _ _ from eG _ p b s4x AS4.out.dk ⟨#[83,78,65,80,83,72,79,84,46,110,101,119]⟩ (by decide)).mono ?_;rintro e w5 ⟨rfl,hd5,hf5⟩;obtain⟨⟨s5x,d5⟩,hs5⟩:∃x:cZ×Int,x=eD s4x qL:=⟨_,rfl⟩;have hd5':db w5 p b s5x:=by have:=hd5;rwa [show eD s4x (⟨#[83,78,65,80,83,72,79,84,46,110,101,119]⟩:ByteArray).data.toList=(s5x,d5)from hs5.symm]at this
     rw[show(eD s4x (⟨#[83,78,65,80,83,72,79,84,46,110,101,119]⟩:ByteArray).data.toList).2=d5 from by have:=congrArg Prod.snd hs5;exact this.symm];have HS5:=hid hs5.symm;have AO5:=hid (AS4.out.op hd5' hf5);have AS5:=hid (AO5.out.set d5);have q5:=AO5.out.q;have c5:=AO5.out.c0;have z5:=AO5.out.z;clear hd5 hd5' hf5 hs5 AS4 q4 c4 z4;by_cases h0:d5=0
     ·subst h0
      have N5:¬((0:Int)≠0):=by simp
      go_wp2;have q5:=AS5.out.q;have c5:=AS5.out.c0;refine wp_region_held_drew (S:=(λw'=>w'.cell? ⟨n,0,none⟩=some (.pointer (some ⟨p,0,none⟩)))) (by kernel_rfl) q5 (λhHeld=>?_);refine wpAnyH_ready (rs:=[0,1]) (by kernel_rfl) (by simp) ?_;refine AllReadyH.cons (o:=_) (by simp only[List.getElem?_toArray,List.getElem?_cons_zero];rfl) (λK hK=>?_) (AllReadyH.cons (o:=_) (by simp only[List.getElem?_toArray,List.getElem?_cons_succ,List.getElem?_cons_zero];rfl) (λK hK=>?_) AllReadyH.nil)
      ·go_simp
       refine hK.out _ _ (by assumption) (λhHeld=>?_);clear hK K;refine wpAnyH_ready (rs:=[1]) (by kernel_rfl) (by simp) ?_;refine AllReadyH.cons (o:=_) (by simp only[List.getElem?_toArray,List.getElem?_cons_succ,List.getElem?_cons_zero];rfl) (λK hK=>?_) AllReadyH.nil
       go_simp
       refine hK.out _ _ (by assumption) (λhHeld=>?_);clear hK K;refine wpAnyH_ready (rs:=[2]) (by kernel_rfl) (by simp) ?_;refine AllReadyH.cons (o:=_) (by simp only[List.getElem?_toArray,List.getElem?_cons_succ,List.getElem?_cons_zero];rfl) (λK hK=>?_) AllReadyH.nil
       go_simp
       refine(xA _ AS5.out.drew.lz.pow seq).mono ?_;rintro e w6 ⟨⟨nm,hnm,rfl⟩,hb6⟩;have A6:=hid (AS5.out.drew.op (AS5.out.drew.dk.pure hb6) (Fr.pure hb6));have HNM:=hid hnm;have hnz:nm.size≤9223372036854775807:=by
        rw[ao hnm];unfold qc
        split
        ·rename_i hc
         rw[List.length_cons];have:=bX seq 10 (by omega) (by omega);omega
        ·simp
       clear hb6 hnm;refine hK.out _ _ A6.out.q (λhHeld=>?_);clear hK K;refine wpAnyH_ready (rs:=[3]) (by kernel_rfl) (by simp) ?_;refine AllReadyH.cons (o:=_) (by simp only[List.getElem?_toArray,List.getElem?_cons_succ,List.getElem?_cons_zero];rfl) (λK hK=>?_) AllReadyH.nil
       go_simp
       refine(show Calls prog 67 #[.pointer (some ⟨p,0,none⟩),.string ⟨#[83,78,65,80,83,72,79,84,46,110,101,119]⟩,.string nm] _ _ from eQ _ p b s5x A6.out.dk ⟨#[83,78,65,80,83,72,79,84,46,110,101,119]⟩ nm (by decide) hnz).mono ?_;rintro e w7 ⟨rfl,hd7,hf7⟩;rw[HNM.out]at hd7 ⊢;obtain⟨⟨s7x,d7⟩,hs7⟩:∃x:cZ×Int,x=eL s5x qL (qc seq):=⟨_,rfl⟩;have hd7':db w7 p b s7x:=by have:=hd7;rwa [show eL s5x (⟨#[83,78,65,80,83,72,79,84,46,110,101,119]⟩:ByteArray).data.toList (qc seq)=(s7x,d7)from hs7.symm]at this
       rw[show(eL s5x (⟨#[83,78,65,80,83,72,79,84,46,110,101,119]⟩:ByteArray).data.toList (qc seq)).2=d7 from by have:=congrArg Prod.snd hs7;exact this.symm];have HS7:=hid hs7.symm;have AO7:=hid (A6.out.op hd7' hf7);have AS7:=hid (AO7.out.set d7);have c7:=AO7.out.c0;have z7:=AO7.out.z;clear hd7 hd7' hf7 hs7;refine hK.out _ _ AO7.out.q (λhHeld=>?_);clear hK K;refine wpAnyH_ready (rs:=[4]) (by kernel_rfl) (by simp) ?_;refine AllReadyH.cons (o:=_) (by simp only[List.getElem?_toArray,List.getElem?_cons_succ,List.getElem?_cons_zero];rfl) (λK hK=>?_) AllReadyH.nil
       go_simp
       skip
       refine hK.out _ _ AS7.out.q (λhHeld=>?_);clear hK K;refine wpAnyH_done (by kernel_rfl) ?_ _;clear hHeld AS5 A6 AO7 q5 c5 c7 z7;go_wp2;exact DOOR.out _ s7x d7 _ (by rfl) AS7.out (by unfold qN;simp only[HS2.out];rw[if_neg N2];simp only[HS3.out];rw[if_neg N3];simp only[HS4.out];rw[if_neg N4];simp only[HS5.out];rw[if_neg N5];exact HS7.out)
      ·go_simp
       refine hK.out _ _ (by assumption) (λhHeld=>?_);clear hK K;refine wpAnyH_ready (rs:=[0,2]) (by kernel_rfl) (by simp) ?_;refine AllReadyH.cons (o:=_) (by simp only[List.getElem?_toArray,List.getElem?_cons_zero];rfl) (λK hK=>?_) (AllReadyH.cons (o:=_) (by simp only[List.getElem?_toArray,List.getElem?_cons_succ,List.getElem?_cons_zero];rfl) (λK hK=>?_) AllReadyH.nil)
       ·go_simp
        refine hK.out _ _ (by assumption) (λhHeld=>?_);clear hK K;refine wpAnyH_ready (rs:=[2]) (by kernel_rfl) (by simp) ?_;refine AllReadyH.cons (o:=_) (by simp only[List.getElem?_toArray,List.getElem?_cons_succ,List.getElem?_cons_zero];rfl) (λK hK=>?_) AllReadyH.nil
        go_simp
        refine(xA _ AS5.out.drew.lz.pow seq).mono ?_;rintro e w6 ⟨⟨nm,hnm,rfl⟩,hb6⟩;have A6:=hid (AS5.out.drew.op (AS5.out.drew.dk.pure hb6) (Fr.pure hb6));have HNM:=hid hnm;have hnz:nm.size≤9223372036854775807:=by
         rw[ao hnm];unfold qc
         split
         ·rename_i hc
          rw[List.length_cons];have:=bX seq 10 (by omega) (by omega);omega
         ·simp
        clear hb6 hnm;refine hK.out _ _ A6.out.q (λhHeld=>?_);clear hK K;refine wpAnyH_ready (rs:=[3]) (by kernel_rfl) (by simp) ?_;refine AllReadyH.cons (o:=_) (by simp only[List.getElem?_toArray,List.getElem?_cons_succ,List.getElem?_cons_zero];rfl) (λK hK=>?_) AllReadyH.nil
        go_simp
        refine(show Calls prog 67 #[.pointer (some ⟨p,0,none⟩),.string ⟨#[83,78,65,80,83,72,79,84,46,110,101,119]⟩,.string nm] _ _ from eQ _ p b s5x A6.out.dk ⟨#[83,78,65,80,83,72,79,84,46,110,101,119]⟩ nm (by decide) hnz).mono ?_;rintro e w7 ⟨rfl,hd7,hf7⟩;rw[HNM.out]at hd7 ⊢;obtain⟨⟨s7x,d7⟩,hs7⟩:∃x:cZ×Int,x=eL s5x qL (qc seq):=⟨_,rfl⟩;have hd7':db w7 p b s7x:=by have:=hd7;rwa [show eL s5x (⟨#[83,78,65,80,83,72,79,84,46,110,101,119]⟩:ByteArray).data.toList (qc seq)=(s7x,d7)from hs7.symm]at this
        rw[show(eL s5x (⟨#[83,78,65,80,83,72,79,84,46,110,101,119]⟩:ByteArray).data.toList (qc seq)).2=d7 from by have:=congrArg Prod.snd hs7;exact this.symm];have HS7:=hid hs7.symm;have AO7:=hid (A6.out.op hd7' hf7);have AS7:=hid (AO7.out.set d7);have c7:=AO7.out.c0;have z7:=AO7.out.z;clear hd7 hd7' hf7 hs7;refine hK.out _ _ AO7.out.q (λhHeld=>?_);clear hK K;refine wpAnyH_ready (rs:=[4]) (by kernel_rfl) (by simp) ?_;refine AllReadyH.cons (o:=_) (by simp only[List.getElem?_toArray,List.getElem?_cons_succ,List.getElem?_cons_zero];rfl) (λK hK=>?_) AllReadyH.nil
        go_simp
        skip
        refine hK.out _ _ AS7.out.q (λhHeld=>?_);clear hK K;refine wpAnyH_done (by kernel_rfl) ?_ _;clear hHeld AS5 A6 AO7 q5 c5 c7 z7;go_wp2;exact DOOR.out _ s7x d7 _ (by rfl) AS7.out (by unfold qN;simp only[HS2.out];rw[if_neg N2];simp only[HS3.out];rw[if_neg N3];simp only[HS4.out];rw[if_neg N4];simp only[HS5.out];rw[if_neg N5];exact HS7.out)
       ·go_simp
        refine(xA _ AS5.out.drew.lz.pow seq).mono ?_;rintro e w6 ⟨⟨nm,hnm,rfl⟩,hb6⟩;have A6:=hid (AS5.out.drew.op (AS5.out.drew.dk.pure hb6) (Fr.pure hb6));have HNM:=hid hnm;have hnz:nm.size≤9223372036854775807:=by
         rw[ao hnm];unfold qc
         split
         ·rename_i hc
          rw[List.length_cons];have:=bX seq 10 (by omega) (by omega);omega
         ·simp
        clear hb6 hnm;refine hK.out _ _ A6.out.q (λhHeld=>?_);clear hK K;refine wpAnyH_ready (rs:=[0]) (by kernel_rfl) (by simp) ?_;refine AllReadyH.cons (o:=_) (by simp only[List.getElem?_toArray,List.getElem?_cons_zero];rfl) (λK hK=>?_) AllReadyH.nil
        go_simp
        refine hK.out _ _ A6.out.q (λhHeld=>?_);clear hK K;refine wpAnyH_ready (rs:=[3]) (by kernel_rfl) (by simp) ?_;refine AllReadyH.cons (o:=_) (by simp only[List.getElem?_toArray,List.getElem?_cons_succ,List.getElem?_cons_zero];rfl) (λK hK=>?_) AllReadyH.nil
        go_simp
        refine(show Calls prog 67 #[.pointer (some ⟨p,0,none⟩),.string ⟨#[83,78,65,80,83,72,79,84,46,110,101,119]⟩,.string nm] _ _ from eQ _ p b s5x A6.out.dk ⟨#[83,78,65,80,83,72,79,84,46,110,101,119]⟩ nm (by decide) hnz).mono ?_;rintro e w7 ⟨rfl,hd7,hf7⟩;rw[HNM.out]at hd7 ⊢;obtain⟨⟨s7x,d7⟩,hs7⟩:∃x:cZ×Int,x=eL s5x qL (qc seq):=⟨_,rfl⟩;have hd7':db w7 p b s7x:=by have:=hd7;rwa [show eL s5x (⟨#[83,78,65,80,83,72,79,84,46,110,101,119]⟩:ByteArray).data.toList (qc seq)=(s7x,d7)from hs7.symm]at this
        rw[show(eL s5x (⟨#[83,78,65,80,83,72,79,84,46,110,101,119]⟩:ByteArray).data.toList (qc seq)).2=d7 from by have:=congrArg Prod.snd hs7;exact this.symm];have HS7:=hid hs7.symm;have AO7:=hid (A6.out.op hd7' hf7);have AS7:=hid (AO7.out.set d7);have c7:=AO7.out.c0;have z7:=AO7.out.z;clear hd7 hd7' hf7 hs7;refine hK.out _ _ AO7.out.q (λhHeld=>?_);clear hK K;refine wpAnyH_ready (rs:=[4]) (by kernel_rfl) (by simp) ?_;refine AllReadyH.cons (o:=_) (by simp only[List.getElem?_toArray,List.getElem?_cons_succ,List.getElem?_cons_zero];rfl) (λK hK=>?_) AllReadyH.nil
        go_simp
        skip
        refine hK.out _ _ AS7.out.q (λhHeld=>?_);clear hK K;refine wpAnyH_done (by kernel_rfl) ?_ _;clear hHeld AS5 A6 AO7 q5 c5 c7 z7;go_wp2;exact DOOR.out _ s7x d7 _ (by rfl) AS7.out (by unfold qN;simp only[HS2.out];rw[if_neg N2];simp only[HS3.out];rw[if_neg N3];simp only[HS4.out];rw[if_neg N4];simp only[HS5.out];rw[if_neg N5];exact HS7.out)
     ·have hcf:(d5 == 0)=false:=by simpa using h0
      have hct:(d5 != 0)=true:=by simpa using h0
      have HX:=hid (show qN st D (qc seq)=(s5x,d5)from by unfold qN;simp only[HS2.out];rw[if_neg N2];simp only[HS3.out];rw[if_neg N3];simp only[HS4.out];rw[if_neg N4];simp only[HS5.out];rw[if_pos h0]);have AT:=hid (AS5.out.set d5);clear AO5 AS5;go_wp2;exact DOOR.out _ s5x d5 _ (by rfl) AT.out HX.out
    ·have hcf:(d4 == 0)=false:=by simpa using h0
     have hct:(d4 != 0)=true:=by simpa using h0
     have HX:=hid (show qN st D (qc seq)=(s4x,d4)from by unfold qN;simp only[HS2.out];rw[if_neg N2];simp only[HS3.out];rw[if_neg N3];simp only[HS4.out];rw[if_pos h0]);have AT:=hid (AS4.out.set d4);clear AO4 AS4;go_wp2;exact DOOR.out _ s4x d4 _ (by rfl) AT.out HX.out
   ·have hcf:(d3 == 0)=false:=by simpa using h0
    have hct:(d3 != 0)=true:=by simpa using h0
    have HX:=hid (show qN st D (qc seq)=(s3x,d3)from by unfold qN;simp only[HS2.out];rw[if_neg N2];simp only[HS3.out];rw[if_pos h0]);have AT:=hid (AS3.out.set d3);clear AO3 AS3;go_wp2;exact DOOR.out _ s3x d3 _ (by rfl) AT.out HX.out
  ·have hcf:(d2 == 0)=false:=by simpa using h0
   have hct:(d2 != 0)=true:=by simpa using h0
   have hcf5:(d2 == 5)=false:=by simpa using h5
   have hct5:(d2 != 5)=true:=by simpa using h5
   have HX:=hid (show qN st D (qc seq)=(s2x,d2)from by unfold qN;simp only[HS2.out];rw[if_pos ⟨h0,h5⟩]);have AT:=hid (AS2.out.set d2);clear AO2 AS2;go_wp2;exact DOOR.out _ s2x d2 _ (by rfl) AT.out HX.out
end
section
open Go.RowKit Go.Maps Go.Sort
theorem Du (w:World)(q c:Nat)(hq:q≤1048576)(hc:c<128):Dn w (q:Int) (AZ (c:Int) 0 1 1) A5 (qQ q c) 0:=λW _=>Cg q c hq hc W
theorem Dv (q c:Nat):(qQ q c).length=33:=by show(Crc.seal_ (CG q c)).length=33;rw[Crc.seal_length,CH]
end
end Go.Proofs.YthjjgcfdhkhelaaGreatDoor
