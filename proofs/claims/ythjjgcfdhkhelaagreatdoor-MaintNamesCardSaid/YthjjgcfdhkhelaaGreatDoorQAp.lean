/- The walks of Trim and List. -/
import Derived.Test.YthjjgcfdhkhelaaGreatDoorQAo
import Derived.Test.YthjjgcfdhkhelaaGreatDoorQAn
import Derived.Deep.DeepCutAuto
set_option maxHeartbeats 2500000
set_option maxRecDepth 100000
open Go.Lib(hid)
open Go.Proofs.Tryz
namespace Go.Proofs.YthjjgcfdhkhelaaGreatDoor
section
open Go.RowKit
def isM (n:List UInt8):Bool:=n == jh || n == jg
def oth (fs:Fs):Fs:=fs.filter λg=>!(isM g.name)
theorem jJ:jg≠jh:=by decide
def SwKeep (st st':cZ):Prop:=oth st'.fs=oth st.fs∧cM st'.fs jh=cM st.fs jh
theorem SwKeep.refl (st:cZ):SwKeep st st:=⟨rfl,rfl⟩
theorem SwKeep.trans {a b c:cZ}(h:SwKeep a b)(g:SwKeep b c):SwKeep a c:=⟨g.1.trans h.1,g.2.trans h.2⟩
theorem jK (s:List UInt8){st:cZ}(hd:st.dark=false){f:cy}(hf:cM st.fs jg=some f) :
  ((ji s 4 st).2=0∧(ji s 4 st).1.dark=false∧st.left≠0∧(ji s 4 st).1.left=dec st.left∧(ji s 4 st).1.fs=cL (cK st.fs jg) ⟨jh,f.firm,f.pend⟩)∨((ji s 4 st).2=45∧(ji s 4 st).1.dark=true∧st.left=0∧SwKeep st (ji s 4 st).1):=by
 show((eL st jg jh).2=0∧_)∨_;have e:ji s 4 st=eL st jg jh:=rfl;rw[e];have e2:eL st jg jh=dZ st (cL (cK st.fs jg) ⟨jh,f.firm,f.pend⟩):=by
  unfold eL;rw[hd,if_neg (by simp),hf];show(if !cY jh then _ else _)=_;rw[show cY jh=true from by decide +kernel,if_neg (by simp),if_neg jJ]
 rw[e2];unfold dZ;by_cases h0:st.left=0
 ·rw[if_pos h0];exact .inr ⟨rfl,rfl,h0,rfl,rfl⟩
 ·rw[if_neg h0];exact .inl ⟨rfl,hd,h0,rfl,rfl⟩
theorem jL {c:Int}{st:cZ}(h:c≠44):jp c st=(st,c):=by unfold jp;rw[if_neg h]
end
section
open Go.RowKit Go.Maps Go.Sort
theorem jS (l:List UInt8):fV (Crc.seal_ l):=by
 refine⟨by rw[Crc.seal_length];omega,?_⟩;rw[Crc.seal_length,show l.length+4-4=l.length from by omega];unfold Crc.seal_;rw[List.take_left'];rfl
theorem gO.pure {w w':World}{v:Value}{l:bI}(h:gO w v l)(hb:Below w.heap.size w w'):gO w' v l:=(Fr.pure (S:=λ_=>False) hb).ownsRow h (λ_ _ h=>h)
theorem jT (w:World)(p b:Nat)(st:cZ)(h:db w p b st)(g:Int)(sv:Value)(l:bI)(hs:bJ w sv l)(hl:l.length≤1099511627776) :
  Calls prog 14 #[.pointer (some ⟨p,0,none⟩),.agg #[.int .i64 g,sv]] w λe w'=>d8 p b (jt st g l) w e w':=by
 cases hm:bL g l
 ·refine(ju w p g sv l hs hl hm).mono λe w' ⟨h1,h2⟩=>?_
  rw[show jt st g l=(st,4)from by unfold jt;rw[hm];rfl];exact⟨h1,h.pure h2,Fr.pure h2⟩
 ·exact jC w p b st h g sv l hs hl hm
def jU (P:Int→bI→Int→Prop)(w:World)(e:Ending)(w':World):Prop:=
 Below w.heap.size w w'∧∃cd g l v,P g l cd∧gO w' v l∧(∀b,v.ownBlock=some b→w.heap.size≤b)∧e = .returned (.tuple #[.agg #[.int .i64 g,v],.int .i64 cd])
theorem jV (w:World)(p b:Nat)(st:cZ)(h:db w p b st)(P:Int→bI→Int→Prop)
  (hrd:(eI st jh).2=0→∀(s:ByteArray) (W:World),s.data.toList=(eI st jh).1→Calls prog 57 #[.string s] W (jU P W)) (hno:(eI st jh).2≠0→P 0 [] (eI st jh).2) :
  Calls prog 13 #[.pointer (some ⟨p,0,none⟩)] w (jU P w):=by
 have H:=hid h;have HR:=hid hrd;have HN:=hid hno;clear h hrd hno
 go_enter func13,ntmps13
 go_wp2_with fail
 refine(show Calls prog 56 #[.pointer (some ⟨p,0,none⟩),.string ⟨#[77,65,78,73,70,69,83,84]⟩] _ λe w'=>eJ (eI st jh) _ e w' from eK _ p b st (H.out.pure ((Below.refl _ _).alloc (Nat.le_refl _) _)) ⟨#[77,65,78,73,70,69,83,84]⟩ (by decide)).mono ?_;rintro e w1 ⟨⟨s,hs,rfl⟩,hb1⟩;have HS:=hid hs;have B1:=hid ((((Below.refl w.heap.size w).alloc (Nat.le_refl _) _)).trans (hb1.mono (by simp)));have hbox:w1.heap[w.heap.size]?=some (.cells #[.int .i64 0,.slice none 0 0] 42 (0,0)):=(hb1.block _ (by simp)).trans (fm _ _ rfl);clear hs hb1;obtain⟨cd,hcd⟩:∃cd,cd=(eI st jh).2:=⟨_,rfl⟩;rw[← hcd];have HCD:=hid hcd;clear hcd;have c0:w1.cell? ⟨w.heap.size,0,none⟩=some (.int .i64 0):=by rw[cell_of_row _ _ _ _ _ _ hbox];rfl
 have c1:w1.cell? ⟨w.heap.size,1,none⟩=some (.slice none 0 0):=by rw[cell_of_row _ _ _ _ _ _ hbox];rfl
 have z:∀j:Nat,w1.frozen? ⟨w.heap.size,j,none⟩=false:=λj=>frozen_of_row _ _ _ _ _ hbox;by_cases h0:cd=0
 ·obtain rfl:cd=0:=h0
  have HBX:=hid hbox;clear hbox
  go_wp2_with fail
  refine(HR.out (by rw[← HCD.out]) s w1 HS.out).mono ?_;rintro e w2 ⟨hb2,cd,g,l,v,hP,hv,hvb,rfl⟩;have B2:=hid (B1.out.trans (hb2.mono B1.out.size));have HQ:=hid (And.intro hP (And.intro hv hvb));have hlt:w.heap.size<w1.heap.size:=lt_of_block HBX.out;have hbox:=(hb2.block _ hlt).trans HBX.out;obtain⟨a2,n2,c2,rfl⟩:=aB hv;have e0:w2.cell? ⟨w.heap.size,0,none⟩=some (.int .i64 0):=by rw[cell_of_row _ _ _ _ _ _ hbox];rfl
  have e1:w2.cell? ⟨w.heap.size,1,none⟩=some (.slice none 0 0):=by rw[cell_of_row _ _ _ _ _ _ hbox];rfl
  have z2:∀j:Nat,w2.frozen? ⟨w.heap.size,j,none⟩=false:=λj=>frozen_of_row _ _ _ _ _ hbox;clear hb2 hP hv hvb hbox c0 c1 z;go_wp2;refine bodyPost_ret (v:=.tuple #[.agg #[.int .i64 g,.slice a2 n2 c2],.int .i64 cd]) (by simp[results,results13,go_sem,e0,e1]) rfl ⟨?_,cd,g,l,_,HQ.out.1,?_,λj e=>?_,rfl⟩
  ·exact(B2.out.setCell (p:=⟨w.heap.size,0,none⟩) (Nat.le_refl _) _).setCell (p:=⟨w.heap.size,1,none⟩) (Nat.le_refl _) _
  ·have hf:=HQ.out.2.2
   exact ownsRow_setCell_other (ownsRow_setCell_other HQ.out.2.1 (λe=>by have:=hf _ e;simp at this;omega) _) (λe=>by have:=hf _ e;simp at this;omega) _
  ·have:=HQ.out.2.2 j e;omega
 ·go_wp2
  refine bodyPost_ret (v:=.tuple #[.agg #[.int .i64 0,.slice none 0 0],.int .i64 cd]) (by simp[results,results13,go_sem,c0,c1]) rfl ⟨?_,cd,0,[],.slice none 0 0,?_,World.ownsRow_nil _ _ _ _,(λj e=>by cases e),rfl⟩
  ·exact(B1.out.setCell (p:=⟨w.heap.size,0,none⟩) (Nat.le_refl _) _).setCell (p:=⟨w.heap.size,1,none⟩) (Nat.le_refl _) _
  ·rw[HCD.out];exact HN.out (by rw[← HCD.out];exact h0)
end
section
open Go.RowKit Go.Sort
theorem jW {l:bI}{u:Value}(h:u∈gJ l):u.oneCell'=true:=by
 unfold gJ at h;obtain⟨x,_,hx⟩:=List.mem_flatMap.1 h;simp at hx
 rcases hx with rfl|rfl<;>rfl
theorem jX {w:World}{b o c n:Nat}{l:bI}(h:bJ w (.slice (some ⟨b,o,none⟩) n c) l){j:Nat}{u:Value}(hj:(gJ l)[j]?=some u):w.cell? ⟨b,o+j,none⟩=some u:=by
 have hlt:j<(gJ l).length:=by rw[List.getElem?_eq_some_iff]at hj;exact hj.1
 rw[gK]at hlt;obtain⟨b',o',e,h1,h2,_⟩:=h.at (j / 2) (by omega);cases e;obtain⟨g1,g2⟩:=gM l (j / 2) (by omega)
 rcases(show j=j / 2*2∨j=j / 2*2+1 from by omega)with e|e
 ·rw[e,g1]at hj
  rw[e,h1];exact hj
 ·rw[e,g2]at hj
  rw[show o+j=o+j / 2*2+1 from by omega,h2];exact hj
theorem jY (w:World)(sv:Value)(l:bI)(hs:bJ w sv l)(h0:0<l.length)(hl:l.length≤1000000) :
  Calls prog 68 #[sv] w λe w'=>∃v,e = .returned v∧gO w' v l∧(∀b,v.ownBlock=some b→w.heap.size≤b)∧Below w.heap.size w w':=by
 obtain⟨a,c,rfl⟩:=hs.shape;obtain⟨b,o,rfl,_,_,hbl⟩:=hs.at 0 h0;have HS:=hid hs;clear hs;have hq:∀w,(binOp .eql 40 (.slice (some ⟨b,o,none⟩) l.length c) (.slice none 0 0)).run prog w = .ok (.bool false) w:=λw=>by have:=Lib.run_eql_slice_nil (P:=prog) w 40 _ (some ⟨b,o,none⟩) l.length c 0 0 underlying40;exact this
 go_enter func68,ntmps68
 have hrow:(w.alloc (.cells #[] 48)).ownsRow w.heap.size 48 2 (.slice (some ⟨w.heap.size,0,none⟩) 0 0) 0 []:=⟨rfl,.inr ⟨w.heap.size,0,#[],rfl,Nat.le_refl _,fm _ _ rfl,by omega,by simp,rfl,rfl⟩⟩;have HR:=hid hrow;have HN:=hid (show ∀j u,(gJ l)[j]?=some u→(w.alloc (.cells #[] 48)).cell? ((⟨b,o,none⟩:Addr).add j)=some u from λj u hj=>by
  rw[show(⟨b,o,none⟩:Addr).add j=⟨b,o+j,none⟩from by unfold Addr.add;split<;>simp_all,World.cell?_alloc_past _ _ _ hbl];exact jX HS.out hj)
 have HL:=hid (gK l);obtain⟨i0,hi,hz0,hz1,hz2⟩:=info_parts Tryz.infoEntry;have HI:=hid hi;have HZ0:=hid hz0;have HZ1:=hid hz1;have HZ2:=hid hz2;clear hi hz0 hz1 hz2 hrow
 go_wp2_with (first
  | (refine wpList_append_lies _ rfl _ _ 40 rfl w.heap.size 48 i0 _ 2 16 underlying40 HI.out HZ0.out HZ1.out HZ2.out rfl (by omega) _ 0 [] rfl HR.out ⟨b,o,none⟩ l.length c (gJ l) rfl HL.out HN.out (λu hu=>jW hu) h0 (by unfold maxLen;omega) (by omega) (by simp) (w.heap.size+1) (by simp) ?_;intro gg cap w8 hown8 hgrow8 hat8 hlt8))
 simp only[Nat.zero_add,List.nil_append]at hown8 ⊢;go_ret;exact⟨_,rfl,az hown8 (λ_ _=>Nat.zero_le _),λj e=>gt hown8 e,((Below.refl _ _).alloc (Nat.le_refl _) _).grown hgrow8 (by simp) (λj e=>by cases e;exact Nat.le_refl _)⟩
theorem jZ (w:World):w.drew.heap=w.heap:=rfl
theorem j3 {w:World}{v:Value}{l:bI}{x y:Int}(h:w.ownsRow 0 48 2 v (l.length+1) (gJ l++[.int .i64 x,.int .i64 y])):gO w v (l++[(x,y)]):=by
 unfold gO;rw[gN,List.length_append];exact h
theorem j4 {a b c:Nat}(h:some a=some b∨b=c):b=a∨b=c:=h.imp (λe=>(Option.some.inj e).symm) id
theorem j5 {p q:Value}{j:Nat}{u:Value}(h:[p,q][j]?=some u):j=0∧u=p∨j=1∧u=q:=by
 rcases j with _|_|j
 ·exact .inl ⟨rfl,by simpa[eq_comm]using h⟩
 ·exact .inr ⟨rfl,by simpa[eq_comm]using h⟩
 ·simp at h
theorem j6 (n j:Nat):(⟨n,0,none⟩:Addr).add j=⟨n,j,none⟩:=by unfold Addr.add;split<;>simp_all
theorem j7 {w:World}{v:Value}{l:bI}(h:gO w v l)(h0:0<l.length):∃g c,v = .slice (some ⟨g,0,none⟩) l.length c:=by
 rcases h.2 with⟨_,hn⟩|⟨g,cap,cur,hv,_⟩
 ·omega
 ·exact⟨g,cap,hv⟩
theorem j8 {w:World}{g n c:Nat}{l:bI}(h:gO w (.slice (some ⟨g,0,none⟩) n c) l):g<w.heap.size:=by
 rcases h.2 with⟨hv,_⟩|⟨g',cap,cur,hv,_,hh,_⟩
 ·cases hv
 ·cases hv;exact lt_of_block hh
def j9 (g:Int)(l:bI)(x y:Int)(w:World)(e:Ending)(w':World):Prop:=
 Below w.heap.size w w'∧if bL g (l++[(x,y)]) then ∃v,gO w' v (l++[(x,y)])∧(∀b,v.ownBlock=some b→w.heap.size≤b)∧e = .returned (.tuple #[.agg #[.int .i64 g,v],.int .i64 0]) else e = .returned (.tuple #[gG,.int .i64 4])
theorem ka (w:World)(g:Int)(sv:Value)(l:bI)(hs:bJ w sv l)(hm:bL g l=true)(x y:Int) :
  Calls prog 108 #[.agg #[.int .i64 g,sv],.agg #[.int .i64 x,.int .i64 y]] w λe w'=>j9 g l x y w e w':=by
 obtain⟨a,c,rfl⟩:=hs.shape;obtain⟨_,_,hl0,hl1,_⟩:=gm hm;have HS:=hid hs;have HM:=hid hm;clear hs hm
 go_enter func108,ntmps108
 go_wp2_with fail
 have hbz:Below w.heap.size w (((w.alloc (.cells #[.int .i64 g,.slice a l.length c] 42)).alloc (.cells #[.int .i64 x,.int .i64 y] 48)).alloc (.cells #[.int .i64 0,.slice none 0 0] 42)):=((((Below.refl _ _).alloc (Nat.le_refl _) _).alloc (by simp) _).alloc (by simp;omega) _);have b0:(((w.alloc (.cells #[.int .i64 g,.slice a l.length c] 42)).alloc (.cells #[.int .i64 x,.int .i64 y] 48)).alloc (.cells #[.int .i64 0,.slice none 0 0] 42)).heap[w.heap.size]?=some (.cells #[.int .i64 g,.slice a l.length c] 42 (0,0)):=(Below.heap_alloc _ _ _ (by simp;omega)).trans ((Below.heap_alloc _ _ _ (by simp)).trans (fm _ _ rfl));have b1:(((w.alloc (.cells #[.int .i64 g,.slice a l.length c] 42)).alloc (.cells #[.int .i64 x,.int .i64 y] 48)).alloc (.cells #[.int .i64 0,.slice none 0 0] 42)).heap[w.heap.size+1]?=some (.cells #[.int .i64 x,.int .i64 y] 48 (0,0)):=(Below.heap_alloc _ _ _ (by simp)).trans (fm _ _ (by simp));have b2:(((w.alloc (.cells #[.int .i64 g,.slice a l.length c] 42)).alloc (.cells #[.int .i64 x,.int .i64 y] 48)).alloc (.cells #[.int .i64 0,.slice none 0 0] 42)).heap[w.heap.size+1+1]?=some (.cells #[.int .i64 0,.slice none 0 0] 42 (0,0)):=fm _ _ (by simp);have hsz:w.heap.size+3=(((w.alloc (.cells #[.int .i64 g,.slice a l.length c] 42)).alloc (.cells #[.int .i64 x,.int .i64 y] 48)).alloc (.cells #[.int .i64 0,.slice none 0 0] 42)).heap.size:=by simp
 generalize (((w.alloc (.cells #[.int .i64 g,.slice a l.length c] 42)).alloc (.cells #[.int .i64 x,.int .i64 y] 48)).alloc (.cells #[.int .i64 0,.slice none 0 0] 42))=w0 at *
 have hsz1:w.heap.size+1+1<w0.heap.size:=by omega
 have hszB:w.heap.size+1<w0.heap.size:=by omega
 have hszA:w.heap.size<w0.heap.size:=by omega
 have HBZ:=hid hbz;have HB0:=hid b0;have HB1:=hid b1;have HB2:=hid b2;have HCON:=hid (show ∀W,Below w0.heap.size w0 W→Calls prog 68 #[.slice a l.length c] W λe W'=>∃v,e = .returned v∧gO W' v l∧(∀b,v.ownBlock=some b→W.heap.size≤b)∧Below W.heap.size W W' from λW hW=>jY W _ l (HS.out.pure (hbz.trans (hW.mono hbz.size))) hl0 (by omega));clear hbz b0 b1 b2 hsz;have m0:w0.cell? ⟨w.heap.size,0,none⟩=some (.int .i64 g):=by rw[cell_of_row _ _ _ _ _ _ HB0.out];rfl
 have m1:w0.cell? ⟨w.heap.size,1,none⟩=some (.slice a l.length c):=by rw[cell_of_row _ _ _ _ _ _ HB0.out];rfl
 have x0:w0.cell? ⟨w.heap.size+1,0,none⟩=some (.int .i64 x):=by rw[cell_of_row _ _ _ _ _ _ HB1.out];rfl
 have x1:w0.cell? ⟨w.heap.size+1,1,none⟩=some (.int .i64 y):=by rw[cell_of_row _ _ _ _ _ _ HB1.out];rfl
 have hD:Below w0.heap.size w0 w0.drew:=(Below.refl _ _).drew;have hE:Below w0.heap.size w0 (w0.drew.alloc (.cells #[.int .i64 x,.int .i64 y] 48)):=hD.alloc (Nat.le_refl _) _;have HD:=hid hD;have HE:=hid hE;clear hD hE;obtain⟨i0,hi,hz0,hz1,hz2⟩:=info_parts Tryz.infoEntry;have HI:=hid hi;have HZ0:=hid hz0;have HZ1:=hid hz1;have HZ2:=hid hz2;clear hi hz0 hz1 hz2
 go_cut [6] (λs wx=>∃q v,s = .pointer (some ⟨q,0,none⟩)∧wx.heap[q]?=some (.cells #[.int .i64 g,v] 42 (0,0))∧w0.heap.size≤q∧gO wx v (l++[(x,y)])∧(∀j,v.ownBlock=some j→w0.heap.size≤j)∧Below w0.heap.size w0 wx)
 case first=>
  go_region_held3 (λw'=>w'.cell? ⟨w.heap.size,0,none⟩=some (.int .i64 g)∧w'.cell? ⟨w.heap.size,1,none⟩=some (.slice a l.length c)∧w'.cell? ⟨w.heap.size+1,0,none⟩=some (.int .i64 x)∧w'.cell? ⟨w.heap.size+1,1,none⟩=some (.int .i64 y)) (first|exact⟨m0,m1,x0,x1⟩|exact⟨q0,q1,q2,q3⟩|exact⟨y0,y9,y1,y2⟩|(simp;exact⟨m0,m1,x0,x1⟩)|(refine⟨?_,?_,?_,?_⟩<;>((repeat rw[World.cell?_setCell_other _ _ _ _ (by intro e;have e2:=congrArg Addr.block e;simp at e2;omega)]);first|exact q0|exact q1|exact q2|exact q3))|go_keep) (first
   | (go_at_call 68;refine(HCON.out _ (by repeat (first|exact HD.out|exact Below.refl _ _|refine Below.drew ?_|refine Below.alloc ?_ (by first|(simp;done)|(simp;omega)|omega) _))).mono ?_;rintro e W1 ⟨v1,rfl,hv1,hvb1,hb1⟩;obtain⟨g1,c1,rfl⟩:=j7 hv1 hl0;have hg1:=hvb1 g1 rfl;have hg2:=j8 hv1;have hz1:=hb1.size;have BW:=Below.trans (show Below w0.heap.size w0 _ from(by repeat (first|exact HD.out|exact Below.refl _ _|refine Below.drew ?_|refine Below.alloc ?_ (by first|(simp;done)|(simp;omega)|omega) _))) (hb1.mono (by first|(simp;done)|(simp;omega)|omega));have y0:=(BW.cell (p:=⟨w.heap.size,0,none⟩) hszA).trans m0;have y9:=(BW.cell (p:=⟨w.heap.size,1,none⟩) hszA).trans m1;have y1:=(BW.cell (p:=⟨w.heap.size+1,0,none⟩) hszB).trans x0;have y2:=(BW.cell (p:=⟨w.heap.size+1,1,none⟩) hszB).trans x1;have HK:=hid (λ(b o:Nat) (v:Value) (h:World.cell? _ ⟨b,o,none⟩=some v)=>(hb1.cell (p:=⟨b,o,none⟩) (aw h)).trans h);have HKB:=hid (λ(b:Nat) (o:Obj) (h:(World.heap _)[b]?=some o)=>(hb1.block b (lt_of_block h)).trans h);simp at hg1 hz1;have hlA:w.heap.size<W1.heap.size:=(by omega);have hlB:w.heap.size+1<W1.heap.size:=(by omega);have HV:=hid hv1;have HB1:=hid BW;clear hv1 hvb1 hb1 BW)
   | (refine step_append_lies _ (by rfl) _ _ _ (by rfl) 0 48 i0 _ 2 16 underlying40 HI.out HZ0.out HZ1.out HZ2.out rfl (by omega) _ l.length (gJ l) (by rfl) (by repeat (first|exact HV.out|refine World.ownsRow.alloc ?_ _)) _ 1 1 [.int .i64 x,.int .i64 y] (by rfl) (by rfl) (by intro j u hj;have hj2:j=0∧u = .int .i64 x∨j=1∧u = .int .i64 y:=j5 hj;rcases hj2 with⟨rfl,rfl⟩|⟨rfl,rfl⟩<;>(rw[j6];((try rw[World.cell?_drew]);(repeat rw[World.cell?_alloc_past _ _ _ (by first|(simp;done)|(simp;omega)|omega)]));first|(rw[World.cell?_alloc_at _ _ _ _ (by first|(simp;done)|(simp;omega)|omega)];rfl)|(refine HK.out _ _ _ ?_;((try rw[World.cell?_drew]);(repeat rw[World.cell?_alloc_past _ _ _ (by first|(simp;done)|(simp;omega)|omega)]));(rw[World.cell?_alloc_at _ _ _ _ (by first|(simp;done)|(simp;omega)|omega)];rfl)))) (by simp[Value.oneCell']) (by omega) (by unfold maxLen;omega) (by omega) (Nat.zero_le _) _ (by rfl) ?_;intro gg cap w8 hown8 hgrow8 hat8 hlt8;have BW8:=Below.grown (show Below w0.heap.size w0 _ from(by repeat (first|exact HB1.out|refine Below.drew ?_|refine Below.alloc ?_ (by first|(simp;done)|(simp;omega)|omega) _))) hgrow8 (by first|(simp;done)|(simp;omega)|omega) (λk e=>by have e2:=Option.some.inj (show some g1=some k from e);omega);have q0:=(BW8.cell (p:=⟨w.heap.size,0,none⟩) hszA).trans m0;have q1:=(BW8.cell (p:=⟨w.heap.size,1,none⟩) hszA).trans m1;have q2:=(BW8.cell (p:=⟨w.heap.size+1,0,none⟩) hszB).trans x0;have q3:=(BW8.cell (p:=⟨w.heap.size+1,1,none⟩) hszB).trans x1;(first|(have z8:w8.heap[W1.heap.size]?=some (.cells #[.int .i64 0,.slice none 0 0] 42 (0,0)):=(hgrow8.block _ (by first|(simp;done)|(simp;omega)|omega) (λe=>by have e2:=Option.some.inj (show some (W1.heap.size)=some g1 from e);omega)).trans (by((try rw[jZ]);(repeat rw[Below.heap_alloc _ _ _ (by first|(simp;done)|(simp;omega)|omega)]));first|exact fm _ _ (by first|(simp;done)|(simp;omega)|omega)|(refine HKB.out _ _ ?_;((try rw[jZ]);(repeat rw[Below.heap_alloc _ _ _ (by first|(simp;done)|(simp;omega)|omega)]));exact fm _ _ (by first|(simp;done)|(simp;omega)|omega)));have c8:w8.cell? ⟨W1.heap.size,0,none⟩=some (.int .i64 0):=(cell_of_row w8 _ 0 _ _ _ z8).trans rfl;have c9:w8.cell? ⟨W1.heap.size,1,none⟩=some (.slice none 0 0):=(cell_of_row w8 _ 1 _ _ _ z8).trans rfl;have f8:w8.frozen? ⟨W1.heap.size,0,none⟩=false:=frozen_of_row w8 _ 0 _ _ z8;have f9:w8.frozen? ⟨W1.heap.size,1,none⟩=false:=frozen_of_row w8 _ 1 _ _ z8;have HZ8:=hid z8;clear z8)|(have z8:w8.heap[W1.heap.size+1]?=some (.cells #[.int .i64 0,.slice none 0 0] 42 (0,0)):=(hgrow8.block _ (by first|(simp;done)|(simp;omega)|omega) (λe=>by have e2:=Option.some.inj (show some (W1.heap.size+1)=some g1 from e);omega)).trans (by((try rw[jZ]);(repeat rw[Below.heap_alloc _ _ _ (by first|(simp;done)|(simp;omega)|omega)]));first|exact fm _ _ (by first|(simp;done)|(simp;omega)|omega)|(refine HKB.out _ _ ?_;((try rw[jZ]);(repeat rw[Below.heap_alloc _ _ _ (by first|(simp;done)|(simp;omega)|omega)]));exact fm _ _ (by first|(simp;done)|(simp;omega)|omega)));have c8:w8.cell? ⟨W1.heap.size+1,0,none⟩=some (.int .i64 0):=(cell_of_row w8 _ 0 _ _ _ z8).trans rfl;have c9:w8.cell? ⟨W1.heap.size+1,1,none⟩=some (.slice none 0 0):=(cell_of_row w8 _ 1 _ _ _ z8).trans rfl;have f8:w8.frozen? ⟨W1.heap.size+1,0,none⟩=false:=frozen_of_row w8 _ 0 _ _ z8;have f9:w8.frozen? ⟨W1.heap.size+1,1,none⟩=false:=frozen_of_row w8 _ 1 _ _ z8;have HZ8:=hid z8;clear z8)|(have z8:w8.heap[w0.heap.size]?=some (.cells #[.int .i64 0,.slice none 0 0] 42 (0,0)):=(hgrow8.block _ (by first|(simp;done)|(simp;omega)|omega) (λe=>by have e2:=Option.some.inj (show some (w0.heap.size)=some g1 from e);omega)).trans (by((try rw[jZ]);(repeat rw[Below.heap_alloc _ _ _ (by first|(simp;done)|(simp;omega)|omega)]));first|exact fm _ _ (by first|(simp;done)|(simp;omega)|omega)|(refine HKB.out _ _ ?_;((try rw[jZ]);(repeat rw[Below.heap_alloc _ _ _ (by first|(simp;done)|(simp;omega)|omega)]));exact fm _ _ (by first|(simp;done)|(simp;omega)|omega)));have c8:w8.cell? ⟨w0.heap.size,0,none⟩=some (.int .i64 0):=(cell_of_row w8 _ 0 _ _ _ z8).trans rfl;have c9:w8.cell? ⟨w0.heap.size,1,none⟩=some (.slice none 0 0):=(cell_of_row w8 _ 1 _ _ _ z8).trans rfl;have f8:w8.frozen? ⟨w0.heap.size,0,none⟩=false:=frozen_of_row w8 _ 0 _ _ z8;have f9:w8.frozen? ⟨w0.heap.size,1,none⟩=false:=frozen_of_row w8 _ 1 _ _ z8;have HZ8:=hid z8;clear z8)|(have z8:w8.heap[w0.heap.size+1]?=some (.cells #[.int .i64 0,.slice none 0 0] 42 (0,0)):=(hgrow8.block _ (by first|(simp;done)|(simp;omega)|omega) (λe=>by have e2:=Option.some.inj (show some (w0.heap.size+1)=some g1 from e);omega)).trans (by((try rw[jZ]);(repeat rw[Below.heap_alloc _ _ _ (by first|(simp;done)|(simp;omega)|omega)]));first|exact fm _ _ (by first|(simp;done)|(simp;omega)|omega)|(refine HKB.out _ _ ?_;((try rw[jZ]);(repeat rw[Below.heap_alloc _ _ _ (by first|(simp;done)|(simp;omega)|omega)]));exact fm _ _ (by first|(simp;done)|(simp;omega)|omega)));have c8:w8.cell? ⟨w0.heap.size+1,0,none⟩=some (.int .i64 0):=(cell_of_row w8 _ 0 _ _ _ z8).trans rfl;have c9:w8.cell? ⟨w0.heap.size+1,1,none⟩=some (.slice none 0 0):=(cell_of_row w8 _ 1 _ _ _ z8).trans rfl;have f8:w8.frozen? ⟨w0.heap.size+1,0,none⟩=false:=frozen_of_row w8 _ 0 _ _ z8;have f9:w8.frozen? ⟨w0.heap.size+1,1,none⟩=false:=frozen_of_row w8 _ 1 _ _ z8;have HZ8:=hid z8;clear z8)|skip);have HB8:=hid BW8;have HO8:=hid (j3 hown8);have hgg:=j4 (show some g1=some gg∨gg=_ from hat8);(try simp at hgg);clear BW8 hown8 hgrow8 hat8))
  all_goals (go_wp2_with fail;go_meet;first|exact⟨w8.heap.size,_,rfl,fm _ _ rfl,HB8.out.size,World.ownsRow.alloc HO8.out _,(λj e=>by have e2:=Option.some.inj e;simp at e2;omega),HB8.out.alloc HB8.out.size _⟩|exact⟨(W1.heap.size),_,rfl,heap_setCell_same _ _ 1 _ _ _ (heap_setCell_same w8 _ 0 _ _ _ HZ8.out),(by first|(simp;done)|(simp;omega)|omega),ownsRow_setCell_other (ownsRow_setCell_other HO8.out (λe=>by have e2:=Option.some.inj e;simp at e2;omega) _) (λe=>by have e2:=Option.some.inj e;simp at e2;omega) _,(λj e=>by have e2:=Option.some.inj e;simp at e2;omega),(HB8.out.setCell (by first|(simp;done)|(simp;omega)|omega) _).setCell (by first|(simp;done)|(simp;omega)|omega) _⟩|exact⟨(W1.heap.size+1),_,rfl,heap_setCell_same _ _ 1 _ _ _ (heap_setCell_same w8 _ 0 _ _ _ HZ8.out),(by first|(simp;done)|(simp;omega)|omega),ownsRow_setCell_other (ownsRow_setCell_other HO8.out (λe=>by have e2:=Option.some.inj e;simp at e2;omega) _) (λe=>by have e2:=Option.some.inj e;simp at e2;omega) _,(λj e=>by have e2:=Option.some.inj e;simp at e2;omega),(HB8.out.setCell (by first|(simp;done)|(simp;omega)|omega) _).setCell (by first|(simp;done)|(simp;omega)|omega) _⟩|exact⟨(w0.heap.size),_,rfl,heap_setCell_same _ _ 1 _ _ _ (heap_setCell_same w8 _ 0 _ _ _ HZ8.out),(by first|(simp;done)|(simp;omega)|omega),ownsRow_setCell_other (ownsRow_setCell_other HO8.out (λe=>by have e2:=Option.some.inj e;simp at e2;omega) _) (λe=>by have e2:=Option.some.inj e;simp at e2;omega) _,(λj e=>by have e2:=Option.some.inj e;simp at e2;omega),(HB8.out.setCell (by first|(simp;done)|(simp;omega)|omega) _).setCell (by first|(simp;done)|(simp;omega)|omega) _⟩|exact⟨(w0.heap.size+1),_,rfl,heap_setCell_same _ _ 1 _ _ _ (heap_setCell_same w8 _ 0 _ _ _ HZ8.out),(by first|(simp;done)|(simp;omega)|omega),ownsRow_setCell_other (ownsRow_setCell_other HO8.out (λe=>by have e2:=Option.some.inj e;simp at e2;omega) _) (λe=>by have e2:=Option.some.inj e;simp at e2;omega) _,(λj e=>by have e2:=Option.some.inj e;simp at e2;omega),(HB8.out.setCell (by first|(simp;done)|(simp;omega)|omega) _).setCell (by first|(simp;done)|(simp;omega)|omega) _⟩)
 case rest=>
  obtain⟨q,v,rfl,hq,hqg,hv,hvb,hbw⟩:=hcut;obtain⟨a2,n2,c2,rfl⟩:=aB hv;have HV:=hid hv;have BC:=hid (HBZ.out.trans (hbw.mono HBZ.out.size));have b0:=(hbw.block _ hszA).trans HB0.out;have b2:=(hbw.block _ hsz1).trans HB2.out;have m0:wc.cell? ⟨w.heap.size,0,none⟩=some (.int .i64 g):=by rw[cell_of_row _ _ _ _ _ _ b0];rfl
  have m1:wc.cell? ⟨w.heap.size,1,none⟩=some (.slice a l.length c):=by rw[cell_of_row _ _ _ _ _ _ b0];rfl
  have HBC:=hid (And.intro hq b2);have hwc:=hbw.size;have hql:=lt_of_block hq;have hll:(l++[(x,y)]).length≤65:=by rw[List.length_append];simp;omega
  clear hq hv hbw b0 b2 x0 x1
  go_wp2_with fail
  refine(bQ wc g (.slice a l.length c) l (HS.out.pure BC.out) (by omega)).mono ?_;rintro e w2 ⟨rfl,hb2⟩;rw[HM.out];have B2:=hid (BC.out.trans (hb2.mono BC.out.size));have HV2:=hid ((Fr.pure (S:=λ_=>False) hb2).ownsRow HV.out (λ_ _ h=>h));have bq:=(hb2.block _ hql).trans HBC.out.1;have q0:w2.cell? ⟨q,0,none⟩=some (.int .i64 g):=by rw[cell_of_row _ _ _ _ _ _ bq];rfl
  have q1:w2.cell? ⟨q,1,none⟩=some (.slice a2 n2 c2):=by rw[cell_of_row _ _ _ _ _ _ bq];rfl
  have HB2:=hid (And.intro bq ((hb2.block _ (by omega)).trans HBC.out.2));have hs2:=hb2.size;clear hb2 bq
  go_wp2_with fail
  refine(bQ w2 g (.slice a2 n2 c2) (l++[(x,y)]) (gO.at HV2.out) (by omega)).mono ?_;rintro e w3 ⟨rfl,hb3⟩;have B3:=hid (B2.out.trans (hb3.mono B2.out.size));have HV3:=hid ((Fr.pure (S:=λ_=>False) hb3).ownsRow HV2.out (λ_ _ h=>h));have bq:=(hb3.block _ (by omega)).trans HB2.out.1;have br:=(hb3.block _ (by omega)).trans HB2.out.2;have q0:w3.cell? ⟨q,0,none⟩=some (.int .i64 g):=by rw[cell_of_row _ _ _ _ _ _ bq];rfl
  have q1:w3.cell? ⟨q,1,none⟩=some (.slice a2 n2 c2):=by rw[cell_of_row _ _ _ _ _ _ bq];rfl
  have r0:w3.cell? ⟨w.heap.size+1+1,0,none⟩=some (.int .i64 0):=by rw[cell_of_row _ _ _ _ _ _ br];rfl
  have r1:w3.cell? ⟨w.heap.size+1+1,1,none⟩=some (.slice none 0 0):=by rw[cell_of_row _ _ _ _ _ _ br];rfl
  have z:∀j:Nat,w3.frozen? ⟨w.heap.size+1+1,j,none⟩=false:=λj=>frozen_of_row _ _ _ _ _ br;have hs3:=hb3.size;clear hb3 bq br;cases hm2:bL g (l++[(x,y)])
  ·have HM2:=hid hm2
   clear hm2;go_wp2;refine bodyPost_ret (v:=.tuple #[gG,.int .i64 4]) (by simp[results,results108,go_sem,r0,r1];rfl) rfl ⟨?_,?_⟩
   ·exact(B3.out.setCell (p:=⟨w.heap.size+1+1,0,none⟩) (by show w.heap.size≤w.heap.size+1+1;omega) _).setCell (p:=⟨w.heap.size+1+1,1,none⟩) (by show w.heap.size≤w.heap.size+1+1;omega) _
   ·rw[HM2.out];rfl
  ·have HM2:=hid hm2
   clear hm2;go_wp2;refine bodyPost_ret (v:=.tuple #[.agg #[.int .i64 g,.slice a2 n2 c2],.int .i64 0]) (by simp[results,results108,go_sem,r0,r1]) rfl ⟨?_,?_⟩
   ·exact(B3.out.setCell (p:=⟨w.heap.size+1+1,0,none⟩) (by show w.heap.size≤w.heap.size+1+1;omega) _).setCell (p:=⟨w.heap.size+1+1,1,none⟩) (by show w.heap.size≤w.heap.size+1+1;omega) _
   ·rw[HM2.out]
    refine⟨_,?_,λj e=>by have:=hvb j e;omega,rfl⟩;exact ownsRow_setCell_other (ownsRow_setCell_other HV3.out (λe=>by have:=hvb _ e;simp at this;omega) _) (λe=>by have:=hvb _ e;simp at this;omega) _
end
section
open Go.RowKit
def kB (q:Int)(l:bI):Nat:=(l.takeWhile λs=>decide (s.2≤q)).length
theorem kC {g last:Int}{l:bI}(h:bK g last l=true):∀s∈l,last<s.2:=by
 induction l generalizing last with
 | nil=>simp
 | cons s r ih=>
  obtain⟨a,f⟩:=s;simp only[bK,Bool.and_eq_true,decide_eq_true_eq]at h;intro t ht
  rcases List.mem_cons.1 ht with rfl|ht
  ·exact h.1.1.2
  ·have:=ih h.2 t ht;omega
theorem kD {q:Int}{l:bI}(h:∀s∈l,q<s.2)(k:Nat)(a:Int):cj q k a l=a:=by
 induction l generalizing k a with
 | nil=>rfl
 | cons s r ih=>
  have h1:=h s (by simp);show cj q (k+1) (if s.2≤q then (k:Int) else a) r=a;rw[if_neg (by omega),ih (λt ht=>h t (by simp[ht]))]
theorem kE {g q:Int}{l:bI}:∀{last:Int},bK g last l=true→∀(k:Nat) (a:Int),cj q k a l=if kB q l=0 then a else (k:Int)+(kB q l:Int)-1:=by
 induction l with
 | nil=>intro _ _ k a;rfl
 | cons s r ih=>
  intro last h k a;have h2:bK g s.2 r=true:=by simp only[bK,Bool.and_eq_true]at h;exact h.2
  show cj q (k+1) (if s.2≤q then (k:Int) else a) r=_;by_cases hs:s.2≤q
  ·have e:kB q (s::r)=kB q r+1:=by unfold kB;rw[List.takeWhile_cons,show decide (s.2≤q)=true from by simpa using hs];simp
   rw[if_pos hs,ih h2,e,if_neg (show ¬kB q r+1=0 by omega)]
   split<;>omega
  ·have e:kB q (s::r)=0:=by unfold kB;rw[List.takeWhile_cons,show decide (s.2≤q)=false from by simpa using hs];rfl
   rw[if_neg hs,e,if_pos rfl];exact kD (λt ht=>by have:=kC h2 t ht;omega) _ _
theorem kF {g:Int}{l:bI}(h:bL g l=true):bK g (-1) l=true:=by
 simp only[bL,Bool.and_eq_true]at h;exact h.1.1.1.1
theorem kG {g q:Int}{l:bI}(h:bL g l=true):ck l q=(kB q l:Int)-1:=by
 unfold ck;rw[kE (kF h)];split<;>omega
theorem kH (q:Int)(l:bI):kB q l≤l.length:=(List.takeWhile_sublist _).length_le
theorem kI {q:Int}{l:bI}{i:Nat}(h:i<kB q l)(hi:i<l.length):l[i].2≤q:=by
 induction l generalizing i with
 | nil=>simp at hi
 | cons s r ih=>
  unfold kB at h ih;rw[List.takeWhile_cons]at h
  split at h
  ·rename_i hs
   cases i with
   | zero=>simpa using hs
   | succ i=>exact ih (by simpa using h) (by simpa using hi)
  ·simp at h
theorem kJ {q:Int}{l:bI}(h:kB q l<l.length):q<l[kB q l].2:=by
 induction l with
 | nil=>simp at h
 | cons s r ih=>
  by_cases hs:s.2≤q
  ·have e:kB q (s::r)=kB q r+1:=by unfold kB;rw[List.takeWhile_cons,show decide (s.2≤q)=true from by simpa using hs];simp
   have h2:kB q r<r.length:=by rw[e]at h;simpa using h
   have:=ih h2;simp only[e,List.getElem_cons_succ];exact this
  ·have e:kB q (s::r)=0:=by unfold kB;rw[List.takeWhile_cons,show decide (s.2≤q)=false from by simpa using hs];rfl
   simp only[e,List.getElem_cons_zero];omega
def kK (l:bI):Int:=(l.getLast?.map (·.2)).getD (-1)
theorem kM {l:bI}(h:0<l.length):kK l=(l[l.length-1]'(by omega)).2:=by
 unfold kK;rw[List.getLast?_eq_getElem?,List.getElem?_eq_getElem (by omega)];rfl
end
section
structure Cfg where
 ss:Int
 ev:Int
 v:Int
def kN (c:Cfg):Bool:=decide (64≤c.ss) && decide (c.ss≤65536) && (decide (1≤c.ev) && decide (c.ev≤64)) && (decide (1≤c.v) && decide (c.v≤3))
abbrev kP:=Nat×List (List UInt8)
def kP.next (x:kP):Nat:=x.1+x.2.length
def kP.good (x:kP):Nat:=(iR x.1 x.2).length
def kQ (s:List UInt8):Int×kP:=
 if (iO s).1≠0 then ((iO s).1,(0,[])) else (0,((iO s).2,iD s.length (iO s).2 (s.drop 16)))
structure kR where
 cfg:Cfg
 gen:Int
 segs:bI
 ix:List kP
def kR.lastIx (l:kR):kP:=l.ix.getLast?.getD (0,[])
def kR.next (l:kR):Nat:=l.lastIx.next
def kR.first (l:kR):Int:=(l.segs.head?.map (·.2)).getD 0
def kR.name (l:kR):List UInt8:=(l.segs.getLast?.map gu).getD []
def kT {σ:Type}:List (σ→σ×Int)→σ→σ×Int
 | [],s=>(s,0)
 | f::r,s=>if (f s).2≠0 then f s else kT r (f s).1
def kU (n:List UInt8)(st:cZ):cZ×Int:=((eh st n).1,if (eh st n).2=5 then 0 else (eh st n).2)
def kV (n:List UInt8)(s:cZ→cZ×Int)(st:cZ):cZ×Int:=
 if (s st).2=44 then (if (eh (s st).1 n).2≠0 then eh (s st).1 n else ((eh (s st).1 n).1,44)) else s st
def kW (n head:List UInt8):List (cZ→cZ×Int):=[λst=>ee st n,kV n (λst=>eR st n head),λst=>eD st n]
def kX (st:cZ)(q:Nat):List (cZ→cZ×Int):=
 st.fs.map (λf=>kU f.name)++(kW (b9 0 q) (iM q)++[kV (b9 0 q) (λst=>jt st 0 [(0,(q:Int))])])
def kY (st:cZ)(first:Int)(c:Cfg):cZ×Int×Option kR:=
 if kN c=false∨bW first=false then (st,1,none)
 else if st.dark then (st,45,none)
 else if (cM st.fs jh).isSome then (st,6,none)
 else if (kT (kX st first.toNat) st).2≠0 then ((kT (kX st first.toNat) st).1,(kT (kX st first.toNat) st).2,none)
 else ((kT (kX st first.toNat) st).1,0,some ⟨c,0,[(0,first)],[(first.toNat,[])]⟩)
def kZ (n:List UInt8):Prop:=∃g f:Nat,g≤99999999∧f≤1048576∧n=b9 g f
open Classical in
noncomputable def la (l:kR) (n:List UInt8):Bool:=decide (kZ n) && !(l.segs.map gu).contains n
def lc (st:cZ)(n:List UInt8)(k:Nat):cZ×Int:=
 if st.dark then (st,45) else match cM st.fs n with
  | none=>(st,5)
  | some f=>if f.firm.length+f.pend.length<k then (st,1) else dZ st (cL st.fs ⟨n,(f.firm++f.pend).take k,[]⟩)
noncomputable def ld (s:cZ×kR):(cZ×kR)×Int:=
 if s.1.dark then (s,45) else let r:=kT (((s.1.fs.map (·.name)).filter (la s.2)).map λn st=>eh st n) s.1;((r.1,s.2),r.2)
def lh (i:Nat)(s:cZ×kR):(cZ×kR)×Int:=
 let own:=s.2.segs.getD i (0,0)
 let rd:=eI s.1 (gu own)
 if rd.2=5 then (s,4) else if rd.2≠0 then (s,rd.2)
 else if (kQ rd.1).1≠0∨((kQ rd.1).2.1:Int)≠own.2 then (s,4)
 else
  let x:=(kQ rd.1).2
  let l':kR:={ s.2 with ix:=s.2.ix++[x] }
  if i+1=s.2.segs.length then
   (if x.good<rd.1.length then let t:=lc s.1 (gu own) x.good;((t.1,l'),t.2) else ((s.1,l'),0))
  else if x.good<rd.1.length then ((s.1,l'),42)
  else if (x.next:Int)≠(s.2.segs.getD (i+1) (0,0)).2 then ((s.1,l'),4)
  else ((s.1,l'),0)
noncomputable def li (n:Nat):List (cZ×kR→(cZ×kR)×Int):=
 (λs=>((((kU jg s.1).1,s.2),(kU jg s.1).2):(cZ×kR)×Int))::ld::(List.range n).map lh
def lj (size n most:Int):Bool:=decide (1≤n) && decide (n≤4096) && (decide (size=16) || decide (size≤most-(16+n)))
def ll (l:kR)(n:Nat)(turn:Bool):Int:=(16+(n:Int))+(if turn then 50+16*(l.segs.length:Int) else 0)
def lm (st:cZ)(l:kR)(n:Nat)(turn:Bool):Int:=
 if st.dark then 45 else if st.cap-(cX st.fs:Int)<ll l n turn∨64-(st.fs.length:Int)<(if turn then 2 else 0) then 44 else 0
def ln (st:cZ)(l:kR):cZ×Int:=eD st l.name
def lp (l:kR):List (cZ→cZ×Int):=
 (λst=>ln st l)::(kW (b9 l.gen l.next) (iM l.next)++[λst=>jt st l.gen (l.segs++[(l.gen,(l.next:Int))])])
def lq (st:cZ)(l:kR):(cZ×kR)×Int:=
 if bL l.gen (l.segs++[(l.gen,(l.next:Int))])=false then ((st,l),4)
 else if (kT (lp l) st).2≠0 then (((kT (lp l) st).1,l),(kT (lp l) st).2)
 else (((kT (lp l) st).1,{ l with segs:=l.segs++[(l.gen,(l.next:Int))],ix:=l.ix++[(l.next,[])] }),0)
def kR.add (l:kR)(p:List UInt8):kR:={ l with ix:=l.ix.dropLast++[(l.lastIx.1,l.lastIx.2++[p])] }
def lr (st:cZ)(l:kR)(p:List UInt8):(cZ×kR)×Int:=
 let r:=eR st l.name (ip l.next p)
 if r.2≠0 then ((r.1,l),r.2) else ((r.1,l.add p),0)
def ls (st:cZ)(l:kR)(p:List UInt8):(cZ×kR)×Int:=
 if p=[] then ((st,l),4)
 else if 4096<p.length∨1048576≤l.next then ((st,l),40)
 else
  let turn:=!lj l.lastIx.good p.length l.cfg.ss
  if lm st l p.length turn≠0 then ((st,l),lm st l p.length turn)
  else if turn then (if (lq st l).2≠0 then lq st l else lr (lq st l).1.1 (lq st l).1.2 p)
  else lr st l p
def kR.all (l:kR):List (List UInt8):=(l.ix.map (·.2)).flatten
def kR.at (l:kR)(k:Nat):List UInt8:=(l.all[k]?).getD []
structure lu (l:kR):Prop where
 cfg:kN l.cfg=true
 may:bL l.gen l.segs=true
 len:l.ix.length=l.segs.length
 each:∀i (h:i<l.segs.length) (h':i<l.ix.length),l.segs[i].2=(l.ix[i].1:Int)∧iE l.ix[i].1 l.ix[i].2∧kP.good l.ix[i]≤1048576
 row:∀i (h:i+1<l.ix.length),l.ix[i+1].1=kP.next l.ix[i]
 top:l.next≤1048576
structure LgOn (st:cZ) (l:kR):Prop where
 man:cM st.fs jh=some ⟨jh,Crc.seal_ (ge l.gen l.segs),[]⟩
 seg:∀i (h:i<l.segs.length) (h':i<l.ix.length),∃f,cM st.fs (gu l.segs[i])=some f∧f.firm++f.pend=iR l.ix[i].1 l.ix[i].2∧16≤f.firm.length∧(i+1<l.segs.length→f.pend=[])
 only:∀f∈st.fs,f.name=jh∨f.name∈l.segs.map gu
end
section
open Go.RowKit Go.Maps Go.Sort
theorem sr (w:World)(g s q r p b k:Nat)(st:cZ)(n f1 f2:ByteArray)(hc:Capt w q r p n)(hk:w.cell? ⟨s,0,none⟩=some (.int .i64 (k:Int)))(hx:BoxAt w g f1 f2)(h:db w p b st)(hn:n.size≤maxLen)
  (f:cy) (hg:cM st.fs n.data.toList=some f) (hf1:f1.data.toList=f.firm) (hf2:f2.data.toList=f.pend) (hkl:k≤f.firm.length+f.pend.length) :
  Calls prog 183 #[.pointer (some ⟨g,0,none⟩),.pointer (some ⟨s,0,none⟩),.pointer (some ⟨q,0,none⟩),.pointer (some ⟨r,0,none⟩)] w λe w'=>d9 p b { st with fs:=cL st.fs ⟨n.data.toList,(f.firm++f.pend).take k,[]⟩ } w e w':=by
 have H:=hid h;have hx1:=hc.cq;have hx2:=hc.cr;have hx3:=hx.c0;have hx4:=hx.c1;obtain⟨c0,c1,c2,c3⟩:=h.cs;have hsm:=h.ok.fs.small f (cW hg).2;have hsz:f1.size+f2.size≤9223372036854775807:=by rw[ao hf1,ao hf2];omega
 have hk1:k≤f1.size+f2.size:=by rw[ao hf1,ao hf2];exact hkl
 have HK:=hid (WideMaps.keyOf_string_mk underlying9 hn);have HF:=hid h.fewer;have hud:=dV (dw h.ok.fs) hg;have hlen:((f.firm++f.pend).take k).length≤f.firm.length+f.pend.length:=by rw[List.length_take,List.length_append];omega
 have HE:=hid (show dW (cL st.fs ⟨n.data.toList,(f.firm++f.pend).take k,[]⟩)∧(cX (cL st.fs ⟨n.data.toList,(f.firm++f.pend).take k,[]⟩):Int)≤st.cap from⟨h.ok.fs.keep.put (by show(cK st.fs n.data.toList).length<64;have:=h.ok.fs.few;omega) (by show((f.firm++f.pend).take k).length+0≤_;omega) (by show n.data.toList.length≤24;rw[← (cW hg).1];exact h.ok.fs.names f (cW hg).2),by rw[dX];have:=h.ok.fits;show(((((f.firm++f.pend).take k).length+0)+cX (cK st.fs n.data.toList):Nat):Int)≤st.cap;omega⟩);obtain⟨w1,hrun,hown1,hturn1⟩:=H.out.drew.own.store (t:=146) (e:=142) Tryz.strKey underlying146 HF.out (key:=.string n) (val:=.agg #[.string ((f1++f2).extract 0 k),.string ⟨#[]⟩]) HK.out (cF _ _);have hcut:((f1++f2).extract 0 k).data.toList=(f.firm++f.pend).take k:=by rw[ap,eH,hf1,hf2,List.drop_zero,Nat.sub_zero]
 have HO:=hid (H.out.drew.turned (fs':=cL st.fs ⟨n.data.toList,(f.firm++f.pend).take k,[]⟩) (by rw[← cR];show w1.ownsMap prog 9 cC b _ ((fsD st.fs).put (.string n.data.toList) (.agg [.lit (.string ((f.firm++f.pend).take k)),.lit (.string [])]));rw[← hcut];exact hown1) hturn1 HE.out.1 HE.out.2);have HT:=hid (dJ hturn1);clear hown1 hturn1 hc h hn hud hsm hg hf1 hf2 hx hlen hcut hkl
 go_enter func183,ntmps183
 go_region
 go_wp2
 go_end0
 exact⟨rfl,HO.out,((Fr.refl _ w).drew.trans HT.out).toD⟩
theorem su {w w':World}{p:Nat}{n:ByteArray}{v:Value}{t1 t2 t3:TypeId}(h:Fr (λ_=>False) (((w.alloc (.cells #[.pointer (some ⟨p,0,none⟩)] t1)).alloc (.cells #[.string n] t2)).alloc (.cells #[v] t3)) w'):Capt w' w.heap.size (w.heap.size+1) p n∧w'.cell? ⟨w.heap.size+2,0,none⟩=some v:=
 ⟨⟨h.cellAt (by rw[World.cell?_alloc_past _ _ _ (by simp;omega),World.cell?_alloc_past _ _ _ (by simp),World.cell?_alloc_at _ _ _ _ rfl];rfl) (λh=>h),h.cellAt (by rw[World.cell?_alloc_past _ _ _ (by simp),World.cell?_alloc_at _ _ _ _ (by simp)];rfl) (λh=>h)⟩,h.cellAt (by rw[World.cell?_alloc_at _ _ _ _ (by simp)];rfl) (λh=>h)⟩
theorem sw (w:World)(p b:Nat)(st:cZ)(h:db w p b st)(n:ByteArray)(k:Nat)(hn:n.size≤maxLen) :
  Calls prog 139 #[.pointer (some ⟨p,0,none⟩),.string n,.int .i64 (k:Int)] w λe w'=>d8 p b (lc st n.data.toList k) w e w':=by
 have hmf:∀(fn:Fn) (first cap:Array Value) (w:World),(Instr.makeFunc fn first cap).run prog w = .ok (.func fn first cap) w:=λ_ _ _ _=>rfl;have hp:=h.lt;have hbl:=h.own.lt;have H:=hid h;have H1:=hid (h.pure (eN w (.cells #[.pointer (some ⟨p,0,none⟩)] 31) (.cells #[.string n] 9) (.cells #[.int .i64 (k:Int)] 3)));clear h
 go_enter func139,ntmps139
 go_wp2_with fail
 refine(dm _ p b st H1.out n hn).mono ?_;intro e w1 hf;cases hd:st.dark
 ·cases hg:cM st.fs n.data.toList with
  | none=>
   obtain⟨hb1,rfl⟩:=ey hf hd hg;have HD:=hid hd;have HG:=hid hg;have hb6:=hid (((eO w _ _ _ hb1).alloc (by have:=hb1.size;simp at this;omega) (.cells #[.string ⟨#[]⟩,.string ⟨#[]⟩] 142)));clear hd hg hf hb1;go_wp2;go_ret;have e1:lc st n.data.toList k=(st,5):=by unfold lc;rw[if_neg (by rw[HD.out];simp),HG.out]
   rw[e1];exact⟨rfl,H.out.pure hb6.out,Fr.pure hb6.out⟩
  | some f=>
   obtain⟨hb1,f1,f2,hf1,hf2,rfl⟩:=ez hf hd hg;have HD:=hid hd;have HG:=hid hg;have HF:=hid (And.intro hf1 hf2);have hs1:=hb1.size;simp at hs1;have HB:=hid (((eO w _ _ _ hb1).alloc (by omega) (.cells #[.string f1,.string f2] 142)));have HC:=hid (su (((Fr.refl _ _).andPure hb1).alloc (.cells #[.string f1,.string f2] 142)));have HX:=hid (eE (Fr.refl (λ_=>False) _):BoxAt (w1.alloc (.cells #[.string f1,.string f2] 142)) w1.heap.size f1 f2);have hsm:=H.out.ok.fs.small f (cW hg).2;have hsz:f1.size+f2.size≤1048576:=by rw[ao hf1,ao hf2];omega
   have hss:f1.size+f2.size=f.firm.length+f.pend.length:=by rw[ao hf1,ao hf2]
   have HSS:=hid hss;have hs2:w1.heap.size<(w1.alloc (.cells #[.string f1,.string f2] 142)).heap.size:=by simp
   clear hd hg hf hb1 hf1 hf2 hsm hss
   go_wp2_with fail
   generalize w1.alloc (.cells #[.string f1,.string f2] 142)=w2 at *
   generalize w1.heap.size=g at *
   have k1:=cell_regrown HC.out.2;have k2:=cell_regrown HX.out.c0;have k3:=cell_regrown HX.out.c1;have hk0:decide ((k:Int)<0)=false:=by simp
   have q1:∀d os,Calls prog 117 #[.agg #[.string f1,.string f2]] (grow (redrawn w2 d) os) λe w''=>e = .returned (.int .i64 ((f1.size+f2.size:Nat):Int))∧∃p:Regrown,w''=grow (redrawn w2 p.d) p.os:=λd os=>Calls.regrown_of (dn _ f1 f2 (by omega));by_cases hb1:f1.size+f2.size<k
   ·have hd1:decide ((f1.size:Int)+(f2.size:Int)<(k:Int))=true:=decide_eq_true (by omega)
    refine wp_region_quiet_below (by kernel_rfl) (by kernel_rfl) ?_
    repeat (go_big_quiet_step (exact q1 _ _))
    refine wpQuiet_nil ?_;intro _ hw';obtain⟨⟨dq,osq⟩,hw''⟩:=hw';subst hw'';have HB3:=hid (HB.out.trans ((below_regrown w2 dq osq).mono (by omega)))
    generalize grow (redrawn w2 dq) osq=w3 at *
    have HB1:=hid hb1;clear hb1;go_wp2;go_ret;have e1:lc st n.data.toList k=(st,1):=by unfold lc;rw[if_neg (by rw[HD.out];simp),HG.out];exact if_pos (by have:=HB1.out;have:=HSS.out;omega)
    rw[e1];exact⟨rfl,H.out.pure HB3.out,Fr.pure HB3.out⟩
   ·have hd1:decide ((f1.size:Int)+(f2.size:Int)<(k:Int))=false:=decide_eq_false (by omega)
    have HB1:=hid hb1;clear hb1;refine wp_region_quiet_below (by kernel_rfl) (by kernel_rfl) ?_
    repeat (go_big_quiet_step (exact q1 _ _))
    refine wpQuiet_nil ?_;intro _ hw';obtain⟨⟨dq,osq⟩,hw''⟩:=hw';subst hw'';have HB2:=hid (below_regrown w2 dq osq);have HB3:=hid (HB.out.trans ((below_regrown w2 dq osq).mono (by omega)));have HC3:=hid (And.intro (HC.out.1.fr (Fr.pure (S:=λ_=>False) HB2.out) (λh=>h) (λh=>h)) ((Fr.pure (S:=λ_=>False) HB2.out).cellAt HC.out.2 (λh=>h)));have HX3:=hid (HX.out.fr (Fr.pure (S:=λ_=>False) HB2.out) (λh=>h));have hs3:=HB2.out.size
    generalize grow (redrawn w2 dq) osq=w3 at *
    have hx1:=HC3.out.1.cq;have hx2:=HC3.out.1.cr;have hx3:=HC3.out.2
    go_wp2_with fail
    refine(dL 183 _ _ p b st (H.out.pure HB3.out) (enters_of func183 (by kernel_rfl) rfl) (λw5=>db w5 p b { st with left:=dec st.left,fs:=cL st.fs ⟨n.data.toList,(f.firm++f.pend).take k,[]⟩ }∧dY p b w3 w5) (λ_ w4 hf1 hs1 hd1=>(sr w4 _ _ _ _ p b k { st with left:=dec st.left } n f1 f2 (HC3.out.1.fr hf1 (by omega) (by omega)) (hf1.cellAt HC3.out.2 (by omega)) (HX3.out.fr hf1 (by omega)) hd1 hn f HG.out HF.out.1 HF.out.2 (by have:=HB1.out;have:=HSS.out;omega)).mono (λe w5 h2=>⟨h2.1,h2.2.1,hf1.toD1.trans h2.2.2⟩))).mono ?_;rintro e w7 (⟨h0,rfl,hf7,hd7⟩|⟨h0,rfl,hd7,hf7⟩)
    ·have H7:=hid hd7
     have F7:=hid hf7;have H0:=hid h0;clear hd7 hf7 h0;go_wp2;go_ret;have e1:lc st n.data.toList k=({ st with dark:=true },45):=by unfold lc;rw[if_neg (by rw[HD.out];simp),HG.out];show(if _ then _ else _)=_;rw[if_neg (by have:=HB1.out;have:=HSS.out;omega)];exact if_pos H0.out
     rw[e1];exact⟨rfl,H7.out,(Fr.pure HB3.out).trans F7.out.toD1⟩
    ·have H7:=hid hd7
     have F7:=hid hf7;have H0:=hid h0;clear hd7 hf7 h0;go_wp2;go_ret;have e1:lc st n.data.toList k=({ st with left:=dec st.left,fs:=cL st.fs ⟨n.data.toList,(f.firm++f.pend).take k,[]⟩ },0):=by unfold lc;rw[if_neg (by rw[HD.out];simp),HG.out];show(if _ then _ else _)=_;rw[if_neg (by have:=HB1.out;have:=HSS.out;omega)];exact if_neg H0.out
     rw[e1];exact⟨rfl,H7.out,(Fr.pure HB3.out).trans F7.out⟩
 ·obtain⟨hb1,rfl⟩:=ex hf hd
  have HD:=hid hd;have hb6:=hid (((eO w _ _ _ hb1).alloc (by have:=hb1.size;simp at this;omega) (.cells #[.string ⟨#[]⟩,.string ⟨#[]⟩] 142)));clear hd hf hb1;go_wp2;go_ret;have e1:lc st n.data.toList k=(st,45):=by unfold lc;rw[HD.out];rfl
  rw[e1];exact⟨rfl,H.out.pure hb6.out,Fr.pure hb6.out⟩
end
end Go.Proofs.YthjjgcfdhkhelaaGreatDoor
