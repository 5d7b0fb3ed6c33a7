/- An index in memory; the walks of index.Next, First, Good. -/
import Derived.Test.YthjjgcfdhkhelaaGreatDoorQAg
import Derived.RangeFuncBox
import Derived.Test.YthjjgcfdhkhelaaGreatDoorQAk
set_option maxHeartbeats 4000000
set_option maxRecDepth 100000
open Go.Lib(hid)
open Go.Proofs.Tryz
namespace Go.Proofs.YthjjgcfdhkhelaaGreatDoor
section
open Go.RowKit Go.Shelf
attribute [local go_sem] Oper.semAt_some
def ou (l:List FrX):List Value:=l.flatMap λx=>[.int .i64 (x.q:Int),.string x.p,.int .i64 (x.a:Int)]
theorem ow (l:List FrX)(x:FrX):ou (l++[x])=ou l++[.int .i64 (x.q:Int),.string x.p,.int .i64 (x.a:Int)]:=by unfold ou;simp
def ox (w:World)(v:Value)(l:List FrX):Prop:=w.ownsRow 0 166 3 v l.length (ou l)
theorem Tryz.infoFrame:(prog.info? 166).map (λi=>(i.zero,i.size,i.bytes))=some (some (.agg #[.int .i64 0,.string ⟨#[]⟩,.int .i64 0]),3,32):=by kernel_rfl
theorem oy (s:ByteArray)(a q:Int)(w:World) :
  Calls prog 205 #[.string s,.int .i64 a,.int .i64 q] w λe w'=>e = .returned (.func (.func 277) #[] #[.pointer (some ⟨w.heap.size,0,none⟩),.pointer (some ⟨w.heap.size+1,0,none⟩),.pointer (some ⟨w.heap.size+2,0,none⟩)]) ∧
   w'=((w.alloc (.cells #[.string s] 9)).alloc (.cells #[.int .i64 a] 3)).alloc (.cells #[.int .i64 q] 2):=by
 have hmf:∀(fn:Fn) (first cap:Array Value) (w:World),(Instr.makeFunc fn first cap).run prog w = .ok (.func fn first cap) w:=λ_ _ _ _=>rfl
 go_enter func205,ntmps205
 go_wp2;go_ret;exact⟨by simp,rfl⟩
def oA (s:List UInt8)(a q:Nat)(w:World)(e:Ending)(w':World):Prop:=
 Below w.heap.size w w'∧∃xs v,oq s a q xs∧ox w' v xs∧(∀g,v.ownBlock=some g→w.heap.size≤g)∧e = .returned (.tuple #[v,.int .i64 (og a xs:Int)])
structure ScAt (w W:World) (b:Nat) (a:Nat) (pre:List FrX):Prop where
 box:∃v,W.heap[b]?=some (.cells #[v] 157 (0,0))∧W.ownsRow (b+7) 166 3 v pre.length (ou pre)
 good:W.heap[b+1]?=some (.cells #[.int .i64 (og a pre:Int)] 3 (0,0))
 below:Below b w W
theorem oB {n:Nat}(w:World)(o:Obj)(h:n=w.heap.size):(w.alloc o).heap[n]?=some o:=by subst h;exact heap_alloc_new _ _
theorem oC {w:World}{base:Nat}{e:TypeId}{size:Nat}{v:Value}{n:Nat}{xs:List Value}(h:w.ownsRow base e size v n xs){g:Nat}(hg:v.ownBlock=some g):base≤g:=by
 rcases h.2 with⟨rfl,_⟩|⟨k,cap,cur,rfl,hb,_⟩
 ·cases hg
 ·cases hg;exact hb
theorem ScAt.bears (w:World)(b a:Nat)(hb:b=w.heap.size):mZ (λk=>(k=b+3∨k=b+4)∨k=b+5∨k=b+6) (λpre W=>ScAt w W b a pre):=λpre A B h hf=>by
 obtain⟨⟨v,h1,h2⟩,h4,h5⟩:=h;refine⟨⟨v,hf.heapAt h1 (by omega),hf.ownsRow h2 (λg e=>by have:=oC h2 e;omega)⟩,hf.heapAt h4 (by omega),?_⟩;exact h5.trans (hf.below (B:=b) (by have:=lt_of_block h4;omega) (λk hk=>by omega))
theorem oD (s:ByteArray)(a q:Nat)(w:World)(hs:s.size≤1048576)(ha:a≤s.size)(hq:q≤1048576) :
  Calls prog 152 #[.string s,.int .i64 (a:Int),.int .i64 (q:Int)] w λe w'=>oA s.data.toList a q w e w':=by
 have hmf:∀(fn:Fn) (first cap:Array Value) (w:World),(Instr.makeFunc fn first cap).run prog w = .ok (.func fn first cap) w:=λ_ _ _ _=>rfl;refine(callsIn_wide (n:=6)).1 ?_;refine callsIn_of_wp_marks func152 rfl trivial ?_ rfl;simp only[ntmps152,List.size_toArray,List.length_cons,List.length_nil,Nat.reduceAdd,Nat.reduceSub,Array.replicate_succ,Array.replicate_zero,List.push_toArray,List.append_toArray,List.nil_append,List.cons_append]
 gi_wp2_with fail
 refine⟨trivial,?_⟩;refine(callsIn_wide.2 (oy s (a:Int) (q:Int) _)).mono ?_;rintro e w1 ⟨rfl,rfl⟩
 gi_wp2
 obtain⟨W0,hW0⟩:∃W0,W0=((((w.alloc (.cells #[.slice none 0 0] 157)).alloc (.cells #[.int .i64 (a:Int)] 3)).alloc (.cells #[.string s] 9)).alloc (.cells #[.int .i64 (a:Int)] 3)).alloc (.cells #[.int .i64 (q:Int)] 2):=⟨_,rfl⟩;obtain⟨b,hb⟩:∃b,b=w.heap.size:=⟨_,rfl⟩;have hsz:W0.heap.size=b+5:=by rw[hW0,hb];simp
 have hbel:Below b w W0:=by rw[hW0,hb];exact(((((Below.refl _ _).alloc (Nat.le_refl _) _).alloc (by simp) _).alloc (by simp;omega) _).alloc (by simp;omega) _).alloc (by simp;omega) _
 have k0:W0.heap[b]?=some (.cells #[.slice none 0 0] 157 (0,0)):=by
  rw[hW0,hb];exact(Below.heap_alloc _ _ _ (by simp;omega)).trans ((Below.heap_alloc _ _ _ (by simp;omega)).trans ((Below.heap_alloc _ _ _ (by simp;omega)).trans ((Below.heap_alloc _ _ _ (by simp)).trans (heap_alloc_new _ _))))
 have k1:W0.heap[b+1]?=some (.cells #[.int .i64 (a:Int)] 3 (0,0)):=by
  rw[hW0,hb];exact(Below.heap_alloc _ _ _ (by simp)).trans ((Below.heap_alloc _ _ _ (by simp)).trans ((Below.heap_alloc _ _ _ (by simp)).trans (oB _ _ (by simp))))
 have k2:W0.heap[b+1+1]?=some (.cells #[.string s] 9 (0,0)):=by
  rw[hW0,hb];exact(Below.heap_alloc _ _ _ (by simp)).trans ((Below.heap_alloc _ _ _ (by simp)).trans (oB _ _ (by simp)))
 have k3:W0.heap[b+1+1+1]?=some (.cells #[.int .i64 (a:Int)] 3 (0,0)):=by
  rw[hW0,hb];exact(Below.heap_alloc _ _ _ (by simp)).trans (oB _ _ (by simp))
 have k4:W0.heap[b+1+1+2]?=some (.cells #[.int .i64 (q:Int)] 2 (0,0)):=by
  rw[hW0,hb];exact oB _ _ (by simp)
 have hat:FsAt W0 (b+1+1) (b+1+1+1) (b+1+1+2) s a q:=⟨k2,k3,k4⟩;have hsc:ScAt w W0 b a []:=⟨⟨_,k0,World.ownsRow_nil _ _ _ _⟩,k1,hbel⟩;rw[← hW0,← hb];have HB:=hid hb;clear hW0 hb k0 k1 k2 k3 k4 hbel hmf;obtain⟨i0,hi,hz0,hz1,hz2⟩:=info_parts Tryz.infoFrame;have HI:=hid hi;have HZ0:=hid hz0;have HZ1:=hid hz1;have HZ2:=hid hz2;clear hi hz0 hz1 hz2;refine nf (n:=6) rfl (by omega) (gf:=277) rfl trivial (enters_of func277 (by kernel_rfl) rfl)
  (ot W0 (b+1+1) (b+1+1+1) (b+1+1+2) s a q (by omega) (by omega) (by omega) (by omega) ha hq hat (s.size+1) (by omega))
  (λk hk=>by omega) (λh k=>⟨Nat.le_trans h.1 k.1,k.2.1.trans h.2.1,k.2.2.1.trans h.2.2.1,k.2.2.2.trans h.2.2.2⟩)
  (λW o h=>⟨by rw[World.putObj_size];exact Nat.le_refl _,World.putObj_heap_other (by omega),World.putObj_heap_other (by omega),World.putObj_heap_other (by omega)⟩) (λ_=>rfl)
  (λpre W=>ScAt w W b a pre) (λ_ _ _=>False) ?bears (λ_ _ _ _ h _=>h) hsc
  (λpre x a' W=>ScAt w W b a pre∧∃Bx,b+7≤Bx∧W.heap[Bx]?=some (.cells #[.int .i64 (x.q:Int),.string x.p,.int .i64 (x.a:Int)] 166 (0,0)) ∧
    a'={ tmps:=#[.string s,.int .i64 (a:Int),.int .i64 (q:Int),undef,undef,undef,.pointer (some ⟨b,0,none⟩),.pointer (some ⟨b+1,0,none⟩),.int .i64 (x.next:Int),.pointer (some ⟨Bx,0,none⟩),.int .i64 (a:Int),.bool (decide ((a:Int)<0)),.bool (decide ((a:Int)<0)),.int .i64 (a:Int),.string s,.int .i64 (s.size:Int),.bool false,.bool (decide ((a:Int)<0)),.int .i64 (a:Int),.string s,.int .i64 (a:Int),.int .i64 (q:Int),
     .func (.func 277) #[] #[.pointer (some ⟨b+1+1,0,none⟩),.pointer (some ⟨b+1+1+1,0,none⟩),.pointer (some ⟨b+1+1+2,0,none⟩)],.int .i64 (x.next:Int),.agg #[.int .i64 (x.q:Int),.string x.p,.int .i64 (x.a:Int)],undef,undef,undef,undef,undef,undef,undef],defers:=[] })
  ?hA ?assign ?body ?done ?stop
 case bears=>exact λpre A B h hf=>ScAt.bears w b a HB.out pre A B h (hf.mono (λi _ e=>by omega))
 case hA=>
  rintro pre x a' W o hlt ⟨h1,Bx,h2,h3,h4⟩;exact⟨ScAt.bears w b a HB.out pre _ _ h1 ((Fr.refl _ W).putObj _ (λ_=>by omega) o),Bx,h2,(World.putObj_heap_other (by omega)).trans h3,h4⟩
 case assign=>
  intro pre x W K hlt hI hK;have HI:=hid hI;have HK:=hid hK;clear hI hK;unfold od
  gi_wp2
  refine HK.out _ _ ⟨ScAt.bears w b a HB.out pre _ _ HI.out ((Fr.refl _ W).alloc _),W.heap.size,by omega,heap_alloc_new _ _,rfl⟩ ?_ (by simp) ?_
  ·exact m8.fr ((Fr.refl (λ_=>False) W).alloc _) hlt (λh=>h) (λh=>h)
  ·exact⟨by simp,Below.heap_alloc _ _ _ (by omega),Below.heap_alloc _ _ _ (by omega),Below.heap_alloc _ _ _ (by omega)⟩
 case body=>
  rintro pre x a' W hlt ⟨hI,Bx,hBx,hbx,rfl⟩ hlen;obtain⟨⟨v,hv,hrow⟩,hgood,hbel⟩:=hI;have c0:W.cell? ⟨b,0,none⟩=some v:=(cell_of_row _ _ _ _ _ _ hv).trans rfl;have z0:W.frozen? ⟨b,0,none⟩=false:=frozen_of_row _ _ 0 _ _ hv;have c1:W.cell? ⟨b+1,0,none⟩=some (.int .i64 (og a pre:Int)):=(cell_of_row _ _ _ _ _ _ hgood).trans rfl;have z1:W.frozen? ⟨b+1,0,none⟩=false:=frozen_of_row _ _ 0 _ _ hgood;have d0:W.cell? ⟨Bx,0,none⟩=some (.int .i64 (x.q:Int)):=(cell_of_row _ _ _ _ _ _ hbx).trans rfl;have d1:W.cell? ⟨Bx,1,none⟩=some (.string x.p):=(cell_of_row _ _ _ _ _ _ hbx).trans rfl;have d2:W.cell? ⟨Bx,2,none⟩=some (.int .i64 (x.a:Int)):=(cell_of_row _ _ _ _ _ _ hbx).trans rfl;have HR:=hid hrow;have HV:=hid hv;have HG:=hid hgood;have HBL:=hid hbel;have hbW:b+1<W.heap.size:=by omega
  clear hrow hv hgood hbel hbx;have hrne:∀k,k<b+7→some k≠v.ownBlock:=λk hk e=>by have:=oC HR.out e.symm;omega
  have HRNE:=hid hrne;clear hrne
  gi_wp2_with (gi_at_builtin;refine wpListIn_append_own _ rfl _ _ 157 rfl (b+7) 166 i0 _ 3 32 underlying157 HI.out HZ0.out HZ1.out HZ2.out rfl (by decide) _ _ _ rfl (HR.out.alloc _) ⟨W.heap.size,0,none⟩ 1 1 [.int .i64 (x.q:Int),.string x.p,.int .i64 (x.a:Int)] rfl rfl ?_ ?_ ?_ ?_ ?_ ?_;exact aC rfl rfl;simp[Value.oneCell'];(unfold maxLen;omega);omega;(rw[World.size_alloc];omega);intro v' w1 hown' hgrow0 _;have hgrow:(W.alloc (.cells #[.int .i64 (x.q:Int),.string x.p,.int .i64 (x.a:Int)] 166)).grownBy w1 v.ownBlock:=hgrow0;clear hgrow0;obtain⟨g',cap',rfl⟩:=ownsRow_succ hown';have hv1:=(hgrow.block b (by simp;omega) (HRNE.out b (by omega))).trans ((Below.heap_alloc _ _ _ (by omega)).trans HV.out);have hg1:=(hgrow.block (b+1) (by simp;omega) (HRNE.out (b+1) (by omega))).trans ((Below.heap_alloc _ _ _ (by omega)).trans HG.out);have c0:w1.cell? ⟨b,0,none⟩=some v:=(cell_of_row _ _ _ _ _ _ hv1).trans rfl;have z0:=frozen_of_row _ _ 0 _ _ hv1;have c1:w1.cell? ⟨b+1,0,none⟩=some (.int .i64 (og a pre:Int)):=(cell_of_row _ _ _ _ _ _ hg1).trans rfl;have z1:=frozen_of_row _ _ 0 _ _ hg1;have HV1:=hid hv1;have HG1:=hid hg1;have HO:=hid hown';have HGR:=hid hgrow;clear hv1 hg1 hown' hgrow)
  have hgb:b+7≤g':=oC HO.out rfl;have hf1:Fr (λk=>v.ownBlock=some k) W w1:=((Fr.refl (λk=>v.ownBlock=some k) W).alloc _).grown HGR.out (λk _ e=>e);have hf:Fr (λk=>k=b∨k=b+1∨v.ownBlock=some k) W ((w1.setCell ⟨b,0,none⟩ (.slice (some ⟨g',0,none⟩) (pre.length+1) cap')).setCell ⟨b+1,0,none⟩ (.int .i64 (x.next:Int))):=
   ((hf1.mono (λi _ e=>.inr (.inr e))).setCell ⟨b,0,none⟩ (λ_=>.inl rfl) _).setCell ⟨b+1,0,none⟩ (λ_=>.inr (.inl rfl)) _
  have hno:∀k,b+2≤k→k<b+7→¬(k=b∨k=b+1∨v.ownBlock=some k):=λk h1 h2 e=>by
   rcases e with e|e|e
   ·omega
   ·omega
   ·exact HRNE.out k h2 e.symm
  refine⟨m8.fr hf hlt (hno _ (by omega) (by omega)) (hno _ (by omega) (by omega)),⟨hf.size,hf.block _ (by omega) (hno _ (by omega) (by omega)),hf.block _ (by omega) (hno _ (by omega) (by omega)),hf.block _ (by omega) (hno _ (by omega) (by omega))⟩,⟨⟨_,(Below.heap_setCell _ _ _ _ (by simp)).trans (one_setCell HV1.out),?_⟩,?_,?_⟩⟩
  ·rw[ow,List.length_append,List.length_singleton]
   exact ownsRow_setCell_other (ownsRow_setCell_other HO.out (by simp[Value.ownBlock];omega) _) (by simp[Value.ownBlock];omega) _
  ·rw[oh]
   exact one_setCell ((Below.heap_setCell _ _ _ _ (by simp)).trans HG1.out)
  ·exact HBL.out.trans (hf.below (B:=b) (by omega) (λk hk e=>by rcases e with e|e|e;omega;omega;exact HRNE.out k (by omega) e.symm))
 case done=>
  intro xs W hS hI hK;have HS:=hid hS;have HKW:=hid hK;obtain⟨⟨v,hv,hrow⟩,hgood,hbel⟩:=hI;obtain⟨a0,n0,k0,rfl⟩:=aB hrow;have c0:W.cell? ⟨b,0,none⟩=some (.slice a0 n0 k0):=(cell_of_row _ _ _ _ _ _ hv).trans rfl;have z0:W.frozen? ⟨b,0,none⟩=false:=frozen_of_row _ _ 0 _ _ hv;have c1:W.cell? ⟨b+1,0,none⟩=some (.int .i64 (og a xs:Int)):=(cell_of_row _ _ _ _ _ _ hgood).trans rfl;have z1:W.frozen? ⟨b+1,0,none⟩=false:=frozen_of_row _ _ 0 _ _ hgood;have HR:=hid hrow;have HV:=hid hv;have HG:=hid hgood;have HBL:=hid hbel;clear hS hK hrow hv hgood hbel
  gi_wp2
  gi_region
  gi_wp2
  obtain⟨W2,hW2⟩:∃W2,W2=((W.setCell ⟨b,0,none⟩ (.slice a0 n0 k0)).setCell ⟨b+1,0,none⟩ (.int .i64 (og a xs:Int))).drew:=⟨_,rfl⟩;have hf:Fr (λk=>k=b∨k=b+1) W W2:=by rw[hW2];exact(((Fr.refl (λk=>k=b∨k=b+1) W).setCell ⟨b,0,none⟩ (λ_=>.inl rfl) _).setCell ⟨b+1,0,none⟩ (λ_=>.inr rfl) _).drew
  have hK2:W2.heap[W0.heap.size]?=some (.deferred (some [])):=hf.heapAt HKW.out (by omega);have hv2:W2.heap[b]?=some (.cells #[.slice a0 n0 k0] 157 (0,0)):=by rw[hW2];exact(Below.heap_setCell _ _ _ _ (by simp)).trans (one_setCell HV.out)
  have hg2:W2.heap[b+1]?=some (.cells #[.int .i64 (og a xs:Int)] 3 (0,0)):=by rw[hW2];exact one_setCell ((Below.heap_setCell _ _ _ _ (by simp)).trans HG.out)
  rw[← hW2];refine⟨by simp,.inl ⟨_,_,rfl,run_takeDeferred hK2,?_⟩⟩;have hf3:Fr (λk=>k=b∨k=b+1∨k=W0.heap.size) W (W2.putObj W0.heap.size (.deferred none)):=(hf.mono (λi _ e=>by omega)).putObj _ (λ_=>.inr (.inr rfl)) _;have r0:(W2.putObj W0.heap.size (.deferred none)).cell? ⟨b,0,none⟩=some (.slice a0 n0 k0):=(cell_of_row _ _ _ _ _ _ ((World.putObj_heap_other (by omega)).trans hv2)).trans rfl;have r1:(W2.putObj W0.heap.size (.deferred none)).cell? ⟨b+1,0,none⟩=some (.int .i64 (og a xs:Int)):=(cell_of_row _ _ _ _ _ _ ((World.putObj_heap_other (by omega)).trans hg2)).trans rfl;refine⟨.tuple #[.slice a0 n0 k0,.int .i64 (og a xs:Int)],by simp[results,results152,go_sem,r0,r1],?_,xs,_,HS.out,?_,?_,rfl⟩
  ·rw[← HB.out];exact HBL.out.trans (hf3.below (B:=b) (by have:=lt_of_block HV.out;omega) (λk hk e=>by omega))
  ·exact az (hf3.ownsRow HR.out (λg e=>by have:=oC HR.out e;omega)) (λg _=>Nat.zero_le g)
  ·intro g e;have:=oC HR.out e;have:=HB.out;omega
 case stop=>
  rintro c pre W _ h _;exact h.elim
end
section
open Go.RowKit
def tL {α:Type}(F:Fence)(n:Nat)(P:Program)(g:Nat)(lb:Array Value)(encs:α→Array Value)(own:Nat→Prop)(Kp:World→World→Prop)(S Sp:List α→Prop)(N:Nat)(w:World):Prop:=
 ∀(l:Nat) (J Jx:List α→World→Prop) (W:World),Below w.heap.size w W→mZ own J→mZ own Jx →
  (∀pre x W1,J pre W1→pre.length<N→YieldAt F (n-1) P l (encs x) W1 λe W'=>(e = .returned (.bool true)∧J (pre++[x]) W'∧Kp W1 W')∨(e = .returned (.bool false)∧Jx (pre++[x]) W')) →
  (∀pre W1,J pre W1→pre.length<N) →
  J [] W →
  CallsIn F n P g (#[.func (.yield l) #[] #[]]++lb) W λe W'=>(∃v,e = .returned v)∧((∃xs,S xs∧J xs W')∨(∃pre,Sp pre∧Jx pre W'))
variable {F:Fence} {n:Nat} {P:Program}
theorem tM {α:Type}{g:Operand}{ps:Array Tmp}{assign body:Code}{Q:Exit→Act→World→Prop}{a:Act}{w:World}
  (hro:F.round=none) (h1:1≤n) {gf:Nat} {lb:Array Value} (hg:a.eval g = .func (.func gf) #[] lb) (hFg:F.fn gf) (eg:∀args w,(callFunc gf args).run P w = .ok (.enter gf args) w)
  {encs:α→Array Value} {own:Nat→Prop} {Kp:World→World→Prop} {S Sp:List α→Prop} {N:Nat} (hseq:tL F (n-1) P gf lb encs own Kp S Sp N w) (hown:∀k,own k→k<w.heap.size)
  (hKt:∀{A B C:World},Kp A B→Kp B C→Kp A C) (hKb:∀(W:World) (o:Obj),w.heap.size+1<W.heap.size→Kp W (W.putObj (w.heap.size+1) o)) (hps:∀x,(encs x).size=ps.size)
  (I:List α→World→Prop) (Ix:Code→List α→World→Prop) (hI:mZ (λk=>own k∨k=w.heap.size∨k=w.heap.size+1) I) (hIx:∀c,mZ (λk=>own k∨k=w.heap.size∨k=w.heap.size+1) (Ix c)) (h0:I [] w) (hIN:∀pre W,I pre W→pre.length<N)
  (A:List α→α→Act→World→Prop) (hA:∀pre x a' W o,w.heap.size+1<W.heap.size→A pre x a' W→A pre x a' (W.putObj (w.heap.size+1) o))
  (hassign:∀(pre:List α) (x:α) (W:World) (K:Act→World→Prop),w.heap.size+1<W.heap.size→I pre W→(∀a' W',A pre x a' W'→m8 w.heap.size W W'→W.heap.size≤W'.heap.size→Kp W W'→K a' W') →
    assign.wpIn (F.inRound (w.heap.size+1)) (n-1-1) P (Exit.then K (λ_ _ _=>False)) { tmps:=(ps.zip (encs x)).foldl (λt (p,v)=>t.setIfInBounds p v) a.tmps,defers:=[] } W)
  (hbody:∀(pre:List α) (x:α) (a':Act) (W:World),w.heap.size+1<W.heap.size→A pre x a' W→pre.length<N→body.wpIn (F.inRound (w.heap.size+1)) (n-1-1) P (m9 w.heap.size Kp I Ix (pre++[x]) W) a' W)
  (hdone:∀(xs:List α) (W:World),S xs→I xs W→W.heap[w.heap.size]?=some (.deferred (some []))→Q .normal { a with defers:={ target:=.collected w.heap.size,args:=#[] }::a.defers } W)
  (hstop:∀(c:Code) (pre:List α) (W:World),Sp pre→Ix c pre W→W.heap[w.heap.size]?=some (.deferred (some []))→c.wpIn F n P Q { a with defers:={ target:=.collected w.heap.size,args:=#[] }::a.defers } W) :
  (Code.rangeFunc g ps assign body).wpIn F n P Q a w:=by
 refine wpIn_rangeFunc ?_;intro fn hfn;rw[hro];obtain⟨rec,hrec⟩:∃rec:LoopState→Option Code→Loop,rec=λst pe=>{ state:=st,pending:=pe,fn,tmps:=a.tmps,params:=ps,assign,body,defers:=w.heap.size }:=⟨_,rfl⟩;obtain⟨N0,hN0⟩:∃N0,N0=w.heap.size:=⟨_,rfl⟩;obtain⟨W1,hW1⟩:∃W1,(w.alloc (.deferred (some []))).alloc (.loop (rec .ready none))=W1:=⟨_,rfl⟩;have hL1:W1.heap[w.heap.size+1]?=some (.loop (rec .ready none)):=by
  rw[← hW1];have:=World.alloc_heap_new (w.alloc (.deferred (some []))) (.loop (rec .ready none));rwa [World.size_alloc]at this
 have hK1:W1.heap[w.heap.size]?=some (.deferred (some [])):=by
  rw[← hW1];exact(Below.heap_alloc _ _ _ (by simp)).trans (World.alloc_heap_new w _)
 have hf1:∀{S:Nat→Prop},Fr S w W1:=by intro S;rw[← hW1];exact((Fr.refl S w).alloc _).alloc _
 have hI1:I [] W1:=hI _ _ _ h0 hf1;have hb1:Below w.heap.size w W1:=by rw[← hW1];exact((Below.refl _ w).alloc (Nat.le_refl _) _).alloc (by simp) _
 have hturn:∀{β:Type} {J:β→World→Prop} (_:mZ (λk=>own k∨k=w.heap.size∨k=w.heap.size+1) J) (s:β) (W:World) (o:Obj),J s W→J s (W.putObj (w.heap.size+1) o):=
  λhJ s W o hs=>hJ s _ _ hs ((Fr.refl _ W).putObj _ (λ_=>.inr (.inr rfl)) o)
 have hkeep:∀{X Y:World} {k:Nat} {o:Obj},Fr own X Y→w.heap.size≤k→X.heap[k]?=some o→Y.heap[k]?=some o:=
  λhf hk h=>(hf.block _ (lt_of_block h) (λe=>by have:=hown _ e;omega)).trans h
 refine⟨w.heap.size+1,[{ target:=.collected w.heap.size,args:=#[] }],W1,{ target:=.fn (.func gf) lb,args:=#[.func (.yield (w.heap.size+1)) #[] #[]] },W1,gf,
  #[.func (.yield (w.heap.size+1)) #[] #[]]++lb,W1,?_,?_,?_,?_,λ_=>h1,?_⟩
 ·rw[← hW1,hrec];exact run_enterLoop_outer _ _ _ _ _
 ·simp only[resolve,hg]
  simp[go_sem]
 ·intro f' hf';simp[Target.leads]at hf';subst hf';exact hFg
 ·simp[invoke,go_sem,eg]
 ·refine(hseq (w.heap.size+1) (λpre W=>I pre W∧W.heap[w.heap.size+1]?=some (.loop (rec .ready none))∧W.heap[w.heap.size]?=some (.deferred (some []))) (λpre W=>∃c,Ix c pre W∧W.heap[w.heap.size+1]?=some (.loop (rec .done (some c)))∧W.heap[w.heap.size]?=some (.deferred (some [])))
   W1 hb1 (λs X Y hs hf=>⟨hI s X Y hs.1 (hf.mono (λ_ _ e=>.inl e)),hkeep hf (by omega) hs.2.1,hkeep hf (Nat.le_refl _) hs.2.2⟩) (λs X Y hs hf=>by
    obtain⟨c,hc,hl,hk⟩:=hs;exact⟨c,hIx c s X Y hc (hf.mono (λ_ _ e=>.inl e)),hkeep hf (by omega) hl,hkeep hf (Nat.le_refl _) hk⟩)
   ?_ (λpre W h=>hIN pre W h.1) ⟨hI1,hL1,hK1⟩).mono ?_
  ·rintro pre x W ⟨hi,hl,hk⟩ hlen
   have hlt:w.heap.size+1<W.heap.size:=lt_of_block hl;have hy:=run_yield (P:=P) (args:=encs x) hl (by rw[hrec];exact hps x);rw[hrec]at hy;refine⟨fn,_,assign,body,hy,roundIn_of_wpIn hfn (hassign pre x W _ hlt hi ?_)⟩;intro a' W2 hA2 hg2 hsz2 hkp2;have hl2:W2.heap[w.heap.size+1]?=some (.loop (rec .ready none)):=hg2.lo.trans hl;have hk2:W2.heap[w.heap.size]?=some (.deferred (some [])):=hg2.de.trans hk;have hlt2:w.heap.size+1<W2.heap.size:=by omega
   refine⟨_,run_beginRound hl2 (by rw[hrec]),?_⟩;have hl3:(W2.putObj (w.heap.size+1) (.loop { rec .ready none with state:=.busy })).heap[w.heap.size+1]?=some (.loop { rec .ready none with state:=.busy }):=World.putObj_heap_same hlt2;have hk3:(W2.putObj (w.heap.size+1) (.loop { rec .ready none with state:=.busy })).heap[w.heap.size]?=some (.deferred (some [])):=(World.putObj_heap_other (by omega)).trans hk2;have hkp3:Kp W (W2.putObj (w.heap.size+1) (.loop { rec .ready none with state:=.busy })):=hKt hkp2 (hKb _ _ hlt2);refine wpIn_mono (hbody pre x a' _ (by rw[World.putObj_size];exact hlt2) (hA _ _ _ _ _ hlt2 hA2) hlen) ?_;have fin:∀(jump:Option Code) (W4:World),m8 w.heap.size (W2.putObj (w.heap.size+1) (.loop { rec .ready none with state:=.busy })) W4 →
     (Instr.endRound (w.heap.size+1) jump).run P W4 = .ok (.bool jump.isNone) (W4.putObj (w.heap.size+1) (.loop (rec (if jump.isNone then .ready else .done) jump))) ∧
     w.heap.size+1<W4.heap.size ∧
     (W4.putObj (w.heap.size+1) (.loop (rec (if jump.isNone then .ready else .done) jump))).heap[w.heap.size+1]?=some (.loop (rec (if jump.isNone then .ready else .done) jump)) ∧
     (W4.putObj (w.heap.size+1) (.loop (rec (if jump.isNone then .ready else .done) jump))).heap[w.heap.size]?=some (.deferred (some [])):=λjump W4 hg4=>by
    have hl4:=hg4.lo.trans hl3;have hr:=run_endRound (P:=P) jump hl4;rw[hrec]at hr ⊢;exact⟨hr,lt_of_block hl4,World.putObj_heap_same (lt_of_block hl4),(World.putObj_heap_other (by omega)).trans (hg4.de.trans hk3)⟩
   rintro e a4 W4 hp;cases e with
   | normal=>
    obtain⟨hg4,hkp4,hi4⟩:=hp;obtain⟨hr,hlt4,hl5,hk5⟩:=fin none W4 hg4;exact⟨_,_,hr,.inl ⟨rfl,⟨hturn hI _ _ _ hi4,hl5,hk5⟩,hKt (hKt hkp3 hkp4) (hKb _ _ hlt4)⟩⟩
   | ret=>
    obtain⟨hg4,hi4⟩:=hp;obtain⟨hr,hlt4,hl5,hk5⟩:=fin (some .ret) W4 hg4;exact⟨_,_,hr,.inr ⟨rfl,.ret,hturn (hIx _) _ _ _ hi4,hl5,hk5⟩⟩
   | exit id=>
    obtain⟨hg4,hi4⟩:=hp;obtain⟨hr,hlt4,hl5,hk5⟩:=fin (some (.exit id)) W4 hg4;exact⟨_,_,hr,.inr ⟨rfl,.exit id,hturn (hIx _) _ _ _ hi4,hl5,hk5⟩⟩
   | goto t=>
    obtain⟨hg4,hi4⟩:=hp;obtain⟨hr,hlt4,hl5,hk5⟩:=fin (some (.goto t)) W4 hg4;exact⟨_,_,hr,.inr ⟨rfl,.goto t,hturn (hIx _) _ _ _ hi4,hl5,hk5⟩⟩
   | panic ch=>exact hp.elim
   | outgrown=>exact hp.elim
  ·rintro e W2 ⟨⟨v,rfl⟩,(⟨xs,hS,hi,hl,hk⟩|⟨pre,hSp,c,hi,hl,hk⟩)⟩
   ·exact⟨none,_,by have:=run_endLoop (P:=P) hl (by rw[hrec];simp);rw[hrec]at this;exact this,hdone xs _ hS (hturn hI _ _ _ hi) ((World.putObj_heap_other (by omega)).trans hk)⟩
   ·exact⟨some c,_,by have:=run_endLoop (P:=P) hl (by rw[hrec];simp);rw[hrec]at this;exact this,hstop c pre _ hSp (hturn (hIx c) _ _ _ hi) ((World.putObj_heap_other (by omega)).trans hk)⟩
end
section
open Go.RowKit
theorem oE (q:Nat)(w:World)(hq:q<9223372036854775808) :
  Calls prog 90 #[.int .i64 (q:Int)] w λe w'=>(∃r:ByteArray,r.data.toList=iM q∧e = .returned (.string r))∧Below w.heap.size w w':=by
 go_enter func90,ntmps90
 have HF:=hid (aN.fresh w)
 go_wp2_with fail
 obtain⟨wa,hwa⟩:∃wa,wa=w.alloc (.cells #[.slice none 0 0] 180):=⟨_,rfl⟩;have HA:=hid (show Below w.heap.size w wa from by rw[hwa];exact(Below.refl _ _).alloc (Nat.le_refl _) _);rw[← hwa]at HF ⊢;clear hwa;refine(aX ⟨#[115,101,103,49]⟩ w.heap.size _ [] _ HF.out (by decide)).mono ?_;rintro e w1 ⟨rfl,v1,h1⟩;have H1:=hid h1;clear h1
 go_wp2_with fail
 refine(aW q w.heap.size _ _ _ (by omega) H1.out.is (by decide)).mono ?_;rintro e w2 ⟨rfl,v2,h2⟩;have H2:=hid (H1.out.trans h2);clear h2
 go_wp2_with fail
 refine(aZ w.heap.size v2 _ _ H2.out.is).mono ?_;rintro e w2' ⟨r,hr,rfl,rfl⟩;have hrs:r.size≤100:=by rw[ao hr];simp[aF]
 have HR:=hid hr;clear hr
 go_wp2_with fail
 refine(fT r _ (by unfold maxLen;omega)).mono ?_;rintro e w3 ⟨u,hu,rfl,hb3⟩;have HU:=hid (And.intro hu hb3);clear hu hb3;go_wp2;go_ret;refine⟨⟨u,?_,rfl⟩,?_⟩
 ·rw[HU.out.1,HR.out];rfl
 ·exact(HA.out.trans (H2.out.fr.below HA.out.size (λk hk e=>e.elim (by omega) (by simp[Value.ownBlock])))).trans (HU.out.2.mono (by have:=HA.out.size;have:=H2.out.fr.size;omega))
def hdF (f:Int):List UInt8×Int:=if bW f then (iM f.toNat,0) else ([],1)
theorem oF (f:Int)(w:World):Calls prog 32 #[.int .i64 f] w λe w'=>nP (hdF f) w e w':=by
 cases hb:bW f
 ·have HH:=hid (show hdF f=([],1)from by unfold hdF;rw[hb];rfl)
  have HB:=hid hb;clear hb
  go_enter func32,ntmps32
  go_wp2_with (go_at_call 89;refine(bZ _ f).mono ?_;rintro e w' ⟨rfl,rfl⟩;rw[HB.out])
  go_ret2
  exact⟨⟨⟨#[]⟩,by rw[HH.out],by rw[HH.out];rfl⟩,Below.refl _ _⟩
 ·have hn:0≤f∧f≤1048576:=by unfold bW at hb;simpa using hb
  obtain⟨Q,rfl⟩:=Int.eq_ofNat_of_zero_le hn.1;have HH:=hid (show hdF (Q:Int)=(iM Q,0)from by unfold hdF;rw[hb];rfl);have HB:=hid hb;have hq:Q<9223372036854775808:=by omega
  clear hb hn
  go_enter func32,ntmps32
  go_wp2_with (first|(go_at_call 89;refine(bZ _ _).mono ?_;rintro e w' ⟨rfl,rfl⟩;rw[HB.out])|fail)
  refine(oE Q _ hq).mono ?_;rintro e w1 ⟨⟨r,hr,rfl⟩,hb1⟩;have HR:=hid (And.intro hr hb1);clear hr hb1;go_wp2
  go_ret2
  exact⟨⟨r,by rw[HH.out];exact HR.out.1,by rw[HH.out];rfl⟩,HR.out.2⟩
theorem oG (size n most:Int)(w:World)(h1:16≤size)(h2:size≤1073741824)(h3:0<most)(h4:most≤1073741824)(fb:Bool)(hfb:fb=(nL n && (decide (size=16) || decide (size≤most-(16+n))))) :
  Calls prog 45 #[.int .i64 size,.int .i64 n,.int .i64 most] w λe w'=>e = .returned (.bool fb)∧w=w':=by
 cases hp:nL n
 ·have HF:=hid (show fb=false from by rw[hfb,hp];rfl)
  have HS:=hid (show nN n=0 from by unfold nN;rw[hp];rfl);clear hfb hp
  go_enter func45,ntmps45
  go_wp2_with (go_at_call 105;refine(nO n _).mono ?_;rintro e w' ⟨rfl,rfl⟩;rw[HS.out])
  go_ret;exact⟨ay HF.out.symm,rfl⟩
 ·have hn:1≤n∧n≤4096:=by unfold nL at hp;simpa using hp
  have hn1:=hn.1;have hn2:=hn.2;have HS:=hid (show nN n=16+n from by unfold nN;rw[hp];rfl);have hz:(16+n == 0)=false:=by rw[beq_eq_false_iff_ne];omega
  by_cases h16:size=16
  ·have HF:=hid (show fb=true from by rw[hfb,hp];simp[h16])
   subst h16;clear hfb hp hn
   go_enter func45,ntmps45
   go_wp2_with (go_at_call 105;refine(nO n _).mono ?_;rintro e w' ⟨rfl,rfl⟩;rw[HS.out])
   go_ret;exact⟨ay HF.out.symm,rfl⟩
  ·have HF:=hid (show fb=decide (size≤most-(16+n))from by rw[hfb,hp];simp[h16])
   have h16b:(size == 16)=false:=by simpa using h16
   clear hfb hp hn h16
   go_enter func45,ntmps45
   go_wp2_with (go_at_call 105;refine(nO n _).mono ?_;rintro e w' ⟨rfl,rfl⟩;rw[HS.out])
   go_ret;exact⟨ay HF.out.symm,rfl⟩
def oH:List UInt8:=[115,101,103,49]
theorem oI (l:List UInt8):Lib.hasPrefix l oH=decide (l.take 4=oH):=by
 unfold Lib.hasPrefix;rw[Bool.eq_iff_iff,List.isPrefixOf_iff_prefix,decide_eq_true_iff,List.prefix_iff_eq_take];exact⟨λh=>h.symm,λh=>h.symm⟩
def oJ (r:Int×Nat)(w:World)(e:Ending)(w':World):Prop:=e = .returned (.tuple #[.int .i64 (r.2:Int),.int .i64 r.1])∧Below w.heap.size w w'
theorem oK {c:Int}{q:Nat}{r:Int×Nat}{w w':World}(hr:r=(c,q))(hb:Below w.heap.size w w'):oJ r w (.returned (.tuple #[.int .i64 (q:Int),.int .i64 c])) w':=by subst hr;exact⟨rfl,hb⟩
theorem oL (s:ByteArray)(w:World)(hs:s.size≤1099511627776) :
  Calls prog 151 #[.string s] w λe w'=>oJ (iO s.data.toList) w e w':=by
 by_cases h16:s.size<16
 ·have HR:=hid (show iO s.data.toList=(8,0)from by unfold iO;rw[if_pos (by rw[ak];exact h16)])
  go_enter func151,ntmps151
  go_wp2
  go_ret2
  exact oK HR.out (Below.refl _ _)
 have hl16:¬s.data.toList.length<16:=by rw[ak];exact h16
 by_cases hm:s.data.toList.take 4=oH;rotate_left
 ·have HR:=hid (show iO s.data.toList=(4,0)from by unfold iO;rw[if_neg hl16,if_pos (show s.data.toList.take 4≠[115,101,103,49]from hm)])
  have HP:=hid (show Lib.hasPrefix s.data.toList oH=false from by rw[oI];simpa using hm);clear hm
  go_enter func151,ntmps151
  go_wp2_with (go_at_call 174;refine(Tryz.strings_HasPrefix s ⟨#[115,101,103,49]⟩ _).mono ?_;rintro e w' ⟨rfl,rfl⟩;rw[show Lib.hasPrefix s.data.toList (⟨#[115,101,103,49]⟩:ByteArray).data.toList=false from HP.out])
  go_ret2
  exact oK HR.out (Below.refl _ _)
 have HP:=hid (show Lib.hasPrefix s.data.toList oH=true from by rw[oI];simpa using hm);have HM:=hid hm;obtain⟨t,ht⟩:∃t:ByteArray,t=s.extract 0 16:=⟨_,rfl⟩;have htl:t.data.toList=s.data.toList.take 16:=by rw[ht,ap];rfl
 have hts:t.size=16:=by rw[ao htl,List.length_take];omega
 have HT:=hid ht;have HTL:=hid htl;clear hm ht;have h16':16≤s.size:=by omega
 by_cases hse:Crc.seal_ (s.data.toList.take 12)=s.data.toList.take 16;rotate_left
 ·have HR:=hid (show iO s.data.toList=(42,0)from by unfold iO;rw[if_neg hl16,if_neg (by rw[HM.out];simp[oH]),if_pos hse])
  have HN:=hid (show ¬fV t.data.toList from λh=>hse (by
   have:=h.2;rw[htl,List.length_take,show min 16 s.data.toList.length-4=12 from by omega,List.take_take]at this;exact this))
  clear htl hse
  go_enter func151,ntmps151
  go_wp2_with (first|(go_at_call 174;refine(Tryz.strings_HasPrefix s ⟨#[115,101,103,49]⟩ _).mono ?_;rintro e w' ⟨rfl,rfl⟩;rw[show Lib.hasPrefix s.data.toList (⟨#[115,101,103,49]⟩:ByteArray).data.toList=true from HP.out])|fail)
  rw[← HT.out];refine(fX t _ (by omega) (by unfold maxLen;omega) HN.out).mono ?_;rintro e w1 ⟨rfl,hb1⟩;have HB:=hid hb1;clear hb1;go_wp2
  go_ret2
  exact oK HR.out HB.out
 have HSE:=hid hse;have HN:=hid (show fV t.data.toList from⟨by rw[ak];omega,by
  rw[htl,List.length_take,show min 16 s.data.toList.length-4=12 from by omega,List.take_take];exact hse⟩)
 clear htl hse
 go_enter func151,ntmps151
 go_wp2_with (first|(go_at_call 174;refine(Tryz.strings_HasPrefix s ⟨#[115,101,103,49]⟩ _).mono ?_;rintro e w' ⟨rfl,rfl⟩;rw[show Lib.hasPrefix s.data.toList (⟨#[115,101,103,49]⟩:ByteArray).data.toList=true from HP.out])|fail)
 rw[← HT.out];refine(fW t _ (by unfold maxLen;omega) HN.out).mono ?_;rintro e w1 ⟨u,hu,rfl,hb1⟩;have hul:u.data.toList=s.data.toList.take 12:=by rw[hu,HTL.out,hts,List.take_take];rfl
 have hus:u.size=12:=by rw[ao hul,List.length_take];omega
 obtain⟨v,hv⟩:∃v:ByteArray,v=u.extract 4 12:=⟨_,rfl⟩;have hvl:v.data.toList=(s.data.toList.drop 4).take 8:=by rw[hv,ap,hul,List.drop_take,List.take_take];rfl
 have hvs:v.size=8:=by rw[ao hvl,List.length_take,List.length_drop];omega
 have HV:=hid hv;have HVL:=hid hvl;have HB1:=hid hb1;clear hu hul hv hvl hb1
 go_wp2_with fail
 rw[← HV.out];refine(bf v _ (by omega)).mono ?_;rintro e w2 ⟨rfl,h2,hb2⟩;have H2:=hid h2;have HB2:=hid (HB1.out.trans (hb2.mono HB1.out.size));clear h2 hb2
 go_wp2_with fail
 refine(gx _ _ v st0 H2.out).mono ?_;rintro e w3 ⟨n,sb,hn,rfl,h3,hf3⟩;have hnv:n=val ((s.data.toList.drop 4).take 8):=by
  have e1:n=val (st0.take v.data.toList 8).1:=by have:=congrArg Prod.fst hn;exact this.symm
  rw[e1,HVL.out];unfold bc.take st0;simp only[List.drop_zero];rw[if_neg (by simp),if_neg (by rw[List.length_take,List.length_drop];omega),List.take_take];rfl
 have HB3:=hid (HB2.out.trans (hf3.below (B:=_) HB2.out.size (λi hi e=>by have:=HB1.out.size;omega)));have h64:=gA _ _ hn;have HNV:=hid hnv;clear hn h3 hf3 hnv;have hif:∀r,(if s.data.toList.length<16 then (8,0) else if s.data.toList.take 4≠[115,101,103,49] then (4,0) else if Crc.seal_ (s.data.toList.take 12)≠s.data.toList.take 16 then (42,0) else r)=(r:Int×Nat):=λr=>by
  rw[if_neg hl16,if_neg (by rw[HM.out];simp[oH]),if_neg (by rw[HSE.out];simp)]
 have HIF:=hid hif;clear hif;by_cases hb:1048576<n
 ·have HR:=hid (show iO s.data.toList=(4,0)from by unfold iO;rw[HIF.out,if_pos (by rw[← HNV.out];exact hb)])
  go_wp2
  go_ret2
  exact oK HR.out HB3.out
 ·have HR:=hid (show iO s.data.toList=(0,n)from by unfold iO;rw[HIF.out,if_neg (by rw[← HNV.out];exact hb),← HNV.out])
  go_wp2
  go_ret2
  exact oK HR.out HB3.out
def oM (s:ByteArray)(w:World)(e:Ending)(w':World):Prop:=
 Below w.heap.size w w' ∧
  if (iO s.data.toList).1≠0 then e = .returned (.tuple #[.agg #[.int .i64 0,.slice none 0 0,.int .i64 0,.bool false],.int .i64 (iO s.data.toList).1])
  else ∃xs v,oq s.data.toList 16 (iO s.data.toList).2 xs∧ox w' v xs∧(∀g,v.ownBlock=some g→w.heap.size≤g) ∧
   e = .returned (.tuple #[.agg #[.int .i64 ((iO s.data.toList).2:Int),v,.int .i64 (og 16 xs:Int),.bool (decide (og 16 xs=s.size))],.int .i64 0])
theorem oN (a b:Nat):((a:Int) == (b:Int))=decide (a=b):=by rw[Bool.eq_iff_iff,beq_iff_eq,decide_eq_true_iff];omega
theorem oO {l:List UInt8}(h:(iO l).1=0):16≤l.length∧(iO l).2≤1048576:=by
 obtain⟨h1,h2⟩:=iQ (s:=l) (q:=(iO l).2) (by rw[← h]);refine⟨?_,h1⟩;rw[h2,List.length_append,iN];omega
theorem oP (s:ByteArray)(w:World)(hs:s.size≤1048576) :
  Calls prog 101 #[.string s] w λe w'=>oM s w e w':=by
 obtain⟨c,hc⟩:∃c,c=(iO s.data.toList).1:=⟨_,rfl⟩;obtain⟨q,hq⟩:∃q,q=(iO s.data.toList).2:=⟨_,rfl⟩;have HC:=hid hc;have HQ:=hid hq;clear hc hq
 go_enter func101,ntmps101
 go_wp2_with fail
 refine(oL s _ (by omega)).mono ?_;rintro e w1 ⟨rfl,hb1⟩;rw[← HC.out,← HQ.out];have hz:w1.heap[w.heap.size]?=some (.cells #[.int .i64 0,.slice none 0 0,.int .i64 0,.bool false] 159 (0,0)):=by rw[hb1.block _ (by simp)];exact heap_alloc_new _ _
 have B1:=hid (ax (hb1.mono (by simp)));have HZ:=hid hz;clear hb1 hz;have r0:w1.cell? ⟨w.heap.size,0,none⟩=some (.int .i64 0):=(cell_of_row _ _ _ _ _ _ HZ.out).trans rfl;have r1:w1.cell? ⟨w.heap.size,1,none⟩=some (.slice none 0 0):=(cell_of_row _ _ _ _ _ _ HZ.out).trans rfl;have r2:w1.cell? ⟨w.heap.size,2,none⟩=some (.int .i64 0):=(cell_of_row _ _ _ _ _ _ HZ.out).trans rfl;have r3:w1.cell? ⟨w.heap.size,3,none⟩=some (.bool false):=(cell_of_row _ _ _ _ _ _ HZ.out).trans rfl;have z0:∀j:Nat,w1.frozen? ⟨w.heap.size,j,none⟩=false:=λj=>frozen_of_row _ _ _ _ _ HZ.out;by_cases hc0:c=0
 ·subst hc0
  have ho:=oO HC.out.symm;rw[ak]at ho;have ho1:=ho.1;have ho2:q≤1048576:=by rw[HQ.out];exact ho.2
  clear ho
  go_wp2_with fail
  refine(oD s 16 q w1 hs ho1 ho2).mono ?_;rintro e w2 ⟨hb2,xs,v,hd,hown,hfr,rfl⟩;obtain⟨a0,n0,k0,rfl⟩:=aB hown;have B2:=hid (B1.out.trans (hb2.mono B1.out.size));have hlt:=lt_of_block HZ.out;have HZ2:=hid ((hb2.block _ hlt).trans HZ.out);have HD:=hid hd;have HO:=hid hown;have HFR:=hid hfr;have hn0:∀g,(Value.slice a0 n0 k0).ownBlock=some g→g≠w.heap.size:=λg e=>by have:=hfr g e;omega
  have HN0:=hid hn0;clear hb2 hd hown hfr hn0 r0 r1 r2 r3 z0;have r0:w2.cell? ⟨w.heap.size,0,none⟩=some (.int .i64 0):=(cell_of_row _ _ _ _ _ _ HZ2.out).trans rfl;have r1:w2.cell? ⟨w.heap.size,1,none⟩=some (.slice none 0 0):=(cell_of_row _ _ _ _ _ _ HZ2.out).trans rfl;have r2:w2.cell? ⟨w.heap.size,2,none⟩=some (.int .i64 0):=(cell_of_row _ _ _ _ _ _ HZ2.out).trans rfl;have r3:w2.cell? ⟨w.heap.size,3,none⟩=some (.bool false):=(cell_of_row _ _ _ _ _ _ HZ2.out).trans rfl;have z0:∀j:Nat,w2.frozen? ⟨w.heap.size,j,none⟩=false:=λj=>frozen_of_row _ _ _ _ _ HZ2.out;go_wp2;refine bodyPost_ret (v:=.tuple #[.agg #[.int .i64 (q:Int),.slice a0 n0 k0,.int .i64 (og 16 xs:Int),.bool (decide (og 16 xs=s.size))],.int .i64 0]) (by simp[results,results101,go_sem,r0,r1,r2,r3];exact oN _ _) rfl ⟨?_,?_⟩
  ·exact((((B2.out.setCell (p:=⟨w.heap.size,0,none⟩) (Nat.le_refl _) _).setCell (p:=⟨w.heap.size,1,none⟩) (Nat.le_refl _) _).setCell (p:=⟨w.heap.size,2,none⟩) (Nat.le_refl _) _).setCell (p:=⟨w.heap.size,3,none⟩) (Nat.le_refl _) _)
  ·rw[if_neg (by rw[← HC.out];simp)]
   refine⟨xs,_,by rw[← HQ.out];exact HD.out,?_,λg e=>by have:=HFR.out g e;have:=B1.out.size;omega,by rw[← HQ.out]⟩;exact ownsRow_setCell_other (ownsRow_setCell_other (ownsRow_setCell_other (ownsRow_setCell_other HO.out (λe=>HN0.out _ e rfl) _) (λe=>HN0.out _ e rfl) _) (λe=>HN0.out _ e rfl) _) (λe=>HN0.out _ e rfl) _
 ·have hcb:(c == 0)=false:=by simpa using hc0
  have hcn:(c != 0)=true:=by simpa using hc0
  have HNE:=hid hc0;clear hc0;go_wp2;refine bodyPost_ret (v:=.tuple #[.agg #[.int .i64 0,.slice none 0 0,.int .i64 0,.bool false],.int .i64 c]) (by simp[results,results101,go_sem,r0,r1,r2,r3]) rfl ⟨?_,?_⟩
  ·exact((((B1.out.setCell (p:=⟨w.heap.size,0,none⟩) (Nat.le_refl _) _).setCell (p:=⟨w.heap.size,1,none⟩) (Nat.le_refl _) _).setCell (p:=⟨w.heap.size,2,none⟩) (Nat.le_refl _) _).setCell (p:=⟨w.heap.size,3,none⟩) (Nat.le_refl _) _)
  ·rw[← HC.out,if_pos HNE.out]
theorem Tryz.infoMark:(prog.info? 224).map (λi=>(i.zero,i.size,i.bytes))=some (some (.agg #[.int .i64 0,.int .i64 0]),2,16):=by kernel_rfl
theorem oQ {w:World}{p:Addr}{v:Value}(o:Obj)(h:w.cell? p=some v):(w.alloc o).cell? p=some v:=(((Below.refl w.heap.size w).alloc (Nat.le_refl _) o).cell (block_lt_of_cell h)).trans h
structure oR (w:World) (x:Nat) (ev q nx g:Nat) (sv:Value) (l:bI):Prop where
 cell:w.heap[x]?=some (.cells #[.int .i64 (ev:Int),.int .i64 (q:Int),.int .i64 (nx:Int),.int .i64 (g:Int),sv] 164 (0,0))
 own:w.ownsRow 0 224 2 sv l.length (gJ l)
theorem oR.cs {w:World}{x ev q nx g:Nat}{sv:Value}{l:bI}(h:oR w x ev q nx g sv l) :
  w.cell? ⟨x,0,none⟩=some (.int .i64 (ev:Int))∧w.cell? ⟨x,1,none⟩=some (.int .i64 (q:Int))∧w.cell? ⟨x,2,none⟩=some (.int .i64 (nx:Int))∧w.cell? ⟨x,3,none⟩=some (.int .i64 (g:Int))∧w.cell? ⟨x,4,none⟩=some sv:=
 ⟨(cell_of_row _ _ _ _ _ _ h.cell).trans rfl,(cell_of_row _ _ _ _ _ _ h.cell).trans rfl,(cell_of_row _ _ _ _ _ _ h.cell).trans rfl,(cell_of_row _ _ _ _ _ _ h.cell).trans rfl,(cell_of_row _ _ _ _ _ _ h.cell).trans rfl⟩
theorem oR.fz {w:World}{x ev q nx g:Nat}{sv:Value}{l:bI}(h:oR w x ev q nx g sv l)(j:Nat):w.frozen? ⟨x,j,none⟩=false:=frozen_of_row w x j _ _ h.cell
theorem oR.lt {w:World}{x ev q nx g:Nat}{sv:Value}{l:bI}(h:oR w x ev q nx g sv l):x<w.heap.size:=lt_of_block h.cell
theorem oS (w:World)(x ev q nx g:Nat)(sv:Value)(l:bI)(h:oR w x ev q nx g sv l) :
  Calls prog 72 #[.pointer (some ⟨x,0,none⟩)] w λe w'=>e = .returned (.int .i64 (nx:Int))∧w=w':=by
 obtain⟨c0,c1,c2,c3,c4⟩:=h.cs;clear h
 go_enter func72,ntmps72
 go_wp2;go_ret;exact⟨rfl,rfl⟩
theorem oT (w:World)(x ev q nx g:Nat)(sv:Value)(l:bI)(h:oR w x ev q nx g sv l) :
  Calls prog 138 #[.pointer (some ⟨x,0,none⟩)] w λe w'=>e = .returned (.int .i64 (q:Int))∧w=w':=by
 obtain⟨c0,c1,c2,c3,c4⟩:=h.cs;clear h
 go_enter func138,ntmps138
 go_wp2;go_ret;exact⟨rfl,rfl⟩
theorem oU (w:World)(x ev q nx g:Nat)(sv:Value)(l:bI)(h:oR w x ev q nx g sv l) :
  Calls prog 47 #[.pointer (some ⟨x,0,none⟩)] w λe w'=>e = .returned (.int .i64 (g:Int))∧w=w':=by
 obtain⟨c0,c1,c2,c3,c4⟩:=h.cs;clear h
 go_enter func47,ntmps47
 go_wp2;go_ret;exact⟨rfl,rfl⟩
end
end Go.Proofs.YthjjgcfdhkhelaaGreatDoor
