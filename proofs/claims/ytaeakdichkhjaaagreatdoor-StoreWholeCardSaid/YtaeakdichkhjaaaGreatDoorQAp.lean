/- The walk of store.back, and of its iterator. -/
import Derived.RangeFuncBound
import Derived.RangeFuncCalls
import Derived.Shelf.Abstract
import Derived.Shelf.RegionOpen
import Derived.OwnWalkIn
import Derived.TacticsInMore
import Derived.LoopNIn
import Derived.LoopIn
import Derived.BigRegionIn
import Derived.Sort.CutIn
import Derived.Test.YtaeakdichkhjaaaGreatDoorQAc
import Derived.Test.YtaeakdichkhjaaaGreatDoorQAm
import Derived.Test.YtaeakdichkhjaaaGreatDoorQAf
import Derived.Laws.EntriesVeiled
set_option maxHeartbeats 4000000
open Go.Lib(hid)
namespace Go.Proofs.YtaeakdichkhjaaaGreatDoor
section
open Go.RowKit Go.Shelf
attribute [local go_sem] Oper.semAt_some
theorem nu (a:Option Addr)(n c:Nat)(w:World) :
  Calls Tryz.prog 60 #[.slice a n c] w λe w'=>e = .returned (.func (.func 99) #[] #[.pointer (some ⟨w.heap.size,0,none⟩)])∧w'=w.alloc (.cells #[.slice a n c] 45):=by
 have hmf:∀(fn:Fn) (first cap:Array Value) (w:World),(Instr.makeFunc fn first cap).run Tryz.prog w = .ok (.func fn first cap) w:=λ_ _ _ _=>rfl
 go_enter Tryz.func60,Tryz.ntmps60
 go_wp2;go_ret;exact⟨rfl,rfl⟩
def bwL (ns:List Nat):List (Nat×Nat):=ns.zipIdx.reverse
theorem nv (ns:List Nat):(bwL ns).length=ns.length:=by unfold bwL;simp
theorem nw (ns:List Nat)(k:Nat)(h:k<ns.length):(bwL ns)[k]?=some (ns[ns.length-1-k]'(by omega),ns.length-1-k):=by
 show(ns.zipIdx.reverse)[k]?=_;rw[List.getElem?_reverse (by simpa using h)];simp
theorem nx (ns:List Nat)(k:Nat)(h:k<ns.length):(bwL ns).take (k+1)=(bwL ns).take k++[(ns[ns.length-1-k]'(by omega),ns.length-1-k)]:=by
 rw[List.take_add_one,nw ns k h];rfl
def ny (x:Nat×Nat):Array Value:=#[.int .i64 (x.2:Int),.int .i64 (x.1:Int)]
set_option maxRecDepth 100000 in
theorem nz (w:World)(T:Nat→Prop)(sB:Nat)(a:Option Addr)(c:Nat)(ns:List Nat)(hs:w.heap[sB]?=some (.cells #[.slice a ns.length c] 45 (0,0)))
  (hrow:∀i (hi:i<ns.length),∃g,a=some ⟨g,0,none⟩∧w.cell? ⟨g,i,none⟩=some (.int .i64 (ns[i]:Int))) (hl:ns.length≤64) (hT:¬T sB) (hTg:ns.length≠0→∀g,a=some ⟨g,0,none⟩→¬T g) :
  cM (λx=>x.1∈ns) Fence.wide 4 Tryz.prog 99 #[.pointer (some ⟨sB,0,none⟩)] ny (λ_=>False) (λA B=>Fr T A B) (λ_ _=>True) (λxs=>xs=bwL ns) (λpre=>∃k,k<ns.length∧pre=(bwL ns).take (k+1)) ns.length w:=by
 intro y J Jx W hW _ hJ hJx hY h0;have HS:=hid ((hW.block _ (lt_of_block hs)).trans hs);have HR:=hid (λi (hi:i<ns.length)=>by
  obtain⟨g,h1,h2⟩:=hrow i hi;exact(⟨g,h1,(hW.cell (p:=⟨g,i,none⟩) (aD h2)).trans h2⟩:∃g,a=some ⟨g,0,none⟩∧W.cell? ⟨g,i,none⟩=some (.int .i64 (ns[i]:Int))))
 have HJ:=hid hJ;have HY:=hid hY;have HH:=hid h0;have HT:=hid hT;have HTG:=hid hTg;clear hW hs hrow hJ hJx hY h0 hT hTg;have c0:W.cell? ⟨sB,0,none⟩=some (.slice a ns.length c):=(cell_of_row _ _ _ _ _ _ HS.out).trans rfl;refine callsIn_of_wp Tryz.func99 rfl trivial ?_ rfl;simp only[Tryz.ntmps99,List.size_toArray,List.length_cons,List.length_nil,Nat.reduceAdd,Nat.reduceSub,Array.replicate_succ,Array.replicate_zero,List.push_toArray,List.append_toArray,List.nil_append,List.cons_append]
 gi_wp2
 gi_loopw [3] (λi wr=>∃k:Nat,k≤ns.length∧i = .int .i64 ((ns.length:Int)-1-(k:Int))∧Hid (J ((bwL ns).take k) wr)∧Hid (Fr T W wr)) (λi _=>(intOf i+1).toNat)
 case atStart=>exact⟨0,by omega,by go_num,hid HH.out,hid (Fr.refl _ _)⟩
 case round=>
  obtain⟨k,hk,rfl,HJK,HF⟩:=hrel;have d0:=HF.out.cellAt c0 HT.out;by_cases hlt:k<ns.length
  ·obtain⟨j,hj⟩:∃j,j=ns.length-1-k:=⟨_,rfl⟩
   have hjl:j<ns.length:=by omega
   obtain⟨g,hg,hc⟩:=HR.out j hjl;subst hg;have d1:=HF.out.cellAt hc (HTG.out (by omega) g rfl);have HST:=hid (show(bwL ns).take (k+1)=(bwL ns).take k++[(ns[j]'hjl,j)]from by subst hj;exact nx ns k hlt);have hji:(ns.length:Int)-1-(k:Int)=(j:Int):=by omega
   obtain⟨fn,tmps,assign,body,hy,hR⟩:=HY.out ((bwL ns).take k) (ns[j]'hjl,j) wr (List.getElem_mem hjl) HJK.out (by rw[List.length_take,nv];omega);unfold ny at hy;dsimp only at hy;rw[hji];clear hj
   gi_wp2_with fail
   refine hR.mono ?_;rintro e W4 (⟨rfl,hJ4,hk4⟩|⟨rfl,hJx4,_⟩)
   ·have HJ4:=hid (show J ((bwL ns).take (k+1)) W4 from by rw[HST.out];exact hJ4)
    have HF4:=hid (HF.out.trans hk4);clear hJ4 hk4 hy hR
    gi_wp2
    refine⟨⟨k+1,by omega,?_,HJ4,HF4⟩,?_⟩
    ·go_num
    ·simp[intOf]<;>omega
   ·have HX:=hid (show Jx ((bwL ns).take (k+1)) W4 from by rw[HST.out];exact hJx4)
    clear hJx4 hy hR
    gi_wp2
    refine bodyPost_ret (results_none rfl _ _ _) rfl ?_;exact⟨⟨_,rfl⟩,.inr ⟨_,⟨k,hlt,rfl⟩,HX.out⟩⟩
  ·have hke:k=ns.length:=by omega
   have HJE:=hid (show J (bwL ns) wr from by have:=HJK.out;rwa [List.take_of_length_le (by rw[nv];omega)]at this)
   gi_wp2
   go_end0
   exact⟨⟨_,rfl⟩,.inl ⟨_,rfl,HJE.out⟩⟩
end
section
open Go.RowKit Go.Shelf
attribute [local go_sem] Oper.semAt_some
def within (f t:Int)(n:Nat):Bool:=decide (f≤(n:Int)∧(n:Int)≤t)
def nA (f t:Int)(ns:List Nat):List Nat:=((bwL ns).map (·.1)).filter (within f t)
def flt (f t:Int)(pre:List (Nat×Nat)):List Nat:=(pre.map (·.1)).filter (within f t)
theorem nC (f t:Int)(pre:List (Nat×Nat))(x:Nat×Nat):flt f t (pre++[x])=flt f t pre++(if within f t x.1 then [x.1] else []):=by
 unfold flt;rw[List.map_append,List.filter_append];cases h:within f t x.1<;>simp[h]
theorem nD (f t:Int)(pre:List (Nat×Nat)):(flt f t pre).length≤pre.length:=by
 unfold flt;exact Nat.le_trans (List.length_filter_le _ _) (by simp)
theorem nE (a:Option Addr)(n c:Nat)(f t:Int)(w:World) :
  Calls Tryz.prog 28 #[.slice a n c,.int .i64 f,.int .i64 t] w λe w'=>e = .returned (.func (.func 59) #[] #[.pointer (some ⟨w.heap.size,0,none⟩),.pointer (some ⟨w.heap.size+1,0,none⟩),.pointer (some ⟨w.heap.size+2,0,none⟩)])∧w'=((w.alloc (.cells #[.slice a n c] 45)).alloc (.cells #[.int .i64 f] 2)).alloc (.cells #[.int .i64 t] 2):=by
 have hmf:∀(fn:Fn) (first cap:Array Value) (w:World),(Instr.makeFunc fn first cap).run Tryz.prog w = .ok (.func fn first cap) w:=λ_ _ _ _=>rfl
 go_enter Tryz.func28,Tryz.ntmps28
 go_wp2;go_ret;exact⟨by simp,rfl⟩
def nF (n:Nat):Array Value:=#[.int .i64 (n:Int)]
set_option maxRecDepth 100000 in
theorem nG (w:World)(lB:Nat)(a:Option Addr)(c:Nat)(f t:Int)(ns:List Nat)(hl:ns.length≤64)
  (k0:w.heap[lB]?=some (.cells #[.slice a ns.length c] 45 (0,0))) (k1:w.heap[lB+1]?=some (.cells #[.int .i64 f] 2 (0,0))) (k2:w.heap[lB+2]?=some (.cells #[.int .i64 t] 2 (0,0)))
  (hrow:∀i (hi:i<ns.length),∃g,a=some ⟨g,0,none⟩∧w.cell? ⟨g,i,none⟩=some (.int .i64 (ns[i]:Int))) :
  cM (λn=>n∈ns) Fence.wide 5 Tryz.prog 59 #[.pointer (some ⟨lB,0,none⟩),.pointer (some ⟨lB+1,0,none⟩),.pointer (some ⟨lB+2,0,none⟩)] nF (λk=>w.heap.size+2≤k) (λA B=>Fr (λk=>k=w.heap.size+1) A B) (λA B=>Fr (λk=>k≤w.heap.size+1) A B) (λxs=>xs=nA f t ns) (λpre=>∃k,pre=flt f t ((bwL ns).take k)∧pre≠[]) (ns.length+1) w:=by
 intro y J Jx W hW hsz hJ hJx hY h0;have l0:=(hW.block _ (lt_of_block k0)).trans k0;have l1:=(hW.block _ (lt_of_block k1)).trans k1;have l2:=(hW.block _ (lt_of_block k2)).trans k2;have HLT:=hid (lt_of_block k2);have HROW:=hid (λi (hi:i<ns.length)=>by
  obtain⟨g,h1,h2⟩:=hrow i hi;exact(⟨g,h1,aD h2,(hW.cell (p:=⟨g,i,none⟩) (aD h2)).trans h2⟩:∃g,a=some ⟨g,0,none⟩∧g<w.heap.size∧W.cell? ⟨g,i,none⟩=some (.int .i64 (ns[i]:Int))))
 have d0:W.cell? ⟨lB,0,none⟩=some (.slice a ns.length c):=(cell_of_row _ _ _ _ _ _ l0).trans rfl;have hlB:lB<W.heap.size:=aD d0;have HL0:=hid l0;have HL1:=hid l1;have HL2:=hid l2;have HJ:=hid hJ;have HJX:=hid hJx;have HY:=hid hY;have HH:=hid h0;have HW:=hid hW;clear hW k0 k1 k2 hrow hJ hJx hY h0 l0 l1 l2;refine callsIn_of_wp_marks Tryz.func59 rfl trivial ?_ rfl;simp only[Tryz.ntmps59,List.size_toArray,List.length_cons,List.length_nil,Nat.reduceAdd,Nat.reduceSub,Array.replicate_succ,Array.replicate_zero,List.push_toArray,List.append_toArray,List.nil_append,List.cons_append]
 gi_wp2_with fail
 refine⟨trivial,?_⟩;refine(callsIn_wide.2 (nu a ns.length c _)).mono ?_;rintro e w1 ⟨rfl,rfl⟩
 gi_wp2
 obtain⟨yB,hyB⟩:∃yB,yB=W.heap.size:=⟨_,rfl⟩;obtain⟨W0,hW0⟩:∃W0,W0=(W.alloc (.cells #[.func (.yield y) #[] #[]] 91)).alloc (.cells #[.slice a ns.length c] 45):=⟨_,rfl⟩;have hz0:W0.heap.size=yB+2:=by rw[hW0,hyB];simp
 have hbel:Below W.heap.size W W0:=by rw[hW0];exact((Below.refl _ _).alloc (Nat.le_refl _) _).alloc (by simp) _
 have y0:W0.heap[yB]?=some (.cells #[.func (.yield y) #[] #[]] 91 (0,0)):=by rw[hW0,hyB];exact(Below.heap_alloc _ _ _ (by simp)).trans (heap_alloc_new _ _)
 have s0:W0.heap[yB+1]?=some (.cells #[.slice a ns.length c] 45 (0,0)):=by rw[hW0,hyB];exact cK _ _ (by simp)
 have j0:J [] W0:=HJ.out _ _ _ HH.out (Fr.pure hbel);have e1:=(hbel.block _ (lt_of_block HL1.out)).trans HL1.out;have e2:=(hbel.block _ (lt_of_block HL2.out)).trans HL2.out;have HRW:=hid (λi (hi:i<ns.length)=>by
  obtain⟨g,h1,h2,h3⟩:=HROW.out i hi;exact(⟨g,h1,(hbel.cell (p:=⟨g,i,none⟩) (aD h3)).trans h3⟩:∃g,a=some ⟨g,0,none⟩∧W0.cell? ⟨g,i,none⟩=some (.int .i64 (ns[i]:Int))))
 have HTG:=hid (show ∀g,a=some ⟨g,0,none⟩→ns.length=0∨g<w.heap.size from λg hg=>by
  by_cases h0:ns.length=0
  ·exact .inl h0
  ·obtain⟨g2,h1,h2,_⟩:=HROW.out 0 (by omega)
   rw[hg]at h1;cases h1;exact .inr h2)
 have Y0:=hid y0;have S0:=hid s0;have J0:=hid j0;have E1:=hid e1;have E2:=hid e2;have hlB2:=HLT.out;rw[← hW0,← hyB];have hyw:w.heap.size+1<yB:=by omega
 clear hW0 hbel y0 s0 j0 e1 e2 HH HW HL0 HL1 HL2 d0 hlB hsz hyB;refine cO (n:=5) rfl (by omega) (gf:=99) rfl trivial (enters_of Tryz.func99 (by kernel_rfl) rfl)
  (nz W0 (λk=>k=yB+3∨k=w.heap.size+1) (yB+1) a c ns S0.out HRW.out hl (by omega) (λh0 g hg=>by rcases HTG.out g hg with h|h;exact absurd h h0;omega)) ⟨λh=>h,λh=>h⟩
  (λh k=>h.trans k) (λWx o h=>(Fr.refl _ Wx).putObj _ (λ_=>.inl (by omega)) o) (λ_ _=>trivial) (λ_ _ _ _=>trivial) (λ_=>rfl)
  (λpre Wx=>J (flt f t pre) Wx∧Wx.heap[yB]?=some (.cells #[.func (.yield y) #[] #[]] 91 (0,0))∧Wx.heap[lB+1]?=some (.cells #[.int .i64 f] 2 (0,0))∧Wx.heap[lB+2]?=some (.cells #[.int .i64 t] 2 (0,0)))
  (λcd pre Wx=>cd = .ret∧Jx (flt f t pre) Wx∧flt f t pre≠[]) ?bears ?bearsX ⟨J0.out,Y0.out,E1.out,E2.out⟩
  (λpre x a' Wx=>(J (flt f t pre) Wx∧Wx.heap[yB]?=some (.cells #[.func (.yield y) #[] #[]] 91 (0,0))∧Wx.heap[lB+1]?=some (.cells #[.int .i64 f] 2 (0,0))∧Wx.heap[lB+2]?=some (.cells #[.int .i64 t] 2 (0,0))) ∧
   a'={ tmps:=#[.func (.yield y) #[] #[],.pointer (some ⟨lB,0,none⟩),.pointer (some ⟨lB+1,0,none⟩),.pointer (some ⟨lB+2,0,none⟩),.pointer (some ⟨yB,0,none⟩),undef,.int .i64 (x.1:Int),.slice a ns.length c,.func (.func 99) #[] #[.pointer (some ⟨yB+1,0,none⟩)],.int .i64 (x.2:Int),.int .i64 (x.1:Int),
    undef,undef,undef,undef,undef,undef,undef,undef,undef,undef,undef,undef,undef,undef],defers:=[] })
  ?hA ?assign ?body ?done ?stop
 case bears=>
  rintro pre A B ⟨h1,h2,h3,h4⟩ hf;exact⟨HJ.out _ _ _ h1 (hf.mono (λi _ e=>by rcases e with e|e|e;exact e.elim;omega;omega)),hf.heapAt h2 (λe=>by rcases e with e|e|e;exact e;omega;omega),hf.heapAt h3 (λe=>by rcases e with e|e|e;exact e;omega;omega),hf.heapAt h4 (λe=>by rcases e with e|e|e;exact e;omega;omega)⟩
 case bearsX=>
  rintro cd pre A B ⟨h1,h2,h3⟩ hf;exact⟨h1,HJX.out _ _ _ h2 (hf.mono (λi _ e=>by rcases e with e|e|e;exact e.elim;omega;omega)),h3⟩
 case hA=>
  rintro pre x a' Wx o hlt ⟨⟨h1,h2,h3,h4⟩,h5⟩;have hf:Fr (λk=>k=W0.heap.size+1) Wx (Wx.putObj (W0.heap.size+1) o):=(Fr.refl (λk=>k=W0.heap.size+1) Wx).putObj _ (λ_=>rfl) o;exact⟨⟨HJ.out _ _ _ h1 (hf.mono (λi _ e=>by omega)),hf.heapAt h2 (by omega),hf.heapAt h3 (by omega),hf.heapAt h4 (by omega)⟩,h5⟩
 case assign=>
  intro pre x Wx K _ hlt hI hK;have HI:=hid hI;have HK:=hid hK;clear hI hK;unfold ny
  gi_wp2
  exact HK.out _ _ ⟨HI.out,rfl⟩ (RgIn.refl _ _) (Nat.le_refl _) (Fr.refl _ _)
 case body=>
  rintro pre x a' Wx hqx hlt ⟨⟨h1,h2,h3,h4⟩,rfl⟩ hlen;have c1:Wx.cell? ⟨lB+1,0,none⟩=some (.int .i64 f):=(cell_of_row _ _ _ _ _ _ h3).trans rfl;have c2:Wx.cell? ⟨lB+2,0,none⟩=some (.int .i64 t):=(cell_of_row _ _ _ _ _ _ h4).trans rfl;have c3:Wx.cell? ⟨yB,0,none⟩=some (.func (.yield y) #[] #[]):=(cell_of_row _ _ _ _ _ _ h2).trans rfl;have HI:=hid (And.intro h1 (And.intro h2 (And.intro h3 h4)));obtain⟨z,hz⟩:∃z,z=x.1:=⟨_,rfl⟩;rw[← hz];have HZ:=hid hz;by_cases hf:f≤(z:Int)
  ·by_cases ht:(z:Int)≤t
   ·have HF:=hid (show flt f t (pre++[x])=flt f t pre++[z]from by rw[nC,← hz,if_pos (by unfold within;simp[hf,ht])])
    obtain⟨fn,tmps,assign,body,hy,hR⟩:=HY.out (flt f t pre) z Wx (by rw[HZ.out];exact hqx) h1 (by have:=nD f t pre;omega);unfold nF at hy;clear h1 h2 h3 h4 hz
    gi_wp2_with fail
    refine(RoundIn.inRound (RoundIn.anyDepth rfl hR)).mono ?_;rintro e W4 (⟨rfl,hJ4,hk4⟩|⟨rfl,hJx4,hk4⟩)
    ·obtain⟨_,g2,g3,g4⟩:=HI.out
     have H4:=hid (show J (flt f t (pre++[x])) W4 from by rw[HF.out];exact hJ4);have K4:=hid hk4;clear hJ4 hk4 hy hR
     gi_wp2
     exact⟨RgIn.fr K4.out hlt (by omega) (by omega),K4.out.mono (λ_ _ e=>.inr e),H4.out,K4.out.heapAt g2 (by omega),K4.out.heapAt g3 (by omega),K4.out.heapAt g4 (by omega)⟩
    ·have H4:=hid (show Jx (flt f t (pre++[x])) W4 from by rw[HF.out];exact hJx4)
     have K4:=hid hk4;clear hJx4 hk4 hy hR
     gi_wp2
     exact⟨RgIn.fr K4.out hlt (by omega) (by omega),trivial,rfl,H4.out,by rw[HF.out];simp⟩
   ·have HF:=hid (show flt f t (pre++[x])=flt f t pre from by rw[nC,← hz,if_neg (by unfold within;simp[ht])];simp)
    clear h1 h2 h3 h4 hz
    gi_wp2
    refine⟨λ_ h=>(by cases h),?_⟩
    gi_wp2
    exact⟨RgIn.refl _ _,Fr.refl _ _,by show J (flt f t (pre++[x])) Wx∧_;rw[HF.out];exact HI.out⟩
  ·have HF:=hid (show flt f t (pre++[x])=flt f t pre from by rw[nC,← hz,if_neg (by unfold within;simp[hf])];simp)
   clear h1 h2 h3 h4 hz
   gi_wp2
   refine⟨λ_ h=>(by cases h),?_⟩
   gi_wp2
   exact⟨RgIn.refl _ _,Fr.refl _ _,by show J (flt f t (pre++[x])) Wx∧_;rw[HF.out];exact HI.out⟩
 case done=>
  rintro xs Wx rfl ⟨h1,_⟩ hK;have H1:=hid h1;have HK:=hid hK;clear h1 hK
  gi_wp2
  refine⟨by simp,.inl ⟨_,_,rfl,run_takeDeferred HK.out,?_⟩⟩;exact⟨_,results_none rfl _ _ _,⟨_,rfl⟩,.inl ⟨_,rfl,HJ.out _ _ _ H1.out ((Fr.refl _ Wx).putObj _ (λ_=>by omega) _)⟩⟩
 case stop=>
  rintro cd pre Wx ⟨k,hk,rfl⟩ ⟨rfl,h1,h2⟩ hK;have H1:=hid h1;have H2:=hid h2;have HK:=hid hK;clear h1 h2 hK
  gi_wp2
  refine⟨by simp,.inl ⟨_,_,rfl,run_takeDeferred HK.out,?_⟩⟩;exact⟨_,results_none rfl _ _ _,⟨_,rfl⟩,.inr ⟨_,⟨k+1,rfl,H2.out⟩,HJX.out _ _ _ H1.out ((Fr.refl _ Wx).putObj _ (λ_=>by omega) _)⟩⟩
end
end Go.Proofs.YtaeakdichkhjaaaGreatDoor
