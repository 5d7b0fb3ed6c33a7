/- A text, a byte, read by a body's reader wherever it stands. -/
import Derived.RangeFuncBound
import Derived.RangeFuncCalls
import Derived.Shelf.Abstract
import Derived.Shelf.RegionOpen
import Derived.OwnWalkIn
import Derived.TacticsInMore
import Derived.LoopNIn
import Derived.LoopIn
import Derived.BigRegionIn
import Derived.Sort.CutIn
import Derived.Test.YtaeakdichkhjaaaGreatDoorQAc
import Derived.Test.YtaeakdichkhjaaaGreatDoorQAi
import Derived.Test.YtaeakdichkhjaaaGreatDoorQAd
import Derived.Laws.EntriesVeiled
import Derived.Test.YtaeakdichkhjaaaGreatDoorQAf
import Derived.Test.YtaeakdichkhjaaaGreatDoorQAj
import Derived.Test.YtaeakdichkhjaaaGreatDoorQAh
import Derived.Test.YtaeakdichkhjaaaGreatDoorQAg
import Derived.Test.YtaeakdichkhjaaaGreatDoorQAb
import Derived.Deep.QuietTactic
import Derived.BigQuiet
set_option maxHeartbeats 4000000
open Go.Lib(hid)
namespace Go.Proofs.YtaeakdichkhjaaaGreatDoor
section
open Go.RowKit Go.Shelf
attribute [local go_sem] Oper.semAt_some
theorem lk (a:Option Addr)(n c:Nat)(w:World) :
  Calls Tryz.prog 60 #[.slice a n c] w λe w'=>e = .returned (.func (.func 99) #[] #[.pointer (some ⟨w.heap.size,0,none⟩)])∧w'=w.alloc (.cells #[.slice a n c] 45):=by
 have hmf:∀(fn:Fn) (first cap:Array Value) (w:World),(Instr.makeFunc fn first cap).run Tryz.prog w = .ok (.func fn first cap) w:=λ_ _ _ _=>rfl
 go_enter Tryz.func60,Tryz.ntmps60
 go_wp2;go_ret;exact⟨rfl,rfl⟩
def bwL (ns:List Nat):List (Nat×Nat):=ns.zipIdx.reverse
theorem lm (ns:List Nat):(bwL ns).length=ns.length:=by unfold bwL;simp
theorem lq (ns:List Nat)(k:Nat)(h:k<ns.length):(bwL ns)[k]?=some (ns[ns.length-1-k]'(by omega),ns.length-1-k):=by
 show(ns.zipIdx.reverse)[k]?=_;rw[List.getElem?_reverse (by simpa using h)];simp
theorem lw (ns:List Nat)(k:Nat)(h:k<ns.length):(bwL ns).take (k+1)=(bwL ns).take k++[(ns[ns.length-1-k]'(by omega),ns.length-1-k)]:=by
 rw[List.take_add_one,lq ns k h];rfl
def ly (x:Nat×Nat):Array Value:=#[.int .i64 (x.2:Int),.int .i64 (x.1:Int)]
set_option maxRecDepth 100000 in
theorem lA (w:World)(T:Nat→Prop)(sB:Nat)(a:Option Addr)(c:Nat)(ns:List Nat)(hs:w.heap[sB]?=some (.cells #[.slice a ns.length c] 45 (0,0)))
  (hrow:∀i (hi:i<ns.length),∃g,a=some ⟨g,0,none⟩∧w.cell? ⟨g,i,none⟩=some (.int .i64 (ns[i]:Int))) (hl:ns.length≤64) (hT:¬T sB) (hTg:ns.length≠0→∀g,a=some ⟨g,0,none⟩→¬T g) :
  cm (λx=>x.1∈ns) Fence.wide 4 Tryz.prog 99 #[.pointer (some ⟨sB,0,none⟩)] ly (λ_=>False) (λA B=>Fr T A B) (λ_ _=>True) (λxs=>xs=bwL ns) (λpre=>∃k,k<ns.length∧pre=(bwL ns).take (k+1)) ns.length w:=by
 intro y J Jx W hW _ hJ hJx hY h0;have HS:=hid ((hW.block _ (lt_of_block hs)).trans hs);have HR:=hid (λi (hi:i<ns.length)=>by
  obtain⟨g,h1,h2⟩:=hrow i hi;exact(⟨g,h1,(hW.cell (p:=⟨g,i,none⟩) (aA h2)).trans h2⟩:∃g,a=some ⟨g,0,none⟩∧W.cell? ⟨g,i,none⟩=some (.int .i64 (ns[i]:Int))))
 have HJ:=hid hJ;have HY:=hid hY;have HH:=hid h0;have HT:=hid hT;have HTG:=hid hTg;clear hW hs hrow hJ hJx hY h0 hT hTg;have c0:W.cell? ⟨sB,0,none⟩=some (.slice a ns.length c):=(cell_of_row _ _ _ _ _ _ HS.out).trans rfl;refine callsIn_of_wp Tryz.func99 rfl trivial ?_ rfl;simp only[Tryz.ntmps99,List.size_toArray,List.length_cons,List.length_nil,Nat.reduceAdd,Nat.reduceSub,Array.replicate_succ,Array.replicate_zero,List.push_toArray,List.append_toArray,List.nil_append,List.cons_append]
 gi_wp2
 gi_loopw [3] (λi wr=>∃k:Nat,k≤ns.length∧i = .int .i64 ((ns.length:Int)-1-(k:Int))∧Hid (J ((bwL ns).take k) wr)∧Hid (Fr T W wr)) (λi _=>(intOf i+1).toNat)
 case atStart=>exact⟨0,by omega,by go_num,hid HH.out,hid (Fr.refl _ _)⟩
 case round=>
  obtain⟨k,hk,rfl,HJK,HF⟩:=hrel;have d0:=HF.out.cellAt c0 HT.out;by_cases hlt:k<ns.length
  ·obtain⟨j,hj⟩:∃j,j=ns.length-1-k:=⟨_,rfl⟩
   have hjl:j<ns.length:=by omega
   obtain⟨g,hg,hc⟩:=HR.out j hjl;subst hg;have d1:=HF.out.cellAt hc (HTG.out (by omega) g rfl);have HST:=hid (show(bwL ns).take (k+1)=(bwL ns).take k++[(ns[j]'hjl,j)]from by subst hj;exact lw ns k hlt);have hji:(ns.length:Int)-1-(k:Int)=(j:Int):=by omega
   obtain⟨fn,tmps,assign,body,hy,hR⟩:=HY.out ((bwL ns).take k) (ns[j]'hjl,j) wr (List.getElem_mem hjl) HJK.out (by rw[List.length_take,lm];omega);unfold ly at hy;dsimp only at hy;rw[hji];clear hj
   gi_wp2_with fail
   refine hR.mono ?_;rintro e W4 (⟨rfl,hJ4,hk4⟩|⟨rfl,hJx4,_⟩)
   ·have HJ4:=hid (show J ((bwL ns).take (k+1)) W4 from by rw[HST.out];exact hJ4)
    have HF4:=hid (HF.out.trans hk4);clear hJ4 hk4 hy hR
    gi_wp2
    refine⟨⟨k+1,by omega,?_,HJ4,HF4⟩,?_⟩
    ·go_num
    ·simp[intOf]<;>omega
   ·have HX:=hid (show Jx ((bwL ns).take (k+1)) W4 from by rw[HST.out];exact hJx4)
    clear hJx4 hy hR
    gi_wp2
    refine bodyPost_ret (results_none rfl _ _ _) rfl ?_;exact⟨⟨_,rfl⟩,.inr ⟨_,⟨k,hlt,rfl⟩,HX.out⟩⟩
  ·have hke:k=ns.length:=by omega
   have HJE:=hid (show J (bwL ns) wr from by have:=HJK.out;rwa [List.take_of_length_le (by rw[lm];omega)]at this)
   gi_wp2
   go_end0
   exact⟨⟨_,rfl⟩,.inl ⟨_,rfl,HJE.out⟩⟩
end
section
open Go.RowKit Go.Shelf
attribute [local go_sem] Oper.semAt_some
def within (f t:Int)(n:Nat):Bool:=decide (f≤(n:Int)∧(n:Int)≤t)
def lC (f t:Int)(ns:List Nat):List Nat:=((bwL ns).map (·.1)).filter (within f t)
def flt (f t:Int)(pre:List (Nat×Nat)):List Nat:=(pre.map (·.1)).filter (within f t)
theorem lD (f t:Int)(pre:List (Nat×Nat))(x:Nat×Nat):flt f t (pre++[x])=flt f t pre++(if within f t x.1 then [x.1] else []):=by
 unfold flt;rw[List.map_append,List.filter_append];cases h:within f t x.1<;>simp[h]
theorem lE (f t:Int)(pre:List (Nat×Nat)):(flt f t pre).length≤pre.length:=by
 unfold flt;exact Nat.le_trans (List.length_filter_le _ _) (by simp)
theorem lF (a:Option Addr)(n c:Nat)(f t:Int)(w:World) :
  Calls Tryz.prog 28 #[.slice a n c,.int .i64 f,.int .i64 t] w λe w'=>e = .returned (.func (.func 59) #[] #[.pointer (some ⟨w.heap.size,0,none⟩),.pointer (some ⟨w.heap.size+1,0,none⟩),.pointer (some ⟨w.heap.size+2,0,none⟩)])∧w'=((w.alloc (.cells #[.slice a n c] 45)).alloc (.cells #[.int .i64 f] 2)).alloc (.cells #[.int .i64 t] 2):=by
 have hmf:∀(fn:Fn) (first cap:Array Value) (w:World),(Instr.makeFunc fn first cap).run Tryz.prog w = .ok (.func fn first cap) w:=λ_ _ _ _=>rfl
 go_enter Tryz.func28,Tryz.ntmps28
 go_wp2;go_ret;exact⟨by simp,rfl⟩
def lG (n:Nat):Array Value:=#[.int .i64 (n:Int)]
end
section
open Go.RowKit Go.Shelf
attribute [local go_sem] Oper.semAt_some
theorem lH (f t:Int)(L:List (Nat×Nat))(k:Nat):∃r,flt f t L=flt f t (L.take k)++r:=by
 refine⟨flt f t (L.drop k),?_⟩;unfold flt;rw[← List.filter_append,← List.map_append,List.take_append_drop]
theorem lI {w:World}{p b:Nat}{st:DkSt}(h:IsDk w p b st){nm D:List UInt8}{code:Int}(hd:eG st nm=(D,code))(hnm:nm.length≤100):Reads w (.pointer (some ⟨p,0,none⟩)) nm D code:=λW r hW hr=>by
 have h1:=eI W p b st (h.pure hW) r (by rw[av hr];unfold maxLen;omega);rw[hr,hd]at h1;exact h1
theorem lJ (n:Int):(fN n).length≤100:=by
 unfold fN
 split
 ·rename_i hc
  rw[List.length_cons];have:=fh n 10 (by omega) (by omega);omega
 ·simp
structure NwAt (w W:World) (b p:Nat) (r0:Int) (C:Array Value) (V:Array Value) (ok:Bool):Prop where
 d:W.heap[b]?=some (.cells #[.pointer (some ⟨p,0,none⟩)] 39 (0,0))
 q:W.heap[b+1]?=some (.cells #[.int .i64 r0] 2 (0,0))
 s:W.heap[b+1+1]?=some (.cells C 29 (0,0))
 v:W.heap[b+1+1+1]?=some (.cells V 35 (0,0))
 i:W.heap[b+1+1+1+1]?=some (.cells #[.bool ok] 4 (0,0))
 e:W.heap[b+1+1+1+1+1]?=some (.cells #[.int .i64 0] 40 (0,0))
 below:Below b w W
theorem NwAt.fr {w W W':World}{b p:Nat}{r0:Int}{C V:Array Value}{ok:Bool}{S:Nat→Prop}(h:NwAt w W b p r0 C V ok)(hf:Fr S W W')(hS:∀k,k<b+6→¬S k):NwAt w W' b p r0 C V ok:=
 ⟨hf.heapAt h.d (hS _ (by omega)),hf.heapAt h.q (hS _ (by omega)),hf.heapAt h.s (hS _ (by omega)),hf.heapAt h.v (hS _ (by omega)),hf.heapAt h.i (hS _ (by omega)),hf.heapAt h.e (hS _ (by omega)),h.below.trans (hf.below (B:=b) (by have:=lt_of_block h.d;omega) (λk hk=>hS k (by omega)))⟩
def zC:Array Value:=#[.int .i64 0,.int .i64 0,.int .i64 0,.int .i64 0,.slice none 0 0,.slice none 0 0,.slice none 0 0,.slice none 0 0,.slice none 0 0]
def zV:Array Value:=#[.slice none 0 0,.slice none 0 0,.slice none 0 0,.slice none 0 0]
end
section
open Go.RowKit Go.Maps Go.Sort
theorem lK (cp:Int)(l:Fs):(∃c,(c == 0)=false∧c≠0∧gt cp l=(none,c))∨(gt cp l=(some ⟨l,cp,-1,false⟩,0)):=by
 unfold gt
 split
 ·exact .inl ⟨1,by decide,by decide,rfl⟩
 ·split
  ·exact .inl ⟨4,by decide,by decide,rfl⟩
  ·split
   ·exact .inl ⟨44,by decide,by decide,rfl⟩
   ·exact .inr rfl
set_option maxRecDepth 100000 in
theorem lL (w:World)(cap:Int)(hc:cap≤9223372036854775807) :
  Calls Tryz.prog 23 #[.int .i64 cap] w λe w'=>gy cap [] w e w':=by
 go_enter Tryz.func23,Tryz.ntmps23
 go_wp2_with fail
 refine(gA w cap (.slice none 0 0) [] ⟨none,0,rfl,.inl rfl⟩ (by simp) (by simp) hc).mono ?_;rintro e w1 ⟨hb,h⟩;have HB:=hid hb
 rcases lK cap []with⟨c,hcf,hc0,hld⟩|hld
 ·rw[hld]at h
  simp only at h;subst h;have HL:=hid hld;clear hld hb;go_wp2;refine bodyPost_ret (v:=.tuple #[.pointer none,.int .i64 c]) (by simp[results,Tryz.results23,go_sem]) rfl ⟨HB.out,?_⟩;rw[HL.out]
 ·rw[hld]at h
  obtain⟨p,b,hpg,hbg,rfl,hd⟩:=h;have HL:=hid (And.intro hld (And.intro hpg (And.intro hbg hd)));clear hld hb hd hpg hbg;go_wp2;refine bodyPost_ret (v:=.tuple #[.pointer (some ⟨p,0,none⟩),.int .i64 0]) (by simp[results,Tryz.results23,go_sem]) rfl ⟨HB.out,?_⟩;rw[HL.out.1];exact⟨p,b,HL.out.2.1,HL.out.2.2.1,rfl,HL.out.2.2.2⟩
structure Own27 (w0 W:World) (p b:Nat) (st:DkSt):Prop where
 dk:IsDk W p b st
 fp:w0.heap.size≤p
 fb:w0.heap.size≤b
 below:Below w0.heap.size w0 W
theorem Own27.pure {w0 W W':World}{p b:Nat}{st:DkSt}(h:Own27 w0 W p b st)(hb:Below W.heap.size W W'):Own27 w0 W' p b st:=⟨h.dk.pure hb,h.fp,h.fb,cx h.below hb⟩
theorem Own27.op {w0 W W':World}{p b:Nat}{st st':DkSt}(h:Own27 w0 W p b st)(hd:IsDk W' p b st')(hf:DFr p b W W'):Own27 w0 W' p b st':=
 ⟨hd,h.fp,h.fb,h.below.trans (hf.below h.below.size (λk hk e=>by have:=h.fp;have:=h.fb;rcases e with rfl|rfl<;>omega))⟩
theorem Own27.lz {w0 W:World}{p b:Nat}{st:DkSt}(h:Own27 w0 W p b st)(hl:Libz w0):Libz W∧¬kH p∧¬kH b:=
 ⟨hl.pure h.below,λe=>by have:=hl.lt _ e;have:=h.fp;omega,λe=>by have:=hl.lt _ e;have:=h.fb;omega⟩
set_option maxRecDepth 100000 in
theorem lM:fN 17=[110,48,48,48,48,48,48,48,48,49,55]:=by decide +kernel
theorem lN:gt 1000 []=(some seT,0):=rfl
theorem lO (w0 W:World)(hb:Below w0.heap.size w0 W):Calls Tryz.prog 23 #[.int .i64 1000] W λe w'=>∃p b,e = .returned (.tuple #[.pointer (some ⟨p,0,none⟩),.int .i64 0])∧Own27 w0 w' p b seT:=by
 refine(lL W 1000 (by omega)).mono ?_;rintro e w' ⟨h1,h2⟩;rw[lN]at h2;obtain⟨p,b,h3,h4,h5,h6⟩:=h2;have:=hb.size;exact⟨p,b,h5,h6,by omega,by omega,hb.trans (h1.mono hb.size)⟩
end
section
open Go.RowKit
def lP (b:Bool):List UInt8:=[if b then 1 else 0]
def lQ (n:List UInt8):List UInt8:=bB n.length++n
def lR (n:Int):List UInt8:=[UInt8.ofNat n.toNat]
def lS {α:Type}(f:α→List UInt8)(l:List α):List UInt8:=bB l.length++l.flatMap f
def lT (a:AccD):List UInt8:=lQ a.name++lP a.opn
def lU (x:InsD):List UInt8:=lQ x.name++(ig [x.tick]++lP x.halt)
def lV (r:RowD):RowD:=if r.acct=0 then { r with free:=wrap64 (-r.free) } else r
def lW (r:RowD):List UInt8:=ig [r.acct,r.asset,(lV r).free,r.held]
def lX (o:OrdD):List UInt8:=ig [o.id,o.acct,o.inst]++(lR o.side++ig [o.price,o.left])
def lY (b:BidD):List UInt8:=ig [b.acct,b.amount]
def lZ (a:AucD):List UInt8:=ig [a.id,a.seller,a.inst]++(lP a.sealed++(ig [a.qty,a.reserve,a.step,a.fin]++lS lY a.bids))
def stB (s:StD):List UInt8:=ig [s.clock,s.fee,s.nextO,s.nextA]++(lS lT s.accts++(lS lU s.insts++(lS lW s.rows++(lS lX s.ords++lS lZ s.aucs))))
def ma (d:Int):Int:=if 0<d then wrap64 (2*d) else wrap64 (wrap64 (-2*d)-1)
def mc (n:Int):Int:=if n % 2=0 then n.tdiv 2 else wrap64 ((-n).tdiv 2-1)
def me (o:OpnD):List UInt8:=ig [o.acct,o.id,o.inst]++(lR o.side++ig [o.price,o.left])
def mf (l:LotD):List UInt8:=ig [l.id,l.seller,l.inst,l.qty]
def mg (p:PosD):List UInt8:=ig [p.acct,p.inst,p.bought,p.sold,p.spent,p.got]
def mh (l:LinD):List UInt8:=ig [l.acct,l.seq]++(lR l.kind++ig [ma l.delta,l.balance])
def vwB (v:VwD):List UInt8:=lS me v.open_++(lS mf v.lots++(lS mg v.poss++lS mh v.lins))
def mi (s:StD)(v:VwD):List UInt8:=stB s++vwB v
structure RS where
 st:RdSt
 bad:Bool
def RS.upTo (s:List UInt8)(n:Nat)(r:RS):Int×RS:=(wrap64 ((r.st.short s n).1:Int),⟨(r.st.short s n).2,r.bad⟩)
def RS.long (s:List UInt8)(r:RS):Int×RS:=r.upTo s 4611686018427387904
def RS.u8 (s:List UInt8)(r:RS):Int×RS:=(((r.st.fixed s 1).1:Int),⟨(r.st.fixed s 1).2,r.bad⟩)
def RS.yes (s:List UInt8)(r:RS):Bool×RS:=(decide ((r.st.fixed s 1).1=1),⟨(r.st.fixed s 1).2,r.bad || decide (1<(r.st.fixed s 1).1)⟩)
def RdSt.text (st:RdSt)(s:List UInt8)(most:Nat):List UInt8×RdSt:=
 if st.e≠0 then ([],st) else if (st.short s most).2.e≠0 then ([],(st.short s most).2)
 else if s.length-(st.short s most).2.at_<(st.short s most).1 then ([],⟨st.at_,8,st.at_⟩)
 else (((st.short s most).2.take s (st.short s most).1).1,((st.short s most).2.take s (st.short s most).1).2.2)
def RS.text (s:List UInt8)(r:RS):List UInt8×RS:=((r.st.text s 24).1,⟨(r.st.text s 24).2,r.bad⟩)
def mj {α:Type}(one:RS→α×RS):Nat→List α→RS→List α×RS
 | 0,acc,r=>(acc,r)
 | n+1,acc,r=>if (one r).2.st.e≠0 then ([],(one r).2) else mj one n (acc++[(one r).1]) (one r).2
def RS.list {α:Type}(s:List UInt8)(one:RS→α×RS)(r:RS):List α×RS:=mj one (r.upTo s s.length).1.toNat [] (r.upTo s s.length).2
section
variable (s:List UInt8)
def ml (r:RS):AccD×RS:=(⟨(r.text s).1,((r.text s).2.yes s).1⟩,((r.text s).2.yes s).2)
def mn (r:RS):InsD×RS:=
 let a:=r.text s;let b:=a.2.long s;let c:=b.2.yes s
 (⟨a.1,b.1,c.1⟩,c.2)
def mo (r:RS):RowD×RS:=
 let a:=r.upTo s 64;let b:=a.2.upTo s 16;let c:=b.2.long s;let d:=c.2.long s
 (lV ⟨a.1,b.1,c.1,d.1⟩,d.2)
def mq (r:RS):OrdD×RS:=
 let a:=r.long s;let b:=a.2.upTo s 64;let c:=b.2.upTo s 16;let d:=c.2.u8 s;let e:=d.2.long s;let f:=e.2.long s
 (⟨a.1,b.1,c.1,d.1,e.1,f.1⟩,f.2)
def mr (r:RS):BidD×RS:=
 let a:=r.upTo s 64;let b:=a.2.long s
 (⟨a.1,b.1⟩,b.2)
def mu (r:RS):AucD×RS:=
 let a:=r.long s;let b:=a.2.upTo s 64;let c:=b.2.upTo s 16;let d:=c.2.yes s;let e:=d.2.long s;let f:=e.2.long s;let g:=f.2.long s;let h:=g.2.long s;let i:=h.2.list s (mr s)
 (⟨a.1,b.1,c.1,d.1,e.1,f.1,g.1,h.1,i.1⟩,i.2)
def stR (r:RS):StD×RS:=
 let a:=r.long s;let b:=a.2.long s;let c:=b.2.long s;let d:=c.2.long s
 let e:=d.2.list s (ml s);let f:=e.2.list s (mn s);let g:=f.2.list s (mo s);let h:=g.2.list s (mq s);let i:=h.2.list s (mu s)
 (⟨a.1,b.1,c.1,d.1,e.1,f.1,g.1,h.1,i.1⟩,i.2)
def mw (r:RS):OpnD×RS:=
 let a:=r.upTo s 64;let b:=a.2.long s;let c:=b.2.upTo s 16;let d:=c.2.u8 s;let e:=d.2.long s;let f:=e.2.long s
 (⟨a.1,b.1,c.1,d.1,e.1,f.1⟩,f.2)
def mx (r:RS):LotD×RS:=
 let a:=r.long s;let b:=a.2.upTo s 64;let c:=b.2.upTo s 16;let d:=c.2.long s
 (⟨a.1,b.1,c.1,d.1⟩,d.2)
def my (r:RS):PosD×RS:=
 let a:=r.upTo s 64;let b:=a.2.upTo s 16;let c:=b.2.long s;let d:=c.2.long s;let e:=d.2.long s;let f:=e.2.long s
 (⟨a.1,b.1,c.1,d.1,e.1,f.1⟩,f.2)
def mz (r:RS):LinD×RS:=
 let a:=r.upTo s 64;let b:=a.2.long s;let c:=b.2.u8 s;let d:=c.2.long s;let e:=d.2.long s
 (⟨a.1,b.1,c.1,mc d.1,e.1⟩,e.2)
def vwR (r:RS):VwD×RS:=
 let a:=r.list s (mw s);let b:=a.2.list s (mx s);let c:=b.2.list s (my s);let d:=c.2.list s (mz s)
 (⟨a.1,b.1,c.1,d.1⟩,d.2)
end
def mA (k:Nat):RS:=⟨⟨k,0,0⟩,false⟩
def mB:StD:=⟨0,0,0,0,[],[],[],[],[]⟩
def mC:VwD:=⟨[],[],[],[]⟩
def mD (s:List UInt8):Prop:=1048556<s.length
open Classical in
noncomputable def mE (s:List UInt8):StD×VwD×Int:=
 if mD s then (mB,mC,40)
 else if (vwR s (stR s (mA 0)).2).2.st.ended s.length=0∧(vwR s (stR s (mA 0)).2).2.bad=false∧jW (stR s (mA 0)).1∧j9 (vwR s (stR s (mA 0)).2).1 then ((stR s (mA 0)).1,(vwR s (stR s (mA 0)).2).1,0)
 else (mB,mC,4)
open Classical in
noncomputable def mF (s:StD) (v:VwD):List UInt8×Int:=if ¬(jW s∧j9 v) then ([],4) else if mD (mi s v) then ([],40) else (mi s v,0)
theorem mG {s A B:List UInt8}{k:Nat}(h:s.drop k=A++B):s.drop (k+A.length)=B:=by
 rw[← List.drop_drop,h,List.drop_left]
theorem mH {n:Int}(h0:0≤n)(h1:n≤9223372036854775807):((ie n:Nat):Int)=n∧ie n<9223372036854775808:=by unfold ie;omega
theorem mI (n:Int)(l:List Int):ig (n::l)=bB (ie n)++ig l:=by unfold ig;rw[List.flatMap_cons]
theorem mJ:ig []=[]:=rfl
def mK {α:Type}(s:List UInt8)(one:RS→α×RS)(x:α)(L:List UInt8):Prop:=∀k rest,s.drop k=L++rest→one (mA k)=(x,mA (k+L.length))
theorem mL (s:List UInt8){n:Int}{most:Nat}(h0:0≤n)(h1:n≤most)(hm:most≤9223372036854775807):mK s (RS.upTo s most) n (bB (ie n)):=by
 intro k rest hs;obtain⟨e,hlt⟩:=mH h0 (by omega);have h:=bP (s:=s) (most:=most) (n:=ie n) (st:=⟨k,0,0⟩) rfl (by omega) (by omega) hs;unfold RS.upTo mA;rw[h];simp only[e];rw[show wrap64 n=n from by unfold wrap64;omega]
theorem mM (s:List UInt8){n:Int}(h0:0≤n)(h1:n≤4611686018427387904):mK s (RS.long s) n (bB (ie n)):=mL s h0 (by omega) (by omega)
theorem mN {s rest:List UInt8}{k:Nat}{b:UInt8}(hs:s.drop k=b::rest):(⟨k,0,0⟩:RdSt).fixed s 1=(b.toNat,⟨k+1,0,0⟩):=by
 unfold RdSt.fixed;rw[bK (st:=⟨k,0,0⟩) rfl hs];simp[bM]
theorem mO (s:List UInt8){n:Int}(h0:0≤n)(h1:n≤255):mK s (RS.u8 s) n (lR n):=by
 intro k rest hs;unfold RS.u8 mA lR at *;rw[mN (b:=UInt8.ofNat n.toNat) hs];have:((UInt8.ofNat n.toNat).toNat:Int)=n:=by simp;omega
 simp only[this,List.length_singleton]
theorem mP (s:List UInt8)(b:Bool):mK s (RS.yes s) b (lP b):=by
 intro k rest hs;unfold RS.yes mA lP at *;rw[mN (b:=if b then 1 else 0) hs];cases b<;>simp
theorem mQ (s:List UInt8){n:List UInt8}(hn:n.length≤24):mK s (RS.text s) n (lQ n):=by
 intro k rest hs;unfold lQ at *;rw[List.append_assoc]at hs;have h:=bP (s:=s) (most:=24) (n:=n.length) (st:=⟨k,0,0⟩) rfl (by omega) (by omega) hs;have hd:=mG hs;have hl:=congrArg List.length hd;rw[List.length_drop,List.length_append]at hl;unfold RS.text RdSt.text mA;rw[h];have ht:(⟨k+(bB n.length).length,0,0⟩:RdSt).take s n.length=(n,true,⟨k+(bB n.length).length+n.length,0,0⟩):=by
  unfold RdSt.take;rw[hd];simp;omega
 simp only[ne_eq,not_true_eq_false,if_false,ht,List.length_append];rw[if_neg (by omega),Nat.add_assoc]
theorem mR (n:Nat):1≤(bB n).length:=by
 by_cases h:n<128
 ·rw[bC h];simp
 ·rw[bD h];simp
theorem mS {α:Type}{s:List UInt8}{one:RS→α×RS}{enc:α→List UInt8}:∀(xs acc:List α) (k:Nat) (rest:List UInt8),(∀x∈xs,mK s one x (enc x))→s.drop k=xs.flatMap enc++rest →
  mj one xs.length acc (mA k)=(acc++xs,mA (k+(xs.flatMap enc).length))
 | [],acc,k,rest,_,_=>by simp[mj]
 | x::r,acc,k,rest,h,hs=>by
  rw[List.flatMap_cons,List.append_assoc]at hs;have h1:=h x (by simp) k _ hs;rw[List.length_cons,mj,h1];simp only[mA,ne_eq,not_true_eq_false,if_false];have:=mS r (acc++[x]) (k+(enc x).length) rest (λy hy=>h y (by simp[hy])) (mG hs);rw[mA]at this;rw[this,List.flatMap_cons,List.length_append,List.append_assoc];simp[mA,Nat.add_assoc]
theorem mT {α:Type}{enc:α→List UInt8}(h1:∀x,1≤(enc x).length)(xs:List α):xs.length≤(xs.flatMap enc).length:=by
 induction xs with
 | nil=>simp
 | cons x r ih=>rw[List.flatMap_cons,List.length_append,List.length_cons];have:=h1 x;omega
theorem mU (s:List UInt8){α:Type}{one:RS→α×RS}{enc:α→List UInt8}{xs:List α}(h1:∀x,1≤(enc x).length)(h:∀x∈xs,mK s one x (enc x))(hz:s.length≤1048576):mK s (RS.list s one) xs (lS enc xs):=by
 intro k rest hs;unfold lS at *;rw[List.append_assoc]at hs;have hl:=congrArg List.length hs;rw[List.length_drop,List.length_append,List.length_append]at hl;have hg:=mT h1 xs;have hu:=mL s (n:=(xs.length:Int)) (most:=s.length) (by omega) (by omega) (by omega) k (xs.flatMap enc++rest) (by
  have:ie (xs.length:Int)=xs.length:=by unfold ie;omega
  rw[this];exact hs)
 have hn:ie (xs.length:Int)=xs.length:=by unfold ie;omega
 rw[hn]at hu;unfold RS.list;rw[hu];simp only[Int.toNat_natCast];rw[mS xs [] _ rest h (mG hs),List.length_append,List.nil_append,Nat.add_assoc]
end
section
open Go.RowKit
structure RrAt (w:World) (q p:Nat) (s:ByteArray) (r:RS):Prop where
 cell:w.heap[q]?=some (.cells #[.pointer (some ⟨p,0,none⟩),.int .i64 (s.size:Int),.bool r.bad] 191 (0,0))
 rd:IsRd w p s r.st
 ne:q≠p
theorem RrAt.kept {S:Nat→Prop}{w w':World}{q p:Nat}{s:ByteArray}{r:RS}(h:RrAt w q p s r)(hf:Fr S w w')(hq:¬S q)(hp:¬S p):RrAt w' q p s r:=⟨hf.heapAt h.cell hq,h.rd.kept hf hp,h.ne⟩
theorem RrAt.pure {w w':World}{q p:Nat}{s:ByteArray}{r:RS}(h:RrAt w q p s r)(hb:Below w.heap.size w w'):RrAt w' q p s r:=h.kept (Fr.pure (S:=λ_=>False) hb) (λh=>h) (λh=>h)
theorem RrAt.cs {w:World}{q p:Nat}{s:ByteArray}{r:RS}(h:RrAt w q p s r):w.cell? ⟨q,0,none⟩=some (.pointer (some ⟨p,0,none⟩))∧w.cell? ⟨q,1,none⟩=some (.int .i64 (s.size:Int))∧w.cell? ⟨q,2,none⟩=some (.bool r.bad):=by
 refine⟨?_,?_,?_⟩<;>rw[cell_of_row w q _ _ _ _ h.cell]<;>rfl
abbrev RrTo (w w':World) (q p:Nat) (s:ByteArray) (r:RS):Prop:=RrAt w' q p s r∧Fr (λk=>k=p∨k=q) w w'
theorem mV (w:World)(q p:Nat)(s:ByteArray)(r:RS)(h:RrAt w q p s r)(n:Nat)(hn:n≤9223372036854775807) :
  Calls Tryz.prog 149 #[.pointer (some ⟨q,0,none⟩),.int .i64 (n:Int)] w λe w'=>e = .returned (.int .i64 (r.upTo s.data.toList n).1)∧RrTo w w' q p s (r.upTo s.data.toList n).2:=by
 obtain⟨c0,c1,c2⟩:=h.cs;have H:=hid h;clear h;unfold RS.upTo
 go_enter Tryz.func149,Tryz.ntmps149
 go_wp2_with fail
 refine(cf w p s r.st H.out.rd n).mono ?_;rintro e w1 ⟨rfl,h1,hf1⟩;have H1:=hid (show RrAt w1 q p s ⟨(r.st.short s.data.toList n).2,r.bad⟩from⟨hf1.heapAt H.out.cell H.out.ne,h1,H.out.ne⟩);clear h1;go_wp2;go_ret;exact⟨rfl,H1.out,hf1.mono (λ_ _ e=>.inl e)⟩
theorem mW (w:World)(q p:Nat)(s:ByteArray)(r:RS)(h:RrAt w q p s r) :
  Calls Tryz.prog 140 #[.pointer (some ⟨q,0,none⟩)] w λe w'=>e = .returned (.int .i64 (r.long s.data.toList).1)∧RrTo w w' q p s (r.long s.data.toList).2:=by
 obtain⟨c0,c1,c2⟩:=h.cs;have H:=hid h;clear h;unfold RS.long RS.upTo
 go_enter Tryz.func140,Tryz.ntmps140
 go_wp2_with fail
 refine(cf w p s r.st H.out.rd 4611686018427387904).mono ?_;rintro e w1 ⟨rfl,h1,hf1⟩;have H1:=hid (show RrAt w1 q p s ⟨(r.st.short s.data.toList 4611686018427387904).2,r.bad⟩from⟨hf1.heapAt H.out.cell H.out.ne,h1,H.out.ne⟩);clear h1;go_wp2;go_ret;exact⟨rfl,H1.out,hf1.mono (λ_ _ e=>.inl e)⟩
set_option maxRecDepth 100000 in
theorem mX (w:World)(q p:Nat)(s:ByteArray)(r:RS)(h:RrAt w q p s r) :
  Calls Tryz.prog 144 #[.pointer (some ⟨q,0,none⟩)] w λe w'=>e = .returned (.bool (r.yes s.data.toList).1)∧RrTo w w' q p s (r.yes s.data.toList).2:=by
 obtain⟨c0,c1,c2⟩:=h.cs;have H:=hid h;clear h;unfold RS.yes;obtain⟨R,hR⟩:∃R,R=r.st.fixed s.data.toList 1:=⟨_,rfl⟩;obtain⟨b,st⟩:=R;have HR:=hid (bT w p s r.st H.out.rd);rw[← hR]at HR ⊢;dsimp only at HR ⊢
 go_enter Tryz.func144,Tryz.ntmps144
 go_wp2_with fail
 refine HR.out.mono ?_;rintro e w1 ⟨rfl,h1,hf1⟩;have hb1:=hf1.heapAt H.out.cell H.out.ne;have d2:w1.cell? ⟨q,2,none⟩=some (.bool r.bad):=(cell_of_row _ _ _ _ _ _ hb1).trans rfl;have z2:=frozen_of_row _ q 2 _ _ hb1;have HB1:=hid hb1;have H1:=hid h1;have HF1:=hid (show Fr (λk=>k=p∨k=q) w w1 from hf1.mono (λ_ _ e=>.inl e));clear h1 hb1 hf1 hR;have HFIN:=hid (λ(x:Bool)=>(show RrTo w (w1.setCell ⟨q,2,none⟩ (.bool x)) q p s ⟨st,x⟩from
  ⟨⟨heap_setCell_same _ _ _ _ _ _ HB1.out,H1.out.kept ((Fr.refl (λk=>k=q) w1).setCell ⟨q,2,none⟩ (λ_=>rfl) _) (λe=>H.out.ne e.symm),H.out.ne⟩,HF1.out.setCell ⟨q,2,none⟩ (λ_=>.inr rfl) _⟩))
 by_cases h1:b=1
 ·have q1:((b:Int) == 1)=true:=by rw[beq_iff_eq];omega
  have q2:decide ((1:Int)<(b:Int))=false:=by simp;omega
  have E1:=hid (show decide (b=1)=true from by simpa using h1);have E2:=hid (show decide (1<b)=false from by simp;omega);clear h1;cases hbad:r.bad
  ·rw[hbad]at d2
   go_wp2;go_ret;rw[E1.out,E2.out,hbad];exact⟨rfl,HFIN.out _⟩
  ·rw[hbad]at d2
   go_wp2;go_ret;rw[E1.out,E2.out,hbad];exact⟨rfl,HFIN.out _⟩
 ·by_cases h2:1<b
  ·have q1:((b:Int) == 1)=false:=by rw[beq_eq_false_iff_ne];omega
   have q2:decide ((1:Int)<(b:Int))=true:=by simp;omega
   have E1:=hid (show decide (b=1)=false from by simpa using h1);have E2:=hid (show decide (1<b)=true from by simp;omega);clear h1 h2;cases hbad:r.bad
   ·rw[hbad]at d2
    go_wp2;go_ret;rw[E1.out,E2.out,hbad];exact⟨rfl,HFIN.out _⟩
   ·rw[hbad]at d2
    go_wp2;go_ret;rw[E1.out,E2.out,hbad];exact⟨rfl,HFIN.out _⟩
  ·have q1:((b:Int) == 1)=false:=by rw[beq_eq_false_iff_ne];omega
   have q2:decide ((1:Int)<(b:Int))=false:=by simp;omega
   have E1:=hid (show decide (b=1)=false from by simpa using h1);have E2:=hid (show decide (1<b)=false from by simp;omega);clear h1 h2;cases hbad:r.bad
   ·rw[hbad]at d2
    go_wp2;go_ret;rw[E1.out,E2.out,hbad];exact⟨rfl,HFIN.out _⟩
   ·rw[hbad]at d2
    go_wp2;go_ret;rw[E1.out,E2.out,hbad];exact⟨rfl,HFIN.out _⟩
set_option maxRecDepth 100000 in
theorem mY (w:World)(p:Nat)(s:ByteArray)(st:RdSt)(h:IsRd w p s st)(most:Nat)(hm:most≤4611686018427387904) :
  Calls Tryz.prog 143 #[.pointer (some ⟨p,0,none⟩),.int .i64 (most:Int)] w λe w'=>(∃r:ByteArray,r.data.toList=(st.text s.data.toList most).1∧e = .returned (.string r))∧IsRd w' p s (st.text s.data.toList most).2∧Fr (λk=>k=p) w w':=by
 obtain⟨c0,c1,c2,c3⟩:=h.cs;have H:=hid h;have hsz:=h.2.2;have hat:=h.2.1;by_cases he:st.e=0;rotate_left
 ·have ht:st.text s.data.toList most=([],st):=by unfold RdSt.text;rw[if_pos he]
  rw[ht];have HG:=hid (aI w p s st h false (by simpa using he));clear h ht
  go_enter Tryz.func143,Tryz.ntmps143
  go_wp2_with fail
  refine HG.out.mono ?_;rintro e w1 ⟨rfl,rfl⟩;go_wp2;go_ret;exact⟨⟨⟨#[]⟩,rfl,rfl⟩,H.out,Fr.refl _ _⟩
 have HG:=hid (aI w p s st h true (by simpa using he));have HS:=hid (cf w p s st h most);obtain⟨R,hR⟩:∃R,R=st.short s.data.toList most:=⟨_,rfl⟩;have hst:st.text s.data.toList most=if R.2.e≠0 then ([],R.2) else if s.data.toList.length-R.2.at_<R.1 then ([],⟨st.at_,8,st.at_⟩)
   else ((R.2.take s.data.toList R.1).1,(R.2.take s.data.toList R.1).2.2):=by
  unfold RdSt.text;rw[if_neg (λh=>h he),← hR]
 have HST:=hid hst;rw[← hR]at HS;obtain⟨n,sr⟩:=R;dsimp only at HS HST;have hmx:(max (most:Int) 0)=(most:Int):=by omega
 have hwm:IntKind.u64.wrap (most:Int)=(most:Int):=by rw[IntKind.wrap_u64];omega
 have HAT:=hid hat;have HSZ:=hid hsz;clear h hst hR he hat hsz
 go_enter Tryz.func143,Tryz.ntmps143
 go_wp2_with fail
 refine HG.out.mono ?_;rintro e w1 ⟨rfl,rfl⟩
 go_wp2_with fail
 try rw[hwm]
 refine HS.out.mono ?_;rintro e w2 ⟨rfl,h2,hf2⟩;obtain⟨d0,d1,d2,d3⟩:=h2.cs;have H2:=hid h2;have HA2:=hid h2.2.1;have HF2:=hid hf2;have hlen:s.data.toList.length=s.size:=by rw[Array.length_toList];rfl
 have HLEN:=hid hlen;clear h2 hf2 c0 c1 c2 c3 hlen;by_cases he2:sr.e=0;rotate_left
 ·have ht:st.text s.data.toList most=([],sr):=by rw[HST.out,if_pos he2]
  have HTT:=hid ht;have hq:(sr.e == 0)=false:=by simpa using he2
  clear ht he2;go_wp2;go_ret;rw[HTT.out];exact⟨⟨⟨#[]⟩,rfl,rfl⟩,H2.out,HF2.out⟩
 have hq:(sr.e == 0)=true:=by simpa using he2
 obtain⟨L,hL⟩:∃L,L=s.size-sr.at_:=⟨_,rfl⟩;have hsub:((s.size:Int)-(sr.at_:Int))=(L:Int):=by have:=HA2.out;omega
 have hw3:IntKind.u64.wrap (L:Int)=(L:Int):=by have:=HSZ.out;rw[IntKind.wrap_u64];omega
 have hw6:wrap64 (L:Int)=(L:Int):=by have:=HSZ.out;unfold wrap64;omega
 by_cases hlt:L<n
 ·have ht:st.text s.data.toList most=([],⟨st.at_,8,st.at_⟩):=by
   rw[HST.out,if_neg (λh=>h he2),if_pos (by rw[HLEN.out];omega)]
  have HTT:=hid ht;have hd:decide ((L:Int)<(n:Int))=true:=by simp;omega
  have hdn:decide (L<n)=true:=by simpa using hlt
  have HWR:=hid (λnq=>aJ (w2.drewN nq) p s sr (H2.out.drewN nq) 8 st.at_ HAT.out);clear ht he2 hL hlt;go_wp2
  go_quiet (fail)
  go_wp2_with fail
  refine(HWR.out nq).mono ?_;rintro e w5 ⟨rfl,h5,hf5⟩;have H5:=hid h5;have HF5:=hid (HF2.out.trans (Fr.trans (b:=w2.drewN nq) ⟨rfl,rfl,rfl,Nat.le_refl _,λ_ _ _=>rfl⟩ hf5));clear h5 hf5;go_wp2;go_ret;rw[HTT.out];exact⟨⟨⟨#[]⟩,rfl,rfl⟩,H5.out,HF5.out⟩
 ·have ht:st.text s.data.toList most=((sr.take s.data.toList n).1,(sr.take s.data.toList n).2.2):=by
   rw[HST.out,if_neg (λh=>h he2),if_neg (by rw[HLEN.out];omega)]
  have HTT:=hid ht;have hd:decide ((L:Int)<(n:Int))=false:=by simp;omega
  have hdn:decide (L<n)=false:=by simpa using hlt
  have hn:n≤1099511627776:=by have:=HSZ.out;omega
  have hw4:IntKind.i64.wrap (n:Int)=(n:Int):=by rw[IntKind.wrap_i64];omega
  have hw5:wrap64 (n:Int)=(n:Int):=by unfold wrap64;omega
  have HRW:=hid (λnq=>aQ (w2.drewN nq) p s sr (H2.out.drewN nq) n hn);clear ht he2 hL hlt;go_wp2
  go_quiet (fail)
  go_wp2_with fail
  try rw[hw4]
  try rw[hw5]
  refine(HRW.out nq).mono ?_;rintro e w5 ⟨r,hr,rfl,h5,hf5⟩;have HR:=hid hr;have H5:=hid h5;have HF5:=hid (HF2.out.trans (Fr.trans (b:=w2.drewN nq) ⟨rfl,rfl,rfl,Nat.le_refl _,λ_ _ _=>rfl⟩ hf5));clear h5 hf5 hr;go_wp2;go_ret;rw[HTT.out];exact⟨⟨r,HR.out,rfl⟩,H5.out,HF5.out⟩
theorem RrAt.sub {w w':World}{q p:Nat}{s:ByteArray}{r:RS}{st':RdSt}(h:RrAt w q p s r)(h1:IsRd w' p s st')(hf:Fr (λk=>k=p) w w'):RrTo w w' q p s ⟨st',r.bad⟩:=
 ⟨⟨hf.heapAt h.cell h.ne,h1,h.ne⟩,hf.mono (λ_ _ e=>.inl e)⟩
theorem mZ (w:World)(q p:Nat)(s:ByteArray)(r:RS)(h:RrAt w q p s r) :
  Calls Tryz.prog 143 #[.pointer (some ⟨p,0,none⟩),.int .i64 24] w λe w'=>(∃x:ByteArray,x.data.toList=(r.text s.data.toList).1∧e = .returned (.string x))∧RrTo w w' q p s (r.text s.data.toList).2:=by
 refine(mY w p s r.st h.rd 24 (by omega)).mono ?_;rintro e w' ⟨h1,h2,h3⟩;exact⟨h1,h.sub h2 h3⟩
theorem m1 (w:World)(q p:Nat)(s:ByteArray)(r:RS)(h:RrAt w q p s r) :
  Calls Tryz.prog 153 #[.pointer (some ⟨p,0,none⟩)] w λe w'=>e = .returned (.int .u8 (r.u8 s.data.toList).1)∧RrTo w w' q p s (r.u8 s.data.toList).2:=by
 refine(bT w p s r.st h.rd).mono ?_;rintro e w' ⟨h1,h2,h3⟩;exact⟨h1,h.sub h2 h3⟩
theorem RrTo.trans {w w1 w2:World}{q p:Nat}{s:ByteArray}{r1 r2:RS}(h:RrTo w w1 q p s r1)(k:RrTo w1 w2 q p s r2):RrTo w w2 q p s r2:=⟨k.1,h.2.trans k.2⟩
end
end Go.Proofs.YtaeakdichkhjaaaGreatDoor
