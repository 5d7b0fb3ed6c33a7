/- Arguments that came in, where the world's shape is handed on; what the library's variables are. -/
import Derived.Test.YthjjgcfdhkhelaaGreatDoorQBe
import Derived.Test.YthjjgcfdhkhelaaGreatDoorQBg
import Derived.Test.YthjjgcfdhkhelaaGreatDoorChecked
import Derived.ProofKit
import Derived.OpenShut
import Derived.LaidMore
import Derived.Lay
import Derived.Lib.LaidTab
import Derived.Deep.SlicePairs
import Derived.SevenTiedAt
import Derived.Stop.Joined
import Derived.SizedLaws
import Derived.Deep.Slices
import Derived.SliceStrings
import Derived.HandedShaped
import Derived.Shelf.Vars
set_option maxHeartbeats 8000000
set_option maxRecDepth 100000
open Go.Lib(hid)
open Go.Proofs.Tryz
namespace Go.Proofs.YthjjgcfdhkhelaaGreatDoor
section
open Go.RowKit
abbrev Bld (n b:Nat) (p:Value) (l:List UInt8) (w:World):Prop:=Lib.BuilderAtF 252 5 n b p (Lib.byteCells l) w
theorem Bld.pure {n b:Nat}{p:Value}{l:List UInt8}{w w':World}(h:Bld n b p l w)(hb:Below w.heap.size w w'):Bld n b p l w':=by
 have hlt:=h.lt;obtain⟨h1,v,h2,h3,h4⟩:=h;exact⟨h1,v,(hb.block b hlt).trans h2,h3.kept (row:=none) ⟨hb.os,hb.tape,hb.output,hb.size,λk hk _=>hb.block k hk⟩ (by cases hv:v.ownBlock with|none=>exact .inl rfl|some k=>exact .inr (by simp)),h4⟩
theorem zF (a b:Value)(w:World):Calls prog 146 #[a,b] w λe w'=>e = .returned (.bool true)∧w'=w:=by
 go_enter func146,ntmps146
 go_wp2;go_ret;exact⟨rfl,rfl⟩
theorem zG (q:Int)(a:Option Addr)(n c:Nat)(w:World) :
  Calls prog 147 #[.int .i64 q,.slice a n c,.func (.func 146) #[] #[]] w λe w'=>e = .returned (.func (.func 193) #[] #[.pointer (some ⟨w.heap.size,0,none⟩),.pointer (some ⟨w.heap.size+1,0,none⟩),.pointer (some ⟨w.heap.size+2,0,none⟩)])∧w'=((w.alloc (.cells #[.int .i64 q] 2)).alloc (.cells #[.slice a n c] 70)).alloc (.cells #[.func (.func 146) #[] #[]] 214):=by
 have hmf:∀(fn:Fn) (first cap:Array Value) (w:World),(Instr.makeFunc fn first cap).run prog w = .ok (.func fn first cap) w:=λ_ _ _ _=>rfl
 go_enter func147,ntmps147
 go_wp2;go_ret;exact⟨by simp,rfl⟩
theorem zH (q:Nat)(l:List (List UInt8))(k:Nat):(iM q++iC q (l.take k)).length≤(iR q l).length:=by
 unfold iR;have h:=iF q (l.take k) (l.drop k);rw[List.take_append_drop]at h;rw[h];simp only[List.length_append];omega
theorem zI (q:Nat)(l:List (List UInt8))(k:Nat)(h:k<l.length):iC q (l.take (k+1))=iC q (l.take k)++ip (q+k) l[k]:=by
 rw[List.take_succ_eq_append_getElem h,iF];have:(l.take k).length=k:=by simp;omega
 rw[this];simp[iC]
theorem zJ (w:World)(fb pb gb:Nat)(q:Nat)(v:Value)(l:List (List UInt8))(ht:rZ w v l)(hl:l.length≤1000000)(hp:vE l)(hq:q+l.length≤1048576)(hz:(iR q l).length≤1048576)
  (c1:w.cell? ⟨fb,0,none⟩=some (.int .i64 (q:Int))) (c2:w.cell? ⟨pb,0,none⟩=some v) (c3:w.cell? ⟨gb,0,none⟩=some (.func (.func 146) #[] #[])) :
  yU (λx:ByteArray=>x.data.toList=iR q l) Fence.wide 5 prog 193 #[.pointer (some ⟨fb,0,none⟩),.pointer (some ⟨pb,0,none⟩),.pointer (some ⟨gb,0,none⟩)] (λx=>#[.string x]) (λ_=>False)
   (λ_ _=>True) (λ_ _=>True) (λxs=>∃x:ByteArray,xs=[x]) (λ_=>True) 1 w:=by
 obtain⟨a,c,rfl,hat⟩:=ht;intro y J Jx W hW hsz hJ hJx hY h0;have d1:=vd c1 hW;have d2:=vd c2 hW;have d3:=vd c3 hW;have HA:=hid (show ∀i (h:i<l.length),∃(g:Nat) (x:ByteArray),a=some ⟨g,0,none⟩∧x.data.toList=l[i]∧W.cell? ⟨g,i,none⟩=some (.string x)from λi hi=>by
  obtain⟨g,x,h1,h2,h3⟩:=hat i hi;exact⟨g,x,h1,h2,vd h3 hW⟩)
 have HP:=hid hp;have HZ:=hid hz;have HJ:=hid hJ;have HY:=hid hY;have HH:=hid h0;have HD:=hid (And.intro d1 (And.intro d2 d3));clear hW c1 c2 c3 hat hp hz hJ hJx hY h0 d1 d2 d3 hsz;refine callsIn_of_wp func193 rfl trivial ?_ rfl;simp only[ntmps193,List.size_toArray,List.length_cons,List.length_nil,Nat.reduceAdd,Nat.reduceSub,Array.replicate_succ,Array.replicate_zero,List.push_toArray,List.append_toArray,List.nil_append,List.cons_append];have e1:∀o,(W.alloc o).cell? ⟨fb,0,none⟩=some (.int .i64 (q:Int)):=λo=>(World.cell?_alloc_past _ _ _ (aw HD.out.1)).trans HD.out.1
 gi_wp2_with fail
 obtain⟨W1,hW1⟩:∃W1,W1=W.alloc (.cells #[.pointer none,.slice none 0 0] 252):=⟨_,rfl⟩;have hb0:Lib.IsBuilderF 252 5 W.heap.size W.heap.size (Lib.byteCells []) W1:=by rw[hW1];exact Lib.IsBuilderF.of (Lib.fresh_isBuilder _ _ W)
 have hw1:Below W.heap.size W W1:=by rw[hW1];exact(Below.refl _ _).alloc (Nat.le_refl _) _
 have HB0:=hid hb0;have HW1:=hid hw1;rw[← hW1];clear hW1 hb0 hw1;refine⟨trivial,?_⟩;refine(callsIn_wide.2 (oE q _ (by omega))).mono ?_;rintro e w2 ⟨⟨r,hr,rfl⟩,hb2⟩;have HB2:=hid (show Lib.IsBuilderF 252 5 W.heap.size W.heap.size (Lib.byteCells []) w2 from by
  rcases HB0.out with h|h
  ·exact .inl (Bld.pure h hb2)
  ·exact .inr (Bld.pure h hb2))
 have HW2:=hid (HW1.out.trans (hb2.mono HW1.out.size));have HR:=hid hr;have hrs:r.size=16:=by rw[← ak,hr,iN]
 clear hb2 hr HB0
 gi_wp2_with fail
 refine⟨trivial,?_⟩;refine(callsIn_wide.2 (OwnYthjjgcfdhkhelaaGreatDoor.bw_f W.heap.size W.heap.size _ r w2 HB2.out (by rw[hrs];decide) HW2.out.size)).mono ?_;rintro e w3 ⟨rfl,hb3,hw3⟩;rw[hrs];have HB3:=hid (show Bld W.heap.size W.heap.size (.pointer (some ⟨W.heap.size,0,none⟩)) (iM q++iC q (l.take 0)) w3 from by
  have:=hb3;rw[Lib.strCells_eq,HR.out]at this;have e:iM q++iC q (l.take 0)=iM q:=by simp[iC]
  rw[e];exact this)
 have HW3:=hid (HW2.out.trans (hw3.mono (Nat.le_refl _)));have f2:w3.cell? ⟨pb,0,none⟩=some (.slice a l.length c):=vd HD.out.2.1 HW3.out;clear hb3 hw3 HB2 HW2 HR e1 hrs HW1
 gi_wp2
 gi_loopw [16] (λi wr=>∃k:Nat,i = .int .i64 (k:Int)∧k≤l.length∧Hid (Bld W.heap.size W.heap.size (.pointer (some ⟨W.heap.size,0,none⟩)) (iM q++iC q (l.take k)) wr)∧Hid (Below W.heap.size W wr)) (λi _=>l.length-(intOf i).toNat)
 case atStart=>exact⟨0,rfl,by omega,HB3,HW3⟩
 case round=>
  obtain⟨k,rfl,hk,HBK,HW⟩:=hrel;have hsz:W.heap.size≤wr.heap.size:=HW.out.size;have HS:=hid hsz;by_cases hlt:k<l.length
  ·obtain⟨g,x,rfl,hx,hc⟩:=HA.out k hlt
   have x1:wr.cell? ⟨g,k,none⟩=some (.string x):=vd hc HW.out;have x2:wr.cell? ⟨fb,0,none⟩=some (.int .i64 (q:Int)):=vd HD.out.1 HW.out;have x3:wr.cell? ⟨gb,0,none⟩=some (.func (.func 146) #[] #[]):=vd HD.out.2.2 HW.out;have hpx:=HP.out _ (List.getElem_mem hlt);rw[← hx,ak]at hpx;have HPX:=hid hpx;have HX:=hid hx;clear hc hx hpx f2
   gi_wp2_with fail
   have y1:wr.drew.cell? ⟨g,k,none⟩=some (.string x):=x1;have y2:wr.drew.cell? ⟨fb,0,none⟩=some (.int .i64 (q:Int)):=x2;have y3:wr.drew.cell? ⟨gb,0,none⟩=some (.func (.func 146) #[] #[]):=x3;have HBD:=hid (show Bld W.heap.size W.heap.size (.pointer (some ⟨W.heap.size,0,none⟩)) (iM q++iC q (l.take k)) wr.drew from Lib.BuilderAtF.drew HBK.out);have hmk:=nR (q+k) x wr.drew (by omega) HPX.out.1 HPX.out.2;rw[show((q+k:Nat):Int)=(q:Int)+(k:Int)from by omega]at hmk;have HMK:=hid hmk;have HLEN:=hid (Nat.le_trans (zH q l (k+1)) HZ.out);have HTK:=hid (show iM q++iC q (l.take (k+1))=(iM q++iC q (l.take k))++ip (q+k) x.data.toList from by rw[zI q l k hlt,HX.out,List.append_assoc]);clear hmk
   gi_region_with (first|(refine⟨trivial,?_⟩;refine(callsIn_wide.2 (OwnYthjjgcfdhkhelaaGreatDoor.bl_f W.heap.size W.heap.size _ _ (.inr HBD.out))).mono ?_;rintro e w' ⟨rfl,rfl⟩)|(refine⟨trivial,?_⟩;refine(callsIn_wide.2 (zF _ _ _)).mono ?_;rintro e w' ⟨rfl,rfl⟩))
   all_goals gi_wp2_with fail
   all_goals refine⟨trivial,?_⟩
   all_goals refine(callsIn_wide.2 HMK.out).mono ?_
   all_goals rintro e w4 ⟨⟨s,hs,rfl⟩,hb4⟩
   all_goals have hst:Lib.byteCells (iM q++iC q (l.take (k+1)))=Lib.byteCells (iM q++iC q (l.take k))++Lib.strCells s:=by rw[HTK.out,Lib.byteCells_append,Lib.strCells_eq,hs]
   all_goals have hl4:(Lib.byteCells (iM q++iC q (l.take k))).length+s.size≤140737488355328:=by
              have h9:=congrArg List.length hst;rw[List.length_append,Lib.strCells_length,Lib.byteCells_length]at h9;have:=HLEN.out;omega
   all_goals have HM4:=hid (OwnYthjjgcfdhkhelaaGreatDoor.bw_f W.heap.size W.heap.size _ s w4 (.inr (Bld.pure HBD.out hb4)) hl4 (Nat.le_trans HS.out hb4.size))
   all_goals have HB4:=hid (HW.out.trans (((Below.refl W.heap.size wr).drew).trans ((show Below wr.heap.size wr.drew w4 from hb4).mono HS.out)))
   all_goals have HST:=hid hst
   all_goals clear hs hb4 hst hl4
   all_goals gi_wp2_with fail
   all_goals refine⟨trivial,?_⟩
   all_goals refine(callsIn_wide.2 HM4.out).mono ?_
   all_goals rintro e w5 ⟨rfl,hb5,hw5⟩
   all_goals have HB5:=hid (show Bld W.heap.size W.heap.size (.pointer (some ⟨W.heap.size,0,none⟩)) (iM q++iC q (l.take (k+1))) w5 from by
         have h9:=hb5;rw[← HST.out]at h9;exact h9)
   all_goals have HW5:=hid (show Below W.heap.size W w5 from HB4.out.trans hw5)
   all_goals clear hb5 hw5
   all_goals gi_wp2
   all_goals exact⟨⟨k+1,by go_num,by omega,HB5,HW5⟩,by simp[intOf];omega⟩
  ·obtain rfl:k=l.length:=by omega
   have hb9:=HBK.out;rw[List.take_length]at hb9;have HS9:=hid (OwnYthjjgcfdhkhelaaGreatDoor.bs_f W.heap.size W.heap.size _ wr (.inr hb9) HS.out);clear hb9 f2
   gi_wp2_with fail
   refine⟨trivial,?_⟩;refine(callsIn_wide.2 HS9.out).mono ?_;rintro e w5 ⟨rfl,hb5,hw5⟩;have hW5:Below W.heap.size W w5:=HW.out.trans hw5;have J5:=HJ.out _ _ _ HH.out (Fr.pure (S:=λ_=>False) hW5);obtain⟨fn,tmps,assign,body,hy,hR⟩:=HY.out [] (⟨(iM q++iC q l).toArray⟩:ByteArray) w5 rfl J5 (by simp)
   (try dsimp only at hy)
   clear hb5 hw5 hW5 J5 HS9
   gi_wp2_with fail
   refine hR.mono ?_;rintro e W4 (⟨rfl,hJ4,_⟩|⟨rfl,hJ4,_⟩)
   ·have HJ4:=hid hJ4
    clear hJ4 hy hR
    gi_wp2
    go_end0
    exact⟨⟨_,rfl⟩,.inl ⟨_,⟨_,rfl⟩,HJ4.out⟩⟩
   ·have HJ4:=hid hJ4
    clear hJ4 hy hR
    gi_wp2
    go_end0
    exact⟨⟨_,rfl⟩,.inr ⟨_,trivial,HJ4.out⟩⟩
structure JoAt (w:World) (W:World) (b:Nat) (s:ByteArray) (e:Int):Prop where
 r0:W.heap[b]?=some (.cells #[.string s] 9 (0,0))
 r1:W.heap[b+1]?=some (.cells #[.int .i64 e] 26 (0,0))
 below:Below b w W
theorem JoAt.fr {S:Nat→Prop}{w W W':World}{b:Nat}{s:ByteArray}{e:Int}(h:JoAt w W b s e)(hf:Fr S W W')(hs:∀k,S k→b+1<k):JoAt w W' b s e:=
 ⟨hf.heapAt h.r0 (λe=>by have:=hs _ e;omega),hf.heapAt h.r1 (λe=>by have:=hs _ e;omega),h.below.trans (hf.below (by have:=lt_of_block h.r0;omega) (λk hk e=>by have:=hs _ e;omega))⟩
attribute [local go_sem] Oper.semAt_some
theorem zK (w:World)(q:Nat)(v:Value)(l:List (List UInt8))(ht:rZ w v l)(hl:l.length≤1000000)(hp:vE l)(hq:q+l.length≤1048576)(hq2:q<1048576)(hz:(iR q l).length≤1048576) :
  Calls prog 81 #[.int .i64 (q:Int),v] w λe w'=>nP (iR q l,0) w e w':=by
 have HT:=hid ht;obtain⟨a,c,rfl,_⟩:=ht;have HP:=hid hp;have HZ:=hid hz;have HN:=hid (show bW (q:Int)=true from by unfold bW;simp;omega);clear hp hz;refine(callsIn_wide (n:=6)).1 ?_;refine callsIn_of_wp_marks func81 rfl trivial ?_ rfl;simp only[ntmps81,List.size_toArray,List.length_cons,List.length_nil,Nat.reduceAdd,Nat.reduceSub,Array.replicate_succ,Array.replicate_zero,List.push_toArray,List.append_toArray,List.nil_append,List.cons_append]
 gi_wp2_with fail
 obtain⟨b,hb⟩:∃b,b=w.heap.size:=⟨_,rfl⟩;obtain⟨W0,hW0⟩:∃W0,W0=(w.alloc (.cells #[.string ⟨#[]⟩] 9)).alloc (.cells #[.int .i64 0] 26):=⟨_,rfl⟩;have hz0:W0.heap.size=b+2:=by rw[hW0,hb];simp
 have hj0:JoAt w W0 b ⟨#[]⟩ 0:=by
  refine⟨?_,?_,?_⟩
  ·rw[hW0,hb];exact(Below.heap_alloc _ _ _ (by simp)).trans (heap_alloc_new _ _)
  ·rw[hW0,hb];exact yS _ _ (by simp)
  ·rw[hW0,hb];exact((Below.refl _ _).alloc (Nat.le_refl _) _).alloc (by simp) _
 have HJ0:=hid hj0;have HZ0:=hid hz0;have HB:=hid hb;refine⟨trivial,?_⟩;refine(callsIn_wide.2 (bZ _ _)).mono ?_;rintro e w1 ⟨rfl,rfl⟩;rw[HN.out];rw[← hW0,← hb];have HT0:=hid (HT.out.pure (show Below w.heap.size w W0 from by rw[← hb];exact hj0.below));clear hW0 hz0 hj0 hb
 gi_wp2_with fail
 refine⟨trivial,?_⟩;refine(callsIn_wide.2 (vJ W0 q _ l HT0.out hl HP.out hq)).mono ?_;rintro e w2 ⟨rfl,hb2⟩;have HJ2:=hid (HJ0.out.fr (Fr.pure (S:=λ_=>False) hb2) (λ_ e=>e.elim));have HT2:=hid (HT0.out.pure hb2);clear hb2 HT0 HJ0
 gi_wp2_with fail
 refine⟨trivial,?_⟩;refine(callsIn_wide.2 (zG _ _ _ _ _)).mono ?_;rintro e w3 ⟨rfl,rfl⟩
 gi_wp2
 obtain⟨W3,hW3⟩:∃W3,W3=((w2.alloc (.cells #[.int .i64 (q:Int)] 2)).alloc (.cells #[.slice a l.length c] 70)).alloc (.cells #[.func (.func 146) #[] #[]] 214):=⟨_,rfl⟩;have hb3:Below w2.heap.size w2 W3:=by rw[hW3];exact(((Below.refl _ _).alloc (Nat.le_refl _) _).alloc (by simp) _).alloc (by simp<;>omega) _
 have c1:W3.cell? ⟨w2.heap.size,0,none⟩=some (.int .i64 (q:Int)):=by
  have h:W3.heap[w2.heap.size]?=some (.cells #[.int .i64 (q:Int)] 2 (0,0)):=by rw[hW3];exact(Below.heap_alloc _ _ _ (by simp<;>omega)).trans ((Below.heap_alloc _ _ _ (by simp)).trans (heap_alloc_new _ _))
  exact(cell_of_row _ _ _ _ _ _ h).trans rfl
 have c2:W3.cell? ⟨w2.heap.size+1,0,none⟩=some (.slice a l.length c):=by
  have h:W3.heap[w2.heap.size+1]?=some (.cells #[.slice a l.length c] 70 (0,0)):=by rw[hW3];exact(Below.heap_alloc _ _ _ (by simp<;>omega)).trans (yS _ _ (by simp))
  exact(cell_of_row _ _ _ _ _ _ h).trans rfl
 have c3:W3.cell? ⟨w2.heap.size+2,0,none⟩=some (.func (.func 146) #[] #[]):=by
  have h:W3.heap[w2.heap.size+2]?=some (.cells #[.func (.func 146) #[] #[]] 214 (0,0)):=by rw[hW3];exact yS _ _ (by simp)
  exact(cell_of_row _ _ _ _ _ _ h).trans rfl
 have hsq:=zJ W3 w2.heap.size (w2.heap.size+1) (w2.heap.size+2) q _ l (HT2.out.pure hb3) hl HP.out hq HZ.out c1 c2 c3;have HJ3:=hid (HJ2.out.fr (Fr.pure (S:=λ_=>False) hb3) (λ_ e=>e.elim));have HLT:=hid (show b+1<W3.heap.size from lt_of_block HJ3.out.r1);rw[← hW3];clear hb3 c1 c2 c3 hW3 HT2 HJ2;refine yW (n:=6) rfl (by omega) (gf:=193) rfl trivial (λ_ _=>rfl) hsq ⟨λh=>h,λh=>h⟩
  (λ_ _=>trivial) (λ_ _ _=>trivial) (λ_ _=>trivial) (λ_ _ _ _=>trivial) (λ_=>rfl)
  (λpre Wx=>pre=[]∧JoAt w Wx b ⟨#[]⟩ 0) (λcd _ Wx=>cd = .ret∧∃s:ByteArray,s.data.toList=iR q l∧JoAt w Wx b s 0) ?bears ?bearsX ⟨rfl,HJ3.out⟩
  (λpre x a' Wx=>(pre=[]∧JoAt w Wx b ⟨#[]⟩ 0)∧x.data.toList=iR q l∧a'={ tmps:=#[.int .i64 (q:Int),.slice a l.length c,undef,undef,.pointer (some ⟨b,0,none⟩),.pointer (some ⟨b+1,0,none⟩),.int .i64 0,.func (.func 146) #[] #[],.string x,.int .i64 (q:Int),.bool true,.bool false,.int .i64 (q:Int),.slice a l.length c,.int .i64 0,.int .i64 0,.bool false,undef,.int .i64 (q:Int),.slice a l.length c,.func (.func 146) #[] #[],.func (.func 193) #[] #[.pointer (some ⟨w2.heap.size,0,none⟩),.pointer (some ⟨w2.heap.size+1,0,none⟩),.pointer (some ⟨w2.heap.size+2,0,none⟩)],.string x,undef,undef,undef,undef],defers:=[] })
  ?hA ?assign ?body ?done ?stop
 case bears=>
  rintro pre A B ⟨h1,h2⟩ hf;exact⟨h1,h2.fr hf (λk e=>by have:=HLT.out;rcases e with e|e|e;exact e.elim;omega;omega)⟩
 case bearsX=>
  rintro cd pre A B ⟨h1,s,h2,h3⟩ hf;exact⟨h1,s,h2,h3.fr hf (λk e=>by have:=HLT.out;rcases e with e|e|e;exact e.elim;omega;omega)⟩
 case hA=>
  rintro pre x a' Wx o hlt ⟨⟨h1,h2⟩,h3,h4⟩;have hf:Fr (λk=>k=W3.heap.size+1) Wx (Wx.putObj (W3.heap.size+1) o):=(Fr.refl (λk=>k=W3.heap.size+1) Wx).putObj _ (λ_=>rfl) o;exact⟨⟨h1,h2.fr hf (λk e=>by have:=HLT.out;omega)⟩,h3,h4⟩
 case assign=>
  rintro pre x Wx K hx hlt hI hK;have HI:=hid hI;have HKK:=hid hK;have HX:=hid hx;clear hI hK hx
  gi_wp2
  exact HKK.out _ _ ⟨HI.out,HX.out,rfl⟩ (m8.fr (S:=λ_=>False) (Fr.refl _ Wx) hlt (λe=>e) (λe=>e)) (Nat.le_refl _) trivial
 case body=>
  rintro pre x a' Wx hx0 hlt ⟨⟨rfl,hJ⟩,hx,rfl⟩ hlen;have hxs:x.size≤1048576:=by rw[← ak,hx];exact HZ.out
  have HX:=hid hx;have HJ:=hid hJ;have HG:=hid hlt;have z0:Wx.cell? ⟨b,0,none⟩=some (.string ⟨#[]⟩):=(cell_of_row _ _ _ _ _ _ hJ.r0).trans rfl;have zf0:Wx.frozen? ⟨b,0,none⟩=false:=frozen_of_row _ _ _ _ _ hJ.r0;have z1:Wx.cell? ⟨b+1,0,none⟩=some (.int .i64 0):=(cell_of_row _ _ _ _ _ _ hJ.r1).trans rfl;have zf1:Wx.frozen? ⟨b+1,0,none⟩=false:=frozen_of_row _ _ _ _ _ hJ.r1;clear hx0 hlt hx hJ hlen
  gi_wp2
  obtain⟨Wf,hWf⟩:∃Wf,Wf=(Wx.setCell ⟨b,0,none⟩ (.string x)).setCell ⟨b+1,0,none⟩ (.int .i64 0):=⟨_,rfl⟩;have hf:Fr (λk=>k=b∨k=b+1) Wx Wf:=by rw[hWf];exact((Fr.refl (λk=>k=b∨k=b+1) Wx).setCell ⟨b,0,none⟩ (λ_=>.inl rfl) _).setCell ⟨b+1,0,none⟩ (λ_=>.inr rfl) _
  have a0:Wf.heap[b]?=some (.cells #[.string x] 9 (0,0)):=by
   rw[hWf];have h:(Wx.setCell ⟨b,0,none⟩ (.string x)).heap[b]?=some (.cells #[.string x] 9 (0,0)):=heap_setCell_same _ _ _ _ _ _ HJ.out.r0;exact((Fr.refl (λk=>k=b+1) _).setCell ⟨b+1,0,none⟩ (λ_=>rfl) _).heapAt h (by omega)
  have a1:Wf.heap[b+1]?=some (.cells #[.int .i64 0] 26 (0,0)):=by
   rw[hWf];have h:(Wx.setCell ⟨b,0,none⟩ (.string x)).heap[b+1]?=some (.cells #[.int .i64 0] 26 (0,0)):=((Fr.refl (λk=>k=b) _).setCell ⟨b,0,none⟩ (λ_=>rfl) _).heapAt HJ.out.r1 (by omega);exact heap_setCell_same _ _ _ _ _ _ h
  rw[← hWf];have hbl:Below b Wx Wf:=hf.below (by have:=lt_of_block HJ.out.r0;omega) (λk hk e=>by omega);exact⟨m8.fr hf HG.out (by have:=HLT.out;omega) (by have:=HLT.out;omega),trivial,rfl,x,HX.out,a0,a1,HJ.out.below.trans hbl⟩
 case done=>
  rintro xs Wx ⟨x,rfl⟩ ⟨h1,_⟩ hK;cases h1
 case stop=>
  rintro cd pre Wx _ ⟨rfl,s,hs,hJ⟩ hK;have HS:=hid hs;have HJ:=hid hJ;have HK:=hid hK;clear hs hJ hK
  gi_wp2
  refine⟨by simp,.inl ⟨_,_,rfl,run_takeDeferred HK.out,?_⟩⟩;have hlt:=HLT.out;have hg:Fr (λk=>k=W3.heap.size) Wx (Wx.putObj W3.heap.size (.deferred none)):=(Fr.refl (λk=>k=W3.heap.size) Wx).putObj _ (λ_=>rfl) _;have o0:=(cell_of_row _ b 0 _ _ _ (hg.heapAt HJ.out.r0 (by omega))).trans (show _=some (.string s)from rfl);have o1:=(cell_of_row _ (b+1) 0 _ _ _ (hg.heapAt HJ.out.r1 (by omega))).trans (show _=some (.int .i64 0)from rfl);have hbz:=lt_of_block HJ.out.r0;refine⟨.tuple #[.string s,.int .i64 0],by simp[results,results81,go_sem,o0,o1],⟨s,HS.out,rfl⟩,?_⟩;rw[← HB.out];exact HJ.out.below.trans (hg.below (by omega) (λk hk e=>by omega))
end
section
open Go.RowKit
theorem Aa (w:World)(c q t:Nat)(u:FrameMode)(hc:w.cell? ⟨c,0,none⟩=some (.int .i64 0)) :
  CallsD prog 82 #[.pointer (some ⟨c,0,none⟩),.pointer (some ⟨q,0,none⟩),.pointer (some ⟨t,0,none⟩)] u w λe u' w'=>u'=u∧(e = .returned (.tuple #[])∧w'=w):=by
 go_enter_d func82,ntmps82
 go_wp2
 go_end0
 exact⟨rfl,rfl⟩
theorem Ab (tmps:Array Value)(w:World)(c:Nat)(v:Value)(n:Int)(ht:tmps[6]?.getD undef = .pointer (some ⟨c,0,none⟩))(hc:w.cell? ⟨c,0,none⟩=some v)(hsm:v = .int .i64 n):(results Tryz.f29 tmps).run prog w = .ok v w:=by
 subst hsm;simp[results,results29,go_sem,ht,hc]
theorem Ac (wd:World)(c q t:Nat)(tmps:Array Value)(ht:tmps[6]?.getD undef = .pointer (some ⟨c,0,none⟩))(hc:wd.cell? ⟨c,0,none⟩=some (.int .i64 0))(R:Ending→World→Prop)(hR:R (.returned (.int .i64 0)) wd) :
  bodyPostD prog Tryz.f29 R Exit.ret { tmps:=tmps,defers:=[{ target:=Target.fn (Fn.func 82) #[.pointer (some ⟨c,0,none⟩),.pointer (some ⟨q,0,none⟩),.pointer (some ⟨t,0,none⟩)],args:=#[] }] } wd:=by
 refine leaves_cons (f:=82) (args:=#[.pointer (some ⟨c,0,none⟩),.pointer (some ⟨q,0,none⟩),.pointer (some ⟨t,0,none⟩)]) (by simp) (by simp[go_sem]) ?_;refine(Aa wd c q t .returning hc).mono ?_;rintro e u' w'' ⟨rfl,rfl,rfl⟩;exact⟨_,Ab tmps _ c _ _ ht hc rfl,hR⟩
structure LyAt (w:World) (B p b:Nat) (g:Int) (sv tv:Value) (ns:List (List UInt8)):Prop where
 d:w.heap[B]?=some (.cells #[.pointer (some ⟨p,0,none⟩)] 31 (0,0))
 n:w.heap[B+1]?=some (.cells #[.int .i64 g,sv] 42 (0,0))
 e:w.heap[B+2]?=some (.cells #[.int .i64 0] 26 (0,0))
 t:w.heap[B+3]?=some (.cells #[tv] 70 (0,0))
 row:rX w (B+4) tv ns
theorem LyAt.fr {S:Nat→Prop}{w w':World}{B p b:Nat}{g:Int}{sv tv:Value}{ns:List (List UInt8)}(h:LyAt w B p b g sv tv ns)(hf:Fr S w w')(hs:∀k,S k→k<B∨w.heap.size≤k):LyAt w' B p b g sv tv ns:=by
 have h1:=lt_of_block h.t;refine⟨hf.heapAt h.d (λe=>by have:=hs _ e;omega),hf.heapAt h.n (λe=>by have:=hs _ e;omega),hf.heapAt h.e (λe=>by have:=hs _ e;omega),hf.heapAt h.t (λe=>by have:=hs _ e;omega),hf.ownsRow h.row (λk hk e=>?_)⟩;have h2:=sT h.row hk;have h3:=gt h.row hk;have:=hs _ e;omega
theorem Ad (w:World)(p b:Nat)(st:cZ)(h:db w p b st)(fv:Value)(fs:List (List UInt8×List UInt8))(hf:FlAt w fv fs)(hfl:∀f∈fs,f.1.length≤100∧f.2.length≤1048576)(hlen:fs.length≤1000000)(hfb:∀g,fv.ownBlock=some g→g≠p∧g≠b)
  (g:Int) (sv:Value) (l:bI) (hs:bJ w sv l) (hsb:∀k,sv.ownBlock=some k→k≠p∧k≠b) (hl:l.length≤1099511627776) (hm:bL g l=true) {s1 s2:cZ} (h1:kT (qY fs) st=(s1,0)) (h2:jt s1 g l=(s2,0)) :
  Calls prog 29 #[.pointer (some ⟨p,0,none⟩),fv,.agg #[.int .i64 g,sv]] w λe w'=>e = .returned (.int .i64 0)∧db w' p b s2∧dY p b w w':=by
 have hmf:∀(fn:Fn) (first cap:Array Value) (w:World),(Instr.makeFunc fn first cap).run prog w = .ok (.func fn first cap) w:=λ_ _ _ _=>rfl;obtain⟨fa,fc,rfl,hat⟩:=hf;obtain⟨sa,sc,rfl⟩:=hs.shape;have hp:=h.lt;have hbl:=h.own.lt;have H:=hid h;have HA:=hid hat;have HFL:=hid hfl;have HFB:=hid hfb;have HS:=hid (And.intro hs (And.intro hsb (And.intro hl hm)));have HR:=hid (And.intro h1 h2);obtain⟨B,hB⟩:∃B,B=w.heap.size:=⟨_,rfl⟩;obtain⟨W1,hW1⟩:∃W1,W1=(((w.alloc (.cells #[.pointer (some ⟨p,0,none⟩)] 31)).alloc (.cells #[.int .i64 g,.slice sa l.length sc] 42)).alloc (.cells #[.int .i64 0] 26)).alloc (.cells #[.slice none 0 0] 70):=⟨_,rfl⟩;have hb1:Below w.heap.size w W1:=by rw[hW1];exact((((Below.refl _ _).alloc (Nat.le_refl _) _).alloc (by simp) _).alloc (by simp<;>omega) _).alloc (by simp<;>omega) _
 have hly:LyAt W1 B p b g (.slice sa l.length sc) (.slice none 0 0) []:=by
  refine⟨?_,?_,?_,?_,World.ownsRow_nil _ _ _ _⟩
  ·rw[hW1,hB];exact(Below.heap_alloc _ _ _ (by simp<;>omega)).trans ((Below.heap_alloc _ _ _ (by simp<;>omega)).trans ((Below.heap_alloc _ _ _ (by simp)).trans (heap_alloc_new _ _)))
  ·rw[hW1,hB];exact(Below.heap_alloc _ _ _ (by simp<;>omega)).trans ((Below.heap_alloc _ _ _ (by simp<;>omega)).trans (yS _ _ (by simp)))
  ·rw[hW1,hB];exact(Below.heap_alloc _ _ _ (by simp<;>omega)).trans (yS _ _ (by simp))
  ·rw[hW1,hB];exact yS _ _ (by simp)
 have HB1:=hid hb1;have HLY:=hid hly;have HBB:=hid hB;clear h hat hfl hfb hs hsb hl hm h1 h2 hb1 hly
 go_enter_defers func29,ntmps29
 go_wp2_with fail
 simp only[Nat.add_assoc,Nat.reduceAdd];rw[← hW1,← hB];clear hW1 hB;obtain⟨i0,hi,hz0,hz1,hz2⟩:=info_parts Tryz.infoText;have HI:=hid hi;have HZ0:=hid hz0;have HZ1:=hid hz1;have HZ2:=hid hz2;clear hi hz0 hz1 hz2
 go_loopw [15] (λi wr=>∃(k:Nat) (sk:cZ) (tv:Value),i = .int .i64 k∧k≤fs.length∧Hid (db wr p b sk)∧Hid (dY p b w wr)∧Hid (kT (qY (fs.drop k)) sk=(s1,0))∧Hid (LyAt wr B p b g (.slice sa l.length sc) tv ((fs.take k).map (·.1)))) (λi _=>fs.length-(intOf i).toNat)
 case atStart=>exact⟨0,st,.slice none 0 0,rfl,by omega,hid (H.out.pure HB1.out),hid (Fr.pure HB1.out),hid HR.out.1,HLY⟩
 case round=>
  obtain⟨k,sk,tv,rfl,hk,HD,HF,HQ,HY⟩:=hrel;by_cases hlt:k<fs.length
  ·obtain⟨f0,rfl,hc0,hc1⟩:=HA.out k hlt
   obtain⟨sx,sy,hx1,hx2,hx3⟩:=vD (show kT (qY (fs[k]::fs.drop (k+1))) sk=(s1,0)from by rw[← List.drop_eq_getElem_cons hlt];exact HQ.out);have hne:=HFB.out f0 rfl;have c0:wr.cell? ⟨f0,k*2,none⟩=some (encStr fs[k].1):=HF.out.cellAt hc0 (by have:=HBB.out;omega);have c1:wr.cell? ⟨f0,k*2+1,none⟩=some (encStr fs[k].2):=HF.out.cellAt hc1 (by have:=HBB.out;omega);have hfk:=HFL.out _ (List.getElem_mem hlt);obtain⟨nm,hnm⟩:∃nm:ByteArray,nm=⟨fs[k].1.toArray⟩:=⟨_,rfl⟩;obtain⟨da,hda⟩:∃da:ByteArray,da=⟨fs[k].2.toArray⟩:=⟨_,rfl⟩;have en:nm.data.toList=fs[k].1:=by rw[hnm]
   have ed:da.data.toList=fs[k].2:=by rw[hda]
   rw[show encStr fs[k].1 = .string nm from by rw[hnm]]at c0;rw[show encStr fs[k].2 = .string da from by rw[hda]]at c1;have hns:nm.size≤100:=by rw[← ak,en];exact hfk.1
   have hds:da.size≤1048576:=by rw[← ak,ed];exact hfk.2
   rw[← en]at hx1 hx2;rw[← ed]at hx2;have HX:=hid (And.intro hx1 (And.intro hx2 hx3));have HEN:=hid (And.intro en ed);clear hx1 hx2 hx3 hfk hnm hda en ed hc0 hc1 HQ;obtain⟨W2,hW2⟩:∃W2,W2=wr.alloc (.cells #[.string nm,.string da] 139):=⟨_,rfl⟩;have hb2:Below wr.heap.size wr W2:=by rw[hW2];exact(Below.refl _ _).alloc (Nat.le_refl _) _
   have k2:W2.heap[wr.heap.size]?=some (.cells #[.string nm,.string da] 139 (0,0)):=by rw[hW2];exact heap_alloc_new _ _
   have HY2:=hid (HY.out.fr (Fr.pure (S:=λ_=>False) hb2) (λk e=>e.elim));have HD2:=hid (HD.out.pure hb2);have HF2:=hid (HF.out.trans (Fr.pure hb2));have K2:=hid k2;have hbx:B+4≤wr.heap.size:=by have:=lt_of_block HY.out.t;omega
   have d0:∀o,(wr.alloc o).cell? ⟨B,0,none⟩=some (.pointer (some ⟨p,0,none⟩)):=λo=>(World.cell?_alloc_past _ _ _ (by omega)).trans ((cell_of_row _ _ _ _ _ _ HY.out.d).trans rfl)
   go_wp2_with fail
   rw[← hW2];clear hW2 c0 c1 hb2 k2 d0;refine(ep W2 p b sk HD2.out nm (by unfold maxLen;omega)).mono ?_;rw[HX.out.1];rintro e w3 ⟨rfl,hd3,hf3⟩;have hpB:¬(B=p∨B=b)∧¬(B+3=p∨B+3=b)∧¬(wr.heap.size=p∨wr.heap.size=b):=by have:=HBB.out;omega
   have HY3:=hid (HY2.out.fr hf3 (λk e=>by have:=HBB.out;rcases e with rfl|rfl<;>omega));have k3:=hf3.heapAt K2.out hpB.2.2;have K3:=hid k3;have HD3:=hid hd3;have HF3:=hid (HF2.out.trans hf3);have hs3:wr.heap.size<w3.heap.size:=lt_of_block k3;have t0:w3.cell? ⟨B+3,0,none⟩=some tv:=(cell_of_row _ _ _ _ _ _ HY3.out.t).trans rfl;have n0:w3.cell? ⟨wr.heap.size,0,none⟩=some (.string nm):=(cell_of_row _ _ _ _ _ _ k3).trans rfl;obtain⟨ta,tn,tc,rfl⟩:=aB HY3.out.row;have htl:tn=((fs.take k).map (·.1)).length:=by
    obtain⟨a',c',e,_⟩:=jf HY3.out.row;cases e;rfl
   have hlk:((fs.take k).map (·.1)).length=k:=by simp;omega
   rw[hlk]at htl;obtain rfl:=htl.symm;have hown:=HY3.out.row;unfold rX at hown;rw[hlk]at hown;have HOW:=hid (hown.alloc (.cells #[.string nm] 9));clear hown;have hly3:=HY3.out;clear hd3 hf3 k3;have hrb:∀y,(Value.slice ta k tc).ownBlock=some y→B+4≤y∧y<wr.heap.size:=λy e=>⟨gt hly3.row e,sT HY.out.row e⟩;have HRB:=hid hrb;have HL3:=hid hly3;have hbx3:B+4≤w3.heap.size:=by omega
   have hpB3:=hpB.2.1;clear hrb hly3 hpB
   go_wp2_with (first
    | (refine wpList_append_lies _ rfl _ _ 70 rfl (B+4) 9 i0 _ 1 16 underlying70 HI.out HZ0.out HZ1.out HZ2.out rfl (by omega) _ k _ rfl HOW.out ⟨w3.heap.size,0,none⟩ 1 1 [.string nm] rfl rfl (aC rfl rfl) (by simp[Value.oneCell']) (by omega) (by unfold maxLen;omega) (by omega) (by simp;omega) (w3.heap.size+1) (by simp) ?_;intro gg cap w8 hown8 hgrow8 hat8 hlt8;have HF8:=hid (show Fr (λy=>(Value.slice ta k tc).ownBlock=some y) w3 w8 from((Fr.refl _ w3).alloc _).grown hgrow8 (λy _ e=>e));have t8:w8.cell? ⟨B+3,0,none⟩=some (.slice ta k tc):=HF8.out.cellAt t0 (λe=>by have:=HRB.out _ e;omega);have tz8:w8.frozen? ⟨B+3,0,none⟩=false:=(HF8.out.frozen (aw t0) (λe=>by have:=HRB.out _ e;omega)).trans (frozen_of_row _ _ _ _ _ HL3.out.t);have u8:w8.heap[wr.heap.size]?=some (.cells #[.string nm,.string da] 139 (0,0)):=HF8.out.heapAt K3.out (λe=>by have:=HRB.out _ e;omega);have x0:∀v,(w8.setCell ⟨B+3,0,none⟩ v).cell? ⟨wr.heap.size,0,none⟩=some (.string nm):=λv=>(dK _ _).cellAt ((cell_of_row _ _ _ _ _ _ u8).trans rfl) (by show ¬wr.heap.size=B+3;omega);have x1:∀v,(w8.setCell ⟨B+3,0,none⟩ v).cell? ⟨wr.heap.size,1,none⟩=some (.string da):=λv=>(dK _ _).cellAt ((cell_of_row _ _ _ _ _ _ u8).trans rfl) (by show ¬wr.heap.size=B+3;omega);have x2:∀v,(w8.setCell ⟨B+3,0,none⟩ v).cell? ⟨B,0,none⟩=some (.pointer (some ⟨p,0,none⟩)):=λv=>(dK _ _).cellAt (HF8.out.cellAt ((cell_of_row _ _ _ _ _ _ HL3.out.d).trans rfl) (λe=>by have:=HRB.out _ e;omega)) (by show ¬B=B+3;omega);clear t0 n0))
   obtain⟨W9,hW9⟩:∃W9,W9=w8.setCell ⟨B+3,0,none⟩ (.slice (some ⟨gg,0,none⟩) (k+1) cap):=⟨_,rfl⟩;rw[← hW9];have hf9:Fr (λj=>j=B+3) w8 W9:=by rw[hW9];exact(Fr.refl (λj=>j=B+3) w8).setCell ⟨B+3,0,none⟩ (λ_=>rfl) _
   have hn9:dY p b w W9:=((HF3.out.then HF8.out (λi hi e=>by have:=HRB.out _ e;have:=HBB.out;omega))).then hf9 (λi hi e=>by have:=HBB.out;omega);have hy9:LyAt W9 B p b g (.slice sa l.length sc) (.slice (some ⟨gg,0,none⟩) (k+1) cap) ((fs.take (k+1)).map (·.1)):=by
    have h8:∀j,B≤j→j<B+4→∀o,w3.heap[j]?=some o→w8.heap[j]?=some o:=λj h1 h2 o ho=>HF8.out.heapAt ho (λe=>by have:=HRB.out _ e;omega);refine⟨hf9.heapAt (h8 _ (by omega) (by omega) _ HL3.out.d) (by omega),hf9.heapAt (h8 _ (by omega) (by omega) _ HL3.out.n) (by omega),hf9.heapAt (h8 _ (by omega) (by omega) _ HL3.out.e) (by omega),by rw[hW9];exact heap_setCell_same _ _ _ _ _ _ (h8 _ (by omega) (by omega) _ HL3.out.t),?_⟩;have hg8:B+4≤gg:=gt hown8 rfl;have e1:(fs.take (k+1)).map (·.1)=(fs.take k).map (·.1)++[fs[k].1]:=by rw[List.take_succ_eq_append_getElem hlt,List.map_append];rfl
    rw[e1];unfold rX;rw[List.map_append,List.length_append,List.map_cons,List.map_nil,← jP HEN.out.1,hlk];exact hf9.ownsRow hown8 (λy hy e=>by have h9:=gt hown8 hy;have e9:y=B+3:=e;omega)
   have hd9:db W9 p b sx:=((HD3.out.kept HF8.out (λe=>by have:=HRB.out _ e;have:=HBB.out;omega) (λe=>by have:=HRB.out _ e;have:=HBB.out;omega))).kept hf9 (by have:=HBB.out;omega) (by have:=HBB.out;omega);have HN9:=hid hn9;have HY9:=hid hy9;have HD9:=hid hd9;clear hW9 hf9 hn9 hy9 hd9 x0 x1 x2 u8 t8 tz8 hgrow8 hat8 hlt8;refine(vA W9 p b sx HD9.out nm da hns hds).mono ?_;rw[HX.out.2.1];rintro e w10 ⟨rfl,hd10,hf10⟩;have HD10:=hid hd10;have HF10:=hid (HN9.out.trans hf10);have HY10:=hid (HY9.out.fr hf10 (λk e=>by have:=HBB.out;rcases e with rfl|rfl<;>omega));clear hd10 hf10;go_wp2
   go_roundw
   case rel=>exact⟨k+1,sy,_,by go_num,by omega,HD10,HF10,hid HX.out.2.2,HY10⟩
   case measure=>simp[intOf];omega
  ·have HQ2:=hid (show sk=s1 from by have h:=HQ.out;rw[List.drop_of_length_le (by omega)]at h;exact congrArg Prod.fst h)
   have d0:wr.cell? ⟨B,0,none⟩=some (.pointer (some ⟨p,0,none⟩)):=(cell_of_row _ _ _ _ _ _ HY.out.d).trans rfl;have n0:wr.cell? ⟨B+1,0,none⟩=some (.int .i64 g):=(cell_of_row _ _ _ _ _ _ HY.out.n).trans rfl;have n1:wr.cell? ⟨B+1,1,none⟩=some (.slice sa l.length sc):=(cell_of_row _ _ _ _ _ _ HY.out.n).trans rfl
   go_wp2_with fail
   rw[HQ2.out]at HD;refine(jC wr p b s1 HD.out g _ l (HS.out.1.kept HF.out (λk e=>by have:=HS.out.2.1 k e;omega)) HS.out.2.2.1 HS.out.2.2.2).mono ?_;rw[HR.out.2];rintro e w4 ⟨rfl,hd4,hf4⟩;have HF4:=hid (HF.out.trans hf4);have HY4:=hid (HY.out.fr hf4 (λk e=>by have:=HBB.out;rcases e with rfl|rfl<;>omega));have HD4:=hid hd4;have e0:w4.cell? ⟨B+2,0,none⟩=some (.int .i64 0):=(cell_of_row _ _ _ _ _ _ HY4.out.e).trans rfl;have ef:w4.frozen? ⟨B+2,0,none⟩=false:=frozen_of_row _ _ _ _ _ HY4.out.e;clear hd4 hf4 d0 n0 n1;go_wp2;have hd5:db (w4.setCell ⟨B+2,0,none⟩ (.int .i64 0)) p b s2:=HD4.out.kept (dK _ _) (by show ¬p=B+2;have:=HBB.out;omega) (by show ¬b=B+2;have:=HBB.out;omega);exact Ac _ (B+2) B (B+3) _ (by rfl) (World.cell?_setCell_same _ _ _ e0) _ ⟨rfl,hd5,HF4.out.then (dK _ _) (λi hi e=>by have:=HBB.out;have e':i=B+2:=e;omega)⟩
end
section
open Go.RowKit Go.Sort Go.Shelf
theorem Dj (w:World)(hl:xB w)(p b:Nat)(st:cZ)(h:db w p b st)(hlb:¬xC p∧¬xC b)(but:Int) :
  Calls prog 26 #[.pointer (some ⟨p,0,none⟩),.int .i64 but] w λe w'=>d8 p b (qt st but) w e w':=by
 have H:=hid h;have HL:=hid hl;have hfew:=h.ok.fs.few;have hp:=h.lt;have hbl:=h.own.lt;clear h hl;cases hd:st.dark
 ·have HD:=hid (show qt st but=qo but (qp (st.fs.map (·.name))) st from by unfold qt;rw[hd,if_neg (by decide)])
  go_enter func26,ntmps26
  go_wp2_with fail
  refine(CS w HL.out p b st H.out).mono ?_;rintro e w1 ⟨hb1,h1⟩;rw[hd,if_neg (by decide)]at h1;obtain⟨v,rfl,hown⟩:=h1;obtain⟨ns,hns⟩:∃ns,ns=qp (st.fs.map (·.name)):=⟨_,rfl⟩;rw[← hns]at hown HD;have hnl:ns.length≤64:=by rw[hns];have:=qs (st.fs.map (·.name));rw[List.length_map]at this;omega
  clear hns;obtain⟨ga,gc,rfl,hrow⟩:=CT hown;have hs1:=hb1.size;have HR:=hid hrow;have HB1:=hid hb1;have HL1:=hid (HL.out.pure hb1);have HK1:=hid (H.out.pure hb1);clear hown hrow hb1 hd;go_wp2
  go_loopw [20] (λi wr=>∃(k:Nat) (sk:cZ),i = .int .i64 k∧k≤ns.length∧Hid (qt st but=qo but (ns.drop k) sk)∧Hid (db wr p b sk)∧Hid (dY p b w1 wr)) (λi _=>ns.length-(intOf i).toNat)
  case atStart=>exact⟨0,st,rfl,by omega,hid HD.out,HK1,hid (Fr.refl _ _)⟩
  case round=>
   obtain⟨k,sk,rfl,hk,HQ,HK,HF⟩:=hrel;have hsz:=HF.out.size;by_cases hlt:k<ns.length
   ·obtain⟨g,rfl,hg,hcell⟩:=HR.out k hlt
    have hcell:=(HF.out.cell (b:=g) (o:=k) (aw hcell) (by intro h;omega)).trans hcell;have HQ1:=hid (show qt st but=qo but (ns[k]::ns.drop (k+1)) sk from by rw[HQ.out,List.drop_eq_getElem_cons hlt]);by_cases hbut:(ns[k]:Int)=but
    ·have HQ2:=hid (show qt st but=qo but (ns.drop (k+1)) sk from by rw[HQ1.out,qo,if_pos hbut])
     go_wp2
     go_roundw
     case rel=>exact⟨k+1,sk,by go_num,by omega,HQ2,hid (HK.out.pure (Below.refl _ _)),HF⟩
     case measure=>simp[intOf];omega
    ·have hpw:=hid ((HL1.out.kept HF.out (λi hi hx=>by rcases hi with e|e<;>(subst e;first|exact hlb.1 hx|exact hlb.2 hx))).pow)
     go_wp2_with fail
     refine(xA wr hpw.out (ns[k]:Int)).mono ?_;rintro e w2 ⟨⟨r,hr,rfl⟩,hb2⟩;have hrz:r.size≤maxLen:=by
      rw[ao hr];unfold qc maxLen
      split
      ·rename_i hc
       rw[List.length_cons];have:=bX (ns[k]:Int) 10 (by omega) (by omega);omega
      ·simp
     have HK2:=hid (HK.out.pure hb2);have HF2:=hid (HF.out.andPure hb2);have HR2:=hid hr;clear hr hb2
     go_wp2_with fail
     refine(eC w2 p b sk HK2.out r hrz).mono ?_;rintro e w3 ⟨rfl,hk3,hf3⟩;rw[HR2.out]at hk3 ⊢;obtain⟨⟨s3,c3⟩,hs3⟩:∃x:cZ×Int,x=eh sk (qc (ns[k]:Int)):=⟨_,rfl⟩;rw[← hs3]at hk3 ⊢;have HK3:=hid hk3;have HF3:=hid (HF2.out.trans hf3);by_cases hc:c3=0
     ·subst hc
      have HQ2:=hid (show qt st but=qo but (ns.drop (k+1)) s3 from by rw[HQ1.out,qo,if_neg hbut,← hs3,if_pos rfl]);clear hk3 hf3 hs3;go_wp2
      go_roundw
      case rel=>exact⟨k+1,s3,by go_num,by omega,HQ2,HK3,HF3⟩
      case measure=>simp[intOf];omega
     ·have HQ2:=hid (show qt st but=(s3,c3)from by rw[HQ1.out,qo,if_neg hbut,← hs3,if_neg hc])
      clear hk3 hf3 hs3;have hcf:(c3 == 0)=false:=by simpa using hc
      have hct:(c3 != 0)=true:=by simpa using hc
      go_wp2;go_ret;rw[HQ2.out];exact⟨rfl,HK3.out,(Fr.pure HB1.out).trans HF3.out⟩
   ·have HQ2:=hid (show qt st but=(sk,0)from by rw[HQ.out,List.drop_eq_nil_of_le (by omega)];rfl)
    go_wp2;go_ret;rw[HQ2.out];exact⟨rfl,HK.out,(Fr.pure HB1.out).trans HF.out⟩
 ·have HD:=hid (show qt st but=(st,45)from by unfold qt;rw[hd,if_pos rfl])
  go_enter func26,ntmps26
  go_wp2_with fail
  refine(CS w HL.out p b st H.out).mono ?_;rintro e w1 ⟨hb1,h1⟩;rw[hd,if_pos rfl]at h1;subst h1;have HB1:=hid hb1;clear hb1 hd;go_wp2;go_ret;rw[HD.out];exact⟨rfl,H.out.pure HB1.out,Fr.pure HB1.out⟩
end
section
open Go.ChangeShapes Go.WideShapes Go.ChangeAt Go.RowKit
theorem FQ:ownKnob prog.godebug=none:=by kernel_rfl
def StrsAt (w:World)(sv:Value)(ss:List ByteArray):Prop:=
 ∃a c,sv = .slice a ss.length c∧(ss=[]∨∃b o,a=some ⟨b,o,none⟩∧∀i (h:i<ss.length),w.cell? ⟨b,o+i,none⟩=some (.string ss[i]))
theorem StrsAt.shape {w:World}{sv:Value}{ss:List ByteArray}(h:StrsAt w sv ss):∃a c,sv = .slice a ss.length c:=by obtain⟨a,c,h,_⟩:=h;exact⟨a,c,h⟩
theorem StrsAt.pure {w w':World}{sv:Value}{ss:List ByteArray}(h:StrsAt w sv ss)(hb:Below w.heap.size w w'):StrsAt w' sv ss:=by
 obtain⟨a,c,e,h|⟨b,o,e2,h⟩⟩:=h
 ·exact⟨a,c,e,.inl h⟩
 ·exact⟨a,c,e,.inr ⟨b,o,e2,λi hi=>(hb.cell (p:=⟨b,o+i,none⟩) (aw (h i hi))).trans (h i hi)⟩⟩
theorem StrsAt.at {w:World}{a:Option Addr}{n c:Nat}{ss:List ByteArray}(h:StrsAt w (.slice a n c) ss)(i:Nat)(hi:i<ss.length):∃b o,a=some ⟨b,o,none⟩∧b<w.heap.size∧w.cell? ⟨b,o+i,none⟩=some (.string ss[i]):=by
 obtain⟨a',c',e,h|⟨b,o,e2,h⟩⟩:=h
 ·rw[h]at hi;simp at hi
 ·cases e
  exact⟨b,o,e2,aw (h i hi),h i hi⟩
section
variable {H:Type} {enc:TypeId×Value→H}
theorem FR {a:Assume}{C:Checked}{os:Os}{f:FuncId}{fn:Func}{s:ChangeSpec}{conds:List PathCond}{apart fresh handsOn again:Bool}{X:World→Array Value→Prop}
  (hX:∀(w w':World) (args:Array Value),w.heap=w'.heap→X w args→X w' args)
  (own:ownKnob C.prog.godebug=none) (started:os.Started) (noInit:C.prog.inits.idxOf? f=none) (hfn:C.prog.funcs[f]?=some fn)
  (witness:∃(w:World) (tape:Tape) (i:Input),w.os=os∧(w.forCall tape i).Shaped C.prog∧i.vars=[]∧Input.okWide C.prog (w.forCall tape i) .any w.heap.size f i∧((s.pre enc C.prog fn conds apart (w.forCall tape i).memory i.args∧X (w.forCall tape i).memory i.args)∧sizedMet enc C.prog fn (OpenSpec.ofChange s) apart (w.forCall tape i).memory i.args)∧a.holds C.prog (lone (Frame.enter C.prog f i.args .normal) [] (w.forCall tape i)))
  (contract:∀(W:World) (base:Nat) (args:Array Value) (ds gs:List (DataW H)) (before:List MemPlace),(∀(j:Nat) t v,fn.params[j]?=some t→args[j]?=some v→Value.okWide C.prog W .any base t v) →
    DataW.Whole enc C.prog fn.params.toList s.vars apart W args.toList ds gs before →
    conds.all (PathCond.test C.prog ⟨fn.params.toList,ds,s.plain.varTypes C.prog,gs⟩)=true→(DataW.weightsEach C.prog (fn.params.toList++s.plain.varTypes C.prog) (ds++gs)).all (· ≤ reachBytes)=true→X W args→W.ShapedOpen C.prog →
    Calls C.prog f args W λe W'=>∃v,e = .returned v∧s.post enc C.prog fn apart fresh handsOn again W args v W') :
  ReturnsInHanded a C os f .any (λw args=>(s.pre enc C.prog fn conds apart w args∧X w args)∧sizedMet enc C.prog fn (OpenSpec.ofChange s) apart w args) (s.post enc C.prog fn apart fresh handsOn again):=by
 refine returnsInHanded_of_calls own started noInit witness ?_;intro w tape i _ hsh _ hok hpre _;obtain⟨_,_,_,fn',hfn',_,_,_,_,hval⟩:=hok;have e:fn'=fn:=Option.some.inj (hfn'.symm.trans hfn);subst e;obtain⟨⟨⟨ds,gs,before,hw,hc⟩,hx⟩,hz⟩:=hpre;have hw':=DataW.Whole.of_heap (w':=w.forCall tape i) (by rfl) hw;refine(contract (w.forCall tape i) w.heap.size i.args ds gs before hval hw' hc (hz.weights hw) (hX _ _ _ (by rfl) hx) hsh).mono λe W' ⟨v,he,hp⟩=>?_;subst he;exact ChangeSpec.post_blind hp
end
theorem FS {W:World}(h:W.ShapedOpen prog):Mxl W:=cell_of_shapedOpen_int h (g:=1) (t:=3) (zero:=#[.int .i64 0]) (of_decide_eq_true (by kernel_rfl)) (by kernel_rfl) rfl (by kernel_rfl) (by kernel_rfl) underlying3
theorem FU {H:Type}{enc:TypeId×Value→H}{P:Program}{w:World}{base fuel:Nat}{spare:Nat→Bool}{held:Bool}{t:TypeId}{cs:List Value}{x:DataW H×List MemPlace}{ms:Array (String×TypeId)}(ht:P.underlying t=some (.interface ms))
  (h:DataW.trod enc P w base spare held fuel t cs=some x):∃ev,cs=[ev]∧(ev = .nilIface∨∃te pe,ev = .iface te pe):=by
 cases fuel with
 | zero=>simp[DataW.trod]at h
 | succ n=>
  unfold DataW.trod at h;rw[ht]at h
  split at h<;>simp_all
theorem FV {W:World}{n:String}{g:Nat}{cs:Array Value}(hg:prog.globalNamed n=some g)(hv:W.var? prog n=some cs){fuel:Nat}{x:DataW Unit×List MemPlace}
  (h:DataW.trod (λ_=>()) prog W 0 (λ_=>true) false fuel 254 cs.toList=some x):ErrAt W g:=by
 obtain⟨ev,hc,he⟩:=FU underlying254 h;unfold World.var? at hv;rw[hg]at hv;simp only[Option.bind_some]at hv;refine⟨ev,?_,he⟩;cases hh:W.heap[g]? with
 | none=>rw[hh]at hv;cases hv
 | some o=>
  rw[hh]at hv;cases o with
  | cells c1 t1 z1=>
   have e:c1=cs:=Option.some.inj hv;subst e;have h0:c1[0]?=some ev:=by rw[← Array.getElem?_toList,hc];rfl
   simp[World.cell?,hh,h0]
  | _=>simp at hv
theorem FW {W:World}(hp:Pow W)(h:W.ShapedOpen prog)(h1:ErrAt W 2)(h2:ErrAt W 3):vN W:=⟨hp,FS h,h1,h2⟩
end
end Go.Proofs.YthjjgcfdhkhelaaGreatDoor
