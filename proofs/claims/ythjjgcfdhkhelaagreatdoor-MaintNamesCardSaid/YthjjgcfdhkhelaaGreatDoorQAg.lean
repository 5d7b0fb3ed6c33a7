/- The iterator of index.Get: frames' payloads, from a mark on. -/
import Derived.RangeFuncBound
import Derived.RangeFuncCalls
import Derived.Shelf.Abstract
import Derived.Shelf.RegionOpen
import Derived.OwnWalkIn
import Derived.TacticsInMore
import Derived.LoopNIn
import Derived.LoopIn
import Derived.BigRegionIn
import Derived.Test.YthjjgcfdhkhelaaGreatDoorQAf
set_option maxHeartbeats 4000000
set_option maxRecDepth 100000
open Go.Lib(hid)
open Go.Proofs.Tryz
namespace Go.Proofs.YthjjgcfdhkhelaaGreatDoor
section
open Go.RowKit Go.Shelf
attribute [local go_sem] Oper.semAt_some
structure FrX where
 a:Nat
 q:Nat
 p:ByteArray
def FrX.next (x:FrX):Nat:=x.a+16+x.p.size
def od (x:FrX):Array Value:=#[.int .i64 (x.next:Int),.agg #[.int .i64 (x.q:Int),.string x.p,.int .i64 (x.a:Int)]]
def oe (s:List UInt8):Nat→Nat→List FrX→Prop
 | _,_,[]=>True
 | a,q,x::r=>x.a=a∧x.q=q∧iu (s.drop a)=(0,q,x.p.data.toList)∧oe s x.next (q+1) r
def og:Nat→List FrX→Nat
 | a,[]=>a
 | _,x::r=>og x.next r
theorem oh (a:Nat)(l:List FrX)(x:FrX):og a (l++[x])=x.next:=by
 induction l generalizing a with
 | nil=>rfl
 | cons y r ih=>exact ih _
theorem ol {s:List UInt8}{l:List FrX}{x:FrX}:∀{a q:Nat},oe s a q l→x.a=og a l→x.q=q+l.length→iu (s.drop x.a)=(0,x.q,x.p.data.toList)→oe s a q (l++[x]):=by
 induction l with
 | nil=>intro a q _ h1 h2 h3;exact⟨h1,h2,by rw[show a=x.a from h1.symm,show q=x.q from h2.symm];exact h3,trivial⟩
 | cons y r ih=>
  intro a q h h1 h2 h3;obtain⟨g1,g2,g3,g4⟩:=h;exact⟨g1,g2,g3,ih g4 h1 (by rw[h2,List.length_cons];omega) h3⟩
theorem om {t:List UInt8}{q:Nat}{p:List UInt8}(h:iu t=(0,q,p)):16+p.length≤t.length∧q<1048576∧1≤p.length:=by
 obtain⟨h1,h2,h3⟩:=iB h;refine⟨?_,h2,h1.1⟩;rw[h3,List.length_append,ir];omega
structure FsAt (w:World) (c1 c2 c3:Nat) (s:ByteArray) (a q:Nat):Prop where
 b1:w.heap[c1]?=some (.cells #[.string s] 9 (0,0))
 b2:w.heap[c2]?=some (.cells #[.int .i64 (a:Int)] 3 (0,0))
 b3:w.heap[c3]?=some (.cells #[.int .i64 (q:Int)] 2 (0,0))
def oo (c1 c2 c3:Nat)(A B:World):Prop:=A.heap.size≤B.heap.size∧B.heap[c1]?=A.heap[c1]?∧B.heap[c2]?=A.heap[c2]?∧B.heap[c3]?=A.heap[c3]?
theorem FsAt.keep {w w':World}{c1 c2 c3:Nat}{s:ByteArray}{a q:Nat}(h:FsAt w c1 c2 c3 s a q)(k:oo c1 c2 c3 w w'):FsAt w' c1 c2 c3 s a q:=
 ⟨k.2.1.trans h.b1,k.2.2.1.trans h.b2,k.2.2.2.trans h.b3⟩
theorem FsAt.pure {w w':World}{c1 c2 c3:Nat}{s:ByteArray}{a q:Nat}(h:FsAt w c1 c2 c3 s a q)(hb:Below w.heap.size w w'):FsAt w' c1 c2 c3 s a q:=
 ⟨(hb.block _ (lt_of_block h.b1)).trans h.b1,(hb.block _ (lt_of_block h.b2)).trans h.b2,(hb.block _ (lt_of_block h.b3)).trans h.b3⟩
theorem FsAt.next {w:World}{c1 c2 c3:Nat}{s:ByteArray}{a q:Nat}(h:FsAt w c1 c2 c3 s a q)(h12:c1≠c2)(h13:c1≠c3)(h23:c2≠c3){x y:Int}(a' q':Nat)(hx:x=(a':Int))(hy:y=(q':Int)) :
  FsAt ((w.setCell ⟨c2,0,none⟩ (.int .i64 x)).setCell ⟨c3,0,none⟩ (.int .i64 y)).drew c1 c2 c3 s a' q':=by
 subst hx;subst hy;refine⟨?_,?_,?_⟩
 ·show((w.setCell ⟨c2,0,none⟩ _).setCell ⟨c3,0,none⟩ _).heap[c1]?=_
  rw[Below.heap_setCell _ _ _ _ h13,Below.heap_setCell _ _ _ _ h12];exact h.b1
 ·show((w.setCell ⟨c2,0,none⟩ _).setCell ⟨c3,0,none⟩ _).heap[c2]?=_
  rw[Below.heap_setCell _ _ _ _ h23];exact one_setCell h.b2
 ·show((w.setCell ⟨c2,0,none⟩ _).setCell ⟨c3,0,none⟩ _).heap[c3]?=_
  exact one_setCell ((Below.heap_setCell _ _ _ _ h23.symm).trans h.b3)
theorem FsAt.a2 {w:World}{c1 c2 c3:Nat}{s:ByteArray}{a q:Nat}(h:FsAt w c1 c2 c3 s a q):(intOf ((w.cell? ⟨c2,0,none⟩).getD undef)).toNat=a:=by
 rw[show w.cell? ⟨c2,0,none⟩=some (.int .i64 (a:Int))from(cell_of_row _ _ _ _ _ _ h.b2).trans rfl];rfl
def oq (s:List UInt8)(a q:Nat)(xs:List FrX):Prop:=oe s a q xs∧¬((iu (s.drop (og a xs))).1=0∧(iu (s.drop (og a xs))).2.1=q+xs.length)
theorem ot (w:World)(c1 c2 c3:Nat)(s:ByteArray)(a0 q0:Nat)(h12:c1≠c2)(h13:c1≠c3)(h23:c2≠c3)(hs:s.size≤1099511627776)(ha:a0≤s.size)(hq:q0≤1048576)(hat:FsAt w c1 c2 c3 s a0 q0)(N:Nat)(hN:s.size<N) :
  m7 Fence.wide 5 prog 277 #[.pointer (some ⟨c1,0,none⟩),.pointer (some ⟨c2,0,none⟩),.pointer (some ⟨c3,0,none⟩)] od (λk=>k=c2∨k=c3) (oo c1 c2 c3) (oq s.data.toList a0 q0) (λ_=>True) N w:=by
 intro l J Jx W hW hJ hJx hY h0;have hatW:FsAt W c1 c2 c3 s a0 q0:=⟨(hW.block _ (lt_of_block hat.b1)).trans hat.b1,(hW.block _ (lt_of_block hat.b2)).trans hat.b2,(hW.block _ (lt_of_block hat.b3)).trans hat.b3⟩;have HAT:=hid hatW;have HJ:=hid hJ;have HJX:=hid hJx;have HY:=hid hY;have H0:=hid h0;clear hat hatW hJ hJx hY h0 hW;refine callsIn_of_wp func277 rfl trivial ?_ rfl;simp only[ntmps277,List.size_toArray,List.length_cons,List.length_nil,Nat.reduceAdd,Nat.reduceSub,Array.replicate_succ,Array.replicate_zero,List.push_toArray,List.append_toArray,List.nil_append,List.cons_append];refine nk 0 (λa wr=>∃(pre:List FrX) (u4 u5 u6 u7 u8 u9 u10 u11 u12 u13 u14 u15 u16 u17 u18 u19 u20 u21 u22 u23 u24 u25 u26 u27 u28 u29 u30 u31:Value),a={ tmps:=#[.func (.yield l) #[] #[],.pointer (some ⟨c1,0,none⟩),.pointer (some ⟨c2,0,none⟩),.pointer (some ⟨c3,0,none⟩),u4,u5,u6,u7,u8,u9,u10,u11,u12,u13,u14,u15,u16,u17,u18,u19,u20,u21,u22,u23,u24,u25,u26,u27,u28,u29,u30,u31],defers:=[] } ∧
   oe s.data.toList a0 q0 pre∧J pre wr∧FsAt wr c1 c2 c3 s (og a0 pre) (q0+pre.length)∧og a0 pre≤s.size∧q0+pre.length≤1048576∧a0+pre.length≤og a0 pre) (λ_ wr=>s.size-(intOf ((wr.cell? ⟨c2,0,none⟩).getD undef)).toNat) ?_ ?_
 ·exact⟨[],_,_,_,_,_,_,_,_,_,_,_,_,_,_,_,_,_,_,_,_,_,_,_,_,_,_,_,_,rfl,trivial,H0.out,HAT.out,ha,hq,by simp[og]⟩
 ·rintro a wr ⟨pre,u4,u5,u6,u7,u8,u9,u10,u11,u12,u13,u14,u15,u16,u17,u18,u19,u20,u21,u22,u23,u24,u25,u26,u27,u28,u29,u30,u31,rfl,hch,hJp,hat,hle,hqb,hmo⟩
  have HCH:=hid hch;have HJP:=hid hJp;have HB:=hid hat;clear hch hJp;have e1:wr.cell? ⟨c1,0,none⟩=some (.string s):=(cell_of_row _ _ _ _ _ _ hat.b1).trans rfl;have e2:wr.cell? ⟨c2,0,none⟩=some (.int .i64 (og a0 pre:Int)):=(cell_of_row _ _ _ _ _ _ hat.b2).trans rfl;have e3:wr.cell? ⟨c3,0,none⟩=some (.int .i64 ((q0+pre.length:Nat):Int)):=(cell_of_row _ _ _ _ _ _ hat.b3).trans rfl;obtain⟨A,hA⟩:∃A,A=og a0 pre:=⟨_,rfl⟩;obtain⟨B,hB⟩:∃B,B=q0+pre.length:=⟨_,rfl⟩;rw[← hA]at e2 hle;rw[← hB]at e3;have HA:=hid hA;have HBB:=hid hB;clear hat hA hB;obtain⟨c,q,pl,hrd⟩:∃c q pl,iu (s.data.toList.drop A)=(c,q,pl):=⟨_,_,_,rfl⟩;have HRD:=hid hrd;have stop:∀w4:World,Fr (λk=>k=c2∨k=c3) wr w4→¬(c=0∧q=B)→(∃v,Ending.returned (.tuple #[]) = .returned v)∧((∃xs,oq s.data.toList a0 q0 xs∧J xs w4)∨(∃pre,True∧Jx pre w4)):=λw4 hf hn=>
   ⟨⟨_,rfl⟩,.inl ⟨pre,⟨HCH.out,by rw[← HA.out,HRD.out,← HBB.out];exact hn⟩,HJ.out _ _ _ HJP.out hf⟩⟩
  have HS:=hid stop;clear hrd stop;by_cases hc:c=0
  ·by_cases hqB:q=B
   ·subst hc
    subst hqB;have hl:=om HRD.out;rw[List.length_drop,ak]at hl
    gi_wp2_with fail
    refine⟨trivial,?_⟩;refine(callsIn_wide.2 (n9 s A _ hle hs)).mono ?_;rintro e w1 ⟨hb1,p,hp,rfl⟩;rw[HRD.out]at hp ⊢;simp only[if_true];have hps:p.size=pl.length:=ao hp;have HP:=hid hp;have hc3:=lt_of_block HB.out.b3;have hc2:=lt_of_block HB.out.b2;have e3':w1.cell? ⟨c3,0,none⟩=some (.int .i64 (q:Int)):=(hb1.cell (p:=⟨c3,0,none⟩) hc3).trans e3;have hs1:=hb1.size;have hc3':c3<w1.heap.size:=by omega
    have hlen:pre.length<N:=by have:=HA.out;omega
    have hf3:Fr (λk=>k=c2∨k=c3) wr (w1.alloc (.cells #[.int .i64 (q:Int),.string p,.int .i64 (A:Int)] 166)):=(Fr.pure hb1).alloc _;obtain⟨fn,tmps,assign,body,hy,hR⟩:=HY.out pre ⟨A,q,p⟩ _ (HJ.out _ _ _ HJP.out hf3) hlen;have hx:(⟨A,q,p⟩:FrX).next=A+16+pl.length:=by unfold FrX.next;simp only[hps]
    unfold od at hy;rw[hx]at hy;dsimp only at hy;rw[show((A+16+pl.length:Nat):Int)=(A:Int)+16+(pl.length:Int)from by omega]at hy;have HX:=hid hx;have HF3:=hid hf3;have HPS:=hid hps;have HB1:=hid hb1;clear hp hx hf3 hb1 e1 e2 e3 hps
    gi_wp2
    refine hR.mono ?_;rintro e W4 (⟨rfl,hJ4,hk4⟩|⟨rfl,hJx4⟩)
    ·have hb3:FsAt (w1.alloc (.cells #[.int .i64 (q:Int),.string p,.int .i64 (A:Int)] 166)) c1 c2 c3 s (og a0 pre) (q0+pre.length):=HB.out.pure (HB1.out.alloc HB1.out.size _)
     have hb4:=hb3.keep hk4;have d2:W4.heap[c2]?=some (.cells #[.int .i64 (A:Int)] 3 (0,0)):=by rw[HA.out];exact hb4.b2
     have d3:W4.heap[c3]?=some (.cells #[.int .i64 (q:Int)] 2 (0,0)):=by rw[HBB.out];exact hb4.b3
     have g2:W4.cell? ⟨c2,0,none⟩=some (.int .i64 (A:Int)):=(cell_of_row _ _ _ _ _ _ d2).trans rfl;have g3:W4.cell? ⟨c3,0,none⟩=some (.int .i64 (q:Int)):=(cell_of_row _ _ _ _ _ _ d3).trans rfl;have z2:W4.frozen? ⟨c2,0,none⟩=false:=frozen_of_row _ _ 0 _ _ d2;have z3:W4.frozen? ⟨c3,0,none⟩=false:=frozen_of_row _ _ 0 _ _ d3;have HB4:=hid hb4;have HJ4:=hid hJ4;have HD2:=hid d2;have HD3:=hid d3;have hql:=hl.2.1;clear hb3 hb4 hJ4 hk4 d2 d3 hy hR e3'
     gi_wp2
     gi_region
     gi_wp2
     refine wpIn_goto ?_;change Exit.jump 0 _ _ _ _ _;simp only[Exit.jump];have hnx:og a0 (pre++[⟨A,q,p⟩])=A+16+pl.length:=by rw[oh];exact HX.out
     have hN4:=HB4.out.next h12 h13 h23 (x:=(A:Int)+16+(pl.length:Int)) (y:=(q:Int)+1) (A+16+pl.length) (q+1) (by omega) (by omega);refine⟨trivial,⟨pre++[⟨A,q,p⟩],_,_,_,_,_,_,_,_,_,_,_,_,_,_,_,_,_,_,_,_,_,_,_,_,_,_,_,_,rfl,?_,?_,?_,?_,?_,?_⟩,?_⟩
     ·exact ol HCH.out HA.out HBB.out (by rw[HP.out];exact HRD.out)
     ·exact HJ.out _ _ _ HJ4.out ((((Fr.refl (λk=>k=c2∨k=c3) W4).setCell ⟨c2,0,none⟩ (λ_=>.inl rfl) _).setCell ⟨c3,0,none⟩ (λ_=>.inr rfl) _).drew)
     ·rw[hnx,List.length_append,List.length_singleton,← Nat.add_assoc,← HBB.out];exact hN4
     ·rw[hnx];omega
     ·rw[List.length_append,List.length_singleton,← Nat.add_assoc,← HBB.out];omega
     ·rw[hnx,List.length_append,List.length_singleton];have:=HA.out;omega
     ·rw[hN4.a2,HB.out.a2,← HA.out];omega
    ·gi_wp2
     simp only[Exit.jump]
     go_end0
     exact⟨⟨_,rfl⟩,.inr ⟨_,trivial,hJx4⟩⟩
   ·subst hc
    have hl:=om HRD.out;rw[List.length_drop,ak]at hl;have hqe:((q:Int) == (B:Int))=false:=by rw[beq_eq_false_iff_ne];omega
    have hqd:decide ((q:Int)=(B:Int))=false:=by rw[decide_eq_false_iff_not];omega
    gi_wp2_with fail
    refine⟨trivial,?_⟩;refine(callsIn_wide.2 (n9 s A _ hle hs)).mono ?_;rintro e w1 ⟨hb1,p,hp,rfl⟩;rw[HRD.out]at hp ⊢;simp only[if_true];have HB1:=hid hb1;have hc3:=lt_of_block HB.out.b3;have e3':w1.cell? ⟨c3,0,none⟩=some (.int .i64 (B:Int)):=(hb1.cell (p:=⟨c3,0,none⟩) hc3).trans e3;have hs1:=hb1.size;have hc3':c3<w1.heap.size:=by omega
    clear hp hb1 e1 e2 e3
    gi_wp2
    refine⟨λ_ h=>(by cases h),?_⟩
    gi_wp2
    simp only[Exit.jump]
    go_end0
    exact HS.out _ ((Fr.pure HB1.out).alloc _) (λh=>hqB h.2)
  ·have hce:(c == 0)=false:=by simpa using hc
   have hcd:decide (c=0)=false:=by simpa using hc
   gi_wp2_with fail
   refine⟨trivial,?_⟩;refine(callsIn_wide.2 (n9 s A _ hle hs)).mono ?_;rintro e w1 ⟨hb1,p,hp,rfl⟩;rw[HRD.out]at hp ⊢;simp only[if_neg hc];have HB1:=hid hb1;have HC:=hid hc;clear hp hb1 e1 e2 e3 hc
   gi_wp2
   refine⟨λ_ h=>(by cases h),?_⟩
   gi_wp2
   simp only[Exit.jump]
   go_end0
   exact HS.out _ ((Fr.pure HB1.out).alloc _) (λh=>HC.out h.1)
end
section
open Go.RowKit Go.Shelf
attribute [local go_sem] Oper.semAt_some
structure RdX where
 p:ByteArray
 e:Int
def tN (x:RdX):Array Value:=#[.string x.p,.int .i64 x.e]
def tO (s:List UInt8)(a q:Nat):Int×List UInt8:=(if (iu (s.drop a)).1=0∧(iu (s.drop a)).2.1≠q then 4 else (iu (s.drop a)).1,(iu (s.drop a)).2.2)
def tP (s:List UInt8):Nat→Nat→List RdX→Prop
 | _,_,[]=>True
 | a,q,x::r=>x.e=(tO s a q).1∧x.p.data.toList=(tO s a q).2∧(x.e≠0→r=[])∧tP s (a+16+x.p.size) (q+1) r
def tQ:Nat→List RdX→Nat
 | a,[]=>a
 | a,x::r=>tQ (a+16+x.p.size) r
theorem tR (a:Nat)(l:List RdX)(x:RdX):tQ a (l++[x])=tQ a l+16+x.p.size:=by
 induction l generalizing a with
 | nil=>rfl
 | cons y r ih=>exact ih _
theorem tS {s:List UInt8}{l:List RdX}{x:RdX}:∀{a q:Nat},tP s a q l→(∀y∈l,y.e=0)→x.e=(tO s (tQ a l) (q+l.length)).1→x.p.data.toList=(tO s (tQ a l) (q+l.length)).2→tP s a q (l++[x]):=by
 induction l with
 | nil=>intro a q _ _ h1 h2;exact⟨h1,h2,λ_=>rfl,trivial⟩
 | cons y r ih=>
  intro a q h h0 h1 h2;obtain⟨g1,g2,g3,g4⟩:=h;refine⟨g1,g2,λhne=>absurd (h0 y (by simp)) hne,ih g4 (λz hz=>h0 z (by simp[hz])) ?_ ?_⟩
  ·rw[h1,List.length_cons,show q+(r.length+1)=q+1+r.length from by omega];rfl
  ·rw[h2,List.length_cons,show q+(r.length+1)=q+1+r.length from by omega];rfl
def tT (s:List UInt8)(a q:Nat)(xs:List RdX):Prop:=tP s a q xs∧∃x,xs.getLast?=some x∧x.e≠0
def tU (c2:Nat)(A B:World):Prop:=A.heap.size≤B.heap.size∧B.heap[c2]?=A.heap[c2]?
theorem tV (w:World)(c1 c2:Nat)(s:ByteArray)(a0 q0:Nat)(hs:s.size≤1099511627776)(ha:a0≤s.size)(hq:q0≤1048576)
  (hb1:w.heap[c1]?=some (.cells #[.int .i64 (q0:Int),.int .i64 (a0:Int)] 224 (0,0))) (hb2:w.heap[c2]?=some (.cells #[.string s] 9 (0,0))) (N:Nat) (hN:s.size<N) :
  m7 Fence.wide 5 prog 282 #[.pointer (some ⟨c1,0,none⟩),.pointer (some ⟨c2,0,none⟩)] tN (λ_=>False) (tU c2) (tT s.data.toList a0 q0) (tP s.data.toList a0 q0) N w:=by
 intro l J Jx W hW hJ hJx hY h0;have hc1:=(hW.block _ (lt_of_block hb1)).trans hb1;have hc2:=(hW.block _ (lt_of_block hb2)).trans hb2;have m0:W.cell? ⟨c1,0,none⟩=some (.int .i64 (q0:Int)):=(cell_of_row _ _ _ _ _ _ hc1).trans rfl;have m1:W.cell? ⟨c1,1,none⟩=some (.int .i64 (a0:Int)):=(cell_of_row _ _ _ _ _ _ hc1).trans rfl;have HC2:=hid hc2;have HJ:=hid hJ;have HJX:=hid hJx;have HY:=hid hY;have H0:=hid h0;clear hb1 hb2 hc1 hc2 hJ hJx hY h0 hW;refine callsIn_of_wp func282 rfl trivial ?_ rfl;simp only[ntmps282,List.size_toArray,List.length_cons,List.length_nil,Nat.reduceAdd,Nat.reduceSub,Array.replicate_succ,Array.replicate_zero,List.push_toArray,List.append_toArray,List.nil_append,List.cons_append]
 gi_wp2
 gi_region
 gi_wp2
 gi_loopw [4,5] (λsq av wr=>∃(pre:List RdX),sq = .int .i64 ((q0+pre.length:Nat):Int)∧av = .int .i64 ((tQ a0 pre:Nat):Int)∧tP s.data.toList a0 q0 pre∧(∀y∈pre,y.e=0)∧J pre wr∧wr.heap[c2]?=some (.cells #[.string s] 9 (0,0))∧tQ a0 pre≤s.size∧a0+pre.length≤tQ a0 pre∧q0+pre.length≤1048576) (λ_ av _=>s.size-(intOf av).toNat)
 case atStart=>exact⟨[],rfl,rfl,trivial,by simp,HJ.out _ _ _ H0.out (Fr.refl _ _).drew,HC2.out,ha,by simp[tQ],hq⟩
 case round=>
  obtain⟨pre,rfl,rfl,hch,hall,hJp,hc2,hle,hmo,hqb⟩:=hrel;have e2:wr.cell? ⟨c2,0,none⟩=some (.string s):=(cell_of_row _ _ _ _ _ _ hc2).trans rfl;have HCH:=hid hch;have HALL:=hid hall;have HJP:=hid hJp;have HCC:=hid hc2;obtain⟨A,hA⟩:∃A,A=tQ a0 pre:=⟨_,rfl⟩;obtain⟨B,hB⟩:∃B,B=q0+pre.length:=⟨_,rfl⟩;rw[← hA]at hle ⊢;rw[← hB]at hqb ⊢;have HA:=hid hA;have HBB:=hid hB;have hlen:pre.length<N:=by omega
  clear hch hall hJp hc2 hA hB m0 m1;have hmin:min A s.size=A:=by omega
  obtain⟨c,q,pl,hrd⟩:∃c q pl,iu (s.data.toList.drop A)=(c,q,pl):=⟨_,_,_,rfl⟩;have HRD:=hid hrd;clear hrd;by_cases hc:c=0
  ·have hlq:=om (t:=s.data.toList.drop A) (q:=q) (p:=pl) (by rw[HRD.out,hc])
   rw[List.length_drop,ak]at hlq;by_cases hqB:q=B
   ·subst hc
    subst hqB;have HONE:=hid (show tO s.data.toList A q=(0,pl)from by unfold tO;rw[HRD.out];simp)
    gi_wp2_with fail
    refine⟨trivial,?_⟩;refine(callsIn_wide.2 (n9 s A _ hle hs)).mono ?_;rintro e w1 ⟨hb1,p,hp,rfl⟩;rw[HRD.out]at hp ⊢;simp only[if_true];have hone:tO s.data.toList A q=(0,pl):=HONE.out;have HX:Hid (∀y:RdX,y=⟨p,0⟩→tP s.data.toList a0 q0 (pre++[y])):=hid (λy e=>by subst e;exact tS HCH.out HALL.out (by rw[← HA.out,← HBB.out,hone]) (by rw[← HA.out,← HBB.out,hone];exact hp));have hps:p.size=pl.length:=ao hp;have HPS:=hid hps;have HB1:=hid hb1;have hs1:=hb1.size;have hf3:Fr (λ_=>False) wr (w1.alloc (.cells #[.int .i64 (q:Int),.string p,.int .i64 (A:Int)] 166)):=(Fr.pure hb1).alloc _;obtain⟨fn,tmps,assign,body,hy,hR⟩:=HY.out pre ⟨p,0⟩ _ (HJ.out _ _ _ HJP.out hf3) hlen;unfold tN at hy;dsimp only at hy;have HF3:=hid hf3;clear hp hf3 hb1 hps e2 hone
    gi_wp2
    refine hR.mono ?_;rintro e W4 (⟨rfl,hJ4,hk4⟩|⟨rfl,hJx4⟩)
    ·have hc4:W4.heap[c2]?=some (.cells #[.string s] 9 (0,0)):=hk4.2.trans (HF3.out.heapAt HCC.out (λh=>h))
     have HC4:=hid hc4;have HJ4:=hid hJ4;clear hk4 hJ4 hc4 hy hR
     gi_wp2
     have hnx:tQ a0 (pre++[⟨p,0⟩])=A+16+pl.length:=by rw[tR,← HA.out,HPS.out]
     refine⟨⟨pre++[⟨p,0⟩],?_,?_,HX.out _ rfl,?_,HJ4.out,HC4.out,?_,?_,?_⟩,?_⟩
     ·rw[List.length_append,List.length_singleton,← Nat.add_assoc,← HBB.out];go_num
     ·rw[hnx];go_num
     ·intro y hy
      rcases List.mem_append.1 hy with h|h
      ·exact HALL.out y h
      ·rw[List.mem_singleton.1 h]
     ·rw[hnx];omega
     ·rw[hnx,List.length_append,List.length_singleton];have:=HA.out;omega
     ·rw[List.length_append,List.length_singleton,← Nat.add_assoc,← HBB.out];omega
     ·simp[intOf];omega
    ·gi_wp2
     refine bodyPost_ret (results_none rfl _ _ _) rfl ?_;exact⟨⟨_,rfl⟩,.inr ⟨_,HX.out _ rfl,hJx4⟩⟩
   ·subst hc
    have HONE:=hid (show tO s.data.toList A B=(4,pl)from by unfold tO;rw[HRD.out];simp[hqB]);have hqe:((q:Int) == (B:Int))=false:=by rw[beq_eq_false_iff_ne];omega
    have hqn:((q:Int) != (B:Int))=true:=by rw[bne_iff_ne];omega
    gi_wp2_with fail
    refine⟨trivial,?_⟩;refine(callsIn_wide.2 (n9 s A _ hle hs)).mono ?_;rintro e w1 ⟨hb1,p,hp,rfl⟩;rw[HRD.out]at hp ⊢;simp only[if_true];have hone:tO s.data.toList A B=(4,pl):=HONE.out;have HX:Hid (∀y:RdX,y=⟨p,4⟩→tP s.data.toList a0 q0 (pre++[y])):=hid (λy e=>by subst e;exact tS HCH.out HALL.out (by rw[← HA.out,← HBB.out,hone]) (by rw[← HA.out,← HBB.out,hone];exact hp));have hps:p.size=pl.length:=ao hp;have HPS:=hid hps;have HB1:=hid hb1;have hs1:=hb1.size;have hf3:Fr (λ_=>False) wr (w1.alloc (.cells #[.int .i64 (q:Int),.string p,.int .i64 (A:Int)] 166)):=(Fr.pure hb1).alloc _;obtain⟨fn,tmps,assign,body,hy,hR⟩:=HY.out pre ⟨p,4⟩ _ (HJ.out _ _ _ HJP.out hf3) hlen;unfold tN at hy;dsimp only at hy;have HF3:=hid hf3;clear hp hf3 hb1 hps e2 hone
    gi_wp2
    refine hR.mono ?_;rintro e W4 (⟨rfl,hJ4,hk4⟩|⟨rfl,hJx4⟩)
    ·gi_wp2
     refine bodyPost_ret (results_none rfl _ _ _) rfl ?_;exact⟨⟨_,rfl⟩,.inl ⟨_,⟨HX.out _ rfl,⟨p,4⟩,List.getLast?_concat ..,(by simp)⟩,hJ4⟩⟩
    ·gi_wp2
     refine bodyPost_ret (results_none rfl _ _ _) rfl ?_;exact⟨⟨_,rfl⟩,.inr ⟨_,HX.out _ rfl,hJx4⟩⟩
  ·have hce:(c == 0)=false:=by simpa using hc
   have hcn:(c != 0)=true:=by simpa using hc
   have HONE:=hid (show tO s.data.toList A B=(c,pl)from by unfold tO;rw[HRD.out];simp[hc]);have HC:=hid hc
   gi_wp2_with fail
   refine⟨trivial,?_⟩;refine(callsIn_wide.2 (n9 s A _ hle hs)).mono ?_;rintro e w1 ⟨hb1,p,hp,rfl⟩;rw[HRD.out]at hp ⊢;simp only[if_neg hc];have hone:tO s.data.toList A B=(c,pl):=HONE.out;have HX:Hid (∀y:RdX,y=⟨p,c⟩→tP s.data.toList a0 q0 (pre++[y])):=hid (λy e=>by subst e;exact tS HCH.out HALL.out (by rw[← HA.out,← HBB.out,hone]) (by rw[← HA.out,← HBB.out,hone];exact hp));have hps:p.size=pl.length:=ao hp;have HPS:=hid hps;have HB1:=hid hb1;have hs1:=hb1.size;have hf3:Fr (λ_=>False) wr (w1.alloc (.cells #[.int .i64 (q:Int),.string p,.int .i64 0] 166)):=(Fr.pure hb1).alloc _;obtain⟨fn,tmps,assign,body,hy,hR⟩:=HY.out pre ⟨p,c⟩ _ (HJ.out _ _ _ HJP.out hf3) hlen;unfold tN at hy;dsimp only at hy;have HF3:=hid hf3;clear hp hf3 hb1 hps e2 hone
   gi_wp2
   refine hR.mono ?_;rintro e W4 (⟨rfl,hJ4,hk4⟩|⟨rfl,hJx4⟩)
   ·gi_wp2
    refine bodyPost_ret (results_none rfl _ _ _) rfl ?_;exact⟨⟨_,rfl⟩,.inl ⟨_,⟨HX.out _ rfl,⟨p,c⟩,List.getLast?_concat ..,HC.out⟩,hJ4⟩⟩
   ·gi_wp2
    refine bodyPost_ret (results_none rfl _ _ _) rfl ?_;exact⟨⟨_,rfl⟩,.inr ⟨_,HX.out _ rfl,hJx4⟩⟩
end
end Go.Proofs.YthjjgcfdhkhelaaGreatDoor
