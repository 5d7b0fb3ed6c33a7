/- The walk of ledger.May. -/
import Derived.Deep.RegionWith
import Derived.Deep.RegionHeld3
import Derived.Test.YtaeakdichkhjaaaGreatDoorQAt
import Derived.Test.YtaeakdichkhjaaaGreatDoorQAs
set_option maxHeartbeats 4000000
open Go.Lib(hid)
namespace Go.Proofs.YtaeakdichkhjaaaGreatDoor
section
open Go.RowKit
set_option maxRecDepth 100000 in
theorem qK (w:World)(a x:Int):Calls Tryz.prog 319 #[.agg #[.int .i64 a,.int .i64 x]] w λe w'=>TB (jt a x) e∧Below w.heap.size w w':=by
 by_cases h1:0≤a
 ·by_cases h2:a≤64
  ·by_cases h3:0≤x
   ·by_cases h4:x≤16
    ·have HP:=hid (show jt a x from⟨h1,h2,h3,h4⟩)
     go_enter Tryz.func319,Tryz.ntmps319
     go_wp2;go_ret;exact⟨TB.yes HP.out,ke _ _⟩
    ·have HP:=hid (show ¬jt a x from λh=>h4 h.2.2.2)
     go_enter Tryz.func319,Tryz.ntmps319
     go_wp2;go_ret;exact⟨TB.no HP.out,ke _ _⟩
   ·have HP:=hid (show ¬jt a x from λh=>h3 h.2.2.1)
    go_enter Tryz.func319,Tryz.ntmps319
    go_wp2;go_ret;exact⟨TB.no HP.out,ke _ _⟩
  ·have HP:=hid (show ¬jt a x from λh=>h2 h.2.1)
   go_enter Tryz.func319,Tryz.ntmps319
   go_wp2;go_ret;exact⟨TB.no HP.out,ke _ _⟩
 ·have HP:=hid (show ¬jt a x from λh=>h1 h.1)
  go_enter Tryz.func319,Tryz.ntmps319
  go_wp2;go_ret;exact⟨TB.no HP.out,ke _ _⟩
theorem qL {w:World}{g:Nat}{u v:Value}{T:TypeId}(hg:g=w.heap.size):(w.alloc (.cells #[u,v] T)).cell? ⟨g,0,none⟩=some u∧(w.alloc (.cells #[u,v] T)).cell? ⟨g,1,none⟩=some v:=by
 subst hg;exact⟨by rw[World.cell?_alloc_at _ _ _ _ rfl];rfl,by rw[World.cell?_alloc_at _ _ _ _ rfl];rfl⟩
set_option maxRecDepth 100000 in
theorem qM (w:World)(a x b y:Int):Calls Tryz.prog 320 #[.agg #[.int .i64 a,.int .i64 x],.agg #[.int .i64 b,.int .i64 y]] w λe w'=>e = .returned (.int .i64 (orF (qe a b) (qe x y)))∧Below w.heap.size w w':=by
 go_enter Tryz.func320,Tryz.ntmps320
 go_wp2_with fail
 obtain⟨n,hn⟩:∃n,n=w.heap.size:=⟨_,rfl⟩;obtain⟨W0,hW0⟩:∃W0,W0=(w.alloc (.cells #[.int .i64 a,.int .i64 x] 390)).alloc (.cells #[.int .i64 b,.int .i64 y] 390):=⟨_,rfl⟩;have hbel:Below w.heap.size w W0:=by rw[hW0];exact((Below.refl _ _).alloc (Nat.le_refl _) _).alloc (by simp) _
 have k0:W0.heap[n]?=some (.cells #[.int .i64 a,.int .i64 x] 390 (0,0)):=by rw[hW0,hn];exact(Below.heap_alloc _ _ _ (by simp)).trans (heap_alloc_new _ _)
 have k1:W0.heap[n+1]?=some (.cells #[.int .i64 b,.int .i64 y] 390 (0,0)):=by rw[hW0,hn];exact gz _ _ (by simp)
 have c0:W0.cell? ⟨n,0,none⟩=some (.int .i64 a):=(cell_of_row _ _ _ _ _ _ k0).trans rfl;have c1:W0.cell? ⟨n,1,none⟩=some (.int .i64 x):=(cell_of_row _ _ _ _ _ _ k0).trans rfl;have c2:W0.cell? ⟨n+1,0,none⟩=some (.int .i64 b):=(cell_of_row _ _ _ _ _ _ k1).trans rfl;have c3:W0.cell? ⟨n+1,1,none⟩=some (.int .i64 y):=(cell_of_row _ _ _ _ _ _ k1).trans rfl;have HB:=hid hbel;rw[← hW0]
 try rw[← hn]
 clear hW0 hn hbel k0 k1
 go_region_held3 (λw'=>w'.cell? ⟨n,0,none⟩=some (.int .i64 a)∧w'.cell? ⟨n,1,none⟩=some (.int .i64 x)∧w'.cell? ⟨n+1,0,none⟩=some (.int .i64 b)∧w'.cell? ⟨n+1,1,none⟩=some (.int .i64 y)) (first|exact⟨c0,c1,c2,c3⟩|go_keep) (first
  | (go_at_call 264;refine(qg _ _ _).mono ?_;rintro e w9 ⟨rfl,rfl⟩)
  | (go_at_call 263;refine(qj _ _ (qe a b) (qe x y) (by first|exact(qL rfl).1|(rw[World.cell?_drew];exact(qL rfl).1)) (by first|exact(qL rfl).2|(rw[World.cell?_drew];exact(qL rfl).2))).mono ?_;rintro e w9 ⟨rfl,rfl⟩))
 all_goals (go_wp2;go_ret;exact⟨rfl,(by repeat (first|exact Below.refl _ _|exact HB.out|refine Below.drew ?_|refine Below.alloc ?_ (by first|exact Nat.le_refl _|exact HB.out.size|(simp;done)|(simp;omega)|omega|(have:=HB.out.size;simp;omega)) _|refine Below.setCell ?_ (by first|exact Nat.le_refl _|exact HB.out.size|(simp;done)|(simp;omega)|omega|(have:=HB.out.size;simp;omega)) _))⟩)
def qN (r:RowD):Value:=.agg #[.int .i64 r.acct,.int .i64 r.asset,.int .i64 r.free,.int .i64 r.held]
def qO (r:RowD)(e:Ending):Prop:=∃c:Int,e = .returned (.int .i64 c)∧(c=0↔jv r)
set_option maxRecDepth 100000 in
theorem qP (w:World)(r:RowD):Calls Tryz.prog 321 #[qN r] w λe w'=>qO r e∧Below w.heap.size w w':=by
 obtain⟨a,x,f,h⟩:=r;unfold qN;dsimp only;by_cases h0:a=0
 ·have HP:=hid (show jv ⟨a,x,f,h⟩from .inl h0)
  have q0:(a == 0)=true:=by simp[h0]
  go_enter Tryz.func321,Tryz.ntmps321
  go_wp2;go_ret;exact⟨⟨0,rfl,by simp[HP.out]⟩,ke _ _⟩
 ·have q0:(a == 0)=false:=by simp[h0]
  by_cases h1:f<0
  ·have HP:=hid (show ¬jv ⟨a,x,f,h⟩from λk=>by rcases k with k|k;exact h0 k;have:=k.1;dsimp only at this;omega)
   go_enter Tryz.func321,Tryz.ntmps321
   go_wp2;go_ret;exact⟨⟨47,rfl,by simp[HP.out]⟩,ke _ _⟩
  ·by_cases h2:h<0
   ·have HP:=hid (show ¬jv ⟨a,x,f,h⟩from λk=>by rcases k with k|k;exact h0 k;have:=k.2.1;dsimp only at this;omega)
    go_enter Tryz.func321,Tryz.ntmps321
    go_wp2;go_ret;exact⟨⟨47,rfl,by simp[HP.out]⟩,ke _ _⟩
   ·by_cases h3:1125899906842624<f
    ·have HP:=hid (show ¬jv ⟨a,x,f,h⟩from λk=>by rcases k with k|k;exact h0 k;have:=k.2.2.1;dsimp only at this;omega)
     go_enter Tryz.func321,Tryz.ntmps321
     go_wp2;go_ret;exact⟨⟨41,rfl,by simp[HP.out]⟩,ke _ _⟩
    ·by_cases h4:1125899906842624<h
     ·have HP:=hid (show ¬jv ⟨a,x,f,h⟩from λk=>by rcases k with k|k;exact h0 k;have:=k.2.2.2.1;dsimp only at this;omega)
      go_enter Tryz.func321,Tryz.ntmps321
      go_wp2;go_ret;exact⟨⟨41,rfl,by simp[HP.out]⟩,ke _ _⟩
     ·have hw:wrap64 (f+h)=f+h:=by unfold wrap64;omega
      by_cases h5:1125899906842624<f+h
      ·have HP:=hid (show ¬jv ⟨a,x,f,h⟩from λk=>by rcases k with k|k;exact h0 k;have:=k.2.2.2.2;dsimp only at this;omega)
       go_enter Tryz.func321,Tryz.ntmps321
       go_wp2;go_ret;exact⟨⟨41,rfl,by simp[HP.out]⟩,ke _ _⟩
      ·have HP:=hid (show jv ⟨a,x,f,h⟩from .inr ⟨by dsimp only;omega,by dsimp only;omega,by dsimp only;omega,by dsimp only;omega,by dsimp only;omega⟩)
       go_enter Tryz.func321,Tryz.ntmps321
       go_wp2;go_ret;exact⟨⟨0,rfl,by simp[HP.out]⟩,ke _ _⟩
theorem qQ {t:Int}(h:(js t).2=0) : -4611686018427387904≤t∧t≤4611686018427387904:=by
 unfold js at h;by_cases h1:t≤4611686018427387904 ∧ -4611686018427387904≤t
 ·omega
 ·rw[if_neg h1]at h;simp at h
def qR:Array Value:=#[.int .i64 0,.int .i64 0,.int .i64 0,.int .i64 0,.int .i64 0,.int .i64 0,.int .i64 0,.int .i64 0,.int .i64 0,.int .i64 0,.int .i64 0,.int .i64 0,.int .i64 0,.int .i64 0,.int .i64 0,.int .i64 0,.int .i64 0]
structure LdAt (w W:World) (B:Nat) (a x:Int) (f:Int→Int):Prop where
 last:W.heap[B]?=some (.cells #[.int .i64 a,.int .i64 x] 390 (0,0))
 sums:∃C,W.heap[B+1]?=some (.cells C 391 (0,0))∧C.size=17∧∀j,j<17→C[j]?=some (.int .i64 (f j))
 below:Below w.heap.size w W
 hB:B=w.heap.size
theorem LdAt.pure {w W W':World}{B:Nat}{a x:Int}{f:Int→Int}(h:LdAt w W B a x f)(hb:Below W.heap.size W W'):LdAt w W' B a x f:=by
 obtain⟨C,h1,h2⟩:=h.sums;exact⟨(hb.block _ (lt_of_block h.last)).trans h.last,⟨C,(hb.block _ (lt_of_block h1)).trans h1,h2⟩,kd h.below hb,h.hB⟩
theorem LdAt.setLast {w W:World}{B:Nat}{a x:Int}{f:Int→Int}(h:LdAt w W B a x f)(b y:Int):LdAt w ((W.setCell ⟨B,0,none⟩ (.int .i64 b)).setCell ⟨B,1,none⟩ (.int .i64 y)) B b y f:=by
 obtain⟨C,h1,h2⟩:=h.sums;refine⟨qG _ _ h.last,⟨C,?_,h2⟩,(h.below.setCell (by rw[h.hB];exact Nat.le_refl _) _).setCell (by rw[h.hB];exact Nat.le_refl _) _,h.hB⟩;rw[Below.heap_setCell _ _ _ _ (by show B+1≠B;omega),Below.heap_setCell _ _ _ _ (by show B+1≠B;omega)];exact h1
theorem LdAt.setSum {w W:World}{B:Nat}{a x:Int}{f:Int→Int}(h:LdAt w W B a x f)(j:Nat)(hj:j<17)(n:Int):LdAt w (W.setCell ⟨B+1,j,none⟩ (.int .i64 n)) B a x (upd f j n):=by
 obtain⟨C,h1,h2,h3⟩:=h.sums;refine⟨?_,⟨C.setIfInBounds j (.int .i64 n),heap_setCell_same _ _ _ _ _ _ h1,by simp[h2],λi hi=>?_⟩,h.below.setCell (by rw[h.hB];exact Nat.le_succ _) _,h.hB⟩
 ·rw[Below.heap_setCell _ _ _ _ (by show B≠B+1;omega)];exact h.last
 ·unfold upd
  by_cases hij:i=j
  ·subst hij
   rw[Array.getElem?_setIfInBounds_self_of_lt (by omega),if_pos rfl]
  ·rw[Array.getElem?_setIfInBounds_ne (λe=>hij e.symm),h3 i hi,if_neg (by omega)]
structure RwAt (W:World) (n:Nat) (r:RowD):Prop where
 row:W.heap[n]?=some (.cells #[.int .i64 r.acct,.int .i64 r.asset,.int .i64 r.free,.int .i64 r.held] 98 (0,0))
 ent:W.heap[n+1]?=some (.cells #[.int .i64 r.acct,.int .i64 r.asset,.int .i64 r.free,.int .i64 r.held] 393 (0,0))
theorem RwAt.fr {S:Nat→Prop}{W W':World}{n:Nat}{r:RowD}(h:RwAt W n r)(hf:Fr S W W')(h0:¬S n)(h1:¬S (n+1)):RwAt W' n r:=⟨hf.heapAt h.row h0,hf.heapAt h.ent h1⟩
theorem RwAt.pure {W W':World}{n:Nat}{r:RowD}(h:RwAt W n r)(hb:Below W.heap.size W W'):RwAt W' n r:=h.fr (Fr.pure (S:=λ_=>False) hb) (λh=>h) (λh=>h)
theorem RwAt.r {W:World}{n:Nat}{r:RowD}(h:RwAt W n r):W.cell? ⟨n,0,none⟩=some (.int .i64 r.acct)∧W.cell? ⟨n,1,none⟩=some (.int .i64 r.asset)∧W.cell? ⟨n,2,none⟩=some (.int .i64 r.free)∧W.cell? ⟨n,3,none⟩=some (.int .i64 r.held):=by
 refine⟨?_,?_,?_,?_⟩<;>(rw[cell_of_row _ _ _ _ _ _ h.row];rfl)
theorem RwAt.e {W:World}{n:Nat}{r:RowD}(h:RwAt W n r):W.cell? ⟨n+1,0,none⟩=some (.int .i64 r.acct)∧W.cell? ⟨n+1,1,none⟩=some (.int .i64 r.asset)∧W.cell? ⟨n+1,2,none⟩=some (.int .i64 r.free)∧W.cell? ⟨n+1,3,none⟩=some (.int .i64 r.held):=by
 refine⟨?_,?_,?_,?_⟩<;>(rw[cell_of_row _ _ _ _ _ _ h.ent];rfl)
theorem LdAt.cs {w W:World}{B:Nat}{a x:Int}{f:Int→Int}(h:LdAt w W B a x f):W.cell? ⟨B,0,none⟩=some (.int .i64 a)∧W.cell? ⟨B,1,none⟩=some (.int .i64 x):=by
 refine⟨?_,?_⟩<;>(rw[cell_of_row _ _ _ _ _ _ h.last];rfl)
theorem LdAt.sum {w W:World}{B:Nat}{a x:Int}{f:Int→Int}(h:LdAt w W B a x f)(j:Nat)(hj:j<17):W.cell? ⟨B+1,j,none⟩=some (.int .i64 (f j)):=by
 obtain⟨C,h1,_,h3⟩:=h.sums;rw[cell_of_row _ _ _ _ _ _ h1];exact h3 j hj
theorem LdAt.fz {w W:World}{B:Nat}{a x:Int}{f:Int→Int}(h:LdAt w W B a x f)(j:Nat):W.frozen? ⟨B,j,none⟩=false∧W.frozen? ⟨B+1,j,none⟩=false:=by
 obtain⟨C,h1,_,h3⟩:=h.sums;exact⟨frozen_of_row _ _ _ _ _ h.last,frozen_of_row _ _ _ _ _ h1⟩
theorem qS {w:World}{C:Array Value}{T:TypeId}{g:Nat}(hg:g=w.heap.size)(j:Nat)(v:Value)(h:C[j]?=some v):(w.alloc (.cells C T)).cell? ⟨g,j,none⟩=some v:=by
 subst hg;rw[World.cell?_alloc_at _ _ _ _ rfl];exact h
theorem qT {w:World}{g:Nat}{a b c:Int}{T:TypeId}(hg:g=w.heap.size):IntsAt (w.alloc (.cells #[.int .i64 a,.int .i64 b,.int .i64 c] T)) (.slice (some ⟨g,0,none⟩) 3 3) [a,b,c]:=
 ⟨_,3,rfl,by simp,.inr ⟨g,0,rfl,λi hi=>by
  refine qS hg _ _ ?_
  match i,hi with
  | 0,_=>rfl
  | 1,_=>rfl
  | 2,_=>rfl⟩⟩
theorem qU {w:World}{g:Nat}{a b c:Int}{T:TypeId}(hg:g=w.heap.size):IntsAt (w.alloc (.cells #[.int .i64 a,.int .i64 b,.int .i64 c] T)).drew (.slice (some ⟨g,0,none⟩) 3 3) [a,b,c]:=qT hg
theorem qV {w w1:World}{o:Obj}(hb:Below (w.alloc o).drew.heap.size (w.alloc o).drew w1):Below w.heap.size w w1:=((Below.refl _ _).alloc (Nat.le_refl _) _).drew.trans (hb.mono (by simp))
def qW (l:List RowD):Prop:=∀r∈l,(-9223372036854775808≤r.free∧r.free<9223372036854775808)∧(-9223372036854775808≤r.held∧r.held<9223372036854775808)
theorem qX {l:List RowD}{k:Nat}(hk:k<l.length){a x:Int}{f:Int→Int}(h:¬jw a x l[k]):¬jx a x f (l.drop k):=by
 rw[List.drop_eq_getElem_cons hk];exact λh2=>h h2.1
set_option maxRecDepth 100000 in
theorem qY (F:Nat→Prop)(w:World)(sv:Value)(l:List RowD)(h:RowsAt F w sv l)(hlen:l.length≤4398046511104)(hin:qW l) :
  Calls Tryz.prog 285 #[sv] w λe w'=>TB (jy l) e∧Below w.heap.size w w':=by
 obtain⟨a0,c0,rfl⟩:=h.shape;have H:=hid h;have HIN:=hid hin;clear h hin;obtain⟨B,hB⟩:∃B,B=w.heap.size:=⟨_,rfl⟩;have HBB:=hid hB
 go_enter Tryz.func285,Tryz.ntmps285
 go_wp2
 try rw[← hB]
 clear hB
 go_loopw [13] (λi wr=>∃(k:Nat) (a x:Int) (f:Int→Int),i = .int .i64 k∧k≤l.length∧Hid (LdAt w wr B a x f)∧Hid (jy l↔jx a x f (l.drop k))∧Hid (∀j,-4611686018427387904≤f j∧f j≤4611686018427387904)) (λi _=>l.length-(intOf i).toNat)
 case atStart=>
  refine⟨0,-1,0,λ_=>0,rfl,by omega,hid ⟨?_,⟨qR,?_,?_,?_⟩,((Below.refl _ _).alloc (Nat.le_refl _) _).alloc (by simp) _,HBB.out⟩,hid Iff.rfl,hid (λ_=>by dsimp only;omega)⟩
  ·rw[HBB.out];exact(Below.heap_alloc _ _ _ (by simp)).trans (heap_alloc_new _ _)
  ·rw[HBB.out];exact gz _ _ (by simp)
  ·rfl
  ·intro j hj
   rcases(show j=0∨j=1∨j=2∨j=3∨j=4∨j=5∨j=6∨j=7∨j=8∨j=9∨j=10∨j=11∨j=12∨j=13∨j=14∨j=15∨j=16 from by omega)with rfl|rfl|rfl|rfl|rfl|rfl|rfl|rfl|rfl|rfl|rfl|rfl|rfl|rfl|rfl|rfl|rfl<;>rfl
 case round=>
  obtain⟨k,a,x,f,rfl,hk,HL,HI,HF⟩:=hrel;by_cases hlt:k<l.length
  ·obtain⟨b,o,rfl,hF,hbl,g0,g1,g2,g3⟩:=RowD.at (H.out.pure HL.out.below) k hlt
   have HNO:=hid (λ(h:¬jw a x l[k])=>(λh2=>qX hlt h (HI.out.1 h2):¬jy l));have HST:=hid (show jy l↔jw a x l[k]∧(js (f l[k].asset+l[k].free+l[k].held)).2=0∧jx l[k].acct l[k].asset (upd f l[k].asset (f l[k].asset+l[k].free+l[k].held)) (l.drop (k+1))from by
    have:=HI.out;rw[List.drop_eq_getElem_cons hlt]at this;exact this)
   have hri:=HIN.out _ (List.getElem_mem hlt);obtain⟨r,hr⟩:∃r,r=l[k]:=⟨_,rfl⟩;rw[← hr]at g0 g1 g2 g3 HNO HST hri;have HRI:=hid hri;obtain⟨l0,l1⟩:=HL.out.cs;obtain⟨z0,_⟩:=HL.out.fz 0;obtain⟨z1,_⟩:=HL.out.fz 1;have hBl:B<wr.heap.size:=aA l0;clear hr hF hri;obtain⟨n,hn⟩:∃n,n=wr.heap.size:=⟨_,rfl⟩;have HNN:=hid hn;obtain⟨ra,rx,rf,rh⟩:=r;dsimp only at g0 g1 g2 g3
   go_wp2_with fail
   obtain⟨W0,hW0⟩:∃W0,W0=(wr.alloc (.cells #[.int .i64 ra,.int .i64 rx,.int .i64 rf,.int .i64 rh] 98)).alloc (.cells #[.int .i64 ra,.int .i64 rx,.int .i64 rf,.int .i64 rh] 393):=⟨_,rfl⟩;have hb0:Below wr.heap.size wr W0:=by rw[hW0];exact((Below.refl _ _).alloc (Nat.le_refl _) _).alloc (by simp) _
   have R0:RwAt W0 n ⟨ra,rx,rf,rh⟩:=⟨by rw[hW0,hn];exact(Below.heap_alloc _ _ _ (by simp)).trans (heap_alloc_new _ _),by rw[hW0,hn];exact gz _ _ (by simp)⟩;have L0:=HL.out.pure hb0;have hnB:B<n:=by rw[hn];exact hBl
   have R0H:=hid R0;have L0H:=hid L0;rw[← hW0]
   try rw[← hn]
   clear hW0 hb0 R0 L0 hn l0 l1 z0 z1 HL g0 g1 g2 g3;refine(qK W0 ra rx).mono ?_;rintro e w1 ⟨h1,hb1⟩;have R1:=hid (R0H.out.pure hb1);have L1:=hid (L0H.out.pure hb1);clear hb1 R0H L0H;by_cases hP:jt ra rx
   case neg=>
    obtain rfl:=h1.neg hP;have NO:=hid (HNO.out (λh=>hP h.1));clear hP h1;go_wp2;go_ret;exact⟨TB.no NO.out,L1.out.below⟩
   obtain rfl:=h1.pos hP;have HP:=hid hP;clear hP h1;obtain⟨l0,l1⟩:=L1.out.cs;obtain⟨e0,e1,e2,e3⟩:=R1.out.e
   go_wp2_with fail
   refine(qM w1 a x ra rx).mono ?_;rintro e w2 ⟨rfl,hb2⟩;have R2:=hid (R1.out.pure hb2);have L2:=hid (L1.out.pure hb2);obtain⟨c,hc⟩:∃c,c=orF (qe a ra) (qe x rx):=⟨_,rfl⟩;have HC:=hid (show c<0↔ju a x ra rx from by rw[hc];exact qk);rw[← hc];clear hb2 R1 L1 l0 l1 e0 e1 e2 e3 hc;by_cases hc0:c<0
   case neg=>
    have NO:=hid (HNO.out (λh=>hc0 (HC.out.2 h.2.1)));go_wp2;go_ret;exact⟨TB.no NO.out,L2.out.below⟩
   have HLT:=hid (HC.out.1 hc0);have hc2:decide ((0:Int)≤c)=false:=by simpa using hc0
   obtain⟨e0,e1,e2,e3⟩:=R2.out.e
   go_wp2_with fail
   refine(show Calls Tryz.prog 321 #[.agg #[.int .i64 ra,.int .i64 rx,.int .i64 rf,.int .i64 rh]] _ _ from qP w2 ⟨ra,rx,rf,rh⟩).mono ?_;rintro e w3 ⟨⟨q,rfl,hq⟩,hb3⟩;have R3:=hid (R2.out.pure hb3);have L3:=hid (L2.out.pure hb3);have HQ:=hid hq;clear hb3 R2 L2 e0 e1 e2 e3 hq hc0 hc2;by_cases hq0:q=0
   case neg=>
    have NO:=hid (HNO.out (λh=>hq0 (HQ.out.2 h.2.2.1)));have hqb:(q != 0)=true:=by simpa using hq0
    go_wp2<;>(go_ret;exact⟨TB.no NO.out,L3.out.below⟩)
   subst hq0;have HRR:=hid (HQ.out.1 rfl);obtain⟨r0,r1,r2,r3⟩:=R3.out.r;by_cases hz:rf=0∧rh=0
   case pos=>
    obtain⟨rfl,rfl⟩:=hz;have NO:=hid (HNO.out (λh=>h.2.2.2.1 ⟨rfl,rfl⟩));go_wp2<;>(go_ret;exact⟨TB.no NO.out,L3.out.below⟩)
   by_cases ho:ra=0∧(rh≠0∨0<rf)
   case pos=>
    have NO:=hid (HNO.out (λh=>h.2.2.2.2 ho));obtain⟨rfl,ho⟩:=ho;by_cases hf0:rf=0
    ·have hh:¬rh=0:=λe=>hz ⟨hf0,e⟩
     have q1:(rh == 0)=false:=by simpa using hh
     have q2:(rh != 0)=true:=by simpa using hh
     subst hf0;clear hz ho;go_wp2<;>(go_ret;exact⟨TB.no NO.out,L3.out.below⟩)
    ·have q3:(rf == 0)=false:=by simpa using hf0
     by_cases hh:rh=0
     ·have hp:0<rf:=by rcases ho with h|h;exact absurd hh h;exact h
      subst hh;clear hz ho;go_wp2<;>(go_ret;exact⟨TB.no NO.out,L3.out.below⟩)
     ·have q2:(rh != 0)=true:=by simpa using hh
      clear hz ho;go_wp2<;>(go_ret;exact⟨TB.no NO.out,L3.out.below⟩)
   have HFIT:=hid (show jw a x ⟨ra,rx,rf,rh⟩from⟨HP.out,HLT.out,HRR.out,hz,ho⟩);have hneed:((rf == 0)=false∨(rf == 0)=true∧(rh == 0)=false)∧((ra == 0)=false∨(ra == 0)=true∧(rh != 0)=false∧¬0<rf):=by
    refine⟨?_,?_⟩
    ·by_cases hf0:rf=0
     ·exact .inr ⟨by simp[hf0],by simpa using λe=>hz ⟨hf0,e⟩⟩
     ·exact .inl (by simpa using hf0)
    ·by_cases ha0:ra=0
     ·have h1:¬(rh≠0∨0<rf):=λh=>ho ⟨ha0,h⟩
      refine .inr ⟨by simp[ha0],?_,λh=>h1 (.inr h)⟩;by_cases hh:rh=0
      ·simp[hh]
      ·exact absurd (.inl hh) h1
     ·exact .inl (by simpa using ha0)
   have HX2:=HP.out;obtain⟨j,rfl⟩:∃j:Nat,rx=(j:Int):=⟨rx.toNat,by have:=HX2.2.2.1;omega⟩;have hj:j<17:=by have:=HX2.2.2.2;omega
   have hj0:(0:Int)≤(j:Int):=by omega
   have hj1:(j:Int)<17:=by omega
   obtain⟨e0,e1,e2,e3⟩:=R3.out.e;obtain⟨l0,l1⟩:=L3.out.cs;obtain⟨z0,_⟩:=L3.out.fz 0;obtain⟨z1,_⟩:=L3.out.fz 1;have hBl3:B<w3.heap.size:=aA l0;have hnl3:n<w3.heap.size:=aA r0;have KEY:∀(X:Prop),X→X:=λ_ h=>h;clear hz ho HX2
   rcases hneed with⟨q1|⟨q1,q2⟩,q3|⟨q3,q4,q5⟩⟩
   all_goals go_wp2_with fail
   all_goals
    have L4:=hid (L3.out.setLast ra (j:Int));have R4:=hid (R3.out.fr (((Fr.refl (λg=>g=B) w3).setCell ⟨B,0,none⟩ (λ_=>rfl) (.int .i64 ra)).setCell ⟨B,1,none⟩ (λ_=>rfl) (.int .i64 (j:Int))) (by show ¬n=B;omega) (by show ¬n+1=B;omega));obtain⟨W4,hW4⟩:∃W4,W4=(w3.setCell ⟨B,0,none⟩ (.int .i64 ra)).setCell ⟨B,1,none⟩ (.int .i64 (j:Int)):=⟨_,rfl⟩;rw[← hW4]at L4 R4 ⊢;clear hW4 r0 r1 r2 r3 e0 e1 e2 e3 l0 l1 z0 z1 L3 R3;obtain⟨r0,r1,r2,r3⟩:=R4.out.r;have s0:=L4.out.sum j hj;have hsB:B+1<W4.heap.size:=aA s0
    go_region_held3 (λw'=>w'.cell? ⟨n,1,none⟩=some (.int .i64 (j:Int))∧w'.cell? ⟨n,2,none⟩=some (.int .i64 rf)∧w'.cell? ⟨n,3,none⟩=some (.int .i64 rh)∧w'.cell? ⟨B+1,j,none⟩=some (.int .i64 (f j))) (first|exact⟨r1,r2,r3,s0⟩|exact⟨x1,x2,x3,x4⟩|go_keep) (first
     | (go_at_call 270;refine(qH _ _ [f j,rf,rh] (by first|exact qT rfl|exact qU rfl) (λy hy=>by simp only[List.mem_cons,List.not_mem_nil,or_false]at hy;rcases hy with rfl|rfl|rfl;(have:=HF.out j;omega);exact HRI.out.1;exact HRI.out.2) (by simp)).mono ?_;rintro e w5 ⟨rfl,hb5⟩;have hb6:Below W4.heap.size W4 w5:=(by first|exact kc hb5|exact qV hb5);have L5:=hid (L4.out.pure hb6);have R5:=hid (R4.out.pure hb6);obtain⟨_,x1,x2,x3⟩:=R5.out.r;have x4:=L5.out.sum j hj;clear hb5 hb6))
    rw[show f (j:Int)+(rf+rh)=f j+rf+rh from by omega];obtain⟨q,hq⟩:∃q,q=(js (f j+rf+rh)).2:=⟨_,rfl⟩;rw[← hq];have HQ2:=hid hq;clear hq r0 r1 r2 r3 s0 L4 R4;by_cases hq0:q=0
    case neg=>
     have NO:=hid (show ¬jy l from λh=>hq0 (by rw[HQ2.out];exact(HST.out.1 h).2.1));have hqb:(q != 0)=true:=by simpa using hq0
     go_wp2<;>(go_ret;exact⟨TB.no NO.out,L5.out.below⟩)
    subst hq0;have HT:=hid (show(js (f j+rf+rh)).1=f j+rf+rh from by
     have:=qQ HQ2.out.symm;unfold js;rw[if_pos ⟨this.2,this.1⟩])
    rw[HT.out];obtain⟨r0,r1,r2,r3⟩:=R5.out.r;have s0:=L5.out.sum j hj;obtain⟨_,z2⟩:=L5.out.fz j;go_wp2
    go_roundw
    case rel=>
     refine⟨k+1,ra,j,upd f j (f j+rf+rh),by go_num,by omega,hid (L5.out.setSum j hj _),hid ?_,hid (λi=>?_)⟩
     ·exact HST.out.trans ⟨λh=>h.2.2,λh=>⟨HFIT.out,HQ2.out.symm,h⟩⟩
     ·unfold upd
      by_cases hij:i=(j:Int)
      ·rw[if_pos hij];have:=qQ HQ2.out.symm;omega
      ·rw[if_neg hij];exact HF.out i
    case measure=>simp[intOf];omega
  ·have hkl:k=l.length:=by omega
   have HE:=hid (show jy l↔∀j,0≤j→j≤16→f j=0 from by
    have:=HI.out;rw[hkl,List.drop_length]at this;exact this)
   have hs:=HL.out.sum;have x0:wr.cell? ⟨B+1,0,none⟩=some (.int .i64 (f 0)):=hs 0 (by omega);have x1:wr.cell? ⟨B+1,1,none⟩=some (.int .i64 (f 1)):=hs 1 (by omega);have x2:wr.cell? ⟨B+1,2,none⟩=some (.int .i64 (f 2)):=hs 2 (by omega);have x3:wr.cell? ⟨B+1,3,none⟩=some (.int .i64 (f 3)):=hs 3 (by omega);have x4:wr.cell? ⟨B+1,4,none⟩=some (.int .i64 (f 4)):=hs 4 (by omega);have x5:wr.cell? ⟨B+1,5,none⟩=some (.int .i64 (f 5)):=hs 5 (by omega);have x6:wr.cell? ⟨B+1,6,none⟩=some (.int .i64 (f 6)):=hs 6 (by omega);have x7:wr.cell? ⟨B+1,7,none⟩=some (.int .i64 (f 7)):=hs 7 (by omega);have x8:wr.cell? ⟨B+1,8,none⟩=some (.int .i64 (f 8)):=hs 8 (by omega);have x9:wr.cell? ⟨B+1,9,none⟩=some (.int .i64 (f 9)):=hs 9 (by omega);have x10:wr.cell? ⟨B+1,10,none⟩=some (.int .i64 (f 10)):=hs 10 (by omega);have x11:wr.cell? ⟨B+1,11,none⟩=some (.int .i64 (f 11)):=hs 11 (by omega);have x12:wr.cell? ⟨B+1,12,none⟩=some (.int .i64 (f 12)):=hs 12 (by omega);have x13:wr.cell? ⟨B+1,13,none⟩=some (.int .i64 (f 13)):=hs 13 (by omega);have x14:wr.cell? ⟨B+1,14,none⟩=some (.int .i64 (f 14)):=hs 14 (by omega);have x15:wr.cell? ⟨B+1,15,none⟩=some (.int .i64 (f 15)):=hs 15 (by omega);have x16:wr.cell? ⟨B+1,16,none⟩=some (.int .i64 (f 16)):=hs 16 (by omega);clear hs;have hq:∀w,(binOp .eql 391 (.agg #[.int .i64 (f 0),.int .i64 (f 1),.int .i64 (f 2),.int .i64 (f 3),.int .i64 (f 4),.int .i64 (f 5),.int .i64 (f 6),.int .i64 (f 7),.int .i64 (f 8),.int .i64 (f 9),.int .i64 (f 10),.int .i64 (f 11),.int .i64 (f 12),.int .i64 (f 13),.int .i64 (f 14),.int .i64 (f 15),.int .i64 (f 16)]) (.agg #[.int .i64 0,.int .i64 0,.int .i64 0,.int .i64 0,.int .i64 0,.int .i64 0,.int .i64 0,.int .i64 0,.int .i64 0,.int .i64 0,.int .i64 0,.int .i64 0,.int .i64 0,.int .i64 0,.int .i64 0,.int .i64 0,.int .i64 0])).run Tryz.prog w = .ok (.bool (tf (∀i,i<17→f ((i:Nat):Int)=0))) w:=λw=>by
    rw[run_eql_struct,qJ 391 2 17 _ _ (λi=>f (i:Int)) (λ_=>0) Tryz.underlying391 Tryz.underlying2 (Tryz.sizeOf2) (Tryz.isAgg2) (λi hi=>by
     rcases(show i=0∨i=1∨i=2∨i=3∨i=4∨i=5∨i=6∨i=7∨i=8∨i=9∨i=10∨i=11∨i=12∨i=13∨i=14∨i=15∨i=16 from by omega)with rfl|rfl|rfl|rfl|rfl|rfl|rfl|rfl|rfl|rfl|rfl|rfl|rfl|rfl|rfl|rfl|rfl<;>rfl) (λi hi=>by
     rcases(show i=0∨i=1∨i=2∨i=3∨i=4∨i=5∨i=6∨i=7∨i=8∨i=9∨i=10∨i=11∨i=12∨i=13∨i=14∨i=15∨i=16 from by omega)with rfl|rfl|rfl|rfl|rfl|rfl|rfl|rfl|rfl|rfl|rfl|rfl|rfl|rfl|rfl|rfl|rfl<;>rfl) 9998 w]
    rfl
   have HTF:=hid (show tf (∀i,i<17→f ((i:Nat):Int)=0)=true↔jy l from tf_iff.trans ((show(∀i,i<17→f ((i:Nat):Int)=0)↔∀j,0≤j→j≤16→f j=0 from⟨λh j h0 h1=>by have:=h j.toNat (by omega);rwa [Int.toNat_of_nonneg h0]at this,λh i hi=>h i (by omega) (by omega)⟩).trans HE.out.symm));obtain⟨bo,hbo⟩:∃bo,bo=tf (∀i,i<17→f ((i:Nat):Int)=0):=⟨_,rfl⟩;rw[← hbo]at HTF;rw[← hbo]at hq;clear hbo;go_wp2;go_ret;exact⟨⟨bo,HTF.out,rfl⟩,HL.out.below⟩
end
end Go.Proofs.YtaeakdichkhjaaaGreatDoor
