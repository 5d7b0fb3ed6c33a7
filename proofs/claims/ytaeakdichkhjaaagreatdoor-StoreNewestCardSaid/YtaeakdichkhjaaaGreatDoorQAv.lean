/- The walks of book.May; state.rows, orders and their closures, at any state. -/
import Derived.Deep.RegionWith
import Derived.Deep.RegionHeld3
import Derived.Test.YtaeakdichkhjaaaGreatDoorQAt
import Derived.Test.YtaeakdichkhjaaaGreatDoorQAl
import Derived.Test.YtaeakdichkhjaaaGreatDoorQAu
set_option maxHeartbeats 2000000
open Go.Lib(hid)
namespace Go.Proofs.YtaeakdichkhjaaaGreatDoor
section
open Go.RowKit
theorem qZ {w:World}{g:Nat}{u v:Value}{T:TypeId}(hg:g=w.heap.size):(w.alloc (.cells #[u,v] T)).cell? ⟨g,0,none⟩=some u∧(w.alloc (.cells #[u,v] T)).cell? ⟨g,1,none⟩=some v:=by
 subst hg;exact⟨by rw[World.cell?_alloc_at _ _ _ _ rfl];rfl,by rw[World.cell?_alloc_at _ _ _ _ rfl];rfl⟩
set_option maxRecDepth 100000 in
theorem rg (w:World)(x y:OrdD):Calls Tryz.prog 325 #[x.agg,y.agg] w λe w'=>e = .returned (.int .i64 (qe x.id y.id))∧Below w.heap.size w w':=by
 unfold OrdD.agg
 go_enter Tryz.func325,Tryz.ntmps325
 go_wp2_with fail
 refine(qi _ x.id y.id).mono ?_;rintro e w1 ⟨rfl,rfl⟩;go_wp2;go_ret;exact⟨rfl,(by repeat (first|exact Below.refl _ _|exact HB.out|refine Below.drew ?_|refine Below.alloc ?_ (by first|exact Nat.le_refl _|exact HB.out.size|(simp;done)|(simp;omega)|omega|(have:=HB.out.size;simp;omega)) _|refine Below.setCell ?_ (by first|exact Nat.le_refl _|exact HB.out.size|(simp;done)|(simp;omega)|omega|(have:=HB.out.size;simp;omega)) _))⟩
set_option maxRecDepth 100000 in
theorem rl (w:World)(x y:LotD):Calls Tryz.prog 221 #[x.agg,y.agg] w λe w'=>e = .returned (.int .i64 (qe x.id y.id))∧Below w.heap.size w w':=by
 unfold LotD.agg
 go_enter Tryz.func221,Tryz.ntmps221
 go_wp2_with fail
 refine(qi _ x.id y.id).mono ?_;rintro e w1 ⟨rfl,rfl⟩;go_wp2;go_ret;exact⟨rfl,(by repeat (first|exact Below.refl _ _|exact HB.out|refine Below.drew ?_|refine Below.alloc ?_ (by first|exact Nat.le_refl _|exact HB.out.size|(simp;done)|(simp;omega)|omega|(have:=HB.out.size;simp;omega)) _|refine Below.setCell ?_ (by first|exact Nat.le_refl _|exact HB.out.size|(simp;done)|(simp;omega)|omega|(have:=HB.out.size;simp;omega)) _))⟩
theorem rm {n:Nat}(w:World)(o:Obj)(h:n=w.heap.size):(w.alloc o).heap[n]?=some o:=by subst h;exact heap_alloc_new _ _
set_option maxRecDepth 100000 in
theorem rn (w:World)(x y:OpnD):Calls Tryz.prog 219 #[x.agg,y.agg] w λe w'=>e = .returned (.int .i64 (orF (qe x.acct y.acct) (qe x.id y.id)))∧Below w.heap.size w w':=by
 unfold OpnD.agg
 go_enter Tryz.func219,Tryz.ntmps219
 go_wp2_with fail
 obtain⟨n,hn⟩:∃n,n=w.heap.size:=⟨_,rfl⟩;obtain⟨W0,hW0⟩:∃W0,W0=(w.alloc (.cells #[.int .i64 x.acct,.int .i64 x.id,.int .i64 x.inst,.int .u8 x.side,.int .i64 x.price,.int .i64 x.left] 106)).alloc (.cells #[.int .i64 y.acct,.int .i64 y.id,.int .i64 y.inst,.int .u8 y.side,.int .i64 y.price,.int .i64 y.left] 106):=⟨_,rfl⟩;have hbel:Below w.heap.size w W0:=by rw[hW0];exact((Below.refl _ _).alloc (Nat.le_refl _) _).alloc (by simp) _
 have k0:W0.heap[n]?=some (.cells #[.int .i64 x.acct,.int .i64 x.id,.int .i64 x.inst,.int .u8 x.side,.int .i64 x.price,.int .i64 x.left] 106 (0,0)):=by rw[hW0,hn];exact(Below.heap_alloc _ _ _ (by simp)).trans (heap_alloc_new _ _)
 have k1:W0.heap[n+1]?=some (.cells #[.int .i64 y.acct,.int .i64 y.id,.int .i64 y.inst,.int .u8 y.side,.int .i64 y.price,.int .i64 y.left] 106 (0,0)):=by rw[hW0,hn];exact rm _ _ (by simp)
 have c0:W0.cell? ⟨n,0,none⟩=some (.int .i64 x.acct):=(cell_of_row _ _ _ _ _ _ k0).trans rfl;have c1:W0.cell? ⟨n,1,none⟩=some (.int .i64 x.id):=(cell_of_row _ _ _ _ _ _ k0).trans rfl;have c2:W0.cell? ⟨n+1,0,none⟩=some (.int .i64 y.acct):=(cell_of_row _ _ _ _ _ _ k1).trans rfl;have c3:W0.cell? ⟨n+1,1,none⟩=some (.int .i64 y.id):=(cell_of_row _ _ _ _ _ _ k1).trans rfl;have HB:=hid hbel;rw[← hW0]
 try rw[← hn]
 clear hW0 hn hbel k0 k1
 go_region_held3 (λw'=>w'.cell? ⟨n,0,none⟩=some (.int .i64 x.acct)∧w'.cell? ⟨n,1,none⟩=some (.int .i64 x.id)∧w'.cell? ⟨n+1,0,none⟩=some (.int .i64 y.acct)∧w'.cell? ⟨n+1,1,none⟩=some (.int .i64 y.id)) (first|exact⟨c0,c1,c2,c3⟩|go_keep) (first
  | (go_at_call 264;refine(qg _ _ _).mono ?_;rintro e w9 ⟨rfl,rfl⟩)
  | (go_at_call 265;refine(qi _ _ _).mono ?_;rintro e w9 ⟨rfl,rfl⟩)
  | (go_at_call 263;refine(qj _ _ (qe x.acct y.acct) (qe x.id y.id) (by first|exact(qZ rfl).1|(rw[World.cell?_drew];exact(qZ rfl).1)) (by first|exact(qZ rfl).2|(rw[World.cell?_drew];exact(qZ rfl).2))).mono ?_;rintro e w9 ⟨rfl,rfl⟩))
 all_goals (go_wp2;go_ret;exact⟨rfl,(by repeat (first|exact Below.refl _ _|exact HB.out|refine Below.drew ?_|refine Below.alloc ?_ (by first|exact Nat.le_refl _|exact HB.out.size|(simp;done)|(simp;omega)|omega|(have:=HB.out.size;simp;omega)) _|refine Below.setCell ?_ (by first|exact Nat.le_refl _|exact HB.out.size|(simp;done)|(simp;omega)|omega|(have:=HB.out.size;simp;omega)) _))⟩)
set_option maxRecDepth 100000 in
theorem ro (w:World)(x y:PosD):Calls Tryz.prog 229 #[x.agg,y.agg] w λe w'=>e = .returned (.int .i64 (orF (qe x.acct y.acct) (qe x.inst y.inst)))∧Below w.heap.size w w':=by
 unfold PosD.agg
 go_enter Tryz.func229,Tryz.ntmps229
 go_wp2_with fail
 obtain⟨n,hn⟩:∃n,n=w.heap.size:=⟨_,rfl⟩;obtain⟨W0,hW0⟩:∃W0,W0=(w.alloc (.cells #[.int .i64 x.acct,.int .i64 x.inst,.int .i64 x.bought,.int .i64 x.sold,.int .i64 x.spent,.int .i64 x.got] 112)).alloc (.cells #[.int .i64 y.acct,.int .i64 y.inst,.int .i64 y.bought,.int .i64 y.sold,.int .i64 y.spent,.int .i64 y.got] 112):=⟨_,rfl⟩;have hbel:Below w.heap.size w W0:=by rw[hW0];exact((Below.refl _ _).alloc (Nat.le_refl _) _).alloc (by simp) _
 have k0:W0.heap[n]?=some (.cells #[.int .i64 x.acct,.int .i64 x.inst,.int .i64 x.bought,.int .i64 x.sold,.int .i64 x.spent,.int .i64 x.got] 112 (0,0)):=by rw[hW0,hn];exact(Below.heap_alloc _ _ _ (by simp)).trans (heap_alloc_new _ _)
 have k1:W0.heap[n+1]?=some (.cells #[.int .i64 y.acct,.int .i64 y.inst,.int .i64 y.bought,.int .i64 y.sold,.int .i64 y.spent,.int .i64 y.got] 112 (0,0)):=by rw[hW0,hn];exact rm _ _ (by simp)
 have c0:W0.cell? ⟨n,0,none⟩=some (.int .i64 x.acct):=(cell_of_row _ _ _ _ _ _ k0).trans rfl;have c1:W0.cell? ⟨n,1,none⟩=some (.int .i64 x.inst):=(cell_of_row _ _ _ _ _ _ k0).trans rfl;have c2:W0.cell? ⟨n+1,0,none⟩=some (.int .i64 y.acct):=(cell_of_row _ _ _ _ _ _ k1).trans rfl;have c3:W0.cell? ⟨n+1,1,none⟩=some (.int .i64 y.inst):=(cell_of_row _ _ _ _ _ _ k1).trans rfl;have HB:=hid hbel;rw[← hW0]
 try rw[← hn]
 clear hW0 hn hbel k0 k1
 go_region_held3 (λw'=>w'.cell? ⟨n,0,none⟩=some (.int .i64 x.acct)∧w'.cell? ⟨n,1,none⟩=some (.int .i64 x.inst)∧w'.cell? ⟨n+1,0,none⟩=some (.int .i64 y.acct)∧w'.cell? ⟨n+1,1,none⟩=some (.int .i64 y.inst)) (first|exact⟨c0,c1,c2,c3⟩|go_keep) (first
  | (go_at_call 264;refine(qg _ _ _).mono ?_;rintro e w9 ⟨rfl,rfl⟩)
  | (go_at_call 263;refine(qj _ _ (qe x.acct y.acct) (qe x.inst y.inst) (by first|exact(qZ rfl).1|(rw[World.cell?_drew];exact(qZ rfl).1)) (by first|exact(qZ rfl).2|(rw[World.cell?_drew];exact(qZ rfl).2))).mono ?_;rintro e w9 ⟨rfl,rfl⟩))
 all_goals (go_wp2;go_ret;exact⟨rfl,(by repeat (first|exact Below.refl _ _|exact HB.out|refine Below.drew ?_|refine Below.alloc ?_ (by first|exact Nat.le_refl _|exact HB.out.size|(simp;done)|(simp;omega)|omega|(have:=HB.out.size;simp;omega)) _|refine Below.setCell ?_ (by first|exact Nat.le_refl _|exact HB.out.size|(simp;done)|(simp;omega)|omega|(have:=HB.out.size;simp;omega)) _))⟩)
set_option maxRecDepth 100000 in
theorem rp (F:Nat→Prop)(w:World)(sv:Value)(xs:List OpnD)(hx:OpnsAt F w sv xs)(hlen:xs.length≤4398046511104) :
  Calls Tryz.prog 218 #[sv,.func (.func 219) #[] #[]] w λe w'=>TB (jC (λa b=>ju a.acct a.id b.acct b.id) xs) e∧Below w.heap.size w w':=by
 obtain⟨a0,c0,rfl⟩:=hx.shape;have HX:=hid hx;have ent:∀(args:Array Value) (w:World),(callFunc 219 args).run Tryz.prog w = .ok (.enter 219 args) w:=enters_of Tryz.func219 (by kernel_rfl) rfl;clear hx
 go_enter Tryz.func218,Tryz.ntmps218
 go_wp2
 go_loopw [5] (λi wr=>∃n:Nat,i = .int .i64 (n:Int)∧1≤n∧(n=1∨n≤xs.length)∧Hid (Below w.heap.size w wr)∧Hid (∀j (h:j+1<xs.length),j+1<n→(λ(a b:OpnD)=>ju a.acct a.id b.acct b.id) xs[j] xs[j+1])) (λi _=>xs.length-(intOf i).toNat)
 case atStart=>exact⟨1,rfl,by omega,.inl rfl,hid (Below.refl _ _),hid (λj _ h=>by omega)⟩
 case round=>
  obtain⟨n,rfl,hn1,hm,HB,HP⟩:=hrel;obtain⟨m,hnm⟩:∃m,n=m+1:=⟨n-1,by omega⟩;by_cases hlt:n<xs.length
  ·have hml:m<xs.length:=by omega
   obtain⟨b,o,rfl,hF,hbl,g0,g1,g2,g3,g4,g5⟩:=OpnD.at (HX.out.pure HB.out) m hml;obtain⟨b',o',he',_,_,q0,q1,q2,q3,q4,q5⟩:=OpnD.at (HX.out.pure HB.out) n hlt;cases he';obtain⟨x,hx⟩:∃x,x=xs[m]:=⟨_,rfl⟩;obtain⟨y,hy⟩:∃y,y=xs[n]:=⟨_,rfl⟩;rw[← hx]at g0 g1 g2 g3 g4 g5;rw[← hy]at q0 q1 q2 q3 q4 q5;have HXX:=hid hx;have HYY:=hid hy;have HC:=hid (show ∀W,Below wr.heap.size wr W→Calls Tryz.prog 219 #[.agg #[.int .i64 x.acct,.int .i64 x.id,.int .i64 x.inst,.int .u8 x.side,.int .i64 x.price,.int .i64 x.left],.agg #[.int .i64 y.acct,.int .i64 y.id,.int .i64 y.inst,.int .u8 y.side,.int .i64 y.price,.int .i64 y.left]] W λe w'=>e = .returned (.int .i64 (orF (qe x.acct y.acct) (qe x.id y.id)))∧Below W.heap.size W w' from λW _=>rn W x y);have hi0:(0:Int)≤(m:Int):=by omega
   have hi1:(m:Int)<(xs.length:Int):=by omega
   have hi2:(n:Int)<(xs.length:Int):=by omega
   have hi4:wrap64 ((n:Int)-1)=(m:Int):=by unfold wrap64;omega
   have hi5:IntKind.i64.wrap ((n:Int)-1)=(m:Int):=by rw[IntKind.wrap_i64];omega
   have HNM:=hid hnm;clear hF hx hy hnm;obtain⟨c,hc⟩:∃c,c=orF (qe x.acct y.acct) (qe x.id y.id):=⟨_,rfl⟩;rw[← hc]at HC;have HCL:=hid (show c<0↔(λ(a b:OpnD)=>ju a.acct a.id b.acct b.id) x y from by rw[hc];exact qk);clear hc;by_cases hc0:c<0
   ·have hc1:decide ((0:Int)≤c)=false:=by simpa using hc0
    have HLT:=hid (HCL.out.1 hc0)
    go_wp2_with fail
    go_region_held3 (λw'=>w'.cell? ⟨b,o+m*6,none⟩=some (.int .i64 x.acct)∧w'.cell? ⟨b,o+m*6+1,none⟩=some (.int .i64 x.id)∧w'.cell? ⟨b,o+m*6+2,none⟩=some (.int .i64 x.inst)∧w'.cell? ⟨b,o+m*6+3,none⟩=some (.int .u8 x.side)∧w'.cell? ⟨b,o+m*6+4,none⟩=some (.int .i64 x.price)∧w'.cell? ⟨b,o+m*6+5,none⟩=some (.int .i64 x.left)∧w'.cell? ⟨b,o+n*6,none⟩=some (.int .i64 y.acct)∧w'.cell? ⟨b,o+n*6+1,none⟩=some (.int .i64 y.id)∧w'.cell? ⟨b,o+n*6+2,none⟩=some (.int .i64 y.inst)∧w'.cell? ⟨b,o+n*6+3,none⟩=some (.int .u8 y.side)∧w'.cell? ⟨b,o+n*6+4,none⟩=some (.int .i64 y.price)∧w'.cell? ⟨b,o+n*6+5,none⟩=some (.int .i64 y.left)) (first|exact⟨g0,g1,g2,g3,g4,g5,q0,q1,q2,q3,q4,q5⟩|exact⟨(hb6.cell (p:=⟨b,_,none⟩) hbl).trans g0,(hb6.cell (p:=⟨b,_,none⟩) hbl).trans g1,(hb6.cell (p:=⟨b,_,none⟩) hbl).trans g2,(hb6.cell (p:=⟨b,_,none⟩) hbl).trans g3,(hb6.cell (p:=⟨b,_,none⟩) hbl).trans g4,(hb6.cell (p:=⟨b,_,none⟩) hbl).trans g5,(hb6.cell (p:=⟨b,_,none⟩) hbl).trans q0,(hb6.cell (p:=⟨b,_,none⟩) hbl).trans q1,(hb6.cell (p:=⟨b,_,none⟩) hbl).trans q2,(hb6.cell (p:=⟨b,_,none⟩) hbl).trans q3,(hb6.cell (p:=⟨b,_,none⟩) hbl).trans q4,(hb6.cell (p:=⟨b,_,none⟩) hbl).trans q5⟩|go_keep) (first
     | (refine(HC.out _ (by first|exact Below.refl _ _|exact(Below.refl _ _).drew|assumption)).mono ?_;rintro e w5 ⟨rfl,hb5⟩;have hb6:Below wr.heap.size wr w5:=(by first|exact hb5|exact(Below.refl _ _).drew.trans (hb5.mono (by simp)));have HB5:=hid (HB.out.trans (hb6.mono HB.out.size));clear hb5))
    go_wp2
    go_roundw
    case rel=>
     refine⟨n+1,by go_num,by omega,.inr (by omega),HB5,hid (λj hj hjn=>?_)⟩;by_cases hjm:j=m
     ·subst hjm
      have h1:=HLT.out;have h9:=HNM.out;subst h9;rw[HXX.out,HYY.out]at h1;exact h1
     ·exact HP.out j hj (by have:=HNM.out;omega)
    case measure=>simp[intOf];omega
   ·have hc1:decide ((0:Int)≤c)=true:=by simpa using hc0
    have hno:¬jC (λa b=>ju a.acct a.id b.acct b.id) xs:=λh=>hc0 (HCL.out.2 (by
     have h9:=HNM.out;subst h9;rw[HXX.out,HYY.out];exact h m hlt))
    have HNO:=hid hno;clear hno
    go_wp2_with fail
    go_region_held3 (λw'=>w'.cell? ⟨b,o+m*6,none⟩=some (.int .i64 x.acct)∧w'.cell? ⟨b,o+m*6+1,none⟩=some (.int .i64 x.id)∧w'.cell? ⟨b,o+m*6+2,none⟩=some (.int .i64 x.inst)∧w'.cell? ⟨b,o+m*6+3,none⟩=some (.int .u8 x.side)∧w'.cell? ⟨b,o+m*6+4,none⟩=some (.int .i64 x.price)∧w'.cell? ⟨b,o+m*6+5,none⟩=some (.int .i64 x.left)∧w'.cell? ⟨b,o+n*6,none⟩=some (.int .i64 y.acct)∧w'.cell? ⟨b,o+n*6+1,none⟩=some (.int .i64 y.id)∧w'.cell? ⟨b,o+n*6+2,none⟩=some (.int .i64 y.inst)∧w'.cell? ⟨b,o+n*6+3,none⟩=some (.int .u8 y.side)∧w'.cell? ⟨b,o+n*6+4,none⟩=some (.int .i64 y.price)∧w'.cell? ⟨b,o+n*6+5,none⟩=some (.int .i64 y.left)) (first|exact⟨g0,g1,g2,g3,g4,g5,q0,q1,q2,q3,q4,q5⟩|exact⟨(hb6.cell (p:=⟨b,_,none⟩) hbl).trans g0,(hb6.cell (p:=⟨b,_,none⟩) hbl).trans g1,(hb6.cell (p:=⟨b,_,none⟩) hbl).trans g2,(hb6.cell (p:=⟨b,_,none⟩) hbl).trans g3,(hb6.cell (p:=⟨b,_,none⟩) hbl).trans g4,(hb6.cell (p:=⟨b,_,none⟩) hbl).trans g5,(hb6.cell (p:=⟨b,_,none⟩) hbl).trans q0,(hb6.cell (p:=⟨b,_,none⟩) hbl).trans q1,(hb6.cell (p:=⟨b,_,none⟩) hbl).trans q2,(hb6.cell (p:=⟨b,_,none⟩) hbl).trans q3,(hb6.cell (p:=⟨b,_,none⟩) hbl).trans q4,(hb6.cell (p:=⟨b,_,none⟩) hbl).trans q5⟩|go_keep) (first
     | (refine(HC.out _ (by first|exact Below.refl _ _|exact(Below.refl _ _).drew|assumption)).mono ?_;rintro e w5 ⟨rfl,hb5⟩;have hb6:Below wr.heap.size wr w5:=(by first|exact hb5|exact(Below.refl _ _).drew.trans (hb5.mono (by simp)));have HB5:=hid (HB.out.trans (hb6.mono HB.out.size));clear hb5))
    go_wp2;go_ret;exact⟨TB.no HNO.out,HB5.out⟩
  ·have HY:=hid (show jC (λa b=>ju a.acct a.id b.acct b.id) xs from λj hj=>HP.out j hj (by omega))
   have hnl:¬(n:Int)<(xs.length:Int):=by omega
   go_wp2;go_ret;exact⟨TB.yes HY.out,HB.out⟩
set_option maxRecDepth 100000 in
theorem rq (F:Nat→Prop)(w:World)(sv:Value)(xs:List LotD)(hx:LotsAt F w sv xs)(hlen:xs.length≤4398046511104) :
  Calls Tryz.prog 220 #[sv,.func (.func 221) #[] #[]] w λe w'=>TB (jC (λa b=>a.id<b.id) xs) e∧Below w.heap.size w w':=by
 obtain⟨a0,c0,rfl⟩:=hx.shape;have HX:=hid hx;have ent:∀(args:Array Value) (w:World),(callFunc 221 args).run Tryz.prog w = .ok (.enter 221 args) w:=enters_of Tryz.func221 (by kernel_rfl) rfl;clear hx
 go_enter Tryz.func220,Tryz.ntmps220
 go_wp2
 go_loopw [5] (λi wr=>∃n:Nat,i = .int .i64 (n:Int)∧1≤n∧(n=1∨n≤xs.length)∧Hid (Below w.heap.size w wr)∧Hid (∀j (h:j+1<xs.length),j+1<n→(λ(a b:LotD)=>a.id<b.id) xs[j] xs[j+1])) (λi _=>xs.length-(intOf i).toNat)
 case atStart=>exact⟨1,rfl,by omega,.inl rfl,hid (Below.refl _ _),hid (λj _ h=>by omega)⟩
 case round=>
  obtain⟨n,rfl,hn1,hm,HB,HP⟩:=hrel;obtain⟨m,hnm⟩:∃m,n=m+1:=⟨n-1,by omega⟩;by_cases hlt:n<xs.length
  ·have hml:m<xs.length:=by omega
   obtain⟨b,o,rfl,hF,hbl,g0,g1,g2,g3⟩:=LotD.at (HX.out.pure HB.out) m hml;obtain⟨b',o',he',_,_,q0,q1,q2,q3⟩:=LotD.at (HX.out.pure HB.out) n hlt;cases he';obtain⟨x,hx⟩:∃x,x=xs[m]:=⟨_,rfl⟩;obtain⟨y,hy⟩:∃y,y=xs[n]:=⟨_,rfl⟩;rw[← hx]at g0 g1 g2 g3;rw[← hy]at q0 q1 q2 q3;have HXX:=hid hx;have HYY:=hid hy;have HC:=hid (show ∀W,Below wr.heap.size wr W→Calls Tryz.prog 221 #[.agg #[.int .i64 x.id,.int .i64 x.seller,.int .i64 x.inst,.int .i64 x.qty],.agg #[.int .i64 y.id,.int .i64 y.seller,.int .i64 y.inst,.int .i64 y.qty]] W λe w'=>e = .returned (.int .i64 (qe x.id y.id))∧Below W.heap.size W w' from λW _=>rl W x y);have hi0:(0:Int)≤(m:Int):=by omega
   have hi1:(m:Int)<(xs.length:Int):=by omega
   have hi2:(n:Int)<(xs.length:Int):=by omega
   have hi4:wrap64 ((n:Int)-1)=(m:Int):=by unfold wrap64;omega
   have hi5:IntKind.i64.wrap ((n:Int)-1)=(m:Int):=by rw[IntKind.wrap_i64];omega
   have HNM:=hid hnm;clear hF hx hy hnm;obtain⟨c,hc⟩:∃c,c=qe x.id y.id:=⟨_,rfl⟩;rw[← hc]at HC;have HCL:=hid (show c<0↔(λ(a b:LotD)=>a.id<b.id) x y from by rw[hc];exact ql);clear hc;by_cases hc0:c<0
   ·have hc1:decide ((0:Int)≤c)=false:=by simpa using hc0
    have HLT:=hid (HCL.out.1 hc0)
    go_wp2_with fail
    go_region_held3 (λw'=>w'.cell? ⟨b,o+m*4,none⟩=some (.int .i64 x.id)∧w'.cell? ⟨b,o+m*4+1,none⟩=some (.int .i64 x.seller)∧w'.cell? ⟨b,o+m*4+2,none⟩=some (.int .i64 x.inst)∧w'.cell? ⟨b,o+m*4+3,none⟩=some (.int .i64 x.qty)∧w'.cell? ⟨b,o+n*4,none⟩=some (.int .i64 y.id)∧w'.cell? ⟨b,o+n*4+1,none⟩=some (.int .i64 y.seller)∧w'.cell? ⟨b,o+n*4+2,none⟩=some (.int .i64 y.inst)∧w'.cell? ⟨b,o+n*4+3,none⟩=some (.int .i64 y.qty)) (first|exact⟨g0,g1,g2,g3,q0,q1,q2,q3⟩|exact⟨(hb6.cell (p:=⟨b,_,none⟩) hbl).trans g0,(hb6.cell (p:=⟨b,_,none⟩) hbl).trans g1,(hb6.cell (p:=⟨b,_,none⟩) hbl).trans g2,(hb6.cell (p:=⟨b,_,none⟩) hbl).trans g3,(hb6.cell (p:=⟨b,_,none⟩) hbl).trans q0,(hb6.cell (p:=⟨b,_,none⟩) hbl).trans q1,(hb6.cell (p:=⟨b,_,none⟩) hbl).trans q2,(hb6.cell (p:=⟨b,_,none⟩) hbl).trans q3⟩|go_keep) (first
     | (refine(HC.out _ (by first|exact Below.refl _ _|exact(Below.refl _ _).drew|assumption)).mono ?_;rintro e w5 ⟨rfl,hb5⟩;have hb6:Below wr.heap.size wr w5:=(by first|exact hb5|exact(Below.refl _ _).drew.trans (hb5.mono (by simp)));have HB5:=hid (HB.out.trans (hb6.mono HB.out.size));clear hb5))
    go_wp2
    go_roundw
    case rel=>
     refine⟨n+1,by go_num,by omega,.inr (by omega),HB5,hid (λj hj hjn=>?_)⟩;by_cases hjm:j=m
     ·subst hjm
      have h1:=HLT.out;have h9:=HNM.out;subst h9;rw[HXX.out,HYY.out]at h1;exact h1
     ·exact HP.out j hj (by have:=HNM.out;omega)
    case measure=>simp[intOf];omega
   ·have hc1:decide ((0:Int)≤c)=true:=by simpa using hc0
    have hno:¬jC (λa b=>a.id<b.id) xs:=λh=>hc0 (HCL.out.2 (by
     have h9:=HNM.out;subst h9;rw[HXX.out,HYY.out];exact h m hlt))
    have HNO:=hid hno;clear hno
    go_wp2_with fail
    go_region_held3 (λw'=>w'.cell? ⟨b,o+m*4,none⟩=some (.int .i64 x.id)∧w'.cell? ⟨b,o+m*4+1,none⟩=some (.int .i64 x.seller)∧w'.cell? ⟨b,o+m*4+2,none⟩=some (.int .i64 x.inst)∧w'.cell? ⟨b,o+m*4+3,none⟩=some (.int .i64 x.qty)∧w'.cell? ⟨b,o+n*4,none⟩=some (.int .i64 y.id)∧w'.cell? ⟨b,o+n*4+1,none⟩=some (.int .i64 y.seller)∧w'.cell? ⟨b,o+n*4+2,none⟩=some (.int .i64 y.inst)∧w'.cell? ⟨b,o+n*4+3,none⟩=some (.int .i64 y.qty)) (first|exact⟨g0,g1,g2,g3,q0,q1,q2,q3⟩|exact⟨(hb6.cell (p:=⟨b,_,none⟩) hbl).trans g0,(hb6.cell (p:=⟨b,_,none⟩) hbl).trans g1,(hb6.cell (p:=⟨b,_,none⟩) hbl).trans g2,(hb6.cell (p:=⟨b,_,none⟩) hbl).trans g3,(hb6.cell (p:=⟨b,_,none⟩) hbl).trans q0,(hb6.cell (p:=⟨b,_,none⟩) hbl).trans q1,(hb6.cell (p:=⟨b,_,none⟩) hbl).trans q2,(hb6.cell (p:=⟨b,_,none⟩) hbl).trans q3⟩|go_keep) (first
     | (refine(HC.out _ (by first|exact Below.refl _ _|exact(Below.refl _ _).drew|assumption)).mono ?_;rintro e w5 ⟨rfl,hb5⟩;have hb6:Below wr.heap.size wr w5:=(by first|exact hb5|exact(Below.refl _ _).drew.trans (hb5.mono (by simp)));have HB5:=hid (HB.out.trans (hb6.mono HB.out.size));clear hb5))
    go_wp2;go_ret;exact⟨TB.no HNO.out,HB5.out⟩
  ·have HY:=hid (show jC (λa b=>a.id<b.id) xs from λj hj=>HP.out j hj (by omega))
   have hnl:¬(n:Int)<(xs.length:Int):=by omega
   go_wp2;go_ret;exact⟨TB.yes HY.out,HB.out⟩
theorem rr {α:Type}{P:α→Prop}{xs:List α}:xs.any (λx=>tf (¬P x))=true↔¬∀x∈xs,P x:=by
 rw[List.any_eq_true];constructor
 ·rintro⟨x,hx,hp⟩ h;exact tf_iff.1 hp (h x hx)
 ·intro h
  apply Classical.byContradiction;intro hn;exact h λx hx=>Classical.byContradiction λhp=>hn ⟨x,hx,je hp⟩
set_option maxRecDepth 100000 in
theorem rt (F:Nat→Prop)(w:World)(sv:Value)(xs:List OrdD)(hx:OrdsAt F w sv xs)(hlen:xs.length≤4398046511104) :
  Calls Tryz.prog 289 #[sv] w λe w'=>TB (jD xs) e∧Below w.heap.size w w':=by
 obtain⟨a0,c0,rfl⟩:=hx.shape;have HX:=hid hx;have HC:=hid (nh w F _ xs hx hlen 323 (enters_of Tryz.func323 (by kernel_rfl) rfl) (λo=>tf (¬jB o)) (λW k hk _=>(qq W xs[k]).mono (by rintro e w' ⟨h1,h2⟩;exact⟨h1.tf,h2⟩)));clear hx;by_cases h128:128<xs.length
 ·have hno:¬jD xs:=λh=>by have:=h.1;omega
  have HNO:=hid hno;clear hno
  go_enter Tryz.func289,Tryz.ntmps289
  go_wp2;go_ret;exact⟨TB.no HNO.out,Below.refl _ _⟩
 go_enter Tryz.func289,Tryz.ntmps289
 go_wp2_with fail
 refine HC.out.mono ?_;rintro e w1 ⟨rfl,hb1⟩;have HB1:=hid hb1;clear hb1 HC;cases hany:xs.any (λo=>tf (¬jB o))
 case true=>
  have hno:¬jD xs:=λh=>rr.1 hany h.2.1;have HNO:=hid hno;clear hno hany;go_wp2;go_ret;exact⟨TB.no HNO.out,HB1.out⟩
 have HALL:=hid (show ∀o∈xs,jB o from Classical.byContradiction λh=>by have:=rr.2 h;rw[hany]at this;cases this);clear hany;by_cases h0:xs.length=0
 ·have hnil:xs=[]:=List.eq_nil_of_length_eq_zero h0
  subst hnil;have HY:=hid (show jD []from⟨by simp,by simp,λi h=>by simp at h⟩);clear HALL;by_cases hcm:c0=(min (1:Int) 0).toNat<;>rcases a0 with _|ad
  all_goals
   go_wp2
   go_loopw [17] (λi wr=>i = .int .i64 0∧Hid (Below w.heap.size w wr)) (λ_ _=>0)
   case atStart=>exact⟨rfl,HB1⟩
   case round=>
    obtain⟨rfl,HB⟩:=hrel;go_wp2;go_ret;exact⟨TB.yes HY.out,HB.out⟩
 have h1:(1:Int)≤(xs.length:Int):=by omega
 obtain⟨N,hN⟩:∃N,xs.length=N+1:=⟨xs.length-1,by omega⟩;have hN2:(xs.length:Int)-1=(N:Int):=by omega
 have HNN:=hid hN;clear hN;obtain⟨ad,rfl⟩:∃ad,a0=some ad:=by obtain⟨bz,oz,e,_⟩:=OrdD.at HX.out 0 (by omega);exact⟨_,e⟩
 have hmin:min (1:Int) (xs.length:Int)=1:=by omega
 clear h0;by_cases hcm:c0=1
 all_goals
  go_wp2
  go_loopw [17] (λi wr=>∃m:Nat,i = .int .i64 (m:Int)∧m≤N∧Hid (Below w.heap.size w wr)∧Hid (∀j (h:j+1<xs.length),j<m→xs[j].id<xs[j+1].id)) (λi _=>N-(intOf i).toNat)
  case atStart=>exact⟨0,rfl,by omega,HB1,hid (λj _ h=>by omega)⟩
  case round=>
   obtain⟨m,rfl,hm,HB,HP⟩:=hrel;obtain⟨n,hnm⟩:∃n,n=m+1:=⟨m+1,rfl⟩;by_cases hlt:m<N
   ·have hml:m<xs.length:=by have:=HNN.out;omega
    have hnl:n<xs.length:=by have:=HNN.out;omega
    obtain⟨b,o,he0,hF,hbl,g0,g1,g2,g3,g4,g5⟩:=OrdD.at (HX.out.pure HB.out) m hml;obtain rfl:=Option.some.inj he0;obtain⟨b',o',he',_,_,q0,q1,q2,q3,q4,q5⟩:=OrdD.at (HX.out.pure HB.out) n hnl;cases he';obtain⟨x,hx⟩:∃x,x=xs[m]:=⟨_,rfl⟩;obtain⟨y,hy⟩:∃y,y=xs[n]:=⟨_,rfl⟩;rw[← hx]at g0 g1 g2 g3 g4 g5;rw[← hy]at q0 q1 q2 q3 q4 q5;have HXX:=hid hx;have HYY:=hid hy;have HC:=hid (show ∀W,Below wr.heap.size wr W→Calls Tryz.prog 325 #[.agg #[.int .i64 x.id,.int .i64 x.acct,.int .i64 x.inst,.int .u8 x.side,.int .i64 x.price,.int .i64 x.left],.agg #[.int .i64 y.id,.int .i64 y.acct,.int .i64 y.inst,.int .u8 y.side,.int .i64 y.price,.int .i64 y.left]] W λe w'=>e = .returned (.int .i64 (qe x.id y.id))∧Below W.heap.size W w' from λW _=>rg W x y);have hi0:(0:Int)≤(m:Int):=by omega
    have hi1:(m:Int)<(xs.length:Int):=by omega
    have hi2:(n:Int)<(xs.length:Int):=by omega
    have hi4:wrap64 ((m:Int)+1)=(n:Int):=by unfold wrap64;omega
    have hi5:IntKind.i64.wrap ((m:Int)+1)=(n:Int):=by rw[IntKind.wrap_i64];omega
    have HNM:=hid hnm;clear hF hx hy hnm;obtain⟨c,hc⟩:∃c,c=qe x.id y.id:=⟨_,rfl⟩;rw[← hc]at HC;have HCL:=hid (show c<0↔x.id<y.id from by rw[hc];exact ql);clear hc;by_cases hc0:c<0
    ·have hc1:decide ((0:Int)≤c)=false:=by simpa using hc0
     have HLT:=hid (HCL.out.1 hc0)
     go_wp2_with fail
     go_region_held3 (λw'=>w'.cell? ⟨b,o+m*6,none⟩=some (.int .i64 x.id)∧w'.cell? ⟨b,o+m*6+1,none⟩=some (.int .i64 x.acct)∧w'.cell? ⟨b,o+m*6+2,none⟩=some (.int .i64 x.inst)∧w'.cell? ⟨b,o+m*6+3,none⟩=some (.int .u8 x.side)∧w'.cell? ⟨b,o+m*6+4,none⟩=some (.int .i64 x.price)∧w'.cell? ⟨b,o+m*6+5,none⟩=some (.int .i64 x.left)∧w'.cell? ⟨b,o+n*6,none⟩=some (.int .i64 y.id)∧w'.cell? ⟨b,o+n*6+1,none⟩=some (.int .i64 y.acct)∧w'.cell? ⟨b,o+n*6+2,none⟩=some (.int .i64 y.inst)∧w'.cell? ⟨b,o+n*6+3,none⟩=some (.int .u8 y.side)∧w'.cell? ⟨b,o+n*6+4,none⟩=some (.int .i64 y.price)∧w'.cell? ⟨b,o+n*6+5,none⟩=some (.int .i64 y.left)) (first|exact⟨g0,g1,g2,g3,g4,g5,q0,q1,q2,q3,q4,q5⟩|exact⟨(hb6.cell (p:=⟨b,_,none⟩) hbl).trans g0,(hb6.cell (p:=⟨b,_,none⟩) hbl).trans g1,(hb6.cell (p:=⟨b,_,none⟩) hbl).trans g2,(hb6.cell (p:=⟨b,_,none⟩) hbl).trans g3,(hb6.cell (p:=⟨b,_,none⟩) hbl).trans g4,(hb6.cell (p:=⟨b,_,none⟩) hbl).trans g5,(hb6.cell (p:=⟨b,_,none⟩) hbl).trans q0,(hb6.cell (p:=⟨b,_,none⟩) hbl).trans q1,(hb6.cell (p:=⟨b,_,none⟩) hbl).trans q2,(hb6.cell (p:=⟨b,_,none⟩) hbl).trans q3,(hb6.cell (p:=⟨b,_,none⟩) hbl).trans q4,(hb6.cell (p:=⟨b,_,none⟩) hbl).trans q5⟩|go_keep) (first
      | (refine(HC.out _ (by first|exact Below.refl _ _|exact(Below.refl _ _).drew|assumption)).mono ?_;rintro e w5 ⟨rfl,hb5⟩;have hb6:Below wr.heap.size wr w5:=(by first|exact hb5|exact(Below.refl _ _).drew.trans (hb5.mono (by simp)));have HB5:=hid (HB.out.trans (hb6.mono HB.out.size));clear hb5))
     have hi3:(m:Int)+1=(n:Int):=by have:=HNM.out;omega
     clear hi4 hi5;go_wp2
     go_roundw
     case rel=>
      refine⟨n,by go_num,by have:=HNM.out;omega,HB5,hid (λj hj hjn=>?_)⟩;by_cases hjm:j=m
      ·subst hjm
       have h1:=HLT.out;have h9:=HNM.out;subst h9;rw[HXX.out,HYY.out]at h1;exact h1
      ·exact HP.out j hj (by have:=HNM.out;omega)
     case measure=>have:=HNM.out;simp[intOf];omega
    ·have hc1:decide ((0:Int)≤c)=true:=by simpa using hc0
     have hno:¬jD xs:=λh=>hc0 (HCL.out.2 (by
      have h9:=HNM.out;subst h9;rw[HXX.out,HYY.out];exact h.2.2 m hnl))
     have HNO:=hid hno;clear hno
     go_wp2_with fail
     go_region_held3 (λw'=>w'.cell? ⟨b,o+m*6,none⟩=some (.int .i64 x.id)∧w'.cell? ⟨b,o+m*6+1,none⟩=some (.int .i64 x.acct)∧w'.cell? ⟨b,o+m*6+2,none⟩=some (.int .i64 x.inst)∧w'.cell? ⟨b,o+m*6+3,none⟩=some (.int .u8 x.side)∧w'.cell? ⟨b,o+m*6+4,none⟩=some (.int .i64 x.price)∧w'.cell? ⟨b,o+m*6+5,none⟩=some (.int .i64 x.left)∧w'.cell? ⟨b,o+n*6,none⟩=some (.int .i64 y.id)∧w'.cell? ⟨b,o+n*6+1,none⟩=some (.int .i64 y.acct)∧w'.cell? ⟨b,o+n*6+2,none⟩=some (.int .i64 y.inst)∧w'.cell? ⟨b,o+n*6+3,none⟩=some (.int .u8 y.side)∧w'.cell? ⟨b,o+n*6+4,none⟩=some (.int .i64 y.price)∧w'.cell? ⟨b,o+n*6+5,none⟩=some (.int .i64 y.left)) (first|exact⟨g0,g1,g2,g3,g4,g5,q0,q1,q2,q3,q4,q5⟩|exact⟨(hb6.cell (p:=⟨b,_,none⟩) hbl).trans g0,(hb6.cell (p:=⟨b,_,none⟩) hbl).trans g1,(hb6.cell (p:=⟨b,_,none⟩) hbl).trans g2,(hb6.cell (p:=⟨b,_,none⟩) hbl).trans g3,(hb6.cell (p:=⟨b,_,none⟩) hbl).trans g4,(hb6.cell (p:=⟨b,_,none⟩) hbl).trans g5,(hb6.cell (p:=⟨b,_,none⟩) hbl).trans q0,(hb6.cell (p:=⟨b,_,none⟩) hbl).trans q1,(hb6.cell (p:=⟨b,_,none⟩) hbl).trans q2,(hb6.cell (p:=⟨b,_,none⟩) hbl).trans q3,(hb6.cell (p:=⟨b,_,none⟩) hbl).trans q4,(hb6.cell (p:=⟨b,_,none⟩) hbl).trans q5⟩|go_keep) (first
      | (refine(HC.out _ (by first|exact Below.refl _ _|exact(Below.refl _ _).drew|assumption)).mono ?_;rintro e w5 ⟨rfl,hb5⟩;have hb6:Below wr.heap.size wr w5:=(by first|exact hb5|exact(Below.refl _ _).drew.trans (hb5.mono (by simp)));have HB5:=hid (HB.out.trans (hb6.mono HB.out.size));clear hb5))
     go_wp2;go_ret;exact⟨TB.no HNO.out,HB5.out⟩
   ·have HY:=hid (show jD xs from⟨by omega,HALL.out,λj hj=>HP.out j hj (by have:=HNN.out;omega)⟩)
    go_wp2;go_ret;exact⟨TB.yes HY.out,HB.out⟩
structure StBox (F:Nat→Prop) (w:World) (B:Nat) (v:StV) (s:StD):Prop where
 cell:w.heap[B]?=some (.cells (jc s v) 29 (0,0))
 at_:StAt F w v s
 la:s.accts.length≤4398046511104
 li:s.insts.length≤4398046511104
theorem StBox.pure {F:Nat→Prop}{w w':World}{B:Nat}{v:StV}{s:StD}(h:StBox F w B v s)(hb:Below w.heap.size w w'):StBox F w' B v s:=⟨(hb.block _ (lt_of_block h.cell)).trans h.cell,h.at_.pure hb,h.la,h.li⟩
theorem StBox.cs {F:Nat→Prop}{w:World}{B:Nat}{v:StV}{s:StD}(h:StBox F w B v s)(j:Nat)(x:Value)(hx:(jc s v)[j]?=some x):w.cell? ⟨B,j,none⟩=some x:=(cell_of_row _ _ _ _ _ _ h.cell).trans hx
set_option maxRecDepth 100000 in
theorem ru (F:Nat→Prop)(w:World)(B:Nat)(v:StV)(s:StD)(h:StBox F w B v s)(r:RowD) :
  Calls Tryz.prog 283 #[r.agg,.pointer (some ⟨B,0,none⟩)] w λe w'=>TB (¬jz s r) e∧Below w.heap.size w w':=by
 have HO:=hid (λW (hb:Below w.heap.size w W)=>kk F W v s (h.at_.pure hb) h.la r.acct);obtain⟨va,vi,vr,vo,vu⟩:=v;obtain⟨a0,c0,he⟩:=h.at_.i.shape;dsimp only at he;subst he;have H:=hid h;clear h;unfold RowD.agg;unfold jc at HO
 (try dsimp only at HO)
 have x0:w.cell? ⟨B,0,none⟩=some (.int .i64 s.clock):=H.out.cs 0 _ rfl;have x1:w.cell? ⟨B,1,none⟩=some (.int .i64 s.fee):=H.out.cs 1 _ rfl;have x2:w.cell? ⟨B,2,none⟩=some (.int .i64 s.nextO):=H.out.cs 2 _ rfl;have x3:w.cell? ⟨B,3,none⟩=some (.int .i64 s.nextA):=H.out.cs 3 _ rfl;have x4:w.cell? ⟨B,4,none⟩=some va:=H.out.cs 4 _ rfl;have x5:w.cell? ⟨B,5,none⟩=some (.slice a0 s.insts.length c0):=H.out.cs 5 _ rfl;have x6:w.cell? ⟨B,6,none⟩=some vr:=H.out.cs 6 _ rfl;have x7:w.cell? ⟨B,7,none⟩=some vo:=H.out.cs 7 _ rfl;have x8:w.cell? ⟨B,8,none⟩=some vu:=H.out.cs 8 _ rfl;have hBl:B<w.heap.size:=aA x0;by_cases hA:(s.insts.length:Int)<r.asset
 case pos=>
  have hno:¬jz s r:=λk=>by have:=k.2;omega
  have HNO:=hid hno;clear hno;by_cases h0:r.acct=0
  ·have q0:(r.acct != 0)=false:=by simp[h0]
   go_enter Tryz.func283,Tryz.ntmps283
   go_wp2;go_ret;exact⟨TB.yes HNO.out,ke _ _⟩
  ·have q0:(r.acct != 0)=true:=by simp[h0]
   go_enter Tryz.func283,Tryz.ntmps283
   go_wp2_with fail
   refine(HO.out _ (ke _ _)).mono ?_;rintro e w1 ⟨⟨b,hb,rfl⟩,hb1⟩;have HB:=hid (kc hb1);have y1:=ka hb1 1 _ rfl;have y5:=(HB.out.cell (p:=⟨B,5,none⟩) hBl).trans x5;clear hb1 hb;cases b<;>(go_wp2;go_ret;exact⟨TB.yes HNO.out,HB.out⟩)
 case neg=>
  by_cases h0:r.acct=0
  ·have q0:(r.acct != 0)=false:=by simp[h0]
   have HY:=hid (show jz s r from⟨.inl h0,by omega⟩)
   go_enter Tryz.func283,Tryz.ntmps283
   go_wp2;go_ret;exact⟨TB.no (not_not_intro HY.out),ke _ _⟩
  ·have q0:(r.acct != 0)=true:=by simp[h0]
   go_enter Tryz.func283,Tryz.ntmps283
   go_wp2_with fail
   refine(HO.out _ (ke _ _)).mono ?_;rintro e w1 ⟨⟨b,hb,rfl⟩,hb1⟩;have HB:=hid (kc hb1);have HX:=hid hb;have y1:=ka hb1 1 _ rfl;have y5:=(HB.out.cell (p:=⟨B,5,none⟩) hBl).trans x5;clear hb1 hb;cases b
   ·have hno:¬jz s r:=λh=>by
     rcases h.1 with h|h
     ·exact h0 h
     ·have:=HX.out.2 h;cases this
    have HNO:=hid hno;clear hno;go_wp2;go_ret;exact⟨TB.yes HNO.out,HB.out⟩
   ·have HY:=hid (show jz s r from⟨.inr (HX.out.1 (by first|rfl|trivial)),by omega⟩)
    have hD:decide ((s.insts.length:Int)<r.asset)=false:=by simpa using hA
    go_wp2;go_ret;exact⟨TB.no (not_not_intro HY.out),HB.out⟩
set_option maxRecDepth 100000 in
theorem rv (F:Nat→Prop)(w:World)(v:StV)(s:StD)(h:StAt F w v s)(la:s.accts.length≤4398046511104)(li:s.insts.length≤4398046511104)(lr:s.rows.length≤4398046511104)(hin:qW s.rows) :
  Calls Tryz.prog 259 #[.agg (jc s v)] w λe w'=>TB (jA s) e∧Below w.heap.size w w':=by
 obtain⟨B,hB⟩:∃B,B=w.heap.size:=⟨_,rfl⟩;have hbox:StBox F (w.alloc (.cells (jc s v) 29)) B v s:=⟨by rw[hB];exact heap_alloc_new _ _,h.pure (ke _ _),la,li⟩;have HBX:=hid hbox;have HL:=hid (qY F (w.alloc (.cells (jc s v) 29)) v.r s.rows hbox.at_.r lr hin);have HCT:=hid (λW (hb:Below (w.alloc (.cells (jc s v) 29)).heap.size (w.alloc (.cells (jc s v) 29)) W)=>nf W F v.r s.rows ((hbox.pure hb).at_.r) lr 283 (.pointer (some ⟨B,0,none⟩)) (enters_of Tryz.func283 (by kernel_rfl) rfl) (λr=>tf (¬jz s r)) (λW2 k hk hb2=>(ru F W2 B v s ((hbox.pure hb).pure hb2) s.rows[k]).mono (by rintro e w' ⟨h1,h2⟩;exact⟨h1.tf,h2⟩)));have HBB:=hid hB;have hmf:∀(fn:Fn) (first cap:Array Value) (w:World),(Instr.makeFunc fn first cap).run Tryz.prog w = .ok (.func fn first cap) w:=λ_ _ _ _=>rfl;have hgo:∀C,C=jc s v→Calls Tryz.prog 259 #[.agg C] w λe w'=>TB (jA s) e∧Below w.heap.size w w':=by
  intro C hC;rw[← hC]at HL HCT;clear hbox h HBX;obtain⟨va,vi,vr,vo,vu⟩:=v;unfold jc at hC;dsimp only at hC HL HCT;subst hC
  go_enter Tryz.func259,Tryz.ntmps259
  go_wp2_with fail
  refine HL.out.mono ?_;rintro e w1 ⟨⟨b,hb,rfl⟩,hb1⟩;have HX:=hid hb;have HB1:=hid hb1;have HB:=hid (kc hb1);have c6:=ka hb1 6 _ rfl;clear hb hb1;cases b
  ·have hno:¬jA s:=λh=>by have:=HX.out.2 h.1;cases this
   have HNO:=hid hno;clear hno;go_wp2;go_ret;exact⟨TB.no HNO.out,HB.out⟩
  ·have HCC:=hid (HCT.out w1 HB1.out)
   have HE:=HBB.out;subst HE
   go_wp2_with fail
   refine HCC.out.mono ?_;rintro e w2 ⟨rfl,hb2⟩;have HB2:=hid (kd HB.out hb2);clear hb2;cases hany:s.rows.any (λr=>tf (¬jz s r))
   ·have HY:=hid (show jA s from⟨HX.out.1 (by first|rfl|trivial),Classical.byContradiction λh=>by have:=rr.2 h;rw[hany]at this;cases this⟩)
    clear hany;go_wp2;go_ret;exact⟨TB.yes HY.out,HB2.out⟩
   ·have hno:¬jA s:=λh=>rr.1 hany h.2
    have HNO:=hid hno;clear hno hany;go_wp2;go_ret;exact⟨TB.no HNO.out,HB2.out⟩
 exact hgo _ rfl
end
end Go.Proofs.YtaeakdichkhjaaaGreatDoor
