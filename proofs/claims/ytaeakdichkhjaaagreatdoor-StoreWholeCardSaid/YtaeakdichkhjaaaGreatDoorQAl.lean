/- The walks of snap.Read and Open, at an empty market's snapshot. -/
import Derived.Test.YtaeakdichkhjaaaGreatDoorQAk
import Derived.Test.YtaeakdichkhjaaaGreatDoorChecked
import Derived.Laws.EntriesVeiled
import Derived.Shelf.Abstract
import Derived.Test.YtaeakdichkhjaaaGreatDoorQAi
set_option maxHeartbeats 4000000
open Go.Lib(hid)
namespace Go.Proofs.YtaeakdichkhjaaaGreatDoor
section
open Go.RowKit
noncomputable def tf (p:Prop):Bool:=@decide p (Classical.propDecidable p)
theorem kz {p:Prop}(h:p):tf p=true:=@decide_eq_true p (Classical.propDecidable p) h
theorem kA {p:Prop}(h:¬p):tf p=false:=@decide_eq_false p (Classical.propDecidable p) h
theorem tf_iff {p:Prop}:tf p=true↔p:=⟨@of_decide_eq_true p (Classical.propDecidable p),kz⟩
theorem kB {p q:Prop}(h:p↔q):tf p=tf q:=by rw[show p=q from propext h]
theorem kC {p:Prop}{b:Bool}(h:b=true↔p):tf p=b:=by
 cases b
 ·exact kA (λhp=>by have:=h.2 hp;cases this)
 ·exact kz (h.1 rfl)
def kD (n l h:Int):Prop:=l≤n∧n≤h
def kE (c:UInt8):Prop:=(97≤c.toNat∧c.toNat≤122)∨(48≤c.toNat∧c.toNat≤57)∨c.toNat=45∨c.toNat=95
def kF (l:List UInt8):Prop:=(∀c∈l,kE c)∧1≤l.length∧l.length≤24
def kG (l:List (List UInt8)):Prop:=(∀s∈l,kF s)∧l.Nodup
def kH (s:StD):Prop:=kD s.clock 0 1099511627776∧kD s.fee 0 1000∧kD s.nextO 1 1099511627777∧kD s.nextA 1 1099511627777
def kI (s:StD):Prop:=s.accts.length≤64∧kG (s.accts.map (·.name))
def kJ (s:StD):Prop:=(∀x∈s.insts,kD x.tick 1 1073741824)∧s.insts.length≤16∧kG (s.insts.map (·.name))
def kK (l:List AccD)(a:Int):Prop:=1≤a∧∃x,l[(a-1).toNat]?=some x∧x.opn=true
def kL (l:List InsD)(i:Int)(x:InsD):Prop:=1≤i∧l[(i-1).toNat]?=some x
def kM (l:List InsD)(i:Int):Prop:=1≤i∧i≤l.length
def kN (t:Int):Int×Int:=if t≤4611686018427387904 ∧ -4611686018427387904≤t then (t,0) else (0,41)
def kO (a x:Int):Prop:=0≤a∧a≤64∧0≤x∧x≤16
def kP (a x b y:Int):Prop:=a<b∨(a=b∧x<y)
def kQ (r:RowD):Prop:=r.acct=0∨(0≤r.free∧0≤r.held∧r.free≤1125899906842624∧r.held≤1125899906842624∧r.free+r.held≤1125899906842624)
def kR (a x:Int)(r:RowD):Prop:=kO r.acct r.asset∧kP a x r.acct r.asset∧kQ r∧¬(r.free=0∧r.held=0)∧¬(r.acct=0∧(r.held≠0∨0<r.free))
def upd (f:Int→Int)(j n:Int):Int→Int:=λi=>if i=j then n else f i
def kS:Int→Int→(Int→Int)→List RowD→Prop
 | _,_,f,[]=>∀j,0≤j→j≤16→f j=0
 | a,x,f,r::t=>kR a x r∧(kN (f r.asset+r.free+r.held)).2=0∧kS r.acct r.asset (upd f r.asset (f r.asset+r.free+r.held)) t
def kT (l:List RowD):Prop:=kS (-1) 0 (λ_=>0) l
def kU (s:StD)(r:RowD):Prop:=(r.acct=0∨kK s.accts r.acct)∧r.asset≤s.insts.length
def kV (s:StD):Prop:=kT s.rows∧∀r∈s.rows,kU s r
def kW (o:OrdD):Prop:=kD o.id 1 1099511627776∧kD o.acct 1 64∧kD o.inst 1 16∧(o.side=1∨o.side=2)∧kD o.price 1 1073741824∧kD o.left 1 1048576
def kX {α:Type}(lt:α→α→Prop)(l:List α):Prop:=∀i (h:i+1<l.length),lt l[i] l[i+1]
def kY (l:List OrdD):Prop:=l.length≤128∧(∀o∈l,kW o)∧kX (λa b=>a.id<b.id) l
def kZ (s:StD)(o:OrdD):Prop:=o.id<s.nextO∧kK s.accts o.acct∧∃x,kL s.insts o.inst x∧o.price.tmod x.tick=0
def lc (s:StD):Prop:=kY s.ords∧∀o∈s.ords,kZ s o
def ld (seller:Int)(l:List BidD):Prop:=∀i (h:i<l.length),kD l[i].acct 1 64∧l[i].acct≠seller∧kD l[i].amount 1 1125899906842624∧∀j (hj:j<i),l[j].acct≠l[i].acct
def lh (a:AucD):Prop:=if a.sealed then a.step=0∧a.bids.length≤16 else kD a.step 1 1125899906842624∧a.bids.length≤1∧∀b∈a.bids,a.reserve≤b.amount
def lj (a:AucD):Prop:=kD a.id 1 1099511627776∧kD a.seller 1 64∧kD a.inst 1 16∧kD a.qty 1 1048576∧kD a.reserve 1 1125899906842624∧kD a.fin 1 1099511627776∧lh a∧ld a.seller a.bids
def lk:Int→List AucD→Prop
 | _,[]=>True
 | last,a::t=>last<a.id∧lj a∧lk a.id t
def lm (l:List AucD):Prop:=lk 0 l∧l.length≤32
def lq (s:StD)(a:AucD):Prop:=a.id<s.nextA∧kK s.accts a.seller∧kM s.insts a.inst∧∀b∈a.bids,kK s.accts b.acct
def lw (s:StD):Prop:=lm s.aucs∧∀a∈s.aucs,lq s a
abbrev NMap (κ:Type):=List (κ×Int)
section
variable {κ:Type} [DecidableEq κ]
def ly (m:NMap κ)(k:κ):Int:=((m.find? λe=>e.1 == k).map (·.2)).getD 0
def lA (m:NMap κ)(k:κ)(n:Int):NMap κ:=if (m.any λe=>e.1 == k) then m.map (λe=>if e.1 == k then (k,n) else e) else m++[(k,n)]
def lC (m:NMap κ)(k:κ):NMap κ:=m.filter λe=>!(e.1 == k)
end
abbrev PMap:=NMap (Int×Int)
abbrev IMap:=NMap Int
def lD (o:OrdD):List ((Int×Int)×Int):=if o.side=1 then [((o.acct,0),o.price*o.left)] else [((o.acct,o.inst),o.left)]
def lE (a:AucD):List ((Int×Int)×Int):=((a.seller,a.inst),a.qty)::a.bids.map λb=>((b.acct,0),b.amount)
def lF (s:StD):List ((Int×Int)×Int):=s.ords.flatMap lD++s.aucs.flatMap lE
def lG (l:List ((Int×Int)×Int)):PMap:=l.foldl (λm e=>lA m e.1 (wrap64 (ly m e.1+e.2))) []
def lH:PMap→List RowD→Prop
 | m,[]=>m=[]
 | m,r::t=>ly m (r.acct,r.asset)=r.held∧lH (lC m (r.acct,r.asset)) t
def lI (s:StD):Prop:=lH (lG (lF s)) s.rows
def lJ (s:StD):Prop:=kH s∧kI s∧kJ s∧kV s∧lc s∧lw s∧lI s
def lK (o:OpnD):Prop:=kD o.acct 1 64∧kD o.id 1 1099511627776∧kD o.inst 1 16∧(o.side=1∨o.side=2)∧kD o.price 1 1073741824∧kD o.left 1 1048576
def lL (l:LotD):Prop:=kD l.id 1 1099511627776∧kD l.seller 1 64∧kD l.inst 1 16∧kD l.qty 1 1048576
def lM (l:List OpnD)(m:List LotD):Prop:=l.length≤128∧m.length≤32∧kX (λa b=>kP a.acct a.id b.acct b.id) l∧kX (λa b=>a.id<b.id) m∧(∀o∈l,lK o)∧(l.map (·.id)).Nodup∧∀x∈m,lL x
def lN (n:Int):Prop:=0≤n∧n≤4611686018427387904
def lO (p:PosD):Prop:=kD p.acct 1 64∧kD p.inst 1 16∧lN p.bought∧lN p.sold∧lN p.spent∧lN p.got∧¬(p.bought=0∧p.sold=0)
def lP (l:List PosD):Prop:=(∀p∈l,lO p)∧kX (λa b=>kP a.acct a.inst b.acct b.inst) l
def lQ (m:IMap)(seq:Int)(x:LinD):Prop:=kD x.acct 1 64∧(0≤x.seq∧x.seq<1048576)∧seq≤x.seq∧(x.kind=6∨x.kind=7∨x.kind=13∨x.kind=18∨x.kind=21)∧x.delta≠0∧(0≤x.balance∧x.balance≤1125899906842624)∧ly m x.acct+x.delta=x.balance
def lR:IMap→Int→List LinD→Prop
 | _,_,[]=>True
 | m,seq,x::t=>lQ m seq x∧lR (lA m x.acct x.balance) x.seq t
def lS (l:List LinD):Prop:=lR [] 0 l
def lT (v:VwD):Prop:=lM v.open_ v.lots∧lP v.poss∧lS v.lins
end
section
open Go.RowKit
def TB (P:Prop)(e:Ending):Prop:=∃b:Bool,(b=true↔P)∧e = .returned (.bool b)
theorem TB.yes {P:Prop}(h:P):TB P (.returned (.bool true)):=⟨true,by simp[h],rfl⟩
theorem TB.no {P:Prop}(h:¬P):TB P (.returned (.bool false)):=⟨false,by simp[h],rfl⟩
theorem TB.tf {P:Prop}{e:Ending}(h:TB P e):e = .returned (.bool (tf P)):=by
 obtain⟨b,hb,rfl⟩:=h;rw[kC hb]
theorem TB.iff {P Q:Prop}{e:Ending}(h:TB P e)(hpq:P↔Q):TB Q e:=by
 obtain⟨b,hb,rfl⟩:=h;exact⟨b,hb.trans hpq,rfl⟩
theorem TB.pos {P:Prop}{e:Ending}(hp:P)(h:TB P e):e = .returned (.bool true):=by rw[h.tf,kz hp]
theorem TB.neg {P:Prop}{e:Ending}(hp:¬P)(h:TB P e):e = .returned (.bool false):=by rw[h.tf,kA hp]
theorem lU {w w1:World}{C:Array Value}{T:TypeId}(hb:Below (w.alloc (.cells C T)).heap.size (w.alloc (.cells C T)) w1)(j:Nat)(v:Value)(h:C[j]?=some v):w1.cell? ⟨w.heap.size,j,none⟩=some v:=by
 rw[hb.cell (by simp),World.cell?_alloc_at _ _ _ _ rfl];exact h
theorem lV {w w1:World}{o:Obj}(hb:Below (w.alloc o).heap.size (w.alloc o) w1):Below w.heap.size w w1:=((Below.refl _ _).alloc (Nat.le_refl _) _).trans (hb.mono (by simp))
theorem lW {a b c:World}(h:Below a.heap.size a b)(k:Below b.heap.size b c):Below a.heap.size a c:=h.trans (k.mono h.size)
theorem lX (w:World)(o:Obj):Below w.heap.size w (w.alloc o):=(Below.refl _ _).alloc (Nat.le_refl _) _
theorem lY (w:World)(n l h:Int):Calls Tryz.prog 281 #[.int .i64 n,.int .i64 l,.int .i64 h] w λe w'=>TB (kD n l h) e∧w=w':=by
 by_cases h0:l≤n
 ·by_cases h1:n≤h
  ·go_enter Tryz.func281,Tryz.ntmps281
   go_wp2;go_ret;exact⟨TB.yes ⟨h0,h1⟩,rfl⟩
  ·go_enter Tryz.func281,Tryz.ntmps281
   go_wp2;go_ret;exact⟨TB.no (by unfold kD;omega),rfl⟩
 ·go_enter Tryz.func281,Tryz.ntmps281
  go_wp2;go_ret;exact⟨TB.no (by unfold kD;omega),rfl⟩
theorem lZ (w:World)(n:Int):Calls Tryz.prog 280 #[.int .i64 n] w λe w'=>TB (kD n 1 1099511627777) e∧w=w':=by
 go_enter Tryz.func280,Tryz.ntmps280
 go_wp2_with fail
 refine(lY w n 1 1099511627777).mono ?_;rintro e w1 ⟨⟨b,hb,rfl⟩,rfl⟩;go_wp2;go_ret;exact⟨⟨b,hb,rfl⟩,rfl⟩
set_option maxRecDepth 100000 in
theorem ma (w:World)(v:StV)(s:StD):Calls Tryz.prog 256 #[.agg (kw s v)] w λe w'=>TB (kH s) e∧Below w.heap.size w w':=by
 unfold kw;have hmf:∀(fn:Fn) (first cap:Array Value) (w:World),(Instr.makeFunc fn first cap).run Tryz.prog w = .ok (.func fn first cap) w:=λ_ _ _ _=>rfl;have he:∀(args:Array Value) (w:World),(callFunc 280 args).run Tryz.prog w = .ok (.enter 280 args) w:=enters_of Tryz.func280 (by kernel_rfl) rfl
 go_enter Tryz.func256,Tryz.ntmps256
 go_wp2_with fail
 refine(lY _ s.clock 0 1099511627776).mono ?_;rintro e w1 ⟨⟨b1,hb1,rfl⟩,rfl⟩;have HX:=hid hb1;clear hb1;cases b1
 ·go_wp2
  go_ret;exact⟨TB.no (λh=>by have:=HX.out.2 h.1;cases this),(Below.refl _ _).alloc (Nat.le_refl _) _⟩
 have HB1:=hid (HX.out.1 rfl);clear HX
 go_wp2_with fail
 refine(lY _ s.fee 0 1000).mono ?_;rintro e w1 ⟨⟨b1,hb1,rfl⟩,rfl⟩;have HX:=hid hb1;clear hb1;cases b1
 ·go_wp2
  go_ret;exact⟨TB.no (λh=>by have:=HX.out.2 h.2.1;cases this),(Below.refl _ _).alloc (Nat.le_refl _) _⟩
 have HB2:=hid (HX.out.1 rfl);clear HX
 go_wp2_with fail
 refine(lZ _ s.nextO).mono ?_;rintro e w1 ⟨⟨b1,hb1,rfl⟩,rfl⟩;have HX:=hid hb1;clear hb1;cases b1
 ·go_wp2
  go_ret;exact⟨TB.no (λh=>by have:=HX.out.2 h.2.2.1;cases this),(Below.refl _ _).alloc (Nat.le_refl _) _⟩
 have HB3:=hid (HX.out.1 rfl);clear HX
 go_wp2_with fail
 refine(lZ _ s.nextA).mono ?_;rintro e w1 ⟨⟨b1,hb1,rfl⟩,rfl⟩;have HX:=hid hb1;clear hb1;go_wp2;go_ret;exact⟨⟨b1,HX.out.trans ⟨λh=>⟨HB1.out,HB2.out,HB3.out,h⟩,λh=>h.2.2.2⟩,rfl⟩,(Below.refl _ _).alloc (Nat.le_refl _) _⟩
def mc (l:List AccD)(a:Int)(e:Ending):Prop:=(kK l a∧∃x,x∈l∧e = .returned (.tuple #[x.agg,.bool true]))∨(¬kK l a∧e = .returned (.tuple #[.agg #[.string ⟨#[]⟩,.bool false],.bool false]))
set_option maxRecDepth 100000 in
theorem me (F:Nat→Prop)(w:World)(v:StV)(s:StD)(h:StAt F w v s)(hlen:s.accts.length≤4398046511104)(a:Int) :
  Calls Tryz.prog 318 #[.agg (kw s v),.int .i64 a] w λe w'=>mc s.accts a e∧Below w.heap.size w w':=by
 obtain⟨va,vi,vr,vo,vu⟩:=v;obtain⟨a0,c0,he⟩:=h.a.shape;dsimp only at he;subst he;have HA:=hid h.a;clear h;unfold kw;dsimp only;by_cases h1:1≤a
 ·obtain⟨k,rfl⟩:∃k:Nat,a=(k:Int)+1:=⟨(a-1).toNat,by omega⟩
  by_cases h2:k<s.accts.length
  ·obtain⟨b,o,rfl,hF,hbl,g0,g1⟩:=AccD.at HA.out k h2
   have hix:s.accts[((k:Int)+1-1).toNat]?=some s.accts[k]:=by rw[show((k:Int)+1-1).toNat=k from by omega,List.getElem?_eq_getElem h2]
   have HIX:=hid hix;clear hF hix;obtain⟨bo,hbo⟩:∃bo,bo=s.accts[k].opn:=⟨_,rfl⟩;rw[← hbo]at g1;have HBO:=hid hbo;clear hbo;cases bo
   ·go_enter Tryz.func318,Tryz.ntmps318
    go_wp2;refine bodyPost_ret (v:=.tuple #[.agg #[.string ⟨#[]⟩,.bool false],.bool false]) (by simp[results,Tryz.results318,go_sem]) rfl ?_;exact⟨.inr ⟨λ⟨_,x,hx,hxo⟩=>(by rw[HIX.out]at hx;cases hx;rw[← HBO.out]at hxo;cases hxo),rfl⟩,(by repeat (first|exact Below.refl _ _|exact HB.out|refine Below.drew ?_|refine Below.alloc ?_ (by first|exact Nat.le_refl _|exact HB.out.size|(simp;done)|(simp;omega)|omega|(have:=HB.out.size;simp;omega)) _|refine Below.setCell ?_ (by first|exact Nat.le_refl _|exact HB.out.size|(simp;done)|(simp;omega)|omega|(have:=HB.out.size;simp;omega)) _))⟩
   ·go_enter Tryz.func318,Tryz.ntmps318
    go_wp2;refine bodyPost_ret (v:=.tuple #[.agg #[.string ⟨s.accts[k].name.toArray⟩,.bool true],.bool true]) (by simp[results,Tryz.results318,go_sem]) rfl ?_;exact⟨.inl ⟨⟨by omega,_,HIX.out,HBO.out.symm⟩,s.accts[k],List.getElem_mem h2,by unfold AccD.agg;rw[← HBO.out]⟩,(by repeat (first|exact Below.refl _ _|exact HB.out|refine Below.drew ?_|refine Below.alloc ?_ (by first|exact Nat.le_refl _|exact HB.out.size|(simp;done)|(simp;omega)|omega|(have:=HB.out.size;simp;omega)) _|refine Below.setCell ?_ (by first|exact Nat.le_refl _|exact HB.out.size|(simp;done)|(simp;omega)|omega|(have:=HB.out.size;simp;omega)) _))⟩
  ·go_enter Tryz.func318,Tryz.ntmps318
   go_wp2;refine bodyPost_ret (v:=.tuple #[.agg #[.string ⟨#[]⟩,.bool false],.bool false]) (by simp[results,Tryz.results318,go_sem]) rfl ?_;exact⟨.inr ⟨λ⟨_,x,hx,_⟩=>(by have:=(List.getElem?_eq_some_iff.1 hx).1;omega),rfl⟩,(by repeat (first|exact Below.refl _ _|exact HB.out|refine Below.drew ?_|refine Below.alloc ?_ (by first|exact Nat.le_refl _|exact HB.out.size|(simp;done)|(simp;omega)|omega|(have:=HB.out.size;simp;omega)) _|refine Below.setCell ?_ (by first|exact Nat.le_refl _|exact HB.out.size|(simp;done)|(simp;omega)|omega|(have:=HB.out.size;simp;omega)) _))⟩
 ·go_enter Tryz.func318,Tryz.ntmps318
  go_wp2;refine bodyPost_ret (v:=.tuple #[.agg #[.string ⟨#[]⟩,.bool false],.bool false]) (by simp[results,Tryz.results318,go_sem]) rfl ?_;exact⟨.inr ⟨λh=>(by have:=h.1;omega),rfl⟩,(by repeat (first|exact Below.refl _ _|exact HB.out|refine Below.drew ?_|refine Below.alloc ?_ (by first|exact Nat.le_refl _|exact HB.out.size|(simp;done)|(simp;omega)|omega|(have:=HB.out.size;simp;omega)) _|refine Below.setCell ?_ (by first|exact Nat.le_refl _|exact HB.out.size|(simp;done)|(simp;omega)|omega|(have:=HB.out.size;simp;omega)) _))⟩
set_option maxRecDepth 100000 in
theorem mf (F:Nat→Prop)(w:World)(v:StV)(s:StD)(h:StAt F w v s)(hlen:s.accts.length≤4398046511104)(a:Int) :
  Calls Tryz.prog 284 #[.agg (kw s v),.int .i64 a] w λe w'=>TB (kK s.accts a) e∧Below w.heap.size w w':=by
 have HH:=hid h;clear h;unfold kw
 go_enter Tryz.func284,Tryz.ntmps284
 go_wp2_with fail
 refine(me F _ v s (HH.out.pure (lX _ _)) hlen a).mono ?_;rintro e w1 ⟨h1,hb1⟩;have HB:=hid (lV hb1)
 rcases h1 with⟨ho,x,hx,rfl⟩|⟨ho,rfl⟩
 ·clear hb1
  unfold AccD.agg;go_wp2;go_ret;exact⟨TB.yes ho,(by repeat (first|exact Below.refl _ _|exact HB.out|refine Below.drew ?_|refine Below.alloc ?_ (by first|exact Nat.le_refl _|exact HB.out.size|(simp;done)|(simp;omega)|omega|(have:=HB.out.size;simp;omega)) _|refine Below.setCell ?_ (by first|exact Nat.le_refl _|exact HB.out.size|(simp;done)|(simp;omega)|omega|(have:=HB.out.size;simp;omega)) _))⟩
 ·clear hb1
  go_wp2;go_ret;exact⟨TB.no ho,(by repeat (first|exact Below.refl _ _|exact HB.out|refine Below.drew ?_|refine Below.alloc ?_ (by first|exact Nat.le_refl _|exact HB.out.size|(simp;done)|(simp;omega)|omega|(have:=HB.out.size;simp;omega)) _|refine Below.setCell ?_ (by first|exact Nat.le_refl _|exact HB.out.size|(simp;done)|(simp;omega)|omega|(have:=HB.out.size;simp;omega)) _))⟩
def mg (l:List InsD)(i:Int)(e:Ending):Prop:=(∃x,kL l i x∧e = .returned (.tuple #[x.agg,.bool true]))∨(¬kM l i∧e = .returned (.tuple #[.agg #[.string ⟨#[]⟩,.int .i64 0,.bool false],.bool false]))
theorem mh {l:List InsD}{i:Int}{x:InsD}(h:kL l i x):kM l i:=⟨h.1,by have:=(List.getElem?_eq_some_iff.1 h.2).1;have:=h.1;omega⟩
set_option maxRecDepth 100000 in
theorem mi (F:Nat→Prop)(w:World)(v:StV)(s:StD)(h:StAt F w v s)(hlen:s.insts.length≤4398046511104)(a:Int) :
  Calls Tryz.prog 288 #[.agg (kw s v),.int .i64 a] w λe w'=>mg s.insts a e∧Below w.heap.size w w':=by
 obtain⟨va,vi,vr,vo,vu⟩:=v;obtain⟨a0,c0,he⟩:=h.i.shape;dsimp only at he;subst he;have HA:=hid h.i;clear h;unfold kw;dsimp only;by_cases h1:1≤a
 ·obtain⟨k,rfl⟩:∃k:Nat,a=(k:Int)+1:=⟨(a-1).toNat,by omega⟩
  by_cases h2:k<s.insts.length
  ·obtain⟨b,o,rfl,hF,hbl,g0,g1,g2⟩:=InsD.at HA.out k h2
   have hix:s.insts[((k:Int)+1-1).toNat]?=some s.insts[k]:=by rw[show((k:Int)+1-1).toNat=k from by omega,List.getElem?_eq_getElem h2]
   have HIX:=hid hix;clear hF hix
   go_enter Tryz.func288,Tryz.ntmps288
   go_wp2;refine bodyPost_ret (v:=.tuple #[.agg #[.string ⟨s.insts[k].name.toArray⟩,.int .i64 s.insts[k].tick,.bool s.insts[k].halt],.bool true]) (by simp[results,Tryz.results288,go_sem]) rfl ?_;exact⟨.inl ⟨s.insts[k],⟨by omega,HIX.out⟩,rfl⟩,(by repeat (first|exact Below.refl _ _|exact HB.out|refine Below.drew ?_|refine Below.alloc ?_ (by first|exact Nat.le_refl _|exact HB.out.size|(simp;done)|(simp;omega)|omega|(have:=HB.out.size;simp;omega)) _|refine Below.setCell ?_ (by first|exact Nat.le_refl _|exact HB.out.size|(simp;done)|(simp;omega)|omega|(have:=HB.out.size;simp;omega)) _))⟩
  ·go_enter Tryz.func288,Tryz.ntmps288
   go_wp2;refine bodyPost_ret (v:=.tuple #[.agg #[.string ⟨#[]⟩,.int .i64 0,.bool false],.bool false]) (by simp[results,Tryz.results288,go_sem]) rfl ?_;exact⟨.inr ⟨λh=>(by have:=h.2;omega),rfl⟩,(by repeat (first|exact Below.refl _ _|exact HB.out|refine Below.drew ?_|refine Below.alloc ?_ (by first|exact Nat.le_refl _|exact HB.out.size|(simp;done)|(simp;omega)|omega|(have:=HB.out.size;simp;omega)) _|refine Below.setCell ?_ (by first|exact Nat.le_refl _|exact HB.out.size|(simp;done)|(simp;omega)|omega|(have:=HB.out.size;simp;omega)) _))⟩
 ·go_enter Tryz.func288,Tryz.ntmps288
  go_wp2;refine bodyPost_ret (v:=.tuple #[.agg #[.string ⟨#[]⟩,.int .i64 0,.bool false],.bool false]) (by simp[results,Tryz.results288,go_sem]) rfl ?_;exact⟨.inr ⟨λh=>(by have:=h.1;omega),rfl⟩,(by repeat (first|exact Below.refl _ _|exact HB.out|refine Below.drew ?_|refine Below.alloc ?_ (by first|exact Nat.le_refl _|exact HB.out.size|(simp;done)|(simp;omega)|omega|(have:=HB.out.size;simp;omega)) _|refine Below.setCell ?_ (by first|exact Nat.le_refl _|exact HB.out.size|(simp;done)|(simp;omega)|omega|(have:=HB.out.size;simp;omega)) _))⟩
set_option maxRecDepth 100000 in
theorem mj (F:Nat→Prop)(w:World)(v:StV)(s:StD)(h:StAt F w v s)(hlen:s.insts.length≤4398046511104)(a:Int) :
  Calls Tryz.prog 293 #[.agg (kw s v),.int .i64 a] w λe w'=>TB (kM s.insts a) e∧Below w.heap.size w w':=by
 have HH:=hid h;clear h;unfold kw
 go_enter Tryz.func293,Tryz.ntmps293
 go_wp2_with fail
 refine(mi F _ v s (HH.out.pure (lX _ _)) hlen a).mono ?_;rintro e w1 ⟨h1,hb1⟩;have HB:=hid (lV hb1)
 rcases h1 with⟨x,hx,rfl⟩|⟨ho,rfl⟩
 ·clear hb1
  unfold InsD.agg;go_wp2;go_ret;exact⟨TB.yes (mh hx),(by repeat (first|exact Below.refl _ _|exact HB.out|refine Below.drew ?_|refine Below.alloc ?_ (by first|exact Nat.le_refl _|exact HB.out.size|(simp;done)|(simp;omega)|omega|(have:=HB.out.size;simp;omega)) _|refine Below.setCell ?_ (by first|exact Nat.le_refl _|exact HB.out.size|(simp;done)|(simp;omega)|omega|(have:=HB.out.size;simp;omega)) _))⟩
 ·clear hb1
  go_wp2;go_ret;exact⟨TB.no ho,(by repeat (first|exact Below.refl _ _|exact HB.out|refine Below.drew ?_|refine Below.alloc ?_ (by first|exact Nat.le_refl _|exact HB.out.size|(simp;done)|(simp;omega)|omega|(have:=HB.out.size;simp;omega)) _|refine Below.setCell ?_ (by first|exact Nat.le_refl _|exact HB.out.size|(simp;done)|(simp;omega)|omega|(have:=HB.out.size;simp;omega)) _))⟩
theorem ml {w:World}{b:Nat}{T:TypeId}{v0 v1 v2 v3 v4 v5 v6 v7 v8:Value}(h:w.heap[b]?=some (.cells #[v0,v1,v2,v3,v4,v5,v6,v7,v8] T (0,0))):w.cell? ⟨b,0,none⟩=some v0∧w.cell? ⟨b,1,none⟩=some v1∧w.cell? ⟨b,2,none⟩=some v2∧w.cell? ⟨b,3,none⟩=some v3∧w.cell? ⟨b,4,none⟩=some v4∧w.cell? ⟨b,5,none⟩=some v5∧w.cell? ⟨b,6,none⟩=some v6∧w.cell? ⟨b,7,none⟩=some v7∧w.cell? ⟨b,8,none⟩=some v8:=
 ⟨(cell_of_row _ _ _ _ _ _ h).trans rfl,(cell_of_row _ _ _ _ _ _ h).trans rfl,(cell_of_row _ _ _ _ _ _ h).trans rfl,(cell_of_row _ _ _ _ _ _ h).trans rfl,(cell_of_row _ _ _ _ _ _ h).trans rfl,(cell_of_row _ _ _ _ _ _ h).trans rfl,(cell_of_row _ _ _ _ _ _ h).trans rfl,(cell_of_row _ _ _ _ _ _ h).trans rfl,(cell_of_row _ _ _ _ _ _ h).trans rfl⟩
theorem mn {w:World}{b:Nat}{T:TypeId}{v0 v1 v2 v3 v4 v5 v6 v7 v8:Value}(h:w.heap[b]?=some (.cells #[v0,v1,v2,v3,v4,v5,v6,v7,v8] T (0,0))):w.cell? ⟨b,0,none⟩=some v0∧w.frozen? ⟨b,0,none⟩=false∧w.cell? ⟨b,1,none⟩=some v1∧w.frozen? ⟨b,1,none⟩=false∧w.cell? ⟨b,2,none⟩=some v2∧w.frozen? ⟨b,2,none⟩=false∧w.cell? ⟨b,3,none⟩=some v3∧w.frozen? ⟨b,3,none⟩=false∧w.cell? ⟨b,4,none⟩=some v4∧w.frozen? ⟨b,4,none⟩=false∧w.cell? ⟨b,5,none⟩=some v5∧w.frozen? ⟨b,5,none⟩=false∧w.cell? ⟨b,6,none⟩=some v6∧w.frozen? ⟨b,6,none⟩=false∧w.cell? ⟨b,7,none⟩=some v7∧w.frozen? ⟨b,7,none⟩=false∧w.cell? ⟨b,8,none⟩=some v8∧w.frozen? ⟨b,8,none⟩=false:=
 ⟨(cell_of_row _ _ _ _ _ _ h).trans rfl,frozen_of_row _ _ _ _ _ h,(cell_of_row _ _ _ _ _ _ h).trans rfl,frozen_of_row _ _ _ _ _ h,(cell_of_row _ _ _ _ _ _ h).trans rfl,frozen_of_row _ _ _ _ _ h,(cell_of_row _ _ _ _ _ _ h).trans rfl,frozen_of_row _ _ _ _ _ h,(cell_of_row _ _ _ _ _ _ h).trans rfl,frozen_of_row _ _ _ _ _ h,(cell_of_row _ _ _ _ _ _ h).trans rfl,frozen_of_row _ _ _ _ _ h,(cell_of_row _ _ _ _ _ _ h).trans rfl,frozen_of_row _ _ _ _ _ h,(cell_of_row _ _ _ _ _ _ h).trans rfl,frozen_of_row _ _ _ _ _ h,(cell_of_row _ _ _ _ _ _ h).trans rfl,frozen_of_row _ _ _ _ _ h⟩
theorem mo {w:World}{b:Nat}{T:TypeId}{v0 v1 v2 v3:Value}(h:w.heap[b]?=some (.cells #[v0,v1,v2,v3] T (0,0))):w.cell? ⟨b,0,none⟩=some v0∧w.cell? ⟨b,1,none⟩=some v1∧w.cell? ⟨b,2,none⟩=some v2∧w.cell? ⟨b,3,none⟩=some v3:=
 ⟨(cell_of_row _ _ _ _ _ _ h).trans rfl,(cell_of_row _ _ _ _ _ _ h).trans rfl,(cell_of_row _ _ _ _ _ _ h).trans rfl,(cell_of_row _ _ _ _ _ _ h).trans rfl⟩
theorem mq {w:World}{b:Nat}{T:TypeId}{v0 v1 v2 v3:Value}(h:w.heap[b]?=some (.cells #[v0,v1,v2,v3] T (0,0))):w.cell? ⟨b,0,none⟩=some v0∧w.frozen? ⟨b,0,none⟩=false∧w.cell? ⟨b,1,none⟩=some v1∧w.frozen? ⟨b,1,none⟩=false∧w.cell? ⟨b,2,none⟩=some v2∧w.frozen? ⟨b,2,none⟩=false∧w.cell? ⟨b,3,none⟩=some v3∧w.frozen? ⟨b,3,none⟩=false:=
 ⟨(cell_of_row _ _ _ _ _ _ h).trans rfl,frozen_of_row _ _ _ _ _ h,(cell_of_row _ _ _ _ _ _ h).trans rfl,frozen_of_row _ _ _ _ _ h,(cell_of_row _ _ _ _ _ _ h).trans rfl,frozen_of_row _ _ _ _ _ h,(cell_of_row _ _ _ _ _ _ h).trans rfl,frozen_of_row _ _ _ _ _ h⟩
def mr (W:World)(n:Nat)(v0 v1 v2 v3 v4 v5 v6 v7 v8 u0 u1 u2 u3:Value):World:=(((((((((((((W.setCell ⟨n,0,none⟩ v0).setCell ⟨n,1,none⟩ v1).setCell ⟨n,2,none⟩ v2).setCell ⟨n,3,none⟩ v3).setCell ⟨n,4,none⟩ v4).setCell ⟨n,5,none⟩ v5).setCell ⟨n,6,none⟩ v6).setCell ⟨n,7,none⟩ v7).setCell ⟨n,8,none⟩ v8).setCell ⟨n+1,0,none⟩ u0).setCell ⟨n+1,1,none⟩ u1).setCell ⟨n+1,2,none⟩ u2).setCell ⟨n+1,3,none⟩ u3)
structure Fin13 (W Wf:World) (n:Nat) (v0 v1 v2 v3 v4 v5 v6 v7 v8 u0 u1 u2 u3:Value):Prop where
 s0:Wf.cell? ⟨n,0,none⟩=some v0
 s1:Wf.cell? ⟨n,1,none⟩=some v1
 s2:Wf.cell? ⟨n,2,none⟩=some v2
 s3:Wf.cell? ⟨n,3,none⟩=some v3
 s4:Wf.cell? ⟨n,4,none⟩=some v4
 s5:Wf.cell? ⟨n,5,none⟩=some v5
 s6:Wf.cell? ⟨n,6,none⟩=some v6
 s7:Wf.cell? ⟨n,7,none⟩=some v7
 s8:Wf.cell? ⟨n,8,none⟩=some v8
 t0:Wf.cell? ⟨n+1,0,none⟩=some u0
 t1:Wf.cell? ⟨n+1,1,none⟩=some u1
 t2:Wf.cell? ⟨n+1,2,none⟩=some u2
 t3:Wf.cell? ⟨n+1,3,none⟩=some u3
 fr:Fr (λk=>k=n∨k=n+1) W Wf
theorem mu {W:World}{n:Nat}{TS TV:TypeId}{z0 z1 z2 z3 z4 z5 z6 z7 z8 y0 y1 y2 y3:Value}(hP:W.heap[n]?=some (.cells #[z0,z1,z2,z3,z4,z5,z6,z7,z8] TS (0,0)))(hQ:W.heap[n+1]?=some (.cells #[y0,y1,y2,y3] TV (0,0)))(v0 v1 v2 v3 v4 v5 v6 v7 v8 u0 u1 u2 u3:Value):Fin13 W (mr W n v0 v1 v2 v3 v4 v5 v6 v7 v8 u0 u1 u2 u3) n v0 v1 v2 v3 v4 v5 v6 v7 v8 u0 u1 u2 u3:=by
 have ra:=ko v0 v1 v2 v3 v4 v5 v6 v7 v8 hP;have fa:=kn W n v0 v1 v2 v3 v4 v5 v6 v7 v8;have rb:=kr u0 u1 u2 u3 (fa.heapAt hQ (show ¬n+1=n by omega));have fb:=kq (km W n v0 v1 v2 v3 v4 v5 v6 v7 v8) (n+1) u0 u1 u2 u3;have ra':=fb.heapAt ra (show ¬n=n+1 by omega);obtain⟨a0,a1,a2,a3,a4,a5,a6,a7,a8⟩:=ml ra';obtain⟨b0,b1,b2,b3⟩:=mo rb;exact⟨a0,a1,a2,a3,a4,a5,a6,a7,a8,b0,b1,b2,b3,(fa.mono (λ_ _ e=>.inl e)).trans (fb.mono (λ_ _ e=>.inr e))⟩
theorem Fin13.drew {W Wf:World}{n:Nat}{v0 v1 v2 v3 v4 v5 v6 v7 v8 u0 u1 u2 u3:Value}(h:Fin13 W Wf n v0 v1 v2 v3 v4 v5 v6 v7 v8 u0 u1 u2 u3):Fin13 W Wf.drew n v0 v1 v2 v3 v4 v5 v6 v7 v8 u0 u1 u2 u3:=⟨h.s0,h.s1,h.s2,h.s3,h.s4,h.s5,h.s6,h.s7,h.s8,h.t0,h.t1,h.t2,h.t3,h.fr.drew⟩
theorem Fin13.pure {W Wf W2:World}{n:Nat}{v0 v1 v2 v3 v4 v5 v6 v7 v8 u0 u1 u2 u3:Value}(h:Fin13 W Wf n v0 v1 v2 v3 v4 v5 v6 v7 v8 u0 u1 u2 u3)(hb:Below Wf.heap.size Wf W2):Fin13 W W2 n v0 v1 v2 v3 v4 v5 v6 v7 v8 u0 u1 u2 u3:=
 ⟨(hb.cell (aD h.s0)).trans h.s0,(hb.cell (aD h.s1)).trans h.s1,(hb.cell (aD h.s2)).trans h.s2,(hb.cell (aD h.s3)).trans h.s3,(hb.cell (aD h.s4)).trans h.s4,(hb.cell (aD h.s5)).trans h.s5,(hb.cell (aD h.s6)).trans h.s6,(hb.cell (aD h.s7)).trans h.s7,(hb.cell (aD h.s8)).trans h.s8,(hb.cell (aD h.t0)).trans h.t0,(hb.cell (aD h.t1)).trans h.t1,(hb.cell (aD h.t2)).trans h.t2,(hb.cell (aD h.t3)).trans h.t3,h.fr.andPure hb⟩
theorem mw (w:World)(o1 o2:Obj):Below w.heap.size w ((w.alloc o1).alloc o2):=((Below.refl _ _).alloc (Nat.le_refl _) _).alloc (by simp) _
theorem mx {W:World}{n:Nat}{TS TV:TypeId}{z0 z1 z2 z3 z4 z5 z6 z7 z8 y0 y1 y2 y3:Value}(hP:W.heap[n]?=some (.cells #[z0,z1,z2,z3,z4,z5,z6,z7,z8] TS (0,0)))(hQ:W.heap[n+1]?=some (.cells #[y0,y1,y2,y3] TV (0,0)))(v0 v1 v2 v3 v4 v5 v6 v7 v8 u0 u1 u2 u3:Value):∃Wf,Wf=(((((((((((((W.setCell ⟨n,0,none⟩ v0).setCell ⟨n,1,none⟩ v1).setCell ⟨n,2,none⟩ v2).setCell ⟨n,3,none⟩ v3).setCell ⟨n,4,none⟩ v4).setCell ⟨n,5,none⟩ v5).setCell ⟨n,6,none⟩ v6).setCell ⟨n,7,none⟩ v7).setCell ⟨n,8,none⟩ v8).setCell ⟨n+1,0,none⟩ u0).setCell ⟨n+1,1,none⟩ u1).setCell ⟨n+1,2,none⟩ u2).setCell ⟨n+1,3,none⟩ u3)∧Fin13 W Wf n v0 v1 v2 v3 v4 v5 v6 v7 v8 u0 u1 u2 u3:=⟨_,rfl,mu hP hQ v0 v1 v2 v3 v4 v5 v6 v7 v8 u0 u1 u2 u3⟩
set_option maxRecDepth 100000 in
theorem my (c:Nat)(hc:c<128)(w:World)(s:ByteArray)(hs:s.data.toList=iT c) :
  Calls Tryz.prog 71 #[.string s] w λe w'=>e = .returned (.tuple #[stV (c:Int) 0 1 1,dl,.int .i64 0])∧Below w.heap.size w w':=by
 have hz:s.size=13:=by rw[ay hs];rfl
 have HS:=hid hs;clear hs
 go_enter Tryz.func71,Tryz.ntmps71
 go_wp2_with fail
 obtain⟨n,hn⟩:∃n,n=w.heap.size:=⟨_,rfl⟩;obtain⟨W0,hW0⟩:∃W0,W0=(w.alloc (.cells #[.int .i64 0,.int .i64 0,.int .i64 0,.int .i64 0,.slice none 0 0,.slice none 0 0,.slice none 0 0,.slice none 0 0,.slice none 0 0] 29)).alloc (.cells #[.slice none 0 0,.slice none 0 0,.slice none 0 0,.slice none 0 0] 35):=⟨_,rfl⟩;have hbel:Below w.heap.size w W0:=by rw[hW0];exact((Below.refl _ _).alloc (Nat.le_refl _) _).alloc (by simp) _
 have k0:W0.heap[n]?=some (.cells #[.int .i64 0,.int .i64 0,.int .i64 0,.int .i64 0,.slice none 0 0,.slice none 0 0,.slice none 0 0,.slice none 0 0,.slice none 0 0] 29 (0,0)):=by rw[hW0,hn];exact(Below.heap_alloc _ _ _ (by simp<;>omega)).trans (heap_alloc_new _ _)
 have k1:W0.heap[n+1]?=some (.cells #[.slice none 0 0,.slice none 0 0,.slice none 0 0,.slice none 0 0] 35 (0,0)):=by rw[hW0,hn];exact cK _ _ (by simp)
 have K0:=hid k0;have K1:=hid k1;have HB:=hid hbel;have HN:=hid hn;rw[← hW0,← hn];clear hW0 hn k0 k1 hbel;refine(aK s W0 (by omega)).mono ?_;rintro e w1 ⟨rfl,hr1,hb1⟩;obtain⟨p,hp⟩:∃p,p=W0.heap.size:=⟨_,rfl⟩;rw[← hp]at hr1 ⊢;have hpl:=hr1.lt;have R1:=hid hr1;have B1:=hid hb1;clear hr1 hb1
 go_wp2_with fail
 obtain⟨q,hq⟩:∃q,q=w1.heap.size:=⟨_,rfl⟩;rw[← hp];obtain⟨W2,hW2⟩:∃W2,W2=w1.alloc (.cells #[.pointer (some ⟨p,0,none⟩),.int .i64 13,.bool false] 191):=⟨_,rfl⟩;have b2:Below w1.heap.size w1 W2:=by rw[hW2];exact(Below.refl _ _).alloc (Nat.le_refl _) _
 have g:RdrAt W2 q p s ⟨0,0,0⟩:=⟨by rw[hW2,hq,hz];exact heap_alloc_new _ _,R1.out.kept (Fr.pure (S:=λ_=>False) b2) (λh=>h),by omega⟩;have B2:=hid (dj B1.out b2);rw[← hW2,← hq];have hql:=lt_of_block g.cell;have hpn:n+1<p:=by have:=lt_of_block K1.out;omega
 have hpq:p<q:=by omega
 have G:=hid g;clear hW2 b2 g hp hq hpl hql;refine(ja c hc W2 q p s G.out HS.out).mono ?_;rintro e w3 ⟨rfl,r3,f3⟩;have R3:=hid r3;have F3:=hid (show Fr (λk=>k=p) W0 w3 from(Fr.pure B2.out).then f3 (λ_ _ e=>e));have hl3:=lt_of_block r3.cell;clear r3 f3 G;unfold stV
 go_wp2_with fail
 obtain⟨W4,hW4⟩:∃W4,W4=w3.alloc (.cells #[.int .i64 (c:Int),.int .i64 0,.int .i64 1,.int .i64 1,.slice none 0 0,.slice none 0 0,.slice none 0 0,.slice none 0 0,.slice none 0 0] 29):=⟨_,rfl⟩;have b4:Below w3.heap.size w3 W4:=by rw[hW4];exact(Below.refl _ _).alloc (Nat.le_refl _) _
 have R4:=hid (R3.out.pure b4);have F4:=hid (F3.out.andPure b4);have K4:=hid (show W4.heap[w3.heap.size]?=some (.cells #[.int .i64 (c:Int),.int .i64 0,.int .i64 1,.int .i64 1,.slice none 0 0,.slice none 0 0,.slice none 0 0,.slice none 0 0,.slice none 0 0] 29 (0,0))from by rw[hW4];exact heap_alloc_new _ _);rw[← hW4];clear hW4 b4 R3 F3;refine(jb c hc W4 q p s R4.out HS.out).mono ?_;rintro e w5 ⟨rfl,r5,f5⟩;have R5:=hid r5;have hl5:=lt_of_block r5.cell;have F5:=hid (F4.out.trans f5);have hmp:w3.heap.size≠p:=by omega
 have K5:=hid (f5.heapAt K4.out hmp);have hlm:=lt_of_block K5.out;obtain⟨x0,x1,x2⟩:=r5.cs;clear r5 f5 R4 F4 K4;unfold dl
 go_wp2_with fail
 obtain⟨W6,hW6⟩:∃W6,W6=w5.alloc (.cells #[.slice none 0 0,.slice none 0 0,.slice none 0 0,.slice none 0 0] 35):=⟨_,rfl⟩;have b6:Below w5.heap.size w5 W6:=by rw[hW6];exact(Below.refl _ _).alloc (Nat.le_refl _) _
 have R6:=hid (R5.out.pure b6);have F6:=hid (F5.out.andPure b6);have K6:=hid ((b6.block _ hlm).trans K5.out);have V6:=hid (show W6.heap[w5.heap.size]?=some (.cells #[.slice none 0 0,.slice none 0 0,.slice none 0 0,.slice none 0 0] 35 (0,0))from by rw[hW6];exact heap_alloc_new _ _);rw[← hW6];clear hW6 b6 R5 F5 K5 x0 x1 x2;refine(bd W6 p s _ R6.out.rd).mono ?_;rintro e w7 ⟨rfl,nn,rfl⟩;rw[show RdSt.ended ⟨13,0,0⟩ s.size=0 from by unfold RdSt.ended;rw[if_neg (by rw[hz];decide)]];obtain⟨W7,hW7⟩:∃W7,W7=W6.drewN nn:=⟨_,rfl⟩;have R7:=hid (show RdrAt W7 q p s ⟨13,0,0⟩from by rw[hW7];exact⟨R6.out.cell,R6.out.rd,R6.out.ne⟩);have F7:=hid (show Fr (λk=>k=p) W0 W7 from by rw[hW7];exact F6.out.drewN nn);have K7:=hid (show W7.heap[w3.heap.size]?=some (.cells #[.int .i64 (c:Int),.int .i64 0,.int .i64 1,.int .i64 1,.slice none 0 0,.slice none 0 0,.slice none 0 0,.slice none 0 0,.slice none 0 0] 29 (0,0))from by rw[hW7];exact K6.out);have V7:=hid (show W7.heap[w5.heap.size]?=some (.cells #[.slice none 0 0,.slice none 0 0,.slice none 0 0,.slice none 0 0] 35 (0,0))from by rw[hW7];exact V6.out);rw[← hW7];obtain⟨_,_,x2⟩:=R7.out.cs;clear hW7 R6 F6 K6 V6;obtain⟨x0,x1,xx2,x3,x4,x5,x6,x7,x8⟩:=ml (K7.out)
 go_wp2_with fail
 refine(show Calls Tryz.prog 109 #[.agg #[.int .i64 (c:Int),.int .i64 0,.int .i64 1,.int .i64 1,.slice none 0 0,.slice none 0 0,.slice none 0 0,.slice none 0 0,.slice none 0 0]] W7 _ from jA W7 (c:Int) (by omega) (by omega)).mono ?_;rintro e w8 ⟨rfl,hb8⟩;have B8:=hid hb8;clear hb8 x2 x0 x1 xx2 x3 x4 x5 x6 x7 x8;have V8:=hid ((B8.out.block _ (lt_of_block V7.out)).trans V7.out);obtain⟨y0,y1,y2,y3⟩:=mo (V8.out)
 go_wp2_with fail
 refine(show Calls Tryz.prog 110 #[.agg #[.slice none 0 0,.slice none 0 0,.slice none 0 0,.slice none 0 0]] w8 _ from jI w8).mono ?_;rintro e w9 ⟨rfl,hb9⟩;have B9:=hid (dj B8.out hb9);clear hb9 y0 y1 y2 y3;have K9:=hid ((B9.out.block _ (lt_of_block K7.out)).trans K7.out);have V9:=hid ((B9.out.block _ (lt_of_block V7.out)).trans V7.out);have F9:=hid (F7.out.andPure B9.out);have P9:=hid (F9.out.heapAt K0.out (by omega));have Q9:=hid (F9.out.heapAt K1.out (by omega));obtain⟨x0,x1,x2,x3,x4,x5,x6,x7,x8⟩:=ml (K9.out);obtain⟨y0,y1,y2,y3⟩:=mo (V9.out);obtain⟨p0,pf0,p1,pf1,p2,pf2,p3,pf3,p4,pf4,p5,pf5,p6,pf6,p7,pf7,p8,pf8⟩:=mn (P9.out);obtain⟨q0,qf0,q1,qf1,q2,qf2,q3,qf3⟩:=mq (Q9.out);have hmn:n+1<w3.heap.size:=by omega
 have hmn2:n+1<w5.heap.size:=by omega
 clear R7;go_wp2
 go_region
 go_wp2;obtain⟨Wf,hWf,FA⟩:=mx P9.out Q9.out (.int .i64 (c:Int)) (.int .i64 0) (.int .i64 1) (.int .i64 1) (.slice none 0 0) (.slice none 0 0) (.slice none 0 0) (.slice none 0 0) (.slice none 0 0) (.slice none 0 0) (.slice none 0 0) (.slice none 0 0) (.slice none 0 0);rw[← hWf];clear hWf;have FA:=FA.drew;have hfr:=FA.fr;refine bodyPost_ret (v:=.tuple #[.agg #[.int .i64 (c:Int),.int .i64 0,.int .i64 1,.int .i64 1,.slice none 0 0,.slice none 0 0,.slice none 0 0,.slice none 0 0,.slice none 0 0],.agg #[.slice none 0 0,.slice none 0 0,.slice none 0 0,.slice none 0 0],.int .i64 0]) (by simp[results,Tryz.results71,go_sem,FA.s0,FA.s1,FA.s2,FA.s3,FA.s4,FA.s5,FA.s6,FA.s7,FA.s8,FA.t0,FA.t1,FA.t2,FA.t3]) rfl ⟨rfl,?_⟩;have hnw:=HN.out;exact HB.out.trans ((F9.out.below (B:=w.heap.size) HB.out.size (λk hk e=>by omega)).trans (hfr.below (B:=w.heap.size) (by have:=HB.out.size;have:=F9.out.size;omega) (λk hk e=>by omega)))
end
end Go.Proofs.YtaeakdichkhjaaaGreatDoor
