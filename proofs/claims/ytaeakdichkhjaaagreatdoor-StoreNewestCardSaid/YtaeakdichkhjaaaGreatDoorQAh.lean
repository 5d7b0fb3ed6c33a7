/- The walks of state.between, numbers, Acct, open, Inst, there, at any state. -/
import Derived.Test.YtaeakdichkhjaaaGreatDoorQAa
import Derived.Test.YtaeakdichkhjaaaGreatDoorChecked
import Derived.Laws.EntriesVeiled
import Derived.Shelf.Abstract
set_option maxHeartbeats 1000000
open Go.Lib(hid)
namespace Go.Proofs.YtaeakdichkhjaaaGreatDoor
section
open Go.RowKit
def SlAt {α:Type}(enc:α→List Value)(k:Nat)(F:Nat→Prop)(w:World)(sv:Value)(xs:List α):Prop:=
 ∃a c,sv = .slice a xs.length c∧xs.length≤c∧(xs=[]∨∃b o,a=some ⟨b,o,none⟩∧F b∧∀i (h:i<xs.length) j v,(enc xs[i])[j]?=some v→w.cell? ⟨b,o+(i*k+j),none⟩=some v)
section
variable {α:Type} {enc:α→List Value} {k:Nat} {F:Nat→Prop}
theorem SlAt.shape {w:World}{sv:Value}{xs:List α}(h:SlAt enc k F w sv xs):∃a c,sv = .slice a xs.length c:=by obtain⟨a,c,h,_⟩:=h;exact⟨a,c,h⟩
theorem SlAt.kept {S:Nat→Prop}{w w':World}{sv:Value}{xs:List α}(h:SlAt enc k F w sv xs)(hf:Fr S w w')(hS:∀g,F g→¬S g):SlAt enc k F w' sv xs:=by
 obtain⟨a,c,rfl,hc,h|⟨b,o,rfl,hb,h⟩⟩:=h
 ·exact⟨a,c,rfl,hc,.inl h⟩
 ·exact⟨_,c,rfl,hc,.inr ⟨b,o,rfl,hb,λi hi j v hv=>hf.cellAt (h i hi j v hv) (hS b hb)⟩⟩
theorem SlAt.pure {w w':World}{sv:Value}{xs:List α}(h:SlAt enc k F w sv xs)(hb:Below w.heap.size w w'):SlAt enc k F w' sv xs:=h.kept (Fr.pure (S:=λ_=>False) hb) (λ_ _ h=>h)
theorem SlAt.mono {G:Nat→Prop}{w:World}{sv:Value}{xs:List α}(h:SlAt enc k F w sv xs)(hF:∀g,F g→G g):SlAt enc k G w sv xs:=by
 obtain⟨a,c,rfl,hc,h|⟨b,o,rfl,hb,h⟩⟩:=h
 ·exact⟨a,c,rfl,hc,.inl h⟩
 ·exact⟨_,c,rfl,hc,.inr ⟨b,o,rfl,hF b hb,h⟩⟩
theorem SlAt.nil (w:World):SlAt enc k F w (.slice none 0 0) ([]:List α):=⟨none,0,rfl,by simp,.inl rfl⟩
theorem SlAt.get {w:World}{a:Option Addr}{c n:Nat}{xs:List α}(h:SlAt enc k F w (.slice a n c) xs)(i:Nat)(hi:i<xs.length) :
  ∃b o,a=some ⟨b,o,none⟩∧F b∧∀j v,(enc xs[i])[j]?=some v→w.cell? ⟨b,o+(i*k+j),none⟩=some v:=by
 obtain⟨a',c',he,_,h|⟨b,o,rfl,hb,h⟩⟩:=h
 ·subst h;simp at hi
 ·cases he;exact⟨b,o,rfl,hb,h i hi⟩
theorem jb {k:Nat}(hk:∀x,(enc x).length=k):∀(xs:List α) (i:Nat) (hi:i<xs.length) (j:Nat) (v:Value),(enc xs[i])[j]?=some v→(xs.flatMap enc)[i*k+j]?=some v
 | x::r,0,_,j,v,h=>by
  rw[List.flatMap_cons,Nat.zero_mul,Nat.zero_add,List.getElem?_append_left]
  ·exact h
  ·exact(List.getElem?_eq_some_iff.1 h).1
 | x::r,i+1,hi,j,v,h=>by
  rw[List.flatMap_cons,List.getElem?_append_right (by rw[hk];rw[Nat.succ_mul];omega),hk,show(i+1)*k+j-k=i*k+j from by rw[Nat.succ_mul];omega];exact jb hk r i (by simpa using hi) j v h
theorem SlAt.of_own {w:World}{base:Nat}{e:TypeId}{v:Value}{xs:List α}(hk:∀x,(enc x).length=k)(h:w.ownsRow base e k v xs.length (xs.flatMap enc))(hF:∀g,v.ownBlock=some g→F g):SlAt enc k F w v xs:=by
 rcases h.2 with⟨rfl,hn⟩|⟨g,cap,cur,rfl,hb,hh,hn,_,hsz,ht⟩
 ·exact⟨none,0,by rw[hn],by omega,.inl (List.eq_nil_of_length_eq_zero hn)⟩
 ·refine⟨_,cap,rfl,hn,.inr ⟨g,0,rfl,hF g rfl,λi hi j v hv=>?_⟩⟩
  have h1:=jb hk xs i hi j v hv;rw[Nat.zero_add,cell_of_row w g _ _ _ _ hh];rw[← ht]at h1;have h2:=(List.getElem?_eq_some_iff.1 h1).1;rw[List.getElem?_take,if_pos (by rw[List.length_take]at h2;omega)]at h1;rw[← Array.getElem?_toList];exact h1
end
structure AccD where
 name:List UInt8
 opn:Bool
deriving DecidableEq
def AccD.cells (x:AccD):List Value:=[.string ⟨x.name.toArray⟩,.bool x.opn]
def AccD.agg (x:AccD):Value:=.agg #[.string ⟨x.name.toArray⟩,.bool x.opn]
abbrev AccsAt (F:Nat→Prop) (w:World) (sv:Value) (xs:List AccD):Prop:=SlAt AccD.cells 2 F w sv xs
theorem AccD.at {F:Nat→Prop}{w:World}{a:Option Addr}{c n:Nat}{xs:List AccD}(h:AccsAt F w (.slice a n c) xs)(k:Nat)(hk:k<xs.length) :
  ∃b o,a=some ⟨b,o,none⟩∧F b∧b<w.heap.size∧w.cell? ⟨b,o+k*2,none⟩=some (.string ⟨xs[k].name.toArray⟩)∧w.cell? ⟨b,o+k*2+1,none⟩=some (.bool xs[k].opn):=by
 obtain⟨b,o,ha,hb,hc⟩:=h.get k hk;exact⟨b,o,ha,hb,aA (hc 0 _ rfl),hc 0 _ rfl,hc 1 _ rfl⟩
structure InsD where
 name:List UInt8
 tick:Int
 halt:Bool
deriving DecidableEq
def InsD.cells (x:InsD):List Value:=[.string ⟨x.name.toArray⟩,.int .i64 x.tick,.bool x.halt]
def InsD.agg (x:InsD):Value:=.agg #[.string ⟨x.name.toArray⟩,.int .i64 x.tick,.bool x.halt]
abbrev InssAt (F:Nat→Prop) (w:World) (sv:Value) (xs:List InsD):Prop:=SlAt InsD.cells 3 F w sv xs
theorem InsD.at {F:Nat→Prop}{w:World}{a:Option Addr}{c n:Nat}{xs:List InsD}(h:InssAt F w (.slice a n c) xs)(k:Nat)(hk:k<xs.length) :
  ∃b o,a=some ⟨b,o,none⟩∧F b∧b<w.heap.size∧w.cell? ⟨b,o+k*3,none⟩=some (.string ⟨xs[k].name.toArray⟩)∧w.cell? ⟨b,o+k*3+1,none⟩=some (.int .i64 xs[k].tick)∧w.cell? ⟨b,o+k*3+2,none⟩=some (.bool xs[k].halt):=by
 obtain⟨b,o,ha,hb,hc⟩:=h.get k hk;exact⟨b,o,ha,hb,aA (hc 0 _ rfl),hc 0 _ rfl,hc 1 _ rfl,hc 2 _ rfl⟩
structure RowD where
 acct:Int
 asset:Int
 free:Int
 held:Int
deriving DecidableEq
def RowD.cells (x:RowD):List Value:=[.int .i64 x.acct,.int .i64 x.asset,.int .i64 x.free,.int .i64 x.held]
def RowD.agg (x:RowD):Value:=.agg #[.int .i64 x.acct,.int .i64 x.asset,.int .i64 x.free,.int .i64 x.held]
abbrev RowsAt (F:Nat→Prop) (w:World) (sv:Value) (xs:List RowD):Prop:=SlAt RowD.cells 4 F w sv xs
theorem RowD.at {F:Nat→Prop}{w:World}{a:Option Addr}{c n:Nat}{xs:List RowD}(h:RowsAt F w (.slice a n c) xs)(k:Nat)(hk:k<xs.length) :
  ∃b o,a=some ⟨b,o,none⟩∧F b∧b<w.heap.size∧w.cell? ⟨b,o+k*4,none⟩=some (.int .i64 xs[k].acct)∧w.cell? ⟨b,o+k*4+1,none⟩=some (.int .i64 xs[k].asset)∧w.cell? ⟨b,o+k*4+2,none⟩=some (.int .i64 xs[k].free)∧w.cell? ⟨b,o+k*4+3,none⟩=some (.int .i64 xs[k].held):=by
 obtain⟨b,o,ha,hb,hc⟩:=h.get k hk;exact⟨b,o,ha,hb,aA (hc 0 _ rfl),hc 0 _ rfl,hc 1 _ rfl,hc 2 _ rfl,hc 3 _ rfl⟩
structure OrdD where
 id:Int
 acct:Int
 inst:Int
 side:Int
 price:Int
 left:Int
deriving DecidableEq
def OrdD.cells (x:OrdD):List Value:=[.int .i64 x.id,.int .i64 x.acct,.int .i64 x.inst,.int .u8 x.side,.int .i64 x.price,.int .i64 x.left]
def OrdD.agg (x:OrdD):Value:=.agg #[.int .i64 x.id,.int .i64 x.acct,.int .i64 x.inst,.int .u8 x.side,.int .i64 x.price,.int .i64 x.left]
abbrev OrdsAt (F:Nat→Prop) (w:World) (sv:Value) (xs:List OrdD):Prop:=SlAt OrdD.cells 6 F w sv xs
theorem OrdD.at {F:Nat→Prop}{w:World}{a:Option Addr}{c n:Nat}{xs:List OrdD}(h:OrdsAt F w (.slice a n c) xs)(k:Nat)(hk:k<xs.length) :
  ∃b o,a=some ⟨b,o,none⟩∧F b∧b<w.heap.size∧w.cell? ⟨b,o+k*6,none⟩=some (.int .i64 xs[k].id)∧w.cell? ⟨b,o+k*6+1,none⟩=some (.int .i64 xs[k].acct)∧w.cell? ⟨b,o+k*6+2,none⟩=some (.int .i64 xs[k].inst)∧w.cell? ⟨b,o+k*6+3,none⟩=some (.int .u8 xs[k].side)∧w.cell? ⟨b,o+k*6+4,none⟩=some (.int .i64 xs[k].price)∧w.cell? ⟨b,o+k*6+5,none⟩=some (.int .i64 xs[k].left):=by
 obtain⟨b,o,ha,hb,hc⟩:=h.get k hk;exact⟨b,o,ha,hb,aA (hc 0 _ rfl),hc 0 _ rfl,hc 1 _ rfl,hc 2 _ rfl,hc 3 _ rfl,hc 4 _ rfl,hc 5 _ rfl⟩
structure BidD where
 acct:Int
 amount:Int
deriving DecidableEq
def BidD.cells (x:BidD):List Value:=[.int .i64 x.acct,.int .i64 x.amount]
def BidD.agg (x:BidD):Value:=.agg #[.int .i64 x.acct,.int .i64 x.amount]
abbrev BidsAt (F:Nat→Prop) (w:World) (sv:Value) (xs:List BidD):Prop:=SlAt BidD.cells 2 F w sv xs
theorem BidD.at {F:Nat→Prop}{w:World}{a:Option Addr}{c n:Nat}{xs:List BidD}(h:BidsAt F w (.slice a n c) xs)(k:Nat)(hk:k<xs.length) :
  ∃b o,a=some ⟨b,o,none⟩∧F b∧b<w.heap.size∧w.cell? ⟨b,o+k*2,none⟩=some (.int .i64 xs[k].acct)∧w.cell? ⟨b,o+k*2+1,none⟩=some (.int .i64 xs[k].amount):=by
 obtain⟨b,o,ha,hb,hc⟩:=h.get k hk;exact⟨b,o,ha,hb,aA (hc 0 _ rfl),hc 0 _ rfl,hc 1 _ rfl⟩
structure AucD where
 id:Int
 seller:Int
 inst:Int
 sealed:Bool
 qty:Int
 reserve:Int
 step:Int
 fin:Int
 bids:List BidD
deriving DecidableEq
def AucD.cells (x:AucD×Value):List Value:=[.int .i64 x.1.id,.int .i64 x.1.seller,.int .i64 x.1.inst,.bool x.1.sealed,.int .i64 x.1.qty,.int .i64 x.1.reserve,.int .i64 x.1.step,.int .i64 x.1.fin,x.2]
def AucD.agg (x:AucD)(bv:Value):Value:=.agg #[.int .i64 x.id,.int .i64 x.seller,.int .i64 x.inst,.bool x.sealed,.int .i64 x.qty,.int .i64 x.reserve,.int .i64 x.step,.int .i64 x.fin,bv]
def AucsAt (F:Nat→Prop)(w:World)(sv:Value)(xs:List AucD):Prop:=∃ms:List (AucD×Value),ms.map (·.1)=xs∧SlAt AucD.cells 9 F w sv ms∧∀m∈ms,BidsAt F w m.2 m.1.bids
theorem AucsAt.shape {F:Nat→Prop}{w:World}{sv:Value}{xs:List AucD}(h:AucsAt F w sv xs):∃a c,sv = .slice a xs.length c:=by
 obtain⟨ms,rfl,h,_⟩:=h;obtain⟨a,c,e⟩:=h.shape;exact⟨a,c,by rw[e,List.length_map]⟩
theorem AucsAt.kept {S F:Nat→Prop}{w w':World}{sv:Value}{xs:List AucD}(h:AucsAt F w sv xs)(hf:Fr S w w')(hS:∀g,F g→¬S g):AucsAt F w' sv xs:=by
 obtain⟨ms,e,h1,h2⟩:=h;exact⟨ms,e,h1.kept hf hS,λm hm=>(h2 m hm).kept hf hS⟩
theorem AucsAt.pure {F:Nat→Prop}{w w':World}{sv:Value}{xs:List AucD}(h:AucsAt F w sv xs)(hb:Below w.heap.size w w'):AucsAt F w' sv xs:=h.kept (Fr.pure (S:=λ_=>False) hb) (λ_ _ h=>h)
theorem AucsAt.mono {F G:Nat→Prop}{w:World}{sv:Value}{xs:List AucD}(h:AucsAt F w sv xs)(hF:∀g,F g→G g):AucsAt G w sv xs:=by
 obtain⟨ms,e,h1,h2⟩:=h;exact⟨ms,e,h1.mono hF,λm hm=>(h2 m hm).mono hF⟩
theorem AucsAt.nil {F:Nat→Prop}(w:World):AucsAt F w (.slice none 0 0) []:=⟨[],rfl,SlAt.nil w,by simp⟩
theorem AucsAt.at {F:Nat→Prop}{w:World}{a:Option Addr}{c n:Nat}{xs:List AucD}(h:AucsAt F w (.slice a n c) xs)(k:Nat)(hk:k<xs.length) :
  ∃b o bv,a=some ⟨b,o,none⟩∧F b∧b<w.heap.size∧BidsAt F w bv xs[k].bids∧w.cell? ⟨b,o+k*9,none⟩=some (.int .i64 xs[k].id)∧w.cell? ⟨b,o+k*9+1,none⟩=some (.int .i64 xs[k].seller)∧w.cell? ⟨b,o+k*9+2,none⟩=some (.int .i64 xs[k].inst)∧w.cell? ⟨b,o+k*9+3,none⟩=some (.bool xs[k].sealed)∧w.cell? ⟨b,o+k*9+4,none⟩=some (.int .i64 xs[k].qty)∧w.cell? ⟨b,o+k*9+5,none⟩=some (.int .i64 xs[k].reserve)∧w.cell? ⟨b,o+k*9+6,none⟩=some (.int .i64 xs[k].step)∧w.cell? ⟨b,o+k*9+7,none⟩=some (.int .i64 xs[k].fin)∧w.cell? ⟨b,o+k*9+8,none⟩=some (bv):=by
 obtain⟨ms,rfl,h1,h2⟩:=h;rw[List.length_map]at hk;obtain⟨b,o,ha,hb,hc⟩:=h1.get k hk;simp only[List.getElem_map];have hm:=h2 _ (List.getElem_mem hk);refine⟨b,o,ms[k].2,ha,hb,aA (hc 0 _ rfl),hm,hc 0 _ rfl,hc 1 _ rfl,hc 2 _ rfl,hc 3 _ rfl,hc 4 _ rfl,hc 5 _ rfl,hc 6 _ rfl,hc 7 _ rfl,hc 8 _ rfl⟩
structure OpnD where
 acct:Int
 id:Int
 inst:Int
 side:Int
 price:Int
 left:Int
deriving DecidableEq
def OpnD.cells (x:OpnD):List Value:=[.int .i64 x.acct,.int .i64 x.id,.int .i64 x.inst,.int .u8 x.side,.int .i64 x.price,.int .i64 x.left]
def OpnD.agg (x:OpnD):Value:=.agg #[.int .i64 x.acct,.int .i64 x.id,.int .i64 x.inst,.int .u8 x.side,.int .i64 x.price,.int .i64 x.left]
abbrev OpnsAt (F:Nat→Prop) (w:World) (sv:Value) (xs:List OpnD):Prop:=SlAt OpnD.cells 6 F w sv xs
theorem OpnD.at {F:Nat→Prop}{w:World}{a:Option Addr}{c n:Nat}{xs:List OpnD}(h:OpnsAt F w (.slice a n c) xs)(k:Nat)(hk:k<xs.length) :
  ∃b o,a=some ⟨b,o,none⟩∧F b∧b<w.heap.size∧w.cell? ⟨b,o+k*6,none⟩=some (.int .i64 xs[k].acct)∧w.cell? ⟨b,o+k*6+1,none⟩=some (.int .i64 xs[k].id)∧w.cell? ⟨b,o+k*6+2,none⟩=some (.int .i64 xs[k].inst)∧w.cell? ⟨b,o+k*6+3,none⟩=some (.int .u8 xs[k].side)∧w.cell? ⟨b,o+k*6+4,none⟩=some (.int .i64 xs[k].price)∧w.cell? ⟨b,o+k*6+5,none⟩=some (.int .i64 xs[k].left):=by
 obtain⟨b,o,ha,hb,hc⟩:=h.get k hk;exact⟨b,o,ha,hb,aA (hc 0 _ rfl),hc 0 _ rfl,hc 1 _ rfl,hc 2 _ rfl,hc 3 _ rfl,hc 4 _ rfl,hc 5 _ rfl⟩
structure LotD where
 id:Int
 seller:Int
 inst:Int
 qty:Int
deriving DecidableEq
def LotD.cells (x:LotD):List Value:=[.int .i64 x.id,.int .i64 x.seller,.int .i64 x.inst,.int .i64 x.qty]
def LotD.agg (x:LotD):Value:=.agg #[.int .i64 x.id,.int .i64 x.seller,.int .i64 x.inst,.int .i64 x.qty]
abbrev LotsAt (F:Nat→Prop) (w:World) (sv:Value) (xs:List LotD):Prop:=SlAt LotD.cells 4 F w sv xs
theorem LotD.at {F:Nat→Prop}{w:World}{a:Option Addr}{c n:Nat}{xs:List LotD}(h:LotsAt F w (.slice a n c) xs)(k:Nat)(hk:k<xs.length) :
  ∃b o,a=some ⟨b,o,none⟩∧F b∧b<w.heap.size∧w.cell? ⟨b,o+k*4,none⟩=some (.int .i64 xs[k].id)∧w.cell? ⟨b,o+k*4+1,none⟩=some (.int .i64 xs[k].seller)∧w.cell? ⟨b,o+k*4+2,none⟩=some (.int .i64 xs[k].inst)∧w.cell? ⟨b,o+k*4+3,none⟩=some (.int .i64 xs[k].qty):=by
 obtain⟨b,o,ha,hb,hc⟩:=h.get k hk;exact⟨b,o,ha,hb,aA (hc 0 _ rfl),hc 0 _ rfl,hc 1 _ rfl,hc 2 _ rfl,hc 3 _ rfl⟩
structure PosD where
 acct:Int
 inst:Int
 bought:Int
 sold:Int
 spent:Int
 got:Int
deriving DecidableEq
def PosD.cells (x:PosD):List Value:=[.int .i64 x.acct,.int .i64 x.inst,.int .i64 x.bought,.int .i64 x.sold,.int .i64 x.spent,.int .i64 x.got]
def PosD.agg (x:PosD):Value:=.agg #[.int .i64 x.acct,.int .i64 x.inst,.int .i64 x.bought,.int .i64 x.sold,.int .i64 x.spent,.int .i64 x.got]
abbrev PossAt (F:Nat→Prop) (w:World) (sv:Value) (xs:List PosD):Prop:=SlAt PosD.cells 6 F w sv xs
theorem PosD.at {F:Nat→Prop}{w:World}{a:Option Addr}{c n:Nat}{xs:List PosD}(h:PossAt F w (.slice a n c) xs)(k:Nat)(hk:k<xs.length) :
  ∃b o,a=some ⟨b,o,none⟩∧F b∧b<w.heap.size∧w.cell? ⟨b,o+k*6,none⟩=some (.int .i64 xs[k].acct)∧w.cell? ⟨b,o+k*6+1,none⟩=some (.int .i64 xs[k].inst)∧w.cell? ⟨b,o+k*6+2,none⟩=some (.int .i64 xs[k].bought)∧w.cell? ⟨b,o+k*6+3,none⟩=some (.int .i64 xs[k].sold)∧w.cell? ⟨b,o+k*6+4,none⟩=some (.int .i64 xs[k].spent)∧w.cell? ⟨b,o+k*6+5,none⟩=some (.int .i64 xs[k].got):=by
 obtain⟨b,o,ha,hb,hc⟩:=h.get k hk;exact⟨b,o,ha,hb,aA (hc 0 _ rfl),hc 0 _ rfl,hc 1 _ rfl,hc 2 _ rfl,hc 3 _ rfl,hc 4 _ rfl,hc 5 _ rfl⟩
structure LinD where
 acct:Int
 seq:Int
 kind:Int
 delta:Int
 balance:Int
deriving DecidableEq
def LinD.cells (x:LinD):List Value:=[.int .i64 x.acct,.int .i64 x.seq,.int .u8 x.kind,.int .i64 x.delta,.int .i64 x.balance]
def LinD.agg (x:LinD):Value:=.agg #[.int .i64 x.acct,.int .i64 x.seq,.int .u8 x.kind,.int .i64 x.delta,.int .i64 x.balance]
abbrev LinsAt (F:Nat→Prop) (w:World) (sv:Value) (xs:List LinD):Prop:=SlAt LinD.cells 5 F w sv xs
theorem LinD.at {F:Nat→Prop}{w:World}{a:Option Addr}{c n:Nat}{xs:List LinD}(h:LinsAt F w (.slice a n c) xs)(k:Nat)(hk:k<xs.length) :
  ∃b o,a=some ⟨b,o,none⟩∧F b∧b<w.heap.size∧w.cell? ⟨b,o+k*5,none⟩=some (.int .i64 xs[k].acct)∧w.cell? ⟨b,o+k*5+1,none⟩=some (.int .i64 xs[k].seq)∧w.cell? ⟨b,o+k*5+2,none⟩=some (.int .u8 xs[k].kind)∧w.cell? ⟨b,o+k*5+3,none⟩=some (.int .i64 xs[k].delta)∧w.cell? ⟨b,o+k*5+4,none⟩=some (.int .i64 xs[k].balance):=by
 obtain⟨b,o,ha,hb,hc⟩:=h.get k hk;exact⟨b,o,ha,hb,aA (hc 0 _ rfl),hc 0 _ rfl,hc 1 _ rfl,hc 2 _ rfl,hc 3 _ rfl,hc 4 _ rfl⟩
structure StD where
 clock:Int
 fee:Int
 nextO:Int
 nextA:Int
 accts:List AccD
 insts:List InsD
 rows:List RowD
 ords:List OrdD
 aucs:List AucD
deriving DecidableEq
structure VwD where
 open_:List OpnD
 lots:List LotD
 poss:List PosD
 lins:List LinD
deriving DecidableEq
structure StV where
 a:Value
 i:Value
 r:Value
 o:Value
 u:Value
structure VwV where
 o:Value
 l:Value
 p:Value
 n:Value
def jc (s:StD)(v:StV):Array Value:=#[.int .i64 s.clock,.int .i64 s.fee,.int .i64 s.nextO,.int .i64 s.nextA,v.a,v.i,v.r,v.o,v.u]
def jd (v:VwV):Array Value:=#[v.o,v.l,v.p,v.n]
structure StAt (F:Nat→Prop) (w:World) (v:StV) (s:StD):Prop where
 a:AccsAt F w v.a s.accts
 i:InssAt F w v.i s.insts
 r:RowsAt F w v.r s.rows
 o:OrdsAt F w v.o s.ords
 u:AucsAt F w v.u s.aucs
structure VwAt (F:Nat→Prop) (w:World) (v:VwV) (d:VwD):Prop where
 o:OpnsAt F w v.o d.open_
 l:LotsAt F w v.l d.lots
 p:PossAt F w v.p d.poss
 n:LinsAt F w v.n d.lins
theorem StAt.kept {S F:Nat→Prop}{w w':World}{v:StV}{s:StD}(h:StAt F w v s)(hf:Fr S w w')(hS:∀g,F g→¬S g):StAt F w' v s:=⟨h.a.kept hf hS,h.i.kept hf hS,h.r.kept hf hS,h.o.kept hf hS,h.u.kept hf hS⟩
theorem StAt.pure {F:Nat→Prop}{w w':World}{v:StV}{s:StD}(h:StAt F w v s)(hb:Below w.heap.size w w'):StAt F w' v s:=h.kept (Fr.pure (S:=λ_=>False) hb) (λ_ _ h=>h)
theorem StAt.mono {F G:Nat→Prop}{w:World}{v:StV}{s:StD}(h:StAt F w v s)(hF:∀g,F g→G g):StAt G w v s:=⟨h.a.mono hF,h.i.mono hF,h.r.mono hF,h.o.mono hF,h.u.mono hF⟩
theorem VwAt.kept {S F:Nat→Prop}{w w':World}{v:VwV}{d:VwD}(h:VwAt F w v d)(hf:Fr S w w')(hS:∀g,F g→¬S g):VwAt F w' v d:=⟨h.o.kept hf hS,h.l.kept hf hS,h.p.kept hf hS,h.n.kept hf hS⟩
theorem VwAt.pure {F:Nat→Prop}{w w':World}{v:VwV}{d:VwD}(h:VwAt F w v d)(hb:Below w.heap.size w w'):VwAt F w' v d:=h.kept (Fr.pure (S:=λ_=>False) hb) (λ_ _ h=>h)
theorem VwAt.mono {F G:Nat→Prop}{w:World}{v:VwV}{d:VwD}(h:VwAt F w v d)(hF:∀g,F g→G g):VwAt G w v d:=⟨h.o.mono hF,h.l.mono hF,h.p.mono hF,h.n.mono hF⟩
end
section
open Go.RowKit
noncomputable def tf (p:Prop):Bool:=@decide p (Classical.propDecidable p)
theorem je {p:Prop}(h:p):tf p=true:=@decide_eq_true p (Classical.propDecidable p) h
theorem jf {p:Prop}(h:¬p):tf p=false:=@decide_eq_false p (Classical.propDecidable p) h
theorem tf_iff {p:Prop}:tf p=true↔p:=⟨@of_decide_eq_true p (Classical.propDecidable p),je⟩
theorem jg {p q:Prop}(h:p↔q):tf p=tf q:=by rw[show p=q from propext h]
theorem jh {p:Prop}{b:Bool}(h:b=true↔p):tf p=b:=by
 cases b
 ·exact jf (λhp=>by have:=h.2 hp;cases this)
 ·exact je (h.1 rfl)
def ji (n l h:Int):Prop:=l≤n∧n≤h
def jj (c:UInt8):Prop:=(97≤c.toNat∧c.toNat≤122)∨(48≤c.toNat∧c.toNat≤57)∨c.toNat=45∨c.toNat=95
def jk (l:List UInt8):Prop:=(∀c∈l,jj c)∧1≤l.length∧l.length≤24
def jl (l:List (List UInt8)):Prop:=(∀s∈l,jk s)∧l.Nodup
def jm (s:StD):Prop:=ji s.clock 0 1099511627776∧ji s.fee 0 1000∧ji s.nextO 1 1099511627777∧ji s.nextA 1 1099511627777
def jn (s:StD):Prop:=s.accts.length≤64∧jl (s.accts.map (·.name))
def jo (s:StD):Prop:=(∀x∈s.insts,ji x.tick 1 1073741824)∧s.insts.length≤16∧jl (s.insts.map (·.name))
def jp (l:List AccD)(a:Int):Prop:=1≤a∧∃x,l[(a-1).toNat]?=some x∧x.opn=true
def jq (l:List InsD)(i:Int)(x:InsD):Prop:=1≤i∧l[(i-1).toNat]?=some x
def jr (l:List InsD)(i:Int):Prop:=1≤i∧i≤l.length
def js (t:Int):Int×Int:=if t≤4611686018427387904 ∧ -4611686018427387904≤t then (t,0) else (0,41)
def jt (a x:Int):Prop:=0≤a∧a≤64∧0≤x∧x≤16
def ju (a x b y:Int):Prop:=a<b∨(a=b∧x<y)
def jv (r:RowD):Prop:=r.acct=0∨(0≤r.free∧0≤r.held∧r.free≤1125899906842624∧r.held≤1125899906842624∧r.free+r.held≤1125899906842624)
def jw (a x:Int)(r:RowD):Prop:=jt r.acct r.asset∧ju a x r.acct r.asset∧jv r∧¬(r.free=0∧r.held=0)∧¬(r.acct=0∧(r.held≠0∨0<r.free))
def upd (f:Int→Int)(j n:Int):Int→Int:=λi=>if i=j then n else f i
def jx:Int→Int→(Int→Int)→List RowD→Prop
 | _,_,f,[]=>∀j,0≤j→j≤16→f j=0
 | a,x,f,r::t=>jw a x r∧(js (f r.asset+r.free+r.held)).2=0∧jx r.acct r.asset (upd f r.asset (f r.asset+r.free+r.held)) t
def jy (l:List RowD):Prop:=jx (-1) 0 (λ_=>0) l
def jz (s:StD)(r:RowD):Prop:=(r.acct=0∨jp s.accts r.acct)∧r.asset≤s.insts.length
def jA (s:StD):Prop:=jy s.rows∧∀r∈s.rows,jz s r
def jB (o:OrdD):Prop:=ji o.id 1 1099511627776∧ji o.acct 1 64∧ji o.inst 1 16∧(o.side=1∨o.side=2)∧ji o.price 1 1073741824∧ji o.left 1 1048576
def jC {α:Type}(lt:α→α→Prop)(l:List α):Prop:=∀i (h:i+1<l.length),lt l[i] l[i+1]
def jD (l:List OrdD):Prop:=l.length≤128∧(∀o∈l,jB o)∧jC (λa b=>a.id<b.id) l
def jE (s:StD)(o:OrdD):Prop:=o.id<s.nextO∧jp s.accts o.acct∧∃x,jq s.insts o.inst x∧o.price.tmod x.tick=0
def jF (s:StD):Prop:=jD s.ords∧∀o∈s.ords,jE s o
def jG (seller:Int)(l:List BidD):Prop:=∀i (h:i<l.length),ji l[i].acct 1 64∧l[i].acct≠seller∧ji l[i].amount 1 1125899906842624∧∀j (hj:j<i),l[j].acct≠l[i].acct
def jH (a:AucD):Prop:=if a.sealed then a.step=0∧a.bids.length≤16 else ji a.step 1 1125899906842624∧a.bids.length≤1∧∀b∈a.bids,a.reserve≤b.amount
def jI (a:AucD):Prop:=ji a.id 1 1099511627776∧ji a.seller 1 64∧ji a.inst 1 16∧ji a.qty 1 1048576∧ji a.reserve 1 1125899906842624∧ji a.fin 1 1099511627776∧jH a∧jG a.seller a.bids
def jJ:Int→List AucD→Prop
 | _,[]=>True
 | last,a::t=>last<a.id∧jI a∧jJ a.id t
def jK (l:List AucD):Prop:=jJ 0 l∧l.length≤32
def jL (s:StD)(a:AucD):Prop:=a.id<s.nextA∧jp s.accts a.seller∧jr s.insts a.inst∧∀b∈a.bids,jp s.accts b.acct
def jM (s:StD):Prop:=jK s.aucs∧∀a∈s.aucs,jL s a
abbrev NMap (κ:Type):=List (κ×Int)
section
variable {κ:Type} [DecidableEq κ]
def jN (m:NMap κ)(k:κ):Int:=((m.find? λe=>e.1 == k).map (·.2)).getD 0
def jO (m:NMap κ)(k:κ)(n:Int):NMap κ:=if (m.any λe=>e.1 == k) then m.map (λe=>if e.1 == k then (k,n) else e) else m++[(k,n)]
def jP (m:NMap κ)(k:κ):NMap κ:=m.filter λe=>!(e.1 == k)
end
abbrev PMap:=NMap (Int×Int)
abbrev IMap:=NMap Int
def jQ (o:OrdD):List ((Int×Int)×Int):=if o.side=1 then [((o.acct,0),o.price*o.left)] else [((o.acct,o.inst),o.left)]
def jR (a:AucD):List ((Int×Int)×Int):=((a.seller,a.inst),a.qty)::a.bids.map λb=>((b.acct,0),b.amount)
def jS (s:StD):List ((Int×Int)×Int):=s.ords.flatMap jQ++s.aucs.flatMap jR
def jT (l:List ((Int×Int)×Int)):PMap:=l.foldl (λm e=>jO m e.1 (wrap64 (jN m e.1+e.2))) []
def jU:PMap→List RowD→Prop
 | m,[]=>m=[]
 | m,r::t=>jN m (r.acct,r.asset)=r.held∧jU (jP m (r.acct,r.asset)) t
def jV (s:StD):Prop:=jU (jT (jS s)) s.rows
def jW (s:StD):Prop:=jm s∧jn s∧jo s∧jA s∧jF s∧jM s∧jV s
def jX (o:OpnD):Prop:=ji o.acct 1 64∧ji o.id 1 1099511627776∧ji o.inst 1 16∧(o.side=1∨o.side=2)∧ji o.price 1 1073741824∧ji o.left 1 1048576
def jY (l:LotD):Prop:=ji l.id 1 1099511627776∧ji l.seller 1 64∧ji l.inst 1 16∧ji l.qty 1 1048576
def jZ (l:List OpnD)(m:List LotD):Prop:=l.length≤128∧m.length≤32∧jC (λa b=>ju a.acct a.id b.acct b.id) l∧jC (λa b=>a.id<b.id) m∧(∀o∈l,jX o)∧(l.map (·.id)).Nodup∧∀x∈m,jY x
def j1 (n:Int):Prop:=0≤n∧n≤4611686018427387904
def j2 (p:PosD):Prop:=ji p.acct 1 64∧ji p.inst 1 16∧j1 p.bought∧j1 p.sold∧j1 p.spent∧j1 p.got∧¬(p.bought=0∧p.sold=0)
def j3 (l:List PosD):Prop:=(∀p∈l,j2 p)∧jC (λa b=>ju a.acct a.inst b.acct b.inst) l
def j4 (m:IMap)(seq:Int)(x:LinD):Prop:=ji x.acct 1 64∧(0≤x.seq∧x.seq<1048576)∧seq≤x.seq∧(x.kind=6∨x.kind=7∨x.kind=13∨x.kind=18∨x.kind=21)∧x.delta≠0∧(0≤x.balance∧x.balance≤1125899906842624)∧jN m x.acct+x.delta=x.balance
def j5:IMap→Int→List LinD→Prop
 | _,_,[]=>True
 | m,seq,x::t=>j4 m seq x∧j5 (jO m x.acct x.balance) x.seq t
def j8 (l:List LinD):Prop:=j5 [] 0 l
def j9 (v:VwD):Prop:=jZ v.open_ v.lots∧j3 v.poss∧j8 v.lins
end
section
open Go.RowKit
def TB (P:Prop)(e:Ending):Prop:=∃b:Bool,(b=true↔P)∧e = .returned (.bool b)
theorem TB.yes {P:Prop}(h:P):TB P (.returned (.bool true)):=⟨true,by simp[h],rfl⟩
theorem TB.no {P:Prop}(h:¬P):TB P (.returned (.bool false)):=⟨false,by simp[h],rfl⟩
theorem TB.tf {P:Prop}{e:Ending}(h:TB P e):e = .returned (.bool (tf P)):=by
 obtain⟨b,hb,rfl⟩:=h;rw[jh hb]
theorem TB.iff {P Q:Prop}{e:Ending}(h:TB P e)(hpq:P↔Q):TB Q e:=by
 obtain⟨b,hb,rfl⟩:=h;exact⟨b,hb.trans hpq,rfl⟩
theorem TB.pos {P:Prop}{e:Ending}(hp:P)(h:TB P e):e = .returned (.bool true):=by rw[h.tf,je hp]
theorem TB.neg {P:Prop}{e:Ending}(hp:¬P)(h:TB P e):e = .returned (.bool false):=by rw[h.tf,jf hp]
theorem ka {w w1:World}{C:Array Value}{T:TypeId}(hb:Below (w.alloc (.cells C T)).heap.size (w.alloc (.cells C T)) w1)(j:Nat)(v:Value)(h:C[j]?=some v):w1.cell? ⟨w.heap.size,j,none⟩=some v:=by
 rw[hb.cell (by simp),World.cell?_alloc_at _ _ _ _ rfl];exact h
theorem kc {w w1:World}{o:Obj}(hb:Below (w.alloc o).heap.size (w.alloc o) w1):Below w.heap.size w w1:=((Below.refl _ _).alloc (Nat.le_refl _) _).trans (hb.mono (by simp))
theorem kd {a b c:World}(h:Below a.heap.size a b)(k:Below b.heap.size b c):Below a.heap.size a c:=h.trans (k.mono h.size)
theorem ke (w:World)(o:Obj):Below w.heap.size w (w.alloc o):=(Below.refl _ _).alloc (Nat.le_refl _) _
theorem kf (w:World)(n l h:Int):Calls Tryz.prog 281 #[.int .i64 n,.int .i64 l,.int .i64 h] w λe w'=>TB (ji n l h) e∧w=w':=by
 by_cases h0:l≤n
 ·by_cases h1:n≤h
  ·go_enter Tryz.func281,Tryz.ntmps281
   go_wp2;go_ret;exact⟨TB.yes ⟨h0,h1⟩,rfl⟩
  ·go_enter Tryz.func281,Tryz.ntmps281
   go_wp2;go_ret;exact⟨TB.no (by unfold ji;omega),rfl⟩
 ·go_enter Tryz.func281,Tryz.ntmps281
  go_wp2;go_ret;exact⟨TB.no (by unfold ji;omega),rfl⟩
theorem kg (w:World)(n:Int):Calls Tryz.prog 280 #[.int .i64 n] w λe w'=>TB (ji n 1 1099511627777) e∧w=w':=by
 go_enter Tryz.func280,Tryz.ntmps280
 go_wp2_with fail
 refine(kf w n 1 1099511627777).mono ?_;rintro e w1 ⟨⟨b,hb,rfl⟩,rfl⟩;go_wp2;go_ret;exact⟨⟨b,hb,rfl⟩,rfl⟩
set_option maxRecDepth 100000 in
theorem kh (w:World)(v:StV)(s:StD):Calls Tryz.prog 256 #[.agg (jc s v)] w λe w'=>TB (jm s) e∧Below w.heap.size w w':=by
 unfold jc;have hmf:∀(fn:Fn) (first cap:Array Value) (w:World),(Instr.makeFunc fn first cap).run Tryz.prog w = .ok (.func fn first cap) w:=λ_ _ _ _=>rfl;have he:∀(args:Array Value) (w:World),(callFunc 280 args).run Tryz.prog w = .ok (.enter 280 args) w:=enters_of Tryz.func280 (by kernel_rfl) rfl
 go_enter Tryz.func256,Tryz.ntmps256
 go_wp2_with fail
 refine(kf _ s.clock 0 1099511627776).mono ?_;rintro e w1 ⟨⟨b1,hb1,rfl⟩,rfl⟩;have HX:=hid hb1;clear hb1;cases b1
 ·go_wp2
  go_ret;exact⟨TB.no (λh=>by have:=HX.out.2 h.1;cases this),(Below.refl _ _).alloc (Nat.le_refl _) _⟩
 have HB1:=hid (HX.out.1 rfl);clear HX
 go_wp2_with fail
 refine(kf _ s.fee 0 1000).mono ?_;rintro e w1 ⟨⟨b1,hb1,rfl⟩,rfl⟩;have HX:=hid hb1;clear hb1;cases b1
 ·go_wp2
  go_ret;exact⟨TB.no (λh=>by have:=HX.out.2 h.2.1;cases this),(Below.refl _ _).alloc (Nat.le_refl _) _⟩
 have HB2:=hid (HX.out.1 rfl);clear HX
 go_wp2_with fail
 refine(kg _ s.nextO).mono ?_;rintro e w1 ⟨⟨b1,hb1,rfl⟩,rfl⟩;have HX:=hid hb1;clear hb1;cases b1
 ·go_wp2
  go_ret;exact⟨TB.no (λh=>by have:=HX.out.2 h.2.2.1;cases this),(Below.refl _ _).alloc (Nat.le_refl _) _⟩
 have HB3:=hid (HX.out.1 rfl);clear HX
 go_wp2_with fail
 refine(kg _ s.nextA).mono ?_;rintro e w1 ⟨⟨b1,hb1,rfl⟩,rfl⟩;have HX:=hid hb1;clear hb1;go_wp2;go_ret;exact⟨⟨b1,HX.out.trans ⟨λh=>⟨HB1.out,HB2.out,HB3.out,h⟩,λh=>h.2.2.2⟩,rfl⟩,(Below.refl _ _).alloc (Nat.le_refl _) _⟩
def ki (l:List AccD)(a:Int)(e:Ending):Prop:=(jp l a∧∃x,x∈l∧e = .returned (.tuple #[x.agg,.bool true]))∨(¬jp l a∧e = .returned (.tuple #[.agg #[.string ⟨#[]⟩,.bool false],.bool false]))
set_option maxRecDepth 100000 in
theorem kj (F:Nat→Prop)(w:World)(v:StV)(s:StD)(h:StAt F w v s)(hlen:s.accts.length≤4398046511104)(a:Int) :
  Calls Tryz.prog 318 #[.agg (jc s v),.int .i64 a] w λe w'=>ki s.accts a e∧Below w.heap.size w w':=by
 obtain⟨va,vi,vr,vo,vu⟩:=v;obtain⟨a0,c0,he⟩:=h.a.shape;dsimp only at he;subst he;have HA:=hid h.a;clear h;unfold jc;dsimp only;by_cases h1:1≤a
 ·obtain⟨k,rfl⟩:∃k:Nat,a=(k:Int)+1:=⟨(a-1).toNat,by omega⟩
  by_cases h2:k<s.accts.length
  ·obtain⟨b,o,rfl,hF,hbl,g0,g1⟩:=AccD.at HA.out k h2
   have hix:s.accts[((k:Int)+1-1).toNat]?=some s.accts[k]:=by rw[show((k:Int)+1-1).toNat=k from by omega,List.getElem?_eq_getElem h2]
   have HIX:=hid hix;clear hF hix;obtain⟨bo,hbo⟩:∃bo,bo=s.accts[k].opn:=⟨_,rfl⟩;rw[← hbo]at g1;have HBO:=hid hbo;clear hbo;cases bo
   ·go_enter Tryz.func318,Tryz.ntmps318
    go_wp2;refine bodyPost_ret (v:=.tuple #[.agg #[.string ⟨#[]⟩,.bool false],.bool false]) (by simp[results,Tryz.results318,go_sem]) rfl ?_;exact⟨.inr ⟨λ⟨_,x,hx,hxo⟩=>(by rw[HIX.out]at hx;cases hx;rw[← HBO.out]at hxo;cases hxo),rfl⟩,(by repeat (first|exact Below.refl _ _|exact HB.out|refine Below.drew ?_|refine Below.alloc ?_ (by first|exact Nat.le_refl _|exact HB.out.size|(simp;done)|(simp;omega)|omega|(have:=HB.out.size;simp;omega)) _|refine Below.setCell ?_ (by first|exact Nat.le_refl _|exact HB.out.size|(simp;done)|(simp;omega)|omega|(have:=HB.out.size;simp;omega)) _))⟩
   ·go_enter Tryz.func318,Tryz.ntmps318
    go_wp2;refine bodyPost_ret (v:=.tuple #[.agg #[.string ⟨s.accts[k].name.toArray⟩,.bool true],.bool true]) (by simp[results,Tryz.results318,go_sem]) rfl ?_;exact⟨.inl ⟨⟨by omega,_,HIX.out,HBO.out.symm⟩,s.accts[k],List.getElem_mem h2,by unfold AccD.agg;rw[← HBO.out]⟩,(by repeat (first|exact Below.refl _ _|exact HB.out|refine Below.drew ?_|refine Below.alloc ?_ (by first|exact Nat.le_refl _|exact HB.out.size|(simp;done)|(simp;omega)|omega|(have:=HB.out.size;simp;omega)) _|refine Below.setCell ?_ (by first|exact Nat.le_refl _|exact HB.out.size|(simp;done)|(simp;omega)|omega|(have:=HB.out.size;simp;omega)) _))⟩
  ·go_enter Tryz.func318,Tryz.ntmps318
   go_wp2;refine bodyPost_ret (v:=.tuple #[.agg #[.string ⟨#[]⟩,.bool false],.bool false]) (by simp[results,Tryz.results318,go_sem]) rfl ?_;exact⟨.inr ⟨λ⟨_,x,hx,_⟩=>(by have:=(List.getElem?_eq_some_iff.1 hx).1;omega),rfl⟩,(by repeat (first|exact Below.refl _ _|exact HB.out|refine Below.drew ?_|refine Below.alloc ?_ (by first|exact Nat.le_refl _|exact HB.out.size|(simp;done)|(simp;omega)|omega|(have:=HB.out.size;simp;omega)) _|refine Below.setCell ?_ (by first|exact Nat.le_refl _|exact HB.out.size|(simp;done)|(simp;omega)|omega|(have:=HB.out.size;simp;omega)) _))⟩
 ·go_enter Tryz.func318,Tryz.ntmps318
  go_wp2;refine bodyPost_ret (v:=.tuple #[.agg #[.string ⟨#[]⟩,.bool false],.bool false]) (by simp[results,Tryz.results318,go_sem]) rfl ?_;exact⟨.inr ⟨λh=>(by have:=h.1;omega),rfl⟩,(by repeat (first|exact Below.refl _ _|exact HB.out|refine Below.drew ?_|refine Below.alloc ?_ (by first|exact Nat.le_refl _|exact HB.out.size|(simp;done)|(simp;omega)|omega|(have:=HB.out.size;simp;omega)) _|refine Below.setCell ?_ (by first|exact Nat.le_refl _|exact HB.out.size|(simp;done)|(simp;omega)|omega|(have:=HB.out.size;simp;omega)) _))⟩
set_option maxRecDepth 100000 in
theorem kk (F:Nat→Prop)(w:World)(v:StV)(s:StD)(h:StAt F w v s)(hlen:s.accts.length≤4398046511104)(a:Int) :
  Calls Tryz.prog 284 #[.agg (jc s v),.int .i64 a] w λe w'=>TB (jp s.accts a) e∧Below w.heap.size w w':=by
 have HH:=hid h;clear h;unfold jc
 go_enter Tryz.func284,Tryz.ntmps284
 go_wp2_with fail
 refine(kj F _ v s (HH.out.pure (ke _ _)) hlen a).mono ?_;rintro e w1 ⟨h1,hb1⟩;have HB:=hid (kc hb1)
 rcases h1 with⟨ho,x,hx,rfl⟩|⟨ho,rfl⟩
 ·clear hb1
  unfold AccD.agg;go_wp2;go_ret;exact⟨TB.yes ho,(by repeat (first|exact Below.refl _ _|exact HB.out|refine Below.drew ?_|refine Below.alloc ?_ (by first|exact Nat.le_refl _|exact HB.out.size|(simp;done)|(simp;omega)|omega|(have:=HB.out.size;simp;omega)) _|refine Below.setCell ?_ (by first|exact Nat.le_refl _|exact HB.out.size|(simp;done)|(simp;omega)|omega|(have:=HB.out.size;simp;omega)) _))⟩
 ·clear hb1
  go_wp2;go_ret;exact⟨TB.no ho,(by repeat (first|exact Below.refl _ _|exact HB.out|refine Below.drew ?_|refine Below.alloc ?_ (by first|exact Nat.le_refl _|exact HB.out.size|(simp;done)|(simp;omega)|omega|(have:=HB.out.size;simp;omega)) _|refine Below.setCell ?_ (by first|exact Nat.le_refl _|exact HB.out.size|(simp;done)|(simp;omega)|omega|(have:=HB.out.size;simp;omega)) _))⟩
def km (l:List InsD)(i:Int)(e:Ending):Prop:=(∃x,jq l i x∧e = .returned (.tuple #[x.agg,.bool true]))∨(¬jr l i∧e = .returned (.tuple #[.agg #[.string ⟨#[]⟩,.int .i64 0,.bool false],.bool false]))
theorem kn {l:List InsD}{i:Int}{x:InsD}(h:jq l i x):jr l i:=⟨h.1,by have:=(List.getElem?_eq_some_iff.1 h.2).1;have:=h.1;omega⟩
set_option maxRecDepth 100000 in
theorem ko (F:Nat→Prop)(w:World)(v:StV)(s:StD)(h:StAt F w v s)(hlen:s.insts.length≤4398046511104)(a:Int) :
  Calls Tryz.prog 288 #[.agg (jc s v),.int .i64 a] w λe w'=>km s.insts a e∧Below w.heap.size w w':=by
 obtain⟨va,vi,vr,vo,vu⟩:=v;obtain⟨a0,c0,he⟩:=h.i.shape;dsimp only at he;subst he;have HA:=hid h.i;clear h;unfold jc;dsimp only;by_cases h1:1≤a
 ·obtain⟨k,rfl⟩:∃k:Nat,a=(k:Int)+1:=⟨(a-1).toNat,by omega⟩
  by_cases h2:k<s.insts.length
  ·obtain⟨b,o,rfl,hF,hbl,g0,g1,g2⟩:=InsD.at HA.out k h2
   have hix:s.insts[((k:Int)+1-1).toNat]?=some s.insts[k]:=by rw[show((k:Int)+1-1).toNat=k from by omega,List.getElem?_eq_getElem h2]
   have HIX:=hid hix;clear hF hix
   go_enter Tryz.func288,Tryz.ntmps288
   go_wp2;refine bodyPost_ret (v:=.tuple #[.agg #[.string ⟨s.insts[k].name.toArray⟩,.int .i64 s.insts[k].tick,.bool s.insts[k].halt],.bool true]) (by simp[results,Tryz.results288,go_sem]) rfl ?_;exact⟨.inl ⟨s.insts[k],⟨by omega,HIX.out⟩,rfl⟩,(by repeat (first|exact Below.refl _ _|exact HB.out|refine Below.drew ?_|refine Below.alloc ?_ (by first|exact Nat.le_refl _|exact HB.out.size|(simp;done)|(simp;omega)|omega|(have:=HB.out.size;simp;omega)) _|refine Below.setCell ?_ (by first|exact Nat.le_refl _|exact HB.out.size|(simp;done)|(simp;omega)|omega|(have:=HB.out.size;simp;omega)) _))⟩
  ·go_enter Tryz.func288,Tryz.ntmps288
   go_wp2;refine bodyPost_ret (v:=.tuple #[.agg #[.string ⟨#[]⟩,.int .i64 0,.bool false],.bool false]) (by simp[results,Tryz.results288,go_sem]) rfl ?_;exact⟨.inr ⟨λh=>(by have:=h.2;omega),rfl⟩,(by repeat (first|exact Below.refl _ _|exact HB.out|refine Below.drew ?_|refine Below.alloc ?_ (by first|exact Nat.le_refl _|exact HB.out.size|(simp;done)|(simp;omega)|omega|(have:=HB.out.size;simp;omega)) _|refine Below.setCell ?_ (by first|exact Nat.le_refl _|exact HB.out.size|(simp;done)|(simp;omega)|omega|(have:=HB.out.size;simp;omega)) _))⟩
 ·go_enter Tryz.func288,Tryz.ntmps288
  go_wp2;refine bodyPost_ret (v:=.tuple #[.agg #[.string ⟨#[]⟩,.int .i64 0,.bool false],.bool false]) (by simp[results,Tryz.results288,go_sem]) rfl ?_;exact⟨.inr ⟨λh=>(by have:=h.1;omega),rfl⟩,(by repeat (first|exact Below.refl _ _|exact HB.out|refine Below.drew ?_|refine Below.alloc ?_ (by first|exact Nat.le_refl _|exact HB.out.size|(simp;done)|(simp;omega)|omega|(have:=HB.out.size;simp;omega)) _|refine Below.setCell ?_ (by first|exact Nat.le_refl _|exact HB.out.size|(simp;done)|(simp;omega)|omega|(have:=HB.out.size;simp;omega)) _))⟩
set_option maxRecDepth 100000 in
theorem kp (F:Nat→Prop)(w:World)(v:StV)(s:StD)(h:StAt F w v s)(hlen:s.insts.length≤4398046511104)(a:Int) :
  Calls Tryz.prog 293 #[.agg (jc s v),.int .i64 a] w λe w'=>TB (jr s.insts a) e∧Below w.heap.size w w':=by
 have HH:=hid h;clear h;unfold jc
 go_enter Tryz.func293,Tryz.ntmps293
 go_wp2_with fail
 refine(ko F _ v s (HH.out.pure (ke _ _)) hlen a).mono ?_;rintro e w1 ⟨h1,hb1⟩;have HB:=hid (kc hb1)
 rcases h1 with⟨x,hx,rfl⟩|⟨ho,rfl⟩
 ·clear hb1
  unfold InsD.agg;go_wp2;go_ret;exact⟨TB.yes (kn hx),(by repeat (first|exact Below.refl _ _|exact HB.out|refine Below.drew ?_|refine Below.alloc ?_ (by first|exact Nat.le_refl _|exact HB.out.size|(simp;done)|(simp;omega)|omega|(have:=HB.out.size;simp;omega)) _|refine Below.setCell ?_ (by first|exact Nat.le_refl _|exact HB.out.size|(simp;done)|(simp;omega)|omega|(have:=HB.out.size;simp;omega)) _))⟩
 ·clear hb1
  go_wp2;go_ret;exact⟨TB.no ho,(by repeat (first|exact Below.refl _ _|exact HB.out|refine Below.drew ?_|refine Below.alloc ?_ (by first|exact Nat.le_refl _|exact HB.out.size|(simp;done)|(simp;omega)|omega|(have:=HB.out.size;simp;omega)) _|refine Below.setCell ?_ (by first|exact Nat.le_refl _|exact HB.out.size|(simp;done)|(simp;omega)|omega|(have:=HB.out.size;simp;omega)) _))⟩
end
end Go.Proofs.YtaeakdichkhjaaaGreatDoor
