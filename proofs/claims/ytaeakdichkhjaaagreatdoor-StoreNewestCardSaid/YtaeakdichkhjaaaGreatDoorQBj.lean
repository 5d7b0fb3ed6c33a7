/- The walks of slices.Equal at each kind of thing: whether two lists are the same. -/
import Derived.Laws.StructEq
import Derived.Test.YtaeakdichkhjaaaGreatDoorQAh
set_option maxHeartbeats 2000000
open Go.Lib(hid)
namespace Go.Proofs.YtaeakdichkhjaaaGreatDoor
section
open Go.RowKit
theorem wL {α:Type}{x y:List α}{k:Nat}(h1:k<x.length)(h2:k<y.length)(ht:x.take k=y.take k)(he:x[k]=y[k]):x.take (k+1)=y.take (k+1):=by
 rw[List.take_succ_eq_append_getElem h1,List.take_succ_eq_append_getElem h2,ht,he]
theorem wM (a b:AccD)(w:World):(binOp .neq 70 (.agg #[.string ⟨a.name.toArray⟩,.bool a.opn]) (.agg #[.string ⟨b.name.toArray⟩,.bool b.opn])).run Tryz.prog w = .ok (.bool (!decide (a=b))) w:=by
 obtain⟨a0,a1⟩:=a;obtain⟨b0,b1⟩:=b
 go_simp
 (repeat' split)<;>simp_all
set_option maxRecDepth 100000 in
theorem wN (F G:Nat→Prop)(w:World)(sa sb:Value)(x y:List AccD)(hx:AccsAt F w sa x)(hy:AccsAt G w sb y)(hlx:x.length≤1099511627776)(hly:y.length≤1099511627776) :
  Calls Tryz.prog 33 #[sa,sb] w λe w'=>TB (x=y) e∧Below w.heap.size w w':=by
 obtain⟨a,c,rfl⟩:=hx.shape;obtain⟨b,d,rfl⟩:=hy.shape;have HX:=hid hx;have HY:=hid hy;clear hx hy;by_cases hl:x.length=y.length
 ·have HL:=hid hl
  have hle:((x.length:Int) != (y.length:Int))=false:=by simp[hl]
  clear hl
  go_enter Tryz.func33,Tryz.ntmps33
  go_wp2
  go_loopw [13] (λi wr=>∃k:Nat,k≤x.length∧i = .int .i64 k∧Hid (x.take k=y.take k)∧Hid (Below w.heap.size w wr)) (λi _=>x.length-(intOf i).toNat)
  case atStart=>exact⟨0,by omega,rfl,hid rfl,hid (Below.refl _ _)⟩
  case round=>
   obtain⟨k,hk,rfl,HT,HB⟩:=hrel;by_cases hlt:k<x.length
   ·have hlt2:k<y.length:=by have:=HL.out;omega
    obtain⟨b1,o1,rfl,hF1,hbl1,g0,g1⟩:=AccD.at (HX.out.pure HB.out) k hlt;obtain⟨b2,o2,rfl,hF2,hbl2,h0,h1⟩:=AccD.at (HY.out.pure HB.out) k hlt2;have HE:=hid (λe=>wL hlt hlt2 HT.out e);have HE2:=hid (show x=y→x[k]=y[k]from λe=>by subst e;rfl)
    generalize x[k]=u at *
    generalize y[k]=v at *
    have hq:=wM u v;clear hF1 hF2;by_cases huv:u=v
    ·have HN:=hid (HE.out huv)
     rw[show decide (u=v)=true from by simpa using huv]at hq;clear huv;go_wp2
     go_region
     go_wp2
     go_roundw
     case rel=>exact⟨k+1,by omega,by go_num,HN,hid HB.out.drew⟩
     case measure=>simp[intOf];omega
    ·have HN:=hid (show ¬x=y from λe=>huv (HE2.out e))
     rw[show decide (u=v)=false from by simpa using huv]at hq;clear huv;go_wp2
     go_region
     go_wp2;go_ret;exact⟨TB.no HN.out,HB.out.drew⟩
   ·have HE:=hid (show x=y from by
     have h1:=HT.out;have h2:=HL.out;rw[List.take_of_length_le (by omega),List.take_of_length_le (by omega)]at h1;exact h1)
    go_wp2;go_ret;exact⟨⟨true,by simp[HE.out],rfl⟩,HB.out⟩
 ·have HN:=hid (show ¬x=y from λe=>hl (by rw[e]))
  have hle:((x.length:Int) != (y.length:Int))=true:=by simp;omega
  have hle2:((x.length:Int) == (y.length:Int))=false:=by simp;omega
  clear hl
  go_enter Tryz.func33,Tryz.ntmps33
  go_wp2;go_ret;exact⟨TB.no HN.out,Below.refl _ _⟩
theorem wO (a b:InsD)(w:World):(binOp .neq 72 (.agg #[.string ⟨a.name.toArray⟩,.int .i64 a.tick,.bool a.halt]) (.agg #[.string ⟨b.name.toArray⟩,.int .i64 b.tick,.bool b.halt])).run Tryz.prog w = .ok (.bool (!decide (a=b))) w:=by
 obtain⟨a0,a1,a2⟩:=a;obtain⟨b0,b1,b2⟩:=b
 go_simp
 (repeat' split)<;>simp_all
set_option maxRecDepth 100000 in
theorem wP (F G:Nat→Prop)(w:World)(sa sb:Value)(x y:List InsD)(hx:InssAt F w sa x)(hy:InssAt G w sb y)(hlx:x.length≤1099511627776)(hly:y.length≤1099511627776) :
  Calls Tryz.prog 34 #[sa,sb] w λe w'=>TB (x=y) e∧Below w.heap.size w w':=by
 obtain⟨a,c,rfl⟩:=hx.shape;obtain⟨b,d,rfl⟩:=hy.shape;have HX:=hid hx;have HY:=hid hy;clear hx hy;by_cases hl:x.length=y.length
 ·have HL:=hid hl
  have hle:((x.length:Int) != (y.length:Int))=false:=by simp[hl]
  clear hl
  go_enter Tryz.func34,Tryz.ntmps34
  go_wp2
  go_loopw [13] (λi wr=>∃k:Nat,k≤x.length∧i = .int .i64 k∧Hid (x.take k=y.take k)∧Hid (Below w.heap.size w wr)) (λi _=>x.length-(intOf i).toNat)
  case atStart=>exact⟨0,by omega,rfl,hid rfl,hid (Below.refl _ _)⟩
  case round=>
   obtain⟨k,hk,rfl,HT,HB⟩:=hrel;by_cases hlt:k<x.length
   ·have hlt2:k<y.length:=by have:=HL.out;omega
    obtain⟨b1,o1,rfl,hF1,hbl1,g0,g1,g2⟩:=InsD.at (HX.out.pure HB.out) k hlt;obtain⟨b2,o2,rfl,hF2,hbl2,h0,h1,h2⟩:=InsD.at (HY.out.pure HB.out) k hlt2;have HE:=hid (λe=>wL hlt hlt2 HT.out e);have HE2:=hid (show x=y→x[k]=y[k]from λe=>by subst e;rfl)
    generalize x[k]=u at *
    generalize y[k]=v at *
    have hq:=wO u v;clear hF1 hF2;by_cases huv:u=v
    ·have HN:=hid (HE.out huv)
     rw[show decide (u=v)=true from by simpa using huv]at hq;clear huv;go_wp2
     go_region
     go_wp2
     go_roundw
     case rel=>exact⟨k+1,by omega,by go_num,HN,hid HB.out.drew⟩
     case measure=>simp[intOf];omega
    ·have HN:=hid (show ¬x=y from λe=>huv (HE2.out e))
     rw[show decide (u=v)=false from by simpa using huv]at hq;clear huv;go_wp2
     go_region
     go_wp2;go_ret;exact⟨TB.no HN.out,HB.out.drew⟩
   ·have HE:=hid (show x=y from by
     have h1:=HT.out;have h2:=HL.out;rw[List.take_of_length_le (by omega),List.take_of_length_le (by omega)]at h1;exact h1)
    go_wp2;go_ret;exact⟨⟨true,by simp[HE.out],rfl⟩,HB.out⟩
 ·have HN:=hid (show ¬x=y from λe=>hl (by rw[e]))
  have hle:((x.length:Int) != (y.length:Int))=true:=by simp;omega
  have hle2:((x.length:Int) == (y.length:Int))=false:=by simp;omega
  clear hl
  go_enter Tryz.func34,Tryz.ntmps34
  go_wp2;go_ret;exact⟨TB.no HN.out,Below.refl _ _⟩
theorem wQ (a b:RowD)(w:World):(binOp .neq 98 (.agg #[.int .i64 a.acct,.int .i64 a.asset,.int .i64 a.free,.int .i64 a.held]) (.agg #[.int .i64 b.acct,.int .i64 b.asset,.int .i64 b.free,.int .i64 b.held])).run Tryz.prog w = .ok (.bool (!decide (a=b))) w:=by
 obtain⟨a0,a1,a2,a3⟩:=a;obtain⟨b0,b1,b2,b3⟩:=b
 go_simp
 (repeat' split)<;>simp_all
set_option maxRecDepth 100000 in
theorem wR (F G:Nat→Prop)(w:World)(sa sb:Value)(x y:List RowD)(hx:RowsAt F w sa x)(hy:RowsAt G w sb y)(hlx:x.length≤1099511627776)(hly:y.length≤1099511627776) :
  Calls Tryz.prog 35 #[sa,sb] w λe w'=>TB (x=y) e∧Below w.heap.size w w':=by
 obtain⟨a,c,rfl⟩:=hx.shape;obtain⟨b,d,rfl⟩:=hy.shape;have HX:=hid hx;have HY:=hid hy;clear hx hy;by_cases hl:x.length=y.length
 ·have HL:=hid hl
  have hle:((x.length:Int) != (y.length:Int))=false:=by simp[hl]
  clear hl
  go_enter Tryz.func35,Tryz.ntmps35
  go_wp2
  go_loopw [13] (λi wr=>∃k:Nat,k≤x.length∧i = .int .i64 k∧Hid (x.take k=y.take k)∧Hid (Below w.heap.size w wr)) (λi _=>x.length-(intOf i).toNat)
  case atStart=>exact⟨0,by omega,rfl,hid rfl,hid (Below.refl _ _)⟩
  case round=>
   obtain⟨k,hk,rfl,HT,HB⟩:=hrel;by_cases hlt:k<x.length
   ·have hlt2:k<y.length:=by have:=HL.out;omega
    obtain⟨b1,o1,rfl,hF1,hbl1,g0,g1,g2,g3⟩:=RowD.at (HX.out.pure HB.out) k hlt;obtain⟨b2,o2,rfl,hF2,hbl2,h0,h1,h2,h3⟩:=RowD.at (HY.out.pure HB.out) k hlt2;have HE:=hid (λe=>wL hlt hlt2 HT.out e);have HE2:=hid (show x=y→x[k]=y[k]from λe=>by subst e;rfl)
    generalize x[k]=u at *
    generalize y[k]=v at *
    have hq:=wQ u v;clear hF1 hF2;by_cases huv:u=v
    ·have HN:=hid (HE.out huv)
     rw[show decide (u=v)=true from by simpa using huv]at hq;clear huv;go_wp2
     go_region
     go_wp2
     go_roundw
     case rel=>exact⟨k+1,by omega,by go_num,HN,hid HB.out.drew⟩
     case measure=>simp[intOf];omega
    ·have HN:=hid (show ¬x=y from λe=>huv (HE2.out e))
     rw[show decide (u=v)=false from by simpa using huv]at hq;clear huv;go_wp2
     go_region
     go_wp2;go_ret;exact⟨TB.no HN.out,HB.out.drew⟩
   ·have HE:=hid (show x=y from by
     have h1:=HT.out;have h2:=HL.out;rw[List.take_of_length_le (by omega),List.take_of_length_le (by omega)]at h1;exact h1)
    go_wp2;go_ret;exact⟨⟨true,by simp[HE.out],rfl⟩,HB.out⟩
 ·have HN:=hid (show ¬x=y from λe=>hl (by rw[e]))
  have hle:((x.length:Int) != (y.length:Int))=true:=by simp;omega
  have hle2:((x.length:Int) == (y.length:Int))=false:=by simp;omega
  clear hl
  go_enter Tryz.func35,Tryz.ntmps35
  go_wp2;go_ret;exact⟨TB.no HN.out,Below.refl _ _⟩
theorem wS (a b:OrdD)(w:World):(binOp .neq 101 (.agg #[.int .i64 a.id,.int .i64 a.acct,.int .i64 a.inst,.int .u8 a.side,.int .i64 a.price,.int .i64 a.left]) (.agg #[.int .i64 b.id,.int .i64 b.acct,.int .i64 b.inst,.int .u8 b.side,.int .i64 b.price,.int .i64 b.left])).run Tryz.prog w = .ok (.bool (!decide (a=b))) w:=by
 obtain⟨a0,a1,a2,a3,a4,a5⟩:=a;obtain⟨b0,b1,b2,b3,b4,b5⟩:=b
 go_simp
 (repeat' split)<;>simp_all
set_option maxRecDepth 100000 in
theorem wT (F G:Nat→Prop)(w:World)(sa sb:Value)(x y:List OrdD)(hx:OrdsAt F w sa x)(hy:OrdsAt G w sb y)(hlx:x.length≤1099511627776)(hly:y.length≤1099511627776) :
  Calls Tryz.prog 36 #[sa,sb] w λe w'=>TB (x=y) e∧Below w.heap.size w w':=by
 obtain⟨a,c,rfl⟩:=hx.shape;obtain⟨b,d,rfl⟩:=hy.shape;have HX:=hid hx;have HY:=hid hy;clear hx hy;by_cases hl:x.length=y.length
 ·have HL:=hid hl
  have hle:((x.length:Int) != (y.length:Int))=false:=by simp[hl]
  clear hl
  go_enter Tryz.func36,Tryz.ntmps36
  go_wp2
  go_loopw [13] (λi wr=>∃k:Nat,k≤x.length∧i = .int .i64 k∧Hid (x.take k=y.take k)∧Hid (Below w.heap.size w wr)) (λi _=>x.length-(intOf i).toNat)
  case atStart=>exact⟨0,by omega,rfl,hid rfl,hid (Below.refl _ _)⟩
  case round=>
   obtain⟨k,hk,rfl,HT,HB⟩:=hrel;by_cases hlt:k<x.length
   ·have hlt2:k<y.length:=by have:=HL.out;omega
    obtain⟨b1,o1,rfl,hF1,hbl1,g0,g1,g2,g3,g4,g5⟩:=OrdD.at (HX.out.pure HB.out) k hlt;obtain⟨b2,o2,rfl,hF2,hbl2,h0,h1,h2,h3,h4,h5⟩:=OrdD.at (HY.out.pure HB.out) k hlt2;have HE:=hid (λe=>wL hlt hlt2 HT.out e);have HE2:=hid (show x=y→x[k]=y[k]from λe=>by subst e;rfl)
    generalize x[k]=u at *
    generalize y[k]=v at *
    have hq:=wS u v;clear hF1 hF2;by_cases huv:u=v
    ·have HN:=hid (HE.out huv)
     rw[show decide (u=v)=true from by simpa using huv]at hq;clear huv;go_wp2
     go_region
     go_wp2
     go_roundw
     case rel=>exact⟨k+1,by omega,by go_num,HN,hid HB.out.drew⟩
     case measure=>simp[intOf];omega
    ·have HN:=hid (show ¬x=y from λe=>huv (HE2.out e))
     rw[show decide (u=v)=false from by simpa using huv]at hq;clear huv;go_wp2
     go_region
     go_wp2;go_ret;exact⟨TB.no HN.out,HB.out.drew⟩
   ·have HE:=hid (show x=y from by
     have h1:=HT.out;have h2:=HL.out;rw[List.take_of_length_le (by omega),List.take_of_length_le (by omega)]at h1;exact h1)
    go_wp2;go_ret;exact⟨⟨true,by simp[HE.out],rfl⟩,HB.out⟩
 ·have HN:=hid (show ¬x=y from λe=>hl (by rw[e]))
  have hle:((x.length:Int) != (y.length:Int))=true:=by simp;omega
  have hle2:((x.length:Int) == (y.length:Int))=false:=by simp;omega
  clear hl
  go_enter Tryz.func36,Tryz.ntmps36
  go_wp2;go_ret;exact⟨TB.no HN.out,Below.refl _ _⟩
theorem wU (a b:BidD)(w:World):(binOp .neq 150 (.agg #[.int .i64 a.acct,.int .i64 a.amount]) (.agg #[.int .i64 b.acct,.int .i64 b.amount])).run Tryz.prog w = .ok (.bool (!decide (a=b))) w:=by
 obtain⟨a0,a1⟩:=a;obtain⟨b0,b1⟩:=b
 go_simp
 (repeat' split)<;>simp_all
set_option maxRecDepth 100000 in
theorem wV (F G:Nat→Prop)(w:World)(sa sb:Value)(x y:List BidD)(hx:BidsAt F w sa x)(hy:BidsAt G w sb y)(hlx:x.length≤1099511627776)(hly:y.length≤1099511627776) :
  Calls Tryz.prog 72 #[sa,sb] w λe w'=>TB (x=y) e∧Below w.heap.size w w':=by
 obtain⟨a,c,rfl⟩:=hx.shape;obtain⟨b,d,rfl⟩:=hy.shape;have HX:=hid hx;have HY:=hid hy;clear hx hy;by_cases hl:x.length=y.length
 ·have HL:=hid hl
  have hle:((x.length:Int) != (y.length:Int))=false:=by simp[hl]
  clear hl
  go_enter Tryz.func72,Tryz.ntmps72
  go_wp2
  go_loopw [13] (λi wr=>∃k:Nat,k≤x.length∧i = .int .i64 k∧Hid (x.take k=y.take k)∧Hid (Below w.heap.size w wr)) (λi _=>x.length-(intOf i).toNat)
  case atStart=>exact⟨0,by omega,rfl,hid rfl,hid (Below.refl _ _)⟩
  case round=>
   obtain⟨k,hk,rfl,HT,HB⟩:=hrel;by_cases hlt:k<x.length
   ·have hlt2:k<y.length:=by have:=HL.out;omega
    obtain⟨b1,o1,rfl,hF1,hbl1,g0,g1⟩:=BidD.at (HX.out.pure HB.out) k hlt;obtain⟨b2,o2,rfl,hF2,hbl2,h0,h1⟩:=BidD.at (HY.out.pure HB.out) k hlt2;have HE:=hid (λe=>wL hlt hlt2 HT.out e);have HE2:=hid (show x=y→x[k]=y[k]from λe=>by subst e;rfl)
    generalize x[k]=u at *
    generalize y[k]=v at *
    have hq:=wU u v;clear hF1 hF2;by_cases huv:u=v
    ·have HN:=hid (HE.out huv)
     rw[show decide (u=v)=true from by simpa using huv]at hq;clear huv;go_wp2
     go_region
     go_wp2
     go_roundw
     case rel=>exact⟨k+1,by omega,by go_num,HN,hid HB.out.drew⟩
     case measure=>simp[intOf];omega
    ·have HN:=hid (show ¬x=y from λe=>huv (HE2.out e))
     rw[show decide (u=v)=false from by simpa using huv]at hq;clear huv;go_wp2
     go_region
     go_wp2;go_ret;exact⟨TB.no HN.out,HB.out.drew⟩
   ·have HE:=hid (show x=y from by
     have h1:=HT.out;have h2:=HL.out;rw[List.take_of_length_le (by omega),List.take_of_length_le (by omega)]at h1;exact h1)
    go_wp2;go_ret;exact⟨⟨true,by simp[HE.out],rfl⟩,HB.out⟩
 ·have HN:=hid (show ¬x=y from λe=>hl (by rw[e]))
  have hle:((x.length:Int) != (y.length:Int))=true:=by simp;omega
  have hle2:((x.length:Int) == (y.length:Int))=false:=by simp;omega
  clear hl
  go_enter Tryz.func72,Tryz.ntmps72
  go_wp2;go_ret;exact⟨TB.no HN.out,Below.refl _ _⟩
theorem wW (a b:OpnD)(w:World):(binOp .neq 106 (.agg #[.int .i64 a.acct,.int .i64 a.id,.int .i64 a.inst,.int .u8 a.side,.int .i64 a.price,.int .i64 a.left]) (.agg #[.int .i64 b.acct,.int .i64 b.id,.int .i64 b.inst,.int .u8 b.side,.int .i64 b.price,.int .i64 b.left])).run Tryz.prog w = .ok (.bool (!decide (a=b))) w:=by
 obtain⟨a0,a1,a2,a3,a4,a5⟩:=a;obtain⟨b0,b1,b2,b3,b4,b5⟩:=b
 go_simp
 (repeat' split)<;>simp_all
set_option maxRecDepth 100000 in
theorem wX (F G:Nat→Prop)(w:World)(sa sb:Value)(x y:List OpnD)(hx:OpnsAt F w sa x)(hy:OpnsAt G w sb y)(hlx:x.length≤1099511627776)(hly:y.length≤1099511627776) :
  Calls Tryz.prog 39 #[sa,sb] w λe w'=>TB (x=y) e∧Below w.heap.size w w':=by
 obtain⟨a,c,rfl⟩:=hx.shape;obtain⟨b,d,rfl⟩:=hy.shape;have HX:=hid hx;have HY:=hid hy;clear hx hy;by_cases hl:x.length=y.length
 ·have HL:=hid hl
  have hle:((x.length:Int) != (y.length:Int))=false:=by simp[hl]
  clear hl
  go_enter Tryz.func39,Tryz.ntmps39
  go_wp2
  go_loopw [13] (λi wr=>∃k:Nat,k≤x.length∧i = .int .i64 k∧Hid (x.take k=y.take k)∧Hid (Below w.heap.size w wr)) (λi _=>x.length-(intOf i).toNat)
  case atStart=>exact⟨0,by omega,rfl,hid rfl,hid (Below.refl _ _)⟩
  case round=>
   obtain⟨k,hk,rfl,HT,HB⟩:=hrel;by_cases hlt:k<x.length
   ·have hlt2:k<y.length:=by have:=HL.out;omega
    obtain⟨b1,o1,rfl,hF1,hbl1,g0,g1,g2,g3,g4,g5⟩:=OpnD.at (HX.out.pure HB.out) k hlt;obtain⟨b2,o2,rfl,hF2,hbl2,h0,h1,h2,h3,h4,h5⟩:=OpnD.at (HY.out.pure HB.out) k hlt2;have HE:=hid (λe=>wL hlt hlt2 HT.out e);have HE2:=hid (show x=y→x[k]=y[k]from λe=>by subst e;rfl)
    generalize x[k]=u at *
    generalize y[k]=v at *
    have hq:=wW u v;clear hF1 hF2;by_cases huv:u=v
    ·have HN:=hid (HE.out huv)
     rw[show decide (u=v)=true from by simpa using huv]at hq;clear huv;go_wp2
     go_region
     go_wp2
     go_roundw
     case rel=>exact⟨k+1,by omega,by go_num,HN,hid HB.out.drew⟩
     case measure=>simp[intOf];omega
    ·have HN:=hid (show ¬x=y from λe=>huv (HE2.out e))
     rw[show decide (u=v)=false from by simpa using huv]at hq;clear huv;go_wp2
     go_region
     go_wp2;go_ret;exact⟨TB.no HN.out,HB.out.drew⟩
   ·have HE:=hid (show x=y from by
     have h1:=HT.out;have h2:=HL.out;rw[List.take_of_length_le (by omega),List.take_of_length_le (by omega)]at h1;exact h1)
    go_wp2;go_ret;exact⟨⟨true,by simp[HE.out],rfl⟩,HB.out⟩
 ·have HN:=hid (show ¬x=y from λe=>hl (by rw[e]))
  have hle:((x.length:Int) != (y.length:Int))=true:=by simp;omega
  have hle2:((x.length:Int) == (y.length:Int))=false:=by simp;omega
  clear hl
  go_enter Tryz.func39,Tryz.ntmps39
  go_wp2;go_ret;exact⟨TB.no HN.out,Below.refl _ _⟩
theorem wY (a b:LotD)(w:World):(binOp .neq 109 (.agg #[.int .i64 a.id,.int .i64 a.seller,.int .i64 a.inst,.int .i64 a.qty]) (.agg #[.int .i64 b.id,.int .i64 b.seller,.int .i64 b.inst,.int .i64 b.qty])).run Tryz.prog w = .ok (.bool (!decide (a=b))) w:=by
 obtain⟨a0,a1,a2,a3⟩:=a;obtain⟨b0,b1,b2,b3⟩:=b
 go_simp
 (repeat' split)<;>simp_all
set_option maxRecDepth 100000 in
theorem wZ (F G:Nat→Prop)(w:World)(sa sb:Value)(x y:List LotD)(hx:LotsAt F w sa x)(hy:LotsAt G w sb y)(hlx:x.length≤1099511627776)(hly:y.length≤1099511627776) :
  Calls Tryz.prog 40 #[sa,sb] w λe w'=>TB (x=y) e∧Below w.heap.size w w':=by
 obtain⟨a,c,rfl⟩:=hx.shape;obtain⟨b,d,rfl⟩:=hy.shape;have HX:=hid hx;have HY:=hid hy;clear hx hy;by_cases hl:x.length=y.length
 ·have HL:=hid hl
  have hle:((x.length:Int) != (y.length:Int))=false:=by simp[hl]
  clear hl
  go_enter Tryz.func40,Tryz.ntmps40
  go_wp2
  go_loopw [13] (λi wr=>∃k:Nat,k≤x.length∧i = .int .i64 k∧Hid (x.take k=y.take k)∧Hid (Below w.heap.size w wr)) (λi _=>x.length-(intOf i).toNat)
  case atStart=>exact⟨0,by omega,rfl,hid rfl,hid (Below.refl _ _)⟩
  case round=>
   obtain⟨k,hk,rfl,HT,HB⟩:=hrel;by_cases hlt:k<x.length
   ·have hlt2:k<y.length:=by have:=HL.out;omega
    obtain⟨b1,o1,rfl,hF1,hbl1,g0,g1,g2,g3⟩:=LotD.at (HX.out.pure HB.out) k hlt;obtain⟨b2,o2,rfl,hF2,hbl2,h0,h1,h2,h3⟩:=LotD.at (HY.out.pure HB.out) k hlt2;have HE:=hid (λe=>wL hlt hlt2 HT.out e);have HE2:=hid (show x=y→x[k]=y[k]from λe=>by subst e;rfl)
    generalize x[k]=u at *
    generalize y[k]=v at *
    have hq:=wY u v;clear hF1 hF2;by_cases huv:u=v
    ·have HN:=hid (HE.out huv)
     rw[show decide (u=v)=true from by simpa using huv]at hq;clear huv;go_wp2
     go_region
     go_wp2
     go_roundw
     case rel=>exact⟨k+1,by omega,by go_num,HN,hid HB.out.drew⟩
     case measure=>simp[intOf];omega
    ·have HN:=hid (show ¬x=y from λe=>huv (HE2.out e))
     rw[show decide (u=v)=false from by simpa using huv]at hq;clear huv;go_wp2
     go_region
     go_wp2;go_ret;exact⟨TB.no HN.out,HB.out.drew⟩
   ·have HE:=hid (show x=y from by
     have h1:=HT.out;have h2:=HL.out;rw[List.take_of_length_le (by omega),List.take_of_length_le (by omega)]at h1;exact h1)
    go_wp2;go_ret;exact⟨⟨true,by simp[HE.out],rfl⟩,HB.out⟩
 ·have HN:=hid (show ¬x=y from λe=>hl (by rw[e]))
  have hle:((x.length:Int) != (y.length:Int))=true:=by simp;omega
  have hle2:((x.length:Int) == (y.length:Int))=false:=by simp;omega
  clear hl
  go_enter Tryz.func40,Tryz.ntmps40
  go_wp2;go_ret;exact⟨TB.no HN.out,Below.refl _ _⟩
theorem xb (a b:PosD)(w:World):(binOp .neq 112 (.agg #[.int .i64 a.acct,.int .i64 a.inst,.int .i64 a.bought,.int .i64 a.sold,.int .i64 a.spent,.int .i64 a.got]) (.agg #[.int .i64 b.acct,.int .i64 b.inst,.int .i64 b.bought,.int .i64 b.sold,.int .i64 b.spent,.int .i64 b.got])).run Tryz.prog w = .ok (.bool (!decide (a=b))) w:=by
 obtain⟨a0,a1,a2,a3,a4,a5⟩:=a;obtain⟨b0,b1,b2,b3,b4,b5⟩:=b
 go_simp
 (repeat' split)<;>simp_all
set_option maxRecDepth 100000 in
theorem xc (F G:Nat→Prop)(w:World)(sa sb:Value)(x y:List PosD)(hx:PossAt F w sa x)(hy:PossAt G w sb y)(hlx:x.length≤1099511627776)(hly:y.length≤1099511627776) :
  Calls Tryz.prog 41 #[sa,sb] w λe w'=>TB (x=y) e∧Below w.heap.size w w':=by
 obtain⟨a,c,rfl⟩:=hx.shape;obtain⟨b,d,rfl⟩:=hy.shape;have HX:=hid hx;have HY:=hid hy;clear hx hy;by_cases hl:x.length=y.length
 ·have HL:=hid hl
  have hle:((x.length:Int) != (y.length:Int))=false:=by simp[hl]
  clear hl
  go_enter Tryz.func41,Tryz.ntmps41
  go_wp2
  go_loopw [13] (λi wr=>∃k:Nat,k≤x.length∧i = .int .i64 k∧Hid (x.take k=y.take k)∧Hid (Below w.heap.size w wr)) (λi _=>x.length-(intOf i).toNat)
  case atStart=>exact⟨0,by omega,rfl,hid rfl,hid (Below.refl _ _)⟩
  case round=>
   obtain⟨k,hk,rfl,HT,HB⟩:=hrel;by_cases hlt:k<x.length
   ·have hlt2:k<y.length:=by have:=HL.out;omega
    obtain⟨b1,o1,rfl,hF1,hbl1,g0,g1,g2,g3,g4,g5⟩:=PosD.at (HX.out.pure HB.out) k hlt;obtain⟨b2,o2,rfl,hF2,hbl2,h0,h1,h2,h3,h4,h5⟩:=PosD.at (HY.out.pure HB.out) k hlt2;have HE:=hid (λe=>wL hlt hlt2 HT.out e);have HE2:=hid (show x=y→x[k]=y[k]from λe=>by subst e;rfl)
    generalize x[k]=u at *
    generalize y[k]=v at *
    have hq:=xb u v;clear hF1 hF2;by_cases huv:u=v
    ·have HN:=hid (HE.out huv)
     rw[show decide (u=v)=true from by simpa using huv]at hq;clear huv;go_wp2
     go_region
     go_wp2
     go_roundw
     case rel=>exact⟨k+1,by omega,by go_num,HN,hid HB.out.drew⟩
     case measure=>simp[intOf];omega
    ·have HN:=hid (show ¬x=y from λe=>huv (HE2.out e))
     rw[show decide (u=v)=false from by simpa using huv]at hq;clear huv;go_wp2
     go_region
     go_wp2;go_ret;exact⟨TB.no HN.out,HB.out.drew⟩
   ·have HE:=hid (show x=y from by
     have h1:=HT.out;have h2:=HL.out;rw[List.take_of_length_le (by omega),List.take_of_length_le (by omega)]at h1;exact h1)
    go_wp2;go_ret;exact⟨⟨true,by simp[HE.out],rfl⟩,HB.out⟩
 ·have HN:=hid (show ¬x=y from λe=>hl (by rw[e]))
  have hle:((x.length:Int) != (y.length:Int))=true:=by simp;omega
  have hle2:((x.length:Int) == (y.length:Int))=false:=by simp;omega
  clear hl
  go_enter Tryz.func41,Tryz.ntmps41
  go_wp2;go_ret;exact⟨TB.no HN.out,Below.refl _ _⟩
theorem xd (a b:LinD)(w:World):(binOp .neq 115 (.agg #[.int .i64 a.acct,.int .i64 a.seq,.int .u8 a.kind,.int .i64 a.delta,.int .i64 a.balance]) (.agg #[.int .i64 b.acct,.int .i64 b.seq,.int .u8 b.kind,.int .i64 b.delta,.int .i64 b.balance])).run Tryz.prog w = .ok (.bool (!decide (a=b))) w:=by
 obtain⟨a0,a1,a2,a3,a4⟩:=a;obtain⟨b0,b1,b2,b3,b4⟩:=b
 go_simp
 (repeat' split)<;>simp_all
set_option maxRecDepth 100000 in
theorem xe (F G:Nat→Prop)(w:World)(sa sb:Value)(x y:List LinD)(hx:LinsAt F w sa x)(hy:LinsAt G w sb y)(hlx:x.length≤1099511627776)(hly:y.length≤1099511627776) :
  Calls Tryz.prog 42 #[sa,sb] w λe w'=>TB (x=y) e∧Below w.heap.size w w':=by
 obtain⟨a,c,rfl⟩:=hx.shape;obtain⟨b,d,rfl⟩:=hy.shape;have HX:=hid hx;have HY:=hid hy;clear hx hy;by_cases hl:x.length=y.length
 ·have HL:=hid hl
  have hle:((x.length:Int) != (y.length:Int))=false:=by simp[hl]
  clear hl
  go_enter Tryz.func42,Tryz.ntmps42
  go_wp2
  go_loopw [13] (λi wr=>∃k:Nat,k≤x.length∧i = .int .i64 k∧Hid (x.take k=y.take k)∧Hid (Below w.heap.size w wr)) (λi _=>x.length-(intOf i).toNat)
  case atStart=>exact⟨0,by omega,rfl,hid rfl,hid (Below.refl _ _)⟩
  case round=>
   obtain⟨k,hk,rfl,HT,HB⟩:=hrel;by_cases hlt:k<x.length
   ·have hlt2:k<y.length:=by have:=HL.out;omega
    obtain⟨b1,o1,rfl,hF1,hbl1,g0,g1,g2,g3,g4⟩:=LinD.at (HX.out.pure HB.out) k hlt;obtain⟨b2,o2,rfl,hF2,hbl2,h0,h1,h2,h3,h4⟩:=LinD.at (HY.out.pure HB.out) k hlt2;have HE:=hid (λe=>wL hlt hlt2 HT.out e);have HE2:=hid (show x=y→x[k]=y[k]from λe=>by subst e;rfl)
    generalize x[k]=u at *
    generalize y[k]=v at *
    have hq:=xd u v;clear hF1 hF2;by_cases huv:u=v
    ·have HN:=hid (HE.out huv)
     rw[show decide (u=v)=true from by simpa using huv]at hq;clear huv;go_wp2
     go_region
     go_wp2
     go_roundw
     case rel=>exact⟨k+1,by omega,by go_num,HN,hid HB.out.drew⟩
     case measure=>simp[intOf];omega
    ·have HN:=hid (show ¬x=y from λe=>huv (HE2.out e))
     rw[show decide (u=v)=false from by simpa using huv]at hq;clear huv;go_wp2
     go_region
     go_wp2;go_ret;exact⟨TB.no HN.out,HB.out.drew⟩
   ·have HE:=hid (show x=y from by
     have h1:=HT.out;have h2:=HL.out;rw[List.take_of_length_le (by omega),List.take_of_length_le (by omega)]at h1;exact h1)
    go_wp2;go_ret;exact⟨⟨true,by simp[HE.out],rfl⟩,HB.out⟩
 ·have HN:=hid (show ¬x=y from λe=>hl (by rw[e]))
  have hle:((x.length:Int) != (y.length:Int))=true:=by simp;omega
  have hle2:((x.length:Int) == (y.length:Int))=false:=by simp;omega
  clear hl
  go_enter Tryz.func42,Tryz.ntmps42
  go_wp2;go_ret;exact⟨TB.no HN.out,Below.refl _ _⟩
end
end Go.Proofs.YtaeakdichkhjaaaGreatDoor
