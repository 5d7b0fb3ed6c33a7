/- The walk of state.named, at any names of the call's own. -/
import Derived.Test.YtaeakdichkhjaaaGreatDoorQAh
import Derived.Lib.SlicesCompact
import Derived.Sort.OwnSorted
import Derived.Laws.IdiomStrings
import Derived.Lib.OwnBridge
import Derived.Test.YtaeakdichkhjaaaGreatDoorShelf
import Derived.Test.YtaeakdichkhjaaaGreatDoorShelfF
set_option maxHeartbeats 2000000
open Go.Lib(hid)
namespace Go.Proofs.YtaeakdichkhjaaaGreatDoor
section
open Go.RowKit
theorem m2 {α:Type}{P:α→Bool}{xs:List α}(h:∀j (h:j<xs.length),P xs[j]=false):xs.any P=false:=by
 rw[List.any_eq_false];intro x hx;obtain⟨i,hi,rfl⟩:=List.getElem_of_mem hx;simp[h i hi]
theorem m3 {α:Type}{P:α→Bool}{xs:List α}{j:Nat}(hj:j<xs.length)(h:P xs[j]=true):xs.any P=true:=List.any_eq_true.2 ⟨_,List.getElem_mem hj,h⟩
def FirstAt {α:Type}(P:α→Bool)(xs:List α)(k:Nat):Prop:=k≤xs.length∧(∀j (h:j<xs.length),j<k→P xs[j]=false)∧(∀h:k<xs.length,P xs[k]=true)
theorem FirstAt.any {α:Type}{P:α→Bool}{xs:List α}{k:Nat}(h:FirstAt P xs k):xs.any P=decide (k<xs.length):=by
 by_cases hk:k<xs.length
 ·rw[m3 hk (h.2.2 hk),decide_eq_true hk]
 ·rw[decide_eq_false hk]
  exact m2 λj hj=>h.2.1 j hj (by have:=h.1;omega)
abbrev StrsAt (F:Nat→Prop) (w:World) (sv:Value) (xs:List (List UInt8)):Prop:=SlAt (λs=>[Value.string ⟨s.toArray⟩]) 1 F w sv xs
theorem StrsAt.at {F:Nat→Prop}{w:World}{a:Option Addr}{c n:Nat}{xs:List (List UInt8)}(h:StrsAt F w (.slice a n c) xs)(k:Nat)(hk:k<xs.length) :
  ∃b o,a=some ⟨b,o,none⟩∧F b∧b<w.heap.size∧w.cell? ⟨b,o+k,none⟩=some (.string ⟨xs[k].toArray⟩):=by
 obtain⟨b,o,ha,hb,hc⟩:=h.get k hk;have:=hc 0 _ rfl;rw[Nat.mul_one,Nat.add_zero]at this;exact⟨b,o,ha,hb,aA this,this⟩
set_option maxRecDepth 100000 in
theorem m4 (w:World)(F:Nat→Prop)(sv:Value)(xs:List (List UInt8))(hx:StrsAt F w sv xs)(hlen:xs.length≤4398046511104)(fk:FuncId)(hent:Enters Tryz.prog fk)(P:(List UInt8)→Bool)
  (hcall:∀(W:World) (k:Nat) (hk:k<xs.length),Below w.heap.size w W→Calls Tryz.prog fk #[.string ⟨xs[k].toArray⟩] W λe w'=>e = .returned (.bool (P xs[k]))∧Below W.heap.size W w') :
  Calls Tryz.prog 336 #[sv,.func (.func fk) #[] #[]] w λe w'=>∃k,FirstAt P xs k∧e = .returned (.int .i64 (if k<xs.length then (k:Int) else -1))∧Below w.heap.size w w':=by
 obtain⟨a,c,rfl⟩:=hx.shape;have HX:=hid hx;have HC:=hid hcall;have ent:∀(args:Array Value) (w:World),(callFunc fk args).run Tryz.prog w = .ok (.enter fk args) w:=hent;clear hx hcall hent
 go_enter Tryz.func336,Tryz.ntmps336
 go_wp2
 go_loopw [8] (λi wr=>∃k:Nat,i = .int .i64 k∧k≤xs.length∧Hid (Below w.heap.size w wr)∧Hid (∀j (h:j<xs.length),j<k→P xs[j]=false)) (λi _=>xs.length-(intOf i).toNat)
 case atStart=>exact⟨0,rfl,by omega,hid (Below.refl _ _),hid (λj _ h=>by omega)⟩
 case round=>
  obtain⟨k,rfl,hk,HB,HP⟩:=hrel;by_cases hlt:k<xs.length
  ·obtain⟨b,o,rfl,hF,hbl,h0⟩:=StrsAt.at (HX.out.pure HB.out) k hlt
   have HCALL:=hid (HC.out wr k hlt HB.out);clear hF
   go_wp2_with fail
   refine HCALL.out.mono ?_;rintro e w1 ⟨rfl,hb1⟩;have HB1:=hid (HB.out.trans (hb1.mono HB.out.size));clear hb1;cases hst:P xs[k]
   ·have HST:=hid hst
    clear hst;go_wp2;refine⟨⟨k+1,by go_num,by omega,HB1,hid (λj h hj=>?_)⟩,?_⟩
    ·by_cases hjk:j=k
     ·subst hjk;exact HST.out
     ·exact HP.out j h (by omega)
    ·simp[intOf];omega
   ·have HST:=hid hst
    clear hst;go_wp2;go_ret;exact⟨k,⟨hk,HP.out,λ_=>HST.out⟩,by rw[if_pos hlt];rfl,HB1.out⟩
  ·obtain rfl:k=xs.length:=by omega
   go_wp2;go_ret;exact⟨xs.length,⟨Nat.le_refl _,HP.out,λh=>absurd h (by omega)⟩,by rw[if_neg (by omega)];rfl,HB.out⟩
set_option maxRecDepth 100000 in
theorem m6 (w:World)(F:Nat→Prop)(sv:Value)(xs:List (List UInt8))(hx:StrsAt F w sv xs)(hlen:xs.length≤4398046511104)(fk:FuncId)(hent:Enters Tryz.prog fk)(P:(List UInt8)→Bool)
  (hcall:∀(W:World) (k:Nat) (hk:k<xs.length),Below w.heap.size w W→Calls Tryz.prog fk #[.string ⟨xs[k].toArray⟩] W λe w'=>e = .returned (.bool (P xs[k]))∧Below W.heap.size W w') :
  Calls Tryz.prog 313 #[sv,.func (.func fk) #[] #[]] w λe w'=>e = .returned (.bool (xs.any P))∧Below w.heap.size w w':=by
 have HI:=hid (m4 w F sv xs hx hlen fk hent P hcall);clear hx hcall hent
 go_enter Tryz.func313,Tryz.ntmps313
 go_wp2_with fail
 refine HI.out.mono ?_;rintro e w1 ⟨k,hk,rfl,hb⟩;have HB:=hid hb;have HE:=hid hk.any;clear hb hk;by_cases hlt:k<xs.length
 ·rw[if_pos hlt]
  go_wp2;go_ret;exact⟨by rw[HE.out,decide_eq_true hlt];rfl,HB.out⟩
 ·rw[if_neg hlt]
  go_wp2;go_ret;exact⟨by rw[HE.out,decide_eq_false hlt];rfl,HB.out⟩
set_option maxRecDepth 100000 in
theorem nc (w:World)(F:Nat→Prop)(sv:Value)(xs:List RowD)(hx:RowsAt F w sv xs)(hlen:xs.length≤4398046511104)(fk:FuncId)(c1:Value)(hent:Enters Tryz.prog fk)(P:RowD→Bool)
  (hcall:∀(W:World) (k:Nat) (hk:k<xs.length),Below w.heap.size w W→Calls Tryz.prog fk #[xs[k].agg,c1] W λe w'=>e = .returned (.bool (P xs[k]))∧Below W.heap.size W w') :
  Calls Tryz.prog 322 #[sv,.func (.func fk) #[] #[c1]] w λe w'=>∃k,FirstAt P xs k∧e = .returned (.int .i64 (if k<xs.length then (k:Int) else -1))∧Below w.heap.size w w':=by
 obtain⟨a,c,rfl⟩:=hx.shape;have HX:=hid hx;have HC:=hid hcall;have ent:∀(args:Array Value) (w:World),(callFunc fk args).run Tryz.prog w = .ok (.enter fk args) w:=hent;clear hx hcall hent
 go_enter Tryz.func322,Tryz.ntmps322
 go_wp2
 go_loopw [8] (λi wr=>∃k:Nat,i = .int .i64 k∧k≤xs.length∧Hid (Below w.heap.size w wr)∧Hid (∀j (h:j<xs.length),j<k→P xs[j]=false)) (λi _=>xs.length-(intOf i).toNat)
 case atStart=>exact⟨0,rfl,by omega,hid (Below.refl _ _),hid (λj _ h=>by omega)⟩
 case round=>
  obtain⟨k,rfl,hk,HB,HP⟩:=hrel;by_cases hlt:k<xs.length
  ·obtain⟨b,o,rfl,hF,hbl,h0,h1,h2,h3⟩:=RowD.at (HX.out.pure HB.out) k hlt
   have HCALL:=hid (HC.out wr k hlt HB.out);clear hF
   go_wp2_with fail
   refine HCALL.out.mono ?_;rintro e w1 ⟨rfl,hb1⟩;have HB1:=hid (HB.out.trans (hb1.mono HB.out.size));clear hb1;cases hst:P xs[k]
   ·have HST:=hid hst
    clear hst;go_wp2;refine⟨⟨k+1,by go_num,by omega,HB1,hid (λj h hj=>?_)⟩,?_⟩
    ·by_cases hjk:j=k
     ·subst hjk;exact HST.out
     ·exact HP.out j h (by omega)
    ·simp[intOf];omega
   ·have HST:=hid hst
    clear hst;go_wp2;go_ret;exact⟨k,⟨hk,HP.out,λ_=>HST.out⟩,by rw[if_pos hlt];rfl,HB1.out⟩
  ·obtain rfl:k=xs.length:=by omega
   go_wp2;go_ret;exact⟨xs.length,⟨Nat.le_refl _,HP.out,λh=>absurd h (by omega)⟩,by rw[if_neg (by omega)];rfl,HB.out⟩
set_option maxRecDepth 100000 in
theorem nf (w:World)(F:Nat→Prop)(sv:Value)(xs:List RowD)(hx:RowsAt F w sv xs)(hlen:xs.length≤4398046511104)(fk:FuncId)(c1:Value)(hent:Enters Tryz.prog fk)(P:RowD→Bool)
  (hcall:∀(W:World) (k:Nat) (hk:k<xs.length),Below w.heap.size w W→Calls Tryz.prog fk #[xs[k].agg,c1] W λe w'=>e = .returned (.bool (P xs[k]))∧Below W.heap.size W w') :
  Calls Tryz.prog 286 #[sv,.func (.func fk) #[] #[c1]] w λe w'=>e = .returned (.bool (xs.any P))∧Below w.heap.size w w':=by
 have HI:=hid (nc w F sv xs hx hlen fk c1 hent P hcall);clear hx hcall hent
 go_enter Tryz.func286,Tryz.ntmps286
 go_wp2_with fail
 refine HI.out.mono ?_;rintro e w1 ⟨k,hk,rfl,hb⟩;have HB:=hid hb;have HE:=hid hk.any;clear hb hk;by_cases hlt:k<xs.length
 ·rw[if_pos hlt]
  go_wp2;go_ret;exact⟨by rw[HE.out,decide_eq_true hlt];rfl,HB.out⟩
 ·rw[if_neg hlt]
  go_wp2;go_ret;exact⟨by rw[HE.out,decide_eq_false hlt];rfl,HB.out⟩
set_option maxRecDepth 100000 in
theorem ng (w:World)(F:Nat→Prop)(sv:Value)(xs:List OrdD)(hx:OrdsAt F w sv xs)(hlen:xs.length≤4398046511104)(fk:FuncId)(hent:Enters Tryz.prog fk)(P:OrdD→Bool)
  (hcall:∀(W:World) (k:Nat) (hk:k<xs.length),Below w.heap.size w W→Calls Tryz.prog fk #[xs[k].agg] W λe w'=>e = .returned (.bool (P xs[k]))∧Below W.heap.size W w') :
  Calls Tryz.prog 326 #[sv,.func (.func fk) #[] #[]] w λe w'=>∃k,FirstAt P xs k∧e = .returned (.int .i64 (if k<xs.length then (k:Int) else -1))∧Below w.heap.size w w':=by
 obtain⟨a,c,rfl⟩:=hx.shape;have HX:=hid hx;have HC:=hid hcall;have ent:∀(args:Array Value) (w:World),(callFunc fk args).run Tryz.prog w = .ok (.enter fk args) w:=hent;clear hx hcall hent
 go_enter Tryz.func326,Tryz.ntmps326
 go_wp2
 go_loopw [8] (λi wr=>∃k:Nat,i = .int .i64 k∧k≤xs.length∧Hid (Below w.heap.size w wr)∧Hid (∀j (h:j<xs.length),j<k→P xs[j]=false)) (λi _=>xs.length-(intOf i).toNat)
 case atStart=>exact⟨0,rfl,by omega,hid (Below.refl _ _),hid (λj _ h=>by omega)⟩
 case round=>
  obtain⟨k,rfl,hk,HB,HP⟩:=hrel;by_cases hlt:k<xs.length
  ·obtain⟨b,o,rfl,hF,hbl,h0,h1,h2,h3,h4,h5⟩:=OrdD.at (HX.out.pure HB.out) k hlt
   have HCALL:=hid (HC.out wr k hlt HB.out);clear hF
   go_wp2_with fail
   refine HCALL.out.mono ?_;rintro e w1 ⟨rfl,hb1⟩;have HB1:=hid (HB.out.trans (hb1.mono HB.out.size));clear hb1;cases hst:P xs[k]
   ·have HST:=hid hst
    clear hst;go_wp2;refine⟨⟨k+1,by go_num,by omega,HB1,hid (λj h hj=>?_)⟩,?_⟩
    ·by_cases hjk:j=k
     ·subst hjk;exact HST.out
     ·exact HP.out j h (by omega)
    ·simp[intOf];omega
   ·have HST:=hid hst
    clear hst;go_wp2;go_ret;exact⟨k,⟨hk,HP.out,λ_=>HST.out⟩,by rw[if_pos hlt];rfl,HB1.out⟩
  ·obtain rfl:k=xs.length:=by omega
   go_wp2;go_ret;exact⟨xs.length,⟨Nat.le_refl _,HP.out,λh=>absurd h (by omega)⟩,by rw[if_neg (by omega)];rfl,HB.out⟩
set_option maxRecDepth 100000 in
theorem nh (w:World)(F:Nat→Prop)(sv:Value)(xs:List OrdD)(hx:OrdsAt F w sv xs)(hlen:xs.length≤4398046511104)(fk:FuncId)(hent:Enters Tryz.prog fk)(P:OrdD→Bool)
  (hcall:∀(W:World) (k:Nat) (hk:k<xs.length),Below w.heap.size w W→Calls Tryz.prog fk #[xs[k].agg] W λe w'=>e = .returned (.bool (P xs[k]))∧Below W.heap.size W w') :
  Calls Tryz.prog 290 #[sv,.func (.func fk) #[] #[]] w λe w'=>e = .returned (.bool (xs.any P))∧Below w.heap.size w w':=by
 have HI:=hid (ng w F sv xs hx hlen fk hent P hcall);clear hx hcall hent
 go_enter Tryz.func290,Tryz.ntmps290
 go_wp2_with fail
 refine HI.out.mono ?_;rintro e w1 ⟨k,hk,rfl,hb⟩;have HB:=hid hb;have HE:=hid hk.any;clear hb hk;by_cases hlt:k<xs.length
 ·rw[if_pos hlt]
  go_wp2;go_ret;exact⟨by rw[HE.out,decide_eq_true hlt];rfl,HB.out⟩
 ·rw[if_neg hlt]
  go_wp2;go_ret;exact⟨by rw[HE.out,decide_eq_false hlt];rfl,HB.out⟩
set_option maxRecDepth 100000 in
theorem nj (w:World)(F:Nat→Prop)(sv:Value)(xs:List OrdD)(hx:OrdsAt F w sv xs)(hlen:xs.length≤4398046511104)(fk:FuncId)(c1:Value)(hent:Enters Tryz.prog fk)(P:OrdD→Bool)
  (hcall:∀(W:World) (k:Nat) (hk:k<xs.length),Below w.heap.size w W→Calls Tryz.prog fk #[xs[k].agg,c1] W λe w'=>e = .returned (.bool (P xs[k]))∧Below W.heap.size W w') :
  Calls Tryz.prog 326 #[sv,.func (.func fk) #[] #[c1]] w λe w'=>∃k,FirstAt P xs k∧e = .returned (.int .i64 (if k<xs.length then (k:Int) else -1))∧Below w.heap.size w w':=by
 obtain⟨a,c,rfl⟩:=hx.shape;have HX:=hid hx;have HC:=hid hcall;have ent:∀(args:Array Value) (w:World),(callFunc fk args).run Tryz.prog w = .ok (.enter fk args) w:=hent;clear hx hcall hent
 go_enter Tryz.func326,Tryz.ntmps326
 go_wp2
 go_loopw [8] (λi wr=>∃k:Nat,i = .int .i64 k∧k≤xs.length∧Hid (Below w.heap.size w wr)∧Hid (∀j (h:j<xs.length),j<k→P xs[j]=false)) (λi _=>xs.length-(intOf i).toNat)
 case atStart=>exact⟨0,rfl,by omega,hid (Below.refl _ _),hid (λj _ h=>by omega)⟩
 case round=>
  obtain⟨k,rfl,hk,HB,HP⟩:=hrel;by_cases hlt:k<xs.length
  ·obtain⟨b,o,rfl,hF,hbl,h0,h1,h2,h3,h4,h5⟩:=OrdD.at (HX.out.pure HB.out) k hlt
   have HCALL:=hid (HC.out wr k hlt HB.out);clear hF
   go_wp2_with fail
   refine HCALL.out.mono ?_;rintro e w1 ⟨rfl,hb1⟩;have HB1:=hid (HB.out.trans (hb1.mono HB.out.size));clear hb1;cases hst:P xs[k]
   ·have HST:=hid hst
    clear hst;go_wp2;refine⟨⟨k+1,by go_num,by omega,HB1,hid (λj h hj=>?_)⟩,?_⟩
    ·by_cases hjk:j=k
     ·subst hjk;exact HST.out
     ·exact HP.out j h (by omega)
    ·simp[intOf];omega
   ·have HST:=hid hst
    clear hst;go_wp2;go_ret;exact⟨k,⟨hk,HP.out,λ_=>HST.out⟩,by rw[if_pos hlt];rfl,HB1.out⟩
  ·obtain rfl:k=xs.length:=by omega
   go_wp2;go_ret;exact⟨xs.length,⟨Nat.le_refl _,HP.out,λh=>absurd h (by omega)⟩,by rw[if_neg (by omega)];rfl,HB.out⟩
set_option maxRecDepth 100000 in
theorem nk (w:World)(F:Nat→Prop)(sv:Value)(xs:List OrdD)(hx:OrdsAt F w sv xs)(hlen:xs.length≤4398046511104)(fk:FuncId)(c1:Value)(hent:Enters Tryz.prog fk)(P:OrdD→Bool)
  (hcall:∀(W:World) (k:Nat) (hk:k<xs.length),Below w.heap.size w W→Calls Tryz.prog fk #[xs[k].agg,c1] W λe w'=>e = .returned (.bool (P xs[k]))∧Below W.heap.size W w') :
  Calls Tryz.prog 290 #[sv,.func (.func fk) #[] #[c1]] w λe w'=>e = .returned (.bool (xs.any P))∧Below w.heap.size w w':=by
 have HI:=hid (nj w F sv xs hx hlen fk c1 hent P hcall);clear hx hcall hent
 go_enter Tryz.func290,Tryz.ntmps290
 go_wp2_with fail
 refine HI.out.mono ?_;rintro e w1 ⟨k,hk,rfl,hb⟩;have HB:=hid hb;have HE:=hid hk.any;clear hb hk;by_cases hlt:k<xs.length
 ·rw[if_pos hlt]
  go_wp2;go_ret;exact⟨by rw[HE.out,decide_eq_true hlt];rfl,HB.out⟩
 ·rw[if_neg hlt]
  go_wp2;go_ret;exact⟨by rw[HE.out,decide_eq_false hlt];rfl,HB.out⟩
set_option maxRecDepth 100000 in
theorem nl (w:World)(F:Nat→Prop)(sv:Value)(xs:List AucD)(hx:AucsAt F w sv xs)(hlen:xs.length≤4398046511104)(fk:FuncId)(c1:Value)(hent:Enters Tryz.prog fk)(P:AucD→Bool)
  (hcall:∀(W:World) (k:Nat) (hk:k<xs.length) (bv:Value) (_:BidsAt F W bv xs[k].bids),Below w.heap.size w W→Calls Tryz.prog fk #[xs[k].agg bv,c1] W λe w'=>e = .returned (.bool (P xs[k]))∧Below W.heap.size W w') :
  Calls Tryz.prog 329 #[sv,.func (.func fk) #[] #[c1]] w λe w'=>∃k,FirstAt P xs k∧e = .returned (.int .i64 (if k<xs.length then (k:Int) else -1))∧Below w.heap.size w w':=by
 obtain⟨a,c,rfl⟩:=hx.shape;have HX:=hid hx;have HC:=hid hcall;have ent:∀(args:Array Value) (w:World),(callFunc fk args).run Tryz.prog w = .ok (.enter fk args) w:=hent;clear hx hcall hent
 go_enter Tryz.func329,Tryz.ntmps329
 go_wp2
 go_loopw [8] (λi wr=>∃k:Nat,i = .int .i64 k∧k≤xs.length∧Hid (Below w.heap.size w wr)∧Hid (∀j (h:j<xs.length),j<k→P xs[j]=false)) (λi _=>xs.length-(intOf i).toNat)
 case atStart=>exact⟨0,rfl,by omega,hid (Below.refl _ _),hid (λj _ h=>by omega)⟩
 case round=>
  obtain⟨k,rfl,hk,HB,HP⟩:=hrel;by_cases hlt:k<xs.length
  ·obtain⟨b,o,bv,rfl,hF,hbl,hbids,h0,h1,h2,h3,h4,h5,h6,h7,h8⟩:=AucsAt.at (HX.out.pure HB.out) k hlt
   have HCALL:=hid (HC.out wr k hlt bv hbids HB.out);clear hF hbids
   go_wp2_with fail
   refine HCALL.out.mono ?_;rintro e w1 ⟨rfl,hb1⟩;have HB1:=hid (HB.out.trans (hb1.mono HB.out.size));clear hb1;cases hst:P xs[k]
   ·have HST:=hid hst
    clear hst;go_wp2;refine⟨⟨k+1,by go_num,by omega,HB1,hid (λj h hj=>?_)⟩,?_⟩
    ·by_cases hjk:j=k
     ·subst hjk;exact HST.out
     ·exact HP.out j h (by omega)
    ·simp[intOf];omega
   ·have HST:=hid hst
    clear hst;go_wp2;go_ret;exact⟨k,⟨hk,HP.out,λ_=>HST.out⟩,by rw[if_pos hlt];rfl,HB1.out⟩
  ·obtain rfl:k=xs.length:=by omega
   go_wp2;go_ret;exact⟨xs.length,⟨Nat.le_refl _,HP.out,λh=>absurd h (by omega)⟩,by rw[if_neg (by omega)];rfl,HB.out⟩
set_option maxRecDepth 100000 in
theorem np (w:World)(F:Nat→Prop)(sv:Value)(xs:List AucD)(hx:AucsAt F w sv xs)(hlen:xs.length≤4398046511104)(fk:FuncId)(c1:Value)(hent:Enters Tryz.prog fk)(P:AucD→Bool)
  (hcall:∀(W:World) (k:Nat) (hk:k<xs.length) (bv:Value) (_:BidsAt F W bv xs[k].bids),Below w.heap.size w W→Calls Tryz.prog fk #[xs[k].agg bv,c1] W λe w'=>e = .returned (.bool (P xs[k]))∧Below W.heap.size W w') :
  Calls Tryz.prog 296 #[sv,.func (.func fk) #[] #[c1]] w λe w'=>e = .returned (.bool (xs.any P))∧Below w.heap.size w w':=by
 have HI:=hid (nl w F sv xs hx hlen fk c1 hent P hcall);clear hx hcall hent
 go_enter Tryz.func296,Tryz.ntmps296
 go_wp2_with fail
 refine HI.out.mono ?_;rintro e w1 ⟨k,hk,rfl,hb⟩;have HB:=hid hb;have HE:=hid hk.any;clear hb hk;by_cases hlt:k<xs.length
 ·rw[if_pos hlt]
  go_wp2;go_ret;exact⟨by rw[HE.out,decide_eq_true hlt];rfl,HB.out⟩
 ·rw[if_neg hlt]
  go_wp2;go_ret;exact⟨by rw[HE.out,decide_eq_false hlt];rfl,HB.out⟩
set_option maxRecDepth 100000 in
theorem nr (w:World)(F:Nat→Prop)(sv:Value)(xs:List BidD)(hx:BidsAt F w sv xs)(hlen:xs.length≤4398046511104)(fk:FuncId)(c1:Value)(hent:Enters Tryz.prog fk)(P:BidD→Bool)
  (hcall:∀(W:World) (k:Nat) (hk:k<xs.length),Below w.heap.size w W→Calls Tryz.prog fk #[xs[k].agg,c1] W λe w'=>e = .returned (.bool (P xs[k]))∧Below W.heap.size W w') :
  Calls Tryz.prog 327 #[sv,.func (.func fk) #[] #[c1]] w λe w'=>∃k,FirstAt P xs k∧e = .returned (.int .i64 (if k<xs.length then (k:Int) else -1))∧Below w.heap.size w w':=by
 obtain⟨a,c,rfl⟩:=hx.shape;have HX:=hid hx;have HC:=hid hcall;have ent:∀(args:Array Value) (w:World),(callFunc fk args).run Tryz.prog w = .ok (.enter fk args) w:=hent;clear hx hcall hent
 go_enter Tryz.func327,Tryz.ntmps327
 go_wp2
 go_loopw [8] (λi wr=>∃k:Nat,i = .int .i64 k∧k≤xs.length∧Hid (Below w.heap.size w wr)∧Hid (∀j (h:j<xs.length),j<k→P xs[j]=false)) (λi _=>xs.length-(intOf i).toNat)
 case atStart=>exact⟨0,rfl,by omega,hid (Below.refl _ _),hid (λj _ h=>by omega)⟩
 case round=>
  obtain⟨k,rfl,hk,HB,HP⟩:=hrel;by_cases hlt:k<xs.length
  ·obtain⟨b,o,rfl,hF,hbl,h0,h1⟩:=BidD.at (HX.out.pure HB.out) k hlt
   have HCALL:=hid (HC.out wr k hlt HB.out);clear hF
   go_wp2_with fail
   refine HCALL.out.mono ?_;rintro e w1 ⟨rfl,hb1⟩;have HB1:=hid (HB.out.trans (hb1.mono HB.out.size));clear hb1;cases hst:P xs[k]
   ·have HST:=hid hst
    clear hst;go_wp2;refine⟨⟨k+1,by go_num,by omega,HB1,hid (λj h hj=>?_)⟩,?_⟩
    ·by_cases hjk:j=k
     ·subst hjk;exact HST.out
     ·exact HP.out j h (by omega)
    ·simp[intOf];omega
   ·have HST:=hid hst
    clear hst;go_wp2;go_ret;exact⟨k,⟨hk,HP.out,λ_=>HST.out⟩,by rw[if_pos hlt];rfl,HB1.out⟩
  ·obtain rfl:k=xs.length:=by omega
   go_wp2;go_ret;exact⟨xs.length,⟨Nat.le_refl _,HP.out,λh=>absurd h (by omega)⟩,by rw[if_neg (by omega)];rfl,HB.out⟩
set_option maxRecDepth 100000 in
theorem nt (w:World)(F:Nat→Prop)(sv:Value)(xs:List BidD)(hx:BidsAt F w sv xs)(hlen:xs.length≤4398046511104)(fk:FuncId)(c1:Value)(hent:Enters Tryz.prog fk)(P:BidD→Bool)
  (hcall:∀(W:World) (k:Nat) (hk:k<xs.length),Below w.heap.size w W→Calls Tryz.prog fk #[xs[k].agg,c1] W λe w'=>e = .returned (.bool (P xs[k]))∧Below W.heap.size W w') :
  Calls Tryz.prog 294 #[sv,.func (.func fk) #[] #[c1]] w λe w'=>e = .returned (.bool (xs.any P))∧Below w.heap.size w w':=by
 have HI:=hid (nr w F sv xs hx hlen fk c1 hent P hcall);clear hx hcall hent
 go_enter Tryz.func294,Tryz.ntmps294
 go_wp2_with fail
 refine HI.out.mono ?_;rintro e w1 ⟨k,hk,rfl,hb⟩;have HB:=hid hb;have HE:=hid hk.any;clear hb hk;by_cases hlt:k<xs.length
 ·rw[if_pos hlt]
  go_wp2;go_ret;exact⟨by rw[HE.out,decide_eq_true hlt];rfl,HB.out⟩
 ·rw[if_neg hlt]
  go_wp2;go_ret;exact⟨by rw[HE.out,decide_eq_false hlt];rfl,HB.out⟩
set_option maxRecDepth 100000 in
theorem nu (w:World)(F:Nat→Prop)(sv:Value)(xs:List LotD)(hx:LotsAt F w sv xs)(hlen:xs.length≤4398046511104)(fk:FuncId)(hent:Enters Tryz.prog fk)(P:LotD→Bool)
  (hcall:∀(W:World) (k:Nat) (hk:k<xs.length),Below w.heap.size w W→Calls Tryz.prog fk #[xs[k].agg] W λe w'=>e = .returned (.bool (P xs[k]))∧Below W.heap.size W w') :
  Calls Tryz.prog 269 #[sv,.func (.func fk) #[] #[]] w λe w'=>∃k,FirstAt P xs k∧e = .returned (.int .i64 (if k<xs.length then (k:Int) else -1))∧Below w.heap.size w w':=by
 obtain⟨a,c,rfl⟩:=hx.shape;have HX:=hid hx;have HC:=hid hcall;have ent:∀(args:Array Value) (w:World),(callFunc fk args).run Tryz.prog w = .ok (.enter fk args) w:=hent;clear hx hcall hent
 go_enter Tryz.func269,Tryz.ntmps269
 go_wp2
 go_loopw [8] (λi wr=>∃k:Nat,i = .int .i64 k∧k≤xs.length∧Hid (Below w.heap.size w wr)∧Hid (∀j (h:j<xs.length),j<k→P xs[j]=false)) (λi _=>xs.length-(intOf i).toNat)
 case atStart=>exact⟨0,rfl,by omega,hid (Below.refl _ _),hid (λj _ h=>by omega)⟩
 case round=>
  obtain⟨k,rfl,hk,HB,HP⟩:=hrel;by_cases hlt:k<xs.length
  ·obtain⟨b,o,rfl,hF,hbl,h0,h1,h2,h3⟩:=LotD.at (HX.out.pure HB.out) k hlt
   have HCALL:=hid (HC.out wr k hlt HB.out);clear hF
   go_wp2_with fail
   refine HCALL.out.mono ?_;rintro e w1 ⟨rfl,hb1⟩;have HB1:=hid (HB.out.trans (hb1.mono HB.out.size));clear hb1;cases hst:P xs[k]
   ·have HST:=hid hst
    clear hst;go_wp2;refine⟨⟨k+1,by go_num,by omega,HB1,hid (λj h hj=>?_)⟩,?_⟩
    ·by_cases hjk:j=k
     ·subst hjk;exact HST.out
     ·exact HP.out j h (by omega)
    ·simp[intOf];omega
   ·have HST:=hid hst
    clear hst;go_wp2;go_ret;exact⟨k,⟨hk,HP.out,λ_=>HST.out⟩,by rw[if_pos hlt];rfl,HB1.out⟩
  ·obtain rfl:k=xs.length:=by omega
   go_wp2;go_ret;exact⟨xs.length,⟨Nat.le_refl _,HP.out,λh=>absurd h (by omega)⟩,by rw[if_neg (by omega)];rfl,HB.out⟩
set_option maxRecDepth 100000 in
theorem nw (w:World)(F:Nat→Prop)(sv:Value)(xs:List LotD)(hx:LotsAt F w sv xs)(hlen:xs.length≤4398046511104)(fk:FuncId)(hent:Enters Tryz.prog fk)(P:LotD→Bool)
  (hcall:∀(W:World) (k:Nat) (hk:k<xs.length),Below w.heap.size w W→Calls Tryz.prog fk #[xs[k].agg] W λe w'=>e = .returned (.bool (P xs[k]))∧Below W.heap.size W w') :
  Calls Tryz.prog 225 #[sv,.func (.func fk) #[] #[]] w λe w'=>e = .returned (.bool (xs.any P))∧Below w.heap.size w w':=by
 have HI:=hid (nu w F sv xs hx hlen fk hent P hcall);clear hx hcall hent
 go_enter Tryz.func225,Tryz.ntmps225
 go_wp2_with fail
 refine HI.out.mono ?_;rintro e w1 ⟨k,hk,rfl,hb⟩;have HB:=hid hb;have HE:=hid hk.any;clear hb hk;by_cases hlt:k<xs.length
 ·rw[if_pos hlt]
  go_wp2;go_ret;exact⟨by rw[HE.out,decide_eq_true hlt];rfl,HB.out⟩
 ·rw[if_neg hlt]
  go_wp2;go_ret;exact⟨by rw[HE.out,decide_eq_false hlt];rfl,HB.out⟩
end
section
open Go.RowKit Go.Sort
theorem nx {α:Type}(p:α→Bool):∀l:List α,(l.filter p).length=l.length↔∀x∈l,p x=true
 | []=>by simp
 | x::r=>by
  rw[List.filter_cons];cases h:p x
  ·simp only[Bool.false_eq_true,if_false,List.length_cons]
   constructor
   ·intro e;have:=List.length_filter_le p r;omega
   ·intro e;have:=e x (by simp);rw[h]at this;cases this
  ·simp only[if_true,List.length_cons]
   rw[Nat.add_right_cancel_iff,nx p r];simp[h]
theorem ny {α:Type}[Inhabited α][DecidableEq α](zs:List α):(Lib.compact zs).length=zs.length↔∀j (h:j+1<zs.length),zs[j+1]≠zs[j]:=by
 unfold Lib.compact Lib.compactUpTo;rw[List.length_map];have h:=nx (Lib.keeps zs.toArray) (List.range zs.length);rw[List.length_range]at h;rw[h];constructor
 ·intro k j hj
  have:=k (j+1) (List.mem_range.2 hj);unfold Lib.keeps at this;have:=of_decide_eq_true this
  rcases this with h|h
  ·omega
  ·simp only[Nat.add_sub_cancel]at h
   rw[getElem!_pos zs.toArray (j+1) (by simpa using hj),getElem!_pos zs.toArray j (by simp;omega)]at h;simpa using h
 ·intro k j hj
  rw[List.mem_range]at hj;unfold Lib.keeps;apply decide_eq_true;by_cases h0:j=0
  ·exact .inl h0
  ·right
   obtain⟨i,rfl⟩:∃i,j=i+1:=⟨j-1,by omega⟩;simp only[Nat.add_sub_cancel];rw[getElem!_pos zs.toArray (i+1) (by simpa using hj),getElem!_pos zs.toArray i (by simp;omega)];simpa using k i hj
theorem nz {α:Type}(le:α→α→Prop)(anti:∀a b,le a b→le b a→a=b)(refl:∀a,le a a){zs:List α}(hs:zs.Pairwise le):(∀j (h:j+1<zs.length),zs[j+1]≠zs[j])↔zs.Nodup:=by
 rw[List.nodup_iff_pairwise_ne];constructor
 ·intro k
  rw[List.pairwise_iff_getElem]at hs ⊢;intro i j hi hj hij e;have h1:le zs[i] zs[i+1]:=hs i (i+1) hi (by omega) (by omega);have h2:le zs[i+1] zs[j]:=by
   by_cases h:i+1=j
   ·subst h;exact refl _
   ·exact hs (i+1) j (by omega) hj (by omega)
  rw[← e]at h2;exact k i (by omega) (anti _ _ h2 h1)
 ·intro k j hj e
  rw[List.pairwise_iff_getElem]at k;exact k j (j+1) (by omega) hj (by omega) e.symm
theorem nA (l:List Int):(Lib.compact (l.mergeSort λx y=>decide (x≤y))).length=l.length↔l.Nodup:=by
 have hp:=List.mergeSort_perm l (λx y=>decide (x≤y));rw[← hp.length_eq,ny,nz (λa b=>a≤b) (λa b h k=>Int.le_antisymm h k) (λa=>Int.le_refl a),hp.nodup_iff];have:=List.pairwise_mergeSort (le:=λx y:Int=>decide (x≤y)) (λa b c h k=>by simp at *;omega) (λa b=>by simp;omega) l;exact this.imp (λh=>by simpa using h)
theorem nC (l:List (List UInt8)):(Lib.compact (l.mergeSort λx y=>decide (x≤y))).length=l.length↔l.Nodup:=by
 have hp:=List.mergeSort_perm l (λx y=>decide (x≤y));rw[← hp.length_eq,ny,nz (λa b=>a≤b) (λa b h k=>List.le_antisymm h k) (λa=>List.le_refl a),hp.nodup_iff];have:=List.pairwise_mergeSort (le:=λx y:List UInt8=>decide (x≤y)) (λa b c h k=>by simp only[decide_eq_true_eq]at *;exact List.le_trans h k) (λa b=>by simp only[Bool.or_eq_true,decide_eq_true_eq];exact List.le_total a b) l;exact this.imp (λh=>by simpa using h)
end
section
open Go.RowKit
set_option maxRecDepth 100000 in
theorem nD (w:World)(s:ByteArray)(hs:s.size≤140737488355328) :
  Calls Tryz.prog 315 #[.string s] w λe w'=>TB (jk s.data.toList) e∧Below w.heap.size w w':=by
 obtain⟨cap,W0,hcv,hb0,hc0⟩:∃(cap:Nat) (W0:World),(convert 9 153 (.string s)).run Tryz.prog w = .ok (.slice (some ⟨w.heap.size,0,none⟩) s.size cap) W0∧Below w.heap.size w W0∧∀j (hj:j<s.data.size),W0.cell? ⟨w.heap.size,j,none⟩=some (.int .u8 (s.data[j].toNat:Int)):=by
  refine⟨_,_,run_bytes_of_string w 9 153 5 s Tryz.underlying9 Tryz.underlying153 Tryz.underlying5,(Below.refl _ w).drew.alloc (Nat.le_refl _) _,λj hj=>?_⟩;exact(World.cell?_alloc_mark w.drew _ 5 _ j).trans (bytesRow_at s _ j hj)
 have HC:=hid hc0;have HB0:=hid hb0;obtain⟨N,hN0⟩:∃N,N=s.size:=⟨_,rfl⟩;have HSZ:=hid (show N=s.data.size from hN0);rw[← hN0]at hcv hs;have HN0:=hid hN0;clear hc0 hb0 hN0
 go_enter Tryz.func315,Tryz.ntmps315
 go_wp2
 go_loopw [8] (λi wr=>∃k:Nat,i = .int .i64 k∧k≤N∧Hid (Below w.heap.size w wr)∧Hid (∀j (hj:j<s.data.size),wr.cell? ⟨w.heap.size,j,none⟩=some (.int .u8 (s.data[j].toNat:Int)))∧Hid (∀j (hj:j<s.data.size),j<k→jj s.data[j])) (λi _=>N-(intOf i).toNat)
 case atStart=>
  exact⟨0,rfl,by omega,HB0,HC,hid (λj _ h=>by omega)⟩
 case round=>
  obtain⟨k,rfl,hk,HB,HX,HN⟩:=hrel;by_cases hlt:k<N
  ·have hlt2:k<s.data.size:=by rw[← HSZ.out];exact hlt
   have hc:=HX.out k hlt2;obtain⟨n,hn⟩:∃n:Nat,n=(s.data[k]'hlt2).toNat:=⟨_,rfl⟩;rw[← hn]at hc;have hn256:n<256:=by rw[hn];exact(s.data[k]'hlt2).toNat_lt
   by_cases hN:jj (s.data[k]'hlt2)
   ·have HNN:=hid hN
    have HN1:=hid (show ∀j (hj:j<s.data.size),j<k+1→jj s.data[j]from λj hj hjk=>by
     by_cases e:j=k
     ·subst e;exact hN
     ·exact HN.out j hj (by omega))
    unfold jj at hN;rw[← hn]at hN;clear hn
    rcases hN with⟨a1,a2⟩|⟨a1,a2⟩|a1|a1
    ·have g1:¬(n:Int)<97:=by omega
     have g2:¬(122:Int)<n:=by omega
     clear a1 a2;go_wp2
     go_roundw
     case rel=>exact⟨k+1,by go_num,by omega,HB,HX,HN1⟩
     case measure=>simp[intOf];omega
    ·have g1:(n:Int)<97:=by omega
     have g2:¬(n:Int)<48:=by omega
     have g3:¬(57:Int)<n:=by omega
     clear a1 a2;go_wp2
     go_roundw
     case rel=>exact⟨k+1,by go_num,by omega,HB,HX,HN1⟩
     case measure=>simp[intOf];omega
    ·subst a1
     go_wp2
     go_roundw
     case rel=>exact⟨k+1,by go_num,by omega,HB,HX,HN1⟩
     case measure=>simp[intOf];omega
    ·subst a1
     go_wp2
     go_roundw
     case rel=>exact⟨k+1,by go_num,by omega,HB,HX,HN1⟩
     case measure=>simp[intOf];omega
   ·have HNO:=hid (show ¬jk s.data.toList from λh=>hN (h.1 _ (by rw[Array.mem_toList_iff];exact Array.getElem_mem hlt2)))
    unfold jj at hN;rw[← hn]at hN;clear hn;have q45:((n:Int) != 45)=true:=by simp;omega
    have q95:((n:Int) != 95)=true:=by simp;omega
    have p45:¬(n:Int)=45:=by omega
    have p95:¬(n:Int)=95:=by omega
    by_cases g1:(n:Int)<97
    ·by_cases g2:(n:Int)<48
     ·clear hN
      go_wp2;go_ret;exact⟨TB.no HNO.out,HB.out⟩
     ·have g3:(57:Int)<n:=by omega
      clear hN;go_wp2;go_ret;exact⟨TB.no HNO.out,HB.out⟩
    ·have g4:(122:Int)<n:=by omega
     have g2:¬(n:Int)<48:=by omega
     have g3:(57:Int)<n:=by omega
     clear hN;go_wp2;go_ret;exact⟨TB.no HNO.out,HB.out⟩
  ·have hkN:k=N:=by omega
   subst hkN;have HALL:=hid (show ∀c∈s.data.toList,jj c from λc hc=>by
    rw[Array.mem_toList_iff]at hc;obtain⟨i,hi,rfl⟩:=Array.getElem_of_mem hc;exact HN.out i hi (by rw[HSZ.out];exact hi))
   have hl:s.data.toList.length=k:=by rw[HSZ.out,Array.length_toList]
   have HL:=hid hl;have e9:s.size=k:=HN0.out.symm;clear hl;by_cases h1:1≤k
   ·have HQ:=hid (show decide ((k:Int)≤24)=true↔jk s.data.toList from by
     rw[decide_eq_true_eq];exact⟨λh=>⟨HALL.out,by rw[HL.out];omega,by rw[HL.out];omega⟩,λh=>by have:=h.2.2;rw[HL.out]at this;omega⟩)
    go_wp2;go_ret;exact⟨⟨_,HQ.out,rfl⟩,HB.out⟩
   ·have hy:¬jk s.data.toList:=λh=>by have:=h.2.1;rw[HL.out]at this;omega
    have HY:=hid hy;clear hy;go_wp2;go_ret;exact⟨TB.no HY.out,HB.out⟩
end
section
open Go.RowKit Go.Sort Go.Shelf
theorem nE (w:World)(s:ByteArray)(hs:s.size≤140737488355328) :
  Calls Tryz.prog 314 #[.string s] w λe w'=>TB (¬jk s.data.toList) e∧Below w.heap.size w w':=by
 have HM:=hid (nD w s hs)
 go_enter Tryz.func314,Tryz.ntmps314
 go_wp2_with fail
 refine HM.out.mono ?_;rintro e w1 ⟨⟨b,hb,rfl⟩,hbel⟩;have HB:=hid hbel;have HX:=hid hb;clear hbel hb;cases b
 ·go_wp2
  go_ret;exact⟨TB.yes (λh=>by have:=HX.out.2 h;cases this),HB.out⟩
 ·go_wp2
  go_ret;exact⟨TB.no (not_not_intro (HX.out.1 (by first|rfl|trivial))),HB.out⟩
theorem nF (ns:List (List UInt8)):ns.flatMap (λs=>[Value.string ⟨s.toArray⟩])=ns.map encStr:=by
 induction ns with
 | nil=>rfl
 | cons n r ih=>rw[List.flatMap_cons,ih];rfl
theorem nG {B:Nat}{w:World}{g n:Nat}{os:Array Obj}(d:Array (List UInt8))(hB:B≤w.heap.size)(hg:B≤g):Below B w (grow (putRow encStr (Sort.ahead w n) g 0 d) os):=
 (Below.refl B w).grown (grownBy_sorted d) hB (λk e=>by cases e;exact hg)
abbrev OwnStrs (w:World) (base:Nat) (v:Value) (ns:List (List UInt8)):Prop:=w.ownsRow base 9 1 v ns.length (ns.map encStr)
set_option maxRecDepth 100000 in
theorem nH (w:World)(base:Nat)(v:Value)(ns:List (List UInt8))(hown:OwnStrs w base v ns)(hbase:base≤w.heap.size)(hl:ns.length≤1048576)(hz:∀s∈ns,s.length≤140737488355328) :
  Calls Tryz.prog 282 #[v] w λe w'=>TB (jl ns) e∧Below base w w':=by
 have hstr:StrsAt (λ_=>True) w v ns:=SlAt.of_own (λ_=>rfl) (by rw[nF];exact hown) (λ_ _=>trivial);have HC:=hid (m6 w _ v ns hstr (by omega) 314 (enters_of Tryz.func314 (by kernel_rfl) rfl) (λs=>tf (¬jk s)) (λW k hk _=>by
  have h1:=nE W ⟨ns[k].toArray⟩ (by have:=hz _ (List.getElem_mem hk);show ns[k].toArray.size≤_;rw[List.size_toArray];exact this);refine h1.mono ?_;rintro e w' ⟨h2,h3⟩;exact⟨h2.tf,h3⟩))
 have HO:=hid hown;clear hstr hown;have hmf:∀(fn:Fn) (first cap:Array Value) (w:World),(Instr.makeFunc fn first cap).run Tryz.prog w = .ok (.func fn first cap) w:=λ_ _ _ _=>rfl
 go_enter Tryz.func282,Tryz.ntmps282
 go_wp2_with fail
 refine HC.out.mono ?_;rintro e w1 ⟨rfl,hb1⟩;have HO1:=hid ((Fr.pure (S:=λ_=>False) hb1).ownsRow HO.out (λ_ _ h=>h));have HB1:=hid (hb1.mono hbase);have hs1:base≤w1.heap.size:=Nat.le_trans hbase hb1.size;clear hb1 HO HC;cases hany:ns.any (λs=>tf (¬jk s))
 case true=>
  have hno:¬jl ns:=λh=>by
   obtain⟨s,hs,hp⟩:=List.any_eq_true.1 hany;exact tf_iff.1 hp (h.1 s hs)
  have HNO:=hid hno;clear hno hany;go_wp2;go_ret;exact⟨TB.no HNO.out,HB1.out⟩
 case false=>
  have hall:∀s∈ns,jk s:=λs hs=>by
   have:=List.any_eq_false.1 hany s hs;by_cases h:jk s
   ·exact h
   ·exact absurd (je h) this
  have HALL:=hid hall;clear hall hany
  rcases HO1.out.2 with⟨rfl,hn⟩|⟨g,cap,cur,rfl,hg,hh,hn,hcm,hcs,ht⟩
  ·have hnil:ns=[]:=List.eq_nil_of_length_eq_zero hn
   subst hnil;have HY:=hid (show jl []from⟨by simp,by simp⟩);clear hn HALL HO1
   go_wp2_with fail
   refine(AnyM.slices_Sort_string_none Tryz.laysSlM6_f127 none 0 w1).mono ?_;rintro e w2 ⟨rfl,rfl⟩
   go_wp2_with fail
   refine(Any.slices_Clone_string_nil Tryz.laysF16 0 0 w2).mono ?_;rintro e w3 ⟨rfl,rfl⟩
   go_wp2_with fail
   refine(Any.slices_Compact_string_empty Tryz.laysF194 none 0 w3).mono ?_;rintro e w4 ⟨rfl,rfl⟩;go_wp2;go_ret;exact⟨TB.yes HY.out,HB1.out⟩
  ·have hlt:=lt_of_block hh
   have hH:Holds encStr w1 g 0 ns.toArray:=holds_of_block hh (by rw[Nat.mul_one]at ht;exact ht);have HS:=hid (AnyM.slices_Sort_string Tryz.laysSlM6_f127 g 0 cap ns w1 hH hlt (by omega));obtain⟨srt,hsrt⟩:∃srt,srt=ns.mergeSort λx y=>decide (x≤y):=⟨_,rfl⟩;have hsl:srt.length=ns.length:=by rw[hsrt,List.length_mergeSort]
   have HSL:=hid hsl;have HFIN:=hid (show(Lib.compact srt).length=ns.length↔jl ns from by rw[hsrt,nC];exact⟨λh=>⟨HALL.out,h⟩,λh=>h.2⟩);have HHH:=hid (And.intro hh (And.intro hn (And.intro hcm hcs)));have HSR:=hid hsrt;clear hh hn hcm hcs ht hH HO1 hsrt hsl
   go_wp2_with fail
   refine HS.out.mono ?_;rintro e w2 ⟨rfl,n2,os2,h2⟩;rw[← HSR.out]at h2;have hb2:Below base w1 w2:=by rw[h2];exact nG _ hs1 hg
   have ho2:OwnStrs w2 base (.slice (some ⟨g,0,none⟩) srt.length cap) srt:=by
    have:=ownsRow_sorted (n:=n2) (os:=os2) (ss:=ns) (ts:=srt) (base:=base) HSL.out hg HHH.out.1 HHH.out.2.1 HHH.out.2.2.1 HHH.out.2.2.2;rw[← h2]at this;show w2.ownsRow base _ 1 _ srt.length _;rw[HSL.out];exact this
   have HB2:=hid (HB1.out.trans hb2);have hs2:base≤w2.heap.size:=Nat.le_trans hs1 hb2.size;have hcl:∀j,j<(srt.map λs=>(⟨s.toArray⟩:ByteArray)).length→w2.cell? ⟨g,0+j,none⟩=some (.string ((srt.map λs=>(⟨s.toArray⟩:ByteArray)).getD j ByteArray.empty)):=λj hj=>by
    rw[List.length_map]at hj;have hst:StrsAt (λ_=>True) w2 (.slice (some ⟨g,0,none⟩) srt.length cap) srt:=SlAt.of_own (λ_=>rfl) (by rw[nF];exact ho2) (λ_ _=>trivial);obtain⟨b,o,hbo,_,_,hc⟩:=StrsAt.at hst j hj;cases hbo;rw[hc,List.getD_eq_getElem?_getD,List.getElem?_map,List.getElem?_eq_getElem hj];rfl
   have HCL:=hid (Any.slices_Clone_string Tryz.laysF16 g 0 ns.length cap (srt.map λs=>(⟨s.toArray⟩:ByteArray)) w2 (by rw[List.length_map,HSL.out];exact Nat.le_refl _) (by omega) hcl);clear hcl h2 hb2 ho2 HHH HB1 HS
   go_wp2_with fail
   refine HCL.out.mono ?_;rintro e w3 ⟨v3,rfl,hown3,hv3,hb3⟩;have HB3:=hid (HB2.out.trans (hb3.mono hs2));have hs3:base≤w3.heap.size:=Nat.le_trans hs2 hb3.size;have hown3':w3.ownsRow w2.heap.size 9 1 v3 ns.length (srt.map encStr):=by
    have e:((srt.map λs=>(⟨s.toArray⟩:ByteArray)).take ns.length).map Value.string=srt.map encStr:=by
     rw[List.take_of_length_le (by rw[List.length_map,HSL.out];exact Nat.le_refl _),List.map_map];rfl
    rw[e]at hown3;exact hown3
   rcases hown3'.2 with⟨h0,_⟩|⟨g3,cap3,cur3,rfl,hg3,hh3,hn3,_,_,ht3⟩
   ·exact absurd h0 hv3
   ·have hH3:Holds encStr w3 g3 0 srt.toArray:=holds_of_block hh3 (by rw[Nat.mul_one]at ht3;rw[HSL.out];exact ht3)
    have hcp:=Any.slices_Compact_string Tryz.laysF194 g3 0 cap3 srt w3 hH3 (by rw[HSL.out];omega) (by rw[HSL.out];exact hn3);rw[HSL.out]at hcp;have HCP:=hid hcp;have hg3':base≤g3:=Nat.le_trans hs2 hg3;clear hH3 hcp hown3 hown3' hv3 hb3 hh3 hn3 ht3 HB2 HCL
    go_wp2_with fail
    refine HCP.out.mono ?_;rintro e w4 ⟨rfl,q4,h4⟩;have hb4:Below base w3 w4:=by rw[h4];have:=nG (n:=q4) (os:=#[]) (Lib.compact srt++List.replicate (ns.length-(Lib.compact srt).length) []).toArray hs3 hg3';rw[grow_empty]at this;exact this
    have HB4:=hid (HB3.out.trans hb4);obtain⟨m,hm⟩:∃m,m=(Lib.compact srt).length:=⟨_,rfl⟩;rw[← hm];have HQ:=hid (show((m:Int) == (ns.length:Int))=true↔jl ns from by rw[beq_iff_eq,← HFIN.out,hm];omega);clear h4 hb4 hm;go_wp2;go_ret;exact⟨⟨_,HQ.out,rfl⟩,HB4.out⟩
end
end Go.Proofs.YtaeakdichkhjaaaGreatDoor
