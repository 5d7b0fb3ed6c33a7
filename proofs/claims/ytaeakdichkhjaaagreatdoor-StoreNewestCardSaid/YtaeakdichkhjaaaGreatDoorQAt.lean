/- Two arrays of numbers, compared. -/
import Derived.Test.YtaeakdichkhjaaaGreatDoorQAs
import Derived.Deep.QuietTactic
import Derived.BigQuiet
import Derived.Laws.Externs
import Derived.Test.YtaeakdichkhjaaaGreatDoorQAh
import Derived.Test.YtaeakdichkhjaaaGreatDoorQAf
import Derived.Laws.StructEq
set_option maxHeartbeats 2000000
open Go.Lib(hid)
namespace Go.Proofs.YtaeakdichkhjaaaGreatDoor
section
open Go.RowKit
set_option maxRecDepth 100000 in
theorem qm (w:World)(x:OrdD):Calls Tryz.prog 324 #[x.agg] w λe w'=>TB (jB x) e∧Below w.heap.size w w':=by
 unfold OrdD.agg;by_cases hs1:x.side=1
 ·have HSG:=hid (show x.side=1∨x.side=2 from .inl hs1)
  have q1:(x.side == 1)=true:=by simpa using hs1
  go_enter Tryz.func324,Tryz.ntmps324
  go_wp2_with fail
  refine(pV _ x.id 1099511627776).mono ?_;rintro e w1 ⟨⟨b1,hb1,rfl⟩,rfl⟩;have H0:=hid hb1;clear hb1;cases b1
  ·have hno:¬jB x:=λh=>by have:=H0.out.2 h.1;cases this
   have HNO:=hid hno;clear hno;go_wp2;go_ret;exact⟨TB.no HNO.out,ke _ _⟩
  have K0:=hid (H0.out.1 rfl)
  go_wp2_with fail
  refine(pW _ x.acct 64).mono ?_;rintro e w1 ⟨⟨b1,hb1,rfl⟩,rfl⟩;have H1:=hid hb1;clear hb1;cases b1
  ·have hno:¬jB x:=λh=>by have:=H1.out.2 h.2.1;cases this
   have HNO:=hid hno;clear hno;go_wp2;go_ret;exact⟨TB.no HNO.out,ke _ _⟩
  have K1:=hid (H1.out.1 rfl)
  go_wp2_with fail
  refine(pW _ x.inst 16).mono ?_;rintro e w1 ⟨⟨b1,hb1,rfl⟩,rfl⟩;have H2:=hid hb1;clear hb1;cases b1
  ·have hno:¬jB x:=λh=>by have:=H2.out.2 h.2.2.1;cases this
   have HNO:=hid hno;clear hno;go_wp2;go_ret;exact⟨TB.no HNO.out,ke _ _⟩
  have K2:=hid (H2.out.1 rfl)
  go_wp2_with fail
  refine(pV _ x.price 1073741824).mono ?_;rintro e w1 ⟨⟨b1,hb1,rfl⟩,rfl⟩;have H3:=hid hb1;clear hb1;cases b1
  ·have hno:¬jB x:=λh=>by have:=H3.out.2 h.2.2.2.2.1;cases this
   have HNO:=hid hno;clear hno;go_wp2;go_ret;exact⟨TB.no HNO.out,ke _ _⟩
  have K3:=hid (H3.out.1 rfl)
  go_wp2_with fail
  refine(pV _ x.left 1048576).mono ?_;rintro e w1 ⟨⟨b1,hb1,rfl⟩,rfl⟩;have H4:=hid hb1;clear hb1;have HL:=hid (show b1=true↔jB x from H4.out.trans ⟨λh=>⟨K0.out,K1.out,K2.out,HSG.out,K3.out,h⟩,λh=>h.2.2.2.2.2⟩);go_wp2;go_ret;exact⟨⟨b1,HL.out,rfl⟩,ke _ _⟩
 by_cases hs2:x.side=2
 ·have HSG:=hid (show x.side=1∨x.side=2 from .inr hs2)
  have q1:(x.side == 1)=false:=by simpa using hs1
  have q2:(x.side == 2)=true:=by simpa using hs2
  go_enter Tryz.func324,Tryz.ntmps324
  go_wp2_with fail
  refine(pV _ x.id 1099511627776).mono ?_;rintro e w1 ⟨⟨b1,hb1,rfl⟩,rfl⟩;have H0:=hid hb1;clear hb1;cases b1
  ·have hno:¬jB x:=λh=>by have:=H0.out.2 h.1;cases this
   have HNO:=hid hno;clear hno;go_wp2;go_ret;exact⟨TB.no HNO.out,ke _ _⟩
  have K0:=hid (H0.out.1 rfl)
  go_wp2_with fail
  refine(pW _ x.acct 64).mono ?_;rintro e w1 ⟨⟨b1,hb1,rfl⟩,rfl⟩;have H1:=hid hb1;clear hb1;cases b1
  ·have hno:¬jB x:=λh=>by have:=H1.out.2 h.2.1;cases this
   have HNO:=hid hno;clear hno;go_wp2;go_ret;exact⟨TB.no HNO.out,ke _ _⟩
  have K1:=hid (H1.out.1 rfl)
  go_wp2_with fail
  refine(pW _ x.inst 16).mono ?_;rintro e w1 ⟨⟨b1,hb1,rfl⟩,rfl⟩;have H2:=hid hb1;clear hb1;cases b1
  ·have hno:¬jB x:=λh=>by have:=H2.out.2 h.2.2.1;cases this
   have HNO:=hid hno;clear hno;go_wp2;go_ret;exact⟨TB.no HNO.out,ke _ _⟩
  have K2:=hid (H2.out.1 rfl)
  go_wp2_with fail
  refine(pV _ x.price 1073741824).mono ?_;rintro e w1 ⟨⟨b1,hb1,rfl⟩,rfl⟩;have H3:=hid hb1;clear hb1;cases b1
  ·have hno:¬jB x:=λh=>by have:=H3.out.2 h.2.2.2.2.1;cases this
   have HNO:=hid hno;clear hno;go_wp2;go_ret;exact⟨TB.no HNO.out,ke _ _⟩
  have K3:=hid (H3.out.1 rfl)
  go_wp2_with fail
  refine(pV _ x.left 1048576).mono ?_;rintro e w1 ⟨⟨b1,hb1,rfl⟩,rfl⟩;have H4:=hid hb1;clear hb1;have HL:=hid (show b1=true↔jB x from H4.out.trans ⟨λh=>⟨K0.out,K1.out,K2.out,HSG.out,K3.out,h⟩,λh=>h.2.2.2.2.2⟩);go_wp2;go_ret;exact⟨⟨b1,HL.out,rfl⟩,ke _ _⟩
 have HSB:=hid (show ¬jB x from λh=>by rcases h.2.2.2.1 with h|h;exact hs1 h;exact hs2 h);have q1:(x.side == 1)=false:=by simpa using hs1
 have q2:(x.side == 2)=false:=by simpa using hs2
 go_enter Tryz.func324,Tryz.ntmps324
 go_wp2_with fail
 refine(pV _ x.id 1099511627776).mono ?_;rintro e w1 ⟨⟨b1,hb1,rfl⟩,rfl⟩;have H0:=hid hb1;clear hb1;cases b1
 ·have hno:¬jB x:=λh=>by have:=H0.out.2 h.1;cases this
  have HNO:=hid hno;clear hno;go_wp2;go_ret;exact⟨TB.no HNO.out,ke _ _⟩
 have K0:=hid (H0.out.1 rfl)
 go_wp2_with fail
 refine(pW _ x.acct 64).mono ?_;rintro e w1 ⟨⟨b1,hb1,rfl⟩,rfl⟩;have H1:=hid hb1;clear hb1;cases b1
 ·have hno:¬jB x:=λh=>by have:=H1.out.2 h.2.1;cases this
  have HNO:=hid hno;clear hno;go_wp2;go_ret;exact⟨TB.no HNO.out,ke _ _⟩
 have K1:=hid (H1.out.1 rfl)
 go_wp2_with fail
 refine(pW _ x.inst 16).mono ?_;rintro e w1 ⟨⟨b1,hb1,rfl⟩,rfl⟩;have H2:=hid hb1;clear hb1;cases b1
 ·have hno:¬jB x:=λh=>by have:=H2.out.2 h.2.2.1;cases this
  have HNO:=hid hno;clear hno;go_wp2;go_ret;exact⟨TB.no HNO.out,ke _ _⟩
 have K2:=hid (H2.out.1 rfl);go_wp2;go_ret;exact⟨TB.no HSB.out,ke _ _⟩
set_option maxRecDepth 100000 in
theorem qo (w:World)(x:OpnD):Calls Tryz.prog 222 #[x.agg] w λe w'=>TB (jX x) e∧Below w.heap.size w w':=by
 unfold OpnD.agg;by_cases hs1:x.side=1
 ·have HSG:=hid (show x.side=1∨x.side=2 from .inl hs1)
  have q1:(x.side == 1)=true:=by simpa using hs1
  go_enter Tryz.func222,Tryz.ntmps222
  go_wp2_with fail
  refine(p9 _ x.acct 64).mono ?_;rintro e w1 ⟨⟨b1,hb1,rfl⟩,rfl⟩;have H0:=hid hb1;clear hb1;cases b1
  ·have hno:¬jX x:=λh=>by have:=H0.out.2 h.1;cases this
   have HNO:=hid hno;clear hno;go_wp2;go_ret;exact⟨TB.no HNO.out,ke _ _⟩
  have K0:=hid (H0.out.1 rfl)
  go_wp2_with fail
  refine(pZ _ x.id 1099511627776).mono ?_;rintro e w1 ⟨⟨b1,hb1,rfl⟩,rfl⟩;have H1:=hid hb1;clear hb1;cases b1
  ·have hno:¬jX x:=λh=>by have:=H1.out.2 h.2.1;cases this
   have HNO:=hid hno;clear hno;go_wp2;go_ret;exact⟨TB.no HNO.out,ke _ _⟩
  have K1:=hid (H1.out.1 rfl)
  go_wp2_with fail
  refine(p9 _ x.inst 16).mono ?_;rintro e w1 ⟨⟨b1,hb1,rfl⟩,rfl⟩;have H2:=hid hb1;clear hb1;cases b1
  ·have hno:¬jX x:=λh=>by have:=H2.out.2 h.2.2.1;cases this
   have HNO:=hid hno;clear hno;go_wp2;go_ret;exact⟨TB.no HNO.out,ke _ _⟩
  have K2:=hid (H2.out.1 rfl)
  go_wp2_with fail
  refine(pZ _ x.price 1073741824).mono ?_;rintro e w1 ⟨⟨b1,hb1,rfl⟩,rfl⟩;have H3:=hid hb1;clear hb1;cases b1
  ·have hno:¬jX x:=λh=>by have:=H3.out.2 h.2.2.2.2.1;cases this
   have HNO:=hid hno;clear hno;go_wp2;go_ret;exact⟨TB.no HNO.out,ke _ _⟩
  have K3:=hid (H3.out.1 rfl)
  go_wp2_with fail
  refine(pZ _ x.left 1048576).mono ?_;rintro e w1 ⟨⟨b1,hb1,rfl⟩,rfl⟩;have H4:=hid hb1;clear hb1;have HL:=hid (show b1=true↔jX x from H4.out.trans ⟨λh=>⟨K0.out,K1.out,K2.out,HSG.out,K3.out,h⟩,λh=>h.2.2.2.2.2⟩);go_wp2;go_ret;exact⟨⟨b1,HL.out,rfl⟩,ke _ _⟩
 by_cases hs2:x.side=2
 ·have HSG:=hid (show x.side=1∨x.side=2 from .inr hs2)
  have q1:(x.side == 1)=false:=by simpa using hs1
  have q2:(x.side == 2)=true:=by simpa using hs2
  go_enter Tryz.func222,Tryz.ntmps222
  go_wp2_with fail
  refine(p9 _ x.acct 64).mono ?_;rintro e w1 ⟨⟨b1,hb1,rfl⟩,rfl⟩;have H0:=hid hb1;clear hb1;cases b1
  ·have hno:¬jX x:=λh=>by have:=H0.out.2 h.1;cases this
   have HNO:=hid hno;clear hno;go_wp2;go_ret;exact⟨TB.no HNO.out,ke _ _⟩
  have K0:=hid (H0.out.1 rfl)
  go_wp2_with fail
  refine(pZ _ x.id 1099511627776).mono ?_;rintro e w1 ⟨⟨b1,hb1,rfl⟩,rfl⟩;have H1:=hid hb1;clear hb1;cases b1
  ·have hno:¬jX x:=λh=>by have:=H1.out.2 h.2.1;cases this
   have HNO:=hid hno;clear hno;go_wp2;go_ret;exact⟨TB.no HNO.out,ke _ _⟩
  have K1:=hid (H1.out.1 rfl)
  go_wp2_with fail
  refine(p9 _ x.inst 16).mono ?_;rintro e w1 ⟨⟨b1,hb1,rfl⟩,rfl⟩;have H2:=hid hb1;clear hb1;cases b1
  ·have hno:¬jX x:=λh=>by have:=H2.out.2 h.2.2.1;cases this
   have HNO:=hid hno;clear hno;go_wp2;go_ret;exact⟨TB.no HNO.out,ke _ _⟩
  have K2:=hid (H2.out.1 rfl)
  go_wp2_with fail
  refine(pZ _ x.price 1073741824).mono ?_;rintro e w1 ⟨⟨b1,hb1,rfl⟩,rfl⟩;have H3:=hid hb1;clear hb1;cases b1
  ·have hno:¬jX x:=λh=>by have:=H3.out.2 h.2.2.2.2.1;cases this
   have HNO:=hid hno;clear hno;go_wp2;go_ret;exact⟨TB.no HNO.out,ke _ _⟩
  have K3:=hid (H3.out.1 rfl)
  go_wp2_with fail
  refine(pZ _ x.left 1048576).mono ?_;rintro e w1 ⟨⟨b1,hb1,rfl⟩,rfl⟩;have H4:=hid hb1;clear hb1;have HL:=hid (show b1=true↔jX x from H4.out.trans ⟨λh=>⟨K0.out,K1.out,K2.out,HSG.out,K3.out,h⟩,λh=>h.2.2.2.2.2⟩);go_wp2;go_ret;exact⟨⟨b1,HL.out,rfl⟩,ke _ _⟩
 have HSB:=hid (show ¬jX x from λh=>by rcases h.2.2.2.1 with h|h;exact hs1 h;exact hs2 h);have q1:(x.side == 1)=false:=by simpa using hs1
 have q2:(x.side == 2)=false:=by simpa using hs2
 go_enter Tryz.func222,Tryz.ntmps222
 go_wp2_with fail
 refine(p9 _ x.acct 64).mono ?_;rintro e w1 ⟨⟨b1,hb1,rfl⟩,rfl⟩;have H0:=hid hb1;clear hb1;cases b1
 ·have hno:¬jX x:=λh=>by have:=H0.out.2 h.1;cases this
  have HNO:=hid hno;clear hno;go_wp2;go_ret;exact⟨TB.no HNO.out,ke _ _⟩
 have K0:=hid (H0.out.1 rfl)
 go_wp2_with fail
 refine(pZ _ x.id 1099511627776).mono ?_;rintro e w1 ⟨⟨b1,hb1,rfl⟩,rfl⟩;have H1:=hid hb1;clear hb1;cases b1
 ·have hno:¬jX x:=λh=>by have:=H1.out.2 h.2.1;cases this
  have HNO:=hid hno;clear hno;go_wp2;go_ret;exact⟨TB.no HNO.out,ke _ _⟩
 have K1:=hid (H1.out.1 rfl)
 go_wp2_with fail
 refine(p9 _ x.inst 16).mono ?_;rintro e w1 ⟨⟨b1,hb1,rfl⟩,rfl⟩;have H2:=hid hb1;clear hb1;cases b1
 ·have hno:¬jX x:=λh=>by have:=H2.out.2 h.2.2.1;cases this
  have HNO:=hid hno;clear hno;go_wp2;go_ret;exact⟨TB.no HNO.out,ke _ _⟩
 have K2:=hid (H2.out.1 rfl);go_wp2;go_ret;exact⟨TB.no HSB.out,ke _ _⟩
set_option maxRecDepth 100000 in
theorem qp (w:World)(x:LotD):Calls Tryz.prog 227 #[x.agg] w λe w'=>TB (jY x) e∧Below w.heap.size w w':=by
 unfold LotD.agg
 go_enter Tryz.func227,Tryz.ntmps227
 go_wp2_with fail
 refine(pZ _ x.id 1099511627776).mono ?_;rintro e w1 ⟨⟨b1,hb1,rfl⟩,rfl⟩;have H0:=hid hb1;clear hb1;cases b1
 ·have hno:¬jY x:=λh=>by have:=H0.out.2 h.1;cases this
  have HNO:=hid hno;clear hno;go_wp2;go_ret;exact⟨TB.no HNO.out,ke _ _⟩
 have K0:=hid (H0.out.1 rfl)
 go_wp2_with fail
 refine(p9 _ x.seller 64).mono ?_;rintro e w1 ⟨⟨b1,hb1,rfl⟩,rfl⟩;have H1:=hid hb1;clear hb1;cases b1
 ·have hno:¬jY x:=λh=>by have:=H1.out.2 h.2.1;cases this
  have HNO:=hid hno;clear hno;go_wp2;go_ret;exact⟨TB.no HNO.out,ke _ _⟩
 have K1:=hid (H1.out.1 rfl)
 go_wp2_with fail
 refine(p9 _ x.inst 16).mono ?_;rintro e w1 ⟨⟨b1,hb1,rfl⟩,rfl⟩;have H2:=hid hb1;clear hb1;cases b1
 ·have hno:¬jY x:=λh=>by have:=H2.out.2 h.2.2.1;cases this
  have HNO:=hid hno;clear hno;go_wp2;go_ret;exact⟨TB.no HNO.out,ke _ _⟩
 have K2:=hid (H2.out.1 rfl)
 go_wp2_with fail
 refine(pZ _ x.qty 1048576).mono ?_;rintro e w1 ⟨⟨b1,hb1,rfl⟩,rfl⟩;have H3:=hid hb1;clear hb1;have HL:=hid (show b1=true↔jY x from H3.out.trans ⟨λh=>⟨K0.out,K1.out,K2.out,h⟩,λh=>h.2.2.2⟩);go_wp2;go_ret;exact⟨⟨b1,HL.out,rfl⟩,ke _ _⟩
set_option maxRecDepth 100000 in
theorem qq (w:World)(x:OrdD):Calls Tryz.prog 323 #[x.agg] w λe w'=>TB (¬jB x) e∧Below w.heap.size w w':=by
 unfold OrdD.agg
 go_enter Tryz.func323,Tryz.ntmps323
 go_wp2_with fail
 refine(qm _ x).mono ?_;rintro e w1 ⟨⟨b,hb,rfl⟩,hb1⟩;have HB:=hid (kc hb1);have HX:=hid hb;clear hb1 hb;cases b
 ·go_wp2
  go_ret;exact⟨TB.yes (λh=>by have:=HX.out.2 h;cases this),HB.out⟩
 ·go_wp2
  go_ret;exact⟨TB.no (not_not_intro (HX.out.1 (by first|rfl|trivial))),HB.out⟩
end
section
open Go.RowKit Go.Maps
def qr (k:Int×Int):Value:=.agg #[.int .i64 k.1,.int .i64 k.2]
theorem qs (w:World)(d:Nat)(a b:Int×Int):(Op.equalIn (d+1+1) 372 (qr a) (qr b)).run Tryz.prog w = .ok (decide (a=b)) w:=by
 obtain⟨a1,a2⟩:=a;obtain⟨b1,b2⟩:=b;unfold qr;by_cases e1:a1=b1
 ·by_cases e2:a2=b2
  ·subst e1 e2
   simp[go_sem]
  ·have h2:(a2 == b2)=false:=by simpa using e2
   simp[go_sem,e1,e2,h2]
 ·have h1:(a1 == b1)=false:=by simpa using e1
  simp[go_sem,e1,h1]
theorem qt (w:World)(k:Int×Int):∀(m:PMap) (es:List MapEntry) (i:Nat),es.map kv=m.map (ekv qr)→(Instr.findAsking 372 (qr k) es i).run Tryz.prog w = .ok (pz qr k m i) w
 | [],[],i,_=>rfl
 | [],_::_,_,h=>by simp at h
 | _::_,[],_,h=>by simp at h
 | x::m,e::es,i,h=>by
  rw[List.map_cons,List.map_cons,List.cons.injEq]at h;have hk:e.key=qr x.1:=(Prod.mk.inj h.1).1;have hv:e.val = .int .i64 x.2:=(Prod.mk.inj h.1).2;have ih:=qt w k m es (i+1) h.2;unfold Instr.findAsking pz;have he:=qs w 9998 k x.1;rw[hk,hv];by_cases hkx:k=x.1
  ·rw[if_pos hkx]
   subst hkx;simp[Op.equal,Op.maxDepth,he,Result.andThen]
  ·rw[if_neg hkx]
   simp[Op.equal,Op.maxDepth,he,hkx,Result.andThen,ih]
theorem qu:KeyRuns Tryz.prog 372 qr where
 find:=λw k m es h=>by
  cases es with
  | nil=>
   have:m=[]:=by cases m with
    | nil=>rfl
    | cons=>simp at h
   subst this;simp[Instr.findKey,run_underlying Tryz.underlying372,Instr.findNow,pz,Result.andThen]
  | cons e es=>
   have h1:=qt w k m (e::es) 0 h;simp[Instr.findKey,run_underlying Tryz.underlying372,Instr.findNow,Instr.sameNow,Result.andThen,h1]
 check:=λw em k=>by
  unfold qr;kernel_rfl
 same:=λk=>by simp[qr,Instr.sameBits]
 inj:=λa b h=>by
  unfold qr at h;simp at h;exact Prod.ext h.1 h.2
def qv (k:Int):Value:=.int .i64 k
theorem qw (k:Int):∀(m:IMap) (es:List MapEntry) (i:Nat),es.map kv=m.map (ekv qv)→Instr.findNow (.int .i64) (qv k) es i=some (pz qv k m i)
 | [],[],i,_=>rfl
 | [],_::_,_,h=>by simp at h
 | _::_,[],_,h=>by simp at h
 | x::m,e::es,i,h=>by
  rw[List.map_cons,List.map_cons,List.cons.injEq]at h;have hk:e.key=qv x.1:=(Prod.mk.inj h.1).1;have hv:e.val = .int .i64 x.2:=(Prod.mk.inj h.1).2;have ih:=qw k m es (i+1) h.2;unfold Instr.findNow pz;rw[hk,hv];unfold qv at ih ⊢;by_cases hkx:k=x.1
  ·simp[Instr.sameNow,hkx]
  ·have:(k == x.1)=false:=by simpa using hkx
   simp only[Instr.sameNow,if_true,this,hkx,if_false];exact ih
theorem qx:KeyRuns Tryz.prog 3 qv where
 find:=λw k m es h=>by
  have h1:=qw k m es 0 h;simp[Instr.findKey,run_underlying Tryz.underlying3,h1,Result.andThen]
 check:=λw em k=>by
  unfold qv;kernel_rfl
 same:=λk=>by simp[qv,Instr.sameBits]
 inj:=λa b h=>by
  unfold qv at h;simpa using h
def qy (o:OrdD):Int×Int:=if o.side=1 then (0,o.price*o.left) else (o.inst,o.left)
set_option maxRecDepth 100000 in
theorem qz (w:World)(o:OrdD)(h:jB o):Calls Tryz.prog 331 #[o.agg] w λe w'=>e = .returned (.tuple #[.int .i64 (qy o).1,.int .i64 (qy o).2])∧Below w.heap.size w w':=by
 have HM:=hid (λW=>qm W o);have H:=hid h;have hb:1≤o.price∧o.price≤1073741824∧1≤o.left∧o.left≤1048576:=by unfold jB ji at h;omega
 have hw:wrap64 (o.price*o.left)=o.price*o.left:=by
  have h1:0≤o.price*o.left:=Int.mul_nonneg (by omega) (by omega);have h2:o.price*o.left≤1073741824*1048576:=Int.mul_le_mul (by omega) (by omega) (by omega) (by omega);unfold wrap64;omega
 clear h hb;unfold OrdD.agg at HM ⊢;by_cases hs:o.side=1
 ·have HF:=hid (show qy o=(0,o.price*o.left)from by unfold qy;rw[if_pos hs])
  have q:(o.side == 1)=true:=by simpa using hs
  clear hs
  go_enter Tryz.func331,Tryz.ntmps331
  go_wp2_with fail
  refine(HM.out _).mono ?_;rintro e w1 ⟨h1,hb1⟩;obtain rfl:=h1.pos H.out;have c3:=ka hb1 3 _ rfl;have c4:=ka hb1 4 _ rfl;have c5:=ka hb1 5 _ rfl;have HB:=hid (kc hb1);clear hb1 h1;go_wp2
  go_quiet (fail)
  go_wp2;refine bodyPost_ret (v:=.tuple #[.int .i64 0,.int .i64 (o.price*o.left)]) (by simp[results,Tryz.results331,go_sem];exact hw) rfl ?_;exact⟨by rw[HF.out],HB.out.trans ⟨rfl,rfl,rfl,Nat.le_refl _,λ_ _=>rfl⟩⟩
 ·have HF:=hid (show qy o=(o.inst,o.left)from by unfold qy;rw[if_neg hs])
  have q:(o.side == 1)=false:=by simpa using hs
  clear hs
  go_enter Tryz.func331,Tryz.ntmps331
  go_wp2_with fail
  refine(HM.out _).mono ?_;rintro e w1 ⟨h1,hb1⟩;obtain rfl:=h1.pos H.out;have c3:=ka hb1 3 _ rfl;have c2:=ka hb1 2 _ rfl;have c5:=ka hb1 5 _ rfl;have HB:=hid (kc hb1);clear hb1 h1;go_wp2
  go_quiet (fail)
  go_wp2;refine bodyPost_ret (v:=.tuple #[.int .i64 o.inst,.int .i64 o.left]) (by simp[results,Tryz.results331,go_sem]) rfl ?_;exact⟨by rw[HF.out],HB.out.trans ⟨rfl,rfl,rfl,Nat.le_refl _,λ_ _=>rfl⟩⟩
end
section
open Go.RowKit
def qA (t:Int):Value:=.agg #[.int .i64 (t / 18446744073709551616),.int .u64 (t % 18446744073709551616)]
theorem qB (x y:Nat)(hx:x<18446744073709551616)(hy:y<18446744073709551616)(w:World) :
  (callFunc 335 #[.int .u64 (x:Int),.int .u64 (y:Int),.int .u64 0]).run Tryz.prog w =
   .ok (.value (.tuple #[.int .u64 (((x+y) % 18446744073709551616:Nat):Int),.int .u64 (((x+y) / 18446744073709551616:Nat):Int)])) w:=by
 rw[run_callFunc_extern Tryz.func335 (by kernel_rfl) (by kernel_rfl) (by kernel_rfl) (e:=add64Entry) (by kernel_rfl),run_add64 x y 0 (by omega) (by omega) (by omega) (by omega)];simp only[Result.andThen];congr 5<;>omega
set_option maxRecDepth 100000 in
theorem qC (w:World)(t n:Int)(ht0 : -1180591620717411303424≤t)(ht1:t≤1180591620717411303424)(hn0 : -9223372036854775808≤n)(hn1:n<9223372036854775808) :
  Calls Tryz.prog 309 #[qA t,.int .i64 n] w λe w'=>e = .returned (qA (t+n))∧Below w.heap.size w w':=by
 unfold qA;obtain⟨h,hh⟩:∃h:Int,h=t / 18446744073709551616:=⟨_,rfl⟩;obtain⟨x,hx⟩:∃x:Nat,(x:Int)=t % 18446744073709551616:=⟨(t % 18446744073709551616).toNat,by omega⟩;obtain⟨y,hy⟩:∃y:Nat,(y:Int)=IntKind.u64.wrap n:=⟨(IntKind.u64.wrap n).toNat,by rw[IntKind.wrap_u64];omega⟩;have hy2:(y:Int)=n % 18446744073709551616:=by rw[hy,IntKind.wrap_u64]
 have HADD:=hid (qB x y (by omega) (by omega));rw[← hh,← hx];have hu:IntKind.u64.wrap n=(y:Int):=hy.symm;have HHH:=hid hh;have HXX:=hid hx;have HYY:=hid hy2;clear hh hx hy hy2;have hadd:=HADD.out
 go_enter Tryz.func309,Tryz.ntmps309
 go_wp2;have h1:=HHH.out;have h2:=HXX.out;have h3:=HYY.out;have e1:wrap64 (wrap64 (h+n / 9223372036854775808)+wrap64 (((x:Int)+(y:Int)) / 18446744073709551616))=(t+n) / 18446744073709551616:=by unfold wrap64;omega
 have e2:((x:Int)+(y:Int)) % 18446744073709551616=(t+n) % 18446744073709551616:=by omega
 refine bodyPost_ret (v:=.agg #[.int .i64 (wrap64 (wrap64 (h+n / 9223372036854775808)+wrap64 (((x:Int)+(y:Int)) / 18446744073709551616))),.int .u64 (((x:Int)+(y:Int)) % 18446744073709551616)]) (by simp[results,Tryz.results309,go_sem]) rfl ?_;rw[e1,e2];exact⟨rfl,(by repeat (first|exact Below.refl _ _|exact HB.out|refine Below.drew ?_|refine Below.alloc ?_ (by first|exact Nat.le_refl _|exact HB.out.size|(simp;done)|(simp;omega)|omega|(have:=HB.out.size;simp;omega)) _|refine Below.setCell ?_ (by first|exact Nat.le_refl _|exact HB.out.size|(simp;done)|(simp;omega)|omega|(have:=HB.out.size;simp;omega)) _))⟩
set_option maxRecDepth 100000 in
theorem qD (w:World)(t:Int)(ht0 : -1180591620717411303424≤t)(ht1:t≤1180591620717411303424) :
  Calls Tryz.prog 310 #[qA t] w λe w'=>e = .returned (.tuple #[.int .i64 (js t).1,.int .i64 (js t).2])∧Below w.heap.size w w':=by
 unfold qA;obtain⟨h,hh⟩:∃h:Int,h=t / 18446744073709551616:=⟨_,rfl⟩;obtain⟨x,hx⟩:∃x:Int,x=t % 18446744073709551616:=⟨_,rfl⟩;obtain⟨n,hn⟩:∃n:Int,n=wrap64 x:=⟨_,rfl⟩;rw[← hh,← hx];have hw:wrap64 x=n:=hn.symm;have HHH:=hid hh;have HXX:=hid hx;have HNN:=hid (show n=wrap64 (t % 18446744073709551616)from by rw[hn,hx]);clear hh hx hn;by_cases ha:h=n / 9223372036854775808
 ·have hq:(h != n / 9223372036854775808)=false:=by simp[ha]
  by_cases hb:4611686018427387904<n
  ·have HS:=hid (show js t=(0,41)from by
    have h1:=HHH.out;have h3:=HNN.out;unfold wrap64 at h3;unfold js;rw[if_neg (by omega)])
   go_enter Tryz.func310,Tryz.ntmps310
   go_wp2;refine bodyPost_ret (v:=.tuple #[.int .i64 0,.int .i64 41]) (by simp[results,Tryz.results310,go_sem]) rfl ?_;exact⟨by rw[HS.out],(by repeat (first|exact Below.refl _ _|exact HB.out|refine Below.drew ?_|refine Below.alloc ?_ (by first|exact Nat.le_refl _|exact HB.out.size|(simp;done)|(simp;omega)|omega|(have:=HB.out.size;simp;omega)) _|refine Below.setCell ?_ (by first|exact Nat.le_refl _|exact HB.out.size|(simp;done)|(simp;omega)|omega|(have:=HB.out.size;simp;omega)) _))⟩
  ·by_cases hc:n < -4611686018427387904
   ·have HS:=hid (show js t=(0,41)from by
     have h1:=HHH.out;have h3:=HNN.out;unfold wrap64 at h3;unfold js;rw[if_neg (by omega)])
    go_enter Tryz.func310,Tryz.ntmps310
    go_wp2;refine bodyPost_ret (v:=.tuple #[.int .i64 0,.int .i64 41]) (by simp[results,Tryz.results310,go_sem]) rfl ?_;exact⟨by rw[HS.out],(by repeat (first|exact Below.refl _ _|exact HB.out|refine Below.drew ?_|refine Below.alloc ?_ (by first|exact Nat.le_refl _|exact HB.out.size|(simp;done)|(simp;omega)|omega|(have:=HB.out.size;simp;omega)) _|refine Below.setCell ?_ (by first|exact Nat.le_refl _|exact HB.out.size|(simp;done)|(simp;omega)|omega|(have:=HB.out.size;simp;omega)) _))⟩
   ·have HS:=hid (show js t=(n,0)from by
     have h1:=HHH.out;have h3:=HNN.out;unfold wrap64 at h3;unfold js;rw[if_pos (by omega)];congr 1;omega)
    go_enter Tryz.func310,Tryz.ntmps310
    go_wp2;refine bodyPost_ret (v:=.tuple #[.int .i64 n,.int .i64 0]) (by simp[results,Tryz.results310,go_sem]) rfl ?_;exact⟨by rw[HS.out],(by repeat (first|exact Below.refl _ _|exact HB.out|refine Below.drew ?_|refine Below.alloc ?_ (by first|exact Nat.le_refl _|exact HB.out.size|(simp;done)|(simp;omega)|omega|(have:=HB.out.size;simp;omega)) _|refine Below.setCell ?_ (by first|exact Nat.le_refl _|exact HB.out.size|(simp;done)|(simp;omega)|omega|(have:=HB.out.size;simp;omega)) _))⟩
 ·have hq:(h != n / 9223372036854775808)=true:=by simpa using ha
  have HS:=hid (show js t=(0,41)from by
   have h1:=HHH.out;have h3:=HNN.out;unfold wrap64 at h3;unfold js;rw[if_neg (by omega)])
  go_enter Tryz.func310,Tryz.ntmps310
  go_wp2;refine bodyPost_ret (v:=.tuple #[.int .i64 0,.int .i64 41]) (by simp[results,Tryz.results310,go_sem]) rfl ?_;exact⟨by rw[HS.out],(by repeat (first|exact Below.refl _ _|exact HB.out|refine Below.drew ?_|refine Below.alloc ?_ (by first|exact Nat.le_refl _|exact HB.out.size|(simp;done)|(simp;omega)|omega|(have:=HB.out.size;simp;omega)) _|refine Below.setCell ?_ (by first|exact Nat.le_refl _|exact HB.out.size|(simp;done)|(simp;omega)|omega|(have:=HB.out.size;simp;omega)) _))⟩
theorem qE (ks:List Int)(k:Nat)(h:k<ks.length):(ks.take (k+1)).sum=(ks.take k).sum+ks[k]:=by
 rw[List.take_succ_eq_append_getElem h,List.sum_append];simp
theorem qF {ks:List Int}(hr:∀x∈ks,-9223372036854775808≤x∧x<9223372036854775808) : -9223372036854775808*(ks.length:Int)≤ks.sum∧ks.sum≤9223372036854775808*(ks.length:Int):=by
 induction ks with
 | nil=>simp
 | cons x r ih=>
  have h1:=ih (λy hy=>hr y (by simp[hy]));have h2:=hr x (by simp);rw[List.sum_cons,List.length_cons];omega
theorem qG {W:World}{b:Nat}{T:TypeId}{z0 z1:Value}(v0 v1:Value)(h:W.heap[b]?=some (.cells #[z0,z1] T (0,0))):((W.setCell ⟨b,0,none⟩ v0).setCell ⟨b,1,none⟩ v1).heap[b]?=some (.cells #[v0,v1] T (0,0)):=by
 have h1:=heap_setCell_same W b 0 _ _ v0 h;exact heap_setCell_same _ b 1 _ _ v1 h1
set_option maxRecDepth 100000 in
theorem qH (w:World)(sv:Value)(ks:List Int)(h:IntsAt w sv ks)(hr:∀x∈ks,-9223372036854775808≤x∧x<9223372036854775808)(hl:ks.length≤16) :
  Calls Tryz.prog 270 #[sv] w λe w'=>e = .returned (.tuple #[.int .i64 (js ks.sum).1,.int .i64 (js ks.sum).2])∧Below w.heap.size w w':=by
 have H:=hid h;obtain⟨a,c,rfl,_,_⟩:=h;have HR:=hid hr;clear hr;obtain⟨B,hB⟩:∃B,B=w.heap.size:=⟨_,rfl⟩;have HBB:=hid hB
 go_enter Tryz.func270,Tryz.ntmps270
 go_wp2;rw[← hB];clear hB
 go_loopw [9] (λi wr=>∃k:Nat,i = .int .i64 k∧k≤ks.length∧Hid (Below w.heap.size w wr)∧Hid (wr.heap[B]?=some (.cells #[.int .i64 ((ks.take k).sum / 18446744073709551616),.int .u64 ((ks.take k).sum % 18446744073709551616)] 379 (0,0)))) (λi _=>ks.length-(intOf i).toNat)
 case atStart=>
  refine⟨0,rfl,by omega,hid (ke _ _),hid ?_⟩;rw[HBB.out];exact heap_alloc_new _ _
 case round=>
  obtain⟨k,rfl,hk,HB,HW⟩:=hrel;have x0:wr.cell? ⟨B,0,none⟩=some (.int .i64 ((ks.take k).sum / 18446744073709551616)):=(cell_of_row _ _ _ _ _ _ HW.out).trans rfl;have x1:wr.cell? ⟨B,1,none⟩=some (.int .u64 ((ks.take k).sum % 18446744073709551616)):=(cell_of_row _ _ _ _ _ _ HW.out).trans rfl;have hsm:=qF (ks:=ks.take k) (λx hx=>HR.out x (List.mem_of_mem_take hx));rw[List.length_take]at hsm;have HSM:=hid hsm;clear hsm;obtain⟨t,ht⟩:∃t,t=(ks.take k).sum:=⟨_,rfl⟩;rw[← ht]at x0 x1;have HT:=hid ht;clear ht;by_cases hlt:k<ks.length
  ·have hc:∃b o,a=some ⟨b,o,none⟩∧b<w.heap.size∧wr.cell? ⟨b,o+k,none⟩=some (.int .i64 ks[k]):=by
    obtain⟨a',c',e,_,h0|⟨b,o,ha,hcell⟩⟩:=H.out
    ·rw[h0]at hlt;simp at hlt
    ·cases e
     exact⟨b,o,ha,aA (hcell k hlt),(HB.out.cell (p:=⟨b,o+k,none⟩) (aA (hcell k hlt))).trans (hcell k hlt)⟩
   obtain⟨b,o,rfl,hbw,hcell⟩:=hc;obtain⟨n,hn⟩:∃n,n=ks[k]:=⟨_,rfl⟩;rw[← hn]at hcell;have hnr:=HR.out ks[k] (List.getElem_mem hlt);rw[← hn]at hnr;have HN:=hid (show(ks.take (k+1)).sum=t+n from by rw[qE ks k hlt,HT.out,hn]);have hbB:B<wr.heap.size:=aA x0;have f0:=frozen_of_row wr B 0 _ _ HW.out;have f1:=frozen_of_row wr B 1 _ _ HW.out;have HP:=hid (qC wr t n (by have:=HSM.out;rw[← HT.out]at this;omega) (by have:=HSM.out;rw[← HT.out]at this;omega) hnr.1 hnr.2);unfold qA at HP;clear hn hnr
   go_wp2_with fail
   refine HP.out.mono ?_;rintro e w2 ⟨rfl,hb2⟩;have r2:=(hb2.block _ hbB).trans HW.out;have HR2:=hid r2;have f0:=frozen_of_row w2 B 0 _ _ r2;have f1:=frozen_of_row w2 B 1 _ _ r2;have y0:w2.cell? ⟨B,0,none⟩=some _:=(cell_of_row _ _ _ _ _ _ r2).trans rfl;have y1:w2.cell? ⟨B,1,none⟩=some _:=(cell_of_row _ _ _ _ _ _ r2).trans rfl;have HB2:=hid (HB.out.trans (hb2.mono HB.out.size));clear hb2 r2 x0 x1;go_wp2
   go_roundw
   case rel=>
    refine⟨k+1,by go_num,by omega,hid ((HB2.out.setCell (by rw[HBB.out];exact Nat.le_refl _) _).setCell (by rw[HBB.out];exact Nat.le_refl _) _),hid ?_⟩;rw[HN.out];exact qG _ _ HR2.out
   case measure=>simp[intOf];omega
  ·have hkl:k=ks.length:=by omega
   have HS:=hid (show ks.sum=t from by rw[HT.out,hkl,List.take_length]);have HTD:=hid (qD wr t (by have:=HSM.out;rw[← HT.out]at this;omega) (by have:=HSM.out;rw[← HT.out]at this;omega));unfold qA at HTD
   go_wp2_with fail
   refine HTD.out.mono ?_;rintro e w2 ⟨rfl,hb2⟩;have HB2:=hid (HB.out.trans (hb2.mono HB.out.size));clear hb2;go_wp2;refine bodyPost_ret (v:=.tuple #[.int .i64 (js t).1,.int .i64 (js t).2]) (by simp[results,Tryz.results270,go_sem]) rfl ?_;exact⟨by rw[HS.out],HB2.out⟩
set_option maxRecDepth 100000 in
theorem qI (w:World)(a b:Int)(ha : -9223372036854775808≤a∧a<9223372036854775808)(hb : -9223372036854775808≤b∧b<9223372036854775808) :
  Calls Tryz.prog 230 #[.int .i64 a,.int .i64 b] w λe w'=>e = .returned (.tuple #[.int .i64 (js (a+b)).1,.int .i64 (js (a+b)).2])∧Below w.heap.size w w':=by
 have HS:=hid (qH (w.alloc (.cells #[.int .i64 a,.int .i64 b] 2)) (.slice (some ⟨w.heap.size,0,none⟩) 2 2) [a,b] ⟨_,2,rfl,by simp,.inr ⟨w.heap.size,0,rfl,λi hi=>by
  rw[World.cell?_alloc_at _ _ _ _ rfl]
  match i,hi with
  | 0,_=>rfl
  | 1,_=>rfl⟩⟩ (λx hx=>by simp at hx;rcases hx with rfl|rfl;exact ha;exact hb) (by simp))
 have e:[a,b].sum=a+b:=by simp
 rw[e]at HS;clear e ha hb
 go_enter Tryz.func230,Tryz.ntmps230
 go_wp2_with fail
 refine HS.out.mono ?_;rintro e w2 ⟨rfl,hb2⟩;have HB:=hid (kc hb2);clear hb2;go_wp2;refine bodyPost_ret (v:=.tuple #[.int .i64 (js (a+b)).1,.int .i64 (js (a+b)).2]) (by simp[results,Tryz.results230,go_sem]) rfl ?_;exact⟨rfl,HB.out⟩
theorem qJ {P:Program}{k:IntKind}(t e:TypeId)(n:Nat)(xs ys:Array Value)(x y:Nat→Int)(ht:P.underlying t=some (.array n e))(he:P.underlying e=some (.int k))(hz:∀w,(sizeOf e).run P w = .ok 1 w)(ha:∀w,(isAgg e).run P w = .ok false w)
  (hx:∀i,i<n→xs[i]?=some (.int k (x i))) (hy:∀i,i<n→ys[i]?=some (.int k (y i))) (d:Nat) (w:World):(Op.equalIn (d+1+1) t (.agg xs) (.agg ys)).run P w = .ok (tf (∀i,i<n→x i=y i)) w:=by
 have hpx:∀i,i<n→∀w,(part e xs i).run P w = .ok (.int k (x i)) w:=λi hi w=>by unfold part;simp[ha,hx i hi]
 have hpy:∀i,i<n→∀w,(part e ys i).run P w = .ok (.int k (y i)) w:=λi hi w=>by unfold part;simp[ha,hy i hi]
 rw[Op.equalIn];simp only[Sem.run_bind,run_underlying ht,Result.andThen_ok,hz,Std.Legacy.Range.forIn_eq_forIn_range',Std.Legacy.Range.size];have hl:∀i,i∈List.range' 0 ((n-0+1-1) / 1) 1↔i<n:=λi=>by
  rw[List.mem_range'];constructor
  ·rintro⟨j,h1,h2⟩;omega
  ·intro h;exact⟨i,by omega,by omega⟩
 rw[show tf (∀i,i<n→x i=y i)=tf (∀i∈List.range' 0 ((n-0+1-1) / 1) 1,x i=y i)from jg ⟨λh i hi=>h i ((hl i).1 hi),λh i hi=>h i ((hl i).2 hi)⟩];have hl:∀i∈List.range' 0 ((n-0+1-1) / 1) 1,i<n:=λi hi=>(hl i).1 hi
 generalize List.range' 0 ((n-0+1-1) / 1) 1=l at hl ⊢
 induction l with
 | nil=>rw[je (by simp)];simp
 | cons i l ih=>
  have h1:=hpx i (hl i (by simp)) w;have h2:=hpy i (hl i (by simp)) w;rw[List.forIn_cons];simp only[Sem.run_bind,Nat.mul_one,h1,h2,Result.andThen_ok];rw[run_equalIn_int w d e k k _ _ he];have ih':=ih (λj hj=>hl j (by simp[hj]));simp only[Nat.mul_one]at ih';by_cases hxy:x i=y i
  ·rw[show tf (∀j∈i::l,x j=y j)=tf (∀j∈l,x j=y j)from jg ⟨λh j hj=>h j (by simp[hj]),λh j hj=>by rcases List.mem_cons.1 hj with rfl|hj;exact hxy;exact h j hj⟩]
   simpa[hxy]using ih'
  ·rw[jf (λh=>hxy (h i (by simp)))]
   have:(x i == y i)=false:=by simpa using hxy
   simp[this]
end
end Go.Proofs.YtaeakdichkhjaaaGreatDoor
