/- What Open tells of a file, and what a read of a snapshot's file tells, plainly. -/
import Derived.Test.YtaeakdichkhjaaaGreatDoorQAk
import Derived.Test.YtaeakdichkhjaaaGreatDoorQAi
import Derived.Test.YtaeakdichkhjaaaGreatDoorQAf
set_option maxHeartbeats 1000000
open Go.Lib(hid)
namespace Go.Proofs.YtaeakdichkhjaaaGreatDoor
section
open Go.RowKit
theorem tC {d:Int}(h:d≠0)(h0 : -1152921504606846976≤d)(h1:d≤1152921504606846976):mc (ma d)=d∧0≤ma d∧ma d≤4611686018427387904:=by
 unfold ma;by_cases hd:0<d
 ·rw[if_pos hd,show wrap64 (2*d)=2*d from by unfold wrap64;omega]
  unfold mc;rw[if_pos (by omega),Int.tdiv_eq_ediv_of_nonneg (by omega)];omega
 ·rw[if_neg hd,show wrap64 (wrap64 (-2*d)-1) = -2*d-1 from by unfold wrap64;omega]
  unfold mc;rw[if_neg (by omega),Int.neg_tdiv,Int.tdiv_eq_ediv_of_nonneg (by omega)];unfold wrap64;omega
theorem tD {r:RowD}(h0 : -4611686018427387904≤r.free)(h1:r.free≤4611686018427387904):lV ⟨r.acct,r.asset,(lV r).free,r.held⟩=r:=by
 unfold lV;by_cases ha:r.acct=0
 ·rw[if_pos ha]
  simp only[ha,if_true];rw[show wrap64 (-wrap64 (-r.free))=r.free from by unfold wrap64;omega];cases r;simp_all
 ·rw[if_neg ha]
  simp only[ha,if_false]
def tE (x:AccD):Prop:=x.name.length≤24
theorem tF (x:AccD):1≤(lT x).length:=by
 unfold lT lQ;simp only[List.length_append];have:=mR x.name.length;omega
theorem tG (s:List UInt8)(x:AccD)(h:tE x):mK s (ml s) x (lT x):=by
 intro k rest d0;unfold lT at d0;unfold tE at h;have g_name:=h;simp only[List.append_assoc]at d0;have h0:=(mQ s g_name) _ _ d0;have d1:=mG d0;have h1:=(mP s x.opn) _ _ d1;unfold ml;simp only[h0,h1];unfold lT;simp only[List.length_append,Nat.add_assoc]
def tH (x:InsD):Prop:=x.name.length≤24∧(0≤x.tick∧x.tick≤4611686018427387904)
theorem tI (x:InsD):1≤(lU x).length:=by
 unfold lU lQ;simp only[mI,mJ,List.append_nil,List.length_append];have:=mR x.name.length;omega
theorem tJ (s:List UInt8)(x:InsD)(h:tH x):mK s (mn s) x (lU x):=by
 intro k rest d0;unfold lU at d0;unfold tH at h;obtain⟨g_name,g_tick⟩:=h;simp only[mI,mJ,List.append_assoc,List.append_nil]at d0;have h0:=(mQ s g_name) _ _ d0;have d1:=mG d0;have h1:=(mM s g_tick.1 g_tick.2) _ _ d1;have d2:=mG d1;have h2:=(mP s x.halt) _ _ d2;unfold mn;simp only[h0,h1,h2];unfold lU;simp only[mI,mJ,List.append_nil,List.length_append,Nat.add_assoc]
def tK (x:RowD):Prop:=(0≤x.acct∧x.acct≤64)∧(0≤x.asset∧x.asset≤16)∧(x.acct=0 → -4611686018427387904≤x.free∧x.free≤0)∧(x.acct≠0→0≤x.free∧x.free≤4611686018427387904)∧(0≤x.held∧x.held≤4611686018427387904)
theorem tL (x:RowD):1≤(lW x).length:=by
 unfold lW;simp only[mI,mJ,List.append_nil,List.length_append];have:=mR (ie x.acct);omega
theorem tM (s:List UInt8)(x:RowD)(h:tK x):mK s (mo s) x (lW x):=by
 intro k rest d0;unfold lW at d0;unfold tK at h;obtain⟨g_acct,g_asset,g0,g1,g_held⟩:=h;simp only[mI,mJ,List.append_assoc,List.append_nil]at d0;have h0:=(mL s (most:=64) g_acct.1 (by omega) (by omega)) _ _ d0;have d1:=mG d0;have h1:=(mL s (most:=16) g_asset.1 (by omega) (by omega)) _ _ d1;have d2:=mG d1;have hfr:0≤(lV x).free∧(lV x).free≤4611686018427387904:=by
  unfold lV;by_cases ha:x.acct=0
  ·rw[if_pos ha];have:=g0 ha;show 0≤wrap64 (-x.free)∧wrap64 (-x.free)≤4611686018427387904;unfold wrap64;omega
  ·rw[if_neg ha];exact g1 ha
 have h2:=(mM s hfr.1 hfr.2) _ _ d2;have d3:=mG d2;have h3:=(mM s g_held.1 g_held.2) _ _ d3;unfold mo;simp only[h0,h1,h2,h3];unfold lW;simp only[mI,mJ,List.append_nil,List.length_append,Nat.add_assoc];rw[tD]
 ·by_cases ha:x.acct=0
  ·exact(g0 ha).1
  ·have:=g1 ha;omega
 ·by_cases ha:x.acct=0
  ·have:=g0 ha;omega
  ·exact(g1 ha).2
def tN (x:OrdD):Prop:=(0≤x.id∧x.id≤4611686018427387904)∧(0≤x.acct∧x.acct≤64)∧(0≤x.inst∧x.inst≤16)∧(0≤x.side∧x.side≤255)∧(0≤x.price∧x.price≤4611686018427387904)∧(0≤x.left∧x.left≤4611686018427387904)
theorem tO (x:OrdD):1≤(lX x).length:=by
 unfold lX;simp only[mI,mJ,List.append_nil,List.length_append];have:=mR (ie x.id);omega
theorem tP (s:List UInt8)(x:OrdD)(h:tN x):mK s (mq s) x (lX x):=by
 intro k rest d0;unfold lX at d0;unfold tN at h;obtain⟨g_id,g_acct,g_inst,g_side,g_price,g_left⟩:=h;simp only[mI,mJ,List.append_assoc,List.append_nil]at d0;have h0:=(mM s g_id.1 g_id.2) _ _ d0;have d1:=mG d0;have h1:=(mL s (most:=64) g_acct.1 (by omega) (by omega)) _ _ d1;have d2:=mG d1;have h2:=(mL s (most:=16) g_inst.1 (by omega) (by omega)) _ _ d2;have d3:=mG d2;have h3:=(mO s g_side.1 g_side.2) _ _ d3;have d4:=mG d3;have h4:=(mM s g_price.1 g_price.2) _ _ d4;have d5:=mG d4;have h5:=(mM s g_left.1 g_left.2) _ _ d5;unfold mq;simp only[h0,h1,h2,h3,h4,h5];unfold lX;simp only[mI,mJ,List.append_nil,List.length_append,Nat.add_assoc]
def tQ (x:BidD):Prop:=(0≤x.acct∧x.acct≤64)∧(0≤x.amount∧x.amount≤4611686018427387904)
theorem tR (x:BidD):1≤(lY x).length:=by
 unfold lY;simp only[mI,mJ,List.append_nil,List.length_append];have:=mR (ie x.acct);omega
theorem tS (s:List UInt8)(x:BidD)(h:tQ x):mK s (mr s) x (lY x):=by
 intro k rest d0;unfold lY at d0;unfold tQ at h;obtain⟨g_acct,g_amount⟩:=h;simp only[mI,mJ,List.append_assoc,List.append_nil]at d0;have h0:=(mL s (most:=64) g_acct.1 (by omega) (by omega)) _ _ d0;have d1:=mG d0;have h1:=(mM s g_amount.1 g_amount.2) _ _ d1;unfold mr;simp only[h0,h1];unfold lY;simp only[mI,mJ,List.append_nil,List.length_append,Nat.add_assoc]
def tT (x:AucD):Prop:=(0≤x.id∧x.id≤4611686018427387904)∧(0≤x.seller∧x.seller≤64)∧(0≤x.inst∧x.inst≤16)∧(0≤x.qty∧x.qty≤4611686018427387904)∧(0≤x.reserve∧x.reserve≤4611686018427387904)∧(0≤x.step∧x.step≤4611686018427387904)∧(0≤x.fin∧x.fin≤4611686018427387904)∧(∀b∈x.bids,tQ b)
theorem tU (x:AucD):1≤(lZ x).length:=by
 unfold lZ;simp only[mI,mJ,List.append_nil,List.length_append];have:=mR (ie x.id);omega
theorem tV (s:List UInt8)(hz:s.length≤1048576)(x:AucD)(h:tT x):mK s (mu s) x (lZ x):=by
 intro k rest d0;unfold lZ at d0;unfold tT at h;obtain⟨g_id,g_seller,g_inst,g_qty,g_reserve,g_step,g_fin,g_bids⟩:=h;simp only[mI,mJ,List.append_assoc,List.append_nil]at d0;have h0:=(mM s g_id.1 g_id.2) _ _ d0;have d1:=mG d0;have h1:=(mL s (most:=64) g_seller.1 (by omega) (by omega)) _ _ d1;have d2:=mG d1;have h2:=(mL s (most:=16) g_inst.1 (by omega) (by omega)) _ _ d2;have d3:=mG d2;have h3:=(mP s x.sealed) _ _ d3;have d4:=mG d3;have h4:=(mM s g_qty.1 g_qty.2) _ _ d4;have d5:=mG d4;have h5:=(mM s g_reserve.1 g_reserve.2) _ _ d5;have d6:=mG d5;have h6:=(mM s g_step.1 g_step.2) _ _ d6;have d7:=mG d6;have h7:=(mM s g_fin.1 g_fin.2) _ _ d7;have d8:=mG d7;have h8:=(mU s tR (λb hb=>tS s b (g_bids b hb)) hz) _ _ d8;unfold mu;simp only[h0,h1,h2,h3,h4,h5,h6,h7,h8];unfold lZ;simp only[mI,mJ,List.append_nil,List.length_append,Nat.add_assoc]
def tW (x:OpnD):Prop:=(0≤x.acct∧x.acct≤64)∧(0≤x.id∧x.id≤4611686018427387904)∧(0≤x.inst∧x.inst≤16)∧(0≤x.side∧x.side≤255)∧(0≤x.price∧x.price≤4611686018427387904)∧(0≤x.left∧x.left≤4611686018427387904)
theorem tX (x:OpnD):1≤(me x).length:=by
 unfold me;simp only[mI,mJ,List.append_nil,List.length_append];have:=mR (ie x.acct);omega
theorem tY (s:List UInt8)(x:OpnD)(h:tW x):mK s (mw s) x (me x):=by
 intro k rest d0;unfold me at d0;unfold tW at h;obtain⟨g_acct,g_id,g_inst,g_side,g_price,g_left⟩:=h;simp only[mI,mJ,List.append_assoc,List.append_nil]at d0;have h0:=(mL s (most:=64) g_acct.1 (by omega) (by omega)) _ _ d0;have d1:=mG d0;have h1:=(mM s g_id.1 g_id.2) _ _ d1;have d2:=mG d1;have h2:=(mL s (most:=16) g_inst.1 (by omega) (by omega)) _ _ d2;have d3:=mG d2;have h3:=(mO s g_side.1 g_side.2) _ _ d3;have d4:=mG d3;have h4:=(mM s g_price.1 g_price.2) _ _ d4;have d5:=mG d4;have h5:=(mM s g_left.1 g_left.2) _ _ d5;unfold mw;simp only[h0,h1,h2,h3,h4,h5];unfold me;simp only[mI,mJ,List.append_nil,List.length_append,Nat.add_assoc]
def tZ (x:LotD):Prop:=(0≤x.id∧x.id≤4611686018427387904)∧(0≤x.seller∧x.seller≤64)∧(0≤x.inst∧x.inst≤16)∧(0≤x.qty∧x.qty≤4611686018427387904)
theorem ua (x:LotD):1≤(mf x).length:=by
 unfold mf;simp only[mI,mJ,List.append_nil,List.length_append];have:=mR (ie x.id);omega
theorem ub (s:List UInt8)(x:LotD)(h:tZ x):mK s (mx s) x (mf x):=by
 intro k rest d0;unfold mf at d0;unfold tZ at h;obtain⟨g_id,g_seller,g_inst,g_qty⟩:=h;simp only[mI,mJ,List.append_assoc,List.append_nil]at d0;have h0:=(mM s g_id.1 g_id.2) _ _ d0;have d1:=mG d0;have h1:=(mL s (most:=64) g_seller.1 (by omega) (by omega)) _ _ d1;have d2:=mG d1;have h2:=(mL s (most:=16) g_inst.1 (by omega) (by omega)) _ _ d2;have d3:=mG d2;have h3:=(mM s g_qty.1 g_qty.2) _ _ d3;unfold mx;simp only[h0,h1,h2,h3];unfold mf;simp only[mI,mJ,List.append_nil,List.length_append,Nat.add_assoc]
def uc (x:PosD):Prop:=(0≤x.acct∧x.acct≤64)∧(0≤x.inst∧x.inst≤16)∧(0≤x.bought∧x.bought≤4611686018427387904)∧(0≤x.sold∧x.sold≤4611686018427387904)∧(0≤x.spent∧x.spent≤4611686018427387904)∧(0≤x.got∧x.got≤4611686018427387904)
theorem ud (x:PosD):1≤(mg x).length:=by
 unfold mg;simp only[mI,mJ,List.append_nil,List.length_append];have:=mR (ie x.acct);omega
theorem ue (s:List UInt8)(x:PosD)(h:uc x):mK s (my s) x (mg x):=by
 intro k rest d0;unfold mg at d0;unfold uc at h;obtain⟨g_acct,g_inst,g_bought,g_sold,g_spent,g_got⟩:=h;simp only[mI,mJ,List.append_assoc,List.append_nil]at d0;have h0:=(mL s (most:=64) g_acct.1 (by omega) (by omega)) _ _ d0;have d1:=mG d0;have h1:=(mL s (most:=16) g_inst.1 (by omega) (by omega)) _ _ d1;have d2:=mG d1;have h2:=(mM s g_bought.1 g_bought.2) _ _ d2;have d3:=mG d2;have h3:=(mM s g_sold.1 g_sold.2) _ _ d3;have d4:=mG d3;have h4:=(mM s g_spent.1 g_spent.2) _ _ d4;have d5:=mG d4;have h5:=(mM s g_got.1 g_got.2) _ _ d5;unfold my;simp only[h0,h1,h2,h3,h4,h5];unfold mg;simp only[mI,mJ,List.append_nil,List.length_append,Nat.add_assoc]
def uf (x:LinD):Prop:=(0≤x.acct∧x.acct≤64)∧(0≤x.seq∧x.seq≤4611686018427387904)∧(0≤x.kind∧x.kind≤255)∧(x.delta≠0 ∧ -1152921504606846976≤x.delta∧x.delta≤1152921504606846976)∧(0≤x.balance∧x.balance≤4611686018427387904)
theorem ug (x:LinD):1≤(mh x).length:=by
 unfold mh;simp only[mI,mJ,List.append_nil,List.length_append];have:=mR (ie x.acct);omega
theorem uh (s:List UInt8)(x:LinD)(h:uf x):mK s (mz s) x (mh x):=by
 intro k rest d0;unfold mh at d0;unfold uf at h;obtain⟨g_acct,g_seq,g_kind,g_delta,g_balance⟩:=h;simp only[mI,mJ,List.append_assoc,List.append_nil]at d0;have h0:=(mL s (most:=64) g_acct.1 (by omega) (by omega)) _ _ d0;have d1:=mG d0;have h1:=(mM s g_seq.1 g_seq.2) _ _ d1;have d2:=mG d1;have h2:=(mO s g_kind.1 g_kind.2) _ _ d2;have d3:=mG d2;obtain⟨hf0,hf1,hf2⟩:=tC g_delta.1 g_delta.2.1 g_delta.2.2;have h3:=(mM s hf1 hf2) _ _ d3;have d4:=mG d3;have h4:=(mM s g_balance.1 g_balance.2) _ _ d4;unfold mz;simp only[h0,h1,h2,h3,h4];unfold mh;simp only[mI,mJ,List.append_nil,List.length_append,Nat.add_assoc];rw[hf0]
def ui (s:StD):Prop:=(0≤s.clock∧s.clock≤4611686018427387904)∧(0≤s.fee∧s.fee≤4611686018427387904)∧(0≤s.nextO∧s.nextO≤4611686018427387904)∧(0≤s.nextA∧s.nextA≤4611686018427387904)∧(∀x∈s.accts,tE x)∧(∀x∈s.insts,tH x)∧(∀x∈s.rows,tK x)∧(∀x∈s.ords,tN x)∧(∀x∈s.aucs,tT x)
def uj (v:VwD):Prop:=(∀x∈v.open_,tW x)∧(∀x∈v.lots,tZ x)∧(∀x∈v.poss,uc x)∧(∀x∈v.lins,uf x)
theorem uk (t:List UInt8)(hz:t.length≤1048576)(s:StD)(h:ui s):mK t (stR t) s (stB s):=by
 intro k rest d0;unfold stB at d0;obtain⟨g0,g1,g2,g3,g4,g5,g6,g7,g8⟩:=h;simp only[mI,mJ,List.append_assoc,List.append_nil]at d0;have h0:=(mM t g0.1 g0.2) _ _ d0;have d1:=mG d0;have h1:=(mM t g1.1 g1.2) _ _ d1;have d2:=mG d1;have h2:=(mM t g2.1 g2.2) _ _ d2;have d3:=mG d2;have h3:=(mM t g3.1 g3.2) _ _ d3;have d4:=mG d3;have h4:=(mU t tF (λb hb=>tG t b (g4 b hb)) hz) _ _ d4;have d5:=mG d4;have h5:=(mU t tI (λb hb=>tJ t b (g5 b hb)) hz) _ _ d5;have d6:=mG d5;have h6:=(mU t tL (λb hb=>tM t b (g6 b hb)) hz) _ _ d6;have d7:=mG d6;have h7:=(mU t tO (λb hb=>tP t b (g7 b hb)) hz) _ _ d7;have d8:=mG d7;have h8:=(mU t tU (λb hb=>tV t hz b (g8 b hb)) hz) _ _ d8;unfold stR;simp only[h0,h1,h2,h3,h4,h5,h6,h7,h8];unfold stB;simp only[mI,mJ,List.append_nil,List.length_append,Nat.add_assoc]
theorem ul (t:List UInt8)(hz:t.length≤1048576)(v:VwD)(h:uj v):mK t (vwR t) v (vwB v):=by
 intro k rest d0;unfold vwB at d0;obtain⟨g0,g1,g2,g3⟩:=h;simp only[List.append_assoc]at d0;have h0:=(mU t tX (λb hb=>tY t b (g0 b hb)) hz) _ _ d0;have d1:=mG d0;have h1:=(mU t ua (λb hb=>ub t b (g1 b hb)) hz) _ _ d1;have d2:=mG d1;have h2:=(mU t ud (λb hb=>ue t b (g2 b hb)) hz) _ _ d2;have d3:=mG d2;have h3:=(mU t ug (λb hb=>uh t b (g3 b hb)) hz) _ _ d3;unfold vwR;simp only[h0,h1,h2,h3];unfold vwB;simp only[List.length_append,Nat.add_assoc]
theorem um {t:List UInt8}{s:StD}{v:VwD}{r1 r2:RS}(ht:¬mD t)(h1:stR t (mA 0)=(s,r1))(h2:vwR t r1=(v,r2))(h3:r2.st.ended t.length=0)(h4:r2.bad=false)(hs:jW s)(hv:j9 v):mE t=(s,v,0):=by
 unfold mE;rw[if_neg ht,h1];dsimp only;rw[h2,if_pos ⟨h3,h4,hs,hv⟩]
theorem un {n k:Nat}(h:n=k):(mA k).st.ended n=0:=by
 unfold RdSt.ended mA;rw[if_neg (by simp[h])]
theorem uo (s:StD)(v:VwD)(hs:jW s)(hv:j9 v)(fs:ui s)(fv:uj v)(hl:(mi s v).length≤1048556):mE (mi s v)=(s,v,0):=by
 have h1:=uk (mi s v) (by omega) s fs 0 (vwB v) rfl;have h2:=ul (mi s v) (by omega) v fv (0+(stB s).length) [] (by unfold mi;rw[Nat.zero_add,List.drop_left,List.append_nil]);exact um (by unfold mD;omega) h1 h2 (un (by unfold mi;rw[List.length_append,Nat.zero_add])) rfl hs hv
theorem uq {t:Int}(h:(js t).2=0) : -4611686018427387904≤t∧t≤4611686018427387904:=by
 unfold js at h;by_cases h1:t≤4611686018427387904 ∧ -4611686018427387904≤t
 ·omega
 ·rw[if_neg h1]at h;simp at h
theorem ur:∀(l:List RowD) (a x:Int) (f:Int→Int),jx a x f l→(a<0→∀j,f j=0)→(a=0→∀j,x<j→f j=0)→∀r∈l,tK r
 | [],_,_,_,_,_,_,r,hr=>by cases hr
 | q::t,a,x,f,h,hm,hz,r,hr=>by
  obtain⟨⟨hpl,hlt,hri,hno,hz0⟩,hs,hgo⟩:=h;have hs':=uq hs;obtain⟨p0,p1,p2,p3⟩:=hpl
  rcases List.mem_cons.1 hr with rfl|hr
  ·refine⟨⟨p0,p1⟩,⟨p2,p3⟩,λha=>?_,λha=>?_,?_⟩
   ·have hf:f r.asset=0:=by
     rcases hlt with h1|⟨h1,h2⟩
     ·exact hm (by omega) _
     ·exact hz (by omega) _ h2
    have h1:¬(r.held≠0∨0<r.free):=λh=>hz0 ⟨ha,h⟩;omega
   ·rcases hri with h1|h1
    ·exact absurd h1 ha
    ·omega
   ·rcases hri with h1|h1
    ·have h2:¬(r.held≠0∨0<r.free):=λh=>hz0 ⟨h1,h⟩
     omega
    ·omega
  ·refine ur t q.acct q.asset _ hgo (λh=>by omega) (λh0 j hj=>?_) r hr
   unfold upd;rw[if_neg (by omega)]
   rcases hlt with h1|⟨h1,h2⟩
   ·exact hm (by omega) _
   ·exact hz (by omega) _ (by omega)
theorem us {l:List RowD}(h:jy l):∀r∈l,tK r:=ur l (-1) 0 _ h (λ_ _=>rfl) (λh=>by omega)
theorem ut:∀(l:List AucD) (a:Int),jJ a l→∀x∈l,jI x
 | [],_,_,x,hx=>by cases hx
 | q::t,_,h,x,hx=>by
  rcases List.mem_cons.1 hx with rfl|hx
  ·exact h.2.1
  ·exact ut t _ h.2.2 x hx
theorem uu {x:AucD}(h:jI x):tT x:=by
 obtain⟨h0,h1,h2,h3,h4,h5,h6,h7⟩:=h;unfold ji at *;refine⟨by omega,by omega,by omega,by omega,by omega,?_,by omega,λb hb=>?_⟩
 ·unfold jH at h6
  cases hs:x.sealed
  ·rw[hs,if_neg (by decide)]at h6
   have:=h6.1;unfold ji at this;omega
  ·rw[hs,if_pos rfl]at h6
   omega
 ·obtain⟨i,hi,rfl⟩:=List.getElem_of_mem hb
  have:=h7 i hi;unfold ji at this;exact⟨by omega,by omega⟩
theorem uw {s:StD}(h:jW s):ui s:=by
 obtain⟨hn,ha,hi,hr,ho,hu,_⟩:=h;obtain⟨n0,n1,n2,n3⟩:=hn;unfold ji at *;refine⟨by omega,by omega,by omega,by omega,λx hx=>?_,λx hx=>?_,us hr.1,λx hx=>?_,λx hx=>uu (ut _ _ hu.1.1 x hx)⟩
 ·exact(ha.2.1 x.name (List.mem_map.2 ⟨x,hx,rfl⟩)).2.2
 ·have:=hi.1 x hx
  unfold ji at this;exact⟨(hi.2.2.1 x.name (List.mem_map.2 ⟨x,hx,rfl⟩)).2.2,by omega,by omega⟩
 ·have h1:=ho.1.2.1 x hx
  unfold jB ji at h1;exact⟨by omega,by omega,by omega,by omega,by omega,by omega⟩
theorem ux (m:IMap)(k n j:Int)(P:Int→Prop)(h0:P 0)(hn:P n)(h:∀j,P (jN m j)):P (jN (jO m k n) j):=by
 unfold jO
 split
 ·have key:∀m:IMap,(∀j,P (jN m j))→∀e,(m.map (λe=>if e.1 == k then (k,n) else e)).find? (λe=>e.1 == j)=some e→P e.2:=by
   intro m hm e he;rw[List.find?_map]at he;cases hf:m.find? ((λe:Int×Int=>e.1 == j)∘λe=>if e.1 == k then (k,n) else e)with
   | none=>rw[hf]at he;cases he
   | some d=>
    rw[hf]at he;obtain rfl:=Option.some.inj he;by_cases hd:d.1 == k
    ·simp only[hd,if_true];exact hn
    ·simp only[hd]
     have h2:m.find? (λe=>e.1 == j)=some d:=by
      rw[← hf];have hdj:=List.find?_some hf;simp only[Function.comp,hd]at hdj;have hjk:j≠k:=by
       intro e;subst e;exact hd (by simpa using hdj)
      congr 1
      funext e
      by_cases he:e.1 == k
      ·have:e.1=k:=by simpa using he
       simp[Function.comp,this]
      ·simp[Function.comp,he]
     have:=hm j;unfold jN at this;rw[h2]at this;exact this
  unfold jN;cases hf:(m.map (λe=>if e.1 == k then (k,n) else e)).find? (λe=>e.1 == j)with
  | none=>exact h0
  | some e=>exact key m h e hf
 ·unfold jN
  rw[List.find?_append];have:=h j;unfold jN at this;cases hf:m.find? (λe=>e.1 == j)with
  | some e=>rw[hf]at this;exact this
  | none=>
   simp only[Option.none_or];by_cases hk:k == j
   ·simp[List.find?,hk];exact hn
   ·simp[List.find?,hk];exact h0
theorem uy:∀(l:List LinD) (m:IMap) (q:Int),j5 m q l→(∀j,0≤jN m j∧jN m j≤1125899906842624)→∀x∈l,uf x
 | [],_,_,_,_,x,hx=>by cases hx
 | y::t,m,q,h,hm,x,hx=>by
  obtain⟨⟨h0,h1,h2,h3,h4,h5,h6⟩,hgo⟩:=h;unfold ji at h0
  rcases List.mem_cons.1 hx with rfl|hx
  ·have:=hm x.acct
   exact⟨by omega,by omega,by omega,⟨h4,by omega,by omega⟩,by omega⟩
  ·exact uy t _ _ hgo (λj=>ux m _ _ j (λn=>0≤n∧n≤1125899906842624) (by omega) h5 hm) x hx
theorem uz {v:VwD}(h:j9 v):uj v:=by
 obtain⟨ho,hp,hl⟩:=h;refine⟨λx hx=>?_,λx hx=>?_,λx hx=>?_,uy _ _ _ hl (λj=>by unfold jN;simp)⟩
 ·have h1:=ho.2.2.2.2.1 x hx
  unfold jX ji at h1;exact⟨by omega,by omega,by omega,by omega,by omega,by omega⟩
 ·have h1:=ho.2.2.2.2.2.2 x hx
  unfold jY ji at h1;exact⟨by omega,by omega,by omega,by omega⟩
 ·have h1:=hp.1 x hx
  unfold j2 ji j1 at h1;exact⟨by omega,by omega,by omega,by omega,by omega,by omega⟩
theorem uA {s:StD}{v:VwD}{L:List UInt8}(h:mF s v=(L,0)):mE L=(s,v,0)∧L.length≤1048556∧jW s∧j9 v:=by
 unfold mF at h;by_cases h1:jW s∧j9 v
 ·rw[if_neg (not_not_intro h1)]at h
  by_cases h2:mD (mi s v)
  ·rw[if_pos h2]at h;simp at h
  ·rw[if_neg h2]at h
   obtain rfl:mi s v=L:=(Prod.mk.inj h).1;unfold mD at h2;exact⟨uo s v h1.1 h1.2 (uw h1.1) (uz h1.2) (by omega),by omega,h1.1,h1.2⟩
 ·rw[if_pos h1]at h;simp at h
def uB (q:Nat)(L:List UInt8):List UInt8:=[115,110,112,49]++be 8 q++be 4 L.length++L
theorem uC (q:Nat)(L:List UInt8):gR q L=Crc.seal_ (uB q L):=rfl
theorem uD (q:Nat)(L:List UInt8):(uB q L).length=16+L.length:=by unfold uB;simp[aY];omega
theorem uE (q:Nat)(L:List UInt8):(⟨0,0,0⟩:RdSt).take (uB q L) 4=([115,110,112,49],true,⟨4,0,0⟩):=by
 have:=kD (A:=[]) (B:=[115,110,112,49]) (C:=be 8 q++(be 4 L.length++L)) (k:=0) (n:=4) rfl rfl;unfold uB;simpa using this
theorem uF (q:Nat)(L:List UInt8)(hq:q≤1048576):(⟨4,0,0⟩:RdSt).fixed (uB q L) 8=(q,⟨12,0,0⟩):=by
 have:=kD (A:=[115,110,112,49]) (B:=be 8 q) (C:=be 4 L.length++L) (k:=4) (n:=8) rfl (aY 8 q);unfold RdSt.fixed;rw[show uB q L=[115,110,112,49]++(be 8 q++(be 4 L.length++L))from by unfold uB;simp,this];simp only;rw[il 8 q (by omega)]
theorem uG (q:Nat)(L:List UInt8)(hL:L.length≤1048576):(⟨12,0,0⟩:RdSt).fixed (uB q L) 4=(L.length,⟨16,0,0⟩):=by
 have:=kD (A:=[115,110,112,49]++be 8 q) (B:=be 4 L.length) (C:=L) (k:=12) (n:=4) (by simp[aY]) (aY 4 _);unfold RdSt.fixed;rw[show uB q L=([115,110,112,49]++be 8 q)++(be 4 L.length++L)from by unfold uB;simp,this];simp only;rw[il 4 _ (by omega)]
theorem uH (q:Nat)(L:List UInt8):(uB q L).drop 16=L:=by
 unfold uB;rw[List.drop_left' (by simp[aY])]
noncomputable def uI (t:List UInt8):Int×StD×VwD×Int:=
 if ((((⟨0,0,0⟩:RdSt).take t 4).2.2.fixed t 8).2.fixed t 4).2.e≠0 then (0,mB,mC,4)
 else if ((⟨0,0,0⟩:RdSt).take t 4).1≠[115,110,112,49] then (0,mB,mC,4)
 else if 1048576<(((⟨0,0,0⟩:RdSt).take t 4).2.2.fixed t 8).1 then (0,mB,mC,4)
 else if ((((((⟨0,0,0⟩:RdSt).take t 4).2.2.fixed t 8).2.fixed t 4).1:Nat):Int)≠(t.length:Int)-((((⟨0,0,0⟩:RdSt).take t 4).2.2.fixed t 8).2.fixed t 4).2.at_ then (0,mB,mC,4)
 else if (mE (t.drop 16)).2.2≠0 then (0,mB,mC,4)
 else (((((⟨0,0,0⟩:RdSt).take t 4).2.2.fixed t 8).1:Nat),(mE (t.drop 16)).1,(mE (t.drop 16)).2.1,0)
open Classical in
noncomputable def uJ (s:List UInt8):Int×StD×VwD×Int:=
 if 1048576<s.length then (0,mB,mC,40) else if s.length<4 then (0,mB,mC,8) else if ¬iS s then (0,mB,mC,42) else uI (s.take (s.length-4))
theorem uK {q:Nat}{L:List UInt8}{s:StD}{v:VwD}(hq:q≤1048576)(hL:L.length≤1048576)(h:mE L=(s,v,0)):uI (uB q L)=((q:Int),s,v,0):=by
 unfold uI;rw[uE];dsimp only;rw[uF q L hq];dsimp only;rw[uG q L hL];dsimp only;rw[uH,h];dsimp only;rw[if_neg (by simp),if_neg (by simp),if_neg (by omega),if_neg (by rw[uD];omega),if_neg (by simp)]
theorem uL {q:Nat}{L:List UInt8}{s:StD}{v:VwD}(hq:q≤1048576)(hL:L.length≤1048556)(h:mE L=(s,v,0)):uJ (gR q L)=((q:Int),s,v,0):=by
 rw[uC];unfold uJ;have hl:(Crc.seal_ (uB q L)).length=20+L.length:=by rw[Crc.seal_length,uD];omega
 rw[if_neg (by rw[hl];omega),if_neg (by rw[hl];omega),if_neg (by rw[Classical.not_not];exact kC _)];have:(Crc.seal_ (uB q L)).take ((Crc.seal_ (uB q L)).length-4)=uB q L:=by
  rw[hl];unfold Crc.seal_;rw[List.take_left' (by rw[uD];omega)]
 rw[this];exact uK hq (by omega) h
noncomputable def uM (n:Int) (r:List UInt8×Int):StD×VwD×Int:=
 if n<0∨1048576<n then (mB,mC,1) else if r.2≠0 then (mB,mC,r.2)
 else if (uJ r.1).2.2.2≠0 then (mB,mC,(uJ r.1).2.2.2) else if (uJ r.1).1≠n then (mB,mC,4) else ((uJ r.1).2.1,(uJ r.1).2.2.1,0)
end
end Go.Proofs.YtaeakdichkhjaaaGreatDoor
