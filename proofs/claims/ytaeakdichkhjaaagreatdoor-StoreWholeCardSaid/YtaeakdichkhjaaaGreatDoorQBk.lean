/- What Open tells of a file, and what a read of a snapshot's file tells, plainly. -/
import Derived.Test.YtaeakdichkhjaaaGreatDoorQAr
import Derived.Test.YtaeakdichkhjaaaGreatDoorQAm
import Derived.Test.YtaeakdichkhjaaaGreatDoorQAh
set_option maxHeartbeats 1000000
open Go.Lib(hid)
namespace Go.Proofs.YtaeakdichkhjaaaGreatDoor
section
open Go.RowKit
theorem vK {d:Int}(h:d≠0)(h0 : -1152921504606846976≤d)(h1:d≤1152921504606846976):ot (oq d)=d∧0≤oq d∧oq d≤4611686018427387904:=by
 unfold oq;by_cases hd:0<d
 ·rw[if_pos hd,show wrap64 (2*d)=2*d from by unfold wrap64;omega]
  unfold ot;rw[if_pos (by omega),Int.tdiv_eq_ediv_of_nonneg (by omega)];omega
 ·rw[if_neg hd,show wrap64 (wrap64 (-2*d)-1) = -2*d-1 from by unfold wrap64;omega]
  unfold ot;rw[if_neg (by omega),Int.neg_tdiv,Int.tdiv_eq_ediv_of_nonneg (by omega)];unfold wrap64;omega
theorem vL {r:RowD}(h0 : -4611686018427387904≤r.free)(h1:r.free≤4611686018427387904):oh ⟨r.acct,r.asset,(oh r).free,r.held⟩=r:=by
 unfold oh;by_cases ha:r.acct=0
 ·rw[if_pos ha]
  simp only[ha,if_true];rw[show wrap64 (-wrap64 (-r.free))=r.free from by unfold wrap64;omega];cases r;simp_all
 ·rw[if_neg ha]
  simp only[ha,if_false]
def vM (x:AccD):Prop:=x.name.length≤24
theorem vN (x:AccD):1≤(oe x).length:=by
 unfold oe ob;simp only[List.length_append];have:=pc x.name.length;omega
theorem vO (s:List UInt8)(x:AccD)(h:vM x):oV s (oB s) x (oe x):=by
 intro k rest d0;unfold oe at d0;unfold vM at h;have g_name:=h;simp only[List.append_assoc]at d0;have h0:=(pb s g_name) _ _ d0;have d1:=oR d0;have h1:=(pa s x.opn) _ _ d1;unfold oB;simp only[h0,h1];unfold oe;simp only[List.length_append,Nat.add_assoc]
def vP (x:InsD):Prop:=x.name.length≤24∧(0≤x.tick∧x.tick≤4611686018427387904)
theorem vQ (x:InsD):1≤(og x).length:=by
 unfold og ob;simp only[oT,oU,List.append_nil,List.length_append];have:=pc x.name.length;omega
theorem vR (s:List UInt8)(x:InsD)(h:vP x):oV s (oC s) x (og x):=by
 intro k rest d0;unfold og at d0;unfold vP at h;obtain⟨g_name,g_tick⟩:=h;simp only[oT,oU,List.append_assoc,List.append_nil]at d0;have h0:=(pb s g_name) _ _ d0;have d1:=oR d0;have h1:=(oX s g_tick.1 g_tick.2) _ _ d1;have d2:=oR d1;have h2:=(pa s x.halt) _ _ d2;unfold oC;simp only[h0,h1,h2];unfold og;simp only[oT,oU,List.append_nil,List.length_append,Nat.add_assoc]
def vS (x:RowD):Prop:=(0≤x.acct∧x.acct≤64)∧(0≤x.asset∧x.asset≤16)∧(x.acct=0 → -4611686018427387904≤x.free∧x.free≤0)∧(x.acct≠0→0≤x.free∧x.free≤4611686018427387904)∧(0≤x.held∧x.held≤4611686018427387904)
theorem vT (x:RowD):1≤(oj x).length:=by
 unfold oj;simp only[oT,oU,List.append_nil,List.length_append];have:=pc (jg x.acct);omega
theorem vU (s:List UInt8)(x:RowD)(h:vS x):oV s (oD s) x (oj x):=by
 intro k rest d0;unfold oj at d0;unfold vS at h;obtain⟨g_acct,g_asset,g0,g1,g_held⟩:=h;simp only[oT,oU,List.append_assoc,List.append_nil]at d0;have h0:=(oW s (most:=64) g_acct.1 (by omega) (by omega)) _ _ d0;have d1:=oR d0;have h1:=(oW s (most:=16) g_asset.1 (by omega) (by omega)) _ _ d1;have d2:=oR d1;have hfr:0≤(oh x).free∧(oh x).free≤4611686018427387904:=by
  unfold oh;by_cases ha:x.acct=0
  ·rw[if_pos ha];have:=g0 ha;show 0≤wrap64 (-x.free)∧wrap64 (-x.free)≤4611686018427387904;unfold wrap64;omega
  ·rw[if_neg ha];exact g1 ha
 have h2:=(oX s hfr.1 hfr.2) _ _ d2;have d3:=oR d2;have h3:=(oX s g_held.1 g_held.2) _ _ d3;unfold oD;simp only[h0,h1,h2,h3];unfold oj;simp only[oT,oU,List.append_nil,List.length_append,Nat.add_assoc];rw[vL]
 ·by_cases ha:x.acct=0
  ·exact(g0 ha).1
  ·have:=g1 ha;omega
 ·by_cases ha:x.acct=0
  ·have:=g0 ha;omega
  ·exact(g1 ha).2
def vV (x:OrdD):Prop:=(0≤x.id∧x.id≤4611686018427387904)∧(0≤x.acct∧x.acct≤64)∧(0≤x.inst∧x.inst≤16)∧(0≤x.side∧x.side≤255)∧(0≤x.price∧x.price≤4611686018427387904)∧(0≤x.left∧x.left≤4611686018427387904)
theorem vW (x:OrdD):1≤(ol x).length:=by
 unfold ol;simp only[oT,oU,List.append_nil,List.length_append];have:=pc (jg x.id);omega
theorem vX (s:List UInt8)(x:OrdD)(h:vV x):oV s (oE s) x (ol x):=by
 intro k rest d0;unfold ol at d0;unfold vV at h;obtain⟨g_id,g_acct,g_inst,g_side,g_price,g_left⟩:=h;simp only[oT,oU,List.append_assoc,List.append_nil]at d0;have h0:=(oX s g_id.1 g_id.2) _ _ d0;have d1:=oR d0;have h1:=(oW s (most:=64) g_acct.1 (by omega) (by omega)) _ _ d1;have d2:=oR d1;have h2:=(oW s (most:=16) g_inst.1 (by omega) (by omega)) _ _ d2;have d3:=oR d2;have h3:=(oZ s g_side.1 g_side.2) _ _ d3;have d4:=oR d3;have h4:=(oX s g_price.1 g_price.2) _ _ d4;have d5:=oR d4;have h5:=(oX s g_left.1 g_left.2) _ _ d5;unfold oE;simp only[h0,h1,h2,h3,h4,h5];unfold ol;simp only[oT,oU,List.append_nil,List.length_append,Nat.add_assoc]
def vY (x:BidD):Prop:=(0≤x.acct∧x.acct≤64)∧(0≤x.amount∧x.amount≤4611686018427387904)
theorem vZ (x:BidD):1≤(om x).length:=by
 unfold om;simp only[oT,oU,List.append_nil,List.length_append];have:=pc (jg x.acct);omega
theorem wb (s:List UInt8)(x:BidD)(h:vY x):oV s (oF s) x (om x):=by
 intro k rest d0;unfold om at d0;unfold vY at h;obtain⟨g_acct,g_amount⟩:=h;simp only[oT,oU,List.append_assoc,List.append_nil]at d0;have h0:=(oW s (most:=64) g_acct.1 (by omega) (by omega)) _ _ d0;have d1:=oR d0;have h1:=(oX s g_amount.1 g_amount.2) _ _ d1;unfold oF;simp only[h0,h1];unfold om;simp only[oT,oU,List.append_nil,List.length_append,Nat.add_assoc]
def we (x:AucD):Prop:=(0≤x.id∧x.id≤4611686018427387904)∧(0≤x.seller∧x.seller≤64)∧(0≤x.inst∧x.inst≤16)∧(0≤x.qty∧x.qty≤4611686018427387904)∧(0≤x.reserve∧x.reserve≤4611686018427387904)∧(0≤x.step∧x.step≤4611686018427387904)∧(0≤x.fin∧x.fin≤4611686018427387904)∧(∀b∈x.bids,vY b)
theorem wg (x:AucD):1≤(oo x).length:=by
 unfold oo;simp only[oT,oU,List.append_nil,List.length_append];have:=pc (jg x.id);omega
theorem wh (s:List UInt8)(hz:s.length≤1048576)(x:AucD)(h:we x):oV s (oG s) x (oo x):=by
 intro k rest d0;unfold oo at d0;unfold we at h;obtain⟨g_id,g_seller,g_inst,g_qty,g_reserve,g_step,g_fin,g_bids⟩:=h;simp only[oT,oU,List.append_assoc,List.append_nil]at d0;have h0:=(oX s g_id.1 g_id.2) _ _ d0;have d1:=oR d0;have h1:=(oW s (most:=64) g_seller.1 (by omega) (by omega)) _ _ d1;have d2:=oR d1;have h2:=(oW s (most:=16) g_inst.1 (by omega) (by omega)) _ _ d2;have d3:=oR d2;have h3:=(pa s x.sealed) _ _ d3;have d4:=oR d3;have h4:=(oX s g_qty.1 g_qty.2) _ _ d4;have d5:=oR d4;have h5:=(oX s g_reserve.1 g_reserve.2) _ _ d5;have d6:=oR d5;have h6:=(oX s g_step.1 g_step.2) _ _ d6;have d7:=oR d6;have h7:=(oX s g_fin.1 g_fin.2) _ _ d7;have d8:=oR d7;have h8:=(pg s vZ (λb hb=>wb s b (g_bids b hb)) hz) _ _ d8;unfold oG;simp only[h0,h1,h2,h3,h4,h5,h6,h7,h8];unfold oo;simp only[oT,oU,List.append_nil,List.length_append,Nat.add_assoc]
def wi (x:OpnD):Prop:=(0≤x.acct∧x.acct≤64)∧(0≤x.id∧x.id≤4611686018427387904)∧(0≤x.inst∧x.inst≤16)∧(0≤x.side∧x.side≤255)∧(0≤x.price∧x.price≤4611686018427387904)∧(0≤x.left∧x.left≤4611686018427387904)
theorem wj (x:OpnD):1≤(ou x).length:=by
 unfold ou;simp only[oT,oU,List.append_nil,List.length_append];have:=pc (jg x.acct);omega
theorem wk (s:List UInt8)(x:OpnD)(h:wi x):oV s (oH s) x (ou x):=by
 intro k rest d0;unfold ou at d0;unfold wi at h;obtain⟨g_acct,g_id,g_inst,g_side,g_price,g_left⟩:=h;simp only[oT,oU,List.append_assoc,List.append_nil]at d0;have h0:=(oW s (most:=64) g_acct.1 (by omega) (by omega)) _ _ d0;have d1:=oR d0;have h1:=(oX s g_id.1 g_id.2) _ _ d1;have d2:=oR d1;have h2:=(oW s (most:=16) g_inst.1 (by omega) (by omega)) _ _ d2;have d3:=oR d2;have h3:=(oZ s g_side.1 g_side.2) _ _ d3;have d4:=oR d3;have h4:=(oX s g_price.1 g_price.2) _ _ d4;have d5:=oR d4;have h5:=(oX s g_left.1 g_left.2) _ _ d5;unfold oH;simp only[h0,h1,h2,h3,h4,h5];unfold ou;simp only[oT,oU,List.append_nil,List.length_append,Nat.add_assoc]
def wm (x:LotD):Prop:=(0≤x.id∧x.id≤4611686018427387904)∧(0≤x.seller∧x.seller≤64)∧(0≤x.inst∧x.inst≤16)∧(0≤x.qty∧x.qty≤4611686018427387904)
theorem wn (x:LotD):1≤(ov x).length:=by
 unfold ov;simp only[oT,oU,List.append_nil,List.length_append];have:=pc (jg x.id);omega
theorem wo (s:List UInt8)(x:LotD)(h:wm x):oV s (oI s) x (ov x):=by
 intro k rest d0;unfold ov at d0;unfold wm at h;obtain⟨g_id,g_seller,g_inst,g_qty⟩:=h;simp only[oT,oU,List.append_assoc,List.append_nil]at d0;have h0:=(oX s g_id.1 g_id.2) _ _ d0;have d1:=oR d0;have h1:=(oW s (most:=64) g_seller.1 (by omega) (by omega)) _ _ d1;have d2:=oR d1;have h2:=(oW s (most:=16) g_inst.1 (by omega) (by omega)) _ _ d2;have d3:=oR d2;have h3:=(oX s g_qty.1 g_qty.2) _ _ d3;unfold oI;simp only[h0,h1,h2,h3];unfold ov;simp only[oT,oU,List.append_nil,List.length_append,Nat.add_assoc]
def ws (x:PosD):Prop:=(0≤x.acct∧x.acct≤64)∧(0≤x.inst∧x.inst≤16)∧(0≤x.bought∧x.bought≤4611686018427387904)∧(0≤x.sold∧x.sold≤4611686018427387904)∧(0≤x.spent∧x.spent≤4611686018427387904)∧(0≤x.got∧x.got≤4611686018427387904)
theorem wt (x:PosD):1≤(ow x).length:=by
 unfold ow;simp only[oT,oU,List.append_nil,List.length_append];have:=pc (jg x.acct);omega
theorem wu (s:List UInt8)(x:PosD)(h:ws x):oV s (oJ s) x (ow x):=by
 intro k rest d0;unfold ow at d0;unfold ws at h;obtain⟨g_acct,g_inst,g_bought,g_sold,g_spent,g_got⟩:=h;simp only[oT,oU,List.append_assoc,List.append_nil]at d0;have h0:=(oW s (most:=64) g_acct.1 (by omega) (by omega)) _ _ d0;have d1:=oR d0;have h1:=(oW s (most:=16) g_inst.1 (by omega) (by omega)) _ _ d1;have d2:=oR d1;have h2:=(oX s g_bought.1 g_bought.2) _ _ d2;have d3:=oR d2;have h3:=(oX s g_sold.1 g_sold.2) _ _ d3;have d4:=oR d3;have h4:=(oX s g_spent.1 g_spent.2) _ _ d4;have d5:=oR d4;have h5:=(oX s g_got.1 g_got.2) _ _ d5;unfold oJ;simp only[h0,h1,h2,h3,h4,h5];unfold ow;simp only[oT,oU,List.append_nil,List.length_append,Nat.add_assoc]
def wv (x:LinD):Prop:=(0≤x.acct∧x.acct≤64)∧(0≤x.seq∧x.seq≤4611686018427387904)∧(0≤x.kind∧x.kind≤255)∧(x.delta≠0 ∧ -1152921504606846976≤x.delta∧x.delta≤1152921504606846976)∧(0≤x.balance∧x.balance≤4611686018427387904)
theorem ww (x:LinD):1≤(ox x).length:=by
 unfold ox;simp only[oT,oU,List.append_nil,List.length_append];have:=pc (jg x.acct);omega
theorem wy (s:List UInt8)(x:LinD)(h:wv x):oV s (oK s) x (ox x):=by
 intro k rest d0;unfold ox at d0;unfold wv at h;obtain⟨g_acct,g_seq,g_kind,g_delta,g_balance⟩:=h;simp only[oT,oU,List.append_assoc,List.append_nil]at d0;have h0:=(oW s (most:=64) g_acct.1 (by omega) (by omega)) _ _ d0;have d1:=oR d0;have h1:=(oX s g_seq.1 g_seq.2) _ _ d1;have d2:=oR d1;have h2:=(oZ s g_kind.1 g_kind.2) _ _ d2;have d3:=oR d2;obtain⟨hf0,hf1,hf2⟩:=vK g_delta.1 g_delta.2.1 g_delta.2.2;have h3:=(oX s hf1 hf2) _ _ d3;have d4:=oR d3;have h4:=(oX s g_balance.1 g_balance.2) _ _ d4;unfold oK;simp only[h0,h1,h2,h3,h4];unfold ox;simp only[oT,oU,List.append_nil,List.length_append,Nat.add_assoc];rw[hf0]
def wA (s:StD):Prop:=(0≤s.clock∧s.clock≤4611686018427387904)∧(0≤s.fee∧s.fee≤4611686018427387904)∧(0≤s.nextO∧s.nextO≤4611686018427387904)∧(0≤s.nextA∧s.nextA≤4611686018427387904)∧(∀x∈s.accts,vM x)∧(∀x∈s.insts,vP x)∧(∀x∈s.rows,vS x)∧(∀x∈s.ords,vV x)∧(∀x∈s.aucs,we x)
def wB (v:VwD):Prop:=(∀x∈v.open_,wi x)∧(∀x∈v.lots,wm x)∧(∀x∈v.poss,ws x)∧(∀x∈v.lins,wv x)
theorem wC (t:List UInt8)(hz:t.length≤1048576)(s:StD)(h:wA s):oV t (stR t) s (stB s):=by
 intro k rest d0;unfold stB at d0;obtain⟨g0,g1,g2,g3,g4,g5,g6,g7,g8⟩:=h;simp only[oT,oU,List.append_assoc,List.append_nil]at d0;have h0:=(oX t g0.1 g0.2) _ _ d0;have d1:=oR d0;have h1:=(oX t g1.1 g1.2) _ _ d1;have d2:=oR d1;have h2:=(oX t g2.1 g2.2) _ _ d2;have d3:=oR d2;have h3:=(oX t g3.1 g3.2) _ _ d3;have d4:=oR d3;have h4:=(pg t vN (λb hb=>vO t b (g4 b hb)) hz) _ _ d4;have d5:=oR d4;have h5:=(pg t vQ (λb hb=>vR t b (g5 b hb)) hz) _ _ d5;have d6:=oR d5;have h6:=(pg t vT (λb hb=>vU t b (g6 b hb)) hz) _ _ d6;have d7:=oR d6;have h7:=(pg t vW (λb hb=>vX t b (g7 b hb)) hz) _ _ d7;have d8:=oR d7;have h8:=(pg t wg (λb hb=>wh t hz b (g8 b hb)) hz) _ _ d8;unfold stR;simp only[h0,h1,h2,h3,h4,h5,h6,h7,h8];unfold stB;simp only[oT,oU,List.append_nil,List.length_append,Nat.add_assoc]
theorem wD (t:List UInt8)(hz:t.length≤1048576)(v:VwD)(h:wB v):oV t (vwR t) v (vwB v):=by
 intro k rest d0;unfold vwB at d0;obtain⟨g0,g1,g2,g3⟩:=h;simp only[List.append_assoc]at d0;have h0:=(pg t wj (λb hb=>wk t b (g0 b hb)) hz) _ _ d0;have d1:=oR d0;have h1:=(pg t wn (λb hb=>wo t b (g1 b hb)) hz) _ _ d1;have d2:=oR d1;have h2:=(pg t wt (λb hb=>wu t b (g2 b hb)) hz) _ _ d2;have d3:=oR d2;have h3:=(pg t ww (λb hb=>wy t b (g3 b hb)) hz) _ _ d3;unfold vwR;simp only[h0,h1,h2,h3];unfold vwB;simp only[List.length_append,Nat.add_assoc]
theorem wE {t:List UInt8}{s:StD}{v:VwD}{r1 r2:RS}(ht:¬oO t)(h1:stR t (oL 0)=(s,r1))(h2:vwR t r1=(v,r2))(h3:r2.st.ended t.length=0)(h4:r2.bad=false)(hs:lJ s)(hv:lT v):oP t=(s,v,0):=by
 unfold oP;rw[if_neg ht,h1];dsimp only;rw[h2,if_pos ⟨h3,h4,hs,hv⟩]
theorem wF {n k:Nat}(h:n=k):(oL k).st.ended n=0:=by
 unfold RdSt.ended oL;rw[if_neg (by simp[h])]
theorem wG (s:StD)(v:VwD)(hs:lJ s)(hv:lT v)(fs:wA s)(fv:wB v)(hl:(oy s v).length≤1048556):oP (oy s v)=(s,v,0):=by
 have h1:=wC (oy s v) (by omega) s fs 0 (vwB v) rfl;have h2:=wD (oy s v) (by omega) v fv (0+(stB s).length) [] (by unfold oy;rw[Nat.zero_add,List.drop_left,List.append_nil]);exact wE (by unfold oO;omega) h1 h2 (wF (by unfold oy;rw[List.length_append,Nat.zero_add])) rfl hs hv
theorem wH {t:Int}(h:(kN t).2=0) : -4611686018427387904≤t∧t≤4611686018427387904:=by
 unfold kN at h;by_cases h1:t≤4611686018427387904 ∧ -4611686018427387904≤t
 ·omega
 ·rw[if_neg h1]at h;simp at h
theorem wI:∀(l:List RowD) (a x:Int) (f:Int→Int),kS a x f l→(a<0→∀j,f j=0)→(a=0→∀j,x<j→f j=0)→∀r∈l,vS r
 | [],_,_,_,_,_,_,r,hr=>by cases hr
 | q::t,a,x,f,h,hm,hz,r,hr=>by
  obtain⟨⟨hpl,hlt,hri,hno,hz0⟩,hs,hgo⟩:=h;have hs':=wH hs;obtain⟨p0,p1,p2,p3⟩:=hpl
  rcases List.mem_cons.1 hr with rfl|hr
  ·refine⟨⟨p0,p1⟩,⟨p2,p3⟩,λha=>?_,λha=>?_,?_⟩
   ·have hf:f r.asset=0:=by
     rcases hlt with h1|⟨h1,h2⟩
     ·exact hm (by omega) _
     ·exact hz (by omega) _ h2
    have h1:¬(r.held≠0∨0<r.free):=λh=>hz0 ⟨ha,h⟩;omega
   ·rcases hri with h1|h1
    ·exact absurd h1 ha
    ·omega
   ·rcases hri with h1|h1
    ·have h2:¬(r.held≠0∨0<r.free):=λh=>hz0 ⟨h1,h⟩
     omega
    ·omega
  ·refine wI t q.acct q.asset _ hgo (λh=>by omega) (λh0 j hj=>?_) r hr
   unfold upd;rw[if_neg (by omega)]
   rcases hlt with h1|⟨h1,h2⟩
   ·exact hm (by omega) _
   ·exact hz (by omega) _ (by omega)
theorem wJ {l:List RowD}(h:kT l):∀r∈l,vS r:=wI l (-1) 0 _ h (λ_ _=>rfl) (λh=>by omega)
theorem wK:∀(l:List AucD) (a:Int),lk a l→∀x∈l,lj x
 | [],_,_,x,hx=>by cases hx
 | q::t,_,h,x,hx=>by
  rcases List.mem_cons.1 hx with rfl|hx
  ·exact h.2.1
  ·exact wK t _ h.2.2 x hx
theorem wL {x:AucD}(h:lj x):we x:=by
 obtain⟨h0,h1,h2,h3,h4,h5,h6,h7⟩:=h;unfold kD at *;refine⟨by omega,by omega,by omega,by omega,by omega,?_,by omega,λb hb=>?_⟩
 ·unfold lh at h6
  cases hs:x.sealed
  ·rw[hs,if_neg (by decide)]at h6
   have:=h6.1;unfold kD at this;omega
  ·rw[hs,if_pos rfl]at h6
   omega
 ·obtain⟨i,hi,rfl⟩:=List.getElem_of_mem hb
  have:=h7 i hi;unfold kD at this;exact⟨by omega,by omega⟩
theorem wM {s:StD}(h:lJ s):wA s:=by
 obtain⟨hn,ha,hi,hr,ho,hu,_⟩:=h;obtain⟨n0,n1,n2,n3⟩:=hn;unfold kD at *;refine⟨by omega,by omega,by omega,by omega,λx hx=>?_,λx hx=>?_,wJ hr.1,λx hx=>?_,λx hx=>wL (wK _ _ hu.1.1 x hx)⟩
 ·exact(ha.2.1 x.name (List.mem_map.2 ⟨x,hx,rfl⟩)).2.2
 ·have:=hi.1 x hx
  unfold kD at this;exact⟨(hi.2.2.1 x.name (List.mem_map.2 ⟨x,hx,rfl⟩)).2.2,by omega,by omega⟩
 ·have h1:=ho.1.2.1 x hx
  unfold kW kD at h1;exact⟨by omega,by omega,by omega,by omega,by omega,by omega⟩
theorem wN (m:IMap)(k n j:Int)(P:Int→Prop)(h0:P 0)(hn:P n)(h:∀j,P (ly m j)):P (ly (lA m k n) j):=by
 unfold lA
 split
 ·have key:∀m:IMap,(∀j,P (ly m j))→∀e,(m.map (λe=>if e.1 == k then (k,n) else e)).find? (λe=>e.1 == j)=some e→P e.2:=by
   intro m hm e he;rw[List.find?_map]at he;cases hf:m.find? ((λe:Int×Int=>e.1 == j)∘λe=>if e.1 == k then (k,n) else e)with
   | none=>rw[hf]at he;cases he
   | some d=>
    rw[hf]at he;obtain rfl:=Option.some.inj he;by_cases hd:d.1 == k
    ·simp only[hd,if_true];exact hn
    ·simp only[hd]
     have h2:m.find? (λe=>e.1 == j)=some d:=by
      rw[← hf];have hdj:=List.find?_some hf;simp only[Function.comp,hd]at hdj;have hjk:j≠k:=by
       intro e;subst e;exact hd (by simpa using hdj)
      congr 1
      funext e
      by_cases he:e.1 == k
      ·have:e.1=k:=by simpa using he
       simp[Function.comp,this]
      ·simp[Function.comp,he]
     have:=hm j;unfold ly at this;rw[h2]at this;exact this
  unfold ly;cases hf:(m.map (λe=>if e.1 == k then (k,n) else e)).find? (λe=>e.1 == j)with
  | none=>exact h0
  | some e=>exact key m h e hf
 ·unfold ly
  rw[List.find?_append];have:=h j;unfold ly at this;cases hf:m.find? (λe=>e.1 == j)with
  | some e=>rw[hf]at this;exact this
  | none=>
   simp only[Option.none_or];by_cases hk:k == j
   ·simp[List.find?,hk];exact hn
   ·simp[List.find?,hk];exact h0
theorem wO:∀(l:List LinD) (m:IMap) (q:Int),lR m q l→(∀j,0≤ly m j∧ly m j≤1125899906842624)→∀x∈l,wv x
 | [],_,_,_,_,x,hx=>by cases hx
 | y::t,m,q,h,hm,x,hx=>by
  obtain⟨⟨h0,h1,h2,h3,h4,h5,h6⟩,hgo⟩:=h;unfold kD at h0
  rcases List.mem_cons.1 hx with rfl|hx
  ·have:=hm x.acct
   exact⟨by omega,by omega,by omega,⟨h4,by omega,by omega⟩,by omega⟩
  ·exact wO t _ _ hgo (λj=>wN m _ _ j (λn=>0≤n∧n≤1125899906842624) (by omega) h5 hm) x hx
theorem wP {v:VwD}(h:lT v):wB v:=by
 obtain⟨ho,hp,hl⟩:=h;refine⟨λx hx=>?_,λx hx=>?_,λx hx=>?_,wO _ _ _ hl (λj=>by unfold ly;simp)⟩
 ·have h1:=ho.2.2.2.2.1 x hx
  unfold lK kD at h1;exact⟨by omega,by omega,by omega,by omega,by omega,by omega⟩
 ·have h1:=ho.2.2.2.2.2.2 x hx
  unfold lL kD at h1;exact⟨by omega,by omega,by omega,by omega⟩
 ·have h1:=hp.1 x hx
  unfold lO kD lN at h1;exact⟨by omega,by omega,by omega,by omega,by omega,by omega⟩
theorem wQ {s:StD}{v:VwD}{L:List UInt8}(h:oQ s v=(L,0)):oP L=(s,v,0)∧L.length≤1048556∧lJ s∧lT v:=by
 unfold oQ at h;by_cases h1:lJ s∧lT v
 ·rw[if_neg (not_not_intro h1)]at h
  by_cases h2:oO (oy s v)
  ·rw[if_pos h2]at h;simp at h
  ·rw[if_neg h2]at h
   obtain rfl:oy s v=L:=(Prod.mk.inj h).1;unfold oO at h2;exact⟨wG s v h1.1 h1.2 (wM h1.1) (wP h1.2) (by omega),by omega,h1.1,h1.2⟩
 ·rw[if_pos h1]at h;simp at h
def wR (q:Nat)(L:List UInt8):List UInt8:=[115,110,112,49]++be 8 q++be 4 L.length++L
theorem wS (q:Nat)(L:List UInt8):iO q L=Crc.seal_ (wR q L):=rfl
theorem wT (q:Nat)(L:List UInt8):(wR q L).length=16+L.length:=by unfold wR;simp[bf];omega
theorem wU (q:Nat)(L:List UInt8):(⟨0,0,0⟩:RdSt).take (wR q L) 4=([115,110,112,49],true,⟨4,0,0⟩):=by
 have:=mA (A:=[]) (B:=[115,110,112,49]) (C:=be 8 q++(be 4 L.length++L)) (k:=0) (n:=4) rfl rfl;unfold wR;simpa using this
theorem wV (q:Nat)(L:List UInt8)(hq:q≤1048576):(⟨4,0,0⟩:RdSt).fixed (wR q L) 8=(q,⟨12,0,0⟩):=by
 have:=mA (A:=[115,110,112,49]) (B:=be 8 q) (C:=be 4 L.length++L) (k:=4) (n:=8) rfl (bf 8 q);unfold RdSt.fixed;rw[show wR q L=[115,110,112,49]++(be 8 q++(be 4 L.length++L))from by unfold wR;simp,this];simp only;rw[jJ 8 q (by omega)]
theorem wW (q:Nat)(L:List UInt8)(hL:L.length≤1048576):(⟨12,0,0⟩:RdSt).fixed (wR q L) 4=(L.length,⟨16,0,0⟩):=by
 have:=mA (A:=[115,110,112,49]++be 8 q) (B:=be 4 L.length) (C:=L) (k:=12) (n:=4) (by simp[bf]) (bf 4 _);unfold RdSt.fixed;rw[show wR q L=([115,110,112,49]++be 8 q)++(be 4 L.length++L)from by unfold wR;simp,this];simp only;rw[jJ 4 _ (by omega)]
theorem wX (q:Nat)(L:List UInt8):(wR q L).drop 16=L:=by
 unfold wR;rw[List.drop_left' (by simp[bf])]
noncomputable def wY (t:List UInt8):Int×StD×VwD×Int:=
 if ((((⟨0,0,0⟩:RdSt).take t 4).2.2.fixed t 8).2.fixed t 4).2.e≠0 then (0,oM,oN,4)
 else if ((⟨0,0,0⟩:RdSt).take t 4).1≠[115,110,112,49] then (0,oM,oN,4)
 else if 1048576<(((⟨0,0,0⟩:RdSt).take t 4).2.2.fixed t 8).1 then (0,oM,oN,4)
 else if ((((((⟨0,0,0⟩:RdSt).take t 4).2.2.fixed t 8).2.fixed t 4).1:Nat):Int)≠(t.length:Int)-((((⟨0,0,0⟩:RdSt).take t 4).2.2.fixed t 8).2.fixed t 4).2.at_ then (0,oM,oN,4)
 else if (oP (t.drop 16)).2.2≠0 then (0,oM,oN,4)
 else (((((⟨0,0,0⟩:RdSt).take t 4).2.2.fixed t 8).1:Nat),(oP (t.drop 16)).1,(oP (t.drop 16)).2.1,0)
open Classical in
noncomputable def wZ (s:List UInt8):Int×StD×VwD×Int:=
 if 1048576<s.length then (0,oM,oN,40) else if s.length<4 then (0,oM,oN,8) else if ¬ke s then (0,oM,oN,42) else wY (s.take (s.length-4))
theorem xc {q:Nat}{L:List UInt8}{s:StD}{v:VwD}(hq:q≤1048576)(hL:L.length≤1048576)(h:oP L=(s,v,0)):wY (wR q L)=((q:Int),s,v,0):=by
 unfold wY;rw[wU];dsimp only;rw[wV q L hq];dsimp only;rw[wW q L hL];dsimp only;rw[wX,h];dsimp only;rw[if_neg (by simp),if_neg (by simp),if_neg (by omega),if_neg (by rw[wT];omega),if_neg (by simp)]
theorem xd {q:Nat}{L:List UInt8}{s:StD}{v:VwD}(hq:q≤1048576)(hL:L.length≤1048556)(h:oP L=(s,v,0)):wZ (iO q L)=((q:Int),s,v,0):=by
 rw[wS];unfold wZ;have hl:(Crc.seal_ (wR q L)).length=20+L.length:=by rw[Crc.seal_length,wT];omega
 rw[if_neg (by rw[hl];omega),if_neg (by rw[hl];omega),if_neg (by rw[Classical.not_not];exact mz _)];have:(Crc.seal_ (wR q L)).take ((Crc.seal_ (wR q L)).length-4)=wR q L:=by
  rw[hl];unfold Crc.seal_;rw[List.take_left' (by rw[wT];omega)]
 rw[this];exact xc hq (by omega) h
noncomputable def xe (n:Int) (r:List UInt8×Int):StD×VwD×Int:=
 if n<0∨1048576<n then (oM,oN,1) else if r.2≠0 then (oM,oN,r.2)
 else if (wZ r.1).2.2.2≠0 then (oM,oN,(wZ r.1).2.2.2) else if (wZ r.1).1≠n then (oM,oN,4) else ((wZ r.1).2.1,(wZ r.1).2.2.1,0)
end
end Go.Proofs.YtaeakdichkhjaaaGreatDoor
