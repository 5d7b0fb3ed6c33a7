/- What Open tells of a file, and what a read of a snapshot's file tells, plainly. -/
import Derived.Test.YtcmfdhmeanjchaaGreatDoorQAr
import Derived.Test.YtcmfdhmeanjchaaGreatDoorQAm
import Derived.Test.YtcmfdhmeanjchaaGreatDoorQAh
set_option maxHeartbeats 1000000
open Go.Lib(hid)
namespace Go.Proofs.YtcmfdhmeanjchaaGreatDoor
open Go.RowKit
theorem vA {d:Int}(h:d≠0)(h0 : -1152921504606846976≤d)(h1:d≤1152921504606846976):oe (od d)=d∧0≤od d∧od d≤4611686018427387904:=by
 unfold od;by_cases hd:0<d
 ·rw[if_pos hd,show wrap64 (2*d)=2*d from by unfold wrap64;omega]
  unfold oe;rw[if_pos (by omega),Int.tdiv_eq_ediv_of_nonneg (by omega)];omega
 ·rw[if_neg hd,show wrap64 (wrap64 (-2*d)-1) = -2*d-1 from by unfold wrap64;omega]
  unfold oe;rw[if_neg (by omega),Int.neg_tdiv,Int.tdiv_eq_ediv_of_nonneg (by omega)];unfold wrap64;omega
theorem vB {r:RowD}(h0 : -4611686018427387904≤r.free)(h1:r.free≤4611686018427387904):n8 ⟨r.acct,r.asset,(n8 r).free,r.held⟩=r:=by
 unfold n8;by_cases ha:r.acct=0
 ·rw[if_pos ha]
  simp only[ha,if_true];rw[show wrap64 (-wrap64 (-r.free))=r.free from by unfold wrap64;omega];cases r;simp_all
 ·rw[if_neg ha]
  simp only[ha,if_false]
def vC (x:AccD):Prop:=x.name.length≤24
theorem vD (x:AccD):1≤(nY x).length:=by
 unfold nY nV;simp only[List.length_append];have:=oU x.name.length;omega
theorem vE (s:List UInt8)(x:AccD)(h:vC x):oN s (oq s) x (nY x):=by
 intro k rest d0;unfold nY at d0;unfold vC at h;have g_name:=h;simp only[List.append_assoc]at d0;have h0:=(oT s g_name) _ _ d0;have d1:=oJ d0;have h1:=(oS s x.opn) _ _ d1;unfold oq;simp only[h0,h1];unfold nY;simp only[List.length_append,Nat.add_assoc]
def vG (x:InsD):Prop:=x.name.length≤24∧(0≤x.tick∧x.tick≤4611686018427387904)
theorem vH (x:InsD):1≤(nZ x).length:=by
 unfold nZ nV;simp only[oL,oM,List.append_nil,List.length_append];have:=oU x.name.length;omega
theorem vI (s:List UInt8)(x:InsD)(h:vG x):oN s (ot s) x (nZ x):=by
 intro k rest d0;unfold nZ at d0;unfold vG at h;obtain⟨g_name,g_tick⟩:=h;simp only[oL,oM,List.append_assoc,List.append_nil]at d0;have h0:=(oT s g_name) _ _ d0;have d1:=oJ d0;have h1:=(oP s g_tick.1 g_tick.2) _ _ d1;have d2:=oJ d1;have h2:=(oS s x.halt) _ _ d2;unfold ot;simp only[h0,h1,h2];unfold nZ;simp only[oL,oM,List.append_nil,List.length_append,Nat.add_assoc]
def vJ (x:RowD):Prop:=(0≤x.acct∧x.acct≤64)∧(0≤x.asset∧x.asset≤16)∧(x.acct=0 → -4611686018427387904≤x.free∧x.free≤0)∧(x.acct≠0→0≤x.free∧x.free≤4611686018427387904)∧(0≤x.held∧x.held≤4611686018427387904)
theorem vK (x:RowD):1≤(n9 x).length:=by
 unfold n9;simp only[oL,oM,List.append_nil,List.length_append];have:=oU (iZ x.acct);omega
theorem vL (s:List UInt8)(x:RowD)(h:vJ x):oN s (ou s) x (n9 x):=by
 intro k rest d0;unfold n9 at d0;unfold vJ at h;obtain⟨g_acct,g_asset,g0,g1,g_held⟩:=h;simp only[oL,oM,List.append_assoc,List.append_nil]at d0;have h0:=(oO s (most:=64) g_acct.1 (by omega) (by omega)) _ _ d0;have d1:=oJ d0;have h1:=(oO s (most:=16) g_asset.1 (by omega) (by omega)) _ _ d1;have d2:=oJ d1;have hfr:0≤(n8 x).free∧(n8 x).free≤4611686018427387904:=by
  unfold n8;by_cases ha:x.acct=0
  ·rw[if_pos ha];have:=g0 ha;show 0≤wrap64 (-x.free)∧wrap64 (-x.free)≤4611686018427387904;unfold wrap64;omega
  ·rw[if_neg ha];exact g1 ha
 have h2:=(oP s hfr.1 hfr.2) _ _ d2;have d3:=oJ d2;have h3:=(oP s g_held.1 g_held.2) _ _ d3;unfold ou;simp only[h0,h1,h2,h3];unfold n9;simp only[oL,oM,List.append_nil,List.length_append,Nat.add_assoc];rw[vB]
 ·by_cases ha:x.acct=0
  ·exact(g0 ha).1
  ·have:=g1 ha;omega
 ·by_cases ha:x.acct=0
  ·have:=g0 ha;omega
  ·exact(g1 ha).2
def vM (x:OrdD):Prop:=(0≤x.id∧x.id≤4611686018427387904)∧(0≤x.acct∧x.acct≤64)∧(0≤x.inst∧x.inst≤16)∧(0≤x.side∧x.side≤255)∧(0≤x.price∧x.price≤4611686018427387904)∧(0≤x.left∧x.left≤4611686018427387904)
theorem vN (x:OrdD):1≤(oa x).length:=by
 unfold oa;simp only[oL,oM,List.append_nil,List.length_append];have:=oU (iZ x.id);omega
theorem vO (s:List UInt8)(x:OrdD)(h:vM x):oN s (ov s) x (oa x):=by
 intro k rest d0;unfold oa at d0;unfold vM at h;obtain⟨g_id,g_acct,g_inst,g_side,g_price,g_left⟩:=h;simp only[oL,oM,List.append_assoc,List.append_nil]at d0;have h0:=(oP s g_id.1 g_id.2) _ _ d0;have d1:=oJ d0;have h1:=(oO s (most:=64) g_acct.1 (by omega) (by omega)) _ _ d1;have d2:=oJ d1;have h2:=(oO s (most:=16) g_inst.1 (by omega) (by omega)) _ _ d2;have d3:=oJ d2;have h3:=(oR s g_side.1 g_side.2) _ _ d3;have d4:=oJ d3;have h4:=(oP s g_price.1 g_price.2) _ _ d4;have d5:=oJ d4;have h5:=(oP s g_left.1 g_left.2) _ _ d5;unfold ov;simp only[h0,h1,h2,h3,h4,h5];unfold oa;simp only[oL,oM,List.append_nil,List.length_append,Nat.add_assoc]
def vP (x:BidD):Prop:=(0≤x.acct∧x.acct≤64)∧(0≤x.amount∧x.amount≤4611686018427387904)
theorem vQ (x:BidD):1≤(ob x).length:=by
 unfold ob;simp only[oL,oM,List.append_nil,List.length_append];have:=oU (iZ x.acct);omega
theorem vR (s:List UInt8)(x:BidD)(h:vP x):oN s (ow s) x (ob x):=by
 intro k rest d0;unfold ob at d0;unfold vP at h;obtain⟨g_acct,g_amount⟩:=h;simp only[oL,oM,List.append_assoc,List.append_nil]at d0;have h0:=(oO s (most:=64) g_acct.1 (by omega) (by omega)) _ _ d0;have d1:=oJ d0;have h1:=(oP s g_amount.1 g_amount.2) _ _ d1;unfold ow;simp only[h0,h1];unfold ob;simp only[oL,oM,List.append_nil,List.length_append,Nat.add_assoc]
def vS (x:AucD):Prop:=(0≤x.id∧x.id≤4611686018427387904)∧(0≤x.seller∧x.seller≤64)∧(0≤x.inst∧x.inst≤16)∧(0≤x.qty∧x.qty≤4611686018427387904)∧(0≤x.reserve∧x.reserve≤4611686018427387904)∧(0≤x.step∧x.step≤4611686018427387904)∧(0≤x.fin∧x.fin≤4611686018427387904)∧(∀b∈x.bids,vP b)
theorem vT (x:AucD):1≤(oc x).length:=by
 unfold oc;simp only[oL,oM,List.append_nil,List.length_append];have:=oU (iZ x.id);omega
theorem vU (s:List UInt8)(hz:s.length≤1048576)(x:AucD)(h:vS x):oN s (ox s) x (oc x):=by
 intro k rest d0;unfold oc at d0;unfold vS at h;obtain⟨g_id,g_seller,g_inst,g_qty,g_reserve,g_step,g_fin,g_bids⟩:=h;simp only[oL,oM,List.append_assoc,List.append_nil]at d0;have h0:=(oP s g_id.1 g_id.2) _ _ d0;have d1:=oJ d0;have h1:=(oO s (most:=64) g_seller.1 (by omega) (by omega)) _ _ d1;have d2:=oJ d1;have h2:=(oO s (most:=16) g_inst.1 (by omega) (by omega)) _ _ d2;have d3:=oJ d2;have h3:=(oS s x.sealed) _ _ d3;have d4:=oJ d3;have h4:=(oP s g_qty.1 g_qty.2) _ _ d4;have d5:=oJ d4;have h5:=(oP s g_reserve.1 g_reserve.2) _ _ d5;have d6:=oJ d5;have h6:=(oP s g_step.1 g_step.2) _ _ d6;have d7:=oJ d6;have h7:=(oP s g_fin.1 g_fin.2) _ _ d7;have d8:=oJ d7;have h8:=(oX s vQ (λb hb=>vR s b (g_bids b hb)) hz) _ _ d8;unfold ox;simp only[h0,h1,h2,h3,h4,h5,h6,h7,h8];unfold oc;simp only[oL,oM,List.append_nil,List.length_append,Nat.add_assoc]
def vV (x:OpnD):Prop:=(0≤x.acct∧x.acct≤64)∧(0≤x.id∧x.id≤4611686018427387904)∧(0≤x.inst∧x.inst≤16)∧(0≤x.side∧x.side≤255)∧(0≤x.price∧x.price≤4611686018427387904)∧(0≤x.left∧x.left≤4611686018427387904)
theorem vW (x:OpnD):1≤(og x).length:=by
 unfold og;simp only[oL,oM,List.append_nil,List.length_append];have:=oU (iZ x.acct);omega
theorem vX (s:List UInt8)(x:OpnD)(h:vV x):oN s (oy s) x (og x):=by
 intro k rest d0;unfold og at d0;unfold vV at h;obtain⟨g_acct,g_id,g_inst,g_side,g_price,g_left⟩:=h;simp only[oL,oM,List.append_assoc,List.append_nil]at d0;have h0:=(oO s (most:=64) g_acct.1 (by omega) (by omega)) _ _ d0;have d1:=oJ d0;have h1:=(oP s g_id.1 g_id.2) _ _ d1;have d2:=oJ d1;have h2:=(oO s (most:=16) g_inst.1 (by omega) (by omega)) _ _ d2;have d3:=oJ d2;have h3:=(oR s g_side.1 g_side.2) _ _ d3;have d4:=oJ d3;have h4:=(oP s g_price.1 g_price.2) _ _ d4;have d5:=oJ d4;have h5:=(oP s g_left.1 g_left.2) _ _ d5;unfold oy;simp only[h0,h1,h2,h3,h4,h5];unfold og;simp only[oL,oM,List.append_nil,List.length_append,Nat.add_assoc]
def vY (x:LotD):Prop:=(0≤x.id∧x.id≤4611686018427387904)∧(0≤x.seller∧x.seller≤64)∧(0≤x.inst∧x.inst≤16)∧(0≤x.qty∧x.qty≤4611686018427387904)
theorem vZ (x:LotD):1≤(oh x).length:=by
 unfold oh;simp only[oL,oM,List.append_nil,List.length_append];have:=oU (iZ x.id);omega
theorem wb (s:List UInt8)(x:LotD)(h:vY x):oN s (oA s) x (oh x):=by
 intro k rest d0;unfold oh at d0;unfold vY at h;obtain⟨g_id,g_seller,g_inst,g_qty⟩:=h;simp only[oL,oM,List.append_assoc,List.append_nil]at d0;have h0:=(oP s g_id.1 g_id.2) _ _ d0;have d1:=oJ d0;have h1:=(oO s (most:=64) g_seller.1 (by omega) (by omega)) _ _ d1;have d2:=oJ d1;have h2:=(oO s (most:=16) g_inst.1 (by omega) (by omega)) _ _ d2;have d3:=oJ d2;have h3:=(oP s g_qty.1 g_qty.2) _ _ d3;unfold oA;simp only[h0,h1,h2,h3];unfold oh;simp only[oL,oM,List.append_nil,List.length_append,Nat.add_assoc]
def wc (x:PosD):Prop:=(0≤x.acct∧x.acct≤64)∧(0≤x.inst∧x.inst≤16)∧(0≤x.bought∧x.bought≤4611686018427387904)∧(0≤x.sold∧x.sold≤4611686018427387904)∧(0≤x.spent∧x.spent≤4611686018427387904)∧(0≤x.got∧x.got≤4611686018427387904)
theorem we (x:PosD):1≤(oj x).length:=by
 unfold oj;simp only[oL,oM,List.append_nil,List.length_append];have:=oU (iZ x.acct);omega
theorem wg (s:List UInt8)(x:PosD)(h:wc x):oN s (oB s) x (oj x):=by
 intro k rest d0;unfold oj at d0;unfold wc at h;obtain⟨g_acct,g_inst,g_bought,g_sold,g_spent,g_got⟩:=h;simp only[oL,oM,List.append_assoc,List.append_nil]at d0;have h0:=(oO s (most:=64) g_acct.1 (by omega) (by omega)) _ _ d0;have d1:=oJ d0;have h1:=(oO s (most:=16) g_inst.1 (by omega) (by omega)) _ _ d1;have d2:=oJ d1;have h2:=(oP s g_bought.1 g_bought.2) _ _ d2;have d3:=oJ d2;have h3:=(oP s g_sold.1 g_sold.2) _ _ d3;have d4:=oJ d3;have h4:=(oP s g_spent.1 g_spent.2) _ _ d4;have d5:=oJ d4;have h5:=(oP s g_got.1 g_got.2) _ _ d5;unfold oB;simp only[h0,h1,h2,h3,h4,h5];unfold oj;simp only[oL,oM,List.append_nil,List.length_append,Nat.add_assoc]
def wh (x:LinD):Prop:=(0≤x.acct∧x.acct≤64)∧(0≤x.seq∧x.seq≤4611686018427387904)∧(0≤x.kind∧x.kind≤255)∧(x.delta≠0 ∧ -1152921504606846976≤x.delta∧x.delta≤1152921504606846976)∧(0≤x.balance∧x.balance≤4611686018427387904)
theorem wi (x:LinD):1≤(ol x).length:=by
 unfold ol;simp only[oL,oM,List.append_nil,List.length_append];have:=oU (iZ x.acct);omega
theorem wj (s:List UInt8)(x:LinD)(h:wh x):oN s (oC s) x (ol x):=by
 intro k rest d0;unfold ol at d0;unfold wh at h;obtain⟨g_acct,g_seq,g_kind,g_delta,g_balance⟩:=h;simp only[oL,oM,List.append_assoc,List.append_nil]at d0;have h0:=(oO s (most:=64) g_acct.1 (by omega) (by omega)) _ _ d0;have d1:=oJ d0;have h1:=(oP s g_seq.1 g_seq.2) _ _ d1;have d2:=oJ d1;have h2:=(oR s g_kind.1 g_kind.2) _ _ d2;have d3:=oJ d2;obtain⟨hf0,hf1,hf2⟩:=vA g_delta.1 g_delta.2.1 g_delta.2.2;have h3:=(oP s hf1 hf2) _ _ d3;have d4:=oJ d3;have h4:=(oP s g_balance.1 g_balance.2) _ _ d4;unfold oC;simp only[h0,h1,h2,h3,h4];unfold ol;simp only[oL,oM,List.append_nil,List.length_append,Nat.add_assoc];rw[hf0]
def wk (s:StD):Prop:=(0≤s.clock∧s.clock≤4611686018427387904)∧(0≤s.fee∧s.fee≤4611686018427387904)∧(0≤s.nextO∧s.nextO≤4611686018427387904)∧(0≤s.nextA∧s.nextA≤4611686018427387904)∧(∀x∈s.accts,vC x)∧(∀x∈s.insts,vG x)∧(∀x∈s.rows,vJ x)∧(∀x∈s.ords,vM x)∧(∀x∈s.aucs,vS x)
def wm (v:VwD):Prop:=(∀x∈v.open_,vV x)∧(∀x∈v.lots,vY x)∧(∀x∈v.poss,wc x)∧(∀x∈v.lins,wh x)
theorem wn (t:List UInt8)(hz:t.length≤1048576)(s:StD)(h:wk s):oN t (stR t) s (stB s):=by
 intro k rest d0;unfold stB at d0;obtain⟨g0,g1,g2,g3,g4,g5,g6,g7,g8⟩:=h;simp only[oL,oM,List.append_assoc,List.append_nil]at d0;have h0:=(oP t g0.1 g0.2) _ _ d0;have d1:=oJ d0;have h1:=(oP t g1.1 g1.2) _ _ d1;have d2:=oJ d1;have h2:=(oP t g2.1 g2.2) _ _ d2;have d3:=oJ d2;have h3:=(oP t g3.1 g3.2) _ _ d3;have d4:=oJ d3;have h4:=(oX t vD (λb hb=>vE t b (g4 b hb)) hz) _ _ d4;have d5:=oJ d4;have h5:=(oX t vH (λb hb=>vI t b (g5 b hb)) hz) _ _ d5;have d6:=oJ d5;have h6:=(oX t vK (λb hb=>vL t b (g6 b hb)) hz) _ _ d6;have d7:=oJ d6;have h7:=(oX t vN (λb hb=>vO t b (g7 b hb)) hz) _ _ d7;have d8:=oJ d7;have h8:=(oX t vT (λb hb=>vU t hz b (g8 b hb)) hz) _ _ d8;unfold stR;simp only[h0,h1,h2,h3,h4,h5,h6,h7,h8];unfold stB;simp only[oL,oM,List.append_nil,List.length_append,Nat.add_assoc]
theorem wo (t:List UInt8)(hz:t.length≤1048576)(v:VwD)(h:wm v):oN t (vwR t) v (vwB v):=by
 intro k rest d0;unfold vwB at d0;obtain⟨g0,g1,g2,g3⟩:=h;simp only[List.append_assoc]at d0;have h0:=(oX t vW (λb hb=>vX t b (g0 b hb)) hz) _ _ d0;have d1:=oJ d0;have h1:=(oX t vZ (λb hb=>wb t b (g1 b hb)) hz) _ _ d1;have d2:=oJ d1;have h2:=(oX t we (λb hb=>wg t b (g2 b hb)) hz) _ _ d2;have d3:=oJ d2;have h3:=(oX t wi (λb hb=>wj t b (g3 b hb)) hz) _ _ d3;unfold vwR;simp only[h0,h1,h2,h3];unfold vwB;simp only[List.length_append,Nat.add_assoc]
theorem wq {t:List UInt8}{s:StD}{v:VwD}{r1 r2:RS}(ht:¬oG t)(h1:stR t (oD 0)=(s,r1))(h2:vwR t r1=(v,r2))(h3:r2.st.ended t.length=0)(h4:r2.bad=false)(hs:lA s)(hv:lL v):oH t=(s,v,0):=by
 unfold oH;rw[if_neg ht,h1];dsimp only;rw[h2,if_pos ⟨h3,h4,hs,hv⟩]
theorem ws {n k:Nat}(h:n=k):(oD k).st.ended n=0:=by
 unfold RdSt.ended oD;rw[if_neg (by simp[h])]
theorem wt (s:StD)(v:VwD)(hs:lA s)(hv:lL v)(fs:wk s)(fv:wm v)(hl:(om s v).length≤1048556):oH (om s v)=(s,v,0):=by
 have h1:=wn (om s v) (by omega) s fs 0 (vwB v) rfl;have h2:=wo (om s v) (by omega) v fv (0+(stB s).length) [] (by unfold om;rw[Nat.zero_add,List.drop_left,List.append_nil]);exact wq (by unfold oG;omega) h1 h2 (ws (by unfold om;rw[List.length_append,Nat.zero_add])) rfl hs hv
theorem wu {t:Int}(h:(kG t).2=0) : -4611686018427387904≤t∧t≤4611686018427387904:=by
 unfold kG at h;by_cases h1:t≤4611686018427387904 ∧ -4611686018427387904≤t
 ·omega
 ·rw[if_neg h1]at h;simp at h
theorem wv:∀(l:List RowD) (a x:Int) (f:Int→Int),kL a x f l→(a<0→∀j,f j=0)→(a=0→∀j,x<j→f j=0)→∀r∈l,vJ r
 | [],_,_,_,_,_,_,r,hr=>by cases hr
 | q::t,a,x,f,h,hm,hz,r,hr=>by
  obtain⟨⟨hpl,hlt,hri,hno,hz0⟩,hs,hgo⟩:=h;have hs':=wu hs;obtain⟨p0,p1,p2,p3⟩:=hpl
  rcases List.mem_cons.1 hr with rfl|hr
  ·refine⟨⟨p0,p1⟩,⟨p2,p3⟩,λha=>?_,λha=>?_,?_⟩
   ·have hf:f r.asset=0:=by
     rcases hlt with h1|⟨h1,h2⟩
     ·exact hm (by omega) _
     ·exact hz (by omega) _ h2
    have h1:¬(r.held≠0∨0<r.free):=λh=>hz0 ⟨ha,h⟩;omega
   ·rcases hri with h1|h1
    ·exact absurd h1 ha
    ·omega
   ·rcases hri with h1|h1
    ·have h2:¬(r.held≠0∨0<r.free):=λh=>hz0 ⟨h1,h⟩
     omega
    ·omega
  ·refine wv t q.acct q.asset _ hgo (λh=>by omega) (λh0 j hj=>?_) r hr
   unfold upd;rw[if_neg (by omega)]
   rcases hlt with h1|⟨h1,h2⟩
   ·exact hm (by omega) _
   ·exact hz (by omega) _ (by omega)
theorem ww {l:List RowD}(h:kM l):∀r∈l,vJ r:=wv l (-1) 0 _ h (λ_ _=>rfl) (λh=>by omega)
theorem wy:∀(l:List AucD) (a:Int),kX a l→∀x∈l,kW x
 | [],_,_,x,hx=>by cases hx
 | q::t,_,h,x,hx=>by
  rcases List.mem_cons.1 hx with rfl|hx
  ·exact h.2.1
  ·exact wy t _ h.2.2 x hx
theorem wA {x:AucD}(h:kW x):vS x:=by
 obtain⟨h0,h1,h2,h3,h4,h5,h6,h7⟩:=h;unfold ku at *;refine⟨by omega,by omega,by omega,by omega,by omega,?_,by omega,λb hb=>?_⟩
 ·unfold kV at h6
  cases hs:x.sealed
  ·rw[hs,if_neg (by decide)]at h6
   have:=h6.1;unfold ku at this;omega
  ·rw[hs,if_pos rfl]at h6
   omega
 ·obtain⟨i,hi,rfl⟩:=List.getElem_of_mem hb
  have:=h7 i hi;unfold ku at this;exact⟨by omega,by omega⟩
theorem wB {s:StD}(h:lA s):wk s:=by
 obtain⟨hn,ha,hi,hr,ho,hu,_⟩:=h;obtain⟨n0,n1,n2,n3⟩:=hn;unfold ku at *;refine⟨by omega,by omega,by omega,by omega,λx hx=>?_,λx hx=>?_,ww hr.1,λx hx=>?_,λx hx=>wA (wy _ _ hu.1.1 x hx)⟩
 ·exact(ha.2.1 x.name (List.mem_map.2 ⟨x,hx,rfl⟩)).2.2
 ·have:=hi.1 x hx
  unfold ku at this;exact⟨(hi.2.2.1 x.name (List.mem_map.2 ⟨x,hx,rfl⟩)).2.2,by omega,by omega⟩
 ·have h1:=ho.1.2.1 x hx
  unfold kP ku at h1;exact⟨by omega,by omega,by omega,by omega,by omega,by omega⟩
theorem wC (m:IMap)(k n j:Int)(P:Int→Prop)(h0:P 0)(hn:P n)(h:∀j,P (ld m j)):P (ld (lf m k n) j):=by
 unfold lf
 split
 ·have key:∀m:IMap,(∀j,P (ld m j))→∀e,(m.map (λe=>if e.1 == k then (k,n) else e)).find? (λe=>e.1 == j)=some e→P e.2:=by
   intro m hm e he;rw[List.find?_map]at he;cases hf:m.find? ((λe:Int×Int=>e.1 == j)∘λe=>if e.1 == k then (k,n) else e)with
   | none=>rw[hf]at he;cases he
   | some d=>
    rw[hf]at he;obtain rfl:=Option.some.inj he;by_cases hd:d.1 == k
    ·simp only[hd,if_true];exact hn
    ·simp only[hd]
     have h2:m.find? (λe=>e.1 == j)=some d:=by
      rw[← hf];have hdj:=List.find?_some hf;simp only[Function.comp,hd]at hdj;have hjk:j≠k:=by
       intro e;subst e;exact hd (by simpa using hdj)
      congr 1
      funext e
      by_cases he:e.1 == k
      ·have:e.1=k:=by simpa using he
       simp[Function.comp,this]
      ·simp[Function.comp,he]
     have:=hm j;unfold ld at this;rw[h2]at this;exact this
  unfold ld;cases hf:(m.map (λe=>if e.1 == k then (k,n) else e)).find? (λe=>e.1 == j)with
  | none=>exact h0
  | some e=>exact key m h e hf
 ·unfold ld
  rw[List.find?_append];have:=h j;unfold ld at this;cases hf:m.find? (λe=>e.1 == j)with
  | some e=>rw[hf]at this;exact this
  | none=>
   simp only[Option.none_or];by_cases hk:k == j
   ·simp[List.find?,hk];exact hn
   ·simp[List.find?,hk];exact h0
theorem wD:∀(l:List LinD) (m:IMap) (q:Int),lJ m q l→(∀j,0≤ld m j∧ld m j≤1125899906842624)→∀x∈l,wh x
 | [],_,_,_,_,x,hx=>by cases hx
 | y::t,m,q,h,hm,x,hx=>by
  obtain⟨⟨h0,h1,h2,h3,h4,h5,h6⟩,hgo⟩:=h;unfold ku at h0
  rcases List.mem_cons.1 hx with rfl|hx
  ·have:=hm x.acct
   exact⟨by omega,by omega,by omega,⟨h4,by omega,by omega⟩,by omega⟩
  ·exact wD t _ _ hgo (λj=>wC m _ _ j (λn=>0≤n∧n≤1125899906842624) (by omega) h5 hm) x hx
theorem wE {v:VwD}(h:lL v):wm v:=by
 obtain⟨ho,hp,hl⟩:=h;refine⟨λx hx=>?_,λx hx=>?_,λx hx=>?_,wD _ _ _ hl (λj=>by unfold ld;simp)⟩
 ·have h1:=ho.2.2.2.2.1 x hx
  unfold lC ku at h1;exact⟨by omega,by omega,by omega,by omega,by omega,by omega⟩
 ·have h1:=ho.2.2.2.2.2.2 x hx
  unfold lD ku at h1;exact⟨by omega,by omega,by omega,by omega⟩
 ·have h1:=hp.1 x hx
  unfold lG ku lF at h1;exact⟨by omega,by omega,by omega,by omega,by omega,by omega⟩
theorem wF {s:StD}{v:VwD}{L:List UInt8}(h:oI s v=(L,0)):oH L=(s,v,0)∧L.length≤1048556∧lA s∧lL v:=by
 unfold oI at h;by_cases h1:lA s∧lL v
 ·rw[if_neg (not_not_intro h1)]at h
  by_cases h2:oG (om s v)
  ·rw[if_pos h2]at h;simp at h
  ·rw[if_neg h2]at h
   obtain rfl:om s v=L:=(Prod.mk.inj h).1;unfold oG at h2;exact⟨wt s v h1.1 h1.2 (wB h1.1) (wE h1.2) (by omega),by omega,h1.1,h1.2⟩
 ·rw[if_pos h1]at h;simp at h
def wG (q:Nat)(L:List UInt8):List UInt8:=[115,110,112,49]++be 8 q++be 4 L.length++L
theorem wH (q:Nat)(L:List UInt8):iH q L=Crc.seal_ (wG q L):=rfl
theorem wI (q:Nat)(L:List UInt8):(wG q L).length=16+L.length:=by unfold wG;simp[aX];omega
theorem wJ (q:Nat)(L:List UInt8):(⟨0,0,0⟩:RdSt).take (wG q L) 4=([115,110,112,49],true,⟨4,0,0⟩):=by
 have:=mo (A:=[]) (B:=[115,110,112,49]) (C:=be 8 q++(be 4 L.length++L)) (k:=0) (n:=4) rfl rfl;unfold wG;simpa using this
theorem wK (q:Nat)(L:List UInt8)(hq:q≤1048576):(⟨4,0,0⟩:RdSt).fixed (wG q L) 8=(q,⟨12,0,0⟩):=by
 have:=mo (A:=[115,110,112,49]) (B:=be 8 q) (C:=be 4 L.length++L) (k:=4) (n:=8) rfl (aX 8 q);unfold RdSt.fixed;rw[show wG q L=[115,110,112,49]++(be 8 q++(be 4 L.length++L))from by unfold wG;simp,this];simp only;rw[jC 8 q (by omega)]
theorem wL (q:Nat)(L:List UInt8)(hL:L.length≤1048576):(⟨12,0,0⟩:RdSt).fixed (wG q L) 4=(L.length,⟨16,0,0⟩):=by
 have:=mo (A:=[115,110,112,49]++be 8 q) (B:=be 4 L.length) (C:=L) (k:=12) (n:=4) (by simp[aX]) (aX 4 _);unfold RdSt.fixed;rw[show wG q L=([115,110,112,49]++be 8 q)++(be 4 L.length++L)from by unfold wG;simp,this];simp only;rw[jC 4 _ (by omega)]
theorem wM (q:Nat)(L:List UInt8):(wG q L).drop 16=L:=by
 unfold wG;rw[List.drop_left' (by simp[aX])]
noncomputable def wN (t:List UInt8):Int×StD×VwD×Int:=
 if ((((⟨0,0,0⟩:RdSt).take t 4).2.2.fixed t 8).2.fixed t 4).2.e≠0 then (0,oE,oF,4)
 else if ((⟨0,0,0⟩:RdSt).take t 4).1≠[115,110,112,49] then (0,oE,oF,4)
 else if 1048576<(((⟨0,0,0⟩:RdSt).take t 4).2.2.fixed t 8).1 then (0,oE,oF,4)
 else if ((((((⟨0,0,0⟩:RdSt).take t 4).2.2.fixed t 8).2.fixed t 4).1:Nat):Int)≠(t.length:Int)-((((⟨0,0,0⟩:RdSt).take t 4).2.2.fixed t 8).2.fixed t 4).2.at_ then (0,oE,oF,4)
 else if (oH (t.drop 16)).2.2≠0 then (0,oE,oF,4)
 else (((((⟨0,0,0⟩:RdSt).take t 4).2.2.fixed t 8).1:Nat),(oH (t.drop 16)).1,(oH (t.drop 16)).2.1,0)
open Classical in
noncomputable def wO (s:List UInt8):Int×StD×VwD×Int:=
 if 1048576<s.length then (0,oE,oF,40) else if s.length<4 then (0,oE,oF,8) else if ¬j5 s then (0,oE,oF,42) else wN (s.take (s.length-4))
theorem wP {q:Nat}{L:List UInt8}{s:StD}{v:VwD}(hq:q≤1048576)(hL:L.length≤1048576)(h:oH L=(s,v,0)):wN (wG q L)=((q:Int),s,v,0):=by
 unfold wN;rw[wJ];dsimp only;rw[wK q L hq];dsimp only;rw[wL q L hL];dsimp only;rw[wM,h];dsimp only;rw[if_neg (by simp),if_neg (by simp),if_neg (by omega),if_neg (by rw[wI];omega),if_neg (by simp)]
theorem wQ {q:Nat}{L:List UInt8}{s:StD}{v:VwD}(hq:q≤1048576)(hL:L.length≤1048556)(h:oH L=(s,v,0)):wO (iH q L)=((q:Int),s,v,0):=by
 rw[wH];unfold wO;have hl:(Crc.seal_ (wG q L)).length=20+L.length:=by rw[Crc.seal_length,wI];omega
 rw[if_neg (by rw[hl];omega),if_neg (by rw[hl];omega),if_neg (by rw[Classical.not_not];exact mn _)];have:(Crc.seal_ (wG q L)).take ((Crc.seal_ (wG q L)).length-4)=wG q L:=by
  rw[hl];unfold Crc.seal_;rw[List.take_left' (by rw[wI];omega)]
 rw[this];exact wP hq (by omega) h
noncomputable def wR (n:Int) (r:List UInt8×Int):StD×VwD×Int:=
 if n<0∨1048576<n then (oE,oF,1) else if r.2≠0 then (oE,oF,r.2)
 else if (wO r.1).2.2.2≠0 then (oE,oF,(wO r.1).2.2.2) else if (wO r.1).1≠n then (oE,oF,4) else ((wO r.1).2.1,(wO r.1).2.2.1,0)
end Go.Proofs.YtcmfdhmeanjchaaGreatDoor
