/- The walk of store.Newest, at any disk. -/
import Derived.Test.YtaeakdichkhjaaaGreatDoorQAk
import Derived.Test.YtaeakdichkhjaaaGreatDoorQBl
import Derived.Test.YtaeakdichkhjaaaGreatDoorQAe
import Derived.Test.YtaeakdichkhjaaaGreatDoorQBf
set_option maxHeartbeats 4000000
open Go.Lib(hid)
namespace Go.Proofs.YtaeakdichkhjaaaGreatDoor
section
open Go.RowKit
noncomputable abbrev RD (st:DkSt) (n:Nat):StD×VwD×Int:=uM (n:Int) (eG st (fN (n:Int)))
noncomputable def yn (st:DkSt):List Nat→Int×StD×VwD×Bool
 | []=>(0,mB,mC,false)
 | n::r=>if (RD st n).2.2=0 then ((n:Int),(RD st n).1,(RD st n).2.1,true) else yn st r
theorem yo {st:DkSt}:∀{l:List Nat},(∀m∈l,(RD st m).2.2≠0)→yn st l=(0,mB,mC,false)
 | [],_=>rfl
 | n::r,h=>by
  unfold yn;rw[if_neg (h n (by simp))];exact yo (λm hm=>h m (by simp[hm]))
theorem yp {st:DkSt}{n:Nat}{r:List Nat}{S:StD}{V:VwD}:∀{l:List Nat},(∀m∈l,(RD st m).2.2≠0)→RD st n=(S,V,0)→yn st (l++n::r)=((n:Int),S,V,true)
 | [],_,hn=>by
  show yn st (n::r)=_;unfold yn;rw[hn,if_pos rfl]
 | m::l,h,hn=>by
  show yn st (m::(l++n::r))=_;unfold yn;rw[if_neg (h m (by simp))];exact yp (λk hk=>h k (by simp[hk])) hn
noncomputable abbrev numS (st:DkSt):List Nat:=gd (st.fs.map (·.name))
noncomputable def yq (st:DkSt) (f t:Int):Int×StD×VwD×Bool:=yn st (lC f t (numS st))
theorem yr {n m:Nat}(hn:n≤1048576)(hm:m≤1048576)(h:Go.bytesBefore (fN (n:Int)) (fN (m:Int))=true):n<m:=by
 rcases Nat.lt_trichotomy n m with h1|h1|h1
 ·exact h1
 ·subst h1;exact(fM _ _ h h).elim
 ·refine(fM _ _ h ?_).elim
  rw[fP n hn,fP m hm];have hl:(eZ (m:Int) 10).length=(eZ (n:Int) 10).length:=(fy m 9 (by omega)).trans (fy n 9 (by omega)).symm;have hv:vF 0 (eZ (m:Int) 10)<vF 0 (eZ (n:Int) 10):=by rw[fF,fF];exact h1
  exact fL [110] (eZ (m:Int) 10) (eZ (n:Int) 10) (fK _ _ 0 hl (fw m 10) (fw n 10) hv)
theorem yt {fs:Fs}(h:fs.Pairwise (λf g=>Go.bytesBefore f.name g.name=true)):(gd (fs.map (·.name))).Pairwise (· < ·):=by
 unfold gd;rw[List.pairwise_filterMap,List.pairwise_map];refine h.imp ?_;intro f g hfg n hn m hm;obtain⟨h1,h2⟩:=fY hn;obtain⟨h3,h4⟩:=fY hm;exact yr h1 h3 (by rw[← h2,← h4];exact hfg)
def yu (st:DkSt)(f t:Int)(n:Nat):Prop:=n∈numS st∧f≤(n:Int)∧(n:Int)≤t∧(RD st n).2.2=0
theorem yv (st:DkSt):∀L:List Nat,L.Pairwise (λa b=>b<a) →
  (∃n S V,n∈L∧RD st n=(S,V,0)∧(∀m∈L,(RD st m).2.2=0→m≤n)∧yn st L=((n:Int),S,V,true))∨((∀m∈L,(RD st m).2.2≠0)∧yn st L=(0,mB,mC,false))
 | [],_=>.inr ⟨λ_ h=>absurd h (by simp),rfl⟩
 | n::r,h=>by
  obtain⟨h1,h2⟩:=List.pairwise_cons.1 h;by_cases hc:(RD st n).2.2=0
  ·refine .inl ⟨n,(RD st n).1,(RD st n).2.1,by simp,by rw[← hc],λm hm _=>?_,by unfold yn;rw[if_pos hc]⟩
   rcases List.mem_cons.1 hm with rfl|hm
   ·exact Nat.le_refl _
   ·exact Nat.le_of_lt (h1 m hm)
  ·have e:yn st (n::r)=yn st r:=by
    show(if _ then _ else _)=_;rw[if_neg hc]
   rw[e]
   rcases yv st r h2 with⟨m,S,V,g1,g2,g3,g4⟩|⟨g1,g2⟩
   ·refine .inl ⟨m,S,V,by simp[g1],g2,λk hk hk0=>?_,g4⟩
    rcases List.mem_cons.1 hk with rfl|hk
    ·exact absurd hk0 hc
    ·exact g3 k hk hk0
   ·refine .inr ⟨λk hk=>?_,g2⟩
    rcases List.mem_cons.1 hk with rfl|hk
    ·exact hc
    ·exact g1 k hk
theorem yw (f t:Int)(ns:List Nat):lC f t ns=ns.reverse.filter (within f t):=by
 unfold lC bwL;rw[List.map_reverse,List.zipIdx_map_fst]
theorem yx {f t:Int}{ns:List Nat}{n:Nat}:n∈lC f t ns↔n∈ns∧f≤(n:Int)∧(n:Int)≤t:=by
 rw[yw,List.mem_filter,List.mem_reverse];unfold within;rw[decide_eq_true_eq]
theorem yy {st:DkSt}(f t:Int)(hp:(numS st).Pairwise (· < ·)) :
  (∃n S V,yu st f t n∧(∀m,yu st f t m→m≤n)∧RD st n=(S,V,0)∧yq st f t=((n:Int),S,V,true))∨((∀m,¬yu st f t m)∧yq st f t=(0,mB,mC,false)):=by
 have hd:(lC f t (numS st)).Pairwise (λa b=>b<a):=by
  rw[yw];exact List.Pairwise.filter _ (List.pairwise_reverse.2 hp)
 rcases yv st _ hd with⟨n,S,V,h1,h2,h3,h4⟩|⟨h1,h2⟩
 ·obtain⟨g1,g2,g3⟩:=yx.1 h1
  exact .inl ⟨n,S,V,⟨g1,g2,g3,by rw[h2]⟩,λm hm=>h3 m (yx.2 ⟨hm.1,hm.2.1,hm.2.2.1⟩) hm.2.2.2,h2,h4⟩
 ·exact .inr ⟨λm hm=>h1 m (yx.2 ⟨hm.1,hm.2.1,hm.2.2.1⟩) hm.2.2.2,h2⟩
theorem yz {st:DkSt}{f t:Int}(hp:(numS st).Pairwise (· < ·)){m:Nat}(hm:yu st f t m){N:Int}{S:StD}{V:VwD}{is:Bool}(hR:yq st f t=(N,S,V,is))(he:(m:Int)=N):RD st m=(S,V,0):=by
 rcases yy f t hp with⟨n,S2,V2,_,_,h3,h4⟩|⟨h1,_⟩
 ·rw[hR]at h4
  simp only[Prod.mk.injEq]at h4;obtain⟨e1,e2,e3,_⟩:=h4;rw[e2,e3,show m=n from by omega];exact h3
 ·exact absurd hm (h1 m)
def BestAt (st:DkSt)(f t:Int)(k:Nat)(b:Int):Prop:=
 (b = -1∧∀j (h:j<(numS st).length),j<k→¬yu st f t (numS st)[j])∨∃n:Nat,b=(n:Int)∧yu st f t n∧(∀j (h:j<(numS st).length),j<k→yu st f t (numS st)[j]→(numS st)[j]≤n)∧∃j,∃h:j<(numS st).length,j<k∧(numS st)[j]=n
theorem BestAt.zero (st:DkSt)(f t:Int):BestAt st f t 0 (-1):=.inl ⟨rfl,λ_ _ h=>absurd h (by omega)⟩
theorem BestAt.skip {st:DkSt}{f t:Int}{k:Nat}{b:Int}(h:BestAt st f t k b)(hk:k<(numS st).length)(hn:¬yu st f t (numS st)[k]):BestAt st f t (k+1) b:=by
 rcases h with⟨h1,h2⟩|⟨n,h1,h2,h3,j,hj,h4,h5⟩
 ·refine .inl ⟨h1,λj hj hlt=>?_⟩
  rcases Nat.lt_or_eq_of_le (Nat.le_of_lt_succ hlt)with h|rfl
  ·exact h2 j hj h
  ·exact hn
 ·refine .inr ⟨n,h1,h2,λi hi hlt hc=>?_,j,hj,by omega,h5⟩
  rcases Nat.lt_or_eq_of_le (Nat.le_of_lt_succ hlt)with h|rfl
  ·exact h3 i hi h hc
  ·exact absurd hc hn
theorem yA {l:List Nat}(hp:l.Pairwise (· < ·)){i j:Nat}(hi:i<l.length)(hj:j<l.length)(h:i<j):l[i]<l[j]:=List.pairwise_iff_getElem.1 hp i j hi hj h
theorem BestAt.take {st:DkSt}{f t:Int}{k:Nat}{b:Int}(_h:BestAt st f t k b)(hp:(numS st).Pairwise (· < ·))(hk:k<(numS st).length)(hc:yu st f t (numS st)[k]):BestAt st f t (k+1) ((numS st)[k]:Int):=by
 refine .inr ⟨_,rfl,hc,λi hi hlt _=>?_,k,hk,by omega,rfl⟩
 rcases Nat.lt_or_eq_of_le (Nat.le_of_lt_succ hlt)with h|rfl
 ·exact Nat.le_of_lt (yA hp hi hk h)
 ·exact Nat.le_refl _
def yC (st:DkSt)(f t:Int)(b:Int):Prop:=(b = -1∧∀m,¬yu st f t m)∨∃n:Nat,b=(n:Int)∧yu st f t n∧∀m,yu st f t m→m≤n
theorem BestAt.all {st:DkSt}{f t:Int}{b:Int}(h:BestAt st f t (numS st).length b):yC st f t b:=by
 rcases h with⟨h1,h2⟩|⟨n,h1,h2,h3,_⟩
 ·refine .inl ⟨h1,λm hm=>?_⟩
  obtain⟨j,hj,rfl⟩:=List.mem_iff_getElem.1 hm.1;exact h2 j hj hj hm
 ·refine .inr ⟨n,h1,h2,λm hm=>?_⟩
  obtain⟨j,hj,rfl⟩:=List.mem_iff_getElem.1 hm.1;exact h3 j hj hj hm
theorem yD {st:DkSt}{f t b:Int}(hp:(numS st).Pairwise (· < ·))(h:yC st f t b){N:Int}{S:StD}{V:VwD}{is:Bool}(hR:yq st f t=(N,S,V,is)) :
  is=decide (0≤b)∧(is=true→N=b)∧(is=false→N=0):=by
 rcases yy f t hp with⟨n,S2,V2,h1,h2,h3,h4⟩|⟨h1,h2⟩
 ·rw[hR]at h4
  simp only[Prod.mk.injEq]at h4;obtain⟨e1,_,_,e4⟩:=h4
  rcases h with⟨_,g⟩|⟨m,g1,g2,g3⟩
  ·exact absurd h1 (g n)
  ·have a1:=g3 n h1
   have a2:=h2 m g2;rw[e4,e1];exact⟨(decide_eq_true (by omega)).symm,λ_=>by omega,λh=>by simp at h⟩
 ·rw[hR]at h2
  simp only[Prod.mk.injEq]at h2;obtain⟨e1,_,_,e4⟩:=h2
  rcases h with⟨g1,_⟩|⟨m,g1,g2,g3⟩
  ·rw[e4,e1]
   exact⟨(decide_eq_false (by omega)).symm,λh=>by simp at h,λ_=>rfl⟩
  ·exact absurd g2 (h1 m)
theorem yE {st st2:DkSt}{f t b:Int}{q:Nat}{s:StD}{v:VwD}(hp2:(numS st2).Pairwise (· < ·))(hsame:∀m,m≠q→(yu st2 f t m↔yu st f t m))(hq:q∈numS st2)(hrd:RD st2 q=(s,v,0))(hb:yC st f t b){N:Int}{S:StD}{V:VwD}{is:Bool}(hR:yq st2 f t=(N,S,V,is)) :
  (((q:Int)<f∨t<(q:Int)∨(q:Int)<b)→is=decide (0≤b)∧(is=true→N=b))∧(¬((q:Int)<f∨t<(q:Int)∨(q:Int)<b)→is=true∧N=(q:Int)∧S=s∧V=v):=by
 constructor
 ·intro hout
  have hb2:yC st2 f t b:=by
   rcases hb with⟨g1,g2⟩|⟨n,g1,g2,g3⟩
   ·refine .inl ⟨g1,λm hm=>?_⟩
    by_cases e:m=q
    ·subst e;obtain⟨_,a1,a2,_⟩:=hm;omega
    ·exact g2 m ((hsame m e).1 hm)
   ·by_cases e:n=q
    ·subst e;obtain⟨_,a1,a2,_⟩:=g2;omega
    ·refine .inr ⟨n,g1,(hsame n e).2 g2,λm hm=>?_⟩
     by_cases e2:m=q
     ·subst e2;obtain⟨_,a1,a2,_⟩:=hm;omega
     ·exact g3 m ((hsame m e2).1 hm)
  obtain⟨a,c,_⟩:=yD hp2 hb2 hR;exact⟨a,c⟩
 ·intro hin
  have hcan:yu st2 f t q:=⟨hq,by omega,by omega,by rw[hrd]⟩;have hb2:yC st2 f t (q:Int):=by
   refine .inr ⟨q,rfl,hcan,λm hm=>?_⟩;by_cases e:m=q
   ·omega
   ·have hm2:=(hsame m e).1 hm
    rcases hb with⟨_,g⟩|⟨n,g1,_,g3⟩
    ·exact absurd hm2 (g m)
    ·have:=g3 m hm2;omega
  obtain⟨a,c,_⟩:=yD hp2 hb2 hR;have ht:is=true:=by rw[a];exact decide_eq_true (by omega)
  have hN:=c ht;have h2:=yz hp2 hcan hR hN.symm;rw[hrd]at h2;simp only[Prod.mk.injEq]at h2;exact⟨ht,hN,h2.1.symm,h2.2.1.symm⟩
theorem yF {N n:List UInt8}(h:xO N n=false)(fs:Fs):cJ (xP N fs) n=cJ fs n:=by
 induction fs with
 | nil=>rfl
 | cons f r ih=>
  by_cases e:f.name=n
  ·rw[xU (by rw[e];exact h)]
   subst e;rw[dT,dT]
  ·rw[dS e]
   cases hf:xO N f.name
   ·rw[xU hf,dS e];exact ih
   ·rw[xT hf];exact ih
theorem yG {st:DkSt}{n:Nat}:n∈numS st↔n≤1048576∧(cJ st.fs (fN (n:Int))).isSome=true:=by
 rw[gj];constructor
 ·rintro⟨h1,f,hf,e⟩
  exact⟨h1,by rw[← e];exact gk hf⟩
 ·rintro⟨h1,h2⟩
  obtain⟨f,hf⟩:=Option.isSome_iff_exists.1 h2;obtain⟨e,hm⟩:=cS hf;exact⟨h1,f,hm,e⟩
theorem yH {l:Fs}{cp:Int}{seq:Int}{s:StD}{v:VwD}{st2:DkSt}(f t:Int)(hw:gV ⟨l,cp,-1,false⟩ seq (vf seq s v)=(st2,0)) :
  ∃q:Nat,seq=(q:Int)∧(∀m,m≠q→(yu st2 f t m↔yu ⟨l,cp,-1,false⟩ f t m))∧q∈numS st2∧RD st2 q=(s,v,0)∧st2.dark=false:=by
 by_cases hc:(vf seq s v).2=0
 ·obtain⟨q,L,rfl,hq,hR,_,hrb,hL,_,_⟩:=vq hc
  rw[hR]at hw;have e:gV ⟨l,cp,-1,false⟩ (q:Int) (gR q L,0)=gT (gU ⟨l,cp,-1,false⟩ (gR q L) (fN (q:Int))):=by unfold gV;rw[if_neg (by simp)]
  have hE:=ym ⟨l,cp,-1,false⟩ rfl (vm (q:Int)) (vj hq) (gR q L);rw[← e,hw]at hE
  rcases hE with⟨_,h2,h3,h4,h5⟩|⟨h1,_⟩
  ·dsimp only at h2 h3 h4 h5
   have hget:∀m:Nat,m≠q→m≤1048576→cJ st2.fs (fN (m:Int))=cJ l (fN (m:Int)):=λm hm hm2=>by
    have hi:xO (fN (q:Int)) (fN (m:Int))=false:=by
     unfold xO;rw[show(fN (m:Int) == fN (q:Int))=false from by simpa using λe=>hm (fR hm2 hq e),show(fN (m:Int) == gS)=false from by simpa using λe=>vm (m:Int) e.symm];rfl
    rw[← yF hi st2.fs,h3,yF hi]
   refine⟨q,rfl,λm hm=>?_,?_,?_,h2⟩
   ·unfold yu
    rw[yG,yG];by_cases hm2:m≤1048576
    ·have hg:=hget m hm hm2
     have hrd:RD st2 m=RD ⟨l,cp,-1,false⟩ m:=by
      unfold RD eG;rw[h2,hg]
     rw[hg,hrd]
    ·exact⟨λh=>absurd h.1.1 hm2,λh=>absurd h.1.1 hm2⟩
   ·exact yG.2 ⟨hq,by rw[h4];rfl⟩
   ·show uM (q:Int) (eG st2 (fN (q:Int)))=_
    rw[vy hq h2 hL hrb h4 hq (by simp),if_pos rfl]
  ·exact absurd rfl h1
 ·exfalso
  have e:gV ⟨l,cp,-1,false⟩ seq (vf seq s v)=(⟨l,cp,-1,false⟩,(vf seq s v).2):=by unfold gV;rw[if_pos hc]
  rw[e]at hw;simp only[Prod.mk.injEq]at hw;exact hc hw.2
end
section
open Go.RowKit Go.Shelf
attribute [local go_sem] Oper.semAt_some
def yI (w:World)(R:Int×StD×VwD×Bool)(e:Ending)(w':World):Prop:=
 (∃sv dv,e = .returned (.tuple #[.int .i64 R.1,.agg (jc R.2.1 sv),.agg (jd dv),.bool R.2.2.2,.int .i64 0])∧StAt (λg=>w.heap.size≤g) w' sv R.2.1∧VwAt (λg=>w.heap.size≤g) w' dv R.2.2.1)∧Below w.heap.size w w'
theorem yJ {st:DkSt}(h:DkOk st)(n:List UInt8):(eG st n).1.length≤1048576:=by
 unfold eG
 split
 ·simp
 ·split
  ·simp
  ·rename_i f hf
   have:=h.fs.small f (List.mem_of_find?_eq_some hf);simpa using this
theorem NwAt.put {w W:World}{b p:Nat}{r0:Int}{z0 z1 z2 z3 z4 z5 z6 z7 z8 y0 y1 y2 y3:Value}{ok:Bool}(h:NwAt w W b p r0 #[z0,z1,z2,z3,z4,z5,z6,z7,z8] #[y0,y1,y2,y3] ok)(x:Int)(ok2:Bool)(v0 v1 v2 v3 v4 v5 v6 v7 v8 u0 u1 u2 u3:Value) :
  ∃Wf,Wf=((((((((((((((((W.setCell ⟨b+1,0,none⟩ (.int .i64 x)).setCell ⟨b+1+1,0,none⟩ v0).setCell ⟨b+1+1,1,none⟩ v1).setCell ⟨b+1+1,2,none⟩ v2).setCell ⟨b+1+1,3,none⟩ v3).setCell ⟨b+1+1,4,none⟩ v4).setCell ⟨b+1+1,5,none⟩ v5).setCell ⟨b+1+1,6,none⟩ v6).setCell ⟨b+1+1,7,none⟩ v7).setCell ⟨b+1+1,8,none⟩ v8).setCell ⟨b+1+1+1,0,none⟩ u0).setCell ⟨b+1+1+1,1,none⟩ u1).setCell ⟨b+1+1+1,2,none⟩ u2).setCell ⟨b+1+1+1,3,none⟩ u3).setCell ⟨b+1+1+1+1,0,none⟩ (.bool ok2)).setCell ⟨b+1+1+1+1+1,0,none⟩ (.int .i64 0))∧NwAt w Wf b p x #[v0,v1,v2,v3,v4,v5,v6,v7,v8] #[u0,u1,u2,u3] ok2∧Fr (λk=>b+1≤k∧k≤b+1+1+1+1+1) W Wf:=by
 refine⟨_,rfl,?_⟩;obtain⟨Wa,hWa⟩:∃Wa,Wa=W.setCell ⟨b+1,0,none⟩ (.int .i64 x):=⟨_,rfl⟩;obtain⟨Wb,hWb⟩:∃Wb,Wb=iV Wa (b+1+1) v0 v1 v2 v3 v4 v5 v6 v7 v8:=⟨_,rfl⟩;obtain⟨Wc,hWc⟩:∃Wc,Wc=iY Wb (b+1+1+1) u0 u1 u2 u3:=⟨_,rfl⟩;obtain⟨Wd,hWd⟩:∃Wd,Wd=Wc.setCell ⟨b+1+1+1+1,0,none⟩ (.bool ok2):=⟨_,rfl⟩;obtain⟨We,hWe⟩:∃We,We=Wd.setCell ⟨b+1+1+1+1+1,0,none⟩ (.int .i64 0):=⟨_,rfl⟩;have fa:Fr (λk=>k=b+1) W Wa:=by rw[hWa];exact dF (w:=W) ⟨b+1,0,none⟩ _
 have fb:Fr (λk=>k=b+1+1) Wa Wb:=by rw[hWb];exact iW Wa (b+1+1) v0 v1 v2 v3 v4 v5 v6 v7 v8
 have fc:Fr (λk=>k=b+1+1+1) Wb Wc:=by rw[hWc];exact iZ Wb (b+1+1+1) u0 u1 u2 u3
 have fd:Fr (λk=>k=b+1+1+1+1) Wc Wd:=by rw[hWd];exact dF (w:=Wc) ⟨b+1+1+1+1,0,none⟩ _
 have fe:Fr (λk=>k=b+1+1+1+1+1) Wd We:=by rw[hWe];exact dF (w:=Wd) ⟨b+1+1+1+1+1,0,none⟩ _
 have ra:Wa.heap[b+1]?=some (.cells #[.int .i64 x] 2 (0,0)):=by rw[hWa];exact one_setCell h.q
 have rb:Wb.heap[b+1+1]?=some (.cells #[v0,v1,v2,v3,v4,v5,v6,v7,v8] 29 (0,0)):=by rw[hWb];exact iX v0 v1 v2 v3 v4 v5 v6 v7 v8 (fa.heapAt h.s (by omega))
 have rc:Wc.heap[b+1+1+1]?=some (.cells #[u0,u1,u2,u3] 35 (0,0)):=by rw[hWc];exact ja u0 u1 u2 u3 (fb.heapAt (fa.heapAt h.v (by omega)) (by omega))
 have rd:Wd.heap[b+1+1+1+1]?=some (.cells #[.bool ok2] 4 (0,0)):=by rw[hWd];exact one_setCell (fc.heapAt (fb.heapAt (fa.heapAt h.i (by omega)) (by omega)) (by omega))
 have re:We.heap[b+1+1+1+1+1]?=some (.cells #[.int .i64 0] 40 (0,0)):=by rw[hWe];exact one_setCell (fd.heapAt (fc.heapAt (fb.heapAt (fa.heapAt h.e (by omega)) (by omega)) (by omega)) (by omega))
 have hfr:Fr (λk=>b+1≤k∧k≤b+1+1+1+1+1) W We:=((((fa.mono (λ_ _ e=>by omega)).trans (fb.mono (λ_ _ e=>by omega))).trans (fc.mono (λ_ _ e=>by omega))).trans (fd.mono (λ_ _ e=>by omega))).trans (fe.mono (λ_ _ e=>by omega));have hd6:NwAt w We b p x #[v0,v1,v2,v3,v4,v5,v6,v7,v8] #[u0,u1,u2,u3] ok2:=⟨hfr.heapAt h.d (by omega),fe.heapAt (fd.heapAt (fc.heapAt (fb.heapAt ra (by omega)) (by omega)) (by omega)) (by omega),fe.heapAt (fd.heapAt (fc.heapAt rb (by omega)) (by omega)) (by omega),fe.heapAt (fd.heapAt rc (by omega)) (by omega),fe.heapAt rd (by omega),re,h.below.trans (hfr.below (B:=b) (by have:=lt_of_block h.d;omega) (λk hk e=>by omega))⟩;unfold iV at hWb;unfold iY at hWc;rw[hWd,hWc,hWb,hWa]at hWe;rw[← hWe];exact⟨hd6,hfr⟩
theorem NwAt.qc {w W:World}{b p:Nat}{r0:Int}{C V:Array Value}{ok:Bool}(h:NwAt w W b p r0 C V ok) :
  (W.cell? ⟨b+1,0,none⟩=some (.int .i64 r0)∧W.frozen? ⟨b+1,0,none⟩=false)∧(W.cell? ⟨b+1+1+1+1,0,none⟩=some (.bool ok)∧W.frozen? ⟨b+1+1+1+1,0,none⟩=false)∧(W.cell? ⟨b+1+1+1+1+1,0,none⟩=some (.int .i64 0)∧W.frozen? ⟨b+1+1+1+1+1,0,none⟩=false):=
 ⟨⟨(cell_of_row _ _ _ _ _ _ h.q).trans rfl,frozen_of_row _ _ 0 _ _ h.q⟩,⟨(cell_of_row _ _ _ _ _ _ h.i).trans rfl,frozen_of_row _ _ 0 _ _ h.i⟩,⟨(cell_of_row _ _ _ _ _ _ h.e).trans rfl,frozen_of_row _ _ 0 _ _ h.e⟩⟩
def yK (st:DkSt)(w:World)(b p:Nat)(M:Nat)(ini:List Nat)(m:Nat)(Wx:World):Prop:=
 ∃S V sv dv,(∀k∈ini,(RD st k).2.2≠0)∧RD st m=(S,V,0)∧NwAt w Wx b p (m:Int) (jc S sv) (jd dv) true∧StAt (λg=>M≤g) Wx sv S∧VwAt (λg=>M≤g) Wx dv V
set_option maxRecDepth 100000 in
theorem yL (w:World)(hl:Libz w)(p bk:Nat)(st:DkSt)(h:IsDk w p bk st)(hd:st.dark=false)(f t:Int) :
  Calls Tryz.prog 9 #[.pointer (some ⟨p,0,none⟩),.int .i64 f,.int .i64 t] w λe w'=>yI w (yn st (lC f t (gd (st.fs.map (·.name))))) e w':=by
 have hnl:(gd (st.fs.map (·.name))).length≤64:=by have:=gi (st.fs.map (·.name));have:=h.ok.fs.few;rw[List.length_map]at *;omega
 obtain⟨ns,hns⟩:∃ns,ns=gd (st.fs.map (·.name)):=⟨_,rfl⟩;rw[← hns]at hnl ⊢;have HNS:=hid hns;have HL:=hid hl;have H:=hid h;clear hl h hns;refine(callsIn_wide (n:=6)).1 ?_;refine callsIn_of_wp_marks Tryz.func9 rfl trivial ?_ rfl;simp only[Tryz.ntmps9,List.size_toArray,List.length_cons,List.length_nil,Nat.reduceAdd,Nat.reduceSub,Array.replicate_succ,Array.replicate_zero,List.push_toArray,List.append_toArray,List.nil_append,List.cons_append]
 gi_wp2_with fail
 obtain⟨b,hb⟩:∃b,b=w.heap.size:=⟨_,rfl⟩;obtain⟨W0,hW0⟩:∃W0,W0=(((((w.alloc (.cells #[.pointer (some ⟨p,0,none⟩)] 39)).alloc (.cells #[.int .i64 0] 2)).alloc (.cells #[.int .i64 0,.int .i64 0,.int .i64 0,.int .i64 0,.slice none 0 0,.slice none 0 0,.slice none 0 0,.slice none 0 0,.slice none 0 0] 29)).alloc (.cells #[.slice none 0 0,.slice none 0 0,.slice none 0 0,.slice none 0 0] 35)).alloc (.cells #[.bool false] 4)).alloc (.cells #[.int .i64 0] 40):=⟨_,rfl⟩;have hbel:Below b w W0:=by rw[hW0,hb];exact((((((Below.refl _ _).alloc (Nat.le_refl _) _).alloc (by simp) _).alloc (by simp<;>omega) _).alloc (by simp<;>omega) _).alloc (by simp<;>omega) _).alloc (by simp<;>omega) _
 have n0:NwAt w W0 b p 0 zC zV false:=⟨by rw[hW0,hb];exact(Below.heap_alloc _ _ _ (by simp<;>omega)).trans ((Below.heap_alloc _ _ _ (by simp<;>omega)).trans ((Below.heap_alloc _ _ _ (by simp<;>omega)).trans ((Below.heap_alloc _ _ _ (by simp<;>omega)).trans ((Below.heap_alloc _ _ _ (by simp<;>omega)).trans (heap_alloc_new _ _))))),by rw[hW0,hb];exact(Below.heap_alloc _ _ _ (by simp<;>omega)).trans ((Below.heap_alloc _ _ _ (by simp<;>omega)).trans ((Below.heap_alloc _ _ _ (by simp<;>omega)).trans ((Below.heap_alloc _ _ _ (by simp<;>omega)).trans (cj _ _ (by simp))))),by rw[hW0,hb];exact(Below.heap_alloc _ _ _ (by simp<;>omega)).trans ((Below.heap_alloc _ _ _ (by simp<;>omega)).trans ((Below.heap_alloc _ _ _ (by simp<;>omega)).trans (cj _ _ (by simp)))),by rw[hW0,hb];exact(Below.heap_alloc _ _ _ (by simp<;>omega)).trans ((Below.heap_alloc _ _ _ (by simp<;>omega)).trans (cj _ _ (by simp))),by rw[hW0,hb];exact(Below.heap_alloc _ _ _ (by simp<;>omega)).trans (cj _ _ (by simp)),by rw[hW0,hb];exact cj _ _ (by simp),hbel⟩;rw[← hW0,← hb];have hbw:Below w.heap.size w W0:=by rw[← hb];exact hbel
 have L0:=hid (HL.out.pure hbw);have K0:=hid (H.out.pure hbw);have N0:=hid n0;have HB:=hid hb;have hpb:p<b:=by rw[hb];exact H.out.lt
 have hkb:bk<b:=by rw[hb];exact H.out.own.lt
 clear hW0 hbel n0 hbw hb;refine⟨trivial,?_⟩;refine(callsIn_wide.2 (kU W0 L0.out p bk st K0.out)).mono ?_;rintro e w1 ⟨hb1,h1⟩;rw[hd,if_neg (by decide)]at h1;obtain⟨v,rfl,hown⟩:=h1;rw[← HNS.out]at hown;obtain⟨ga,gc,rfl,hrow⟩:=kV hown;have N1:=hid (N0.out.fr (Fr.pure (S:=λ_=>False) hb1) (λ_ _ h=>h));have L1:=hid (L0.out.pure hb1);have K1:=hid (K0.out.pure hb1);have ROW1:=hid (λi (hi:i<ns.length)=>by
  obtain⟨g,h1,h2,h3⟩:=hrow i hi;exact(⟨g,h1,by have:=lt_of_block N0.out.e;omega,h3⟩:∃g,ga=some ⟨g,0,none⟩∧g≠b+1+1+1+1+1∧w1.cell? ⟨g,i,none⟩=some (.int .i64 (ns[i]:Int))))
 have ce:w1.cell? ⟨b+1+1+1+1+1,0,none⟩=some (.int .i64 0):=(cell_of_row _ _ _ _ _ _ N1.out.e).trans rfl;have ze:w1.frozen? ⟨b+1+1+1+1+1,0,none⟩=false:=frozen_of_row _ _ 0 _ _ N1.out.e;clear hb1 hown hrow N0 L0 K0
 gi_wp2_with fail
 refine⟨trivial,?_⟩;refine(callsIn_wide.2 (lF ga ns.length gc f t _)).mono ?_;rintro e w2 ⟨rfl,rfl⟩
 gi_wp2
 have hbs:b+6≤w1.heap.size:=by have:=lt_of_block N1.out.e;omega
 obtain⟨W2,hW2⟩:∃W2,W2=(((w1.setCell ⟨b+1+1+1+1+1,0,none⟩ (.int .i64 0)).alloc (.cells #[.slice ga ns.length gc] 45)).alloc (.cells #[.int .i64 f] 2)).alloc (.cells #[.int .i64 t] 2):=⟨_,rfl⟩;have hz2:W2.heap.size=w1.heap.size+3:=by rw[hW2];simp
 have hs:Fr (λk=>k=b+1+1+1+1+1) w1 W2:=by rw[hW2];exact(((dF (w:=w1) ⟨b+1+1+1+1+1,0,none⟩ (.int .i64 0)).alloc _).alloc _).alloc _
 have er:W2.heap[b+1+1+1+1+1]?=some (.cells #[.int .i64 0] 40 (0,0)):=by rw[hW2];exact(Below.heap_alloc _ _ _ (by simp<;>omega)).trans ((Below.heap_alloc _ _ _ (by simp<;>omega)).trans ((Below.heap_alloc _ _ _ (by simp<;>omega)).trans (one_setCell N1.out.e)))
 have k0:W2.heap[w1.heap.size]?=some (.cells #[.slice ga ns.length gc] 45 (0,0)):=by rw[hW2];exact(Below.heap_alloc _ _ _ (by simp<;>omega)).trans ((Below.heap_alloc _ _ _ (by simp<;>omega)).trans (cj _ _ (by simp)))
 have k1:W2.heap[w1.heap.size+1]?=some (.cells #[.int .i64 f] 2 (0,0)):=by rw[hW2];exact(Below.heap_alloc _ _ _ (by simp<;>omega)).trans (cj _ _ (by simp))
 have k2:W2.heap[w1.heap.size+2]?=some (.cells #[.int .i64 t] 2 (0,0)):=by rw[hW2];exact cj _ _ (by simp)
 have n2:NwAt w W2 b p 0 zC zV false:=⟨hs.heapAt N1.out.d (by omega),hs.heapAt N1.out.q (by omega),hs.heapAt N1.out.s (by omega),hs.heapAt N1.out.v (by omega),hs.heapAt N1.out.i (by omega),er,N1.out.below.trans (hs.below (B:=b) (by omega) (λk hk e=>by omega))⟩;have ROW2:=hid (λi (hi:i<ns.length)=>by
  obtain⟨g,h1,h2,h3⟩:=ROW1.out i hi;exact(⟨g,h1,hs.cellAt h3 (by omega)⟩:∃g,ga=some ⟨g,0,none⟩∧W2.cell? ⟨g,i,none⟩=some (.int .i64 (ns[i]:Int))))
 have K2:=hid (And.intro k0 (And.intro k1 k2));have N2:=hid n2;rw[← hW2];clear hW2 hs er k0 k1 k2 n2 ROW1 N1 L1 K1 ce ze;have HBD:=hid (λ(Wx:World) (hb:Below b w Wx)=>(by rw[HB.out]at hb;exact⟨HL.out.pure hb,H.out.pure hb⟩:Libz Wx∧IsDk Wx p bk st));refine xM (n:=6) rfl (by omega) (gf:=59) rfl trivial (enters_of Tryz.func59 (by kernel_rfl) rfl)
  (xN W2 w1.heap.size ga gc f t ns hnl K2.out.1 K2.out.2.1 K2.out.2.2 ROW2.out) ⟨λh=>by omega,λh=>by omega⟩
  (λh k=>h.trans k) (λWx o h=>(Fr.refl (λk=>k=W2.heap.size+1) Wx).putObj _ (λ_=>rfl) o) (λh k=>(h.mono (λ_ _ e=>by omega)).trans k) (λA Wx o h=>h.putObj _ (λ_=>by omega) o) (λ_=>rfl)
  (λpre Wx=>(∀m∈pre,(RD st m).2.2≠0)∧NwAt w Wx b p 0 zC zV false)
  (λcd M pre Wx=>cd = .ret∧W2.heap.size+1<M∧∃ini m,pre=ini++[m]∧yK st w b p M ini m Wx) ?bears ?bearsX ⟨λ_ h=>(by simp at h),N2.out⟩
  (λpre x a' Wx=>((∀m∈pre,(RD st m).2.2≠0)∧NwAt w Wx b p 0 zC zV false) ∧
   a'={ tmps:=#[.pointer (some ⟨p,0,none⟩),.int .i64 f,.int .i64 t,.pointer (some ⟨b,0,none⟩),undef,undef,.pointer (some ⟨b+1,0,none⟩),.pointer (some ⟨b+1+1,0,none⟩),.pointer (some ⟨b+1+1+1,0,none⟩),.pointer (some ⟨b+1+1+1+1,0,none⟩),.pointer (some ⟨b+1+1+1+1+1,0,none⟩),.slice ga ns.length gc,.int .i64 (x:Int),undef,undef,undef,
    .tuple #[.slice ga ns.length gc,.int .i64 0],.pointer (some ⟨p,0,none⟩),.tuple #[.slice ga ns.length gc,.int .i64 0],.slice ga ns.length gc,.int .i64 0,.int .i64 0,.bool false,undef,undef,undef,.slice ga ns.length gc,.int .i64 f,.int .i64 t,
    .func (.func 59) #[] #[.pointer (some ⟨w1.heap.size,0,none⟩),.pointer (some ⟨w1.heap.size+1,0,none⟩),.pointer (some ⟨w1.heap.size+2,0,none⟩)],.int .i64 (x:Int),undef,undef,undef,undef,undef,undef,undef,undef,undef,undef,undef,undef,undef,undef],defers:=[] })
  ?hA ?assign ?body ?done ?stop
 case bears=>
  rintro pre A B ⟨h1,h2⟩ hf;exact⟨h1,h2.fr hf (λk hk e=>by rcases e with e|e|e<;>omega)⟩
 case bearsX=>
  rintro cd M pre A B ⟨h1,hM,ini,m,h2,S,V,sv,dv,h3,h4,h5,h6,h7⟩ hf;exact⟨h1,hM,ini,m,h2,S,V,sv,dv,h3,h4,h5.fr hf (λk hk e=>by rcases e with e|e|e<;>omega),h6.kept hf (λg hg e=>by rcases e with e|e|e<;>omega),h7.kept hf (λg hg e=>by rcases e with e|e|e<;>omega)⟩
 case hA=>
  rintro pre x a' Wx o hlt ⟨⟨h1,h2⟩,h3⟩;exact⟨⟨h1,h2.fr ((Fr.refl (λk=>k=W2.heap.size+1) Wx).putObj _ (λ_=>rfl) o) (λk hk e=>by omega)⟩,h3⟩
 case assign=>
  intro pre x Wx K _ hlt hI hK;have HI:=hid hI;have HK:=hid hK;clear hI hK;unfold lG
  gi_wp2
  exact HK.out _ _ ⟨HI.out,rfl⟩ (RgIn.refl _ _) (Nat.le_refl _) (Fr.refl _ _)
 case body=>
  rintro pre x a' Wx M hqx hltM hMx ⟨⟨h1,h2⟩,rfl⟩ hlen;have hlt:W2.heap.size+1<Wx.heap.size:=by omega
  obtain⟨lx,kx⟩:=HBD.out Wx h2.below;have HP:=hid h1;have NX:=hid h2;have cd:Wx.cell? ⟨b,0,none⟩=some (.pointer (some ⟨p,0,none⟩)):=(cell_of_row _ _ _ _ _ _ h2.d).trans rfl;obtain⟨D,hDD⟩:∃D,D=eG st (fN (x:Int)):=⟨_,rfl⟩;have hlenD:D.1.length≤1048576:=by rw[hDD];exact yJ kx.ok _
  have HRD:=hid (uX Wx lx.pow (.pointer (some ⟨p,0,none⟩)) (x:Int) D.1 D.2 (by unfold maxLen;omega) (lI kx hDD.symm (lJ _)));obtain⟨⟨S,V,g⟩,hR⟩:∃R,R=RD st x:=⟨_,rfl⟩;rw[show(D.1,D.2)=D from rfl,hDD,show uM (x:Int) (eG st (fN (x:Int)))=RD st x from rfl,← hR]at HRD;have HRR:=hid hR.symm;clear h1 h2 lx kx hqx hDD hlenD hR
  gi_wp2_with fail
  refine⟨trivial,?_⟩;refine(CallsIn.inRound _ (callsIn_wide.2 HRD.out)).mono ?_;rintro e w3 ⟨⟨sv,dv,rfl,hst,hvt⟩,hb3⟩;dsimp only at hst hvt ⊢;have ST:=hid (hst.mono (G:=λg=>M≤g) (λg hg=>Nat.le_trans hMx hg));have VT:=hid (hvt.mono (G:=λg=>M≤g) (λg hg=>Nat.le_trans hMx hg));obtain⟨s4,s5,s6,s7,s8⟩:=sv;obtain⟨d0,d1,d2,d3⟩:=dv;obtain⟨sa4,sm4,sc4,rfl⟩:∃a m c,s4=Value.slice a m c:=by obtain⟨a,c,h⟩:=hst.a.shape;exact⟨a,_,c,h⟩
  obtain⟨sa5,sm5,sc5,rfl⟩:∃a m c,s5=Value.slice a m c:=by obtain⟨a,c,h⟩:=hst.i.shape;exact⟨a,_,c,h⟩
  obtain⟨sa6,sm6,sc6,rfl⟩:∃a m c,s6=Value.slice a m c:=by obtain⟨a,c,h⟩:=hst.r.shape;exact⟨a,_,c,h⟩
  obtain⟨sa7,sm7,sc7,rfl⟩:∃a m c,s7=Value.slice a m c:=by obtain⟨a,c,h⟩:=hst.o.shape;exact⟨a,_,c,h⟩
  obtain⟨sa8,sm8,sc8,rfl⟩:∃a m c,s8=Value.slice a m c:=by obtain⟨a,c,h⟩:=hst.u.shape;exact⟨a,_,c,h⟩
  obtain⟨da0,dm0,dc0,rfl⟩:∃a m c,d0=Value.slice a m c:=by obtain⟨a,c,h⟩:=hvt.o.shape;exact⟨a,_,c,h⟩
  obtain⟨da1,dm1,dc1,rfl⟩:∃a m c,d1=Value.slice a m c:=by obtain⟨a,c,h⟩:=hvt.l.shape;exact⟨a,_,c,h⟩
  obtain⟨da2,dm2,dc2,rfl⟩:∃a m c,d2=Value.slice a m c:=by obtain⟨a,c,h⟩:=hvt.p.shape;exact⟨a,_,c,h⟩
  obtain⟨da3,dm3,dc3,rfl⟩:∃a m c,d3=Value.slice a m c:=by obtain⟨a,c,h⟩:=hvt.n.shape;exact⟨a,_,c,h⟩
  have B3:=hid hb3;clear hb3 hst hvt HRD;unfold jc jd;dsimp only;by_cases hg:g=0;rotate_left
  ·have g1:(g == 0)=false:=by simpa using hg
   have g2:(g != 0)=true:=by simpa using hg
   have HG:=hid hg;clear hg
   gi_wp2
   have hfr:Fr (λ_=>False) Wx ((w3.alloc (.cells #[.int .i64 S.clock,.int .i64 S.fee,.int .i64 S.nextO,.int .i64 S.nextA,.slice sa4 sm4 sc4,.slice sa5 sm5 sc5,.slice sa6 sm6 sc6,.slice sa7 sm7 sc7,.slice sa8 sm8 sc8] 29)).alloc (.cells #[.slice da0 dm0 dc0,.slice da1 dm1 dc1,.slice da2 dm2 dc2,.slice da3 dm3 dc3] 35)):=((Fr.pure B3.out).alloc _).alloc _;refine⟨RgIn.fr hfr hlt (λh=>h) (λh=>h),hfr.mono (λ_ _ e=>e.elim),λm hm=>?_,NX.out.fr hfr (λ_ _ h=>h)⟩
   rcases List.mem_append.1 hm with h|h
   ·exact HP.out m h
   ·rw[List.mem_singleton.1 h,HRR.out];exact HG.out
  subst hg
  gi_wp2
  obtain⟨W4,hW4⟩:∃W4,W4=(w3.alloc (.cells #[.int .i64 S.clock,.int .i64 S.fee,.int .i64 S.nextO,.int .i64 S.nextA,.slice sa4 sm4 sc4,.slice sa5 sm5 sc5,.slice sa6 sm6 sc6,.slice sa7 sm7 sc7,.slice sa8 sm8 sc8] 29)).alloc (.cells #[.slice da0 dm0 dc0,.slice da1 dm1 dc1,.slice da2 dm2 dc2,.slice da3 dm3 dc3] 35):=⟨_,rfl⟩;have hf4:Fr (λ_=>False) Wx W4:=by rw[hW4];exact((Fr.pure B3.out).alloc _).alloc _
  have hb4:Below w3.heap.size w3 W4:=by rw[hW4];exact kA _ _ _
  have ks:W4.heap[w3.heap.size]?=some (.cells #[.int .i64 S.clock,.int .i64 S.fee,.int .i64 S.nextO,.int .i64 S.nextA,.slice sa4 sm4 sc4,.slice sa5 sm5 sc5,.slice sa6 sm6 sc6,.slice sa7 sm7 sc7,.slice sa8 sm8 sc8] 29 (0,0)):=by rw[hW4];exact(Below.heap_alloc _ _ _ (by simp)).trans (heap_alloc_new _ _)
  have kv:W4.heap[w3.heap.size+1]?=some (.cells #[.slice da0 dm0 dc0,.slice da1 dm1 dc1,.slice da2 dm2 dc2,.slice da3 dm3 dc3] 35 (0,0)):=by rw[hW4];exact cj _ _ (by simp)
  have N4:=hid (NX.out.fr hf4 (λ_ _ h=>h));have F4:=hid hf4;have S4:=hid (ST.out.pure hb4);have V4:=hid (VT.out.pure hb4);rw[← hW4];clear hW4 hf4 hb4;obtain⟨x0,x1,x2,x3,x4,x5,x6,x7,x8⟩:=kq (ks);obtain⟨y0,y1,y2,y3⟩:=ku (kv);have sx:W4.heap[b+1+1]?=some (.cells #[.int .i64 0,.int .i64 0,.int .i64 0,.int .i64 0,.slice none 0 0,.slice none 0 0,.slice none 0 0,.slice none 0 0,.slice none 0 0] 29 (0,0)):=N4.out.s;have vx:W4.heap[b+1+1+1]?=some (.cells #[.slice none 0 0,.slice none 0 0,.slice none 0 0,.slice none 0 0] 35 (0,0)):=N4.out.v;obtain⟨s0,sf0,s1,sf1,s2,sf2,s3,sf3,s4,sf4,s5,sf5,s6,sf6,s7,sf7,s8,sf8⟩:=kr (sx);obtain⟨v0,vf0,v1,vf1,v2,vf2,v3,vf3⟩:=kw (vx);obtain⟨⟨q0,qf0⟩,⟨i0,if0⟩,⟨e0,ef0⟩⟩:=N4.out.qc;clear sx vx;clear ks kv;have hlt3:b+1+1+1+1+1<w3.heap.size:=by have:=lt_of_block NX.out.e;have:=B3.out.size;omega
  obtain⟨We,hWe,hd6,hfr⟩:=N4.out.put (x:Int) true (.int .i64 S.clock) (.int .i64 S.fee) (.int .i64 S.nextO) (.int .i64 S.nextA) (.slice sa4 sm4 sc4) (.slice sa5 sm5 sc5) (.slice sa6 sm6 sc6) (.slice sa7 sm7 sc7) (.slice sa8 sm8 sc8) (.slice da0 dm0 dc0) (.slice da1 dm1 dc1) (.slice da2 dm2 dc2) (.slice da3 dm3 dc3);have hxf:Fr (λk=>b+1≤k∧k≤b+1+1+1+1+1) Wx We:=(F4.out.mono (λ_ _ e=>e.elim)).trans hfr;have hdr:Below We.heap.size We We.drew:=(Below.refl _ _).drew;have FIN:=hid (show RgIn W2.heap.size Wx We.drew∧Fr (λk=>k≤W2.heap.size+1) Wx We.drew∧yK st w b p M pre x We.drew from
   ⟨RgIn.fr hxf.drew hlt (by omega) (by omega),hxf.drew.mono (λ_ _ e=>by omega),S,V,⟨.slice sa4 sm4 sc4,.slice sa5 sm5 sc5,.slice sa6 sm6 sc6,.slice sa7 sm7 sc7,.slice sa8 sm8 sc8⟩,⟨.slice da0 dm0 dc0,.slice da1 dm1 dc1,.slice da2 dm2 dc2,.slice da3 dm3 dc3⟩,HP.out,HRR.out,hd6.fr (Fr.pure (S:=λ_=>False) hdr) (λ_ _ h=>h),(S4.out.kept hfr (λg hg e=>by omega)).pure hdr,(V4.out.kept hfr (λg hg e=>by omega)).pure hdr⟩)
  rw[hWe]at FIN;clear hWe hfr hd6 hxf hdr N4 F4 B3 S4 V4 hz2;have hmix:Tryz.prog.follows .mixedOrders=true:=by kernel_rfl
  gi_region_with_o (fail)
  all_goals gi_wp2
  all_goals (obtain⟨g1,g2,g3⟩:=FIN.out;first|exact⟨g1,g2,rfl,hltM,pre,x,rfl,g3⟩|exact⟨g1,g2,hltM,pre,x,rfl,g3⟩)
 case done=>
  rintro xs Wx rfl ⟨h1,h2⟩ hK;have HV:=hid (yo h1);have NX:=hid h2;have HK:=hid hK;clear h1 h2 hK;have sx:Wx.heap[b+1+1]?=some (.cells #[.int .i64 0,.int .i64 0,.int .i64 0,.int .i64 0,.slice none 0 0,.slice none 0 0,.slice none 0 0,.slice none 0 0,.slice none 0 0] 29 (0,0)):=NX.out.s;have vx:Wx.heap[b+1+1+1]?=some (.cells #[.slice none 0 0,.slice none 0 0,.slice none 0 0,.slice none 0 0] 35 (0,0)):=NX.out.v;obtain⟨s0,sf0,s1,sf1,s2,sf2,s3,sf3,s4,sf4,s5,sf5,s6,sf6,s7,sf7,s8,sf8⟩:=kr (sx);obtain⟨v0,vf0,v1,vf1,v2,vf2,v3,vf3⟩:=kw (vx);obtain⟨⟨q0,qf0⟩,⟨i0,if0⟩,⟨e0,ef0⟩⟩:=NX.out.qc;clear sx vx
  gi_wp2
  obtain⟨We,hWe,hd6,hfr⟩:=NX.out.put 0 false (.int .i64 0) (.int .i64 0) (.int .i64 0) (.int .i64 0) (.slice none 0 0) (.slice none 0 0) (.slice none 0 0) (.slice none 0 0) (.slice none 0 0) (.slice none 0 0) (.slice none 0 0) (.slice none 0 0) (.slice none 0 0);rw[← hWe];clear hWe q0 qf0 i0 if0 e0 ef0 s0 sf0 s1 sf1 s2 sf2 s3 sf3 s4 sf4 s5 sf5 s6 sf6 s7 sf7 s8 sf8 v0 vf0 v1 vf1 v2 vf2 v3 vf3;have HK2:=hid (hfr.heapAt HK.out (by omega));refine⟨by simp,.inl ⟨_,_,rfl,run_takeDeferred HK2.out,?_⟩⟩;have hf9:Fr (λk=>k=W2.heap.size) We (We.putObj W2.heap.size (.deferred none)):=(Fr.refl (λk=>k=W2.heap.size) We).putObj _ (λ_=>rfl) _;have NF:=hd6.fr hf9 (λk hk e=>by omega);obtain⟨s0,s1,s2,s3,s4,s5,s6,s7,s8⟩:=kq (NF.s);obtain⟨v0,v1,v2,v3⟩:=ku (NF.v);obtain⟨⟨q0,_⟩,⟨i0,_⟩,⟨e0,_⟩⟩:=NF.qc;refine⟨.tuple #[.int .i64 0,.agg #[.int .i64 0,.int .i64 0,.int .i64 0,.int .i64 0,.slice none 0 0,.slice none 0 0,.slice none 0 0,.slice none 0 0,.slice none 0 0],.agg #[.slice none 0 0,.slice none 0 0,.slice none 0 0,.slice none 0 0],.bool false,.int .i64 0],by simp[results,Tryz.results9,go_sem,q0,s0,s1,s2,s3,s4,s5,s6,s7,s8,v0,v1,v2,v3,i0,e0],?_⟩;rw[HV.out];exact⟨⟨⟨.slice none 0 0,.slice none 0 0,.slice none 0 0,.slice none 0 0,.slice none 0 0⟩,⟨.slice none 0 0,.slice none 0 0,.slice none 0 0,.slice none 0 0⟩,rfl,tt _ _,tu _ _⟩,by rw[← HB.out];exact NF.below⟩
 case stop=>
  rintro cd M pre Wx ⟨k,hk,hne⟩ ⟨rfl,hM,ini,m,h1,S,V,sv,dv,h2,h3,h4,h5,h6⟩ hK;have HV:=hid (show yn st (lC f t ns)=((m:Int),S,V,true)from by
   obtain⟨r,hr⟩:=lH f t (bwL ns) k;show yn st (flt f t (bwL ns))=_;rw[hr,← hk,h1,List.append_assoc];exact yp h2 h3)
  have NX:=hid h4;have HK:=hid hK;have S5:=hid h5;have V5:=hid h6;clear h1 h2 h3 h4 hK hk hne h5 h6
  gi_wp2
  refine⟨by simp,.inl ⟨_,_,rfl,run_takeDeferred HK.out,?_⟩⟩;have hf9:Fr (λk=>k=W2.heap.size) Wx (Wx.putObj W2.heap.size (.deferred none)):=(Fr.refl (λk=>k=W2.heap.size) Wx).putObj _ (λ_=>rfl) _;have NF:=NX.out.fr hf9 (λk hk e=>by omega);have hbw:w.heap.size≤W2.heap.size+1:=by have:=HB.out;omega
  have S6:=(S5.out.kept hf9 (λg hg e=>by omega)).mono (G:=λg=>w.heap.size≤g) (λg hg=>by omega);have V6:=(V5.out.kept hf9 (λg hg e=>by omega)).mono (G:=λg=>w.heap.size≤g) (λg hg=>by omega);obtain⟨x4,x5,x6,x7,x8⟩:=sv;obtain⟨y0,y1,y2,y3⟩:=dv;obtain⟨s0,s1,s2,s3,s4,s5,s6,s7,s8⟩:=kq NF.s;obtain⟨v0,v1,v2,v3⟩:=ku NF.v;obtain⟨⟨q0,_⟩,⟨i0,_⟩,⟨e0,_⟩⟩:=NF.qc;refine⟨.tuple #[.int .i64 (m:Int),.agg (jc S ⟨x4,x5,x6,x7,x8⟩),.agg (jd ⟨y0,y1,y2,y3⟩),.bool true,.int .i64 0],by simp[results,Tryz.results9,go_sem,q0,s0,s1,s2,s3,s4,s5,s6,s7,s8,v0,v1,v2,v3,i0,e0,jc,jd],?_⟩;rw[HV.out];exact⟨⟨_,_,rfl,S6,V6⟩,by rw[← HB.out];exact NF.below⟩
end
end Go.Proofs.YtaeakdichkhjaaaGreatDoor
