/- The walk of Up. -/
import Derived.Test.YtaeakdichkhjaaaGreatDoorQBn
import Derived.Test.YtaeakdichkhjaaaGreatDoorQAe
import Derived.Test.YtaeakdichkhjaaaGreatDoorQAm
import Derived.Test.YtaeakdichkhjaaaGreatDoorQAf
set_option maxHeartbeats 4000000
open Go.Lib(hid)
namespace Go.Proofs.YtaeakdichkhjaaaGreatDoor
section
open Go.RowKit
section
variable {N:List UInt8}
def zT (N n:List UInt8):Bool:=n == N || n == iP
def zU (N:List UInt8)(fs:Fs):Fs:=fs.filter λg=>!(zT N g.name)
theorem zW:zT N N=true:=by unfold zT;simp
theorem zX:zT N iP=true:=by unfold zT;simp
theorem zY {f:FileS}{r:Fs}(h:zT N f.name=true):zU N (f::r)=zU N r:=by
 unfold zU;rw[List.filter_cons,h];rfl
theorem zZ {f:FileS}{r:Fs}(h:zT N f.name=false):zU N (f::r)=f::zU N r:=by
 unfold zU;rw[List.filter_cons,h];rfl
theorem Aa {f:FileS}(h:zT N f.name=true)(fs:Fs):zU N (dO f fs)=zU N fs:=by
 induction fs with
 | nil=>exact zY h
 | cons g r ih=>
  unfold dO
  split
  ·exact zY h
  ·cases hg:zT N g.name
   ·rw[zZ hg,zZ hg,ih]
   ·rw[zY hg,zY hg,ih]
theorem Ab {n:List UInt8}(h:zT N n=true)(fs:Fs):zU N (dP fs n)=zU N fs:=by
 unfold zU dP;rw[List.filter_filter];congr 1
 funext g
 by_cases e:g.name=n
 ·rw[e,h];rfl
 ·rw[show(g.name == n)=false from by simpa using e];simp
theorem Ac {f:FileS}(h:zT N f.name=true)(fs:Fs):zU N (dQ fs f)=zU N fs:=by unfold dQ;rw[Aa h,Ab h]
def KeepW (N:List UInt8)(st st':DkSt):Prop:=zU N st'.fs=zU N st.fs∧dR st'.fs N=dR st.fs N
theorem KeepW.refl (st:DkSt):KeepW N st st:=⟨rfl,rfl⟩
theorem KeepW.trans {a b c:DkSt}(h:KeepW N a b)(g:KeepW N b c):KeepW N a c:=⟨g.1.trans h.1,g.2.trans h.2⟩
def Ad (N s:List UInt8):Nat→DkSt→DkSt×Int
 | 0,st=>fC st iP
 | 1,st=>fB st iP
 | 2,st=>gk st iP s
 | 3,st=>fP st iP
 | _,st=>fZ st iP N
def Ae (N s:List UInt8):List Nat→DkSt→DkSt×Int
 | [],st=>(st,0)
 | k::r,st=>if (Ad N s k st).2≠0∧¬(k=0∧(Ad N s k st).2=5) then Ad N s k st else Ae N s r (Ad N s k st).1
theorem Af (st:DkSt)(s N:List UInt8):iR st s N=Ae N s [0,1,2,3,4] st:=by
 unfold iR;simp only[Ae,Ad];have h:∀r:DkSt×Int,(if r.2≠0∧¬((4:Nat)=0∧r.2=5) then r else (r.1,0))=r:=by
  intro r
  split
  ·rfl
  ·rename_i h
   have h0:r.2=0:=Classical.byContradiction λe=>h ⟨e,by simp⟩;exact Prod.ext rfl h0.symm
 rw[h];simp
def Ag (N:List UInt8)(st:DkSt)(P:DkSt→Prop)(r:DkSt×Int):Prop:=
 (r.2=0∧r.1.dark=false∧r.1.left=dec st.left∧st.left≠0∧KeepW N st r.1∧P r.1)∨(r.2=45∧r.1.dark=true∧st.left=0∧KeepW N st r.1)∨(r.2≠0∧r.2≠45∧r.1=st)
theorem Ah {st:DkSt}{fs':Fs}{P:DkSt→Prop}(hd:st.dark=false)(h1:zU N fs'=zU N st.fs)(h2:dR fs' N=dR st.fs N)(hP:P { st with left:=dec st.left,fs:=fs' }):Ag N st P (fw st fs'):=by
 unfold fw Ag;by_cases h0:st.left=0
 ·rw[if_pos h0];exact .inr (.inl ⟨rfl,rfl,h0,rfl,rfl⟩)
 ·rw[if_neg h0];exact .inl ⟨rfl,hd,rfl,h0,⟨h1,h2⟩,hP⟩
theorem Ai (hne:iP≠N)(s:List UInt8){st:DkSt}(hd:st.dark=false):Ag N st (λst'=>st'.fs=dP st.fs iP) (Ad N s 0 st)∧((Ad N s 0 st).2=5↔dR st.fs iP=none):=by
 show Ag N _ _ (fC st iP)∧((fC st iP).2=5↔_);unfold fC;rw[hd];cases h:dR st.fs iP with
 | none=>exact⟨.inr (.inr ⟨by simp,by simp,rfl⟩),⟨λ_=>rfl,λ_=>rfl⟩⟩
 | some f=>
  refine⟨Ah hd (Ab zX _) (fm hne _) rfl,⟨λh=>?_,λh=>by cases h⟩⟩;have h':(fw st (dP st.fs iP)).2=5:=h;unfold fw at h'
  split at h'<;>simp at h'
theorem Aj (hne:iP≠N)(s:List UInt8){st:DkSt}(hd:st.dark=false):Ag N st (λst'=>st'.fs=dQ st.fs ⟨iP,[],[]⟩) (Ad N s 1 st):=by
 show Ag N _ _ (fB st iP);unfold fB;rw[hd,if_neg (by simp),xG,if_neg (by simp)]
 split
 ·exact .inr (.inr ⟨by simp,by simp,rfl⟩)
 ·split
  ·exact .inr (.inr ⟨by simp,by simp,rfl⟩)
  ·exact Ah hd (Ac zX _) (ft hne _) rfl
theorem Ak (hne:iP≠N)(s:List UInt8){st:DkSt}(hd:st.dark=false):Ag N st (λst'=>∃f,dR st.fs iP=some f∧st'.fs=dQ st.fs ⟨iP,f.firm,f.pend++s⟩) (Ad N s 2 st):=by
 show Ag N _ _ (gk st iP s);unfold gk;rw[hd,if_neg (by simp)];cases h:dR st.fs iP with
 | none=>exact .inr (.inr ⟨by simp,by simp,rfl⟩)
 | some f=>
  by_cases hr:(1048576:Int)-((f.firm.length+f.pend.length:Nat):Int)<(s.length:Int)∨st.cap-(ec st.fs:Int)<(s.length:Int)
  ·simp only[hr,if_true];exact .inr (.inr ⟨by simp,by simp,rfl⟩)
  ·simp only[hr,if_false]
   by_cases h0:st.left=0
   ·rw[if_pos h0]
    exact .inr (.inl ⟨rfl,rfl,h0,Ac zX _,ft hne _⟩)
   ·rw[if_neg h0]
    exact .inl ⟨rfl,rfl,rfl,h0,⟨Ac zX _,ft hne _⟩,f,rfl,rfl⟩
theorem Al (hne:iP≠N)(s:List UInt8){st:DkSt}(hd:st.dark=false):Ag N st (λst'=>∃f,dR st.fs iP=some f∧st'.fs=dQ st.fs ⟨iP,f.firm++f.pend,[]⟩) (Ad N s 3 st):=by
 show Ag N _ _ (fP st iP);unfold fP;rw[hd,if_neg (by simp)];cases h:dR st.fs iP with
 | none=>exact .inr (.inr ⟨by simp,by simp,rfl⟩)
 | some f=>exact Ah hd (Ac zX _) (ft hne _) ⟨f,rfl,rfl⟩
theorem Am (hne:iP≠N)(hm:ed N=true)(s:List UInt8){st:DkSt}(hd:st.dark=false){f:FileS}(hf:dR st.fs iP=some f) :
  ((Ad N s 4 st).2=0∧(Ad N s 4 st).1.dark=false∧st.left≠0∧(Ad N s 4 st).1.left=dec st.left∧(Ad N s 4 st).1.fs=dQ (dP st.fs iP) ⟨N,f.firm,f.pend⟩)∨((Ad N s 4 st).2=45∧(Ad N s 4 st).1.dark=true∧st.left=0∧KeepW N st (Ad N s 4 st).1):=by
 show((fZ st iP N).2=0∧_)∨_;have e:Ad N s 4 st=fZ st iP N:=rfl;rw[e];have e2:fZ st iP N=fw st (dQ (dP st.fs iP) ⟨N,f.firm,f.pend⟩):=by
  unfold fZ;rw[hd,if_neg (by simp),hf];show(if !ed N then _ else _)=_;rw[hm,if_neg (by simp),if_neg hne]
 rw[e2];unfold fw;by_cases h0:st.left=0
 ·rw[if_pos h0];exact .inr ⟨rfl,rfl,h0,rfl,rfl⟩
 ·rw[if_neg h0];exact .inl ⟨rfl,hd,h0,rfl,rfl⟩
def Ao (N s:List UInt8)(st:DkSt)(r:DkSt×Int):Prop:=
 (r.2=0∧r.1.dark=false∧zU N r.1.fs=zU N st.fs∧dR r.1.fs N=some ⟨N,s,[]⟩∧dR r.1.fs iP=none)∨(r.2≠0∧KeepW N st r.1∧(r.1.dark=true↔r.2=45))
theorem Ap {c:Int}{st:DkSt}(h:c≠44):iQ (st,c)=(st,c):=by unfold iQ;rw[if_neg h]
theorem Aq (hne:iP≠N){st:DkSt}(hd:st.dark=false):(iQ (st,44)).2≠0∧KeepW N st (iQ (st,44)).1∧((iQ (st,44)).1.dark=true↔(iQ (st,44)).2=45):=by
 unfold iQ;rw[if_pos rfl];have h:=(Ai hne [] hd).1;have e:Ad N [] 0 st=fC st iP:=rfl;rw[e]at h
 rcases h with⟨h1,h2,_,_,h3,_⟩|⟨h1,h2,_,h3⟩|⟨h1,h2,h3⟩
 ·simp[h1,h2,h3]
 ·simp[h1,h2,h3]
 ·have hk:KeepW N st (fC st iP).1:=by rw[h3];exact KeepW.refl st
  have hdk:(fC st iP).1.dark=false:=by rw[h3];exact hd
  by_cases h5:(fC st iP).2=5
  ·simp[h5,hk,hdk]
  ·simp[h2,hk,hdk]
theorem Ar (hne:iP≠N){s:List UInt8}{st0:DkSt}{r:DkSt×Int}(hc:r.2≠0)(hk:KeepW N st0 r.1)(hd:(r.1.dark=true↔r.2=45)):Ao N s st0 (iQ r):=by
 obtain⟨st,c⟩:=r;dsimp only at hc hk hd;by_cases h:c=44
 ·subst h
  have hd':st.dark=false:=by cases e:st.dark;rfl;exact absurd (hd.1 e) (by decide)
  obtain⟨h1,h2,h3⟩:=Aq hne hd';exact .inr ⟨h1,hk.trans h2,h3⟩
 ·rw[Ap h];exact .inr ⟨hc,hk,hd⟩
theorem As (st:DkSt)(hd:st.dark=false)(hne:iP≠N)(hm:ed N=true)(s:List UInt8):Ao N s st (iQ (iR st s N)):=by
 rw[Af];have stop:∀(k:Nat) (r:List Nat) (st1:DkSt) (P:DkSt→Prop),KeepW N st st1→Ag N st1 P (Ad N s k st1)→st1.dark=false→(Ad N s k st1).2≠0→¬(k=0∧(Ad N s k st1).2=5)→Ao N s st ((iQ (Ae N s (k::r) st1))):=by
  intro k r st1 P hk he hd1 h0 h5;rw[show Ae N s (k::r) st1=Ad N s k st1 from by unfold Ae;rw[if_pos ⟨h0,h5⟩]]
  rcases he with⟨h1,_⟩|⟨h1,h2,_,h3⟩|⟨h1,h2,h3⟩
  ·exact absurd h1 h0
  ·exact Ar hne h0 (hk.trans h3) (by rw[h1,h2];simp)
  ·exact Ar hne h0 (by rw[h3];exact hk) (by rw[h3,hd1];simp[h2])
 have go:∀(k:Nat) (r:List Nat) (st1:DkSt),((Ad N s k st1).2=0∨(k=0∧(Ad N s k st1).2=5))→Ae N s (k::r) st1=Ae N s r (Ad N s k st1).1:=by
  intro k r st1 h;rw[Ae,if_neg (by rintro⟨a,b⟩;rcases h with h|h;exact a h;exact b h)]
 obtain⟨e0,e05⟩:=Ai hne s hd;have h0:((Ad N s 0 st).2=0∨(0=0∧(Ad N s 0 st).2=5))∨¬((Ad N s 0 st).2=0∨(0=0∧(Ad N s 0 st).2=5)):=Classical.em _
 rcases h0.symm with h0|h0
 ·exact stop 0 _ st _ (KeepW.refl _) e0 hd (λe=>h0 (.inl e)) (λe=>h0 (.inr e))
 rw[go 0 _ st h0];have k0:KeepW N st (Ad N s 0 st).1∧(Ad N s 0 st).1.dark=false:=by
  rcases e0 with⟨_,h2,_,_,h3,_⟩|⟨h1,_⟩|⟨_,_,h3⟩
  ·exact⟨h3,h2⟩
  ·rcases h0 with h|h<;>rw[h1]at h<;>simp at h
  ·rw[h3];exact⟨KeepW.refl _,hd⟩
 generalize (Ad N s 0 st).1=st1 at k0
 obtain⟨k0,hd1⟩:=k0;have e1:=Aj hne s hd1;by_cases h1:¬(Ad N s 1 st1).2=0
 ·exact stop 1 _ st1 _ k0 e1 hd1 h1 (by simp)
 have h1:=Classical.not_not.1 h1;rw[go 1 _ st1 (.inl h1)];have k1:KeepW N st (Ad N s 1 st1).1∧(Ad N s 1 st1).1.dark=false∧dR (Ad N s 1 st1).1.fs iP=some ⟨iP,[],[]⟩:=by
  rcases e1 with⟨_,h2,_,_,h3,h4⟩|⟨h,_⟩|⟨h,_⟩
  ·exact⟨k0.trans h3,h2,by rw[h4];exact fu ⟨iP,[],[]⟩ _⟩
  ·rw[h1]at h;cases h
  ·exact absurd h1 h
 generalize (Ad N s 1 st1).1=st2 at k1
 obtain⟨k1,hd2,g2⟩:=k1;have e2:=Ak hne s hd2;by_cases h2:¬(Ad N s 2 st2).2=0
 ·exact stop 2 _ st2 _ k1 e2 hd2 h2 (by simp)
 have h2:=Classical.not_not.1 h2;rw[go 2 _ st2 (.inl h2)];have k2:KeepW N st (Ad N s 2 st2).1∧(Ad N s 2 st2).1.dark=false∧dR (Ad N s 2 st2).1.fs iP=some ⟨iP,[],s⟩:=by
  rcases e2 with⟨_,h2,_,_,h3,f,h4,h5⟩|⟨h,_⟩|⟨h,_⟩
  ·rw[g2]at h4;cases h4
   exact⟨k1.trans h3,h2,by rw[h5];exact fu ⟨iP,[],s⟩ _⟩
  ·rw[h2]at h;cases h
  ·exact absurd h2 h
 generalize (Ad N s 2 st2).1=st3 at k2
 obtain⟨k2,hd3,g3⟩:=k2;have e3:=Al hne s hd3;by_cases h3:¬(Ad N s 3 st3).2=0
 ·exact stop 3 _ st3 _ k2 e3 hd3 h3 (by simp)
 have h3:=Classical.not_not.1 h3;rw[go 3 _ st3 (.inl h3)];have k3:KeepW N st (Ad N s 3 st3).1∧(Ad N s 3 st3).1.dark=false∧dR (Ad N s 3 st3).1.fs iP=some ⟨iP,s,[]⟩:=by
  rcases e3 with⟨_,h2,_,_,h3,f,h4,h5⟩|⟨h,_⟩|⟨h,_⟩
  ·rw[g3]at h4;cases h4
   exact⟨k2.trans h3,h2,by rw[h5];exact fu ⟨iP,[]++s,[]⟩ _⟩
  ·rw[h3]at h;cases h
  ·exact absurd h3 h
 generalize (Ad N s 3 st3).1=st4 at k3
 obtain⟨k3,hd4,g4⟩:=k3
 rcases Am hne hm s hd4 g4 with⟨h1,h2,_,_,h3⟩|⟨h1,h2,_,h3⟩
 ·rw[go 4 _ st4 (.inl h1)]
  show Ao N s st (iQ ((Ad N s 4 st4).1,0));rw[Ap (by decide)];refine .inl ⟨rfl,h2,?_,?_,?_⟩
  ·show zU N (Ad N s 4 st4).1.fs=_
   rw[h3,Ac (N:=N) (f:=⟨N,_,_⟩) zW,Ab zX,k3.1]
  ·show dR (Ad N s 4 st4).1.fs N=_
   rw[h3];exact fu ⟨N,s,[]⟩ _
  ·show dR (Ad N s 4 st4).1.fs iP=_
   rw[h3,ft (by exact λe=>hne e.symm),fq]
 ·rw[show Ae N s [4] st4=Ad N s 4 st4 from by unfold Ae;rw[if_pos ⟨by rw[h1];decide,by simp⟩]]
  exact Ar hne (by rw[h1];decide) (k3.trans h3) (by rw[h1,h2];simp)
def At (now was:FileS):Prop:=now.name=was.name∧now.pend=[]∧∃k,k≤was.pend.length∧now.firm=was.firm++was.pend.take k
inductive PairsW:Fs→Fs→Prop
 | nil:PairsW [] []
 | cons {a b:FileS} {r s:Fs} (h:At a b) (t:PairsW r s):PairsW (a::r) (b::s)
theorem Au (k:Int)(m:Nat):kept k m≤m:=by
 unfold kept;have:=Int.emod_lt_of_pos (k % 18446744073709551616) (show(0:Int)<(m:Int)+1 from by omega);have:=Int.emod_nonneg (k % 18446744073709551616) (show(m:Int)+1≠0 from by omega);omega
theorem Av (ks:List Int)(f:FileS)(r:Fs):∃f' ks',iB ks (f::r)=f'::iB ks' r∧At f' f∧(f.pend=[]→f'=f):=by
 by_cases h:f.pend=[]
 ·exact⟨f,ks,iF h,⟨rfl,h,0,by omega,by simp⟩,λ_=>rfl⟩
 ·cases ks with
  | nil=>exact⟨_,[],iG h,⟨rfl,rfl,0,by omega,by simp⟩,λe=>absurd e h⟩
  | cons k t=>exact⟨_,t,iH h,⟨rfl,rfl,_,Au k _,rfl⟩,λe=>absurd e h⟩
theorem Aw (ks:List Int):iB ks []=[]:=by cases ks<;>rfl
theorem Ax (fs:Fs):∀ks,PairsW (zU N (iB ks fs)) (zU N fs):=by
 induction fs with
 | nil=>intro ks;rw[Aw];exact .nil
 | cons f r ih=>
  intro ks;obtain⟨f',ks',e,hk,_⟩:=Av ks f r;rw[e];cases h:zT N f.name
  ·rw[zZ h,zZ (by rw[hk.1];exact h)];exact .cons hk (ih ks')
  ·rw[zY h,zY (by rw[hk.1];exact h)];exact ih ks'
theorem Ay {n:List UInt8}(fs:Fs):∀ks,dR fs n=none→dR (iB ks fs) n=none:=by
 induction fs with
 | nil=>intro ks h;rw[Aw];exact h
 | cons f r ih=>
  intro ks h;obtain⟨f',ks',e,hk,_⟩:=Av ks f r;rw[e];by_cases hn:f.name=n
  ·subst hn;rw[fi]at h;cases h
  ·rw[fh hn]at h;rw[fh (by rw[hk.1];exact hn)];exact ih ks' h
theorem Az {n:List UInt8}{f0:FileS}(h0:f0.pend=[])(fs:Fs):∀ks,dR fs n=some f0→dR (iB ks fs) n=some f0:=by
 induction fs with
 | nil=>intro ks h;rw[Aw];exact h
 | cons f r ih=>
  intro ks h;obtain⟨f',ks',e,hk,he⟩:=Av ks f r;rw[e];by_cases hn:f.name=n
  ·subst hn;rw[fi]at h;cases h;rw[he h0,fi]
  ·rw[fh hn]at h;rw[fh (by rw[hk.1];exact hn)];exact ih ks' h
end
end
section
open Go.RowKit
theorem AA (q:Int)(s:StD)(v:VwD):(xC q s v).2≠45:=by
 unfold xC oQ
 repeat' split
 all_goals simp_all
theorem AB {st:DkSt}{n:List UInt8}(hd:st.dark=false)(h:dR st.fs n=none):fU st n=([],5):=by
 unfold fU;rw[hd,h];rfl
theorem AC {st:DkSt}{n:List UInt8}{f:FileS}(hd:st.dark=false)(h:dR st.fs n=some f):fU st n=(f.firm++f.pend,0):=by
 unfold fU;rw[hd,h];rfl
structure WhlOut (l:Fs) (cp:Int) (seq:Int) (s:StD) (v:VwD) (ks:List Int) (W:DkSt×Int):Prop where
 up:W.1.dark=true↔W.2=45
 fresh:W.2=0→fU W.1 iP=([],5)
 yes:W.2=0→xe seq (fU (iC W.1 ks) (gQ seq))=(s,v,0)
 no:W.2≠0→fU (iC W.1 ks) (gQ seq)=fU ⟨l,cp,-1,false⟩ (gQ seq)
 pairs:PairsW (zU (gQ seq) (iC W.1 ks).fs) (zU (gQ seq) l)
theorem AD {N:List UInt8}{l:Fs}{cp:Int}{st st2:DkSt}(hl:st.fs=l)(hno:∀f,dR l N=some f→f.pend=[])(hk:KeepW N st st2)(ks:List Int):fU (iC st2 ks) N=fU ⟨l,cp,-1,false⟩ N:=by
 have h2:=hk.2;rw[hl]at h2;cases hg:dR l N with
 | none=>
  rw[AB (st:=⟨l,cp,-1,false⟩) rfl hg];exact AB rfl (Ay _ ks (h2.trans hg))
 | some f=>
  rw[AC (st:=⟨l,cp,-1,false⟩) rfl hg];exact AC rfl (Az (hno f hg) _ ks (h2.trans hg))
theorem AE (l:Fs)(cp:Int)(lf:Int)(seq:Int)(s:StD)(v:VwD)(ks:List Int)(hno:∀f,dR l (gQ seq)=some f→f.pend=[]) :
  WhlOut l cp seq s v ks (iS ⟨l,cp,lf,false⟩ seq (xC seq s v)):=by
 have pairs:∀st2:DkSt,zU (gQ seq) st2.fs=zU (gQ seq) l→PairsW (zU (gQ seq) (iC st2 ks).fs) (zU (gQ seq) l):=by
  intro st2 h;rw[← h];exact Ax _ ks
 by_cases hc:(xC seq s v).2=0
 ·obtain⟨q,L,rfl,hq,hR,_,hrb,hL,_,_⟩:=xI hc
  rw[hR];have e:iS ⟨l,cp,lf,false⟩ (q:Int) (iO q L,0)=iQ (iR ⟨l,cp,lf,false⟩ (iO q L) (gQ (q:Int))):=by unfold iS;rw[if_neg (by simp)]
  rw[e]
  rcases As ⟨l,cp,lf,false⟩ rfl (xH (q:Int)) (xF hq) (iO q L)with⟨h1,h2,h3,h4,h5⟩|⟨h1,h2,h3⟩
  ·refine⟨by rw[h1,h2];simp,λ_=>AB h2 h5,λ_=>?_,λh=>absurd h1 h,pairs _ h3⟩
   have hg:=Az (n:=gQ (q:Int)) (f0:=⟨gQ (q:Int),iO q L,[]⟩) rfl _ ks h4;rw[xK (st:=iC (iQ (iR ⟨l,cp,lf,false⟩ (iO q L) (gQ (q:Int)))).1 ks) hq rfl hL hrb hg hq (by simp),if_pos rfl]
  ·exact⟨h3,λh=>absurd h h1,λh=>absurd h h1,λ_=>AD rfl hno h2 ks,pairs _ h2.1⟩
 ·have e:iS ⟨l,cp,lf,false⟩ seq (xC seq s v)=(⟨l,cp,lf,false⟩,(xC seq s v).2):=by unfold iS;rw[if_pos hc]
  rw[e];exact⟨by have:=AA seq s v;simp[this],λh=>absurd h hc,λh=>absurd h hc,λ_=>AD rfl hno (KeepW.refl _) ks,pairs _ rfl⟩
theorem PairsW.len {a b:Fs}(h:PairsW a b):a.length=b.length:=by induction h with|nil=>rfl|cons _ _ ih=>simp[ih]
theorem PairsW.at {a b:Fs}(h:PairsW a b):∀(k:Nat) (h1:k<a.length) (h2:k<b.length),At a[k] b[k]:=by
 induction h with
 | nil=>intro k h1;simp at h1
 | cons h _ ih=>
  intro k h1 h2;cases k with
  | zero=>exact h
  | succ k=>exact ih k (by simpa using h1) (by simpa using h2)
end
section
open Go.RowKit Go.Maps Go.Sort
def AF (w:World)(e:Ending)(w':World):Prop:=(∃bo,e = .returned (.bool bo))∧Below w.heap.size w w'
theorem AG (w:World)(q:Nat):Below w.heap.size w (w.drewN q):=⟨rfl,rfl,rfl,Nat.le_refl _,λ_ _=>rfl⟩
set_option maxRecDepth 100000 in
theorem AH (w:World)(sv:Value)(l:Fs)(hl:FilesAt w sv l)(hlen:l.length≤4398046511104) :
  Calls Tryz.prog 5 #[sv] w λe w'=>AF w e w':=by
 obtain⟨a,c,rfl⟩:=hl.shape;have HS:=hid hl;clear hl
 go_enter Tryz.func5,Tryz.ntmps5
 go_wp2
 go_loopw [3,4] (λn i wr=>∃(k:Nat) (m:Int),i = .int .i64 k∧k≤l.length∧n = .int .i64 m∧0≤m∧m≤300000∧∃q,wr=w.drewN q) (λ_ i _=>l.length-(intOf i).toNat)
 case atStart=>exact⟨0,0,rfl,by omega,rfl,by omega,by omega,0,rfl⟩
 case round=>
  obtain⟨k,m,rfl,hk,rfl,hm0,hm1,q,rfl⟩:=hrel;have hb:Below w.heap.size w (w.drewN q):=AG w q;by_cases hlt:k<l.length
  ·by_cases hm:m≤30000
   ·obtain⟨b,o,rfl,hbl,x,y,z,e1,e2,e3,h1,h2,h3⟩:=HS.out.at k hlt
    clear e1 e2 e3;go_wp2
    go_quiet (fail)
    go_wp2
    go_roundw
    case rel=>exact⟨k+1,_,by go_num,by omega,rfl,by omega,by omega,_,rfl⟩
    case measure=>simp[intOf];omega
   ·go_wp2
    go_ret;exact⟨⟨_,rfl⟩,hb⟩
  ·go_wp2
   go_ret;exact⟨⟨_,rfl⟩,hb⟩
set_option maxRecDepth 100000 in
theorem AJ (w:World)(x y z x2 y2 z2:ByteArray)(f f2:FileS)(hx:x.data.toList=f.name)(hy:y.data.toList=f.firm)(hz:z.data.toList=f.pend)(hx2:x2.data.toList=f2.name)(hy2:y2.data.toList=f2.firm)(hz2:z2.data.toList=f2.pend)
  (hk:At f f2) (hs:f2.firm.length+f2.pend.length≤1048576) :
  Calls Tryz.prog 22 #[.agg #[.string x,.string y,.string z],.agg #[.string x2,.string y2,.string z2]] w λe w'=>e = .returned (.bool true)∧Below w.heap.size w w':=by
 obtain⟨k1,k2,k,k3,k4⟩:=hk;have g1:(x.toList == x2.toList)=true:=by rw[ByteArray.toList_eq,ByteArray.toList_eq,hx,hx2,k1];simp
 have g2:z.toList.isEmpty=true:=by rw[ByteArray.toList_eq,hz,k2];rfl
 have g3:y2.size≤y.size:=by rw[ay hy,ay hy2,k4,List.length_append];omega
 have g4:y.size≤y2.size+z2.size:=by rw[ay hy,ay hy2,ay hz2,k4,List.length_append,List.length_take];omega
 have g5:y2.size+z2.size≤1048576:=by rw[ay hy2,ay hz2];omega
 have g6:(y.toList == ((y2++z2).extract 0 y.size).toList)=true:=by
  rw[ByteArray.toList_eq,ByteArray.toList_eq,az,fT,ay hy,hy,hy2,hz2,k4];have e:(f2.firm++f2.pend).take (f2.firm++f2.pend.take k).length=f2.firm++f2.pend.take k:=by
   rw[List.length_append,List.length_take,Nat.min_eq_left k3,List.take_append,List.take_of_length_le (by omega)];simp
  simp only[List.drop_zero,Nat.sub_zero,e];simp
 have g7:decide ((y.size:Int)≤(y2.size:Int)+(z2.size:Int))=true:=by simp;omega
 clear hx hy hz hx2 hy2 hz2 k1 k2 k3 k4 hs
 go_enter Tryz.func22,Tryz.ntmps22
 go_wp2;have hb:=fF w (.cells #[.string x,.string y,.string z] 60) (.cells #[.string x2,.string y2,.string z2] 60);have b0:∀j,((w.alloc (.cells #[.string x,.string y,.string z] 60)).alloc (.cells #[.string x2,.string y2,.string z2] 60)).cell? ⟨w.heap.size,j,none⟩=(#[.string x,.string y,.string z]:Array Value)[j]?:=λj=>by rw[World.cell?_alloc_past _ _ _ (by simp),World.cell?_alloc_at _ _ _ _ rfl]
 have d0:∀j,((w.alloc (.cells #[.string x,.string y,.string z] 60)).alloc (.cells #[.string x2,.string y2,.string z2] 60)).cell? ⟨w.heap.size+1,j,none⟩=(#[.string x2,.string y2,.string z2]:Array Value)[j]?:=λj=>by rw[World.cell?_alloc_at _ _ _ _ (by simp)]
 generalize ((w.alloc (.cells #[.string x,.string y,.string z] 60)).alloc (.cells #[.string x2,.string y2,.string z2] 60))=w1 at *
 have c1:w1.cell? ⟨w.heap.size,1,none⟩=some (.string y):=b0 1;have c2:w1.cell? ⟨w.heap.size,2,none⟩=some (.string z):=b0 2;have d1:w1.cell? ⟨w.heap.size+1,1,none⟩=some (.string y2):=d0 1;have d2:w1.cell? ⟨w.heap.size+1,0,none⟩=some (.string x2):=d0 0;have c0:w1.cell? ⟨w.heap.size,0,none⟩=some (.string x):=b0 0;have HB:=hid hb;clear b0 d0 hb
 go_quiet (fail)
 go_wp2;go_ret;exact⟨rfl,HB.out.trans ((AG _ _).mono HB.out.size)⟩
theorem AK {N:List UInt8}{f:FileS}(h:zT N f.name=true)(l:Fs):zU N (l++[f])=zU N l:=by
 unfold zU;rw[List.filter_append];simp[h]
theorem AL {N:List UInt8}{f:FileS}(h:zT N f.name=false)(l:Fs):zU N (l++[f])=zU N l++[f]:=by
 unfold zU;rw[List.filter_append];simp[h]
theorem AM (N:List UInt8)(l:Fs):(zU N l).length≤l.length:=List.length_filter_le _ _
set_option maxRecDepth 100000 in
theorem AN (w:World)(sv:Value)(l:Fs)(hl:FilesAt w sv l)(hlen:l.length≤64)(n:ByteArray)(N:List UInt8)(hn:n.data.toList=N) :
  Calls Tryz.prog 21 #[sv,.string n,.string ⟨#[83,78,65,80,83,72,79,84,46,110,101,119]⟩] w λe w'=>∃v,e = .returned v∧OwnFiles w' v (zU N l)∧(∀g,v.ownBlock=some g→w.heap.size≤g)∧Below w.heap.size w w':=by
 obtain⟨av,cv,rfl⟩:=hl.shape;have HL:=hid hl;have HNN:=hid hn;clear hl hn
 go_enter Tryz.func21,Tryz.ntmps21
 go_wp2
 go_loopw [7,8] (λv i wr=>∃k:Nat,i = .int .i64 k∧k≤l.length∧Hid (wr.ownsRow w.heap.size 60 3 v (zU N (l.take k)).length (mR (zU N (l.take k))))∧Hid (Below w.heap.size w wr)) (λ_ i _=>l.length-(intOf i).toNat)
 case atStart=>exact⟨0,rfl,by omega,hid (World.ownsRow_nil _ _ _ _),hid (Below.refl _ _)⟩
 case round=>
  obtain⟨k,rfl,hk,HO,HB⟩:=hrel;have hsz:=HB.out.size;obtain⟨a0,n0,c0,rfl⟩:=aG HO.out;have hol:=Nat.le_trans (AM N (l.take k)) (List.length_take_le k l);by_cases hlt:k<l.length
  ·obtain⟨q,o,rfl,hql,x,y,z,e1,e2,e3,h1,h2,h3⟩:=(HL.out.pure HB.out).at k hlt
   have HE:=hid (And.intro (mV e1) (And.intro (mV e2) (mV e3)));have HTK:=hid (show l.take (k+1)=l.take k++[l[k]]from List.take_succ_eq_append_getElem hlt);have HX:=hid e1;clear e1 e2 e3;by_cases hx:l[k].name=N
   ·have g1:(x.toList == n.toList)=true:=by rw[ByteArray.toList_eq,ByteArray.toList_eq,HX.out,HNN.out,hx];simp
    have HM:=hid (show zT N l[k].name=true from by unfold zT;rw[hx];simp);clear h2 h3
    go_wp2_with fail
    go_roundw
    case rel=>exact⟨k+1,by go_num,by omega,by rw[HTK.out,AK HM.out];exact HO,HB⟩
    case measure=>simp[intOf];omega
   ·have g1:(x.toList == n.toList)=false:=by rw[ByteArray.toList_eq,ByteArray.toList_eq,HX.out,HNN.out];simpa using hx
    by_cases hy:l[k].name=iP
    ·have g2:(x.toList == [83,78,65,80,83,72,79,84,46,110,101,119])=true:=by rw[ByteArray.toList_eq,HX.out,hy];rfl
     have HM:=hid (show zT N l[k].name=true from by unfold zT;rw[hy];simp);clear h2 h3
     go_wp2_with fail
     go_roundw
     case rel=>exact⟨k+1,by go_num,by omega,by rw[HTK.out,AK HM.out];exact HO,HB⟩
     case measure=>simp[intOf];omega
    ·have g2:(x.toList == [83,78,65,80,83,72,79,84,46,110,101,119])=false:=by rw[ByteArray.toList_eq,HX.out];show(l[k].name == iP)=false;simpa using hy
     have HM:=hid (show zT N l[k].name=false from by unfold zT;rw[show(l[k].name == N)=false from by simpa using hx,show(l[k].name == iP)=false from by simpa using hy];rfl);have HO1:=hid (HO.out.alloc (.cells #[.string x,.string y,.string z] 60));obtain⟨i0,hi,hz0,hz1,hz2⟩:=info_parts Tryz.infoFile;have HI:=hid hi;have HZ0:=hid hz0;have HZ1:=hid hz1;have HZ2:=hid hz2;clear hi hz0 hz1 hz2
     go_wp2_with (first
      | (refine wpList_append_lies _ rfl _ _ 22 rfl w.heap.size 60 i0 _ 3 48 Tryz.underlying22 HI.out HZ0.out HZ1.out HZ2.out rfl (by omega) _ (zU N (l.take k)).length _ rfl HO1.out ⟨wr.heap.size,0,none⟩ 1 1 [.string x,.string y,.string z] rfl rfl (aH rfl (by simp)) (by simp[Value.oneCell']) (by omega) (by unfold maxLen;omega) (by omega) (by simp;omega) (wr.heap.size+1) (by simp) ?_;intro gg cap w8 hown8 hgrow8 hat8 hlt8)
      | fail)
     go_roundw
     case rel=>
      refine⟨k+1,by go_num,by omega,hid ?_,hid ?_⟩
      ·rw[HTK.out,AL HM.out,mT,List.length_append,← HE.out.1,← HE.out.2.1,← HE.out.2.2];exact hown8
      ·exact(HB.out.alloc hsz _).grown hgrow8 (by simp;omega) (λj e=>mQ HO.out (by exact e))
     case measure=>simp[intOf];omega
  ·have hkl:k=l.length:=by omega
   go_wp2;go_ret;have ho:=HO.out;rw[hkl,List.take_length]at ho;exact⟨_,rfl,aF ho (λ_ _=>Nat.zero_le _),λj e=>mQ ho e,HB.out⟩
end
section
open Go.RowKit
set_option maxRecDepth 100000 in
theorem AO (w:World)(p b:Nat)(st:DkSt)(h:IsDk w p b st) :
  Calls Tryz.prog 19 #[.pointer (some ⟨p,0,none⟩)] w λe w'=>e = .returned (.bool (!st.dark))∧w=w':=by
 obtain⟨c0,c1,c2,c3⟩:=h.cs;clear h
 go_enter Tryz.func19,Tryz.ntmps19
 go_wp2;go_ret;exact⟨rfl,rfl⟩
end
end Go.Proofs.YtaeakdichkhjaaaGreatDoor
