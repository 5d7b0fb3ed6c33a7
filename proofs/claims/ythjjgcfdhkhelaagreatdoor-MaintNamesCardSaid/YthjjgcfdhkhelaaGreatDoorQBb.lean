/- Payloads that move the clock, read plainly. -/
import Derived.Test.YthjjgcfdhkhelaaGreatDoorQAu
import Derived.Test.YthjjgcfdhkhelaaGreatDoorQAw
import Derived.Test.YthjjgcfdhkhelaaGreatDoorQAt
set_option maxHeartbeats 4000000
set_option maxRecDepth 100000
open Go.Lib(hid)
open Go.Proofs.Tryz
namespace Go.Proofs.YthjjgcfdhkhelaaGreatDoor
section
noncomputable def mD (st:cZ) (c:Cfg):cZ×Int×Option kR:=
 if kN c=false then (st,1,none)
 else if (mz st).2.2≠0 then (st,(mz st).2.2,none)
 else if (kT (li (mz st).2.1.length) (st,(⟨c,(mz st).1,(mz st).2.1,[]⟩:kR))).2≠0 then
  ((kT (li (mz st).2.1.length) (st,(⟨c,(mz st).1,(mz st).2.1,[]⟩:kR))).1.1,(kT (li (mz st).2.1.length) (st,(⟨c,(mz st).1,(mz st).2.1,[]⟩:kR))).2,none)
 else ((kT (li (mz st).2.1.length) (st,(⟨c,(mz st).1,(mz st).2.1,[]⟩:kR))).1.1,0,some (kT (li (mz st).2.1.length) (st,(⟨c,(mz st).1,(mz st).2.1,[]⟩:kR))).1.2)
theorem mE {st:cZ}{g:Int}{m:bI}(hd:st.dark=false)(hm:bL g m=true)(h:cM st.fs jh=some ⟨jh,Crc.seal_ (ge g m),[]⟩):mz st=(g,m,0):=by
 have e1:eI st jh=(Crc.seal_ (ge g m),0):=by unfold eI;rw[hd,h];simp
 obtain⟨h4,h5⟩:=jS (ge g m);have e2:(Crc.seal_ (ge g m)).take ((Crc.seal_ (ge g m)).length-4)=ge g m:=by
  rw[Crc.seal_length,show(ge g m).length+4-4=(ge g m).length from by omega];unfold Crc.seal_;exact List.take_left' rfl
 unfold mz;rw[e1,if_neg (by simp)];unfold mt;simp only;rw[if_neg (by omega),if_pos h5,e2,ii hm]
theorem mF {q:Nat}{ps:List (List UInt8)}(hq:q≤1048576)(h:iE q ps):kQ (iR q ps)=(0,(q,ps)):=by
 unfold kQ iR;rw[iP hq,if_neg (by simp),List.drop_left' (iN q)];have hl:ps.length≤(iM q++iC q ps).length:=by rw[List.length_append];have:=iI (q:=q) (a:=ps);omega
 have e:=iJ (n:=(iM q++iC q ps).length) (tail:=[]) h hl;rw[List.append_nil]at e;rw[e,iK (by rw[iL];simp),List.append_nil]
structure Sound (fs:Fs) (l:kR):Prop where
 len:l.ix.length=l.segs.length
 mid:∀i (h:i+1<l.segs.length) (h':i<l.ix.length),∃f,cM fs (gu l.segs[i])=some f∧kQ (f.firm++f.pend)=(0,l.ix[i])∧kP.good l.ix[i]=(f.firm++f.pend).length
 fst:∀i (h:i<l.segs.length) (h':i<l.ix.length),l.segs[i].2=(l.ix[i].1:Int)
 row:∀i (h:i+1<l.ix.length),l.ix[i+1].1=kP.next l.ix[i]
theorem mG {st:cZ}{l:kR}(hd:st.dark=false)(h:Sound st.fs l)(i:Nat)(hi:i+1<l.segs.length):lh i (st,{ l with ix:=l.ix.take i })=((st,{ l with ix:=l.ix.take (i+1) }),0):=by
 have hl:=h.len;have hi':i<l.ix.length:=by omega
 obtain⟨f,hf,hs,hg⟩:=h.mid i hi hi';have hF:=h.fst i (by omega) hi';have hF2:=h.fst (i+1) (by omega) (by omega);have hR:=h.row i (by omega);have e1:l.segs.getD i (0,0)=l.segs[i]:=by rw[List.getD_eq_getElem?_getD,List.getElem?_eq_getElem (by omega)];rfl
 have e2:l.segs.getD (i+1) (0,0)=l.segs[i+1]:=by rw[List.getD_eq_getElem?_getD,List.getElem?_eq_getElem (by omega)];rfl
 have e3:eI st (gu l.segs[i])=(f.firm++f.pend,0):=by unfold eI;rw[hd,hf];simp
 have e4:l.ix.take i++[l.ix[i]]=l.ix.take (i+1):=(List.take_succ_eq_append_getElem hi').symm;unfold lh;simp only[e1,e2,e3,hs,e4,hg];rw[if_neg (by simp),if_neg (by simp),if_neg (by rw[hF];simp),if_neg (by omega),if_neg (by omega),if_neg (by rw[hF2,hR];simp)]
theorem mH {st:cZ}{l:kR}(hd:st.dark=false)(h:Sound st.fs l):∀(k i:Nat) (rest:List (cZ×kR→(cZ×kR)×Int)),i+k+1≤l.segs.length →
  kT ((List.range' i k).map lh++rest) (st,{ l with ix:=l.ix.take i })=kT rest (st,{ l with ix:=l.ix.take (i+k) })
 | 0,i,rest,_=>rfl
 | k+1,i,rest,hk=>by
  rw[List.range'_succ,List.map_cons,List.cons_append,mi (mG hd h i (by omega)),mH hd h k (i+1) rest (by omega),show i+1+k=i+(k+1)from by omega]
theorem mI {st:cZ}{l:kR}(hd:st.dark=false)(h:Sound st.fs l)(h0:0<l.segs.length){f:cy}(hf:cM st.fs l.name=some f)(hs:kQ (f.firm++f.pend)=(0,l.lastIx)) :
  lh (l.segs.length-1) (st,{ l with ix:=l.ix.take (l.segs.length-1) })=if l.lastIx.good<(f.firm++f.pend).length then (((lc st l.name l.lastIx.good).1,l),(lc st l.name l.lastIx.good).2) else ((st,l),0):=by
 have hl:=h.len;have hF:=h.fst (l.segs.length-1) (by omega) (by omega);have hn:=lU h0;have hx:l.lastIx=l.ix[l.segs.length-1]'(by omega):=by rw[lT (by omega)];congr 1;omega
 have e1:l.segs.getD (l.segs.length-1) (0,0)=l.segs[l.segs.length-1]'(by omega):=by rw[List.getD_eq_getElem?_getD,List.getElem?_eq_getElem (by omega)];rfl
 have e3:eI st (gu (l.segs[l.segs.length-1]'(by omega)))=(f.firm++f.pend,0):=by unfold eI;rw[hd,← hn,hf];simp
 have e4:l.ix.take (l.segs.length-1)++[l.lastIx]=l.ix:=by
  rw[hx,← List.take_succ_eq_append_getElem (by omega),List.take_of_length_le (by omega)]
 unfold lh;rw[← hn]at e3;simp only[e1,← hn,e3,hs,e4];rw[if_neg (by simp),if_neg (by simp),if_neg (by rw[hF,hx];simp),if_pos (by omega)]
theorem mJ (n:Nat)(h:0<n):List.range n=List.range' 0 (n-1)++[n-1]:=by
 rw[List.range_eq_range'];have:=List.range'_concat (s:=0) (n:=n-1) (step:=1);rw[show n-1+1=n from by omega]at this;simpa using this
theorem mK:¬kZ jh:=by rintro⟨g,f,h1,h2,e⟩;exact lQ h1 h2 _ e.symm
theorem mL {l:kR}{n:List UInt8}:la l n=true↔kZ n∧n ∉ l.segs.map gu:=by
 unfold la;simp only[Bool.and_eq_true,decide_eq_true_eq,Bool.not_eq_true',List.contains_eq_mem,decide_eq_false_iff_not]
theorem mM {st:cZ}{l:kR}(hd:st.dark=false)(hk:lu l)(ho:LgOn st l):mD st l.cfg=(st,0,some l):=by
 have h0:=hk.pos;have hl:=hk.len;have hln:=mE hd hk.may ho.man;obtain⟨l0,hl0⟩:∃l0:kR,l0={ l with ix:=l.ix.take 0 }:=⟨_,rfl⟩;have hl0e:(⟨l.cfg,l.gen,l.segs,[]⟩:kR)=l0:=by rw[hl0];rfl
 have hg:kU jg st=(st,0):=by
  have:eh st jg=(st,5):=by unfold eh;rw[hd,mm hk ho,if_neg (by decide)]
  unfold kU;rw[this];rfl
 have e1:(λs:cZ×kR=>((((kU jg s.1).1,s.2),(kU jg s.1).2):(cZ×kR)×Int)) (st,l0)=((st,l0),0):=by simp only[hg]
 have hns:(st.fs.map (·.name)).filter (la l0)=[]:=by
  rw[List.filter_eq_nil_iff];intro n hn;rw[mL,hl0];obtain⟨g,hg,rfl⟩:=List.mem_map.1 hn;rintro⟨h1,h2⟩
  rcases ho.only g hg with h|h
  ·exact mK (h▸h1)
  ·exact h2 h
 have e2:ld (st,l0)=((st,l0),0):=by
  unfold ld;simp only;rw[if_neg (by rw[hd];decide),hns];rfl
 have heach:∀i (h:i<l.segs.length) (h':i<l.ix.length),∃f,cM st.fs (gu l.segs[i])=some f∧kQ (f.firm++f.pend)=(0,l.ix[i])∧kP.good l.ix[i]=(f.firm++f.pend).length:=λi h h'=>by
  obtain⟨f,h1,h2,_⟩:=ho.seg i h h';obtain⟨h3,h4,_⟩:=hk.each i h h';have hq:l.ix[i].1≤1048576:=by
   obtain⟨a,b,e,_,h5⟩:=lP hk.may i h;rw[e]at h3;simp at h3;omega
  refine⟨f,h1,by rw[h2];exact mF hq h4,by rw[h2];rfl⟩
 have hs:Sound st.fs l:=⟨hl,λi h h'=>heach i (by omega) h',λi h h'=>(hk.each i h h').1,hk.row⟩;obtain⟨f,hf,hsc,hgd⟩:=heach (l.segs.length-1) (by omega) (by omega);rw[← lU h0]at hf;have hx:l.lastIx=l.ix[l.segs.length-1]'(by omega):=by rw[lT (by omega)];congr 1;omega
 rw[← hx]at hsc hgd;have e3:=mH hd hs (l.segs.length-1) 0 [lh (l.segs.length-1)] (by omega);have e4:=mI hd hs h0 hf hsc;rw[if_neg (by omega)]at e4;have hopen:li l.segs.length=(λs:cZ×kR=>((((kU jg s.1).1,s.2),(kU jg s.1).2):(cZ×kR)×Int))::ld::(List.range' 0 (l.segs.length-1)).map lh++[lh (l.segs.length-1)]:=by
  unfold li;rw[mJ _ h0,List.map_append];rfl
 have hrun:kT (li l.segs.length) (st,l0)=((st,l),0):=by
  rw[hopen,List.cons_append,List.cons_append,mi e1,mi e2,hl0,e3,Nat.zero_add,mi e4];rfl
 unfold mD;rw[hln,hk.cfg,if_neg (by decide),if_neg (by simp)];simp only[hl0e,hrun];rw[if_neg (by simp)]
end
section
open Go.RowKit
end
section
def pN (n:List UInt8):Bool:=decide (vF 0 ((n.drop 1).take 8)≤99999999) && decide (vF 0 (n.drop 10)≤1048576) && (b9 ((vF 0 ((n.drop 1).take 8):Nat):Int) ((vF 0 (n.drop 10):Nat):Int) == n)
theorem pO (n:List UInt8):kZ n↔pN n=true:=by
 unfold pN;rw[Bool.and_eq_true,Bool.and_eq_true,decide_eq_true_iff,decide_eq_true_iff,beq_iff_eq];constructor
 ·rintro⟨g,f,hg,hf,rfl⟩
  have e1:((b9 (g:Int) (f:Int)).drop 1).take 8=bV (g:Int) 8:=by
   rw[ky g f hg hf];exact List.take_left' (kp g 7 (by omega))
  have e2:(b9 (g:Int) (f:Int)).drop 10=bV (f:Int) 10:=by
   rw[ky g f hg hf];have h:(bV (g:Int) 8).length=8:=kp g 7 (by omega);show(bV (g:Int) 8++45::bV (f:Int) 10).drop 9=_;rw[List.drop_append,List.drop_eq_nil_of_le (by omega),h];rfl
  rw[e1,e2,mQ,mQ];exact⟨⟨hg,hf⟩,rfl⟩
 ·rintro⟨⟨h1,h2⟩,h3⟩
  exact⟨_,_,h1,h2,h3.symm⟩
def pP (l:kR)(n:List UInt8):Bool:=pN n && !(l.segs.map gu).contains n
theorem pQ (l:kR):la l=pP l:=by
 funext n
 unfold la pP;congr 1;cases h:pN n
 ·exact @decide_eq_false _ (Classical.propDecidable _) (λe=>by rw[(pO n).1 e]at h;cases h)
 ·exact @decide_eq_true _ (Classical.propDecidable _) ((pO n).2 h)
def pR (s:cZ×kR):(cZ×kR)×Int:=
 if s.1.dark then (s,45) else let r:=kT (((s.1.fs.map (·.name)).filter (pP s.2)).map λn st=>eh st n) s.1;((r.1,s.2),r.2)
theorem pS:ld=pR:=by
 funext s
 unfold ld pR;rw[pQ]
def pT (n:Nat):List (cZ×kR→(cZ×kR)×Int):=
 (λs=>((((kU jg s.1).1,s.2),(kU jg s.1).2):(cZ×kR)×Int))::pR::(List.range n).map lh
theorem pU (n:Nat):li n=pT n:=by unfold li pT;rw[pS]
def pV (st:cZ)(c:Cfg):cZ×Int×Option kR:=
 if kN c=false then (st,1,none)
 else if (mz st).2.2≠0 then (st,(mz st).2.2,none)
 else if (kT (pT (mz st).2.1.length) (st,(⟨c,(mz st).1,(mz st).2.1,[]⟩:kR))).2≠0 then
  ((kT (pT (mz st).2.1.length) (st,(⟨c,(mz st).1,(mz st).2.1,[]⟩:kR))).1.1,(kT (pT (mz st).2.1.length) (st,(⟨c,(mz st).1,(mz st).2.1,[]⟩:kR))).2,none)
 else ((kT (pT (mz st).2.1.length) (st,(⟨c,(mz st).1,(mz st).2.1,[]⟩:kR))).1.1,0,some (kT (pT (mz st).2.1.length) (st,(⟨c,(mz st).1,(mz st).2.1,[]⟩:kR))).1.2)
theorem pW (st:cZ)(c:Cfg):mD st c=pV st c:=by unfold mD pV;rw[pU]
def pX (a b:kR):Bool:=decide (a.cfg.ss=b.cfg.ss) && decide (a.cfg.ev=b.cfg.ev) && decide (a.cfg.v=b.cfg.v) && decide (a.gen=b.gen) && decide (a.segs=b.segs) && decide (a.ix=b.ix)
theorem pY {a b:kR}(h:pX a b=true):a=b:=by
 obtain⟨⟨a1,a2,a3⟩,a4,a5,a6⟩:=a;obtain⟨⟨b1,b2,b3⟩,b4,b5,b6⟩:=b;unfold pX at h;simp only[Bool.and_eq_true,decide_eq_true_eq]at h;obtain⟨⟨⟨⟨⟨rfl,rfl⟩,rfl⟩,rfl⟩,rfl⟩,rfl⟩:=h;rfl
def pZ (o:Option kR)(b:kR):Bool:=match o with|none=>false|some a=>pX a b
theorem p9 {o:Option kR}{b:kR}(h:pZ o b=true):o=some b:=by
 cases o with
 | none=>cases h
 | some a=>rw[pY h]
def named (st:cZ):Bool:=st.fs.all λf=>decide (1≤f.name.length)
theorem qa {st:cZ}(h:named st=true):∀f∈st.fs,1≤f.name.length:=λf hf=>of_decide_eq_true (List.all_eq_true.1 h f hf)
theorem qb {cap:Int}{q:Nat}{c:Cfg}(hc:kN c=true)(hq:q≤1048576)(h0:(kT (kX ⟨[],cap,-1,false⟩ q) ⟨[],cap,-1,false⟩).2=0):kY ⟨[],cap,-1,false⟩ (q:Int) c=(⟨mX q,cap,-1,false⟩,0,some (mU c q)):=by
 rcases mY (st:=⟨[],cap,-1,false⟩) ⟨rfl,rfl⟩ rfl hc hq with h|h
 ·exact h
 ·exfalso
  unfold kY at h;rw[if_neg (by rw[hc];unfold bW;simp;omega),if_neg (by simp),if_neg (by simp[cM]),Int.toNat_natCast,if_neg (by rw[h0];simp)]at h;simp at h
end
section
open Go.RowKit
theorem yt (w:World)(n q:Nat)(s:ByteArray)(st st':bc)(v:Int)(hv:v=1∨v=3)(m:Nat)(hm1:1≤m)(hm2:m≤100)(ht:TkAt w n q)(hr:bd w q s st)(he:st.e=0)(hsh:st.short s.data.toList (uT v).toNat=(m,st'))(he':st'.e=0)(hq:q<n) :
  Calls prog 402 #[.pointer (some ⟨n+1,0,none⟩),.int .u8 v,.int .u8 116] w λe w'=>e = .returned (.int .i64 (m:Int))∧TkAt w' n q∧bd w' q s st'∧Fr (λk=>k=q∨k=n+1) w w':=by
 have HV:=hid (show v=1∨v=2∨v=3 from by omega);have HSH:=hid hsh;have hc0:(uT v) % 18446744073709551616=uT v:=by rcases hv with rfl|rfl<;>rfl
 have hc1:((uT v).toNat:Int)=uT v:=by rcases hv with rfl|rfl<;>rfl
 have hc2:IntKind.i64.wrap (m:Int)=(m:Int):=by rw[IntKind.wrap_i64];omega
 have HC1:=hid hc1;obtain⟨x0,x1,x2,x3,x4,z⟩:=ht.cs;have HT:=hid ht;have HR:=hid hr;have HE:=hid he;have HE':=hid he';have HN:=hid hq;clear ht hr he he' hsh hv hc1 hq
 go_enter func402,ntmps402
 go_wp2_with fail
 refine(uU w v HV.out).mono ?_;rintro e w1 ⟨rfl,rfl⟩
 go_wp2_with fail
 have hrs:=uK w1 q s st HR.out (uT v).toNat;rw[HC1.out,HSH.out]at hrs;dsimp only at hrs;refine hrs.mono ?_;rintro e w2 ⟨rfl,hr2,hf2⟩;have HR2:=hid hr2;have HF2:=hid hf2;have HT2:=hid (HT.out.kept hf2 (by have:=HN.out;omega) (by have:=HN.out;omega) (by have:=HN.out;omega));clear hrs hr2 hf2 x0 x1 x2 x3 x4 z;obtain⟨x0,x1,x2,x3,x4,z⟩:=HT2.out.cs
 go_wp2_with fail
 refine wp_region_held_drew (S:=(λw'=>w'.cell? ⟨n+1,2,none⟩=some (.func (.func 450) #[] #[.pointer (some ⟨n+2,0,none⟩),.pointer (some ⟨n,0,none⟩)]))) (by kernel_rfl) x3 (λhHeld=>?_);refine tk 0 (h:=?_);simp only[Act.put,List.setIfInBounds_toArray,List.set_cons_zero,List.set_cons_succ];refine tk 1 (h:=?_);simp only[Act.put,List.setIfInBounds_toArray,List.set_cons_zero,List.set_cons_succ];refine tk 2 (h:=?_);simp only[Act.put,List.setIfInBounds_toArray,List.set_cons_zero,List.set_cons_succ];refine tk 3 (h:=?_);simp only[Act.put,List.setIfInBounds_toArray,List.set_cons_zero,List.set_cons_succ];refine tk 4 (h:=?_);simp only[Act.put,List.setIfInBounds_toArray,List.set_cons_zero,List.set_cons_succ];refine tk 5 (h:=?_);simp only[Act.put,List.setIfInBounds_toArray,List.set_cons_zero,List.set_cons_succ];refine tk 6 (h:=?_);simp only[Act.put,List.setIfInBounds_toArray,List.set_cons_zero,List.set_cons_succ];refine rdy 7 (h:=λK hK=>?_)
 go_simp
 try rw[hc2]
 refine(uV w2.drew v HV.out (m:Int) (by omega) (by omega)).mono ?_;rintro e w3 ⟨rfl,rfl⟩;refine hK.out _ _ x3 (λhHeld=>?_);clear hK K;refine rdy 8 (h:=λK hK=>?_);have ent:∀(args:Array Value) (w:World),(callFunc 450 args).run prog w = .ok (.enter 450 args) w:=λ_ _=>rfl
 go_simp
 refine(xW w2.drew n q s st' ⟨HT2.out.r,HT2.out.t,HT2.out.c⟩ (show bd w2.drew q s st' from HR2.out) HE'.out).mono ?_;rintro e w3 ⟨rfl,ht3,hf3⟩;have HT3:=hid ht3;have HF3:=hid (show Fr (λk=>k=q∨k=n+1) w1 w3 from((HF2.out.mono (λ_ _ e=>.inl e)).trans ((Fr.refl _ w2).drew)).trans (hf3.mono (λ_ _ e=>.inr e)));have HR3:=hid ((show bd w2.drew q s st' from HR2.out).kept hf3 (by have:=HN.out;omega));have hs3:=ht3.cs.2.2.2.1;refine hK.out _ _ hs3 (λhHeld=>?_);clear hK K ht3 hf3;refine wpAnyH_done (by kernel_rfl) ?_ _;go_wp2;go_ret;exact⟨rfl,HT3.out,HR3.out,HF3.out⟩
theorem yu (w:World)(hk:uL w)(q:Nat)(s:ByteArray)(st s1 s2:bc)(v:Int)(hv:v=1∨v=3)(m:Nat)(hm1:1≤m)(hm2:m≤100)(hr:bd w q s st)(he:st.e=0)(hf1:st.fixed s.data.toList 1=(20,s1))(he1:s1.e=0)(hsh:s1.short s.data.toList (uT v).toNat=(m,s2))(he2:s2.e=0) :
  Calls prog 351 #[.pointer (some ⟨q,0,none⟩),.int .u8 v] w λe w'=>(∃g d,e = .returned (.tuple #[uX v g d,.int .i64 0])∧w.heap.size≤g∧w'.cell? ⟨g,0,none⟩=some (.int .i64 (m:Int)))∧bd w' q s s2∧Fr (λk=>k=q) w w':=by
 have d1:decide (v<1)=false:=by rcases hv with rfl|rfl<;>rfl
 have d2:decide (v > 3)=false:=by rcases hv with rfl|rfl<;>rfl
 have hqw:=hr.lt;have HV:=hid hv;have HK:=hid hk;have HR:=hid hr;have HE:=hid (And.intro he (And.intro he1 he2));have HF1:=hid hf1;have HSH:=hid hsh;clear hv hk hr he he1 he2 hf1 hsh
 go_enter func351,ntmps351
 go_wp2_with fail
 obtain⟨W0,hW0⟩:∃W0,W0=w.alloc (.cells #[.int .u8 0,.int .u8 0,.slice none 0 0,.slice none 0 0] 189):=⟨_,rfl⟩;have hb0:Below w.heap.size w W0:=by rw[hW0];exact(Below.refl _ _).alloc (Nat.le_refl _) _
 have hr0:bd W0 q s st:=HR.out.kept (Fr.pure (S:=λ_=>False) hb0) (λe=>e);have k0:W0.heap[w.heap.size]?=some (.cells #[.int .u8 0,.int .u8 0,.slice none 0 0,.slice none 0 0] 189 (0,0)):=by rw[hW0];exact heap_alloc_new _ _
 rw[← hW0];clear hW0;refine(bD W0 q s st hr0).mono ?_;rintro e w1' ⟨rfl,nd,rfl⟩;rw[HE.out.1]
 generalize hW1:W0.drewN nd=W1
 have hb1:Below W0.heap.size W0 W1:=by rw[← hW1];exact uO (Below.refl _ _) _
 have HR1:=hid (hr0.kept (Fr.pure (S:=λ_=>False) hb1) (λe=>e));have E1:=hid (uZ k0 hb1);have HK1:=hid ((HK.out.pure hb0).pure hb1);have HB1:=hid (show Fr (λk=>k=q) w W1 from(Fr.pure hb0).trans (Fr.pure hb1));clear hb0 hr0 k0 hb1 hW1
 go_wp2_with fail
 refine(xV W1 q).mono ?_;rintro e w2 ⟨rfl,ht2,hb2⟩;obtain⟨n,hn⟩:∃n,n=W1.heap.size:=⟨_,rfl⟩;rw[← hn]at ht2 ⊢;have HT2:=hid ht2;have HR2:=hid (HR1.out.kept (Fr.pure (S:=λ_=>False) hb2) (λe=>e));have E2:=hid (uZ E1.out hb2);have HK2:=hid (HK1.out.pure hb2);have HB2:=hid (HB1.out.trans (Fr.pure hb2));have HQ:=hid (show q<n∧q<w.heap.size∧w.heap.size<n∧KB≠q from by
  have h1:=lt_of_block E1.out;refine⟨by rw[hn];omega,hqw,by rw[hn];exact h1,λe=>?_⟩;have h2:=HK.out.k0;have h3:=HR.out.1;rw[e]at h2;have h4:=(cell_of_row _ _ _ _ _ _ h3).symm.trans h2;unfold bc.cells at h4;simp at h4)
 clear ht2 hb2 hn
 go_wp2_with fail
 have hru:=uB w2 q s st HR2.out;rw[HF1.out]at hru;refine(show Calls prog 335 #[.pointer (some ⟨q,0,none⟩)] w2 λe w'=>e = .returned (.int .u8 20)∧bd w' q s s1∧Fr (λk=>k=q) w2 w' from hru).mono ?_;rintro e w3 ⟨rfl,hr3,hf3⟩;have HT3:=hid (HT2.out.kept hf3 (by have:=HQ.out;omega) (by have:=HQ.out;omega) (by have:=HQ.out;omega));have E3:=hid (hf3.heapAt E2.out (by have:=HQ.out;omega));have HK3:=hid (HK2.out.kept hf3 HQ.out.2.2.2);have HB3:=hid (HB2.out.trans hf3);have HR3:=hid hr3;clear hru hr3 hf3
 go_wp2_with fail
 obtain⟨W4,hW4⟩:∃W4,W4=w3.alloc (.cells #[.int .u8 v,.int .u8 20,.slice none 0 0,.slice none 0 0] 189):=⟨_,rfl⟩;have hb4:Below w3.heap.size w3 W4:=by rw[hW4];exact(Below.refl _ _).alloc (Nat.le_refl _) _
 have o4:W4.heap[w3.heap.size]?=some (.cells #[.int .u8 v,.int .u8 20,.slice none 0 0,.slice none 0 0] 189 (0,0)):=by rw[hW4];exact heap_alloc_new _ _
 rw[← hW4];clear hW4;refine(uS W4 (HK3.out.pure hb4) v (by have:=HV.out;omega)).mono ?_;rintro e w5 ⟨⟨g1,c1,rfl,hg1,hc1⟩,hb5⟩;have hb35:Below w3.heap.size w3 w5:=hb4.trans (hb5.mono hb4.size);have HT5:=hid (HT3.out.pure hb35);have E5:=hid (uZ E3.out hb35);have O5:=hid (uZ o4 hb5);have HB5:=hid (HB3.out.trans (Fr.pure hb35));have HR5:=hid (HR3.out.kept (Fr.pure (S:=λ_=>False) hb35) (λe=>e));have HC5:=hid hc1;have HS:=hid (show n+2<w3.heap.size∧w3.heap.size<g1∧w.heap.size≤n from⟨lt_of_block HT3.out.c,by have:=lt_of_block o4;omega,by have:=HQ.out;omega⟩);obtain⟨x0,x1,x2,x3,x4,z⟩:=HT5.out.cs;clear hb4 o4 hg1 hc1 hb5 hb35;have ent:∀(args:Array Value) (w:World),(callFunc 450 args).run prog w = .ok (.enter 450 args) w:=λ_ _=>rfl
 go_wp2_with fail
 refine(xW w5 n q s s1 HT5.out HR5.out HE.out.2.1).mono ?_;rintro e w6 ⟨rfl,ht6,hf6⟩;have HT6:=hid ht6;have E6:=hid (hf6.heapAt E5.out (by have:=HQ.out;omega));have O6:=hid (hf6.heapAt O5.out (by have:=HS.out;omega));have HR6:=hid (HR5.out.kept hf6 (by have:=HQ.out;omega));have hc6:=hf6.cellAt HC5.out (by have:=HS.out;omega);have HB6:=hid (HB5.out.then hf6 (λi hi e=>by have:=HS.out;have:=HB5.out.size;omega));clear ht6 hf6 x0 x1 x2 x3 x4 z
 go_wp2_with fail
 refine wp_loop_rounds 2 ?_;rw[rounds_succ]
 go_wp2_with fail
 have y2:w6.drew.cell? ⟨w3.heap.size,2,none⟩=some (.slice none 0 0):=(cell_of_row _ _ _ _ _ _ O6.out).trans rfl;refine pg (S:=(λw':World=>w'.cell? ⟨w3.heap.size,2,none⟩=some (.slice none 0 0))) 9 (by kernel_rfl) ?_;have hHeld:(λw':World=>w'.cell? ⟨w3.heap.size,2,none⟩=some (.slice none 0 0)) w6.drew:=y2;refine tz 0 (h:=?_)
 (try simp only[Act.put,List.setIfInBounds_toArray,List.set_cons_zero,List.set_cons_succ])
 refine tz 1 (h:=?_)
 (try simp only[Act.put,List.setIfInBounds_toArray,List.set_cons_zero,List.set_cons_succ])
 refine tz 2 (h:=?_)
 (try simp only[Act.put,List.setIfInBounds_toArray,List.set_cons_zero,List.set_cons_succ])
 refine tz 3 (h:=?_)
 (try simp only[Act.put,List.setIfInBounds_toArray,List.set_cons_zero,List.set_cons_succ])
 refine tz 4 (h:=?_)
 (try simp only[Act.put,List.setIfInBounds_toArray,List.set_cons_zero,List.set_cons_succ])
 refine rz 5 (h:=λK hK=>?_)
 go_simp
 have hnm:=yt w6.drew n q s s1 s2 v HV.out m hm1 hm2 ⟨HT6.out.r,HT6.out.t,HT6.out.c⟩ (show bd w6.drew q s s1 from HR6.out) HE.out.2.1 HSH.out HE.out.2.2 HQ.out.1;refine hnm.mono ?_;rintro e w7 ⟨rfl,ht7,hr7,hf7⟩;have HT7:=hid ht7;have HR7:=hid hr7;have e7:=hf7.heapAt (show w6.drew.heap[w.heap.size]?=_ from E6.out) (λe=>by have:=HQ.out;omega);have o7:=hf7.heapAt (show w6.drew.heap[w3.heap.size]?=_ from O6.out) (λe=>by have:=HS.out;have:=HQ.out;omega);have E7:=hid e7;have O7:=hid o7;have HB7:=hid ((HB6.out.trans ((Fr.refl _ w6).drew)).then hf7 (λi hi e=>by have:=HS.out;rcases e with e|e;exact e;omega));have hs7:w3.heap.size<w7.heap.size:=lt_of_block o7;have hws:w.heap.size≤w7.heap.size:=HB7.out.size;obtain⟨_,_,y2,_,_⟩:=uY o7;clear hHeld hnm ht7 hr7 hf7 e7 o7;have hHeld:(λw':World=>w'.cell? ⟨w3.heap.size,2,none⟩=some (.slice none 0 0)) w7:=y2;refine hK.out _ _ (λ_=>hHeld) ?_;clear hK K
 (try simp only[Act.put,List.setIfInBounds_toArray,List.set_cons_zero,List.set_cons_succ])
 refine rz 6 (h:=λK hK=>?_)
 go_simp
 have hHe2:(λw':World=>w'.cell? ⟨w3.heap.size,2,none⟩=some (.slice none 0 0)) (w7.alloc (.cells #[.int .i64 (m:Int)] 2)):=(World.cell?_alloc_past _ _ _ (aw hHeld)).trans hHeld;refine hK.out _ _ (λ_=>hHe2) ?_;clear hK K
 (try simp only[Act.put,List.setIfInBounds_toArray,List.set_cons_zero,List.set_cons_succ])
 obtain⟨i0,hi,hz0,hz1,hz2⟩:=info_parts Tryz.infoN64;have HI:=hid hi;have HZ0:=hid hz0;have HZ1:=hid hz1;have HZ2:=hid hz2;clear hi hz0 hz1 hz2;refine rz 7 (h:=λK hK=>?_);refine step_append_lies _ (by rfl) _ _ _ (by rfl) w.heap.size 2 i0 _ 1 8 underlying126 HI.out HZ0.out HZ1.out HZ2.out rfl (by omega) (.slice none 0 0) 0 [] (by rfl) (World.ownsRow_nil _ _ _ _) ⟨w7.heap.size,0,none⟩ 1 1 [.int .i64 (m:Int)] (by rfl) (by rfl) (aC rfl rfl) (by simp[Value.oneCell']) (by omega) (by unfold maxLen;omega) (by omega) (by simp;omega) (w7.heap.size+1) (by simp) ?_;intro g cap w8 hown8 hgrow8 hat8 hlt8;simp only[Nat.zero_add,List.nil_append]at hown8 ⊢;obtain⟨hc8,hg8⟩:=uP hown8;have hB8:Below w7.heap.size w7 w8:=((Below.refl _ _).alloc (Nat.le_refl _) _).grown hgrow8 (by simp) (λj e=>by cases e);have o8:=uZ O7.out hB8;have e8:=uZ E7.out hB8;have HT8:=hid (HT7.out.pure hB8);have HR8:=hid (HR7.out.kept (Fr.pure (S:=λ_=>False) hB8) (λe=>e));have HB8:=hid (HB7.out.trans (Fr.pure hB8));have HG8:=hid (show w7.heap.size≤g from by rcases hat8 with e|e;cases e;omega);obtain⟨z0,z1,z2,z3,zf⟩:=uY o8;clear hHeld hHe2 y2;have hHeld:(λw':World=>w'.cell? ⟨w3.heap.size,2,none⟩=some (.slice none 0 0)) w8:=z2;refine hK.out _ _ (λ_=>hHeld) ?_;clear hK K
 (try simp only[Act.put,List.setIfInBounds_toArray,List.set_cons_zero,List.set_cons_succ])
 refine tz 8 (h:=?_)
 (try simp only[Act.put,List.setIfInBounds_toArray,List.set_cons_zero,List.set_cons_succ])
 refine rz 9 (h:=λK hK=>?_)
 go_simp
 refine hK.out _ _ (λh=>absurd rfl h) ?_;clear hK K
 (try simp only[Act.put,List.setIfInBounds_toArray,List.set_cons_zero,List.set_cons_succ])
 refine pf (by kernel_rfl) ?_ _
 generalize hW9:w8.setCell _ _=W9
 have f9:Fr (λk=>k=w3.heap.size) w8 W9:=by rw[← hW9];exact(Fr.refl (λk=>k=w3.heap.size) w8).setCell ⟨w3.heap.size,2,none⟩ (λ_=>rfl) _
 have O9:=hid (show W9.heap[w3.heap.size]?=some (.cells #[.int .u8 v,.int .u8 20,.slice (some ⟨g,0,none⟩) 1 cap,.slice none 0 0] 189 (0,0))from by rw[← hW9];exact heap_setCell_same _ _ _ _ _ _ o8);have E9:=hid (f9.heapAt e8 (by have:=HS.out;omega));have ht9:=HT8.out.kept f9 (by have:=HS.out;omega) (by have:=HS.out;omega) (by have:=HS.out;omega);have HR9:=hid (HR8.out.kept f9 (by have:=HS.out;have:=HQ.out;omega));have C9:=hid (f9.cellAt hc8 (by have:=HG8.out;omega));have HB9:=hid (HB8.out.then f9 (λi hi e=>by have:=HS.out;have:=HQ.out;omega));obtain⟨x0,x1,x2,x3,x4,z⟩:=ht9.cs;obtain⟨y0,y1,y2,y3,_⟩:=uY O9.out;obtain⟨r0,r1,r2,r3,rf⟩:=uY E9.out;clear z0 z1 z2 z3 zf hHeld hW9 hown8 hgrow8 hat8 hc8 o8 e8 f9 hB8 ht9 hc6;go_wp2;rw[rounds_succ];go_wp2;refine bodyPost_ret (v:=.tuple #[uX v g cap,.int .i64 0]) (by simp[results,results351,go_sem,r0,r1,r2,r3]) rfl ⟨⟨g,cap,rfl,hg8,?_⟩,?_,?_⟩
 ·exact ym (by have:=HG8.out;have:=HS.out;omega) C9.out
 ·exact HR9.out.kept (yl _ _ _ _ _ _) (by have:=HQ.out;omega)
 ·exact HB9.out.then (yl _ _ _ _ _ _) (λi hi e=>by omega)
end
end Go.Proofs.YthjjgcfdhkhelaaGreatDoor
namespace Go.Proofs
section
open Go.Shelf Tryz
def Tryz.laysSlM5X_ren:Go.Shelf.Ren:=⟨fun|5=>298|8=>276|7=>384|19=>365|20=>311|10=>436|11=>437|12=>438|13=>439|14=>440|15=>441|16=>442|17=>443|18=>444|30=>468|31=>409|32=>410|33=>469|34=>470|35=>368|40=>478|n=>n,fun|23=>126|25=>2|3=>3|32=>246|22=>126|0=>0|44=>182|46=>184|4=>4|36=>448|35=>447|41=>375|5=>5|9=>9|53=>489|57=>492|63=>536|64=>537|n=>n,fun|n=>n⟩
theorem Tryz.laysSlM5X:Go.Proofs.SlLaysM.n5 prog Tryz.laysSlM5X_ren:={
 mixed:=by kernel_rfl
 f5:=⟨Tryz.f298.name,by decide,func298.trans (congrArg some (by kernel_rfl))⟩
 f7:=⟨Tryz.f384.name,by decide,func384.trans (congrArg some (by kernel_rfl))⟩
 f8:=qz func276
 f10:=⟨Tryz.f436.name,by decide,func436.trans (congrArg some (by kernel_rfl))⟩
 f11:=⟨Tryz.f437.name,by decide,func437.trans (congrArg some (by kernel_rfl))⟩
 f12:=⟨Tryz.f438.name,by decide,func438.trans (congrArg some (by kernel_rfl))⟩
 f13:=⟨Tryz.f439.name,by decide,func439.trans (congrArg some (by kernel_rfl))⟩
 f14:=⟨Tryz.f440.name,by decide,func440.trans (congrArg some (by kernel_rfl))⟩
 f15:=⟨Tryz.f441.name,by decide,func441.trans (congrArg some (by kernel_rfl))⟩
 f16:=⟨Tryz.f442.name,by decide,func442.trans (congrArg some (by kernel_rfl))⟩
 f17:=⟨Tryz.f443.name,by decide,func443.trans (congrArg some (by kernel_rfl))⟩
 f18:=⟨Tryz.f444.name,by decide,func444.trans (congrArg some (by kernel_rfl))⟩
 f19:=qz func365
 f20:=qz func311
 f30:=⟨Tryz.f468.name,by decide,func468.trans (congrArg some (by kernel_rfl))⟩
 f31:=qz func409
 f32:=qz func410
 f33:=⟨Tryz.f469.name,by decide,func469.trans (congrArg some (by kernel_rfl))⟩
 f34:=⟨Tryz.f470.name,by decide,func470.trans (congrArg some (by kernel_rfl))⟩
 f35:=⟨Tryz.f368.name,by decide,func368.trans (congrArg some (by kernel_rfl))⟩
 f40:=⟨Tryz.f478.name,by decide,func478.trans (congrArg some (by kernel_rfl))⟩
 t0:=underlying0
 a0:=isAgg0
 z0:=sizeOf0
 v0:=zeroValue0
 t3:=underlying3
 a3:=isAgg3
 z3:=sizeOf3
 v3:=zeroValue3
 t4:=underlying4
 a4:=isAgg4
 z4:=sizeOf4
 v4:=zeroValue4
 t5:=underlying5
 a5:=isAgg5
 z5:=sizeOf5
 v5:=zeroValue5
 t9:=underlying9
 a9:=isAgg9
 z9:=sizeOf9
 v9:=zeroValue9
 t22:=underlying126
 a22:=isAgg126
 z22:=sizeOf126
 v22:=zeroValue126
 t23:=underlying126
 a23:=isAgg126
 z23:=sizeOf126
 v23:=zeroValue126
 t25:=underlying2
 a25:=isAgg2
 z25:=sizeOf2
 v25:=zeroValue2
 t32:=underlying246
 a32:=isAgg246
 z32:=sizeOf246
 v32:=zeroValue246
 t35:=underlying447
 a35:=isAgg447
 z35:=sizeOf447
 v35:=zeroValue447
 t36:=underlying448
 a36:=isAgg448
 z36:=sizeOf448
 v36:=zeroValue448
 t41:=underlying375
 a41:=isAgg375
 z41:=sizeOf375
 v41:=zeroValue375
 t44:=underlying182
 a44:=isAgg182
 z44:=sizeOf182
 v44:=zeroValue182
 t46:=underlying184
 a46:=isAgg184
 z46:=sizeOf184
 v46:=zeroValue184
 t53:=underlying489
 a53:=isAgg489
 z53:=sizeOf489
 v53:=zeroValue489
 t57:=underlying492
 a57:=isAgg492
 z57:=sizeOf492
 v57:=zeroValue492
 t63:=underlying536
 a63:=isAgg536
 z63:=sizeOf536
 v63:=zeroValue536
 t64:=underlying537
 a64:=isAgg537
 z64:=sizeOf537
 v64:=zeroValue537 }
end
end Go.Proofs
namespace Go.Proofs.YthjjgcfdhkhelaaGreatDoor
section
def qR (LF:List UInt8→List UInt8×Int)(l:List (List UInt8)):List (List UInt8)×Bool×Int:=
 if l.all (λp=>decide ((LF p).2=0)) then (l.map (λp=>(LF p).1),l.any (λp=>decide ((LF p).1≠p)),0) else ([],false,4)
def qS (l:kR)(x:Int×Int)(e:Int):List (List UInt8):=(l.all.drop (x.2.toNat-l.first.toNat)).take (e.toNat-x.2.toNat)
abbrev qT:=Nat×List (List UInt8)
def qU (LF:List UInt8→List UInt8×Int)(l:kR):Nat→bI→List qT×Int
 | _,[]=>([],0)
 | i,x::r=>
  let L:=qR LF (qS l x ((r.head?.map (·.2)).getD (l.next:Int)))
  if L.2.2≠0 then ([],L.2.2) else
  let T:=qU LF l (i+1) r
  if T.2≠0 then ([],T.2) else ((if L.2.1 then [(i,L.1)] else [])++T.1,0)
def qV (LF:List UInt8→List UInt8×Int)(l:kR):List qT×Int:=qU LF l 0 l.segs
def qW (l:kR)(A:List qT):bI:=A.foldl (λs x=>s.set x.1 (l.gen+1,((l.segs[x.1]?).getD (0,0)).2)) l.segs
def qX (l:kR)(A:List qT):List (List UInt8×List UInt8):=
 A.map λx=>(b9 (l.gen+1) ((l.segs[x.1]?).getD (0,0)).2,iR ((l.segs[x.1]?).getD (0,0)).2.toNat x.2)
def qY (fs:List (List UInt8×List UInt8)):List (cZ→cZ×Int):=fs.flatMap λf=>[λst=>ee st f.1,λst=>eR st f.1 f.2,λst=>eD st f.1]
def goS (ns:List (List UInt8)):List (cZ→cZ×Int):=ns.map λn st=>eh st n
def qZ (l:kR)(A:List qT):List (List UInt8):=A.map λx=>gu ((l.segs[x.1]?).getD (0,0))
def q9:Cfg:=⟨64,1,3⟩
def rh (v t:Nat):List UInt8:=[UInt8.ofNat v,1,20,UInt8.ofNat (if v=3 then t*10 else t)]
def ri (p:List UInt8):List UInt8×Int:=match p with
 | [3,1,20,n]=>([3,1,20,n],0)
 | [1,1,20,n]=>([3,1,20,UInt8.ofNat (n.toNat*10)],0)
 | _=>([],43)
def rj:cZ:=⟨[],5000,-1,false⟩
def mxD1:cZ:=⟨mX 0,5000,-1,false⟩
def mxV (i:Nat):Nat:=if i / 2 % 2=1 then 1 else 3
def mxA:Nat→(cZ×kR)×Int
 | 0=>((mxD1,mU q9 0),0)
 | i+1=>ls (mxA i).1.1 (mxA i).1.2 (rh (mxV i) (i+1))
def mxS:cZ×Int:=ln (mxA 8).1.1 (mxA 8).1.2
def rk:kR:=⟨q9,0,[(0,0),(0,2),(0,4),(0,6)],[(0,[rh 3 1,rh 3 2]),(2,[rh 1 3,rh 1 4]),(4,[rh 3 5,rh 3 6]),(6,[rh 1 7,rh 1 8])]⟩
def mxK:kR:=⟨q9,1,[(0,0),(1,2),(0,4),(1,6)],[(0,[rh 3 1,rh 3 2]),(2,[rh 3 3,rh 3 4]),(4,[rh 3 5,rh 3 6]),(6,[rh 3 7,rh 3 8])]⟩
theorem rl:(List.range 9).all (λi=>decide ((mxA i).2=0) && decide ((mxA i).1.2.next=i))=true∧pX (mxA 8).1.2 rk=true:=by decide +kernel
end
section
open Go.RowKit
theorem yJ (w:World)(hk:uL w)(q cq lb:Nat)(v:Int)(hv:v=1∨v=2∨v=3)(n:Int)(h1:1≤n)(h2:n≤1000)(h c:Nat)(hr:yy w q v h c n)(hl:w.cell? ⟨lb,0,none⟩=some (.slice (some ⟨q,0,none⟩) 1 cq)) :
  Calls prog 284 #[uX v h c,.pointer (some ⟨lb,0,none⟩)] w λe w'=>e = .returned (.bool false)∧Below w.heap.size w w':=by
 obtain⟨W0,hW0⟩:∃W0,W0=(w.alloc (.cells #[.int .u8 v,.int .u8 20,.slice (some ⟨h,0,none⟩) 1 c,.slice none 0 0] 189)):=⟨_,rfl⟩;have hb0:Below w.heap.size w W0:=by rw[hW0];exact(Below.refl _ _).alloc (Nat.le_refl _) _
 have k0:W0.heap[w.heap.size]?=some (.cells #[.int .u8 v,.int .u8 20,.slice (some ⟨h,0,none⟩) 1 c,.slice none 0 0] 189 (0,0)):=by rw[hW0];exact heap_alloc_new _ _
 obtain⟨x0,x1,x2,x3,_⟩:=uY k0;have l0:=vd hl hb0;have c0:=(hr.pure hb0).c0;have HM:=hid (ve W0.drew (⟨(hk.pure hb0).k0,(hk.pure hb0).k1,(hk.pure hb0).k2,(hk.pure hb0).k3,(hk.pure hb0).k4⟩) v hv n h1 h2 h c (show W0.cell? ⟨h,0,none⟩=_ from(hr.pure hb0).n));have HB0:=hid hb0;clear hk hv h1 h2 hr hl hb0 k0;have dx0:W0.drew.cell? ⟨w.heap.size,0,none⟩=_:=x0;have dx1:W0.drew.cell? ⟨w.heap.size,1,none⟩=_:=x1;have dx2:W0.drew.cell? ⟨w.heap.size,2,none⟩=_:=x2;have dx3:W0.drew.cell? ⟨w.heap.size,3,none⟩=_:=x3;have dl0:W0.drew.cell? ⟨lb,0,none⟩=_:=l0;have dc0:W0.drew.cell? ⟨q,0,none⟩=_:=c0;have hbd:Below w.heap.size W0 W0.drew:=(Below.refl _ _).drew
 go_enter func284,ntmps284
 go_wp2_with fail
 rw[← hW0];clear hW0
 go_region_held3 (λw'=>w'.cell? ⟨w.heap.size,0,none⟩=some (.int .u8 v)∧w'.cell? ⟨w.heap.size,1,none⟩=some (.int .u8 20)∧w'.cell? ⟨w.heap.size,2,none⟩=some (.slice (some ⟨h,0,none⟩) 1 c)∧w'.cell? ⟨w.heap.size,3,none⟩=some (.slice none 0 0)∧w'.cell? ⟨lb,0,none⟩=some (.slice (some ⟨q,0,none⟩) 1 cq)∧w'.cell? ⟨q,0,none⟩=some (.int .u8 v)) (first|with_reducible exact⟨x0,x1,x2,x3,l0,c0⟩|with_reducible exact⟨y0,y1,y2,y3,l1,c1⟩|with_reducible exact⟨dx0,dx1,dx2,dx3,dl0,dc0⟩|go_keep) (first
  | (go_at_call 216;refine HM.out.mono ?_;rintro e w1 ⟨rfl,hb1⟩;have y0:=vd dx0 hb1;have y1:=vd dx1 hb1;have y2:=vd dx2 hb1;have y3:=vd dx3 hb1;have l1:=vd dl0 hb1;have c1:=vd dc0 hb1;have HB1:=hid (HB0.out.trans (hbd.trans (hb1.mono HB0.out.size)));clear hb1))
 go_wp2;go_ret;exact⟨rfl,HB1.out⟩
theorem yK (w:World)(hk:uL w)(q cq:Nat)(v:Int)(hv:v=1∨v=2∨v=3)(n:Int)(h1:1≤n)(h2:n≤1000)(h c:Nat)(hr:yy w q v h c n) :
  Calls prog 210 #[.slice (some ⟨q,0,none⟩) 1 cq] w λe w'=>e = .returned (.bool true)∧Below w.heap.size w w':=by
 have hmf:∀(fn:Fn) (first cap:Array Value) (w:World),(Instr.makeFunc fn first cap).run prog w = .ok (.func fn first cap) w:=λ_ _ _ _=>rfl;obtain⟨W0,hW0⟩:∃W0,W0=w.alloc (.cells #[.slice (some ⟨q,0,none⟩) 1 cq] 190):=⟨_,rfl⟩;have hb0:Below w.heap.size w W0:=by rw[hW0];exact(Below.refl _ _).alloc (Nat.le_refl _) _
 have k0:W0.cell? ⟨w.heap.size,0,none⟩=some (.slice (some ⟨q,0,none⟩) 1 cq):=by rw[hW0];exact(cell_of_row _ _ _ _ _ _ (heap_alloc_new _ _)).trans rfl
 have HC:=hid (yA W0 q cq v h c n (hr.pure hb0) 284 (λ_ _=>rfl) #[.pointer (some ⟨w.heap.size,0,none⟩)] (λW hb=>yJ W ((hk.pure hb0).pure hb) q cq w.heap.size v hv n h1 h2 h c ((hr.pure hb0).pure hb) (vd k0 hb)));have HB0:=hid hb0;clear hk hv h1 h2 hr hb0 k0
 go_enter func210,ntmps210
 go_wp2_with fail
 rw[← hW0];clear hW0;refine HC.out.mono ?_;rintro e w1 ⟨rfl,hb1⟩;have HB1:=hid (HB0.out.trans (hb1.mono HB0.out.size));clear hb1;go_wp2;go_ret;exact⟨rfl,HB1.out⟩
theorem yL (w:World)(hk:uL w)(q cq:Nat)(v:Nat)(hv:v=1∨v=2∨v=3)(n:Nat)(h1:1≤n)(h2:n≤100)(h c:Nat)(hr:yy w q (v:Int) h c (n:Int)) :
  Calls prog 159 #[.slice (some ⟨q,0,none⟩) 1 cq] w λe w'=>(∃r:ByteArray,r.data.toList=[UInt8.ofNat v,1,20,UInt8.ofNat n]∧e = .returned (.tuple #[.string r,.int .i64 0]))∧Below w.heap.size w w':=by
 have HV:=hid (show((v:Int)=1∨(v:Int)=2∨(v:Int)=3)∧v<256 from by omega);have HR:=hid hr;have HK:=hid hk;clear hk hv hr
 go_enter func159,ntmps159
 go_wp2_with fail
 refine(yK w HK.out q cq v HV.out.1 n (by omega) (by omega) h c HR.out).mono ?_;rintro e w1 ⟨rfl,hb1⟩;have HB1:=hid hb1;have hr1:=HR.out.pure hb1;have HK1:=hid (HK.out.pure hb1);clear hb1;obtain⟨W0,hW0⟩:∃W0,W0=w1.alloc (.cells #[.slice none 0 0] 180):=⟨_,rfl⟩;have hb0:Below w1.heap.size w1 W0:=by rw[hW0];exact(Below.refl _ _).alloc (Nat.le_refl _) _
 have hw0:aN W0 w1.heap.size (.slice none 0 0) []:=by rw[hW0];exact aN.fresh _
 have HR0:=hid (hr1.pure hb0);have HK0:=hid (HK1.out.pure hb0);have HB0:=hid (HB1.out.trans (hb0.mono HB1.out.size));have HW0:=hid hw0;have HQ:=hid (show q<w1.heap.size∧h<w1.heap.size∧KB<w1.heap.size from⟨aw hr1.c0,aw hr1.n,HK1.out.lt⟩);obtain⟨x0,x1,x2,x3,x4,_⟩:=hr1;have g0:∀o,(w1.alloc o).cell? ⟨q,0,none⟩=some (.int .u8 (v:Int)):=λo=>vd x0 ((Below.refl _ _).alloc (Nat.le_refl _) _);clear hb0 hw0 x0 x1 x2 x3 x4
 go_wp2_with fail
 rw[← hW0];clear hW0 g0;refine(un v w1.heap.size (.slice none 0 0) [] W0 HV.out.2 HW0.out (by simp)).mono ?_;rintro e w2 ⟨rfl,v2,h2'⟩;have HW2:=hid h2';clear h2'
 go_wp2_with fail
 refine(show Calls prog 212 #[.pointer (some ⟨w1.heap.size,0,none⟩),.int .u64 1] w2 _ from uo 1 w1.heap.size v2 _ w2 (by omega) HW2.out.is (by simp)).mono ?_;rintro e w3 ⟨rfl,v3,h3⟩;have HW3:=hid (HW2.out.trans h3);have hne:q≠w1.heap.size∧h≠w1.heap.size:=by have:=HQ.out;omega
 have x0:=HW3.out.cell HR0.out.c0 hne.1;have x1:=HW3.out.cell HR0.out.c1 hne.1;have x2:=HW3.out.cell HR0.out.c2 hne.1;have x3:=HW3.out.cell HR0.out.c3 hne.1;have x4:=HW3.out.cell HR0.out.n hne.2;have HX4:=hid x4;have HK3:=hid (HK0.out.kept HW3.out.fr (λe=>by have:=HQ.out;rcases e with e|e;omega;cases e));have HV3:=hid (show v3.ownBlock≠some h from λe=>by
  have hq:=HQ.out;have hlt:=HW0.out.lt
  rcases HW3.out.went with e2|⟨g,e2,hg⟩
  ·rw[e2]at e;cases e
  ·rw[e2]at e;cases e;omega)
 clear h3 hne x4
 go_wp2_with fail
 refine wp_loop_rounds 2 ?_;rw[rounds_succ]
 go_wp2_with fail
 obtain⟨W4,hW4⟩:∃W4,W4=w3.alloc (.cells #[.int .u8 (v:Int),.int .u8 20,.slice (some ⟨h,0,none⟩) 1 c,.slice none 0 0] 189):=⟨_,rfl⟩;have hb4:Below w3.heap.size w3 W4:=by rw[hW4];exact(Below.refl _ _).alloc (Nat.le_refl _) _
 have hs1:qC 1=[1]:=xT 1 (by omega);have HW4:=hid (show aO w1.heap.size W0 W4 (.slice none 0 0) v3 [UInt8.ofNat v,1]from by
  have h:=HW3.out.alloc (.cells #[.int .u8 (v:Int),.int .u8 20,.slice (some ⟨h,0,none⟩) 1 c,.slice none 0 0] 189);rw[← hW4,hs1]at h;exact h)
 rw[← hW4];clear hW4 hs1 x0 x1 x2 x3;refine(xU W4 (HK3.out.pure hb4) w1.heap.size v3 [UInt8.ofNat v,1] HW4.out.is (by simp) (v:Int) HV.out.1 n h1 h2 h c (vd HX4.out hb4) (by have:=HQ.out;omega) HV3.out).mono ?_;rintro e w5 ⟨rfl,v5,h5⟩;have HW5:=hid (HW4.out.trans h5);clear h5 hb4;go_wp2;rw[rounds_succ]
 go_wp2_with fail
 refine(aZ w1.heap.size v5 _ w5 HW5.out.is).mono ?_;rintro e w6 ⟨r,hr,rfl,rfl⟩;have HRR:=hid hr;clear hr;go_wp2;exact bodyPost_ret (v:=.tuple #[.string r,.int .i64 0]) (by simp[results,results159,go_sem]) rfl ⟨⟨r,HRR.out,rfl⟩,HB0.out.trans (HW5.out.fr.below HB0.out.size (λk hk e=>by have:=HB1.out.size;rcases e with e|e;omega;cases e))⟩
def yM (v n:Nat):List UInt8:=[UInt8.ofNat v,1,20,UInt8.ofNat n]
theorem yN (w:World)(hk:uL w)(q cq:Nat)(n m t:Nat)(h1:1≤n)(h2:n≤100)(m1:1≤m)(m2:m≤100)(ht:t=1∨t=2∨t=3)(h c:Nat)(hr:yy w q 3 h c (n:Int))
  (hto:∀W,Below w.heap.size w W→yD 219 #[uX 3 h c,.int .u8 (t:Int)] W (t:Int) (m:Int)) :
  Calls prog 119 #[.slice (some ⟨q,0,none⟩) 1 cq,.int .u8 (t:Int)] w λe w'=>(∃r:ByteArray,r.data.toList=yM t m∧e = .returned (.tuple #[.string r,.int .i64 0]))∧Below w.heap.size w w':=by
 have HR:=hid hr;have HK:=hid hk;have HTO:=hid hto;have HT:=hid ht;clear hk hr hto ht
 go_enter func119,ntmps119
 go_wp2_with fail
 refine(yL w HK.out q cq 3 (.inr (.inr rfl)) n h1 h2 h c HR.out).mono ?_;rintro e w1 ⟨⟨r,_,rfl⟩,hb1⟩;have HB1:=hid hb1;clear hb1
 go_wp2_with fail
 refine(yI w1 (HK.out.pure HB1.out) q cq h c n (by omega) (by omega) (HR.out.pure HB1.out) (t:Int) (m:Int) (by have:=HT.out;omega) (λW hb=>HTO.out W (HB1.out.trans (hb.mono HB1.out.size)))).mono ?_;rintro e w2 ⟨⟨g,d,h',c',rfl,hr2⟩,hb2⟩;have HR2:=hid hr2;have HB2:=hid (HB1.out.trans (hb2.mono HB1.out.size));have HK2:=hid ((HK.out.pure HB1.out).pure hb2);clear hr2 hb2
 go_wp2_with fail
 refine(yL w2 HK2.out g d t HT.out m m1 m2 h' c' HR2.out).mono ?_;rintro e w3 ⟨⟨r3,hr3,rfl⟩,hb3⟩;have HR3:=hid hr3;have HB3:=hid (HB2.out.trans (hb3.mono HB2.out.size));clear hr3 hb3;go_wp2;exact bodyPost_ret (v:=.tuple #[.string r3,.int .i64 0]) (by simp[results,results119,go_sem]) rfl ⟨⟨r3,HR3.out,rfl⟩,HB3.out⟩
end
section
open Go.RowKit Go.Sort Go.Shelf
theorem BS (w:World):Calls prog 298 #[.slice none 0 0] w λe w'=>e = .returned (.tuple #[])∧w'=w:=
 AnyM.slices_Sort_int_none Tryz.laysSlM5X none 0 w
theorem BT (w:World):Calls prog 299 #[.slice none 0 0] w λe w'=>e = .returned (.slice none 0 0)∧w=w':=by
 go_enter func299,ntmps299
 go_wp2;go_ret;exact⟨rfl,rfl⟩
theorem BU (w:World)(fv:Value):Calls prog 293 #[.slice none 0 0,fv] w λe w'=>e = .returned (.bool true)∧w=w':=by
 go_enter func293,ntmps293
 go_wp2
 go_loopw [5] (λi wr=>i = .int .i64 1∧wr=w) (λ_ _=>0)
 case atStart=>exact⟨rfl,rfl⟩
 case round=>
  obtain⟨rfl,rfl⟩:=hrel;go_wp2;go_ret;exact⟨rfl,rfl⟩
theorem BV (w:World)(fv:Value):Calls prog 295 #[.slice none 0 0,fv] w λe w'=>e = .returned (.bool true)∧w=w':=by
 go_enter func295,ntmps295
 go_wp2
 go_loopw [5] (λi wr=>i = .int .i64 1∧wr=w) (λ_ _=>0)
 case atStart=>exact⟨rfl,rfl⟩
 case round=>
  obtain⟨rfl,rfl⟩:=hrel;go_wp2;go_ret;exact⟨rfl,rfl⟩
theorem BZ (w:World):Calls prog 223 #[.slice none 0 0,.slice none 0 0] w λe w'=>e = .returned (.bool true)∧Below w.heap.size w w':=by
 have hmf:∀(fn:Fn) (first cap:Array Value) (w:World),(Instr.makeFunc fn first cap).run prog w = .ok (.func fn first cap) w:=λ_ _ _ _=>rfl
 go_enter func223,ntmps223
 go_wp2_with fail
 refine(BU w _).mono ?_;rintro e w1 ⟨rfl,rfl⟩
 go_wp2_with fail
 refine(BV w _).mono ?_;rintro e w1 ⟨rfl,rfl⟩;go_wp2
 go_loopw [5,28] (λl i wr=>l = .slice none 0 0∧i = .int .i64 0∧wr=w) (λ_ _ _=>0)
 case atStart=>exact⟨rfl,rfl,rfl⟩
 case round=>
  obtain⟨rfl,rfl,rfl⟩:=hrel
  go_wp2_with fail
  refine(BS _).mono ?_;rintro e w1 ⟨rfl,rfl⟩
  go_wp2_with fail
  refine(BT _).mono ?_;rintro e w1 ⟨rfl,rfl⟩
  go_wp2_with fail
  refine(AN _ _).mono ?_;rintro e w1 ⟨rfl,rfl⟩;go_wp2;go_ret;exact⟨rfl,Below.refl _ _⟩
theorem Ca (w:World):Calls prog 224 #[.slice none 0 0] w λe w'=>e = .returned (.bool true)∧Below w.heap.size w w':=by
 go_enter func224,ntmps224
 go_wp2
 go_loopw [8] (λi wr=>i = .int .i64 0∧wr=w) (λ_ _=>0)
 case atStart=>exact⟨rfl,rfl⟩
 case round=>
  obtain⟨rfl,rfl⟩:=hrel;go_wp2;go_ret;exact⟨rfl,Below.refl _ _⟩
theorem Cb (w:World):Calls prog 225 #[.slice none 0 0] w λe w'=>e = .returned (.bool true)∧Below w.heap.size w w':=by
 have hmm:=@run_makeMap prog
 go_enter func225,ntmps225
 go_wp2
 go_loopw [12] (λi wr=>i = .int .i64 0∧Hid (Below w.heap.size w wr)) (λ_ _=>0)
 case atStart=>exact⟨rfl,hid ((Below.refl _ _).alloc (Nat.le_refl _) _)⟩
 case round=>
  obtain⟨rfl,HB⟩:=hrel;go_wp2;go_ret;exact⟨rfl,HB.out⟩
theorem Cc (w:World):Calls prog 168 #[A5] w λe w'=>e = .returned (.bool true)∧Below w.heap.size w w':=by
 unfold A5
 go_enter func168,ntmps168
 go_wp2_with fail
 refine(BZ _).mono ?_;rintro e w1 ⟨rfl,hb1⟩;have c2:=AV hb1 2 _ rfl;have HB1:=hid hb1;clear hb1
 go_wp2_with fail
 refine(Ca _).mono ?_;rintro e w2 ⟨rfl,hb2⟩;have HB2:=hid (AY HB1.out hb2);have c3:=AV HB2.out 3 _ rfl;clear hb2
 go_wp2_with fail
 refine(Cb _).mono ?_;rintro e w3 ⟨rfl,hb3⟩;have HB3:=hid (AY HB2.out hb3);clear hb3;go_wp2;go_ret;exact⟨rfl,AW HB3.out⟩
end
section
theorem yO:∀n:Fin 101,1≤n.val→∀v:Fin 4,
  ((⟨0,0,0⟩:bc).fixed (yM v n) 1).1=v.val∧((⟨0,0,0⟩:bc).fixed (yM v n) 1).2.at_=1∧((⟨0,0,0⟩:bc).fixed (yM v n) 1).2.e=0∧((⟨0,0,0⟩:bc).fixed (yM v n) 1).2.tow=0 ∧
  ((⟨1,0,0⟩:bc).short (yM v n) 40).1=1∧((⟨1,0,0⟩:bc).short (yM v n) 40).2.at_=2∧((⟨1,0,0⟩:bc).short (yM v n) 40).2.e=0∧((⟨1,0,0⟩:bc).short (yM v n) 40).2.tow=0 ∧
  ((⟨2,0,0⟩:bc).fixed (yM v n) 1).1=20∧((⟨2,0,0⟩:bc).fixed (yM v n) 1).2.at_=3∧((⟨2,0,0⟩:bc).fixed (yM v n) 1).2.e=0∧((⟨2,0,0⟩:bc).fixed (yM v n) 1).2.tow=0 ∧
  (∀h∈[1099511627776,109951162777],((⟨3,0,0⟩:bc).short (yM v n) h).1=n.val∧((⟨3,0,0⟩:bc).short (yM v n) h).2.at_=4∧((⟨3,0,0⟩:bc).short (yM v n) h).2.e=0∧((⟨3,0,0⟩:bc).short (yM v n) h).2.tow=0):=by decide +kernel
theorem yP {r:Nat×bc}{m a:Nat}(h1:r.1=m)(h2:r.2.at_=a)(h3:r.2.e=0)(h4:r.2.tow=0):r=(m,⟨a,0,0⟩):=by
 obtain⟨x,⟨y,z,u⟩⟩:=r;dsimp only at h1 h2 h3 h4;subst h1 h2 h3 h4;rfl
structure MvRd (v n:Nat):Prop where
 r0:(⟨0,0,0⟩:bc).fixed (yM v n) 1=(v,⟨1,0,0⟩)
 r1:(⟨1,0,0⟩:bc).short (yM v n) 40=(1,⟨2,0,0⟩)
 r2:(⟨2,0,0⟩:bc).fixed (yM v n) 1=(20,⟨3,0,0⟩)
 r3:(⟨3,0,0⟩:bc).short (yM v n) (uT (v:Int)).toNat=(n,⟨4,0,0⟩)
theorem yQ {v n:Nat}(hv:v=1∨v=3)(h1:1≤n)(h2:n≤100):MvRd v n:=by
 have h:=yO ⟨n,by omega⟩ h1 ⟨v,by omega⟩;dsimp only at h;obtain⟨a1,a2,a3,a4,b1,b2,b3,b4,c1,c2,c3,c4,d⟩:=h;refine⟨yP a1 a2 a3 a4,yP b1 b2 b3 b4,yP c1 c2 c3 c4,?_⟩;have hh:(uT (v:Int)).toNat∈[1099511627776,109951162777]:=by rcases hv with rfl|rfl<;>decide
 obtain⟨d1,d2,d3,d4⟩:=d _ hh;exact yP d1 d2 d3 d4
theorem yR:(⟨0,0,0⟩:bc).fixed [110,111,32,98,97,116,99,104] 1=(110,⟨1,0,0⟩):=yP (by decide +kernel) (by decide +kernel) (by decide +kernel) (by decide +kernel)
end
end Go.Proofs.YthjjgcfdhkhelaaGreatDoor
