/- The walks of Read, Cut, Up, Rename, Append. -/
import Derived.Test.YtaeakdichkhjaaaGreatDoorQAc
set_option maxHeartbeats 1500000
open Go.Lib(hid)
namespace Go.Proofs.YtaeakdichkhjaaaGreatDoor
section
open Go.RowKit Go.Maps
theorem dE {w w':World}{b:Nat}(h:w.mapTurned w' b):Fr (λk=>k=b) w w':=
 ⟨h.grown.os,h.grown.tape,h.grown.output,h.grown.size,λk hk hs=>h.grown.block k hk (λe=>hs (Option.some.inj e))⟩
theorem IsDk.setLeft {w:World}{p b:Nat}{st:DkSt}(h:IsDk w p b st)(n:Int)(h0 : -1≤n)(h1:n≤9223372036854775807):IsDk (w.setCell ⟨p,2,none⟩ (.int .i64 n)) p b { st with left:=n }:=
 ⟨by rw[heap_setCell_same w p 2 _ _ _ h.cell];rfl,h.own.setCell (by show b≠p;exact h.ne) _,⟨h.ok.fs,h.ok.cap0,h.ok.cap1,h.ok.fits,h0,h1⟩⟩
theorem IsDk.setDark {w:World}{p b:Nat}{st:DkSt}(h:IsDk w p b st)(d:Bool):IsDk (w.setCell ⟨p,3,none⟩ (.bool d)) p b { st with dark:=d }:=
 ⟨by rw[heap_setCell_same w p 3 _ _ _ h.cell];rfl,h.own.setCell (by show b≠p;exact h.ne) _,⟨h.ok.fs,h.ok.cap0,h.ok.cap1,h.ok.fits,h.ok.left0,h.ok.left1⟩⟩
theorem dF {w:World}(a:Addr)(u:Value):Fr (λk=>k=a.block) w (w.setCell a u):=(Fr.refl (λk=>k=a.block) w).setCell a (λ_=>rfl) u
def dec (n:Int):Int:=if n = -1 then -1 else n-1
set_option maxRecDepth 100000 in
theorem dG (fk:FuncId)(caps:Array Value)(w:World)(p b:Nat)(st:DkSt)(h:IsDk w p b st)(hent:Enters Tryz.prog fk)(Q:World→Prop)
  (hact:st.left≠0→∀w1,Fr (λk=>k=p) w w1→w1.heap.size=w.heap.size→IsDk w1 p b { st with left:=dec st.left }→Calls Tryz.prog fk caps w1 λe w2=>e = .returned (.tuple #[])∧Q w2) :
  Calls Tryz.prog 55 #[.pointer (some ⟨p,0,none⟩),.func (.func fk) #[] caps] w λe w'=>
   (st.left=0∧e = .returned (.int .i64 45)∧Fr (λk=>k=p) w w'∧IsDk w' p b { st with dark:=true })∨(st.left≠0∧e = .returned (.int .i64 0)∧Q w'):=by
 have he:∀(args:Array Value) (w:World),(callFunc fk args).run Tryz.prog w = .ok (.enter fk args) w:=hent;have hp:=h.lt;obtain⟨c0,c1,c2,c3⟩:=h.cs;have z3:=h.fz 3;have z2:=h.fz 2;by_cases h0:st.left=0
 ·have HD:=hid (h.setDark true)
  have H0:=hid h0;clear hact h;rw[h0]at c2;clear h0
  go_enter Tryz.func55,Tryz.ntmps55
  go_wp2;go_ret;exact .inl ⟨H0.out,rfl,dF ⟨p,3,none⟩ _,HD.out⟩
 ·by_cases h1:st.left = -1
  ·have HA:=hid (hact h0 w (Fr.refl _ _) rfl (by rw[h1];have:=h;cases st;simp only at h1;subst h1;exact this))
   have H0:=hid h0;clear hact h;rw[h1]at c2;clear h0 h1
   go_enter Tryz.func55,Tryz.ntmps55
   go_wp2_with fail
   refine HA.out.mono ?_;rintro e w2 ⟨rfl,hq⟩;have HQ:=hid hq;clear hq;go_wp2;go_ret;exact .inr ⟨H0.out,rfl,HQ.out⟩
  ·have hl0:=h.ok.left0
   have hl1:=h.ok.left1;have HA:=hid (hact h0 _ (dF ⟨p,2,none⟩ (.int .i64 (st.left-1))) (by simp) (by
    rw[show dec st.left=st.left-1 from by unfold dec;rw[if_neg h1]];exact h.setLeft _ (by omega) (by omega)))
   have H0:=hid h0;clear hact h
   go_enter Tryz.func55,Tryz.ntmps55
   go_wp2_with fail
   refine HA.out.mono ?_;rintro e w2 ⟨rfl,hq⟩;have HQ:=hid hq;clear hq;go_wp2;go_ret;exact .inr ⟨H0.out,rfl,HQ.out⟩
theorem dH {w:World}{b n:Nat}{fs:Fs}(h:w.ownsMap Tryz.prog 9 cB b n (fsD fs)):fs.Pairwise (λf g=>bytesBefore f.name g.name=true):=by
 obtain⟨es,clock,_,F,_,e⟩:=h;have h1:=WideShapes.rising_pairwise _ (fit_rising Tryz.strKey F);have e3:(DataW.map (fs.map cA):DataW Unit)=fsD fs:=rfl;rw[e]at e3;have e2:=DataW.map.inj e3;rw[← e2,List.pairwise_map]at h1;exact h1
theorem dI (f:FileS)(fs:Fs):cT (f::fs)=(f.firm.length+f.pend.length)+cT fs:=by simp[cT]
theorem dJ {f g:FileS}{fs:Fs}:g∈cG f fs↔g=f∨g∈fs:=by
 induction fs with
 | nil=>simp[cG]
 | cons h r ih=>
  unfold cG
  split
  ·simp
  ·simp only[List.mem_cons,ih]
   constructor
   ·rintro(h|h|h)<;>simp[h]
   ·rintro(h|h|h)<;>simp[h]
theorem dK (f:FileS)(fs:Fs):(cG f fs).length=fs.length+1:=by
 induction fs with
 | nil=>rfl
 | cons h r ih=>unfold cG;split<;>simp[ih]
theorem dL (f:FileS)(fs:Fs):cT (cG f fs)=(f.firm.length+f.pend.length)+cT fs:=by
 induction fs with
 | nil=>rfl
 | cons h r ih=>
  unfold cG
  split
  ·exact dI _ _
  ·rw[dI,ih,dI];omega
theorem dM {g:FileS}{fs:Fs}{n:List UInt8}:g∈cH fs n↔g∈fs∧g.name≠n:=by
 unfold cH;rw[List.mem_filter];simp
theorem dN (fs:Fs)(n:List UInt8):(cH fs n).length≤fs.length:=List.length_filter_le _ _
theorem dO (fs:Fs)(n:List UInt8):cT (cH fs n)≤cT fs:=by
 induction fs with
 | nil=>simp[cH]
 | cons g r ih=>
  unfold cH at ih ⊢;rw[List.filter_cons,dI]
  split
  ·rw[dI];omega
  ·omega
theorem dP {fs:Fs}{n:List UInt8}(h:cJ fs n=none):cH fs n=fs:=by
 unfold cH;rw[List.filter_eq_self];intro g hg;have:=List.find?_eq_none.1 h g hg;simpa using this
theorem dQ {fs:Fs}(hp:fs.Pairwise (λf g=>f.name≠g.name)){n:List UInt8}{f:FileS}(h:cJ fs n=some f):cT (cH fs n)+(f.firm.length+f.pend.length)=cT fs∧(cH fs n).length+1=fs.length:=by
 induction fs with
 | nil=>simp[cJ]at h
 | cons g r ih=>
  obtain⟨h1,h2⟩:=List.pairwise_cons.1 hp;unfold cJ at h;rw[List.find?_cons]at h;unfold cH;rw[List.filter_cons];by_cases e:g.name=n
  ·rw[show(g.name == n)=true from by simp[e]]at h ⊢
   have hgf:g=f:=Option.some.inj h;subst hgf;have hr:r.filter (λg=>!(g.name == n))=r:=by
    rw[List.filter_eq_self];intro x hx;have:x.name≠n:=λe2=>h1 x hx (e.trans e2.symm);simpa using this
   rw[if_neg (by simp),hr,dI];exact⟨by omega,rfl⟩
  ·rw[show(g.name == n)=false from by simpa using e]at h ⊢
   have:=ih h2 h;rw[if_pos (by rfl),dI,dI,List.length_cons,List.length_cons];unfold cH at this;exact⟨by omega,by omega⟩
structure FsKeep (fs:Fs):Prop where
 few:fs.length≤64
 small:∀f∈fs,f.firm.length+f.pend.length≤1048576
 names:∀f∈fs,f.name.length≤24
theorem FsOk.keep {fs:Fs}(h:FsOk fs):FsKeep fs:=⟨h.few,h.small,h.names⟩
theorem FsKeep.del {fs:Fs}(h:FsKeep fs)(n:List UInt8):FsKeep (cH fs n):=
 ⟨Nat.le_trans (dN _ _) h.few,λf hf=>h.small f (dM.1 hf).1,λf hf=>h.names f (dM.1 hf).1⟩
theorem FsKeep.put {fs:Fs}(h:FsKeep fs){f:FileS}(hl:(cH fs f.name).length<64)(hs:f.firm.length+f.pend.length≤1048576)(hn:f.name.length≤24):FsKeep (cI fs f):=by
 refine⟨by unfold cI;rw[dK];omega,?_,?_⟩<;>intro g hg<;>unfold cI at hg<;>rw[dJ,dM]at hg<;>rcases hg with rfl|hg
 ·exact hs
 ·exact h.small g hg.1
 ·exact hn
 ·exact h.names g hg.1
theorem dR (fs:Fs)(f:FileS):cT (cI fs f)=(f.firm.length+f.pend.length)+cT (cH fs f.name):=by unfold cI;rw[dL]
theorem IsDk.turned {w w':World}{p b n:Nat}{st:DkSt}{fs':Fs}(h:IsDk w p b st)(own:w'.ownsMap Tryz.prog 9 cB b n (fsD fs'))(ht:w.mapTurned w' b)(hk:FsKeep fs')(hf:(cT fs':Int)≤st.cap):IsDk w' p b { st with fs:=fs' }:=
 ⟨(dE ht).heapAt h.cell (λe=>h.ne e.symm),(by have:=cX own;rw[cR]at this;exact this),⟨⟨dH own,hk.few,hk.small,hk.names⟩,h.ok.cap0,h.ok.cap1,hf,h.ok.left0,h.ok.left1⟩⟩
theorem IsDk.fewer {w:World}{p b:Nat}{st:DkSt}(h:IsDk w p b st):st.fs.length<maxLen:=by have:=h.ok.fs.few;unfold maxLen;omega
abbrev DFr (p b:Nat):World→World→Prop:=Fr (λk=>k=p∨k=b)
theorem Fr.toD {p b:Nat}{w w':World}(h:Fr (λk=>k=b) w w'):DFr p b w w':=h.mono (λ_ _ e=>.inr e)
theorem Fr.toD1 {p b:Nat}{w w':World}(h:Fr (λk=>k=p) w w'):DFr p b w w':=h.mono (λ_ _ e=>.inl e)
theorem dS {f:FileS}{r:Fs}{n:List UInt8}(h:f.name≠n):cJ (f::r) n=cJ r n:=by
 unfold cJ;rw[List.find?_cons,show(f.name == n)=false from by simpa using h]
theorem dT {f:FileS}{r:Fs}:cJ (f::r) f.name=some f:=by
 unfold cJ;rw[List.find?_cons,show(f.name == f.name)=true from by simp]
theorem dU {f:FileS}{n:List UInt8}(h:f.name≠n)(fs:Fs):cJ (cG f fs) n=cJ fs n:=by
 induction fs with
 | nil=>exact dS h
 | cons g r ih=>
  unfold cG
  split
  ·exact dS h
  ·by_cases hg:g.name=n
   ·subst hg;rw[dT,dT]
   ·rw[dS hg,dS hg,ih]
theorem dV {f:FileS}{fs:Fs}(h:cJ fs f.name=none):cJ (cG f fs) f.name=some f:=by
 induction fs with
 | nil=>exact dT
 | cons g r ih=>
  unfold cG
  split
  ·exact dT
  ·by_cases hg:g.name=f.name
   ·rw[← hg,dT]at h;cases h
   ·rw[dS hg]at h ⊢;exact ih h
theorem dW {n m:List UInt8}(h:m≠n)(fs:Fs):cJ (cH fs m) n=cJ fs n:=by
 induction fs with
 | nil=>rfl
 | cons g r ih=>
  by_cases hg:g.name=m
  ·rw[show cH (g::r) m=cH r m from by unfold cH;rw[List.filter_cons,show(g.name == m)=true from by simpa using hg];rfl,ih,dS (by rw[hg];exact h)]
  ·rw[show cH (g::r) m=g::cH r m from by unfold cH;rw[List.filter_cons,show(g.name == m)=false from by simpa using hg];rfl]
   by_cases hn:g.name=n
   ·subst hn;rw[dT,dT]
   ·rw[dS hn,dS hn,ih]
theorem dX (n:List UInt8)(fs:Fs):cJ (cH fs n) n=none:=by
 unfold cJ cH;rw[List.find?_eq_none];intro g hg;have:=(List.mem_filter.1 hg).2;simpa using this
theorem dY {f:FileS}{n:List UInt8}(h:f.name≠n)(fs:Fs):cJ (cI fs f) n=cJ fs n:=by
 unfold cI;rw[dU h,dW h]
theorem dZ (f:FileS)(fs:Fs):cJ (cI fs f) f.name=some f:=by
 unfold cI;exact dV (dX _ _)
def d9 (st:DkSt)(fs':Fs):DkSt×Int:=if st.left=0 then ({ st with dark:=true },45) else ({ st with left:=dec st.left,fs:=fs' },0)
def ec (p b:Nat)(r:DkSt×Int)(w:World)(e:Ending)(w':World):Prop:=e = .returned (.int .i64 r.2)∧IsDk w' p b r.1∧DFr p b w w'
def ed (p b:Nat)(st:DkSt)(w:World)(e:Ending)(w':World):Prop:=e = .returned (.tuple #[])∧IsDk w' p b st∧DFr p b w w'
def ee (st:DkSt)(n:List UInt8):DkSt×Int:=
 if st.dark then (st,45) else if !cU n then (st,4) else if (cJ st.fs n).isSome then (st,6) else if 64≤st.fs.length then (st,44) else d9 st (cI st.fs ⟨n,[],[]⟩)
def ef (st:DkSt)(n:List UInt8):DkSt×Int:=
 if st.dark then (st,45) else match cJ st.fs n with|none=>(st,5)|some _=>d9 st (cH st.fs n)
theorem eh {n:List UInt8}(h:cU n=true):n.length≤24:=by
 unfold cU at h;simp at h;exact h.1.2
structure Capt (w:World) (q r p:Nat) (n:ByteArray):Prop where
 cq:w.cell? ⟨q,0,none⟩=some (.pointer (some ⟨p,0,none⟩))
 cr:w.cell? ⟨r,0,none⟩=some (.string n)
theorem IsDk.drew {w:World}{p b:Nat}{st:DkSt}(h:IsDk w p b st):IsDk w.drew p b st:=⟨h.cell,h.own,h.ok⟩
set_option maxRecDepth 100000 in
theorem ei (w:World)(q r p b:Nat)(st:DkSt)(n:ByteArray)(hc:Capt w q r p n)(h:IsDk w p b st)(hn:n.size≤24)(hl:st.fs.length<64)(hg:cJ st.fs n.data.toList=none) :
  Calls Tryz.prog 56 #[.pointer (some ⟨q,0,none⟩),.pointer (some ⟨r,0,none⟩)] w λe w'=>ed p b { st with fs:=cI st.fs ⟨n.data.toList,[],[]⟩ } w e w':=by
 have H:=hid h;have hx1:=hc.cq;have hx2:=hc.cr;obtain⟨c0,c1,c2,c3⟩:=h.cs;have HK:=hid (WideMaps.keyOf_string_mk Tryz.underlying9 (Nat.le_trans hn (by unfold maxLen;omega):n.size≤maxLen));have HF:=hid h.fewer;have HE:=hid (show FsKeep (cI st.fs ⟨n.data.toList,[],[]⟩)∧(cT (cI st.fs ⟨n.data.toList,[],[]⟩):Int)≤st.cap from⟨h.ok.fs.keep.put (by show(cH st.fs n.data.toList).length<64;rw[dP hg];exact hl) (by simp) (by rw[am];exact hn),by rw[dR,dP hg];have:=h.ok.fits;simpa using this⟩);clear hc h hn hl hg;obtain⟨w1,hrun,hown1,hturn1⟩:=H.out.drew.own.store (t:=76) (e:=81) Tryz.strKey Tryz.underlying76 HF.out (key:=.string n) (val:=.agg #[.string ⟨#[]⟩,.string ⟨#[]⟩]) HK.out (cD _ _);have HO:=hid (H.out.drew.turned (fs':=cI st.fs ⟨n.data.toList,[],[]⟩) (by rw[← cN];exact hown1) hturn1 HE.out.1 HE.out.2);have HT:=hid (dE hturn1);clear hown1 hturn1
 go_enter Tryz.func56,Tryz.ntmps56
 go_region
 go_wp2
 go_end0
 exact⟨rfl,HO.out,((Fr.refl _ w).drew.trans HT.out).toD⟩
theorem ej (w:World)(o1 o2:Obj):Below w.heap.size w ((w.alloc o1).alloc o2):=((Below.refl _ _).alloc (Nat.le_refl _) _).alloc (by simp) _
theorem el {w w':World}{p:Nat}{n:ByteArray}{S:Nat→Prop}{t1 t2:TypeId}(h:Fr S ((w.alloc (.cells #[.pointer (some ⟨p,0,none⟩)] t1)).alloc (.cells #[.string n] t2)) w')(h1:¬S w.heap.size)(h2:¬S (w.heap.size+1)):Capt w' w.heap.size (w.heap.size+1) p n:=
 ⟨h.cellAt (by rw[World.cell?_alloc_past _ _ _ (by simp),World.cell?_alloc_at _ _ _ _ rfl];rfl) h1,h.cellAt (by rw[World.cell?_alloc_at _ _ _ _ (by simp)];rfl) h2⟩
theorem Capt.fr {S:Nat→Prop}{w w':World}{q r p:Nat}{n:ByteArray}(h:Capt w q r p n)(hf:Fr S w w')(h1:¬S q)(h2:¬S r):Capt w' q r p n:=⟨hf.cellAt h.cq h1,hf.cellAt h.cr h2⟩
theorem en (w:World)(b:Nat)(fs:Fs)(hown:w.ownsMap Tryz.prog 9 cB b fs.length (fsD fs))(n:ByteArray)(hn:n.size≤maxLen) :
  ∃f1 f2,(Instr.lookup 76 (.map (some b)) (.string n) true).run Tryz.prog w = .ok (.tuple #[.agg #[.string f1,.string f2],.bool (cJ fs n.data.toList).isSome]) w:=by
 obtain⟨v,ps,hrun,hv⟩:=hown.look_ok Tryz.strKey Tryz.underlying76 (Tryz.zeroFile w) (cD _ _) (WideMaps.keyOf_string_mk Tryz.underlying9 hn);obtain⟨f1,f2,rfl,hf⟩:=dd hv;rw[cQ]at hrun;exact⟨f1,f2,hrun⟩
set_option maxRecDepth 100000 in
theorem eo (w:World)(p b:Nat)(st:DkSt)(h:IsDk w p b st)(n:ByteArray)(hn:n.size≤maxLen) :
  Calls Tryz.prog 25 #[.pointer (some ⟨p,0,none⟩),.string n] w λe w'=>ec p b (ee st n.data.toList) w e w':=by
 have hmf:∀(fn:Fn) (first cap:Array Value) (w:World),(Instr.makeFunc fn first cap).run Tryz.prog w = .ok (.func fn first cap) w:=λ_ _ _ _=>rfl;have hp:=h.lt;have hbl:=h.own.lt;have HN:=hid (show n.size≤9223372036854775807 from by unfold maxLen at hn;omega);have H:=hid h;have H1:=hid (h.pure (ej w (.cells #[.pointer (some ⟨p,0,none⟩)] 39) (.cells #[.string n] 9)));obtain⟨c0,c1,c2,c3⟩:=H1.out.cs;clear h;cases hd:st.dark
 ·have HD:=hid hd
  clear hd
  go_enter Tryz.func25,Tryz.ntmps25
  go_wp2_with fail
  refine(cY _ p b st H1.out).mono ?_;rintro e w1 ⟨rfl,rfl⟩;rw[HD.out];obtain⟨f1,f2,hr1⟩:=en (((w.alloc (.cells #[.pointer (some ⟨p,0,none⟩)] 39)).alloc (.cells #[.string n] 9)).drew) b st.fs H1.out.drew.own n hn;obtain⟨g1,g2,hr2⟩:=en ((((w.alloc (.cells #[.pointer (some ⟨p,0,none⟩)] 39)).alloc (.cells #[.string n] 9)).alloc (.cells #[.string ⟨#[]⟩,.string ⟨#[]⟩] 81)).drew) b st.fs (H1.out.pure ((Below.refl _ _).alloc (Nat.le_refl _) _)).drew.own n hn;obtain⟨d0,d1,d2,d3⟩:=(H1.out.pure ((Below.refl _ _).alloc (Nat.le_refl _) (.cells #[.string ⟨#[]⟩,.string ⟨#[]⟩] 81))).cs;have D0:=hid d0;clear d1 d2 d3;go_wp2
  go_region
  all_goals (go_wp2_with fail)
  all_goals
   refine(dD n _ HN.out).mono ?_;rintro e w5 ⟨rfl,hb5⟩;clear hr1 hr2 d0 c0 c1 c2 c3;have hb6:Below w.heap.size w w5:=(((ej w _ _).alloc (by simp;omega) _).drew).trans (hb5.mono (by simp;omega));have H6:=hid (H.out.pure hb6);have HC:=hid (el (S:=λ_=>False) ((((Fr.refl _ _).alloc _).drew).andPure hb5) (λhf=>hf) (λhf=>hf));have HB:=hid hb6;have hs5:w.heap.size+1<w5.heap.size:=by have:=hb5.size;simp at this;omega
   clear hb5 hb6;cases hm:cU n.data.toList
   ·have HM:=hid hm
    clear hm;go_wp2;go_ret;have e1:ee st n.data.toList=(st,4):=by unfold ee;rw[HD.out,HM.out];rfl
    rw[e1];exact⟨rfl,H6.out,Fr.pure HB.out⟩
   ·have HM:=hid hm
    clear hm;cases hs:cJ st.fs n.data.toList with
    | some f=>
     have HS:=hid hs;clear hs;go_wp2;go_ret;have e1:ee st n.data.toList=(st,6):=by unfold ee;rw[HD.out,HM.out,HS.out];rfl
     rw[e1];exact⟨rfl,H6.out,Fr.pure HB.out⟩
    | none=>
     have HS:=hid hs;clear hs;obtain⟨c0,c1,c2,c3⟩:=H6.out.cs;have hx1:=HC.out.cq;have hx2:=HC.out.cr;by_cases hl:64≤st.fs.length
     ·go_wp2_with (at_len;refine wpList_len_own _ rfl _ 76 rfl 9 81 Tryz.underlying76 cB b st.fs.length (fsD st.fs) rfl H6.out.own ?_;rw[cR])
      go_ret;have e1:ee st n.data.toList=(st,44):=by unfold ee;rw[HD.out,HM.out,HS.out,if_pos hl];rfl
      rw[e1];exact⟨rfl,H6.out,Fr.pure HB.out⟩
     ·go_wp2_with (first|(at_len;refine wpList_len_own _ rfl _ 76 rfl 9 81 Tryz.underlying76 cB b st.fs.length (fsD st.fs) rfl H6.out.own ?_;rw[cR]))
      refine(dG 56 _ w5 p b st H6.out (enters_of Tryz.func56 (by kernel_rfl) rfl) (λw2=>IsDk w2 p b { st with left:=dec st.left,fs:=cI st.fs ⟨n.data.toList,[],[]⟩ }∧DFr p b w5 w2) (λ_ w1 hf1 hs1 hd1=>(ei w1 _ _ p b { st with left:=dec st.left } n (HC.out.fr hf1 (by omega) (by omega)) hd1 (by have:=eh HM.out;rw[am]at this;exact this) (by show st.fs.length<64;omega) HS.out).mono (λe w2 h2=>⟨h2.1,h2.2.1,hf1.toD1.trans h2.2.2⟩))).mono ?_;rintro e w7 (⟨h0,rfl,hf7,hd7⟩|⟨h0,rfl,hd7,hf7⟩)
      ·have H7:=hid hd7
       have F7:=hid hf7;have H0:=hid h0;clear hd7 hf7 h0;go_wp2;go_ret;have e1:ee st n.data.toList=({ st with dark:=true },45):=by unfold ee d9;rw[HD.out,HM.out,HS.out,if_neg hl,if_pos H0.out];rfl
       rw[e1];exact⟨rfl,H7.out,(Fr.pure HB.out).trans F7.out.toD1⟩
      ·have H7:=hid hd7
       have F7:=hid hf7;have H0:=hid h0;clear hd7 hf7 h0;go_wp2;go_ret;have e1:ee st n.data.toList=({ st with left:=dec st.left,fs:=cI st.fs ⟨n.data.toList,[],[]⟩ },0):=by unfold ee d9;rw[HD.out,HM.out,HS.out,if_neg hl,if_neg H0.out];rfl
       rw[e1];exact⟨rfl,H7.out,(Fr.pure HB.out).trans F7.out⟩
 ·have HD:=hid hd
  clear hd
  go_enter Tryz.func25,Tryz.ntmps25
  go_wp2_with fail
  refine(cY _ p b st H1.out).mono ?_;rintro e w1 ⟨rfl,rfl⟩;rw[HD.out];go_wp2;go_ret;have e1:ee st n.data.toList=(st,45):=by unfold ee;rw[HD.out];rfl
  rw[e1];exact⟨rfl,H1.out,Fr.pure (ej w _ _)⟩
set_option maxRecDepth 100000 in
theorem ep (w:World)(q r p b:Nat)(st:DkSt)(n:ByteArray)(hc:Capt w q r p n)(h:IsDk w p b st)(hn:n.size≤maxLen) :
  Calls Tryz.prog 79 #[.pointer (some ⟨q,0,none⟩),.pointer (some ⟨r,0,none⟩)] w λe w'=>ed p b { st with fs:=cH st.fs n.data.toList } w e w':=by
 have H:=hid h;have hx1:=hc.cq;have hx2:=hc.cr;obtain⟨c0,c1,c2,c3⟩:=h.cs;have HK:=hid (WideMaps.keyOf_string_mk Tryz.underlying9 hn);have HE:=hid (show FsKeep (cH st.fs n.data.toList)∧(cT (cH st.fs n.data.toList):Int)≤st.cap from⟨h.ok.fs.keep.del _,by have:=h.ok.fits;have:=dO st.fs n.data.toList;omega⟩);clear hc h hn;obtain⟨w1,hrun,hown1,hturn1⟩:=H.out.drew.own.drop (t:=76) (e:=81) Tryz.strKey Tryz.underlying76 (key:=.string n) HK.out 0;have HO:=hid (H.out.drew.turned (fs':=cH st.fs n.data.toList) (by rw[← cM];exact hown1) hturn1 HE.out.1 HE.out.2);have HT:=hid (dE hturn1);clear hown1 hturn1
 go_enter Tryz.func79,Tryz.ntmps79
 go_region
 go_wp2
 go_end0
 exact⟨rfl,HO.out,((Fr.refl _ w).drew.trans HT.out).toD⟩
theorem eu {w w1:World}{st:DkSt}{n:List UInt8}{e:Ending}(h:cZ w st n e w1)(hd:st.dark=true):Below w.heap.size w w1∧e = .returned (.tuple #[.agg #[.string ⟨#[]⟩,.string ⟨#[]⟩],.int .i64 45]):=by
 obtain⟨h1,a,b,h2⟩:=h;rw[if_pos hd]at h2;obtain⟨ha,hb,rfl⟩:=h2;have ea:a=⟨#[]⟩:=by cases a with|mk d=>simp at ha;rw[ha]
 have eb:b=⟨#[]⟩:=by cases b with|mk d=>simp at hb;rw[hb]
 rw[ea,eb];exact⟨h1,rfl⟩
theorem ew {w w1:World}{st:DkSt}{n:List UInt8}{e:Ending}(h:cZ w st n e w1)(hd:st.dark=false)(hg:cJ st.fs n=none):Below w.heap.size w w1∧e = .returned (.tuple #[.agg #[.string ⟨#[]⟩,.string ⟨#[]⟩],.int .i64 5]):=by
 obtain⟨h1,a,b,h2⟩:=h;rw[if_neg (by rw[hd];simp),hg]at h2;obtain⟨ha,hb,rfl⟩:=h2;have ea:a=⟨#[]⟩:=by cases a with|mk d=>simp at ha;rw[ha]
 have eb:b=⟨#[]⟩:=by cases b with|mk d=>simp at hb;rw[hb]
 rw[ea,eb];exact⟨h1,rfl⟩
theorem ex {w w1:World}{st:DkSt}{n:List UInt8}{e:Ending}(h:cZ w st n e w1)(hd:st.dark=false){f:FileS}(hg:cJ st.fs n=some f):Below w.heap.size w w1∧∃a b:ByteArray,a.data.toList=f.firm∧b.data.toList=f.pend∧e = .returned (.tuple #[.agg #[.string a,.string b],.int .i64 0]):=by
 obtain⟨h1,a,b,h2⟩:=h;rw[if_neg (by rw[hd];simp),hg]at h2;exact⟨h1,a,b,h2.1,h2.2.1,h2.2.2⟩
theorem ey (w:World)(o1 o2:Obj){w1:World}(h:Below (((w.alloc o1).alloc o2).heap.size) ((w.alloc o1).alloc o2) w1):Below w.heap.size w w1:=(ej w o1 o2).trans (h.mono (by simp;omega))
set_option maxRecDepth 100000 in
theorem ez (w:World)(p b:Nat)(st:DkSt)(h:IsDk w p b st)(n:ByteArray)(hn:n.size≤maxLen) :
  Calls Tryz.prog 45 #[.pointer (some ⟨p,0,none⟩),.string n] w λe w'=>ec p b (ef st n.data.toList) w e w':=by
 have hmf:∀(fn:Fn) (first cap:Array Value) (w:World),(Instr.makeFunc fn first cap).run Tryz.prog w = .ok (.func fn first cap) w:=λ_ _ _ _=>rfl;have hp:=h.lt;have hbl:=h.own.lt;have H:=hid h;have H1:=hid (h.pure (ej w (.cells #[.pointer (some ⟨p,0,none⟩)] 39) (.cells #[.string n] 9)));clear h
 go_enter Tryz.func45,Tryz.ntmps45
 go_wp2_with fail
 refine(dg _ p b st H1.out n hn).mono ?_;intro e w1 hf;cases hd:st.dark
 ·cases hg:cJ st.fs n.data.toList with
  | none=>
   obtain⟨hb1,rfl⟩:=ew hf hd hg;have HD:=hid hd;have HG:=hid hg;have hb6:=hid (((ey w _ _ hb1).alloc (by have:=hb1.size;simp at this;omega) (.cells #[.string ⟨#[]⟩,.string ⟨#[]⟩] 81)));clear hd hg hf hb1;go_wp2;go_ret;have e1:ef st n.data.toList=(st,5):=by unfold ef;rw[HD.out,HG.out];rfl
   rw[e1];exact⟨rfl,H.out.pure hb6.out,Fr.pure hb6.out⟩
  | some f=>
   obtain⟨hb1,f1,f2,hf1,hf2,rfl⟩:=ex hf hd hg;have HD:=hid hd;have HG:=hid hg;have hs1:=hb1.size;simp at hs1;have HB:=hid (((ey w _ _ hb1).alloc (by omega) (.cells #[.string f1,.string f2] 81)));have HC:=hid (el (S:=λ_=>False) (((Fr.refl _ _).andPure hb1).alloc (.cells #[.string f1,.string f2] 81)) (λhf=>hf) (λhf=>hf));clear hd hg hf hb1;have hx1:=HC.out.cq;have hx2:=HC.out.cr
   go_wp2_with fail
   refine(dG 79 _ _ p b st (H.out.pure HB.out) (enters_of Tryz.func79 (by kernel_rfl) rfl) (λw2=>IsDk w2 p b { st with left:=dec st.left,fs:=cH st.fs n.data.toList }∧DFr p b (w1.alloc (.cells #[.string f1,.string f2] 81)) w2) (λ_ w3 hf1 hs1 hd1=>(ep w3 _ _ p b { st with left:=dec st.left } n (HC.out.fr hf1 (by omega) (by omega)) hd1 hn).mono (λe w2 h2=>⟨h2.1,h2.2.1,hf1.toD1.trans h2.2.2⟩))).mono ?_;rintro e w7 (⟨h0,rfl,hf7,hd7⟩|⟨h0,rfl,hd7,hf7⟩)
   ·have H7:=hid hd7
    have F7:=hid hf7;have H0:=hid h0;clear hd7 hf7 h0;go_wp2;go_ret;have e1:ef st n.data.toList=({ st with dark:=true },45):=by unfold ef d9;rw[HD.out,HG.out,if_pos H0.out];rfl
    rw[e1];exact⟨rfl,H7.out,(Fr.pure HB.out).trans F7.out.toD1⟩
   ·have H7:=hid hd7
    have F7:=hid hf7;have H0:=hid h0;clear hd7 hf7 h0;go_wp2;go_ret;have e1:ef st n.data.toList=({ st with left:=dec st.left,fs:=cH st.fs n.data.toList },0):=by unfold ef d9;rw[HD.out,HG.out,if_neg H0.out];rfl
    rw[e1];exact⟨rfl,H7.out,(Fr.pure HB.out).trans F7.out⟩
 ·obtain⟨hb1,rfl⟩:=eu hf hd
  have HD:=hid hd;have hb6:=hid (((ey w _ _ hb1).alloc (by have:=hb1.size;simp at this;omega) (.cells #[.string ⟨#[]⟩,.string ⟨#[]⟩] 81)));clear hd hf hb1;go_wp2;go_ret;have e1:ef st n.data.toList=(st,45):=by unfold ef;rw[HD.out];rfl
  rw[e1];exact⟨rfl,H.out.pure hb6.out,Fr.pure hb6.out⟩
def eA (st:DkSt)(n:List UInt8):DkSt×Int:=
 if st.dark then (st,45) else match cJ st.fs n with|none=>(st,5)|some f=>d9 st (cI st.fs ⟨n,f.firm++f.pend,[]⟩)
structure BoxAt (w:World) (g:Nat) (f1 f2:ByteArray):Prop where
 c0:w.cell? ⟨g,0,none⟩=some (.string f1)
 c1:w.cell? ⟨g,1,none⟩=some (.string f2)
theorem BoxAt.fr {S:Nat→Prop}{w w':World}{g:Nat}{f1 f2:ByteArray}(h:BoxAt w g f1 f2)(hf:Fr S w w')(h1:¬S g):BoxAt w' g f1 f2:=⟨hf.cellAt h.c0 h1,hf.cellAt h.c1 h1⟩
theorem eC {w w':World}{f1 f2:ByteArray}{t:TypeId}(hf:Fr (λ_=>False) (w.alloc (.cells #[.string f1,.string f2] t)) w'):BoxAt w' w.heap.size f1 f2:=
 ⟨hf.cellAt (by rw[World.cell?_alloc_at _ _ _ _ rfl];rfl) (λh=>h),hf.cellAt (by rw[World.cell?_alloc_at _ _ _ _ rfl];rfl) (λh=>h)⟩
set_option maxRecDepth 100000 in
theorem eD (w:World)(g q r p b:Nat)(st:DkSt)(n f1 f2:ByteArray)(hc:Capt w q r p n)(hx:BoxAt w g f1 f2)(h:IsDk w p b st)(hn:n.size≤maxLen)
  (f:FileS) (hg:cJ st.fs n.data.toList=some f) (hf1:f1.data.toList=f.firm) (hf2:f2.data.toList=f.pend) :
  Calls Tryz.prog 81 #[.pointer (some ⟨g,0,none⟩),.pointer (some ⟨q,0,none⟩),.pointer (some ⟨r,0,none⟩)] w λe w'=>ed p b { st with fs:=cI st.fs ⟨n.data.toList,f.firm++f.pend,[]⟩ } w e w':=by
 have H:=hid h;have hx1:=hc.cq;have hx2:=hc.cr;have hx3:=hx.c0;have hx4:=hx.c1;obtain⟨c0,c1,c2,c3⟩:=h.cs;have hsm:=h.ok.fs.small f (cS hg).2;have hsz:f1.size+f2.size≤9223372036854775807:=by rw[av hf1,av hf2];omega
 have HK:=hid (WideMaps.keyOf_string_mk Tryz.underlying9 hn);have HF:=hid h.fewer;have hud:=dQ (dn h.ok.fs) hg;have HE:=hid (show FsKeep (cI st.fs ⟨n.data.toList,f.firm++f.pend,[]⟩)∧(cT (cI st.fs ⟨n.data.toList,f.firm++f.pend,[]⟩):Int)≤st.cap from
  ⟨h.ok.fs.keep.put (by show(cH st.fs n.data.toList).length<64;have:=h.ok.fs.few;omega) (by simp;omega) (by show n.data.toList.length≤24;rw[← (cS hg).1];exact h.ok.fs.names f (cS hg).2),by rw[dR];have:=h.ok.fits;simp only[List.length_append,List.length_nil];show(((f.firm.length+f.pend.length+0)+cT (cH st.fs n.data.toList):Nat):Int)≤st.cap;omega⟩)
 obtain⟨w1,hrun,hown1,hturn1⟩:=H.out.drew.own.store (t:=76) (e:=81) Tryz.strKey Tryz.underlying76 HF.out (key:=.string n) (val:=.agg #[.string (f1++f2),.string ⟨#[]⟩]) HK.out (cD _ _);have HO:=hid (H.out.drew.turned (fs':=cI st.fs ⟨n.data.toList,f.firm++f.pend,[]⟩) (by rw[← cN];show w1.ownsMap Tryz.prog 9 cB b _ ((fsD st.fs).put (.string n.data.toList) (.agg [.lit (.string (f.firm++f.pend)),.lit (.string [])]));rw[← hf1,← hf2];have:=hown1;simpa using this) hturn1 HE.out.1 HE.out.2);have HT:=hid (dE hturn1);clear hown1 hturn1 hc h hn hud hsm hg hf1 hf2 hx
 go_enter Tryz.func81,Tryz.ntmps81
 go_region
 go_wp2
 go_end0
 exact⟨rfl,HO.out,((Fr.refl _ w).drew.trans HT.out).toD⟩
set_option maxRecDepth 100000 in
theorem eE (w:World)(p b:Nat)(st:DkSt)(h:IsDk w p b st)(n:ByteArray)(hn:n.size≤maxLen) :
  Calls Tryz.prog 47 #[.pointer (some ⟨p,0,none⟩),.string n] w λe w'=>ec p b (eA st n.data.toList) w e w':=by
 have hmf:∀(fn:Fn) (first cap:Array Value) (w:World),(Instr.makeFunc fn first cap).run Tryz.prog w = .ok (.func fn first cap) w:=λ_ _ _ _=>rfl;have hp:=h.lt;have hbl:=h.own.lt;have H:=hid h;have H1:=hid (h.pure (ej w (.cells #[.pointer (some ⟨p,0,none⟩)] 39) (.cells #[.string n] 9)));clear h
 go_enter Tryz.func47,Tryz.ntmps47
 go_wp2_with fail
 refine(dg _ p b st H1.out n hn).mono ?_;intro e w1 hf;cases hd:st.dark
 ·cases hg:cJ st.fs n.data.toList with
  | none=>
   obtain⟨hb1,rfl⟩:=ew hf hd hg;have HD:=hid hd;have HG:=hid hg;have hb6:=hid (((ey w _ _ hb1).alloc (by have:=hb1.size;simp at this;omega) (.cells #[.string ⟨#[]⟩,.string ⟨#[]⟩] 81)));clear hd hg hf hb1;go_wp2;go_ret;have e1:eA st n.data.toList=(st,5):=by unfold eA;rw[HD.out,HG.out];rfl
   rw[e1];exact⟨rfl,H.out.pure hb6.out,Fr.pure hb6.out⟩
  | some f=>
   obtain⟨hb1,f1,f2,hf1,hf2,rfl⟩:=ex hf hd hg;have HD:=hid hd;have HG:=hid hg;have hs1:=hb1.size;simp at hs1;have HB:=hid (((ey w _ _ hb1).alloc (by omega) (.cells #[.string f1,.string f2] 81)));have HC:=hid (el (S:=λ_=>False) (((Fr.refl _ _).andPure hb1).alloc (.cells #[.string f1,.string f2] 81)) (λhf=>hf) (λhf=>hf));have HF:=hid (And.intro hf1 hf2);clear hd hg hf hb1 hf1 hf2;have HX:=hid (eC (Fr.refl (λ_=>False) _):BoxAt (w1.alloc (.cells #[.string f1,.string f2] 81)) w1.heap.size f1 f2);have hlt1:=H1.out.lt;simp at hlt1;have hx1:=HC.out.cq;have hx2:=HC.out.cr
   go_wp2_with fail
   refine(dG 81 _ _ p b st (H.out.pure HB.out) (enters_of Tryz.func81 (by kernel_rfl) rfl) (λw2=>IsDk w2 p b { st with left:=dec st.left,fs:=cI st.fs ⟨n.data.toList,f.firm++f.pend,[]⟩ }∧DFr p b (w1.alloc (.cells #[.string f1,.string f2] 81)) w2) (λ_ w3 hf1 hs1 hd1=>(eD w3 _ _ _ p b { st with left:=dec st.left } n f1 f2 (HC.out.fr hf1 (by omega) (by omega)) (HX.out.fr hf1 (by omega)) hd1 hn f HG.out HF.out.1 HF.out.2).mono (λe w2 h2=>⟨h2.1,h2.2.1,hf1.toD1.trans h2.2.2⟩))).mono ?_;rintro e w7 (⟨h0,rfl,hf7,hd7⟩|⟨h0,rfl,hd7,hf7⟩)
   ·have H7:=hid hd7
    have F7:=hid hf7;have H0:=hid h0;clear hd7 hf7 h0;go_wp2;go_ret;have e1:eA st n.data.toList=({ st with dark:=true },45):=by unfold eA;rw[if_neg (by rw[HD.out];simp),HG.out];exact if_pos H0.out
    rw[e1];exact⟨rfl,H7.out,(Fr.pure HB.out).trans F7.out.toD1⟩
   ·have H7:=hid hd7
    have F7:=hid hf7;have H0:=hid h0;clear hd7 hf7 h0;go_wp2;go_ret;have e1:eA st n.data.toList=({ st with left:=dec st.left,fs:=cI st.fs ⟨n.data.toList,f.firm++f.pend,[]⟩ },0):=by unfold eA;rw[if_neg (by rw[HD.out];simp),HG.out];exact if_neg H0.out
    rw[e1];exact⟨rfl,H7.out,(Fr.pure HB.out).trans F7.out⟩
 ·obtain⟨hb1,rfl⟩:=eu hf hd
  have HD:=hid hd;have hb6:=hid (((ey w _ _ hb1).alloc (by have:=hb1.size;simp at this;omega) (.cells #[.string ⟨#[]⟩,.string ⟨#[]⟩] 81)));clear hd hf hb1;go_wp2;go_ret;have e1:eA st n.data.toList=(st,45):=by unfold eA;rw[HD.out];rfl
  rw[e1];exact⟨rfl,H.out.pure hb6.out,Fr.pure hb6.out⟩
theorem eF (a b:ByteArray):(a++b).data.toList=a.data.toList++b.data.toList:=by simp
def eG (st:DkSt)(n:List UInt8):List UInt8×Int:=
 if st.dark then ([],45) else match cJ st.fs n with|none=>([],5)|some f=>(f.firm++f.pend,0)
def eH (r:List UInt8×Int)(w:World)(e:Ending)(w':World):Prop:=(∃s:ByteArray,s.data.toList=r.1∧e = .returned (.tuple #[.string s,.int .i64 r.2]))∧Below w.heap.size w w'
set_option maxRecDepth 100000 in
theorem eI (w:World)(p b:Nat)(st:DkSt)(h:IsDk w p b st)(n:ByteArray)(hn:n.size≤maxLen) :
  Calls Tryz.prog 17 #[.pointer (some ⟨p,0,none⟩),.string n] w λe w'=>eH (eG st n.data.toList) w e w':=by
 have H:=hid h;clear h
 go_enter Tryz.func17,Tryz.ntmps17
 go_wp2_with fail
 refine(dg _ p b st H.out n hn).mono ?_;intro e w1 hf;cases hd:st.dark
 ·cases hg:cJ st.fs n.data.toList with
  | none=>
   obtain⟨hb1,rfl⟩:=ew hf hd hg;have HD:=hid hd;have HG:=hid hg;have HB:=hid (hb1.alloc hb1.size (.cells #[.string ⟨#[]⟩,.string ⟨#[]⟩] 81));clear hd hg hf hb1;go_wp2;refine bodyPost_ret (v:=.tuple #[.string ⟨#[]⟩,.int .i64 5]) (by simp[results,Tryz.results17,go_sem];rfl) rfl ⟨⟨⟨#[]⟩,?_,?_⟩,HB.out⟩
   ·unfold eG;rw[if_neg (by rw[HD.out];simp),HG.out]
   ·unfold eG;rw[if_neg (by rw[HD.out];simp),HG.out]
  | some f=>
   obtain⟨hb1,f1,f2,hf1,hf2,rfl⟩:=ex hf hd hg;have HD:=hid hd;have HG:=hid hg;have HF:=hid (And.intro hf1 hf2);have hsm:=H.out.ok.fs.small f (cS hg).2;have hsz:f1.size+f2.size≤9223372036854775807:=by rw[av hf1,av hf2];omega
   have HB:=hid (hb1.alloc hb1.size (.cells #[.string f1,.string f2] 81));clear hd hg hf hb1 hf1 hf2 hsm;go_wp2;refine bodyPost_ret (v:=.tuple #[.string (f1++f2),.int .i64 0]) (by simp[results,Tryz.results17,go_sem]) rfl ⟨⟨f1++f2,?_,?_⟩,HB.out⟩
   ·unfold eG;rw[if_neg (by rw[HD.out];simp),HG.out];show(f1++f2).data.toList=f.firm++f.pend;rw[← HF.out.1,← HF.out.2];exact eF f1 f2
   ·unfold eG;rw[if_neg (by rw[HD.out];simp),HG.out]
 ·obtain⟨hb1,rfl⟩:=eu hf hd
  have HD:=hid hd;have HB:=hid (hb1.alloc hb1.size (.cells #[.string ⟨#[]⟩,.string ⟨#[]⟩] 81));clear hd hf hb1;go_wp2;refine bodyPost_ret (v:=.tuple #[.string ⟨#[]⟩,.int .i64 45]) (by simp[results,Tryz.results17,go_sem];rfl) rfl ⟨⟨⟨#[]⟩,?_,?_⟩,HB.out⟩
  ·unfold eG;rw[if_pos HD.out]
  ·unfold eG;rw[if_pos HD.out]
def eJ (st:DkSt)(n:Int):DkSt×Int:=if st.dark then (st,45) else if n<0 then (st,1) else ({ st with left:=n },0)
set_option maxRecDepth 100000 in
theorem eK (w:World)(p b:Nat)(st:DkSt)(h:IsDk w p b st)(n:Int)(hn : -9223372036854775808≤n)(hn1:n≤9223372036854775807) :
  Calls Tryz.prog 18 #[.pointer (some ⟨p,0,none⟩),.int .i64 n] w λe w'=>ec p b (eJ st n) w e w':=by
 have H:=hid h;have hp:=h.lt;obtain⟨c0,c1,c2,c3⟩:=h.cs;have z2:=h.fz 2;clear h;cases hd:st.dark
 ·have HD:=hid hd
  clear hd;by_cases h0:n<0
  ·go_enter Tryz.func18,Tryz.ntmps18
   go_wp2_with fail
   refine(cY _ p b st H.out).mono ?_;rintro e w1 ⟨rfl,rfl⟩;rw[HD.out];go_wp2;go_ret;have e1:eJ st n=(st,1):=by unfold eJ;rw[if_neg (by rw[HD.out];simp),if_pos h0]
   rw[e1];exact⟨rfl,H.out,Fr.refl _ _⟩
  ·have HL:=hid (H.out.setLeft n (by omega) hn1)
   go_enter Tryz.func18,Tryz.ntmps18
   go_wp2_with fail
   refine(cY _ p b st H.out).mono ?_;rintro e w1 ⟨rfl,rfl⟩;rw[HD.out];go_wp2;go_ret;have e1:eJ st n=({ st with left:=n },0):=by unfold eJ;rw[if_neg (by rw[HD.out];simp),if_neg (by omega)]
   rw[e1];exact⟨rfl,HL.out,(dF ⟨p,2,none⟩ _).toD1⟩
 ·have HD:=hid hd
  clear hd
  go_enter Tryz.func18,Tryz.ntmps18
  go_wp2_with fail
  refine(cY _ p b st H.out).mono ?_;rintro e w1 ⟨rfl,rfl⟩;rw[HD.out];go_wp2;go_ret;have e1:eJ st n=(st,45):=by unfold eJ;rw[if_pos HD.out]
  rw[e1];exact⟨rfl,H.out,Fr.refl _ _⟩
def eL (st:DkSt)(a c:List UInt8):DkSt×Int:=
 if st.dark then (st,45) else match cJ st.fs a with
  | none=>(st,5)
  | some f=>if !cU c then (st,4) else if a=c then (st,1) else d9 st (cI (cH st.fs a) ⟨c,f.firm,f.pend⟩)
theorem IsDk.off {w:World}{p b:Nat}{st:DkSt}(h:IsDk w p b st){q o:Nat}{v:Value}(hc:w.cell? ⟨q,o,none⟩=some v):q≠b:=by
 intro e;obtain⟨es,clock,hb,_⟩:=h.own;subst e;unfold World.cell? at hc;rw[hb]at hc;simp at hc
set_option maxRecDepth 100000 in
theorem eM (w:World)(q r g s p b:Nat)(st:DkSt)(n m f1 f2:ByteArray)(hc:Capt w q r p n)(hm:w.cell? ⟨s,0,none⟩=some (.string m))(hx:BoxAt w g f1 f2)(h:IsDk w p b st)(hn:n.size≤maxLen)(hml:m.size≤24)
  (f:FileS) (hg:cJ st.fs n.data.toList=some f) (hf1:f1.data.toList=f.firm) (hf2:f2.data.toList=f.pend) :
  Calls Tryz.prog 82 #[.pointer (some ⟨q,0,none⟩),.pointer (some ⟨r,0,none⟩),.pointer (some ⟨g,0,none⟩),.pointer (some ⟨s,0,none⟩)] w λe w'=>ed p b { st with fs:=cI (cH st.fs n.data.toList) ⟨m.data.toList,f.firm,f.pend⟩ } w e w':=by
 have H:=hid h;have hx1:=hc.cq;have hx2:=hc.cr;obtain⟨c0,c1,c2,c3⟩:=h.cs;have hsm:=h.ok.fs.small f (cS hg).2;have HK:=hid (WideMaps.keyOf_string_mk Tryz.underlying9 hn);have HKm:=hid (WideMaps.keyOf_string_mk Tryz.underlying9 (Nat.le_trans hml (by unfold maxLen;omega):m.size≤maxLen));have hud:=dQ (dn h.ok.fs) hg;have hfit:=h.ok.fits;have HE1:=hid (show FsKeep (cH st.fs n.data.toList)∧(cT (cH st.fs n.data.toList):Int)≤st.cap from⟨h.ok.fs.keep.del _,by omega⟩);have HE:=hid (show FsKeep (cI (cH st.fs n.data.toList) ⟨m.data.toList,f.firm,f.pend⟩)∧(cT (cI (cH st.fs n.data.toList) ⟨m.data.toList,f.firm,f.pend⟩):Int)≤st.cap from
  ⟨HE1.out.1.put (by show(cH (cH st.fs n.data.toList) m.data.toList).length<64;have:=h.ok.fs.few;have:=dN (cH st.fs n.data.toList) m.data.toList;omega) hsm (by rw[am];exact hml),by rw[dR];show(((f.firm.length+f.pend.length)+cT (cH (cH st.fs n.data.toList) m.data.toList):Nat):Int)≤st.cap;have:=dO (cH st.fs n.data.toList) m.data.toList;omega⟩)
 have hqb:=h.off hc.cq;have hrb:=h.off hc.cr;have hgb:=h.off hx.c0;have hsb:=h.off hm;obtain⟨w1,hrun,hown1,hturn1⟩:=H.out.drew.own.drop (t:=76) (e:=81) Tryz.strKey Tryz.underlying76 (key:=.string n) HK.out 0;have HO:=hid (H.out.drew.turned (fs':=cH st.fs n.data.toList) (by rw[← cM];exact hown1) hturn1 HE1.out.1 HE1.out.2);have HT:=hid (dE hturn1);have hy1:=HT.out.cellAt (show w.drew.cell? _=_ from hc.cq) hqb;have hy3:=HT.out.cellAt (show w.drew.cell? _=_ from hm) hsb;have hy4:=HT.out.cellAt (show w.drew.cell? _=_ from hx.c0) hgb;have hy5:=HT.out.cellAt (show w.drew.cell? _=_ from hx.c1) hgb;obtain⟨e0,e1,e2,e3⟩:=HO.out.cs;clear hown1 hturn1;obtain⟨w2,hrun2,hown2,hturn2⟩:=HO.out.drew.own.store (t:=76) (e:=81) Tryz.strKey Tryz.underlying76 HO.out.fewer (key:=.string m) (val:=.agg #[.string f1,.string f2]) HKm.out (cD _ _);have HO2:=hid (HO.out.drew.turned (fs':=cI (cH st.fs n.data.toList) ⟨m.data.toList,f.firm,f.pend⟩) (by rw[← cN];show w2.ownsMap Tryz.prog 9 cB b _ ((fsD (cH st.fs n.data.toList)).put (.string m.data.toList) (.agg [.lit (.string f.firm),.lit (.string f.pend)]));rw[← hf1,← hf2];exact hown2) hturn2 HE.out.1 HE.out.2);have HT2:=hid (dE hturn2);clear hown2 hturn2 hc h hn hud hsm hg hf1 hf2 hx hm hml hqb hrb hgb hsb hfit
 go_enter Tryz.func82,Tryz.ntmps82
 go_wp2
 go_region
 go_wp2
 go_region
 go_wp2
 go_end0
 exact⟨rfl,HO2.out,((((Fr.refl _ w).drew.trans HT.out).drew).trans HT2.out).toD⟩
end
end Go.Proofs.YtaeakdichkhjaaaGreatDoor
