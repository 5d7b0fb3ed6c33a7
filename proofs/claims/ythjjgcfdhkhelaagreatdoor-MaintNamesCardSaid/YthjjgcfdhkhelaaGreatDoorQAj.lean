/- Files as they are handed in; the walk of Load. -/
import Derived.Test.YthjjgcfdhkhelaaGreatDoorQAi
import Derived.Lib.QuietBelow
set_option maxHeartbeats 2500000
set_option maxRecDepth 100000
open Go.Lib(hid)
open Go.Proofs.Tryz
namespace Go.Proofs.YthjjgcfdhkhelaaGreatDoor
section
open Go.RowKit Go.Maps
theorem eu (w:World)(q r p b:Nat)(st:cZ)(n:ByteArray)(hc:Capt w q r p n)(h:db w p b st)(hn:n.size≤maxLen) :
  Calls prog 86 #[.pointer (some ⟨q,0,none⟩),.pointer (some ⟨r,0,none⟩)] w λe w'=>d9 p b { st with fs:=cK st.fs n.data.toList } w e w':=by
 have H:=hid h;have hx1:=hc.cq;have hx2:=hc.cr;obtain⟨c0,c1,c2,c3⟩:=h.cs;have HK:=hid (WideMaps.keyOf_string_mk underlying9 hn);have HE:=hid (show dW (cK st.fs n.data.toList)∧(cX (cK st.fs n.data.toList):Int)≤st.cap from⟨h.ok.fs.keep.del _,by have:=h.ok.fits;have:=dT st.fs n.data.toList;omega⟩);clear hc h hn;obtain⟨w1,hrun,hown1,hturn1⟩:=H.out.drew.own.drop (t:=146) (e:=142) Tryz.strKey underlying146 (key:=.string n) HK.out 0;have HO:=hid (H.out.drew.turned (fs':=cK st.fs n.data.toList) (by rw[← cQ];exact hown1) hturn1 HE.out.1 HE.out.2);have HT:=hid (dJ hturn1);clear hown1 hturn1
 go_enter func86,ntmps86
 go_region
 go_wp2
 go_end0
 exact⟨rfl,HO.out,((Fr.refl _ w).drew.trans HT.out).toD⟩
theorem ex {w w1:World}{st:cZ}{n:List UInt8}{e:Ending}(h:dh w st n e w1)(hd:st.dark=true):Below w.heap.size w w1∧e = .returned (.tuple #[.agg #[.string ⟨#[]⟩,.string ⟨#[]⟩],.int .i64 45]):=by
 obtain⟨h1,a,b,h2⟩:=h;rw[if_pos hd]at h2;obtain⟨ha,hb,rfl⟩:=h2;have ea:a=⟨#[]⟩:=by cases a with|mk d=>simp at ha;rw[ha]
 have eb:b=⟨#[]⟩:=by cases b with|mk d=>simp at hb;rw[hb]
 rw[ea,eb];exact⟨h1,rfl⟩
theorem ey {w w1:World}{st:cZ}{n:List UInt8}{e:Ending}(h:dh w st n e w1)(hd:st.dark=false)(hg:cM st.fs n=none):Below w.heap.size w w1∧e = .returned (.tuple #[.agg #[.string ⟨#[]⟩,.string ⟨#[]⟩],.int .i64 5]):=by
 obtain⟨h1,a,b,h2⟩:=h;rw[if_neg (by rw[hd];simp),hg]at h2;obtain⟨ha,hb,rfl⟩:=h2;have ea:a=⟨#[]⟩:=by cases a with|mk d=>simp at ha;rw[ha]
 have eb:b=⟨#[]⟩:=by cases b with|mk d=>simp at hb;rw[hb]
 rw[ea,eb];exact⟨h1,rfl⟩
theorem ez {w w1:World}{st:cZ}{n:List UInt8}{e:Ending}(h:dh w st n e w1)(hd:st.dark=false){f:cy}(hg:cM st.fs n=some f):Below w.heap.size w w1∧∃a b:ByteArray,a.data.toList=f.firm∧b.data.toList=f.pend∧e = .returned (.tuple #[.agg #[.string a,.string b],.int .i64 0]):=by
 obtain⟨h1,a,b,h2⟩:=h;rw[if_neg (by rw[hd];simp),hg]at h2;exact⟨h1,a,b,h2.1,h2.2.1,h2.2.2⟩
theorem eA (w:World)(o1 o2:Obj){w1:World}(h:Below (((w.alloc o1).alloc o2).heap.size) ((w.alloc o1).alloc o2) w1):Below w.heap.size w w1:=(ek w o1 o2).trans (h.mono (by simp;omega))
theorem eC (w:World)(p b:Nat)(st:cZ)(h:db w p b st)(n:ByteArray)(hn:n.size≤maxLen) :
  Calls prog 30 #[.pointer (some ⟨p,0,none⟩),.string n] w λe w'=>d8 p b (eh st n.data.toList) w e w':=by
 have hmf:∀(fn:Fn) (first cap:Array Value) (w:World),(Instr.makeFunc fn first cap).run prog w = .ok (.func fn first cap) w:=λ_ _ _ _=>rfl;have hp:=h.lt;have hbl:=h.own.lt;have H:=hid h;have H1:=hid (h.pure (ek w (.cells #[.pointer (some ⟨p,0,none⟩)] 31) (.cells #[.string n] 9)));clear h
 go_enter func30,ntmps30
 go_wp2_with fail
 refine(dm _ p b st H1.out n hn).mono ?_;intro e w1 hf;cases hd:st.dark
 ·cases hg:cM st.fs n.data.toList with
  | none=>
   obtain⟨hb1,rfl⟩:=ey hf hd hg;have HD:=hid hd;have HG:=hid hg;have hb6:=hid (((eA w _ _ hb1).alloc (by have:=hb1.size;simp at this;omega) (.cells #[.string ⟨#[]⟩,.string ⟨#[]⟩] 142)));clear hd hg hf hb1;go_wp2;go_ret;have e1:eh st n.data.toList=(st,5):=by unfold eh;rw[HD.out,HG.out];rfl
   rw[e1];exact⟨rfl,H.out.pure hb6.out,Fr.pure hb6.out⟩
  | some f=>
   obtain⟨hb1,f1,f2,hf1,hf2,rfl⟩:=ez hf hd hg;have HD:=hid hd;have HG:=hid hg;have hs1:=hb1.size;simp at hs1;have HB:=hid (((eA w _ _ hb1).alloc (by omega) (.cells #[.string f1,.string f2] 142)));have HC:=hid (el (S:=λ_=>False) (((Fr.refl _ _).andPure hb1).alloc (.cells #[.string f1,.string f2] 142)) (λhf=>hf) (λhf=>hf));clear hd hg hf hb1;have hx1:=HC.out.cq;have hx2:=HC.out.cr
   go_wp2_with fail
   refine(dL 86 _ _ p b st (H.out.pure HB.out) (enters_of func86 (by kernel_rfl) rfl) (λw2=>db w2 p b { st with left:=dec st.left,fs:=cK st.fs n.data.toList }∧dY p b (w1.alloc (.cells #[.string f1,.string f2] 142)) w2) (λ_ w3 hf1 hs1 hd1=>(eu w3 _ _ p b { st with left:=dec st.left } n (HC.out.fr hf1 (by omega) (by omega)) hd1 hn).mono (λe w2 h2=>⟨h2.1,h2.2.1,hf1.toD1.trans h2.2.2⟩))).mono ?_;rintro e w7 (⟨h0,rfl,hf7,hd7⟩|⟨h0,rfl,hd7,hf7⟩)
   ·have H7:=hid hd7
    have F7:=hid hf7;have H0:=hid h0;clear hd7 hf7 h0;go_wp2;go_ret;have e1:eh st n.data.toList=({ st with dark:=true },45):=by unfold eh dZ;rw[HD.out,HG.out,if_pos H0.out];rfl
    rw[e1];exact⟨rfl,H7.out,(Fr.pure HB.out).trans F7.out.toD1⟩
   ·have H7:=hid hd7
    have F7:=hid hf7;have H0:=hid h0;clear hd7 hf7 h0;go_wp2;go_ret;have e1:eh st n.data.toList=({ st with left:=dec st.left,fs:=cK st.fs n.data.toList },0):=by unfold eh dZ;rw[HD.out,HG.out,if_neg H0.out];rfl
    rw[e1];exact⟨rfl,H7.out,(Fr.pure HB.out).trans F7.out⟩
 ·obtain⟨hb1,rfl⟩:=ex hf hd
  have HD:=hid hd;have hb6:=hid (((eA w _ _ hb1).alloc (by have:=hb1.size;simp at this;omega) (.cells #[.string ⟨#[]⟩,.string ⟨#[]⟩] 142)));clear hd hf hb1;go_wp2;go_ret;have e1:eh st n.data.toList=(st,45):=by unfold eh;rw[HD.out];rfl
  rw[e1];exact⟨rfl,H.out.pure hb6.out,Fr.pure hb6.out⟩
def eD (st:cZ)(n:List UInt8):cZ×Int:=
 if st.dark then (st,45) else match cM st.fs n with|none=>(st,5)|some f=>dZ st (cL st.fs ⟨n,f.firm++f.pend,[]⟩)
structure BoxAt (w:World) (g:Nat) (f1 f2:ByteArray):Prop where
 c0:w.cell? ⟨g,0,none⟩=some (.string f1)
 c1:w.cell? ⟨g,1,none⟩=some (.string f2)
theorem BoxAt.fr {S:Nat→Prop}{w w':World}{g:Nat}{f1 f2:ByteArray}(h:BoxAt w g f1 f2)(hf:Fr S w w')(h1:¬S g):BoxAt w' g f1 f2:=⟨hf.cellAt h.c0 h1,hf.cellAt h.c1 h1⟩
theorem eE {w w':World}{f1 f2:ByteArray}{t:TypeId}(hf:Fr (λ_=>False) (w.alloc (.cells #[.string f1,.string f2] t)) w'):BoxAt w' w.heap.size f1 f2:=
 ⟨hf.cellAt (by rw[World.cell?_alloc_at _ _ _ _ rfl];rfl) (λh=>h),hf.cellAt (by rw[World.cell?_alloc_at _ _ _ _ rfl];rfl) (λh=>h)⟩
theorem eF (w:World)(g q r p b:Nat)(st:cZ)(n f1 f2:ByteArray)(hc:Capt w q r p n)(hx:BoxAt w g f1 f2)(h:db w p b st)(hn:n.size≤maxLen)
  (f:cy) (hg:cM st.fs n.data.toList=some f) (hf1:f1.data.toList=f.firm) (hf2:f2.data.toList=f.pend) :
  Calls prog 129 #[.pointer (some ⟨g,0,none⟩),.pointer (some ⟨q,0,none⟩),.pointer (some ⟨r,0,none⟩)] w λe w'=>d9 p b { st with fs:=cL st.fs ⟨n.data.toList,f.firm++f.pend,[]⟩ } w e w':=by
 have H:=hid h;have hx1:=hc.cq;have hx2:=hc.cr;have hx3:=hx.c0;have hx4:=hx.c1;obtain⟨c0,c1,c2,c3⟩:=h.cs;have hsm:=h.ok.fs.small f (cW hg).2;have hsz:f1.size+f2.size≤9223372036854775807:=by rw[ao hf1,ao hf2];omega
 have HK:=hid (WideMaps.keyOf_string_mk underlying9 hn);have HF:=hid h.fewer;have hud:=dV (dw h.ok.fs) hg;have HE:=hid (show dW (cL st.fs ⟨n.data.toList,f.firm++f.pend,[]⟩)∧(cX (cL st.fs ⟨n.data.toList,f.firm++f.pend,[]⟩):Int)≤st.cap from⟨h.ok.fs.keep.put (by show(cK st.fs n.data.toList).length<64;have:=h.ok.fs.few;omega) (by simp;omega) (by show n.data.toList.length≤24;rw[← (cW hg).1];exact h.ok.fs.names f (cW hg).2),by rw[dX];have:=h.ok.fits;simp only[List.length_append,List.length_nil];show(((f.firm.length+f.pend.length+0)+cX (cK st.fs n.data.toList):Nat):Int)≤st.cap;omega⟩);obtain⟨w1,hrun,hown1,hturn1⟩:=H.out.drew.own.store (t:=146) (e:=142) Tryz.strKey underlying146 HF.out (key:=.string n) (val:=.agg #[.string (f1++f2),.string ⟨#[]⟩]) HK.out (cF _ _);have HO:=hid (H.out.drew.turned (fs':=cL st.fs ⟨n.data.toList,f.firm++f.pend,[]⟩) (by rw[← cR];show w1.ownsMap prog 9 cC b _ ((fsD st.fs).put (.string n.data.toList) (.agg [.lit (.string (f.firm++f.pend)),.lit (.string [])]));rw[← hf1,← hf2];have:=hown1;simpa using this) hturn1 HE.out.1 HE.out.2);have HT:=hid (dJ hturn1);clear hown1 hturn1 hc h hn hud hsm hg hf1 hf2 hx
 go_enter func129,ntmps129
 go_region
 go_wp2
 go_end0
 exact⟨rfl,HO.out,((Fr.refl _ w).drew.trans HT.out).toD⟩
theorem eG (w:World)(p b:Nat)(st:cZ)(h:db w p b st)(n:ByteArray)(hn:n.size≤maxLen) :
  Calls prog 65 #[.pointer (some ⟨p,0,none⟩),.string n] w λe w'=>d8 p b (eD st n.data.toList) w e w':=by
 have hmf:∀(fn:Fn) (first cap:Array Value) (w:World),(Instr.makeFunc fn first cap).run prog w = .ok (.func fn first cap) w:=λ_ _ _ _=>rfl;have hp:=h.lt;have hbl:=h.own.lt;have H:=hid h;have H1:=hid (h.pure (ek w (.cells #[.pointer (some ⟨p,0,none⟩)] 31) (.cells #[.string n] 9)));clear h
 go_enter func65,ntmps65
 go_wp2_with fail
 refine(dm _ p b st H1.out n hn).mono ?_;intro e w1 hf;cases hd:st.dark
 ·cases hg:cM st.fs n.data.toList with
  | none=>
   obtain⟨hb1,rfl⟩:=ey hf hd hg;have HD:=hid hd;have HG:=hid hg;have hb6:=hid (((eA w _ _ hb1).alloc (by have:=hb1.size;simp at this;omega) (.cells #[.string ⟨#[]⟩,.string ⟨#[]⟩] 142)));clear hd hg hf hb1;go_wp2;go_ret;have e1:eD st n.data.toList=(st,5):=by unfold eD;rw[HD.out,HG.out];rfl
   rw[e1];exact⟨rfl,H.out.pure hb6.out,Fr.pure hb6.out⟩
  | some f=>
   obtain⟨hb1,f1,f2,hf1,hf2,rfl⟩:=ez hf hd hg;have HD:=hid hd;have HG:=hid hg;have hs1:=hb1.size;simp at hs1;have HB:=hid (((eA w _ _ hb1).alloc (by omega) (.cells #[.string f1,.string f2] 142)));have HC:=hid (el (S:=λ_=>False) (((Fr.refl _ _).andPure hb1).alloc (.cells #[.string f1,.string f2] 142)) (λhf=>hf) (λhf=>hf));have HF:=hid (And.intro hf1 hf2);clear hd hg hf hb1 hf1 hf2;have HX:=hid (eE (Fr.refl (λ_=>False) _):BoxAt (w1.alloc (.cells #[.string f1,.string f2] 142)) w1.heap.size f1 f2);have hlt1:=H1.out.lt;simp at hlt1;have hx1:=HC.out.cq;have hx2:=HC.out.cr
   go_wp2_with fail
   refine(dL 129 _ _ p b st (H.out.pure HB.out) (enters_of func129 (by kernel_rfl) rfl) (λw2=>db w2 p b { st with left:=dec st.left,fs:=cL st.fs ⟨n.data.toList,f.firm++f.pend,[]⟩ }∧dY p b (w1.alloc (.cells #[.string f1,.string f2] 142)) w2) (λ_ w3 hf1 hs1 hd1=>(eF w3 _ _ _ p b { st with left:=dec st.left } n f1 f2 (HC.out.fr hf1 (by omega) (by omega)) (HX.out.fr hf1 (by omega)) hd1 hn f HG.out HF.out.1 HF.out.2).mono (λe w2 h2=>⟨h2.1,h2.2.1,hf1.toD1.trans h2.2.2⟩))).mono ?_;rintro e w7 (⟨h0,rfl,hf7,hd7⟩|⟨h0,rfl,hd7,hf7⟩)
   ·have H7:=hid hd7
    have F7:=hid hf7;have H0:=hid h0;clear hd7 hf7 h0;go_wp2;go_ret;have e1:eD st n.data.toList=({ st with dark:=true },45):=by unfold eD;rw[if_neg (by rw[HD.out];simp),HG.out];exact if_pos H0.out
    rw[e1];exact⟨rfl,H7.out,(Fr.pure HB.out).trans F7.out.toD1⟩
   ·have H7:=hid hd7
    have F7:=hid hf7;have H0:=hid h0;clear hd7 hf7 h0;go_wp2;go_ret;have e1:eD st n.data.toList=({ st with left:=dec st.left,fs:=cL st.fs ⟨n.data.toList,f.firm++f.pend,[]⟩ },0):=by unfold eD;rw[if_neg (by rw[HD.out];simp),HG.out];exact if_neg H0.out
    rw[e1];exact⟨rfl,H7.out,(Fr.pure HB.out).trans F7.out⟩
 ·obtain⟨hb1,rfl⟩:=ex hf hd
  have HD:=hid hd;have hb6:=hid (((eA w _ _ hb1).alloc (by have:=hb1.size;simp at this;omega) (.cells #[.string ⟨#[]⟩,.string ⟨#[]⟩] 142)));clear hd hf hb1;go_wp2;go_ret;have e1:eD st n.data.toList=(st,45):=by unfold eD;rw[HD.out];rfl
  rw[e1];exact⟨rfl,H.out.pure hb6.out,Fr.pure hb6.out⟩
theorem eH (a b:ByteArray):(a++b).data.toList=a.data.toList++b.data.toList:=by simp
def eI (st:cZ)(n:List UInt8):List UInt8×Int:=
 if st.dark then ([],45) else match cM st.fs n with|none=>([],5)|some f=>(f.firm++f.pend,0)
def eJ (r:List UInt8×Int)(w:World)(e:Ending)(w':World):Prop:=(∃s:ByteArray,s.data.toList=r.1∧e = .returned (.tuple #[.string s,.int .i64 r.2]))∧Below w.heap.size w w'
theorem eK (w:World)(p b:Nat)(st:cZ)(h:db w p b st)(n:ByteArray)(hn:n.size≤maxLen) :
  Calls prog 56 #[.pointer (some ⟨p,0,none⟩),.string n] w λe w'=>eJ (eI st n.data.toList) w e w':=by
 have H:=hid h;clear h
 go_enter func56,ntmps56
 go_wp2_with fail
 refine(dm _ p b st H.out n hn).mono ?_;intro e w1 hf;cases hd:st.dark
 ·cases hg:cM st.fs n.data.toList with
  | none=>
   obtain⟨hb1,rfl⟩:=ey hf hd hg;have HD:=hid hd;have HG:=hid hg;have HB:=hid (hb1.alloc hb1.size (.cells #[.string ⟨#[]⟩,.string ⟨#[]⟩] 142));clear hd hg hf hb1;go_wp2;refine bodyPost_ret (v:=.tuple #[.string ⟨#[]⟩,.int .i64 5]) (by simp[results,results56,go_sem];rfl) rfl ⟨⟨⟨#[]⟩,?_,?_⟩,HB.out⟩
   ·unfold eI;rw[if_neg (by rw[HD.out];simp),HG.out]
   ·unfold eI;rw[if_neg (by rw[HD.out];simp),HG.out]
  | some f=>
   obtain⟨hb1,f1,f2,hf1,hf2,rfl⟩:=ez hf hd hg;have HD:=hid hd;have HG:=hid hg;have HF:=hid (And.intro hf1 hf2);have hsm:=H.out.ok.fs.small f (cW hg).2;have hsz:f1.size+f2.size≤9223372036854775807:=by rw[ao hf1,ao hf2];omega
   have HB:=hid (hb1.alloc hb1.size (.cells #[.string f1,.string f2] 142));clear hd hg hf hb1 hf1 hf2 hsm;go_wp2;refine bodyPost_ret (v:=.tuple #[.string (f1++f2),.int .i64 0]) (by simp[results,results56,go_sem]) rfl ⟨⟨f1++f2,?_,?_⟩,HB.out⟩
   ·unfold eI;rw[if_neg (by rw[HD.out];simp),HG.out];show(f1++f2).data.toList=f.firm++f.pend;rw[← HF.out.1,← HF.out.2];exact eH f1 f2
   ·unfold eI;rw[if_neg (by rw[HD.out];simp),HG.out]
 ·obtain⟨hb1,rfl⟩:=ex hf hd
  have HD:=hid hd;have HB:=hid (hb1.alloc hb1.size (.cells #[.string ⟨#[]⟩,.string ⟨#[]⟩] 142));clear hd hf hb1;go_wp2;refine bodyPost_ret (v:=.tuple #[.string ⟨#[]⟩,.int .i64 45]) (by simp[results,results56,go_sem];rfl) rfl ⟨⟨⟨#[]⟩,?_,?_⟩,HB.out⟩
  ·unfold eI;rw[if_pos HD.out]
  ·unfold eI;rw[if_pos HD.out]
def eL (st:cZ)(a c:List UInt8):cZ×Int:=
 if st.dark then (st,45) else match cM st.fs a with
  | none=>(st,5)
  | some f=>if !cY c then (st,4) else if a=c then (st,1) else dZ st (cL (cK st.fs a) ⟨c,f.firm,f.pend⟩)
theorem db.off {w:World}{p b:Nat}{st:cZ}(h:db w p b st){q o:Nat}{v:Value}(hc:w.cell? ⟨q,o,none⟩=some v):q≠b:=by
 intro e;obtain⟨es,clock,hb,_⟩:=h.own;subst e;unfold World.cell? at hc;rw[hb]at hc;simp at hc
theorem eM (w:World)(q r g s p b:Nat)(st:cZ)(n m f1 f2:ByteArray)(hc:Capt w q r p n)(hm:w.cell? ⟨s,0,none⟩=some (.string m))(hx:BoxAt w g f1 f2)(h:db w p b st)(hn:n.size≤maxLen)(hml:m.size≤24)
  (f:cy) (hg:cM st.fs n.data.toList=some f) (hf1:f1.data.toList=f.firm) (hf2:f2.data.toList=f.pend) :
  Calls prog 130 #[.pointer (some ⟨q,0,none⟩),.pointer (some ⟨r,0,none⟩),.pointer (some ⟨g,0,none⟩),.pointer (some ⟨s,0,none⟩)] w λe w'=>d9 p b { st with fs:=cL (cK st.fs n.data.toList) ⟨m.data.toList,f.firm,f.pend⟩ } w e w':=by
 have H:=hid h;have hx1:=hc.cq;have hx2:=hc.cr;obtain⟨c0,c1,c2,c3⟩:=h.cs;have hsm:=h.ok.fs.small f (cW hg).2;have HK:=hid (WideMaps.keyOf_string_mk underlying9 hn);have HKm:=hid (WideMaps.keyOf_string_mk underlying9 (Nat.le_trans hml (by unfold maxLen;omega):m.size≤maxLen));have hud:=dV (dw h.ok.fs) hg;have hfit:=h.ok.fits;have HE1:=hid (show dW (cK st.fs n.data.toList)∧(cX (cK st.fs n.data.toList):Int)≤st.cap from⟨h.ok.fs.keep.del _,by omega⟩);have HE:=hid (show dW (cL (cK st.fs n.data.toList) ⟨m.data.toList,f.firm,f.pend⟩)∧(cX (cL (cK st.fs n.data.toList) ⟨m.data.toList,f.firm,f.pend⟩):Int)≤st.cap from⟨HE1.out.1.put (by show(cK (cK st.fs n.data.toList) m.data.toList).length<64;have:=h.ok.fs.few;have:=dS (cK st.fs n.data.toList) m.data.toList;omega) hsm (by rw[ak];exact hml),by rw[dX];show(((f.firm.length+f.pend.length)+cX (cK (cK st.fs n.data.toList) m.data.toList):Nat):Int)≤st.cap;have:=dT (cK st.fs n.data.toList) m.data.toList;omega⟩);have hqb:=h.off hc.cq;have hrb:=h.off hc.cr;have hgb:=h.off hx.c0;have hsb:=h.off hm;obtain⟨w1,hrun,hown1,hturn1⟩:=H.out.drew.own.drop (t:=146) (e:=142) Tryz.strKey underlying146 (key:=.string n) HK.out 0;have HO:=hid (H.out.drew.turned (fs':=cK st.fs n.data.toList) (by rw[← cQ];exact hown1) hturn1 HE1.out.1 HE1.out.2);have HT:=hid (dJ hturn1);have hy1:=HT.out.cellAt (show w.drew.cell? _=_ from hc.cq) hqb;have hy3:=HT.out.cellAt (show w.drew.cell? _=_ from hm) hsb;have hy4:=HT.out.cellAt (show w.drew.cell? _=_ from hx.c0) hgb;have hy5:=HT.out.cellAt (show w.drew.cell? _=_ from hx.c1) hgb;obtain⟨e0,e1,e2,e3⟩:=HO.out.cs;clear hown1 hturn1;obtain⟨w2,hrun2,hown2,hturn2⟩:=HO.out.drew.own.store (t:=146) (e:=142) Tryz.strKey underlying146 HO.out.fewer (key:=.string m) (val:=.agg #[.string f1,.string f2]) HKm.out (cF _ _);have HO2:=hid (HO.out.drew.turned (fs':=cL (cK st.fs n.data.toList) ⟨m.data.toList,f.firm,f.pend⟩) (by rw[← cR];show w2.ownsMap prog 9 cC b _ ((fsD (cK st.fs n.data.toList)).put (.string m.data.toList) (.agg [.lit (.string f.firm),.lit (.string f.pend)]));rw[← hf1,← hf2];exact hown2) hturn2 HE.out.1 HE.out.2);have HT2:=hid (dJ hturn2);clear hown2 hturn2 hc h hn hud hsm hg hf1 hf2 hx hm hml hqb hrb hgb hsb hfit
 go_enter func130,ntmps130
 go_wp2
 go_region
 go_wp2
 go_region
 go_wp2
 go_end0
 exact⟨rfl,HO2.out,((((Fr.refl _ w).drew.trans HT.out).drew).trans HT2.out).toD⟩
theorem eN (w:World)(o1 o2 o3:Obj):Below w.heap.size w (((w.alloc o1).alloc o2).alloc o3):=(ek w o1 o2).alloc (by simp;omega) _
theorem eO (w:World)(o1 o2 o3:Obj){w1:World}(h:Below ((((w.alloc o1).alloc o2).alloc o3).heap.size) (((w.alloc o1).alloc o2).alloc o3) w1):Below w.heap.size w w1:=(eN w o1 o2 o3).trans (h.mono (by simp;omega))
theorem eP {w w':World}{p:Nat}{n m:ByteArray}{t1 t2 t3:TypeId}(h:Fr (λ_=>False) (((w.alloc (.cells #[.pointer (some ⟨p,0,none⟩)] t1)).alloc (.cells #[.string n] t2)).alloc (.cells #[.string m] t3)) w'):Capt w' w.heap.size (w.heap.size+1) p n∧w'.cell? ⟨w.heap.size+2,0,none⟩=some (.string m):=
 ⟨⟨h.cellAt (by rw[World.cell?_alloc_past _ _ _ (by simp;omega),World.cell?_alloc_past _ _ _ (by simp),World.cell?_alloc_at _ _ _ _ rfl];rfl) (λh=>h),h.cellAt (by rw[World.cell?_alloc_past _ _ _ (by simp),World.cell?_alloc_at _ _ _ _ (by simp)];rfl) (λh=>h)⟩,h.cellAt (by rw[World.cell?_alloc_at _ _ _ _ (by simp)];rfl) (λh=>h)⟩
theorem eQ (w:World)(p b:Nat)(st:cZ)(h:db w p b st)(n m:ByteArray)(hn:n.size≤maxLen)(hm:m.size≤9223372036854775807) :
  Calls prog 67 #[.pointer (some ⟨p,0,none⟩),.string n,.string m] w λe w'=>d8 p b (eL st n.data.toList m.data.toList) w e w':=by
 have hmf:∀(fn:Fn) (first cap:Array Value) (w:World),(Instr.makeFunc fn first cap).run prog w = .ok (.func fn first cap) w:=λ_ _ _ _=>rfl;have hp:=h.lt;have hbl:=h.own.lt;have H:=hid h;have H1:=hid (h.pure (eN w (.cells #[.pointer (some ⟨p,0,none⟩)] 31) (.cells #[.string n] 9) (.cells #[.string m] 9)));clear h
 go_enter func67,ntmps67
 go_wp2_with fail
 refine(dm _ p b st H1.out n hn).mono ?_;intro e w1 hf;cases hd:st.dark
 ·cases hg:cM st.fs n.data.toList with
  | none=>
   obtain⟨hb1,rfl⟩:=ey hf hd hg;have HD:=hid hd;have HG:=hid hg;have hb6:=hid (((eO w _ _ _ hb1).alloc (by have:=hb1.size;simp at this;omega) (.cells #[.string ⟨#[]⟩,.string ⟨#[]⟩] 142)));clear hd hg hf hb1;go_wp2;go_ret;have e1:eL st n.data.toList m.data.toList=(st,5):=by unfold eL;rw[if_neg (by rw[HD.out];simp),HG.out]
   rw[e1];exact⟨rfl,H.out.pure hb6.out,Fr.pure hb6.out⟩
  | some f=>
   obtain⟨hb1,f1,f2,hf1,hf2,rfl⟩:=ez hf hd hg;have HD:=hid hd;have HG:=hid hg;have HF:=hid (And.intro hf1 hf2);have hs1:=hb1.size;simp at hs1;have HB:=hid (((eO w _ _ _ hb1).alloc (by omega) (.cells #[.string f1,.string f2] 142)));have HC:=hid (eP (((Fr.refl _ _).andPure hb1).alloc (.cells #[.string f1,.string f2] 142)));have HX:=hid (eE (Fr.refl (λ_=>False) _):BoxAt (w1.alloc (.cells #[.string f1,.string f2] 142)) w1.heap.size f1 f2);clear hd hg hf hb1 hf1 hf2;have hx1:=HC.out.1.cq;have hx2:=HC.out.1.cr;have hx3:=HC.out.2
   go_wp2_with fail
   refine(dI m _ hm).mono ?_;rintro e w3 ⟨rfl,hb3⟩;have hs3:=hb3.size;simp at hs3;have HB3:=hid (HB.out.trans (hb3.mono (by simp;omega)));have HC3:=hid (And.intro (HC.out.1.fr (Fr.pure (S:=λ_=>False) hb3) (λh=>h) (λh=>h)) ((Fr.pure (S:=λ_=>False) hb3).cellAt HC.out.2 (λh=>h)));have HX3:=hid (HX.out.fr (Fr.pure (S:=λ_=>False) hb3) (λh=>h));clear hb3 hx1 hx2 hx3;have hx1:=HC3.out.1.cq;have hx2:=HC3.out.1.cr;have hx3:=HC3.out.2;cases hmn:cY m.data.toList
   ·have HM:=hid hmn
    clear hmn;go_wp2;go_ret;have e1:eL st n.data.toList m.data.toList=(st,4):=by unfold eL;rw[if_neg (by rw[HD.out];simp),HG.out,HM.out];rfl
    rw[e1];exact⟨rfl,H.out.pure HB3.out,Fr.pure HB3.out⟩
   ·have HM:=hid hmn
    clear hmn;by_cases hnm:n=m
    ·have HNM:=hid hnm
     have htr:=ar (show n.data.toList=m.data.toList from by rw[hnm]);clear hnm;go_wp2;go_ret;have e1:eL st n.data.toList m.data.toList=(st,1):=by unfold eL;rw[if_neg (by rw[HD.out];simp),HG.out,HM.out];show(if (!true)=true then _ else if _=_ then _ else _)=_;rw[if_neg (by simp),if_pos (by rw[HNM.out])]
     rw[e1];exact⟨rfl,H.out.pure HB3.out,Fr.pure HB3.out⟩
    ·have HNM:=hid hnm
     have htr:=au (show n.data.toList≠m.data.toList from λe=>hnm (am e));clear hnm
     go_wp2_with fail
     refine(dL 130 _ _ p b st (H.out.pure HB3.out) (enters_of func130 (by kernel_rfl) rfl) (λw2=>db w2 p b { st with left:=dec st.left,fs:=cL (cK st.fs n.data.toList) ⟨m.data.toList,f.firm,f.pend⟩ }∧dY p b w3 w2) (λ_ w4 hf1 hs1 hd1=>(eM w4 _ _ _ _ p b { st with left:=dec st.left } n m f1 f2 (HC3.out.1.fr hf1 (by omega) (by omega)) (hf1.cellAt HC3.out.2 (by omega)) (HX3.out.fr hf1 (by omega)) hd1 hn (by have:=ei HM.out;rw[ak]at this;exact this) f HG.out HF.out.1 HF.out.2).mono (λe w2 h2=>⟨h2.1,h2.2.1,hf1.toD1.trans h2.2.2⟩))).mono ?_;rintro e w7 (⟨h0,rfl,hf7,hd7⟩|⟨h0,rfl,hd7,hf7⟩)
     ·have H7:=hid hd7
      have F7:=hid hf7;have H0:=hid h0;clear hd7 hf7 h0;go_wp2;go_ret;have e1:eL st n.data.toList m.data.toList=({ st with dark:=true },45):=by unfold eL;rw[if_neg (by rw[HD.out];simp),HG.out,HM.out];show(if (!true)=true then _ else if _=_ then _ else _)=_;rw[if_neg (by simp),if_neg (λe=>HNM.out (am e))];exact if_pos H0.out
      rw[e1];exact⟨rfl,H7.out,(Fr.pure HB3.out).trans F7.out.toD1⟩
     ·have H7:=hid hd7
      have F7:=hid hf7;have H0:=hid h0;clear hd7 hf7 h0;go_wp2;go_ret;have e1:eL st n.data.toList m.data.toList=({ st with left:=dec st.left,fs:=cL (cK st.fs n.data.toList) ⟨m.data.toList,f.firm,f.pend⟩ },0):=by unfold eL;rw[if_neg (by rw[HD.out];simp),HG.out,HM.out];show(if (!true)=true then _ else if _=_ then _ else _)=_;rw[if_neg (by simp),if_neg (λe=>HNM.out (am e))];exact if_neg H0.out
      rw[e1];exact⟨rfl,H7.out,(Fr.pure HB3.out).trans F7.out⟩
 ·obtain⟨hb1,rfl⟩:=ex hf hd
  have HD:=hid hd;have hb6:=hid (((eO w _ _ _ hb1).alloc (by have:=hb1.size;simp at this;omega) (.cells #[.string ⟨#[]⟩,.string ⟨#[]⟩] 142)));clear hd hf hb1;go_wp2;go_ret;have e1:eL st n.data.toList m.data.toList=(st,45):=by unfold eL;rw[if_pos HD.out]
  rw[e1];exact⟨rfl,H.out.pure hb6.out,Fr.pure hb6.out⟩
end
section
open Go.RowKit Go.Maps Go.Sort
def eR (st:cZ)(n x:List UInt8):cZ×Int:=
 if st.dark then (st,45) else match cM st.fs n with
  | none=>(st,5)
  | some f=>if (1048576:Int)-((f.firm.length+f.pend.length:Nat):Int)<(x.length:Int)∨st.cap-(cX st.fs:Int)<(x.length:Int) then (st,44)
   else if st.left=0 then ({ st with dark:=true,fs:=cL st.fs ⟨n,f.firm,f.pend++x⟩ },45) else ({ st with left:=dec st.left,fs:=cL st.fs ⟨n,f.firm,f.pend++x⟩ },0)
theorem eS (w:World):Calls prog 118 #[] w λe w'=>e = .returned (.tuple #[])∧w=w':=by
 go_enter func118,ntmps118
 go_wp2
 go_end0
 exact⟨rfl,rfl⟩
theorem eT (w:World)(p b:Nat)(st:cZ)(h:db w p b st)(n f1 f3:ByteArray)(hn:n.size≤maxLen)(f:cy)(hg:cM st.fs n.data.toList=some f)(firm pend:List UInt8)(h1:f1.data.toList=firm)(h3:f3.data.toList=pend)
  (hsm:firm.length+pend.length≤1048576) (hft:(cX st.fs:Int)+((firm.length+pend.length:Nat):Int)≤st.cap+((f.firm.length+f.pend.length:Nat):Int)) :
  ∃w6,(Instr.mapUpdate 146 (.map (some b)) (.string n) (.agg #[.string f1,.string f3])).run prog w.drew = .ok () w6∧db w6 p b { st with fs:=cL st.fs ⟨n.data.toList,firm,pend⟩ }∧Fr (λk=>k=b) w w6:=by
 obtain⟨w6,hrun,hown,hturn⟩:=h.drew.own.store (t:=146) (e:=142) Tryz.strKey underlying146 h.fewer (key:=.string n) (val:=.agg #[.string f1,.string f3]) (WideMaps.keyOf_string_mk underlying9 hn) (cF _ _);have hud:=dV (dw h.ok.fs) hg;refine⟨w6,hrun,h.drew.turned (n:=st.fs.length+1) (fs':=cL st.fs ⟨n.data.toList,firm,pend⟩) ?_ hturn ?_ ?_,(Fr.refl _ w).drew.trans (dJ hturn)⟩
 ·rw[← cR]
  show w6.ownsMap prog 9 cC b _ ((fsD st.fs).put (.string n.data.toList) (.agg [.lit (.string firm),.lit (.string pend)]));rw[← h1,← h3];exact hown
 ·exact h.ok.fs.keep.put (by show(cK st.fs n.data.toList).length<64;have:=h.ok.fs.few;omega) hsm (by show n.data.toList.length≤24;rw[← (cW hg).1];exact h.ok.fs.names f (cW hg).2)
 ·rw[dX]
  show(((firm.length+pend.length)+cX (cK st.fs n.data.toList):Nat):Int)≤st.cap;omega
theorem eU (w:World)(p b:Nat)(st:cZ)(h:db w p b st)(n x:ByteArray)(hn:n.size≤maxLen)(hx:x.size≤140737488355328) :
  Calls prog 51 #[.pointer (some ⟨p,0,none⟩),.string n,.string x] w λe w'=>d8 p b (eR st n.data.toList x.data.toList) w e w':=by
 have hmf:∀(fn:Fn) (first cap:Array Value) (w:World),(Instr.makeFunc fn first cap).run prog w = .ok (.func fn first cap) w:=λ_ _ _ _=>rfl;have hp:=h.lt;have hbl:=h.own.lt;have H:=hid h;clear h
 go_enter func51,ntmps51
 go_wp2_with fail
 refine(dm _ p b st H.out n hn).mono ?_;intro e w1 hf;cases hd:st.dark
 ·cases hg:cM st.fs n.data.toList with
  | none=>
   obtain⟨hb1,rfl⟩:=ey hf hd hg;have HD:=hid hd;have HG:=hid hg;have hb6:=hid (hb1.alloc hb1.size (.cells #[.string ⟨#[]⟩,.string ⟨#[]⟩] 142));clear hd hg hf hb1;go_wp2;go_ret;have e1:eR st n.data.toList x.data.toList=(st,5):=by unfold eR;rw[if_neg (by rw[HD.out];simp),HG.out]
   rw[e1];exact⟨rfl,H.out.pure hb6.out,Fr.pure hb6.out⟩
  | some f=>
   obtain⟨hb1,f1,f2,hf1,hf2,rfl⟩:=ez hf hd hg;have HD:=hid hd;have HG:=hid hg;have HF:=hid (And.intro hf1 hf2);have hs1:=hb1.size;have HB:=hid (hb1.alloc hb1.size (.cells #[.string f1,.string f2] 142));have hsm:=H.out.ok.fs.small f (cW hg).2;have hsz:f1.size+f2.size≤1048576:=by rw[ao hf1,ao hf2];omega
   have HX:=hid (eE (Fr.refl (λ_=>False) _):BoxAt (w1.alloc (.cells #[.string f1,.string f2] 142)) w1.heap.size f1 f2);have hs2:w1.heap.size<(w1.alloc (.cells #[.string f1,.string f2] 142)).heap.size:=by simp
   have hz2:∀w',Below (w1.alloc (.cells #[.string f1,.string f2] 142)).heap.size (w1.alloc (.cells #[.string f1,.string f2] 142)) w'→w'.frozen? ⟨w1.heap.size,1,none⟩=false:=λw' hb=>(hb.frozen (by simp)).trans (World.frozen?_alloc_at _ _ _ _ rfl);have H2:=hid (H.out.pure HB.out);have hul:=dc H.out.ok.fs;have hcap0:=H.out.ok.cap0;have hcap1:=H.out.ok.cap1;have w1e:IntKind.i64.wrap ((1048576:Int)-((f1.size:Int)+(f2.size:Int)))=(1048576:Int)-((f1.size:Int)+(f2.size:Int)):=IntWalk.i64_in _ (by omega);have w2e:IntKind.i64.wrap (st.cap-(cX st.fs:Int))=st.cap-(cX st.fs:Int):=IntWalk.i64_in _ (by omega);clear hd hg hf hb1 hf1 hf2
   go_wp2_with fail
   generalize w1.alloc (.cells #[.string f1,.string f2] 142)=w2 at *
   generalize w1.heap.size=g at *
   obtain⟨c0,c1,c2,c3⟩:=H2.out.cs;have k1:=cell_regrown c1;have k2:=cell_regrown HX.out.c0;have k3:=cell_regrown HX.out.c1;have q1:∀d os,Calls prog 117 #[.agg #[.string f1,.string f2]] (grow (redrawn w2 d) os) λe w''=>e = .returned (.int .i64 ((f1.size+f2.size:Nat):Int))∧∃p:Regrown,w''=grow (redrawn w2 p.d) p.os:=λd os=>Calls.regrown_of (dn _ f1 f2 (by omega));have q2:∀d os,Calls prog 88 #[.pointer (some ⟨p,0,none⟩)] (grow (redrawn w2 d) os) λe w''=>e = .returned (.int .i64 (cX st.fs:Int))∧∃p:Regrown,w''=grow (redrawn w2 p.d) p.os:=λd os=>Calls.regrown_of (dE _ p b st (H2.out.pure (below_regrown w2 d os)));by_cases hb1:(1048576:Int)-((f1.size:Int)+(f2.size:Int))<(x.size:Int)
   ·have hd1:decide (IntKind.i64.wrap (1048576-((f1.size:Int)+(f2.size:Int)))<(x.size:Int))=true:=by rw[w1e];simpa using hb1
    clear w1e w2e;refine wp_region_quiet_below (by kernel_rfl) (by kernel_rfl) ?_
    repeat (go_big_quiet_step (first|exact q1 _ _|exact q2 _ _))
    refine wpQuiet_nil ?_;intro _ hw';obtain⟨⟨dq,osq⟩,hw''⟩:=hw';subst hw'';have HB3:=hid (HB.out.trans ((below_regrown w2 dq osq).mono (by omega)))
    generalize grow (redrawn w2 dq) osq=w3 at *
    go_wp2;go_ret;have e1:eR st n.data.toList x.data.toList=(st,44):=by
     unfold eR;rw[if_neg (by rw[HD.out];simp),HG.out];show(if _ then _ else _)=_;rw[if_pos (.inl (by rw[← HF.out.1,← HF.out.2,ak,ak,ak];omega))]
    rw[e1];exact⟨rfl,H.out.pure HB3.out,Fr.pure HB3.out⟩
   ·have hd1:decide (IntKind.i64.wrap (1048576-((f1.size:Int)+(f2.size:Int)))<(x.size:Int))=false:=by rw[w1e];simpa using hb1
    by_cases hb2:st.cap-(cX st.fs:Int)<(x.size:Int)
    ·have hd2:decide (IntKind.i64.wrap (st.cap-(cX st.fs:Int))<(x.size:Int))=true:=by rw[w2e];simpa using hb2
     clear w1e w2e;refine wp_region_quiet_below (by kernel_rfl) (by kernel_rfl) ?_
     repeat (go_big_quiet_step (first|exact q1 _ _|exact q2 _ _))
     refine wpQuiet_nil ?_;intro _ hw';obtain⟨⟨dq,osq⟩,hw''⟩:=hw';subst hw'';have HB3:=hid (HB.out.trans ((below_regrown w2 dq osq).mono (by omega)))
     generalize grow (redrawn w2 dq) osq=w3 at *
     go_wp2;go_ret;have e1:eR st n.data.toList x.data.toList=(st,44):=by
      unfold eR;rw[if_neg (by rw[HD.out];simp),HG.out];show(if _ then _ else _)=_;rw[if_pos (.inr (by rw[ak];omega))]
     rw[e1];exact⟨rfl,H.out.pure HB3.out,Fr.pure HB3.out⟩
    ·have hd2:decide (IntKind.i64.wrap (st.cap-(cX st.fs:Int))<(x.size:Int))=false:=by rw[w2e];simpa using hb2
     clear w1e w2e;have HNB:=hid (show ¬((1048576:Int)-((f.firm.length+f.pend.length:Nat):Int)<(x.data.toList.length:Int)∨st.cap-(cX st.fs:Int)<(x.data.toList.length:Int))from by
      rw[← HF.out.1,← HF.out.2,ak,ak,ak];omega)
     have HL:=hid (show f.firm.length+(f.pend.length+x.data.toList.length)≤1048576∧(cX st.fs:Int)+((f.firm.length+(f.pend.length+x.data.toList.length):Nat):Int)≤st.cap+((f.firm.length+f.pend.length:Nat):Int)from by
      rw[← HF.out.1,← HF.out.2,ak,ak,ak];omega)
     have hsx:f2.size+x.size≤9223372036854775807:=by omega
     refine wp_region_quiet_below (by kernel_rfl) (by kernel_rfl) ?_
     repeat (go_big_quiet_step (first|exact q1 _ _|exact q2 _ _))
     refine wpQuiet_nil ?_;intro _ hw';obtain⟨⟨dq,osq⟩,hw''⟩:=hw';subst hw'';have hb3:=below_regrown w2 dq osq;have HB3:=hid (HB.out.trans (hb3.mono (by omega)));have hz3:=hz2 _ hb3;have HX3:=hid (HX.out.fr (Fr.pure (S:=λ_=>False) hb3) (λh=>h));have hs3:=hb3.size;clear hb3 q1 q2 k1 k2 k3 c0 c1 c2 c3 hd1 hd2 hz2
     generalize grow (redrawn w2 dq) osq=w3 at *
     have y1:=HX3.out.c0;have y2:=HX3.out.c1;have hf4:=dK (w:=w3) ⟨g,1,none⟩ (.string (f2++x));have H4:=hid ((H.out.pure HB3.out).kept hf4 (by show ¬p=g;omega) (by show ¬b=g;omega));have HX4:=hid (show BoxAt (w3.setCell ⟨g,1,none⟩ (.string (f2++x))) g f1 (f2++x)from⟨by rw[World.cell?_setCell_other _ _ _ _ (by simp)];exact HX3.out.c0,World.cell?_setCell_same _ _ _ HX3.out.c1⟩)
     go_wp2_with fail
     refine(dL 118 #[] _ p b st H4.out (enters_of func118 (by kernel_rfl) rfl) (λw2=>db w2 p b { st with left:=dec st.left }∧Fr (λk=>k=p) (w3.setCell ⟨g,1,none⟩ (.string (f2++x))) w2) (λ_ w5 hf1 hs1 hd1=>(eS w5).mono (λe w2 h2=>⟨h2.1,by rw[← h2.2];exact⟨hd1,hf1⟩⟩))).mono ?_;rintro e w5 (⟨h0,rfl,hf5,hd5⟩|⟨h0,rfl,hd5,hf5⟩)
     ·have H0:=hid h0
      obtain⟨w6,hrun,hd6,hf6⟩:=eT w5 p b _ hd5 n f1 (f2++x) hn f HG.out f.firm (f.pend++x.data.toList) HF.out.1 (by rw[eH,HF.out.2]) (by rw[List.length_append];exact HL.out.1) (by rw[List.length_append];exact HL.out.2);have hx5:=HX4.out.fr hf5 (by omega);have y1:=hx5.c0;have y2:=hx5.c1;obtain⟨e0,e1,e2,e3⟩:=hd5.cs;have H6:=hid hd6;have F6:=hid ((((Fr.pure (S:=λk=>k=p∨k=b) HB3.out).then hf4 (λi hi e=>absurd (show i=g from e) (by omega)))).trans (hf5.toD1.trans hf6.toD));clear h0 hx5 hd5 hf5 hd6 hf6
      go_wp2_with fail
      go_region
      go_wp2;go_ret;have e1:eR st n.data.toList x.data.toList=({ st with dark:=true,fs:=cL st.fs ⟨n.data.toList,f.firm,f.pend++x.data.toList⟩ },45):=by unfold eR;rw[if_neg (by rw[HD.out];simp),HG.out];show(if _ then _ else _)=_;rw[if_neg HNB.out,if_pos H0.out]
      rw[e1];exact⟨rfl,H6.out,F6.out⟩
     ·have H0:=hid h0
      obtain⟨w6,hrun,hd6,hf6⟩:=eT w5 p b _ hd5 n f1 (f2++x) hn f HG.out f.firm (f.pend++x.data.toList) HF.out.1 (by rw[eH,HF.out.2]) (by rw[List.length_append];exact HL.out.1) (by rw[List.length_append];exact HL.out.2);have hx5:=HX4.out.fr hf5 (by omega);have y1:=hx5.c0;have y2:=hx5.c1;obtain⟨e0,e1,e2,e3⟩:=hd5.cs;have H6:=hid hd6;have F6:=hid ((((Fr.pure (S:=λk=>k=p∨k=b) HB3.out).then hf4 (λi hi e=>absurd (show i=g from e) (by omega)))).trans (hf5.toD1.trans hf6.toD));clear h0 hx5 hd5 hf5 hd6 hf6
      go_wp2_with fail
      go_region
      go_wp2;go_ret;have e1:eR st n.data.toList x.data.toList=({ st with left:=dec st.left,fs:=cL st.fs ⟨n.data.toList,f.firm,f.pend++x.data.toList⟩ },0):=by unfold eR;rw[if_neg (by rw[HD.out];simp),HG.out];show(if _ then _ else _)=_;rw[if_neg HNB.out,if_neg H0.out]
      rw[e1];exact⟨rfl,H6.out,F6.out⟩
 ·obtain⟨hb1,rfl⟩:=ex hf hd
  have HD:=hid hd;have hb6:=hid (hb1.alloc hb1.size (.cells #[.string ⟨#[]⟩,.string ⟨#[]⟩] 142));clear hd hf hb1;go_wp2;go_ret;have e1:eR st n.data.toList x.data.toList=(st,45):=by unfold eR;rw[if_pos HD.out]
  rw[e1];exact⟨rfl,H.out.pure hb6.out,Fr.pure hb6.out⟩
def eV (w:World)(sv:Value)(l:Fs):Prop:=
 ∃a c,sv = .slice a l.length c∧(l=[]∨∃b o,a=some ⟨b,o,none⟩∧∀i (h:i<l.length),∃x y z:ByteArray,x.data.toList=l[i].name∧y.data.toList=l[i].firm∧z.data.toList=l[i].pend ∧
  w.cell? ⟨b,o+i*3,none⟩=some (.string x)∧w.cell? ⟨b,o+i*3+1,none⟩=some (.string y)∧w.cell? ⟨b,o+i*3+2,none⟩=some (.string z))
theorem eV.shape {w:World}{sv:Value}{l:Fs}(h:eV w sv l):∃a c,sv = .slice a l.length c:=by obtain⟨a,c,h,_⟩:=h;exact⟨a,c,h⟩
theorem eV.at {w:World}{a:Option Addr}{c n:Nat}{l:Fs}(h:eV w (.slice a n c) l)(k:Nat)(hk:k<l.length) :
  ∃b o,a=some ⟨b,o,none⟩∧b<w.heap.size∧∃x y z:ByteArray,x.data.toList=l[k].name∧y.data.toList=l[k].firm∧z.data.toList=l[k].pend ∧
   w.cell? ⟨b,o+k*3,none⟩=some (.string x)∧w.cell? ⟨b,o+k*3+1,none⟩=some (.string y)∧w.cell? ⟨b,o+k*3+2,none⟩=some (.string z):=by
 obtain⟨a',c',he,h|⟨b,o,rfl,h⟩⟩:=h
 ·subst h;simp at hk
 ·cases he
  obtain⟨x,y,z,h1,h2,h3,h4,h5,h6⟩:=h k hk;exact⟨b,o,rfl,aw h4,x,y,z,h1,h2,h3,h4,h5,h6⟩
def eW (cnt:Nat):List UInt8→Fs→Bool
 | _,[]=>true
 | last,f::r=>(cY f.name && bytesBefore last f.name && decide (f.firm.length+f.pend.length≤1048576) && decide (cnt≤64)) && eW cnt f.name r
def eX (cap:Int)(l:Fs):Option cZ×Int:=
 if cap<0 then (none,1) else if !eW l.length [] l then (none,4) else if cap<(cX l:Int) then (none,44) else (some ⟨l,cap,-1,false⟩,0)
structure eY (l:Fs) (k:Nat) (last:List UInt8):Prop where
 eq:eW l.length [] l=eW l.length last (l.drop k)
 sorted:(l.take k).Pairwise (λf g=>bytesBefore f.name g.name=true)
 upto:∀g∈l.take k,g.name=last∨bytesBefore g.name last=true
 keep:dW (l.take k)
theorem eZ {fs:Fs}{f:cy}(h:∀g∈fs,bytesBefore g.name f.name=true):cL fs f=fs++[f]:=by
 have hd:cK fs f.name=fs:=by
  unfold cK;rw[List.filter_eq_self];intro g hg;have:=du (h g hg);simpa using this
 unfold cL;rw[hd];clear hd
 induction fs with
 | nil=>rfl
 | cons g r ih=>
  have hg:=h g (by simp);have hn:bytesBefore f.name g.name=false:=by
   cases e:bytesBefore f.name g.name
   ·rfl
   ·have:=WideShapes.bytes_trans _ _ _ hg e;rw[WideAt.bytes_irrefl]at this;cases this
  unfold cJ;rw[hn,ih (λx hx=>h x (by simp[hx]))];rfl
theorem eY.start (l:Fs):eY l 0 []:=⟨rfl,by simp,by simp,⟨by simp,by simp,by simp⟩⟩
theorem ff {l:Fs}{k:Nat}{last:List UInt8}(hk:k<l.length):eW l.length last (l.drop k)=((cY l[k].name && bytesBefore last l[k].name && decide (l[k].firm.length+l[k].pend.length≤1048576) && decide (l.length≤64)) && eW l.length l[k].name (l.drop (k+1))):=by
 rw[List.drop_eq_getElem_cons hk];rfl
theorem eY.bad {l:Fs}{k:Nat}{last:List UInt8}(h:eY l k last)(hk:k<l.length)(hc:(cY l[k].name && bytesBefore last l[k].name && decide (l[k].firm.length+l[k].pend.length≤1048576) && decide (l.length≤64))=false):eW l.length [] l=false:=by
 rw[h.eq,ff hk,hc];rfl
theorem eY.before {l:Fs}{k:Nat}{last:List UInt8}(h:eY l k last)(hk:k<l.length)(hb:bytesBefore last l[k].name=true):∀g∈l.take k,bytesBefore g.name l[k].name=true:=by
 intro g hg
 rcases h.upto g hg with e|e
 ·rw[e];exact hb
 ·exact WideShapes.bytes_trans _ _ _ e hb
theorem eY.put {l:Fs}{k:Nat}{last:List UInt8}(h:eY l k last)(hk:k<l.length)(hb:bytesBefore last l[k].name=true):cL (l.take k) l[k]=l.take (k+1):=by
 rw[eZ (h.before hk hb),List.take_succ_eq_append_getElem hk]
theorem eY.next {l:Fs}{k:Nat}{last:List UInt8}(h:eY l k last)(hk:k<l.length)(h1:cY l[k].name=true)(h2:bytesBefore last l[k].name=true)(h3:l[k].firm.length+l[k].pend.length≤1048576)(h4:l.length≤64):eY l (k+1) l[k].name:=by
 have ht:l.take (k+1)=l.take k++[l[k]]:=List.take_succ_eq_append_getElem hk;refine⟨by rw[h.eq,ff hk,h1,h2,decide_eq_true h3,decide_eq_true h4];rfl,?_,?_,?_,?_,?_⟩
 ·rw[ht,List.pairwise_append]
  exact⟨h.sorted,by simp,λa ha b hb=>by rw[List.mem_singleton]at hb;subst hb;exact h.before hk h2 a ha⟩
 ·intro g hg
  rw[ht,List.mem_append,List.mem_singleton]at hg
  rcases hg with hg|rfl
  ·exact .inr (h.before hk h2 g hg)
  ·exact .inl rfl
 ·rw[List.length_take];omega
 ·intro g hg
  rw[ht,List.mem_append,List.mem_singleton]at hg
  rcases hg with hg|rfl
  ·exact h.keep.small g hg
  ·exact h3
 ·intro g hg
  rw[ht,List.mem_append,List.mem_singleton]at hg
  rcases hg with hg|rfl
  ·exact h.keep.names g hg
  ·exact ei h1
theorem eY.ok {l:Fs}{k:Nat}{last:List UInt8}(h:eY l k last)(hk:k=l.length):eW l.length [] l=true∧FsOk l:=by
 subst hk;have e:=h.eq;have h1:=h.sorted;have h2:=h.keep;rw[List.drop_length]at e;rw[List.take_length]at h1 h2;exact⟨e,h1,h2.few,h2.small,h2.names⟩
theorem fh:∀(a b:List UInt8),Op.bytesLess a b=bytesBefore a b
 | [],[]=>rfl
 | [],_::_=>rfl
 | _::_,[]=>rfl
 | a::r,b::s=>by unfold Op.bytesLess bytesBefore;rw[fh r s]
theorem fi (a b:List UInt8):(Op.bytesLess a b || a == b) = !bytesBefore b a:=by
 rw[fh];by_cases h:a=b
 ·subst h;rw[WideAt.bytes_irrefl];simp
 ·rw[show(a == b)=false from by simpa using h,Bool.or_false]
  rcases WideAt.bytes_total a b h with e|e
  ·rw[e]
   cases e2:bytesBefore b a
   ·rfl
   ·have:=WideShapes.bytes_trans _ _ _ e e2;rw[WideAt.bytes_irrefl]at this;cases this
  ·rw[e]
   cases e2:bytesBefore a b
   ·rfl
   ·have:=WideShapes.bytes_trans _ _ _ e e2;rw[WideAt.bytes_irrefl]at this;cases this
end
end Go.Proofs.YthjjgcfdhkhelaaGreatDoor
