/- A disk that has power, and no cut to come, plainly. -/
import Derived.Test.YtaeakdichkhjaaaGreatDoorQAe
import Derived.Lib.QuietBelow
set_option maxHeartbeats 2500000
open Go.Lib(hid)
namespace Go.Proofs.YtaeakdichkhjaaaGreatDoor
section
open Go.RowKit Go.Maps
set_option maxRecDepth 100000 in
theorem fJ (w:World)(q r p b:Nat)(st:DkSt)(n:ByteArray)(hc:Capt w q r p n)(h:IsDk w p b st)(hn:n.size≤maxLen) :
  Calls Tryz.prog 79 #[.pointer (some ⟨q,0,none⟩),.pointer (some ⟨r,0,none⟩)] w λe w'=>fy p b { st with fs:=dP st.fs n.data.toList } w e w':=by
 have H:=hid h;have hx1:=hc.cq;have hx2:=hc.cr;obtain⟨c0,c1,c2,c3⟩:=h.cs;have HK:=hid (WideMaps.keyOf_string_mk Tryz.underlying9 hn);have HE:=hid (show FsKeep (dP st.fs n.data.toList)∧(ec (dP st.fs n.data.toList):Int)≤st.cap from⟨h.ok.fs.keep.del _,by have:=h.ok.fits;have:=eX st.fs n.data.toList;omega⟩);clear hc h hn;obtain⟨w1,hrun,hown1,hturn1⟩:=H.out.drew.own.drop (t:=76) (e:=81) Tryz.strKey Tryz.underlying76 (key:=.string n) HK.out 0;have HO:=hid (H.out.drew.turned (fs':=dP st.fs n.data.toList) (by rw[← dU];exact hown1) hturn1 HE.out.1 HE.out.2);have HT:=hid (eN hturn1);clear hown1 hturn1
 go_enter Tryz.func79,Tryz.ntmps79
 go_region
 go_wp2
 go_end0
 exact⟨rfl,HO.out,((Fr.refl _ w).drew.trans HT.out).toD⟩
theorem fK {w w1:World}{st:DkSt}{n:List UInt8}{e:Ending}(h:ej w st n e w1)(hd:st.dark=true):Below w.heap.size w w1∧e = .returned (.tuple #[.agg #[.string ⟨#[]⟩,.string ⟨#[]⟩],.int .i64 45]):=by
 obtain⟨h1,a,b,h2⟩:=h;rw[if_pos hd]at h2;obtain⟨ha,hb,rfl⟩:=h2;have ea:a=⟨#[]⟩:=by cases a with|mk d=>simp at ha;rw[ha]
 have eb:b=⟨#[]⟩:=by cases b with|mk d=>simp at hb;rw[hb]
 rw[ea,eb];exact⟨h1,rfl⟩
theorem fL {w w1:World}{st:DkSt}{n:List UInt8}{e:Ending}(h:ej w st n e w1)(hd:st.dark=false)(hg:dR st.fs n=none):Below w.heap.size w w1∧e = .returned (.tuple #[.agg #[.string ⟨#[]⟩,.string ⟨#[]⟩],.int .i64 5]):=by
 obtain⟨h1,a,b,h2⟩:=h;rw[if_neg (by rw[hd];simp),hg]at h2;obtain⟨ha,hb,rfl⟩:=h2;have ea:a=⟨#[]⟩:=by cases a with|mk d=>simp at ha;rw[ha]
 have eb:b=⟨#[]⟩:=by cases b with|mk d=>simp at hb;rw[hb]
 rw[ea,eb];exact⟨h1,rfl⟩
theorem fM {w w1:World}{st:DkSt}{n:List UInt8}{e:Ending}(h:ej w st n e w1)(hd:st.dark=false){f:FileS}(hg:dR st.fs n=some f):Below w.heap.size w w1∧∃a b:ByteArray,a.data.toList=f.firm∧b.data.toList=f.pend∧e = .returned (.tuple #[.agg #[.string a,.string b],.int .i64 0]):=by
 obtain⟨h1,a,b,h2⟩:=h;rw[if_neg (by rw[hd];simp),hg]at h2;exact⟨h1,a,b,h2.1,h2.2.1,h2.2.2⟩
theorem fN (w:World)(o1 o2:Obj){w1:World}(h:Below (((w.alloc o1).alloc o2).heap.size) ((w.alloc o1).alloc o2) w1):Below w.heap.size w w1:=(fF w o1 o2).trans (h.mono (by simp;omega))
set_option maxRecDepth 100000 in
theorem fO (w:World)(p b:Nat)(st:DkSt)(h:IsDk w p b st)(n:ByteArray)(hn:n.size≤maxLen) :
  Calls Tryz.prog 45 #[.pointer (some ⟨p,0,none⟩),.string n] w λe w'=>fx p b (fC st n.data.toList) w e w':=by
 have hmf:∀(fn:Fn) (first cap:Array Value) (w:World),(Instr.makeFunc fn first cap).run Tryz.prog w = .ok (.func fn first cap) w:=λ_ _ _ _=>rfl;have hp:=h.lt;have hbl:=h.own.lt;have H:=hid h;have H1:=hid (h.pure (fF w (.cells #[.pointer (some ⟨p,0,none⟩)] 39) (.cells #[.string n] 9)));clear h
 go_enter Tryz.func45,Tryz.ntmps45
 go_wp2_with fail
 refine(ep _ p b st H1.out n hn).mono ?_;intro e w1 hf;cases hd:st.dark
 ·cases hg:dR st.fs n.data.toList with
  | none=>
   obtain⟨hb1,rfl⟩:=fL hf hd hg;have HD:=hid hd;have HG:=hid hg;have hb6:=hid (((fN w _ _ hb1).alloc (by have:=hb1.size;simp at this;omega) (.cells #[.string ⟨#[]⟩,.string ⟨#[]⟩] 81)));clear hd hg hf hb1;go_wp2;go_ret;have e1:fC st n.data.toList=(st,5):=by unfold fC;rw[HD.out,HG.out];rfl
   rw[e1];exact⟨rfl,H.out.pure hb6.out,Fr.pure hb6.out⟩
  | some f=>
   obtain⟨hb1,f1,f2,hf1,hf2,rfl⟩:=fM hf hd hg;have HD:=hid hd;have HG:=hid hg;have hs1:=hb1.size;simp at hs1;have HB:=hid (((fN w _ _ hb1).alloc (by omega) (.cells #[.string f1,.string f2] 81)));have HC:=hid (fG (S:=λ_=>False) (((Fr.refl _ _).andPure hb1).alloc (.cells #[.string f1,.string f2] 81)) (λhf=>hf) (λhf=>hf));clear hd hg hf hb1;have hx1:=HC.out.cq;have hx2:=HC.out.cr
   go_wp2_with fail
   refine(eP 79 _ _ p b st (H.out.pure HB.out) (enters_of Tryz.func79 (by kernel_rfl) rfl) (λw2=>IsDk w2 p b { st with left:=dec st.left,fs:=dP st.fs n.data.toList }∧DFr p b (w1.alloc (.cells #[.string f1,.string f2] 81)) w2) (λ_ w3 hf1 hs1 hd1=>(fJ w3 _ _ p b { st with left:=dec st.left } n (HC.out.fr hf1 (by omega) (by omega)) hd1 hn).mono (λe w2 h2=>⟨h2.1,h2.2.1,hf1.toD1.trans h2.2.2⟩))).mono ?_;rintro e w7 (⟨h0,rfl,hf7,hd7⟩|⟨h0,rfl,hd7,hf7⟩)
   ·have H7:=hid hd7
    have F7:=hid hf7;have H0:=hid h0;clear hd7 hf7 h0;go_wp2;go_ret;have e1:fC st n.data.toList=({ st with dark:=true },45):=by unfold fC fw;rw[HD.out,HG.out,if_pos H0.out];rfl
    rw[e1];exact⟨rfl,H7.out,(Fr.pure HB.out).trans F7.out.toD1⟩
   ·have H7:=hid hd7
    have F7:=hid hf7;have H0:=hid h0;clear hd7 hf7 h0;go_wp2;go_ret;have e1:fC st n.data.toList=({ st with left:=dec st.left,fs:=dP st.fs n.data.toList },0):=by unfold fC fw;rw[HD.out,HG.out,if_neg H0.out];rfl
    rw[e1];exact⟨rfl,H7.out,(Fr.pure HB.out).trans F7.out⟩
 ·obtain⟨hb1,rfl⟩:=fK hf hd
  have HD:=hid hd;have hb6:=hid (((fN w _ _ hb1).alloc (by have:=hb1.size;simp at this;omega) (.cells #[.string ⟨#[]⟩,.string ⟨#[]⟩] 81)));clear hd hf hb1;go_wp2;go_ret;have e1:fC st n.data.toList=(st,45):=by unfold fC;rw[HD.out];rfl
  rw[e1];exact⟨rfl,H.out.pure hb6.out,Fr.pure hb6.out⟩
def fP (st:DkSt)(n:List UInt8):DkSt×Int:=
 if st.dark then (st,45) else match dR st.fs n with|none=>(st,5)|some f=>fw st (dQ st.fs ⟨n,f.firm++f.pend,[]⟩)
structure BoxAt (w:World) (g:Nat) (f1 f2:ByteArray):Prop where
 c0:w.cell? ⟨g,0,none⟩=some (.string f1)
 c1:w.cell? ⟨g,1,none⟩=some (.string f2)
theorem BoxAt.fr {S:Nat→Prop}{w w':World}{g:Nat}{f1 f2:ByteArray}(h:BoxAt w g f1 f2)(hf:Fr S w w')(h1:¬S g):BoxAt w' g f1 f2:=⟨hf.cellAt h.c0 h1,hf.cellAt h.c1 h1⟩
theorem fQ {w w':World}{f1 f2:ByteArray}{t:TypeId}(hf:Fr (λ_=>False) (w.alloc (.cells #[.string f1,.string f2] t)) w'):BoxAt w' w.heap.size f1 f2:=
 ⟨hf.cellAt (by rw[World.cell?_alloc_at _ _ _ _ rfl];rfl) (λh=>h),hf.cellAt (by rw[World.cell?_alloc_at _ _ _ _ rfl];rfl) (λh=>h)⟩
set_option maxRecDepth 100000 in
theorem fR (w:World)(g q r p b:Nat)(st:DkSt)(n f1 f2:ByteArray)(hc:Capt w q r p n)(hx:BoxAt w g f1 f2)(h:IsDk w p b st)(hn:n.size≤maxLen)
  (f:FileS) (hg:dR st.fs n.data.toList=some f) (hf1:f1.data.toList=f.firm) (hf2:f2.data.toList=f.pend) :
  Calls Tryz.prog 81 #[.pointer (some ⟨g,0,none⟩),.pointer (some ⟨q,0,none⟩),.pointer (some ⟨r,0,none⟩)] w λe w'=>fy p b { st with fs:=dQ st.fs ⟨n.data.toList,f.firm++f.pend,[]⟩ } w e w':=by
 have H:=hid h;have hx1:=hc.cq;have hx2:=hc.cr;have hx3:=hx.c0;have hx4:=hx.c1;obtain⟨c0,c1,c2,c3⟩:=h.cs;have hsm:=h.ok.fs.small f (d9 hg).2;have hsz:f1.size+f2.size≤9223372036854775807:=by rw[ay hf1,ay hf2];omega
 have HK:=hid (WideMaps.keyOf_string_mk Tryz.underlying9 hn);have HF:=hid h.fewer;have hud:=eZ (eA h.ok.fs) hg;have HE:=hid (show FsKeep (dQ st.fs ⟨n.data.toList,f.firm++f.pend,[]⟩)∧(ec (dQ st.fs ⟨n.data.toList,f.firm++f.pend,[]⟩):Int)≤st.cap from
  ⟨h.ok.fs.keep.put (by show(dP st.fs n.data.toList).length<64;have:=h.ok.fs.few;omega) (by simp;omega) (by show n.data.toList.length≤24;rw[← (d9 hg).1];exact h.ok.fs.names f (d9 hg).2),by rw[fg];have:=h.ok.fits;simp only[List.length_append,List.length_nil];show(((f.firm.length+f.pend.length+0)+ec (dP st.fs n.data.toList):Nat):Int)≤st.cap;omega⟩)
 obtain⟨w1,hrun,hown1,hturn1⟩:=H.out.drew.own.store (t:=76) (e:=81) Tryz.strKey Tryz.underlying76 HF.out (key:=.string n) (val:=.agg #[.string (f1++f2),.string ⟨#[]⟩]) HK.out (dL _ _);have HO:=hid (H.out.drew.turned (fs':=dQ st.fs ⟨n.data.toList,f.firm++f.pend,[]⟩) (by rw[← dV];show w1.ownsMap Tryz.prog 9 dJ b _ ((fsD st.fs).put (.string n.data.toList) (.agg [.lit (.string (f.firm++f.pend)),.lit (.string [])]));rw[← hf1,← hf2];have:=hown1;simpa using this) hturn1 HE.out.1 HE.out.2);have HT:=hid (eN hturn1);clear hown1 hturn1 hc h hn hud hsm hg hf1 hf2 hx
 go_enter Tryz.func81,Tryz.ntmps81
 go_region
 go_wp2
 go_end0
 exact⟨rfl,HO.out,((Fr.refl _ w).drew.trans HT.out).toD⟩
set_option maxRecDepth 100000 in
theorem fS (w:World)(p b:Nat)(st:DkSt)(h:IsDk w p b st)(n:ByteArray)(hn:n.size≤maxLen) :
  Calls Tryz.prog 47 #[.pointer (some ⟨p,0,none⟩),.string n] w λe w'=>fx p b (fP st n.data.toList) w e w':=by
 have hmf:∀(fn:Fn) (first cap:Array Value) (w:World),(Instr.makeFunc fn first cap).run Tryz.prog w = .ok (.func fn first cap) w:=λ_ _ _ _=>rfl;have hp:=h.lt;have hbl:=h.own.lt;have H:=hid h;have H1:=hid (h.pure (fF w (.cells #[.pointer (some ⟨p,0,none⟩)] 39) (.cells #[.string n] 9)));clear h
 go_enter Tryz.func47,Tryz.ntmps47
 go_wp2_with fail
 refine(ep _ p b st H1.out n hn).mono ?_;intro e w1 hf;cases hd:st.dark
 ·cases hg:dR st.fs n.data.toList with
  | none=>
   obtain⟨hb1,rfl⟩:=fL hf hd hg;have HD:=hid hd;have HG:=hid hg;have hb6:=hid (((fN w _ _ hb1).alloc (by have:=hb1.size;simp at this;omega) (.cells #[.string ⟨#[]⟩,.string ⟨#[]⟩] 81)));clear hd hg hf hb1;go_wp2;go_ret;have e1:fP st n.data.toList=(st,5):=by unfold fP;rw[HD.out,HG.out];rfl
   rw[e1];exact⟨rfl,H.out.pure hb6.out,Fr.pure hb6.out⟩
  | some f=>
   obtain⟨hb1,f1,f2,hf1,hf2,rfl⟩:=fM hf hd hg;have HD:=hid hd;have HG:=hid hg;have hs1:=hb1.size;simp at hs1;have HB:=hid (((fN w _ _ hb1).alloc (by omega) (.cells #[.string f1,.string f2] 81)));have HC:=hid (fG (S:=λ_=>False) (((Fr.refl _ _).andPure hb1).alloc (.cells #[.string f1,.string f2] 81)) (λhf=>hf) (λhf=>hf));have HF:=hid (And.intro hf1 hf2);clear hd hg hf hb1 hf1 hf2;have HX:=hid (fQ (Fr.refl (λ_=>False) _):BoxAt (w1.alloc (.cells #[.string f1,.string f2] 81)) w1.heap.size f1 f2);have hlt1:=H1.out.lt;simp at hlt1;have hx1:=HC.out.cq;have hx2:=HC.out.cr
   go_wp2_with fail
   refine(eP 81 _ _ p b st (H.out.pure HB.out) (enters_of Tryz.func81 (by kernel_rfl) rfl) (λw2=>IsDk w2 p b { st with left:=dec st.left,fs:=dQ st.fs ⟨n.data.toList,f.firm++f.pend,[]⟩ }∧DFr p b (w1.alloc (.cells #[.string f1,.string f2] 81)) w2) (λ_ w3 hf1 hs1 hd1=>(fR w3 _ _ _ p b { st with left:=dec st.left } n f1 f2 (HC.out.fr hf1 (by omega) (by omega)) (HX.out.fr hf1 (by omega)) hd1 hn f HG.out HF.out.1 HF.out.2).mono (λe w2 h2=>⟨h2.1,h2.2.1,hf1.toD1.trans h2.2.2⟩))).mono ?_;rintro e w7 (⟨h0,rfl,hf7,hd7⟩|⟨h0,rfl,hd7,hf7⟩)
   ·have H7:=hid hd7
    have F7:=hid hf7;have H0:=hid h0;clear hd7 hf7 h0;go_wp2;go_ret;have e1:fP st n.data.toList=({ st with dark:=true },45):=by unfold fP;rw[if_neg (by rw[HD.out];simp),HG.out];exact if_pos H0.out
    rw[e1];exact⟨rfl,H7.out,(Fr.pure HB.out).trans F7.out.toD1⟩
   ·have H7:=hid hd7
    have F7:=hid hf7;have H0:=hid h0;clear hd7 hf7 h0;go_wp2;go_ret;have e1:fP st n.data.toList=({ st with left:=dec st.left,fs:=dQ st.fs ⟨n.data.toList,f.firm++f.pend,[]⟩ },0):=by unfold fP;rw[if_neg (by rw[HD.out];simp),HG.out];exact if_neg H0.out
    rw[e1];exact⟨rfl,H7.out,(Fr.pure HB.out).trans F7.out⟩
 ·obtain⟨hb1,rfl⟩:=fK hf hd
  have HD:=hid hd;have hb6:=hid (((fN w _ _ hb1).alloc (by have:=hb1.size;simp at this;omega) (.cells #[.string ⟨#[]⟩,.string ⟨#[]⟩] 81)));clear hd hf hb1;go_wp2;go_ret;have e1:fP st n.data.toList=(st,45):=by unfold fP;rw[HD.out];rfl
  rw[e1];exact⟨rfl,H.out.pure hb6.out,Fr.pure hb6.out⟩
theorem fT (a b:ByteArray):(a++b).data.toList=a.data.toList++b.data.toList:=by simp
def fU (st:DkSt)(n:List UInt8):List UInt8×Int:=
 if st.dark then ([],45) else match dR st.fs n with|none=>([],5)|some f=>(f.firm++f.pend,0)
def fV (r:List UInt8×Int)(w:World)(e:Ending)(w':World):Prop:=(∃s:ByteArray,s.data.toList=r.1∧e = .returned (.tuple #[.string s,.int .i64 r.2]))∧Below w.heap.size w w'
set_option maxRecDepth 100000 in
theorem fW (w:World)(p b:Nat)(st:DkSt)(h:IsDk w p b st)(n:ByteArray)(hn:n.size≤maxLen) :
  Calls Tryz.prog 17 #[.pointer (some ⟨p,0,none⟩),.string n] w λe w'=>fV (fU st n.data.toList) w e w':=by
 have H:=hid h;clear h
 go_enter Tryz.func17,Tryz.ntmps17
 go_wp2_with fail
 refine(ep _ p b st H.out n hn).mono ?_;intro e w1 hf;cases hd:st.dark
 ·cases hg:dR st.fs n.data.toList with
  | none=>
   obtain⟨hb1,rfl⟩:=fL hf hd hg;have HD:=hid hd;have HG:=hid hg;have HB:=hid (hb1.alloc hb1.size (.cells #[.string ⟨#[]⟩,.string ⟨#[]⟩] 81));clear hd hg hf hb1;go_wp2;refine bodyPost_ret (v:=.tuple #[.string ⟨#[]⟩,.int .i64 5]) (by simp[results,Tryz.results17,go_sem];rfl) rfl ⟨⟨⟨#[]⟩,?_,?_⟩,HB.out⟩
   ·unfold fU;rw[if_neg (by rw[HD.out];simp),HG.out]
   ·unfold fU;rw[if_neg (by rw[HD.out];simp),HG.out]
  | some f=>
   obtain⟨hb1,f1,f2,hf1,hf2,rfl⟩:=fM hf hd hg;have HD:=hid hd;have HG:=hid hg;have HF:=hid (And.intro hf1 hf2);have hsm:=H.out.ok.fs.small f (d9 hg).2;have hsz:f1.size+f2.size≤9223372036854775807:=by rw[ay hf1,ay hf2];omega
   have HB:=hid (hb1.alloc hb1.size (.cells #[.string f1,.string f2] 81));clear hd hg hf hb1 hf1 hf2 hsm;go_wp2;refine bodyPost_ret (v:=.tuple #[.string (f1++f2),.int .i64 0]) (by simp[results,Tryz.results17,go_sem]) rfl ⟨⟨f1++f2,?_,?_⟩,HB.out⟩
   ·unfold fU;rw[if_neg (by rw[HD.out];simp),HG.out];show(f1++f2).data.toList=f.firm++f.pend;rw[← HF.out.1,← HF.out.2];exact fT f1 f2
   ·unfold fU;rw[if_neg (by rw[HD.out];simp),HG.out]
 ·obtain⟨hb1,rfl⟩:=fK hf hd
  have HD:=hid hd;have HB:=hid (hb1.alloc hb1.size (.cells #[.string ⟨#[]⟩,.string ⟨#[]⟩] 81));clear hd hf hb1;go_wp2;refine bodyPost_ret (v:=.tuple #[.string ⟨#[]⟩,.int .i64 45]) (by simp[results,Tryz.results17,go_sem];rfl) rfl ⟨⟨⟨#[]⟩,?_,?_⟩,HB.out⟩
  ·unfold fU;rw[if_pos HD.out]
  ·unfold fU;rw[if_pos HD.out]
def fX (st:DkSt)(n:Int):DkSt×Int:=if st.dark then (st,45) else if n<0 then (st,1) else ({ st with left:=n },0)
set_option maxRecDepth 100000 in
theorem fY (w:World)(p b:Nat)(st:DkSt)(h:IsDk w p b st)(n:Int)(hn : -9223372036854775808≤n)(hn1:n≤9223372036854775807) :
  Calls Tryz.prog 18 #[.pointer (some ⟨p,0,none⟩),.int .i64 n] w λe w'=>fx p b (fX st n) w e w':=by
 have H:=hid h;have hp:=h.lt;obtain⟨c0,c1,c2,c3⟩:=h.cs;have z2:=h.fz 2;clear h;cases hd:st.dark
 ·have HD:=hid hd
  clear hd;by_cases h0:n<0
  ·go_enter Tryz.func18,Tryz.ntmps18
   go_wp2_with fail
   refine(ei _ p b st H.out).mono ?_;rintro e w1 ⟨rfl,rfl⟩;rw[HD.out];go_wp2;go_ret;have e1:fX st n=(st,1):=by unfold fX;rw[if_neg (by rw[HD.out];simp),if_pos h0]
   rw[e1];exact⟨rfl,H.out,Fr.refl _ _⟩
  ·have HL:=hid (H.out.setLeft n (by omega) hn1)
   go_enter Tryz.func18,Tryz.ntmps18
   go_wp2_with fail
   refine(ei _ p b st H.out).mono ?_;rintro e w1 ⟨rfl,rfl⟩;rw[HD.out];go_wp2;go_ret;have e1:fX st n=({ st with left:=n },0):=by unfold fX;rw[if_neg (by rw[HD.out];simp),if_neg (by omega)]
   rw[e1];exact⟨rfl,HL.out,(eO ⟨p,2,none⟩ _).toD1⟩
 ·have HD:=hid hd
  clear hd
  go_enter Tryz.func18,Tryz.ntmps18
  go_wp2_with fail
  refine(ei _ p b st H.out).mono ?_;rintro e w1 ⟨rfl,rfl⟩;rw[HD.out];go_wp2;go_ret;have e1:fX st n=(st,45):=by unfold fX;rw[if_pos HD.out]
  rw[e1];exact⟨rfl,H.out,Fr.refl _ _⟩
def fZ (st:DkSt)(a c:List UInt8):DkSt×Int:=
 if st.dark then (st,45) else match dR st.fs a with
  | none=>(st,5)
  | some f=>if !ed c then (st,4) else if a=c then (st,1) else fw st (dQ (dP st.fs a) ⟨c,f.firm,f.pend⟩)
theorem IsDk.off {w:World}{p b:Nat}{st:DkSt}(h:IsDk w p b st){q o:Nat}{v:Value}(hc:w.cell? ⟨q,o,none⟩=some v):q≠b:=by
 intro e;obtain⟨es,clock,hb,_⟩:=h.own;subst e;unfold World.cell? at hc;rw[hb]at hc;simp at hc
set_option maxRecDepth 100000 in
theorem gd (w:World)(q r g s p b:Nat)(st:DkSt)(n m f1 f2:ByteArray)(hc:Capt w q r p n)(hm:w.cell? ⟨s,0,none⟩=some (.string m))(hx:BoxAt w g f1 f2)(h:IsDk w p b st)(hn:n.size≤maxLen)(hml:m.size≤24)
  (f:FileS) (hg:dR st.fs n.data.toList=some f) (hf1:f1.data.toList=f.firm) (hf2:f2.data.toList=f.pend) :
  Calls Tryz.prog 82 #[.pointer (some ⟨q,0,none⟩),.pointer (some ⟨r,0,none⟩),.pointer (some ⟨g,0,none⟩),.pointer (some ⟨s,0,none⟩)] w λe w'=>fy p b { st with fs:=dQ (dP st.fs n.data.toList) ⟨m.data.toList,f.firm,f.pend⟩ } w e w':=by
 have H:=hid h;have hx1:=hc.cq;have hx2:=hc.cr;obtain⟨c0,c1,c2,c3⟩:=h.cs;have hsm:=h.ok.fs.small f (d9 hg).2;have HK:=hid (WideMaps.keyOf_string_mk Tryz.underlying9 hn);have HKm:=hid (WideMaps.keyOf_string_mk Tryz.underlying9 (Nat.le_trans hml (by unfold maxLen;omega):m.size≤maxLen));have hud:=eZ (eA h.ok.fs) hg;have hfit:=h.ok.fits;have HE1:=hid (show FsKeep (dP st.fs n.data.toList)∧(ec (dP st.fs n.data.toList):Int)≤st.cap from⟨h.ok.fs.keep.del _,by omega⟩);have HE:=hid (show FsKeep (dQ (dP st.fs n.data.toList) ⟨m.data.toList,f.firm,f.pend⟩)∧(ec (dQ (dP st.fs n.data.toList) ⟨m.data.toList,f.firm,f.pend⟩):Int)≤st.cap from
  ⟨HE1.out.1.put (by show(dP (dP st.fs n.data.toList) m.data.toList).length<64;have:=h.ok.fs.few;have:=eW (dP st.fs n.data.toList) m.data.toList;omega) hsm (by rw[aq];exact hml),by rw[fg];show(((f.firm.length+f.pend.length)+ec (dP (dP st.fs n.data.toList) m.data.toList):Nat):Int)≤st.cap;have:=eX (dP st.fs n.data.toList) m.data.toList;omega⟩)
 have hqb:=h.off hc.cq;have hrb:=h.off hc.cr;have hgb:=h.off hx.c0;have hsb:=h.off hm;obtain⟨w1,hrun,hown1,hturn1⟩:=H.out.drew.own.drop (t:=76) (e:=81) Tryz.strKey Tryz.underlying76 (key:=.string n) HK.out 0;have HO:=hid (H.out.drew.turned (fs':=dP st.fs n.data.toList) (by rw[← dU];exact hown1) hturn1 HE1.out.1 HE1.out.2);have HT:=hid (eN hturn1);have hy1:=HT.out.cellAt (show w.drew.cell? _=_ from hc.cq) hqb;have hy3:=HT.out.cellAt (show w.drew.cell? _=_ from hm) hsb;have hy4:=HT.out.cellAt (show w.drew.cell? _=_ from hx.c0) hgb;have hy5:=HT.out.cellAt (show w.drew.cell? _=_ from hx.c1) hgb;obtain⟨e0,e1,e2,e3⟩:=HO.out.cs;clear hown1 hturn1;obtain⟨w2,hrun2,hown2,hturn2⟩:=HO.out.drew.own.store (t:=76) (e:=81) Tryz.strKey Tryz.underlying76 HO.out.fewer (key:=.string m) (val:=.agg #[.string f1,.string f2]) HKm.out (dL _ _);have HO2:=hid (HO.out.drew.turned (fs':=dQ (dP st.fs n.data.toList) ⟨m.data.toList,f.firm,f.pend⟩) (by rw[← dV];show w2.ownsMap Tryz.prog 9 dJ b _ ((fsD (dP st.fs n.data.toList)).put (.string m.data.toList) (.agg [.lit (.string f.firm),.lit (.string f.pend)]));rw[← hf1,← hf2];exact hown2) hturn2 HE.out.1 HE.out.2);have HT2:=hid (eN hturn2);clear hown2 hturn2 hc h hn hud hsm hg hf1 hf2 hx hm hml hqb hrb hgb hsb hfit
 go_enter Tryz.func82,Tryz.ntmps82
 go_wp2
 go_region
 go_wp2
 go_region
 go_wp2
 go_end0
 exact⟨rfl,HO2.out,((((Fr.refl _ w).drew.trans HT.out).drew).trans HT2.out).toD⟩
theorem ge (w:World)(o1 o2 o3:Obj):Below w.heap.size w (((w.alloc o1).alloc o2).alloc o3):=(fF w o1 o2).alloc (by simp;omega) _
theorem gh (w:World)(o1 o2 o3:Obj){w1:World}(h:Below ((((w.alloc o1).alloc o2).alloc o3).heap.size) (((w.alloc o1).alloc o2).alloc o3) w1):Below w.heap.size w w1:=(ge w o1 o2 o3).trans (h.mono (by simp;omega))
theorem gi {w w':World}{p:Nat}{n m:ByteArray}{t1 t2 t3:TypeId}(h:Fr (λ_=>False) (((w.alloc (.cells #[.pointer (some ⟨p,0,none⟩)] t1)).alloc (.cells #[.string n] t2)).alloc (.cells #[.string m] t3)) w'):Capt w' w.heap.size (w.heap.size+1) p n∧w'.cell? ⟨w.heap.size+2,0,none⟩=some (.string m):=
 ⟨⟨h.cellAt (by rw[World.cell?_alloc_past _ _ _ (by simp;omega),World.cell?_alloc_past _ _ _ (by simp),World.cell?_alloc_at _ _ _ _ rfl];rfl) (λh=>h),h.cellAt (by rw[World.cell?_alloc_past _ _ _ (by simp),World.cell?_alloc_at _ _ _ _ (by simp)];rfl) (λh=>h)⟩,h.cellAt (by rw[World.cell?_alloc_at _ _ _ _ (by simp)];rfl) (λh=>h)⟩
set_option maxRecDepth 100000 in
theorem gj (w:World)(p b:Nat)(st:DkSt)(h:IsDk w p b st)(n m:ByteArray)(hn:n.size≤maxLen)(hm:m.size≤9223372036854775807) :
  Calls Tryz.prog 48 #[.pointer (some ⟨p,0,none⟩),.string n,.string m] w λe w'=>fx p b (fZ st n.data.toList m.data.toList) w e w':=by
 have hmf:∀(fn:Fn) (first cap:Array Value) (w:World),(Instr.makeFunc fn first cap).run Tryz.prog w = .ok (.func fn first cap) w:=λ_ _ _ _=>rfl;have hp:=h.lt;have hbl:=h.own.lt;have H:=hid h;have H1:=hid (h.pure (ge w (.cells #[.pointer (some ⟨p,0,none⟩)] 39) (.cells #[.string n] 9) (.cells #[.string m] 9)));clear h
 go_enter Tryz.func48,Tryz.ntmps48
 go_wp2_with fail
 refine(ep _ p b st H1.out n hn).mono ?_;intro e w1 hf;cases hd:st.dark
 ·cases hg:dR st.fs n.data.toList with
  | none=>
   obtain⟨hb1,rfl⟩:=fL hf hd hg;have HD:=hid hd;have HG:=hid hg;have hb6:=hid (((gh w _ _ _ hb1).alloc (by have:=hb1.size;simp at this;omega) (.cells #[.string ⟨#[]⟩,.string ⟨#[]⟩] 81)));clear hd hg hf hb1;go_wp2;go_ret;have e1:fZ st n.data.toList m.data.toList=(st,5):=by unfold fZ;rw[if_neg (by rw[HD.out];simp),HG.out]
   rw[e1];exact⟨rfl,H.out.pure hb6.out,Fr.pure hb6.out⟩
  | some f=>
   obtain⟨hb1,f1,f2,hf1,hf2,rfl⟩:=fM hf hd hg;have HD:=hid hd;have HG:=hid hg;have HF:=hid (And.intro hf1 hf2);have hs1:=hb1.size;simp at hs1;have HB:=hid (((gh w _ _ _ hb1).alloc (by omega) (.cells #[.string f1,.string f2] 81)));have HC:=hid (gi (((Fr.refl _ _).andPure hb1).alloc (.cells #[.string f1,.string f2] 81)));have HX:=hid (fQ (Fr.refl (λ_=>False) _):BoxAt (w1.alloc (.cells #[.string f1,.string f2] 81)) w1.heap.size f1 f2);clear hd hg hf hb1 hf1 hf2;have hx1:=HC.out.1.cq;have hx2:=HC.out.1.cr;have hx3:=HC.out.2
   go_wp2_with fail
   refine(eM m _ hm).mono ?_;rintro e w3 ⟨rfl,hb3⟩;have hs3:=hb3.size;simp at hs3;have HB3:=hid (HB.out.trans (hb3.mono (by simp;omega)));have HC3:=hid (And.intro (HC.out.1.fr (Fr.pure (S:=λ_=>False) hb3) (λh=>h) (λh=>h)) ((Fr.pure (S:=λ_=>False) hb3).cellAt HC.out.2 (λh=>h)));have HX3:=hid (HX.out.fr (Fr.pure (S:=λ_=>False) hb3) (λh=>h));clear hb3 hx1 hx2 hx3;have hx1:=HC3.out.1.cq;have hx2:=HC3.out.1.cr;have hx3:=HC3.out.2;cases hmn:ed m.data.toList
   ·have HM:=hid hmn
    clear hmn;go_wp2;go_ret;have e1:fZ st n.data.toList m.data.toList=(st,4):=by unfold fZ;rw[if_neg (by rw[HD.out];simp),HG.out,HM.out];rfl
    rw[e1];exact⟨rfl,H.out.pure HB3.out,Fr.pure HB3.out⟩
   ·have HM:=hid hmn
    clear hmn;by_cases hnm:n=m
    ·have HNM:=hid hnm
     have htr:=aB (show n.data.toList=m.data.toList from by rw[hnm]);clear hnm;go_wp2;go_ret;have e1:fZ st n.data.toList m.data.toList=(st,1):=by unfold fZ;rw[if_neg (by rw[HD.out];simp),HG.out,HM.out];show(if (!true)=true then _ else if _=_ then _ else _)=_;rw[if_neg (by simp),if_pos (by rw[HNM.out])]
     rw[e1];exact⟨rfl,H.out.pure HB3.out,Fr.pure HB3.out⟩
    ·have HNM:=hid hnm
     have htr:=aC (show n.data.toList≠m.data.toList from λe=>hnm (ax e));clear hnm
     go_wp2_with fail
     refine(eP 82 _ _ p b st (H.out.pure HB3.out) (enters_of Tryz.func82 (by kernel_rfl) rfl) (λw2=>IsDk w2 p b { st with left:=dec st.left,fs:=dQ (dP st.fs n.data.toList) ⟨m.data.toList,f.firm,f.pend⟩ }∧DFr p b w3 w2)
      (λ_ w4 hf1 hs1 hd1=>(gd w4 _ _ _ _ p b { st with left:=dec st.left } n m f1 f2 (HC3.out.1.fr hf1 (by omega) (by omega)) (hf1.cellAt HC3.out.2 (by omega)) (HX3.out.fr hf1 (by omega)) hd1 hn (by have:=fD HM.out;rw[aq]at this;exact this) f HG.out HF.out.1 HF.out.2).mono (λe w2 h2=>⟨h2.1,h2.2.1,hf1.toD1.trans h2.2.2⟩))).mono ?_
     rintro e w7 (⟨h0,rfl,hf7,hd7⟩|⟨h0,rfl,hd7,hf7⟩)
     ·have H7:=hid hd7
      have F7:=hid hf7;have H0:=hid h0;clear hd7 hf7 h0;go_wp2;go_ret;have e1:fZ st n.data.toList m.data.toList=({ st with dark:=true },45):=by unfold fZ;rw[if_neg (by rw[HD.out];simp),HG.out,HM.out];show(if (!true)=true then _ else if _=_ then _ else _)=_;rw[if_neg (by simp),if_neg (λe=>HNM.out (ax e))];exact if_pos H0.out
      rw[e1];exact⟨rfl,H7.out,(Fr.pure HB3.out).trans F7.out.toD1⟩
     ·have H7:=hid hd7
      have F7:=hid hf7;have H0:=hid h0;clear hd7 hf7 h0;go_wp2;go_ret;have e1:fZ st n.data.toList m.data.toList=({ st with left:=dec st.left,fs:=dQ (dP st.fs n.data.toList) ⟨m.data.toList,f.firm,f.pend⟩ },0):=by unfold fZ;rw[if_neg (by rw[HD.out];simp),HG.out,HM.out];show(if (!true)=true then _ else if _=_ then _ else _)=_;rw[if_neg (by simp),if_neg (λe=>HNM.out (ax e))];exact if_neg H0.out
      rw[e1];exact⟨rfl,H7.out,(Fr.pure HB3.out).trans F7.out⟩
 ·obtain⟨hb1,rfl⟩:=fK hf hd
  have HD:=hid hd;have hb6:=hid (((gh w _ _ _ hb1).alloc (by have:=hb1.size;simp at this;omega) (.cells #[.string ⟨#[]⟩,.string ⟨#[]⟩] 81)));clear hd hf hb1;go_wp2;go_ret;have e1:fZ st n.data.toList m.data.toList=(st,45):=by unfold fZ;rw[if_pos HD.out]
  rw[e1];exact⟨rfl,H.out.pure hb6.out,Fr.pure hb6.out⟩
end
section
open Go.RowKit Go.Maps Go.Sort
def gk (st:DkSt)(n x:List UInt8):DkSt×Int:=
 if st.dark then (st,45) else match dR st.fs n with
  | none=>(st,5)
  | some f=>if (1048576:Int)-((f.firm.length+f.pend.length:Nat):Int)<(x.length:Int)∨st.cap-(ec st.fs:Int)<(x.length:Int) then (st,44)
   else if st.left=0 then ({ st with dark:=true,fs:=dQ st.fs ⟨n,f.firm,f.pend++x⟩ },45) else ({ st with left:=dec st.left,fs:=dQ st.fs ⟨n,f.firm,f.pend++x⟩ },0)
theorem gl (w:World):Calls Tryz.prog 80 #[] w λe w'=>e = .returned (.tuple #[])∧w=w':=by
 go_enter Tryz.func80,Tryz.ntmps80
 go_wp2
 go_end0
 exact⟨rfl,rfl⟩
theorem gm (w:World)(p b:Nat)(st:DkSt)(h:IsDk w p b st)(n f1 f3:ByteArray)(hn:n.size≤maxLen)(f:FileS)(hg:dR st.fs n.data.toList=some f)(firm pend:List UInt8)(h1:f1.data.toList=firm)(h3:f3.data.toList=pend)
  (hsm:firm.length+pend.length≤1048576) (hft:(ec st.fs:Int)+((firm.length+pend.length:Nat):Int)≤st.cap+((f.firm.length+f.pend.length:Nat):Int)) :
  ∃w6,(Instr.mapUpdate 76 (.map (some b)) (.string n) (.agg #[.string f1,.string f3])).run Tryz.prog w.drew = .ok () w6∧IsDk w6 p b { st with fs:=dQ st.fs ⟨n.data.toList,firm,pend⟩ }∧Fr (λk=>k=b) w w6:=by
 obtain⟨w6,hrun,hown,hturn⟩:=h.drew.own.store (t:=76) (e:=81) Tryz.strKey Tryz.underlying76 h.fewer (key:=.string n) (val:=.agg #[.string f1,.string f3]) (WideMaps.keyOf_string_mk Tryz.underlying9 hn) (dL _ _);have hud:=eZ (eA h.ok.fs) hg;refine⟨w6,hrun,h.drew.turned (n:=st.fs.length+1) (fs':=dQ st.fs ⟨n.data.toList,firm,pend⟩) ?_ hturn ?_ ?_,(Fr.refl _ w).drew.trans (eN hturn)⟩
 ·rw[← dV]
  show w6.ownsMap Tryz.prog 9 dJ b _ ((fsD st.fs).put (.string n.data.toList) (.agg [.lit (.string firm),.lit (.string pend)]));rw[← h1,← h3];exact hown
 ·exact h.ok.fs.keep.put (by show(dP st.fs n.data.toList).length<64;have:=h.ok.fs.few;omega) hsm (by show n.data.toList.length≤24;rw[← (d9 hg).1];exact h.ok.fs.names f (d9 hg).2)
 ·rw[fg]
  show(((firm.length+pend.length)+ec (dP st.fs n.data.toList):Nat):Int)≤st.cap;omega
set_option maxRecDepth 100000 in
theorem gn (w:World)(p b:Nat)(st:DkSt)(h:IsDk w p b st)(n x:ByteArray)(hn:n.size≤maxLen)(hx:x.size≤140737488355328) :
  Calls Tryz.prog 46 #[.pointer (some ⟨p,0,none⟩),.string n,.string x] w λe w'=>fx p b (gk st n.data.toList x.data.toList) w e w':=by
 have hmf:∀(fn:Fn) (first cap:Array Value) (w:World),(Instr.makeFunc fn first cap).run Tryz.prog w = .ok (.func fn first cap) w:=λ_ _ _ _=>rfl;have hp:=h.lt;have hbl:=h.own.lt;have H:=hid h;clear h
 go_enter Tryz.func46,Tryz.ntmps46
 go_wp2_with fail
 refine(ep _ p b st H.out n hn).mono ?_;intro e w1 hf;cases hd:st.dark
 ·cases hg:dR st.fs n.data.toList with
  | none=>
   obtain⟨hb1,rfl⟩:=fL hf hd hg;have HD:=hid hd;have HG:=hid hg;have hb6:=hid (hb1.alloc hb1.size (.cells #[.string ⟨#[]⟩,.string ⟨#[]⟩] 81));clear hd hg hf hb1;go_wp2;go_ret;have e1:gk st n.data.toList x.data.toList=(st,5):=by unfold gk;rw[if_neg (by rw[HD.out];simp),HG.out]
   rw[e1];exact⟨rfl,H.out.pure hb6.out,Fr.pure hb6.out⟩
  | some f=>
   obtain⟨hb1,f1,f2,hf1,hf2,rfl⟩:=fM hf hd hg;have HD:=hid hd;have HG:=hid hg;have HF:=hid (And.intro hf1 hf2);have hs1:=hb1.size;have HB:=hid (hb1.alloc hb1.size (.cells #[.string f1,.string f2] 81));have hsm:=H.out.ok.fs.small f (d9 hg).2;have hsz:f1.size+f2.size≤1048576:=by rw[ay hf1,ay hf2];omega
   have HX:=hid (fQ (Fr.refl (λ_=>False) _):BoxAt (w1.alloc (.cells #[.string f1,.string f2] 81)) w1.heap.size f1 f2);have hs2:w1.heap.size<(w1.alloc (.cells #[.string f1,.string f2] 81)).heap.size:=by simp
   have hz2:∀w',Below (w1.alloc (.cells #[.string f1,.string f2] 81)).heap.size (w1.alloc (.cells #[.string f1,.string f2] 81)) w'→w'.frozen? ⟨w1.heap.size,1,none⟩=false:=λw' hb=>(hb.frozen (by simp)).trans (World.frozen?_alloc_at _ _ _ _ rfl);have H2:=hid (H.out.pure HB.out);have hul:=ee H.out.ok.fs;have hcap0:=H.out.ok.cap0;have hcap1:=H.out.ok.cap1;have w1e:IntKind.i64.wrap ((1048576:Int)-((f1.size:Int)+(f2.size:Int)))=(1048576:Int)-((f1.size:Int)+(f2.size:Int)):=IntWalk.i64_in _ (by omega);have w2e:IntKind.i64.wrap (st.cap-(ec st.fs:Int))=st.cap-(ec st.fs:Int):=IntWalk.i64_in _ (by omega);clear hd hg hf hb1 hf1 hf2
   go_wp2_with fail
   generalize w1.alloc (.cells #[.string f1,.string f2] 81)=w2 at *
   generalize w1.heap.size=g at *
   obtain⟨c0,c1,c2,c3⟩:=H2.out.cs;have k1:=cell_regrown c1;have k2:=cell_regrown HX.out.c0;have k3:=cell_regrown HX.out.c1;have q1:∀d os,Calls Tryz.prog 58 #[.agg #[.string f1,.string f2]] (grow (redrawn w2 d) os) λe w''=>e = .returned (.int .i64 ((f1.size+f2.size:Nat):Int))∧∃p:Regrown,w''=grow (redrawn w2 p.d) p.os:=λd os=>Calls.regrown_of (eu _ f1 f2 (by omega));have q2:∀d os,Calls Tryz.prog 27 #[.pointer (some ⟨p,0,none⟩)] (grow (redrawn w2 d) os) λe w''=>e = .returned (.int .i64 (ec st.fs:Int))∧∃p:Regrown,w''=grow (redrawn w2 p.d) p.os:=λd os=>Calls.regrown_of (eI _ p b st (H2.out.pure (below_regrown w2 d os)));by_cases hb1:(1048576:Int)-((f1.size:Int)+(f2.size:Int))<(x.size:Int)
   ·have hd1:decide (IntKind.i64.wrap (1048576-((f1.size:Int)+(f2.size:Int)))<(x.size:Int))=true:=by rw[w1e];simpa using hb1
    clear w1e w2e;refine wp_region_quiet_below (by kernel_rfl) (by kernel_rfl) ?_
    repeat (go_big_quiet_step (first|exact q1 _ _|exact q2 _ _))
    refine wpQuiet_nil ?_;intro _ hw';obtain⟨⟨dq,osq⟩,hw''⟩:=hw';subst hw'';have HB3:=hid (HB.out.trans ((below_regrown w2 dq osq).mono (by omega)))
    generalize grow (redrawn w2 dq) osq=w3 at *
    go_wp2;go_ret;have e1:gk st n.data.toList x.data.toList=(st,44):=by
     unfold gk;rw[if_neg (by rw[HD.out];simp),HG.out];show(if _ then _ else _)=_;rw[if_pos (.inl (by rw[← HF.out.1,← HF.out.2,aq,aq,aq];omega))]
    rw[e1];exact⟨rfl,H.out.pure HB3.out,Fr.pure HB3.out⟩
   ·have hd1:decide (IntKind.i64.wrap (1048576-((f1.size:Int)+(f2.size:Int)))<(x.size:Int))=false:=by rw[w1e];simpa using hb1
    by_cases hb2:st.cap-(ec st.fs:Int)<(x.size:Int)
    ·have hd2:decide (IntKind.i64.wrap (st.cap-(ec st.fs:Int))<(x.size:Int))=true:=by rw[w2e];simpa using hb2
     clear w1e w2e;refine wp_region_quiet_below (by kernel_rfl) (by kernel_rfl) ?_
     repeat (go_big_quiet_step (first|exact q1 _ _|exact q2 _ _))
     refine wpQuiet_nil ?_;intro _ hw';obtain⟨⟨dq,osq⟩,hw''⟩:=hw';subst hw'';have HB3:=hid (HB.out.trans ((below_regrown w2 dq osq).mono (by omega)))
     generalize grow (redrawn w2 dq) osq=w3 at *
     go_wp2;go_ret;have e1:gk st n.data.toList x.data.toList=(st,44):=by
      unfold gk;rw[if_neg (by rw[HD.out];simp),HG.out];show(if _ then _ else _)=_;rw[if_pos (.inr (by rw[aq];omega))]
     rw[e1];exact⟨rfl,H.out.pure HB3.out,Fr.pure HB3.out⟩
    ·have hd2:decide (IntKind.i64.wrap (st.cap-(ec st.fs:Int))<(x.size:Int))=false:=by rw[w2e];simpa using hb2
     clear w1e w2e;have HNB:=hid (show ¬((1048576:Int)-((f.firm.length+f.pend.length:Nat):Int)<(x.data.toList.length:Int)∨st.cap-(ec st.fs:Int)<(x.data.toList.length:Int))from by
      rw[← HF.out.1,← HF.out.2,aq,aq,aq];omega)
     have HL:=hid (show f.firm.length+(f.pend.length+x.data.toList.length)≤1048576∧(ec st.fs:Int)+((f.firm.length+(f.pend.length+x.data.toList.length):Nat):Int)≤st.cap+((f.firm.length+f.pend.length:Nat):Int)from by
      rw[← HF.out.1,← HF.out.2,aq,aq,aq];omega)
     have hsx:f2.size+x.size≤9223372036854775807:=by omega
     refine wp_region_quiet_below (by kernel_rfl) (by kernel_rfl) ?_
     repeat (go_big_quiet_step (first|exact q1 _ _|exact q2 _ _))
     refine wpQuiet_nil ?_;intro _ hw';obtain⟨⟨dq,osq⟩,hw''⟩:=hw';subst hw'';have hb3:=below_regrown w2 dq osq;have HB3:=hid (HB.out.trans (hb3.mono (by omega)));have hz3:=hz2 _ hb3;have HX3:=hid (HX.out.fr (Fr.pure (S:=λ_=>False) hb3) (λh=>h));have hs3:=hb3.size;clear hb3 q1 q2 k1 k2 k3 c0 c1 c2 c3 hd1 hd2 hz2
     generalize grow (redrawn w2 dq) osq=w3 at *
     have y1:=HX3.out.c0;have y2:=HX3.out.c1;have hf4:=eO (w:=w3) ⟨g,1,none⟩ (.string (f2++x));have H4:=hid ((H.out.pure HB3.out).kept hf4 (by show ¬p=g;omega) (by show ¬b=g;omega));have HX4:=hid (show BoxAt (w3.setCell ⟨g,1,none⟩ (.string (f2++x))) g f1 (f2++x)from⟨by rw[World.cell?_setCell_other _ _ _ _ (by simp)];exact HX3.out.c0,World.cell?_setCell_same _ _ _ HX3.out.c1⟩)
     go_wp2_with fail
     refine(eP 80 #[] _ p b st H4.out (enters_of Tryz.func80 (by kernel_rfl) rfl) (λw2=>IsDk w2 p b { st with left:=dec st.left }∧Fr (λk=>k=p) (w3.setCell ⟨g,1,none⟩ (.string (f2++x))) w2) (λ_ w5 hf1 hs1 hd1=>(gl w5).mono (λe w2 h2=>⟨h2.1,by rw[← h2.2];exact⟨hd1,hf1⟩⟩))).mono ?_;rintro e w5 (⟨h0,rfl,hf5,hd5⟩|⟨h0,rfl,hd5,hf5⟩)
     ·have H0:=hid h0
      obtain⟨w6,hrun,hd6,hf6⟩:=gm w5 p b _ hd5 n f1 (f2++x) hn f HG.out f.firm (f.pend++x.data.toList) HF.out.1 (by rw[fT,HF.out.2]) (by rw[List.length_append];exact HL.out.1) (by rw[List.length_append];exact HL.out.2);have hx5:=HX4.out.fr hf5 (by omega);have y1:=hx5.c0;have y2:=hx5.c1;obtain⟨e0,e1,e2,e3⟩:=hd5.cs;have H6:=hid hd6;have F6:=hid ((((Fr.pure (S:=λk=>k=p∨k=b) HB3.out).then hf4 (λi hi e=>absurd (show i=g from e) (by omega)))).trans (hf5.toD1.trans hf6.toD));clear h0 hx5 hd5 hf5 hd6 hf6
      go_wp2_with fail
      go_region
      go_wp2;go_ret;have e1:gk st n.data.toList x.data.toList=({ st with dark:=true,fs:=dQ st.fs ⟨n.data.toList,f.firm,f.pend++x.data.toList⟩ },45):=by unfold gk;rw[if_neg (by rw[HD.out];simp),HG.out];show(if _ then _ else _)=_;rw[if_neg HNB.out,if_pos H0.out]
      rw[e1];exact⟨rfl,H6.out,F6.out⟩
     ·have H0:=hid h0
      obtain⟨w6,hrun,hd6,hf6⟩:=gm w5 p b _ hd5 n f1 (f2++x) hn f HG.out f.firm (f.pend++x.data.toList) HF.out.1 (by rw[fT,HF.out.2]) (by rw[List.length_append];exact HL.out.1) (by rw[List.length_append];exact HL.out.2);have hx5:=HX4.out.fr hf5 (by omega);have y1:=hx5.c0;have y2:=hx5.c1;obtain⟨e0,e1,e2,e3⟩:=hd5.cs;have H6:=hid hd6;have F6:=hid ((((Fr.pure (S:=λk=>k=p∨k=b) HB3.out).then hf4 (λi hi e=>absurd (show i=g from e) (by omega)))).trans (hf5.toD1.trans hf6.toD));clear h0 hx5 hd5 hf5 hd6 hf6
      go_wp2_with fail
      go_region
      go_wp2;go_ret;have e1:gk st n.data.toList x.data.toList=({ st with left:=dec st.left,fs:=dQ st.fs ⟨n.data.toList,f.firm,f.pend++x.data.toList⟩ },0):=by unfold gk;rw[if_neg (by rw[HD.out];simp),HG.out];show(if _ then _ else _)=_;rw[if_neg HNB.out,if_neg H0.out]
      rw[e1];exact⟨rfl,H6.out,F6.out⟩
 ·obtain⟨hb1,rfl⟩:=fK hf hd
  have HD:=hid hd;have hb6:=hid (hb1.alloc hb1.size (.cells #[.string ⟨#[]⟩,.string ⟨#[]⟩] 81));clear hd hf hb1;go_wp2;go_ret;have e1:gk st n.data.toList x.data.toList=(st,45):=by unfold gk;rw[if_pos HD.out]
  rw[e1];exact⟨rfl,H.out.pure hb6.out,Fr.pure hb6.out⟩
end
section
structure On (st:DkSt):Prop where
 lit:st.dark=false
 free:st.left = -1
theorem On.put {st:DkSt}(h:On st)(fs':Fs):On { st with fs:=fs' }:=⟨h.lit,h.free⟩
end
end Go.Proofs.YtaeakdichkhjaaaGreatDoor
