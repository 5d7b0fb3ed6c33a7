/- Snapshots' files' names, as the kernel computes them. -/
import Derived.Test.YtaeakdichkhjaaaGreatDoorQAd
import Derived.Lib.QuietBelow
import Derived.Test.YtaeakdichkhjaaaGreatDoorQAa
import Derived.Test.YtaeakdichkhjaaaGreatDoorShelf
import Derived.Lib.ItoaLen
import Derived.Lib.ParseIntB
import Derived.Lib.IndexMore
set_option maxHeartbeats 2500000
open Go.Lib(hid)
namespace Go.Proofs.YtaeakdichkhjaaaGreatDoor
section
open Go.RowKit Go.Maps
theorem eN (w:World)(o1 o2 o3:Obj):Below w.heap.size w (((w.alloc o1).alloc o2).alloc o3):=(ej w o1 o2).alloc (by simp;omega) _
theorem eO (w:World)(o1 o2 o3:Obj){w1:World}(h:Below ((((w.alloc o1).alloc o2).alloc o3).heap.size) (((w.alloc o1).alloc o2).alloc o3) w1):Below w.heap.size w w1:=(eN w o1 o2 o3).trans (h.mono (by simp;omega))
theorem eP {w w':World}{p:Nat}{n m:ByteArray}{t1 t2 t3:TypeId}(h:Fr (λ_=>False) (((w.alloc (.cells #[.pointer (some ⟨p,0,none⟩)] t1)).alloc (.cells #[.string n] t2)).alloc (.cells #[.string m] t3)) w'):Capt w' w.heap.size (w.heap.size+1) p n∧w'.cell? ⟨w.heap.size+2,0,none⟩=some (.string m):=
 ⟨⟨h.cellAt (by rw[World.cell?_alloc_past _ _ _ (by simp;omega),World.cell?_alloc_past _ _ _ (by simp),World.cell?_alloc_at _ _ _ _ rfl];rfl) (λh=>h),h.cellAt (by rw[World.cell?_alloc_past _ _ _ (by simp),World.cell?_alloc_at _ _ _ _ (by simp)];rfl) (λh=>h)⟩,h.cellAt (by rw[World.cell?_alloc_at _ _ _ _ (by simp)];rfl) (λh=>h)⟩
set_option maxRecDepth 100000 in
theorem eQ (w:World)(p b:Nat)(st:DkSt)(h:IsDk w p b st)(n m:ByteArray)(hn:n.size≤maxLen)(hm:m.size≤9223372036854775807) :
  Calls Tryz.prog 48 #[.pointer (some ⟨p,0,none⟩),.string n,.string m] w λe w'=>ec p b (eL st n.data.toList m.data.toList) w e w':=by
 have hmf:∀(fn:Fn) (first cap:Array Value) (w:World),(Instr.makeFunc fn first cap).run Tryz.prog w = .ok (.func fn first cap) w:=λ_ _ _ _=>rfl;have hp:=h.lt;have hbl:=h.own.lt;have H:=hid h;have H1:=hid (h.pure (eN w (.cells #[.pointer (some ⟨p,0,none⟩)] 39) (.cells #[.string n] 9) (.cells #[.string m] 9)));clear h
 go_enter Tryz.func48,Tryz.ntmps48
 go_wp2_with fail
 refine(dg _ p b st H1.out n hn).mono ?_;intro e w1 hf;cases hd:st.dark
 ·cases hg:cJ st.fs n.data.toList with
  | none=>
   obtain⟨hb1,rfl⟩:=ew hf hd hg;have HD:=hid hd;have HG:=hid hg;have hb6:=hid (((eO w _ _ _ hb1).alloc (by have:=hb1.size;simp at this;omega) (.cells #[.string ⟨#[]⟩,.string ⟨#[]⟩] 81)));clear hd hg hf hb1;go_wp2;go_ret;have e1:eL st n.data.toList m.data.toList=(st,5):=by unfold eL;rw[if_neg (by rw[HD.out];simp),HG.out]
   rw[e1];exact⟨rfl,H.out.pure hb6.out,Fr.pure hb6.out⟩
  | some f=>
   obtain⟨hb1,f1,f2,hf1,hf2,rfl⟩:=ex hf hd hg;have HD:=hid hd;have HG:=hid hg;have HF:=hid (And.intro hf1 hf2);have hs1:=hb1.size;simp at hs1;have HB:=hid (((eO w _ _ _ hb1).alloc (by omega) (.cells #[.string f1,.string f2] 81)));have HC:=hid (eP (((Fr.refl _ _).andPure hb1).alloc (.cells #[.string f1,.string f2] 81)));have HX:=hid (eC (Fr.refl (λ_=>False) _):BoxAt (w1.alloc (.cells #[.string f1,.string f2] 81)) w1.heap.size f1 f2);clear hd hg hf hb1 hf1 hf2;have hx1:=HC.out.1.cq;have hx2:=HC.out.1.cr;have hx3:=HC.out.2
   go_wp2_with fail
   refine(dD m _ hm).mono ?_;rintro e w3 ⟨rfl,hb3⟩;have hs3:=hb3.size;simp at hs3;have HB3:=hid (HB.out.trans (hb3.mono (by simp;omega)));have HC3:=hid (And.intro (HC.out.1.fr (Fr.pure (S:=λ_=>False) hb3) (λh=>h) (λh=>h)) ((Fr.pure (S:=λ_=>False) hb3).cellAt HC.out.2 (λh=>h)));have HX3:=hid (HX.out.fr (Fr.pure (S:=λ_=>False) hb3) (λh=>h));clear hb3 hx1 hx2 hx3;have hx1:=HC3.out.1.cq;have hx2:=HC3.out.1.cr;have hx3:=HC3.out.2;cases hmn:cU m.data.toList
   ·have HM:=hid hmn
    clear hmn;go_wp2;go_ret;have e1:eL st n.data.toList m.data.toList=(st,4):=by unfold eL;rw[if_neg (by rw[HD.out];simp),HG.out,HM.out];rfl
    rw[e1];exact⟨rfl,H.out.pure HB3.out,Fr.pure HB3.out⟩
   ·have HM:=hid hmn
    clear hmn;by_cases hnm:n=m
    ·have HNM:=hid hnm
     have htr:=ay (show n.data.toList=m.data.toList from by rw[hnm]);clear hnm;go_wp2;go_ret;have e1:eL st n.data.toList m.data.toList=(st,1):=by unfold eL;rw[if_neg (by rw[HD.out];simp),HG.out,HM.out];show(if (!true)=true then _ else if _=_ then _ else _)=_;rw[if_neg (by simp),if_pos (by rw[HNM.out])]
     rw[e1];exact⟨rfl,H.out.pure HB3.out,Fr.pure HB3.out⟩
    ·have HNM:=hid hnm
     have htr:=az (show n.data.toList≠m.data.toList from λe=>hnm (aq e));clear hnm
     go_wp2_with fail
     refine(dG 82 _ _ p b st (H.out.pure HB3.out) (enters_of Tryz.func82 (by kernel_rfl) rfl) (λw2=>IsDk w2 p b { st with left:=dec st.left,fs:=cI (cH st.fs n.data.toList) ⟨m.data.toList,f.firm,f.pend⟩ }∧DFr p b w3 w2)
      (λ_ w4 hf1 hs1 hd1=>(eM w4 _ _ _ _ p b { st with left:=dec st.left } n m f1 f2 (HC3.out.1.fr hf1 (by omega) (by omega)) (hf1.cellAt HC3.out.2 (by omega)) (HX3.out.fr hf1 (by omega)) hd1 hn (by have:=eh HM.out;rw[am]at this;exact this) f HG.out HF.out.1 HF.out.2).mono (λe w2 h2=>⟨h2.1,h2.2.1,hf1.toD1.trans h2.2.2⟩))).mono ?_
     rintro e w7 (⟨h0,rfl,hf7,hd7⟩|⟨h0,rfl,hd7,hf7⟩)
     ·have H7:=hid hd7
      have F7:=hid hf7;have H0:=hid h0;clear hd7 hf7 h0;go_wp2;go_ret;have e1:eL st n.data.toList m.data.toList=({ st with dark:=true },45):=by unfold eL;rw[if_neg (by rw[HD.out];simp),HG.out,HM.out];show(if (!true)=true then _ else if _=_ then _ else _)=_;rw[if_neg (by simp),if_neg (λe=>HNM.out (aq e))];exact if_pos H0.out
      rw[e1];exact⟨rfl,H7.out,(Fr.pure HB3.out).trans F7.out.toD1⟩
     ·have H7:=hid hd7
      have F7:=hid hf7;have H0:=hid h0;clear hd7 hf7 h0;go_wp2;go_ret;have e1:eL st n.data.toList m.data.toList=({ st with left:=dec st.left,fs:=cI (cH st.fs n.data.toList) ⟨m.data.toList,f.firm,f.pend⟩ },0):=by unfold eL;rw[if_neg (by rw[HD.out];simp),HG.out,HM.out];show(if (!true)=true then _ else if _=_ then _ else _)=_;rw[if_neg (by simp),if_neg (λe=>HNM.out (aq e))];exact if_neg H0.out
      rw[e1];exact⟨rfl,H7.out,(Fr.pure HB3.out).trans F7.out⟩
 ·obtain⟨hb1,rfl⟩:=eu hf hd
  have HD:=hid hd;have hb6:=hid (((eO w _ _ _ hb1).alloc (by have:=hb1.size;simp at this;omega) (.cells #[.string ⟨#[]⟩,.string ⟨#[]⟩] 81)));clear hd hf hb1;go_wp2;go_ret;have e1:eL st n.data.toList m.data.toList=(st,45):=by unfold eL;rw[if_pos HD.out]
  rw[e1];exact⟨rfl,H.out.pure hb6.out,Fr.pure hb6.out⟩
end
section
open Go.RowKit Go.Maps Go.Sort
def eR (st:DkSt)(n x:List UInt8):DkSt×Int:=
 if st.dark then (st,45) else match cJ st.fs n with
  | none=>(st,5)
  | some f=>if (1048576:Int)-((f.firm.length+f.pend.length:Nat):Int)<(x.length:Int)∨st.cap-(cT st.fs:Int)<(x.length:Int) then (st,44)
   else if st.left=0 then ({ st with dark:=true,fs:=cI st.fs ⟨n,f.firm,f.pend++x⟩ },45) else ({ st with left:=dec st.left,fs:=cI st.fs ⟨n,f.firm,f.pend++x⟩ },0)
theorem eS (w:World):Calls Tryz.prog 80 #[] w λe w'=>e = .returned (.tuple #[])∧w=w':=by
 go_enter Tryz.func80,Tryz.ntmps80
 go_wp2
 go_end0
 exact⟨rfl,rfl⟩
theorem eT (w:World)(p b:Nat)(st:DkSt)(h:IsDk w p b st)(n f1 f3:ByteArray)(hn:n.size≤maxLen)(f:FileS)(hg:cJ st.fs n.data.toList=some f)(firm pend:List UInt8)(h1:f1.data.toList=firm)(h3:f3.data.toList=pend)
  (hsm:firm.length+pend.length≤1048576) (hft:(cT st.fs:Int)+((firm.length+pend.length:Nat):Int)≤st.cap+((f.firm.length+f.pend.length:Nat):Int)) :
  ∃w6,(Instr.mapUpdate 76 (.map (some b)) (.string n) (.agg #[.string f1,.string f3])).run Tryz.prog w.drew = .ok () w6∧IsDk w6 p b { st with fs:=cI st.fs ⟨n.data.toList,firm,pend⟩ }∧Fr (λk=>k=b) w w6:=by
 obtain⟨w6,hrun,hown,hturn⟩:=h.drew.own.store (t:=76) (e:=81) Tryz.strKey Tryz.underlying76 h.fewer (key:=.string n) (val:=.agg #[.string f1,.string f3]) (WideMaps.keyOf_string_mk Tryz.underlying9 hn) (cD _ _);have hud:=dQ (dn h.ok.fs) hg;refine⟨w6,hrun,h.drew.turned (n:=st.fs.length+1) (fs':=cI st.fs ⟨n.data.toList,firm,pend⟩) ?_ hturn ?_ ?_,(Fr.refl _ w).drew.trans (dE hturn)⟩
 ·rw[← cN]
  show w6.ownsMap Tryz.prog 9 cB b _ ((fsD st.fs).put (.string n.data.toList) (.agg [.lit (.string firm),.lit (.string pend)]));rw[← h1,← h3];exact hown
 ·exact h.ok.fs.keep.put (by show(cH st.fs n.data.toList).length<64;have:=h.ok.fs.few;omega) hsm (by show n.data.toList.length≤24;rw[← (cS hg).1];exact h.ok.fs.names f (cS hg).2)
 ·rw[dR]
  show(((firm.length+pend.length)+cT (cH st.fs n.data.toList):Nat):Int)≤st.cap;omega
set_option maxRecDepth 100000 in
theorem eU (w:World)(p b:Nat)(st:DkSt)(h:IsDk w p b st)(n x:ByteArray)(hn:n.size≤maxLen)(hx:x.size≤140737488355328) :
  Calls Tryz.prog 46 #[.pointer (some ⟨p,0,none⟩),.string n,.string x] w λe w'=>ec p b (eR st n.data.toList x.data.toList) w e w':=by
 have hmf:∀(fn:Fn) (first cap:Array Value) (w:World),(Instr.makeFunc fn first cap).run Tryz.prog w = .ok (.func fn first cap) w:=λ_ _ _ _=>rfl;have hp:=h.lt;have hbl:=h.own.lt;have H:=hid h;clear h
 go_enter Tryz.func46,Tryz.ntmps46
 go_wp2_with fail
 refine(dg _ p b st H.out n hn).mono ?_;intro e w1 hf;cases hd:st.dark
 ·cases hg:cJ st.fs n.data.toList with
  | none=>
   obtain⟨hb1,rfl⟩:=ew hf hd hg;have HD:=hid hd;have HG:=hid hg;have hb6:=hid (hb1.alloc hb1.size (.cells #[.string ⟨#[]⟩,.string ⟨#[]⟩] 81));clear hd hg hf hb1;go_wp2;go_ret;have e1:eR st n.data.toList x.data.toList=(st,5):=by unfold eR;rw[if_neg (by rw[HD.out];simp),HG.out]
   rw[e1];exact⟨rfl,H.out.pure hb6.out,Fr.pure hb6.out⟩
  | some f=>
   obtain⟨hb1,f1,f2,hf1,hf2,rfl⟩:=ex hf hd hg;have HD:=hid hd;have HG:=hid hg;have HF:=hid (And.intro hf1 hf2);have hs1:=hb1.size;have HB:=hid (hb1.alloc hb1.size (.cells #[.string f1,.string f2] 81));have hsm:=H.out.ok.fs.small f (cS hg).2;have hsz:f1.size+f2.size≤1048576:=by rw[av hf1,av hf2];omega
   have HX:=hid (eC (Fr.refl (λ_=>False) _):BoxAt (w1.alloc (.cells #[.string f1,.string f2] 81)) w1.heap.size f1 f2);have hs2:w1.heap.size<(w1.alloc (.cells #[.string f1,.string f2] 81)).heap.size:=by simp
   have hz2:∀w',Below (w1.alloc (.cells #[.string f1,.string f2] 81)).heap.size (w1.alloc (.cells #[.string f1,.string f2] 81)) w'→w'.frozen? ⟨w1.heap.size,1,none⟩=false:=λw' hb=>(hb.frozen (by simp)).trans (World.frozen?_alloc_at _ _ _ _ rfl);have H2:=hid (H.out.pure HB.out);have hul:=cV H.out.ok.fs;have hcap0:=H.out.ok.cap0;have hcap1:=H.out.ok.cap1;have w1e:IntKind.i64.wrap ((1048576:Int)-((f1.size:Int)+(f2.size:Int)))=(1048576:Int)-((f1.size:Int)+(f2.size:Int)):=IntWalk.i64_in _ (by omega);have w2e:IntKind.i64.wrap (st.cap-(cT st.fs:Int))=st.cap-(cT st.fs:Int):=IntWalk.i64_in _ (by omega);clear hd hg hf hb1 hf1 hf2
   go_wp2_with fail
   generalize w1.alloc (.cells #[.string f1,.string f2] 81)=w2 at *
   generalize w1.heap.size=g at *
   obtain⟨c0,c1,c2,c3⟩:=H2.out.cs;have k1:=cell_regrown c1;have k2:=cell_regrown HX.out.c0;have k3:=cell_regrown HX.out.c1;have q1:∀d os,Calls Tryz.prog 58 #[.agg #[.string f1,.string f2]] (grow (redrawn w2 d) os) λe w''=>e = .returned (.int .i64 ((f1.size+f2.size:Nat):Int))∧∃p:Regrown,w''=grow (redrawn w2 p.d) p.os:=λd os=>Calls.regrown_of (dh _ f1 f2 (by omega));have q2:∀d os,Calls Tryz.prog 27 #[.pointer (some ⟨p,0,none⟩)] (grow (redrawn w2 d) os) λe w''=>e = .returned (.int .i64 (cT st.fs:Int))∧∃p:Regrown,w''=grow (redrawn w2 p.d) p.os:=λd os=>Calls.regrown_of (dy _ p b st (H2.out.pure (below_regrown w2 d os)));by_cases hb1:(1048576:Int)-((f1.size:Int)+(f2.size:Int))<(x.size:Int)
   ·have hd1:decide (IntKind.i64.wrap (1048576-((f1.size:Int)+(f2.size:Int)))<(x.size:Int))=true:=by rw[w1e];simpa using hb1
    clear w1e w2e;refine wp_region_quiet_below (by kernel_rfl) (by kernel_rfl) ?_
    repeat (go_big_quiet_step (first|exact q1 _ _|exact q2 _ _))
    refine wpQuiet_nil ?_;intro _ hw';obtain⟨⟨dq,osq⟩,hw''⟩:=hw';subst hw'';have HB3:=hid (HB.out.trans ((below_regrown w2 dq osq).mono (by omega)))
    generalize grow (redrawn w2 dq) osq=w3 at *
    go_wp2;go_ret;have e1:eR st n.data.toList x.data.toList=(st,44):=by
     unfold eR;rw[if_neg (by rw[HD.out];simp),HG.out];show(if _ then _ else _)=_;rw[if_pos (.inl (by rw[← HF.out.1,← HF.out.2,am,am,am];omega))]
    rw[e1];exact⟨rfl,H.out.pure HB3.out,Fr.pure HB3.out⟩
   ·have hd1:decide (IntKind.i64.wrap (1048576-((f1.size:Int)+(f2.size:Int)))<(x.size:Int))=false:=by rw[w1e];simpa using hb1
    by_cases hb2:st.cap-(cT st.fs:Int)<(x.size:Int)
    ·have hd2:decide (IntKind.i64.wrap (st.cap-(cT st.fs:Int))<(x.size:Int))=true:=by rw[w2e];simpa using hb2
     clear w1e w2e;refine wp_region_quiet_below (by kernel_rfl) (by kernel_rfl) ?_
     repeat (go_big_quiet_step (first|exact q1 _ _|exact q2 _ _))
     refine wpQuiet_nil ?_;intro _ hw';obtain⟨⟨dq,osq⟩,hw''⟩:=hw';subst hw'';have HB3:=hid (HB.out.trans ((below_regrown w2 dq osq).mono (by omega)))
     generalize grow (redrawn w2 dq) osq=w3 at *
     go_wp2;go_ret;have e1:eR st n.data.toList x.data.toList=(st,44):=by
      unfold eR;rw[if_neg (by rw[HD.out];simp),HG.out];show(if _ then _ else _)=_;rw[if_pos (.inr (by rw[am];omega))]
     rw[e1];exact⟨rfl,H.out.pure HB3.out,Fr.pure HB3.out⟩
    ·have hd2:decide (IntKind.i64.wrap (st.cap-(cT st.fs:Int))<(x.size:Int))=false:=by rw[w2e];simpa using hb2
     clear w1e w2e;have HNB:=hid (show ¬((1048576:Int)-((f.firm.length+f.pend.length:Nat):Int)<(x.data.toList.length:Int)∨st.cap-(cT st.fs:Int)<(x.data.toList.length:Int))from by
      rw[← HF.out.1,← HF.out.2,am,am,am];omega)
     have HL:=hid (show f.firm.length+(f.pend.length+x.data.toList.length)≤1048576∧(cT st.fs:Int)+((f.firm.length+(f.pend.length+x.data.toList.length):Nat):Int)≤st.cap+((f.firm.length+f.pend.length:Nat):Int)from by
      rw[← HF.out.1,← HF.out.2,am,am,am];omega)
     have hsx:f2.size+x.size≤9223372036854775807:=by omega
     refine wp_region_quiet_below (by kernel_rfl) (by kernel_rfl) ?_
     repeat (go_big_quiet_step (first|exact q1 _ _|exact q2 _ _))
     refine wpQuiet_nil ?_;intro _ hw';obtain⟨⟨dq,osq⟩,hw''⟩:=hw';subst hw'';have hb3:=below_regrown w2 dq osq;have HB3:=hid (HB.out.trans (hb3.mono (by omega)));have hz3:=hz2 _ hb3;have HX3:=hid (HX.out.fr (Fr.pure (S:=λ_=>False) hb3) (λh=>h));have hs3:=hb3.size;clear hb3 q1 q2 k1 k2 k3 c0 c1 c2 c3 hd1 hd2 hz2
     generalize grow (redrawn w2 dq) osq=w3 at *
     have y1:=HX3.out.c0;have y2:=HX3.out.c1;have hf4:=dF (w:=w3) ⟨g,1,none⟩ (.string (f2++x));have H4:=hid ((H.out.pure HB3.out).kept hf4 (by show ¬p=g;omega) (by show ¬b=g;omega));have HX4:=hid (show BoxAt (w3.setCell ⟨g,1,none⟩ (.string (f2++x))) g f1 (f2++x)from⟨by rw[World.cell?_setCell_other _ _ _ _ (by simp)];exact HX3.out.c0,World.cell?_setCell_same _ _ _ HX3.out.c1⟩)
     go_wp2_with fail
     refine(dG 80 #[] _ p b st H4.out (enters_of Tryz.func80 (by kernel_rfl) rfl) (λw2=>IsDk w2 p b { st with left:=dec st.left }∧Fr (λk=>k=p) (w3.setCell ⟨g,1,none⟩ (.string (f2++x))) w2) (λ_ w5 hf1 hs1 hd1=>(eS w5).mono (λe w2 h2=>⟨h2.1,by rw[← h2.2];exact⟨hd1,hf1⟩⟩))).mono ?_;rintro e w5 (⟨h0,rfl,hf5,hd5⟩|⟨h0,rfl,hd5,hf5⟩)
     ·have H0:=hid h0
      obtain⟨w6,hrun,hd6,hf6⟩:=eT w5 p b _ hd5 n f1 (f2++x) hn f HG.out f.firm (f.pend++x.data.toList) HF.out.1 (by rw[eF,HF.out.2]) (by rw[List.length_append];exact HL.out.1) (by rw[List.length_append];exact HL.out.2);have hx5:=HX4.out.fr hf5 (by omega);have y1:=hx5.c0;have y2:=hx5.c1;obtain⟨e0,e1,e2,e3⟩:=hd5.cs;have H6:=hid hd6;have F6:=hid ((((Fr.pure (S:=λk=>k=p∨k=b) HB3.out).then hf4 (λi hi e=>absurd (show i=g from e) (by omega)))).trans (hf5.toD1.trans hf6.toD));clear h0 hx5 hd5 hf5 hd6 hf6
      go_wp2_with fail
      go_region
      go_wp2;go_ret;have e1:eR st n.data.toList x.data.toList=({ st with dark:=true,fs:=cI st.fs ⟨n.data.toList,f.firm,f.pend++x.data.toList⟩ },45):=by unfold eR;rw[if_neg (by rw[HD.out];simp),HG.out];show(if _ then _ else _)=_;rw[if_neg HNB.out,if_pos H0.out]
      rw[e1];exact⟨rfl,H6.out,F6.out⟩
     ·have H0:=hid h0
      obtain⟨w6,hrun,hd6,hf6⟩:=eT w5 p b _ hd5 n f1 (f2++x) hn f HG.out f.firm (f.pend++x.data.toList) HF.out.1 (by rw[eF,HF.out.2]) (by rw[List.length_append];exact HL.out.1) (by rw[List.length_append];exact HL.out.2);have hx5:=HX4.out.fr hf5 (by omega);have y1:=hx5.c0;have y2:=hx5.c1;obtain⟨e0,e1,e2,e3⟩:=hd5.cs;have H6:=hid hd6;have F6:=hid ((((Fr.pure (S:=λk=>k=p∨k=b) HB3.out).then hf4 (λi hi e=>absurd (show i=g from e) (by omega)))).trans (hf5.toD1.trans hf6.toD));clear h0 hx5 hd5 hf5 hd6 hf6
      go_wp2_with fail
      go_region
      go_wp2;go_ret;have e1:eR st n.data.toList x.data.toList=({ st with left:=dec st.left,fs:=cI st.fs ⟨n.data.toList,f.firm,f.pend++x.data.toList⟩ },0):=by unfold eR;rw[if_neg (by rw[HD.out];simp),HG.out];show(if _ then _ else _)=_;rw[if_neg HNB.out,if_neg H0.out]
      rw[e1];exact⟨rfl,H6.out,F6.out⟩
 ·obtain⟨hb1,rfl⟩:=eu hf hd
  have HD:=hid hd;have hb6:=hid (hb1.alloc hb1.size (.cells #[.string ⟨#[]⟩,.string ⟨#[]⟩] 81));clear hd hf hb1;go_wp2;go_ret;have e1:eR st n.data.toList x.data.toList=(st,45):=by unfold eR;rw[if_pos HD.out]
  rw[e1];exact⟨rfl,H.out.pure hb6.out,Fr.pure hb6.out⟩
end
section
structure On (st:DkSt):Prop where
 lit:st.dark=false
 free:st.left = -1
theorem On.put {st:DkSt}(h:On st)(fs':Fs):On { st with fs:=fs' }:=⟨h.lit,h.free⟩
end
section
open Go.RowKit Go.Sort
abbrev Pow (w:World):Prop:=Lib.TabIs Tryz.prog w "internal/strconv.uint64pow10" .u64 Lib.pow10Tab
theorem eV {w:World}(h:Pow w):0<w.heap.size:=by
 unfold Pow Lib.TabIs World.var? at h;rw[show Tryz.prog.globalNamed "internal/strconv.uint64pow10" = some 0 from by kernel_rfl]at h;simp only[Option.bind_some]at h
 rcases Nat.lt_or_ge 0 w.heap.size with h'|h'
 ·exact h'
 ·rw[Array.getElem?_eq_none h']at h;cases h
theorem Fr.pow {S:Nat→Prop}{w w':World}(hf:Fr S w w')(h:Pow w)(hs:¬S 0):Pow w':=by
 have hl:=eV h;unfold Pow Lib.TabIs World.var? at h ⊢;rw[show Tryz.prog.globalNamed "internal/strconv.uint64pow10" = some 0 from by kernel_rfl]at h ⊢;simp only[Option.bind_some]at h ⊢;rw[hf.block _ hl hs];exact h
theorem eW {w w':World}(hb:Below w.heap.size w w')(h:Pow w):Pow w':=(Fr.pure (S:=λ_=>False) hb).pow h (λh=>h)
def eX (n:Nat):List UInt8:=List.replicate n 48
theorem eY (c:Nat):Lib.repeatL [48] c=eX c:=by
 induction c with
 | zero=>rfl
 | succ c ih=>unfold Lib.repeatL eX;rw[ih,List.replicate_succ];rfl
def eZ (n:Int)(d:Nat):List UInt8:=eX (d-(Lib.itoa n).length)++Lib.itoa n
def fg (f:Int):Bool:=decide (0≤f) && decide (f≤1048576)
theorem fh (n:Int)(d:Nat)(h0 : -9223372036854775808≤n)(h1:n≤9223372036854775807):(eZ n d).length≤d+21:=by
 unfold eZ eX;have:=Lib.itoa_length_le n h0 h1;rw[List.length_append,List.length_replicate];omega
end
section
open Go.RowKit
def fi (c:UInt8):Prop:=48≤c.toNat∧c.toNat≤57
theorem fj (d:Nat)(h:d<10):(UInt8.ofNat (48+d)).toNat=48+d:=by simp;omega
theorem fl (M:Nat)(hM:M≤18446744073709551615):∀u,∀r:List UInt8,u≤M→Lib.parseUintM M 0 (Lib.decDigits u++r)=Lib.parseUintM M u r:=by
 intro u
 induction u using Nat.strongRecOn with
 | _ u ih=>
  intro r hu;rw[Lib.decDigits]
  split
  ·rename_i h
   have:=fj u h;simp only[List.singleton_append,Lib.parseUintM,this];rw[if_pos (by omega),if_neg (by omega),if_neg (by omega)];congr 1;omega
  ·rename_i h
   have:=fj (u % 10) (by omega);rw[List.append_assoc];rw[ih (u / 10) (by omega) _ (by omega)];simp only[List.singleton_append,Lib.parseUintM,this];rw[if_pos (by omega),if_neg (by omega),if_neg (by omega)];congr 1;omega
theorem fm (M:Nat)(r:List UInt8)(k:Nat):Lib.parseUintM M 0 (eX k++r)=Lib.parseUintM M 0 r:=by
 induction k with
 | zero=>rfl
 | succ k ih=>
  unfold eX at ih ⊢;rw[List.replicate_succ,List.cons_append,Lib.parseUintM];rw[if_pos (by decide),if_neg (by decide),if_neg (by show ¬M<0*10+(48-48);omega)];exact ih
theorem fo (u:Nat):∀c∈Lib.decDigits u,fi c:=by
 induction u using Nat.strongRecOn with
 | _ u ih=>
  rw[Lib.decDigits]
  split
  ·rename_i h
   intro c hc;rw[List.mem_singleton]at hc;subst hc;unfold fi;rw[fj u h];omega
  ·rename_i h
   intro c hc
   rcases List.mem_append.1 hc with hc|hc
   ·exact ih (u / 10) (by omega) c hc
   ·rw[List.mem_singleton]at hc
    subst hc;unfold fi;rw[fj (u % 10) (by omega)];omega
theorem fq (u d:Nat)(h:u<10 ^ (d+1)):(Lib.decDigits u).length≤d+1:=by
 induction d generalizing u with
 | zero=>rw[Lib.decDigits,dif_pos (by omega)];simp
 | succ d ih=>
  rw[Lib.decDigits]
  split
  ·simp
  ·have:=ih (u / 10) (by rw[Nat.pow_succ]at h;omega)
   rw[List.length_append,List.length_singleton];omega
theorem ft (u:Nat):Lib.decDigits u≠[]:=by
 rw[Lib.decDigits];split<;>simp
theorem fu (u d:Nat):eZ (u:Int) d=eX (d-(Lib.decDigits u).length)++Lib.decDigits u:=by
 unfold eZ;rw[Lib.itoa_nonneg]
theorem fw (u d:Nat):∀c∈eZ (u:Int) d,fi c:=by
 intro c hc;rw[fu]at hc
 rcases List.mem_append.1 hc with hc|hc
 ·unfold eX at hc
  rw[List.mem_replicate]at hc;rw[hc.2];unfold fi;decide
 ·exact fo u c hc
theorem fx (u d:Nat):eZ (u:Int) d≠[]:=by
 rw[fu];intro e;exact ft u (List.append_eq_nil_iff.1 e).2
theorem fy (u d:Nat)(h:u<10 ^ (d+1)):(eZ (u:Int) (d+1)).length=d+1:=by
 have:=fq u d h;rw[fu,List.length_append];unfold eX;rw[List.length_replicate];omega
theorem fB (u d:Nat)(hu:u<9223372036854775808):Lib.parseIntB 64 (eZ (u:Int) d) = .ok (u:Int):=by
 have hp:Lib.parseUintM (2 ^ 64-1) 0 (eZ (u:Int) d) = .ok u:=by
  rw[fu,fm];have:=fl (2 ^ 64-1) (by decide) u [] (by omega);rw[List.append_nil]at this;rw[this];rfl
 have hne:=fx u d;have hd:=fw u d;cases e:eZ (u:Int) d with
 | nil=>exact absurd e hne
 | cons c r=>
  rw[e]at hp hd;have hc:=hd c (by simp);unfold fi at hc;unfold Lib.parseIntB;simp only;rw[if_neg (by omega)];unfold Lib.parseUintB;rw[if_neg (by simp),hp];simp only;rw[if_neg (by rintro⟨_,h⟩;omega),if_neg (by rintro⟨h,_⟩;omega),if_neg (by omega)]
def vF:Nat→List UInt8→Nat
 | n,[]=>n
 | n,c::r=>vF (n*10+(c.toNat-48)) r
theorem fC (a b:List UInt8):∀n,vF n (a++b)=vF (vF n a) b:=by
 induction a with
 | nil=>intro n;rfl
 | cons c r ih=>intro n;exact ih _
theorem fD (u:Nat):vF 0 (Lib.decDigits u)=u:=by
 induction u using Nat.strongRecOn with
 | _ u ih=>
  rw[Lib.decDigits]
  split
  ·rename_i h
   show 0*10+((UInt8.ofNat (48+u)).toNat-48)=u;rw[fj u h];omega
  ·rename_i h
   rw[fC,ih (u / 10) (by omega)];show u / 10*10+((UInt8.ofNat (48+u % 10)).toNat-48)=u;rw[fj (u % 10) (by omega)];omega
theorem fE (k:Nat)(r:List UInt8):vF 0 (eX k++r)=vF 0 r:=by
 induction k with
 | zero=>rfl
 | succ k ih=>
  unfold eX at ih ⊢;rw[List.replicate_succ,List.cons_append];exact ih
theorem fF (u d:Nat):vF 0 (eZ (u:Int) d)=u:=by rw[fu,fE,fD]
def p10:Nat→Nat
 | 0=>1
 | k+1=>10*p10 k
theorem fG (a k:Nat):a*p10 (k+1)=(a*10)*p10 k:=by
 show a*(10*p10 k)=_;rw[Nat.mul_assoc]
theorem fH:∀(l:List UInt8) (n:Nat),n*p10 l.length≤vF n l
 | [],n=>Nat.le_of_eq (Nat.mul_one n)
 | c::r,n=>by
  have h:=fH r (n*10+(c.toNat-48));have e:vF n (c::r)=vF (n*10+(c.toNat-48)) r:=rfl;have h2:(n*10)*p10 r.length≤(n*10+(c.toNat-48))*p10 r.length:=Nat.mul_le_mul_right _ (Nat.le_add_right _ _);rw[e,List.length_cons,fG];exact Nat.le_trans h2 h
theorem fI:∀(l:List UInt8),(∀c∈l,fi c)→∀n,vF n l<(n+1)*p10 l.length
 | [],_,n=>by
  rw[List.length_nil];show n<(n+1)*1;omega
 | c::r,hd,n=>by
  have hc:=hd c (by simp);unfold fi at hc;have h:=fI r (λx hx=>hd x (by simp[hx])) (n*10+(c.toNat-48));have e:vF n (c::r)=vF (n*10+(c.toNat-48)) r:=rfl;have h2:(n*10+(c.toNat-48)+1)*p10 r.length≤((n+1)*10)*p10 r.length:=Nat.mul_le_mul_right _ (by omega);rw[e,List.length_cons,fG];exact Nat.lt_of_lt_of_le h h2
theorem fJ {a b:UInt8}(h:a.toNat<b.toNat):a<b:=UInt8.lt_iff_toNat_lt.2 h
theorem fK:∀(A B:List UInt8) (n:Nat),A.length=B.length→(∀c∈A,fi c)→(∀c∈B,fi c)→vF n A<vF n B→Go.bytesBefore A B=true
 | [],[],n,_,_,_,h=>absurd h (Nat.lt_irrefl _)
 | [],_::_,_,hl,_,_,_=>by simp at hl
 | _::_,[],_,hl,_,_,_=>by simp at hl
 | a::r,b::s,n,hl,hA,hB,h=>by
  have ha:=hA a (by simp);have hb:=hB b (by simp);unfold fi at ha hb;have hl':r.length=s.length:=by simpa using hl
  have hA':∀c∈r,fi c:=λx hx=>hA x (by simp[hx]);have hB':∀c∈s,fi c:=λx hx=>hB x (by simp[hx]);have h':vF (n*10+(a.toNat-48)) r<vF (n*10+(b.toNat-48)) s:=h;show(decide (a<b) || (a == b && Go.bytesBefore r s))=true
  rcases Nat.lt_trichotomy a.toNat b.toNat with hc|hc|hc
  ·rw[decide_eq_true (fJ hc)];rfl
  ·have e:a=b:=UInt8.toNat_inj.1 hc
   subst e;rw[fK r s _ hl' hA' hB' h'];simp
  ·exfalso
   have h1:=fI s hB' (n*10+(b.toNat-48));have h2:=fH r (n*10+(a.toNat-48));rw[hl']at h2;have h3:(n*10+(b.toNat-48)+1)*p10 s.length≤(n*10+(a.toNat-48))*p10 s.length:=Nat.mul_le_mul_right _ (by omega);omega
theorem fL (P A B:List UInt8)(h:Go.bytesBefore A B=true):Go.bytesBefore (P++A) (P++B)=true:=by
 induction P with
 | nil=>exact h
 | cons c r ih=>
  show(decide (c<c) || (c == c && Go.bytesBefore (r++A) (r++B)))=true;rw[ih];simp
theorem fM:∀(a b:List UInt8),Go.bytesBefore a b=true→Go.bytesBefore b a=true→False
 | [],[],h,_=>by cases h
 | [],_::_,_,h=>by cases h
 | _::_,[],h,_=>by cases h
 | a::r,b::s,h,h2=>by
  have k:(decide (a<b) || (a == b && Go.bytesBefore r s))=true:=h;have k2:(decide (b<a) || (b == a && Go.bytesBefore s r))=true:=h2;simp only[Bool.or_eq_true,Bool.and_eq_true,decide_eq_true_eq,beq_iff_eq,UInt8.lt_iff_toNat_lt]at k k2;clear h h2
  rcases k with k|⟨e,k⟩
  ·rcases k2 with k2|⟨e2,_⟩
   ·omega
   ·rw[e2]at k;omega
  ·rcases k2 with k2|⟨_,k2⟩
   ·rw[e]at k2;omega
   ·exact fM r s k k2
def fN (n:Int):List UInt8:=if 0≤n∧n≤1048576 then 110::eZ n 10 else []
def fO (s:List UInt8):Prop:=∃n:Nat,n≤1048576∧s=fN (n:Int)
theorem fP (n:Nat)(h:n≤1048576):fN (n:Int)=110::eZ (n:Int) 10:=by
 unfold fN;rw[if_pos (by omega)]
theorem fQ (n:Nat)(h:n≤1048576):(fN (n:Int)).length=11:=by
 rw[fP n h,List.length_cons,fy n 9 (by omega)]
theorem fR {n m:Nat}(hn:n≤1048576)(hm:m≤1048576)(h:fN (n:Int)=fN (m:Int)):n=m:=by
 rw[fP n hn,fP m hm]at h;have h:=(List.cons.inj h).2;have p1:=fB n 10 (by omega);have p2:=fB m 10 (by omega);rw[h,p2]at p1;simp only[Lib.NumEnd.ok.injEq]at p1;omega
theorem fS {n:Int}(h:fN n≠[]):0≤n∧n≤1048576:=by
 unfold fN at h
 split at h
 ·assumption
 ·exact absurd rfl h
theorem fT (r:List UInt8):Lib.hasPrefix (110::r) [110]=true:=by
 unfold Lib.hasPrefix;simp
theorem fU (r:List UInt8):Lib.trimPrefix (110::r) [110]=r:=by
 unfold Lib.trimPrefix Lib.hasPrefix;simp
theorem fV (a b:List UInt8):(Lib.trimPrefix a b).length≤a.length:=by
 unfold Lib.trimPrefix
 split
 ·rw[List.length_drop];omega
 ·exact Nat.le_refl _
open Classical in
noncomputable def fW (s:List UInt8):Option Nat:=if fO s then some (vF 0 (s.drop 1)) else none
theorem fX (n:Nat)(h:n≤1048576):fW (fN (n:Int))=some n:=by
 unfold fW;rw[if_pos ⟨n,h,rfl⟩,fP n h];show some (vF 0 (eZ (n:Int) 10))=_;rw[fF]
theorem fY {s:List UInt8}{n:Nat}(h:fW s=some n):n≤1048576∧s=fN (n:Int):=by
 by_cases hs:fO s
 ·obtain⟨m,hm,rfl⟩:=hs
  rw[fX m hm]at h;cases h;exact⟨hm,rfl⟩
 ·unfold fW at h;rw[if_neg hs]at h;cases h
theorem fZ {s:List UInt8}:fW s=none↔¬fO s:=by
 constructor
 ·intro h ⟨m,hm,e⟩;rw[e,fX m hm]at h;cases h
 ·intro h;unfold fW;rw[if_neg h]
noncomputable def gd (ns:List (List UInt8)):List Nat:=ns.filterMap fW
theorem gh {ns:List (List UInt8)}{k:Nat}(hk:k<ns.length):gd (ns.take (k+1))=gd (ns.take k)++(fW ns[k]).toList:=by
 unfold gd;rw[List.take_succ_eq_append_getElem hk,List.filterMap_append];cases h:fW ns[k]<;>simp[h]
theorem gi (ns:List (List UInt8)):(gd ns).length≤ns.length:=List.length_filterMap_le _ _
theorem gj {fs:Fs}{n:Nat}:n∈gd (fs.map (·.name))↔n≤1048576∧∃f∈fs,f.name=fN (n:Int):=by
 unfold gd;rw[List.mem_filterMap];constructor
 ·rintro⟨x,hx,h⟩
  obtain⟨f,hf,rfl⟩:=List.mem_map.1 hx;obtain⟨h1,h2⟩:=fY h;exact⟨h1,f,hf,h2⟩
 ·rintro⟨h1,f,hf,h2⟩
  exact⟨f.name,List.mem_map.2 ⟨f,hf,rfl⟩,by rw[h2,fX n h1]⟩
theorem gk {fs:Fs}{f:FileS}(h:f∈fs):(cJ fs f.name).isSome=true:=by
 unfold cJ;rw[List.find?_isSome];exact⟨f,h,by simp⟩
theorem gl:∀(A B:List UInt8) (n:Nat),A.length=B.length→(∀c∈A,fi c)→(∀c∈B,fi c)→vF n A=vF n B→A=B:=by
 intro A B n hl hA hB h;by_cases e:A=B
 ·exact e
 ·exfalso
  induction A generalizing B n with
  | nil=>cases B with
   | nil=>exact e rfl
   | cons b s=>simp at hl
  | cons a r ih=>cases B with
   | nil=>simp at hl
   | cons b s=>
    have ha:=hA a (by simp);have hb:=hB b (by simp);unfold fi at ha hb;have hl':r.length=s.length:=by simpa using hl
    have hA':∀c∈r,fi c:=λx hx=>hA x (by simp[hx]);have hB':∀c∈s,fi c:=λx hx=>hB x (by simp[hx]);have h':vF (n*10+(a.toNat-48)) r=vF (n*10+(b.toNat-48)) s:=h;have g1:=fI s hB' (n*10+(b.toNat-48));have g2:=fH r (n*10+(a.toNat-48));have g3:=fI r hA' (n*10+(a.toNat-48));have g4:=fH s (n*10+(b.toNat-48));rw[hl']at g2 g3
    rcases Nat.lt_trichotomy a.toNat b.toNat with hc|hc|hc
    ·have h3:(n*10+(a.toNat-48)+1)*p10 s.length≤(n*10+(b.toNat-48))*p10 s.length:=Nat.mul_le_mul_right _ (by omega)
     omega
    ·have e2:a=b:=UInt8.toNat_inj.1 hc
     subst e2;exact ih s _ hl' hA' hB' h' (λe3=>e (by rw[e3]))
    ·have h3:(n*10+(b.toNat-48)+1)*p10 s.length≤(n*10+(a.toNat-48))*p10 s.length:=Nat.mul_le_mul_right _ (by omega)
     omega
def gm (s:List UInt8):Option Nat:=
 if s.take 1=[110]∧s.length=11∧(s.drop 1).all (λc=>decide (48≤c.toNat) && decide (c.toNat≤57))=true∧vF 0 (s.drop 1)≤1048576 then some (vF 0 (s.drop 1)) else none
theorem gn (s:List UInt8):gm s=fW s:=by
 cases h:fW s with
 | some n=>
  obtain⟨hn,rfl⟩:=fY h;have hd:(fN (n:Int)).drop 1=eZ (n:Int) 10:=by rw[fP n hn];rfl
  unfold gm;rw[hd,fF,if_pos];refine⟨by rw[fP n hn];rfl,fQ n hn,?_,hn⟩;rw[List.all_eq_true];intro c hc;have:=fw n 10 c hc;unfold fi at this;simp[this.1,this.2]
 | none=>
  unfold gm;rw[if_neg];rintro⟨h1,h2,h3,h4⟩;refine fZ.1 h ⟨vF 0 (s.drop 1),h4,?_⟩;have hs:s=110::s.drop 1:=by
   have:=List.take_append_drop 1 s;rw[h1]at this;exact this.symm
  rw[fP _ h4]
  conv=>lhs;rw[hs]
  congr 1;refine gl _ _ 0 ?_ (λc hc=>?_) (fw _ 10) (by rw[fF])
  ·rw[List.length_drop,h2,fy _ 9 (by omega)]
  ·rw[List.all_eq_true]at h3
   have:=h3 c hc;unfold fi;simpa using this
def gp (ns:List (List UInt8)):List Nat:=ns.filterMap gm
theorem gq (ns:List (List UInt8)):gp ns=gd ns:=by
 unfold gp gd;congr 1;funext s;exact gn s
end
end Go.Proofs.YtaeakdichkhjaaaGreatDoor
