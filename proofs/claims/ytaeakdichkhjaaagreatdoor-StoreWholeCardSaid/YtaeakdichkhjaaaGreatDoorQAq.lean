/- disk.New. -/
import Derived.Test.YtaeakdichkhjaaaGreatDoorQAn
import Derived.Test.YtaeakdichkhjaaaGreatDoorQAp
import Derived.Test.YtaeakdichkhjaaaGreatDoorQAg
set_option maxHeartbeats 4000000
open Go.Lib(hid)
namespace Go.Proofs.YtaeakdichkhjaaaGreatDoor
section
open Go.RowKit Go.Shelf
attribute [local go_sem] Oper.semAt_some
def nH (T:Nat→Option Nat):List Nat→Value
 | []=>.tuple #[.int .i64 0,stZ,dl,.bool false,.int .i64 0]
 | n::r=>match T n with
  | some c=>.tuple #[.int .i64 (n:Int),stV (c:Int) 0 1 1,dl,.bool true,.int .i64 0]
  | none=>nH T r
theorem nI {T:Nat→Option Nat}:∀{l:List Nat},(∀m∈l,T m=none)→nH T l = .tuple #[.int .i64 0,stZ,dl,.bool false,.int .i64 0]
 | [],_=>rfl
 | n::r,h=>by
  unfold nH;rw[h n (by simp)];exact nI (λm hm=>h m (by simp[hm]))
theorem nJ {T:Nat→Option Nat}{n c:Nat}{r:List Nat}:∀{l:List Nat},(∀m∈l,T m=none)→T n=some c→nH T (l++n::r) = .tuple #[.int .i64 (n:Int),stV (c:Int) 0 1 1,dl,.bool true,.int .i64 0]
 | [],_,hn=>by
  show nH T (n::r)=_;unfold nH;rw[hn]
 | m::l,h,hn=>by
  show nH T (m::(l++n::r))=_;unfold nH;rw[h m (by simp)];exact nJ (λk hk=>h k (by simp[hk])) hn
theorem nK (f t:Int)(L:List (Nat×Nat))(k:Nat):∃r,flt f t L=flt f t (L.take k)++r:=by
 refine⟨flt f t (L.drop k),?_⟩;unfold flt;rw[← List.filter_append,← List.map_append,List.take_append_drop]
def nL (st:DkSt)(T:Nat→Option Nat)(n:Nat):Prop:=match T n with
 | some c=>c<128∧fU st (gQ (n:Int))=(iU n c,0)
 | none=>fU st (gQ (n:Int))=([],0)
theorem nM {w:World}{p b:Nat}{st:DkSt}(h:IsDk w p b st){nm D:List UInt8}{code:Int}(hd:fU st nm=(D,code))(hnm:nm.length≤100):Reads w (.pointer (some ⟨p,0,none⟩)) nm D code:=λW r hW hr=>by
 have h1:=fW W p b st (h.pure hW) r (by rw[ay hr];unfold maxLen;omega);rw[hr,hd]at h1;exact h1
theorem nN (n:Int):(gQ n).length≤100:=by
 unfold gQ
 split
 ·rename_i hc
  rw[List.length_cons];have:=gw n 10 (by omega) (by omega);omega
 ·simp
structure NwAt (w W:World) (b p:Nat) (r0:Int) (C:Array Value) (V:Array Value) (ok:Bool):Prop where
 d:W.heap[b]?=some (.cells #[.pointer (some ⟨p,0,none⟩)] 39 (0,0))
 q:W.heap[b+1]?=some (.cells #[.int .i64 r0] 2 (0,0))
 s:W.heap[b+1+1]?=some (.cells C 29 (0,0))
 v:W.heap[b+1+1+1]?=some (.cells V 35 (0,0))
 i:W.heap[b+1+1+1+1]?=some (.cells #[.bool ok] 4 (0,0))
 e:W.heap[b+1+1+1+1+1]?=some (.cells #[.int .i64 0] 40 (0,0))
 below:Below b w W
theorem NwAt.fr {w W W':World}{b p:Nat}{r0:Int}{C V:Array Value}{ok:Bool}{S:Nat→Prop}(h:NwAt w W b p r0 C V ok)(hf:Fr S W W')(hS:∀k,k<b+6→¬S k):NwAt w W' b p r0 C V ok:=
 ⟨hf.heapAt h.d (hS _ (by omega)),hf.heapAt h.q (hS _ (by omega)),hf.heapAt h.s (hS _ (by omega)),hf.heapAt h.v (hS _ (by omega)),hf.heapAt h.i (hS _ (by omega)),hf.heapAt h.e (hS _ (by omega)),h.below.trans (hf.below (B:=b) (by have:=lt_of_block h.d;omega) (λk hk=>hS k (by omega)))⟩
def zC:Array Value:=#[.int .i64 0,.int .i64 0,.int .i64 0,.int .i64 0,.slice none 0 0,.slice none 0 0,.slice none 0 0,.slice none 0 0,.slice none 0 0]
def zV:Array Value:=#[.slice none 0 0,.slice none 0 0,.slice none 0 0,.slice none 0 0]
set_option maxRecDepth 100000 in
theorem nO (w:World)(hl:Libz w)(p bk:Nat)(st:DkSt)(h:IsDk w p bk st)(hd:st.dark=false)(f t:Int)(T:Nat→Option Nat)(hT:∀n∈hU (st.fs.map (·.name)),nL st T n)(hN:∀n∈hU (st.fs.map (·.name)),n≤1048576) :
  Calls Tryz.prog 9 #[.pointer (some ⟨p,0,none⟩),.int .i64 f,.int .i64 t] w λe w'=>e = .returned (nH T (nA f t (hU (st.fs.map (·.name)))))∧Below w.heap.size w w':=by
 have hnl:(hU (st.fs.map (·.name))).length≤64:=by have:=ia (st.fs.map (·.name));have:=h.ok.fs.few;rw[List.length_map]at *;omega
 obtain⟨ns,hns⟩:∃ns,ns=hU (st.fs.map (·.name)):=⟨_,rfl⟩;rw[← hns]at hT hN hnl ⊢;have HNS:=hid hns;have HT:=hid hT;have HNN:=hid hN;have HL:=hid hl;have H:=hid h;clear hT hN hl h hns;refine(callsIn_wide (n:=6)).1 ?_;refine callsIn_of_wp_marks Tryz.func9 rfl trivial ?_ rfl;simp only[Tryz.ntmps9,List.size_toArray,List.length_cons,List.length_nil,Nat.reduceAdd,Nat.reduceSub,Array.replicate_succ,Array.replicate_zero,List.push_toArray,List.append_toArray,List.nil_append,List.cons_append]
 gi_wp2_with fail
 obtain⟨b,hb⟩:∃b,b=w.heap.size:=⟨_,rfl⟩;obtain⟨W0,hW0⟩:∃W0,W0=(((((w.alloc (.cells #[.pointer (some ⟨p,0,none⟩)] 39)).alloc (.cells #[.int .i64 0] 2)).alloc (.cells #[.int .i64 0,.int .i64 0,.int .i64 0,.int .i64 0,.slice none 0 0,.slice none 0 0,.slice none 0 0,.slice none 0 0,.slice none 0 0] 29)).alloc (.cells #[.slice none 0 0,.slice none 0 0,.slice none 0 0,.slice none 0 0] 35)).alloc (.cells #[.bool false] 4)).alloc (.cells #[.int .i64 0] 40):=⟨_,rfl⟩;have hbel:Below b w W0:=by rw[hW0,hb];exact((((((Below.refl _ _).alloc (Nat.le_refl _) _).alloc (by simp) _).alloc (by simp<;>omega) _).alloc (by simp<;>omega) _).alloc (by simp<;>omega) _).alloc (by simp<;>omega) _
 have n0:NwAt w W0 b p 0 zC zV false:=⟨by rw[hW0,hb];exact(Below.heap_alloc _ _ _ (by simp<;>omega)).trans ((Below.heap_alloc _ _ _ (by simp<;>omega)).trans ((Below.heap_alloc _ _ _ (by simp<;>omega)).trans ((Below.heap_alloc _ _ _ (by simp<;>omega)).trans ((Below.heap_alloc _ _ _ (by simp<;>omega)).trans (heap_alloc_new _ _))))),by rw[hW0,hb];exact(Below.heap_alloc _ _ _ (by simp<;>omega)).trans ((Below.heap_alloc _ _ _ (by simp<;>omega)).trans ((Below.heap_alloc _ _ _ (by simp<;>omega)).trans ((Below.heap_alloc _ _ _ (by simp<;>omega)).trans (cK _ _ (by simp))))),by rw[hW0,hb];exact(Below.heap_alloc _ _ _ (by simp<;>omega)).trans ((Below.heap_alloc _ _ _ (by simp<;>omega)).trans ((Below.heap_alloc _ _ _ (by simp<;>omega)).trans (cK _ _ (by simp)))),by rw[hW0,hb];exact(Below.heap_alloc _ _ _ (by simp<;>omega)).trans ((Below.heap_alloc _ _ _ (by simp<;>omega)).trans (cK _ _ (by simp))),by rw[hW0,hb];exact(Below.heap_alloc _ _ _ (by simp<;>omega)).trans (cK _ _ (by simp)),by rw[hW0,hb];exact cK _ _ (by simp),hbel⟩;rw[← hW0,← hb];have hbw:Below w.heap.size w W0:=by rw[← hb];exact hbel
 have L0:=hid (HL.out.pure hbw);have K0:=hid (H.out.pure hbw);have N0:=hid n0;have HB:=hid hb;have hpb:p<b:=by rw[hb];exact H.out.lt
 have hkb:bk<b:=by rw[hb];exact H.out.own.lt
 clear hW0 hbel n0 hbw hb;refine⟨trivial,?_⟩;refine(callsIn_wide.2 (m3 W0 L0.out p bk st K0.out)).mono ?_;rintro e w1 ⟨hb1,h1⟩;rw[hd,if_neg (by decide)]at h1;obtain⟨v,rfl,hown⟩:=h1;rw[← HNS.out]at hown;obtain⟨ga,gc,rfl,hrow⟩:=m4 hown;have N1:=hid (N0.out.fr (Fr.pure (S:=λ_=>False) hb1) (λ_ _ h=>h));have L1:=hid (L0.out.pure hb1);have K1:=hid (K0.out.pure hb1);have ROW1:=hid (λi (hi:i<ns.length)=>by
  obtain⟨g,h1,h2,h3⟩:=hrow i hi;exact(⟨g,h1,by have:=lt_of_block N0.out.e;omega,h3⟩:∃g,ga=some ⟨g,0,none⟩∧g≠b+1+1+1+1+1∧w1.cell? ⟨g,i,none⟩=some (.int .i64 (ns[i]:Int))))
 have ce:w1.cell? ⟨b+1+1+1+1+1,0,none⟩=some (.int .i64 0):=(cell_of_row _ _ _ _ _ _ N1.out.e).trans rfl;have ze:w1.frozen? ⟨b+1+1+1+1+1,0,none⟩=false:=frozen_of_row _ _ 0 _ _ N1.out.e;clear hb1 hown hrow N0 L0 K0
 gi_wp2_with fail
 refine⟨trivial,?_⟩;refine(callsIn_wide.2 (nE ga ns.length gc f t _)).mono ?_;rintro e w2 ⟨rfl,rfl⟩
 gi_wp2
 have hbs:b+6≤w1.heap.size:=by have:=lt_of_block N1.out.e;omega
 obtain⟨W2,hW2⟩:∃W2,W2=(((w1.setCell ⟨b+1+1+1+1+1,0,none⟩ (.int .i64 0)).alloc (.cells #[.slice ga ns.length gc] 45)).alloc (.cells #[.int .i64 f] 2)).alloc (.cells #[.int .i64 t] 2):=⟨_,rfl⟩;have hz2:W2.heap.size=w1.heap.size+3:=by rw[hW2];simp
 have hs:Fr (λk=>k=b+1+1+1+1+1) w1 W2:=by rw[hW2];exact(((eO (w:=w1) ⟨b+1+1+1+1+1,0,none⟩ (.int .i64 0)).alloc _).alloc _).alloc _
 have er:W2.heap[b+1+1+1+1+1]?=some (.cells #[.int .i64 0] 40 (0,0)):=by rw[hW2];exact(Below.heap_alloc _ _ _ (by simp<;>omega)).trans ((Below.heap_alloc _ _ _ (by simp<;>omega)).trans ((Below.heap_alloc _ _ _ (by simp<;>omega)).trans (one_setCell N1.out.e)))
 have k0:W2.heap[w1.heap.size]?=some (.cells #[.slice ga ns.length gc] 45 (0,0)):=by rw[hW2];exact(Below.heap_alloc _ _ _ (by simp<;>omega)).trans ((Below.heap_alloc _ _ _ (by simp<;>omega)).trans (cK _ _ (by simp)))
 have k1:W2.heap[w1.heap.size+1]?=some (.cells #[.int .i64 f] 2 (0,0)):=by rw[hW2];exact(Below.heap_alloc _ _ _ (by simp<;>omega)).trans (cK _ _ (by simp))
 have k2:W2.heap[w1.heap.size+2]?=some (.cells #[.int .i64 t] 2 (0,0)):=by rw[hW2];exact cK _ _ (by simp)
 have n2:NwAt w W2 b p 0 zC zV false:=⟨hs.heapAt N1.out.d (by omega),hs.heapAt N1.out.q (by omega),hs.heapAt N1.out.s (by omega),hs.heapAt N1.out.v (by omega),hs.heapAt N1.out.i (by omega),er,N1.out.below.trans (hs.below (B:=b) (by omega) (λk hk e=>by omega))⟩;have ROW2:=hid (λi (hi:i<ns.length)=>by
  obtain⟨g,h1,h2,h3⟩:=ROW1.out i hi;exact(⟨g,h1,hs.cellAt h3 (by omega)⟩:∃g,ga=some ⟨g,0,none⟩∧W2.cell? ⟨g,i,none⟩=some (.int .i64 (ns[i]:Int))))
 have K2:=hid (And.intro k0 (And.intro k1 k2));have N2:=hid n2;rw[← hW2];clear hW2 hs er k0 k1 k2 n2 ROW1 N1 L1 K1 ce ze;have HBD:=hid (λ(Wx:World) (hb:Below b w Wx)=>(by rw[HB.out]at hb;exact⟨HL.out.pure hb,H.out.pure hb⟩:Libz Wx∧IsDk Wx p bk st));refine cO (n:=6) rfl (by omega) (gf:=59) rfl trivial (enters_of Tryz.func59 (by kernel_rfl) rfl)
  (nG W2 w1.heap.size ga gc f t ns hnl K2.out.1 K2.out.2.1 K2.out.2.2 ROW2.out) ⟨λh=>by omega,λh=>by omega⟩
  (λh k=>h.trans k) (λWx o h=>(Fr.refl (λk=>k=W2.heap.size+1) Wx).putObj _ (λ_=>rfl) o) (λh k=>(h.mono (λ_ _ e=>by omega)).trans k) (λA Wx o h=>h.putObj _ (λ_=>by omega) o) (λ_=>rfl)
  (λpre Wx=>(∀m∈pre,T m=none)∧NwAt w Wx b p 0 zC zV false)
  (λcd pre Wx=>cd = .ret∧∃ini m c,pre=ini++[m]∧(∀k∈ini,T k=none)∧T m=some c∧NwAt w Wx b p (m:Int) (stC (c:Int) 0 1 1) zV true) ?bears ?bearsX ⟨λ_ h=>(by simp at h),N2.out⟩
  (λpre x a' Wx=>((∀m∈pre,T m=none)∧NwAt w Wx b p 0 zC zV false) ∧
   a'={ tmps:=#[.pointer (some ⟨p,0,none⟩),.int .i64 f,.int .i64 t,.pointer (some ⟨b,0,none⟩),undef,undef,.pointer (some ⟨b+1,0,none⟩),.pointer (some ⟨b+1+1,0,none⟩),.pointer (some ⟨b+1+1+1,0,none⟩),.pointer (some ⟨b+1+1+1+1,0,none⟩),.pointer (some ⟨b+1+1+1+1+1,0,none⟩),.slice ga ns.length gc,.int .i64 (x:Int),undef,undef,undef,
    .tuple #[.slice ga ns.length gc,.int .i64 0],.pointer (some ⟨p,0,none⟩),.tuple #[.slice ga ns.length gc,.int .i64 0],.slice ga ns.length gc,.int .i64 0,.int .i64 0,.bool false,undef,undef,undef,.slice ga ns.length gc,.int .i64 f,.int .i64 t,
    .func (.func 59) #[] #[.pointer (some ⟨w1.heap.size,0,none⟩),.pointer (some ⟨w1.heap.size+1,0,none⟩),.pointer (some ⟨w1.heap.size+2,0,none⟩)],.int .i64 (x:Int),undef,undef,undef,undef,undef,undef,undef,undef,undef,undef,undef,undef,undef,undef],defers:=[] })
  ?hA ?assign ?body ?done ?stop
 case bears=>
  rintro pre A B ⟨h1,h2⟩ hf;exact⟨h1,h2.fr hf (λk hk e=>by rcases e with e|e|e<;>omega)⟩
 case bearsX=>
  rintro cd pre A B ⟨h1,ini,m,c,h2,h3,h4,h5⟩ hf;exact⟨h1,ini,m,c,h2,h3,h4,h5.fr hf (λk hk e=>by rcases e with e|e|e<;>omega)⟩
 case hA=>
  rintro pre x a' Wx o hlt ⟨⟨h1,h2⟩,h3⟩;exact⟨⟨h1,h2.fr ((Fr.refl (λk=>k=W2.heap.size+1) Wx).putObj _ (λ_=>rfl) o) (λk hk e=>by omega)⟩,h3⟩
 case assign=>
  intro pre x Wx K _ hlt hI hK;have HI:=hid hI;have HK:=hid hK;clear hI hK;unfold nF
  gi_wp2
  exact HK.out _ _ ⟨HI.out,rfl⟩ (RgIn.refl _ _) (Nat.le_refl _) (Fr.refl _ _)
 case body=>
  rintro pre x a' Wx hqx hlt ⟨⟨h1,h2⟩,rfl⟩ hlen;have hx:=HT.out x hqx;have hxn:=HNN.out x hqx;obtain⟨lx,kx⟩:=HBD.out Wx h2.below;unfold nL at hx;have HP:=hid h1;have NX:=hid h2;have LX:=hid lx;have KX:=hid kx;have cd:Wx.cell? ⟨b,0,none⟩=some (.pointer (some ⟨p,0,none⟩)):=(cell_of_row _ _ _ _ _ _ h2.d).trans rfl;clear h1 h2 lx kx hqx;cases hTx:T x
  ·rw[hTx]at hx
   have HX:=hid hx;have HTX:=hid hTx;clear hx hTx
   gi_wp2_with fail
   refine⟨trivial,?_⟩;refine(CallsIn.inRound _ (callsIn_wide.2 (m7 Wx (.pointer (some ⟨p,0,none⟩)) LX.out.pow (x:Int) (by unfold gv;simp;omega) (nM KX.out HX.out (nN _))))).mono ?_;rintro e w3 ⟨rfl,hb3⟩;have B3:=hid hb3;clear hb3
   gi_wp2
   have hfr:Fr (λ_=>False) Wx ((w3.alloc (.cells #[.int .i64 0,.int .i64 0,.int .i64 0,.int .i64 0,.slice none 0 0,.slice none 0 0,.slice none 0 0,.slice none 0 0,.slice none 0 0] 29)).alloc (.cells #[.slice none 0 0,.slice none 0 0,.slice none 0 0,.slice none 0 0] 35)):=((Fr.pure B3.out).alloc _).alloc _;refine⟨RgIn.fr hfr hlt (λh=>h) (λh=>h),hfr.mono (λ_ _ e=>e.elim),λm hm=>?_,NX.out.fr hfr (λ_ _ h=>h)⟩
   rcases List.mem_append.1 hm with h|h
   ·exact HP.out m h
   ·rw[List.mem_singleton.1 h];exact HTX.out
  ·rename_i c
   rw[hTx]at hx;have hcc:=hx.1;have HX:=hid hx.2;have HTX:=hid hTx;clear hx hTx
   gi_wp2_with fail
   refine⟨trivial,?_⟩;refine(CallsIn.inRound _ (callsIn_wide.2 (nc Wx (.pointer (some ⟨p,0,none⟩)) LX.out.pow x c hxn hcc (nM KX.out HX.out (nN _))))).mono ?_;rintro e w3 ⟨rfl,hb3⟩;have B3:=hid hb3;clear hb3;unfold stV dl
   gi_wp2
   obtain⟨W4,hW4⟩:∃W4,W4=(w3.alloc (.cells #[.int .i64 (c:Int),.int .i64 0,.int .i64 1,.int .i64 1,.slice none 0 0,.slice none 0 0,.slice none 0 0,.slice none 0 0,.slice none 0 0] 29)).alloc (.cells #[.slice none 0 0,.slice none 0 0,.slice none 0 0,.slice none 0 0] 35):=⟨_,rfl⟩;have hf4:Fr (λ_=>False) Wx W4:=by rw[hW4];exact((Fr.pure B3.out).alloc _).alloc _
   have ks:W4.heap[w3.heap.size]?=some (.cells #[.int .i64 (c:Int),.int .i64 0,.int .i64 1,.int .i64 1,.slice none 0 0,.slice none 0 0,.slice none 0 0,.slice none 0 0,.slice none 0 0] 29 (0,0)):=by rw[hW4];exact(Below.heap_alloc _ _ _ (by simp)).trans (heap_alloc_new _ _)
   have kv:W4.heap[w3.heap.size+1]?=some (.cells #[.slice none 0 0,.slice none 0 0,.slice none 0 0,.slice none 0 0] 35 (0,0)):=by rw[hW4];exact cK _ _ (by simp)
   have N4:=hid (NX.out.fr hf4 (λ_ _ h=>h));have F4:=hid hf4;rw[← hW4];clear hW4 hf4;obtain⟨x0,x1,x2,x3,x4,x5,x6,x7,x8⟩:=ml (ks);obtain⟨y0,y1,y2,y3⟩:=mo (kv);have q0:=(cell_of_row _ (b+1) 0 _ _ _ (N4.out.q)).trans (show _=some (.int .i64 0)from rfl);have qf0:=frozen_of_row _ (b+1) 0 _ _ (N4.out.q);obtain⟨s0,sf0,s1,sf1,s2,sf2,s3,sf3,s4,sf4,s5,sf5,s6,sf6,s7,sf7,s8,sf8⟩:=mn (N4.out.s);obtain⟨v0,vf0,v1,vf1,v2,vf2,v3,vf3⟩:=mq (N4.out.v);have i0:=(cell_of_row _ (b+1+1+1+1) 0 _ _ _ (N4.out.i)).trans (show _=some (.bool false)from rfl);have if0:=frozen_of_row _ (b+1+1+1+1) 0 _ _ (N4.out.i);have e0:=(cell_of_row _ (b+1+1+1+1+1) 0 _ _ _ (N4.out.e)).trans (show _=some (.int .i64 0)from rfl);have ef0:=frozen_of_row _ (b+1+1+1+1+1) 0 _ _ (N4.out.e);clear ks kv;have hlt3:b+1+1+1+1+1<w3.heap.size:=by have:=lt_of_block NX.out.e;have:=B3.out.size;omega
   obtain⟨Wa,hWa⟩:∃Wa,Wa=W4.setCell ⟨b+1,0,none⟩ (.int .i64 (x:Int)):=⟨_,rfl⟩;obtain⟨Wb,hWb⟩:∃Wb,Wb=km Wa (b+1+1) (.int .i64 (c:Int)) (.int .i64 0) (.int .i64 1) (.int .i64 1) (.slice none 0 0) (.slice none 0 0) (.slice none 0 0) (.slice none 0 0) (.slice none 0 0):=⟨_,rfl⟩;obtain⟨Wc,hWc⟩:∃Wc,Wc=kp Wb (b+1+1+1) (.slice none 0 0) (.slice none 0 0) (.slice none 0 0) (.slice none 0 0):=⟨_,rfl⟩;obtain⟨Wd,hWd⟩:∃Wd,Wd=Wc.setCell ⟨b+1+1+1+1,0,none⟩ (.bool true):=⟨_,rfl⟩;obtain⟨We,hWe⟩:∃We,We=Wd.setCell ⟨b+1+1+1+1+1,0,none⟩ (.int .i64 0):=⟨_,rfl⟩;obtain⟨Wf,hWf⟩:∃Wf,Wf=We.drew:=⟨_,rfl⟩;have fa:Fr (λk=>k=b+1) W4 Wa:=by rw[hWa];exact eO (w:=W4) ⟨b+1,0,none⟩ _
   have fb:Fr (λk=>k=b+1+1) Wa Wb:=by rw[hWb];exact kn Wa (b+1+1) (.int .i64 (c:Int)) (.int .i64 0) (.int .i64 1) (.int .i64 1) (.slice none 0 0) (.slice none 0 0) (.slice none 0 0) (.slice none 0 0) (.slice none 0 0)
   have fc:Fr (λk=>k=b+1+1+1) Wb Wc:=by rw[hWc];exact kq Wb (b+1+1+1) (.slice none 0 0) (.slice none 0 0) (.slice none 0 0) (.slice none 0 0)
   have fd:Fr (λk=>k=b+1+1+1+1) Wc Wd:=by rw[hWd];exact eO (w:=Wc) ⟨b+1+1+1+1,0,none⟩ _
   have fe:Fr (λk=>k=b+1+1+1+1+1) Wd We:=by rw[hWe];exact eO (w:=Wd) ⟨b+1+1+1+1+1,0,none⟩ _
   have ra:Wa.heap[b+1]?=some (.cells #[.int .i64 (x:Int)] 2 (0,0)):=by rw[hWa];exact one_setCell N4.out.q
   have rb:Wb.heap[b+1+1]?=some (.cells #[.int .i64 (c:Int),.int .i64 0,.int .i64 1,.int .i64 1,.slice none 0 0,.slice none 0 0,.slice none 0 0,.slice none 0 0,.slice none 0 0] 29 (0,0)):=by rw[hWb];exact ko (.int .i64 (c:Int)) (.int .i64 0) (.int .i64 1) (.int .i64 1) (.slice none 0 0) (.slice none 0 0) (.slice none 0 0) (.slice none 0 0) (.slice none 0 0) (fa.heapAt N4.out.s (by omega))
   have rc:Wc.heap[b+1+1+1]?=some (.cells #[.slice none 0 0,.slice none 0 0,.slice none 0 0,.slice none 0 0] 35 (0,0)):=by rw[hWc];exact kr (.slice none 0 0) (.slice none 0 0) (.slice none 0 0) (.slice none 0 0) (fb.heapAt (fa.heapAt N4.out.v (by omega)) (by omega))
   have rd:Wd.heap[b+1+1+1+1]?=some (.cells #[.bool true] 4 (0,0)):=by rw[hWd];exact one_setCell (fc.heapAt (fb.heapAt (fa.heapAt N4.out.i (by omega)) (by omega)) (by omega))
   have re:We.heap[b+1+1+1+1+1]?=some (.cells #[.int .i64 0] 40 (0,0)):=by rw[hWe];exact one_setCell (fd.heapAt (fc.heapAt (fb.heapAt (fa.heapAt N4.out.e (by omega)) (by omega)) (by omega)) (by omega))
   have hfr:Fr (λk=>b+1≤k∧k≤b+1+1+1+1+1) W4 Wf:=by
    rw[hWf];exact(((((fa.mono (λ_ _ e=>by omega)).trans (fb.mono (λ_ _ e=>by omega))).trans (fc.mono (λ_ _ e=>by omega))).trans (fd.mono (λ_ _ e=>by omega))).trans (fe.mono (λ_ _ e=>by omega))).drew
   have hd6:NwAt w Wf b p (x:Int) (stC (c:Int) 0 1 1) zV true:=by
    refine⟨hfr.heapAt N4.out.d (by omega),?_,?_,?_,?_,?_,N4.out.below.trans (hfr.below (B:=b) (by have:=lt_of_block N4.out.d;omega) (λk hk e=>by omega))⟩
    ·rw[hWf];exact fe.heapAt (fd.heapAt (fc.heapAt (fb.heapAt ra (by omega)) (by omega)) (by omega)) (by omega)
    ·rw[hWf];exact fe.heapAt (fd.heapAt (fc.heapAt rb (by omega)) (by omega)) (by omega)
    ·rw[hWf];exact fe.heapAt (fd.heapAt rc (by omega)) (by omega)
    ·rw[hWf];exact fe.heapAt rd (by omega)
    ·rw[hWf];exact re
   have hxf:Fr (λk=>b+1≤k∧k≤b+1+1+1+1+1) Wx Wf:=(F4.out.mono (λ_ _ e=>e.elim)).trans hfr;clear fa fb fc fd fe ra rb rc rd re;have FIN:=hid (show RgIn W2.heap.size Wx Wf∧Fr (λk=>k≤W2.heap.size+1) Wx Wf∧Code.ret = .ret∧∃(ini:List Nat) (m c':Nat),pre++[x]=ini++[m]∧(∀k∈ini,T k=none)∧T m=some c'∧NwAt w Wf b p (m:Int) (stC (c':Int) 0 1 1) zV true from⟨RgIn.fr hxf hlt (by omega) (by omega),hxf.mono (λ_ _ e=>by omega),rfl,pre,x,c,rfl,HP.out,HTX.out,hd6⟩);unfold km at hWb;unfold kp at hWc;rw[hWe,hWd,hWc,hWb,hWa]at hWf;have EQ:=hid hWf;clear hWa hWb hWc hWd hWe hWf hfr hd6 hxf N4 F4 B3 hz2;have hmix:Tryz.prog.follows .mixedOrders=true:=by kernel_rfl
   gi_region_with_o (fail)
   all_goals gi_wp2
   all_goals (have hq:=EQ.out;rw[← hq];obtain⟨g1,g2,_,ini,m,c9,e1,e2,e3,e4⟩:=FIN.out;first|exact⟨g1,g2,rfl,ini,m,e1,e2,c9,e3,e4⟩|exact⟨g1,g2,rfl,ini,m,c9,e1,e2,e3,e4⟩)
 case done=>
  rintro xs Wx rfl ⟨h1,h2⟩ hK;have HV:=hid (nI h1);have NX:=hid h2;have HK:=hid hK;clear h1 h2 hK;have q0:=(cell_of_row _ (b+1) 0 _ _ _ (NX.out.q)).trans (show _=some (.int .i64 0)from rfl);have qf0:=frozen_of_row _ (b+1) 0 _ _ (NX.out.q);obtain⟨s0,sf0,s1,sf1,s2,sf2,s3,sf3,s4,sf4,s5,sf5,s6,sf6,s7,sf7,s8,sf8⟩:=mn (NX.out.s);obtain⟨v0,vf0,v1,vf1,v2,vf2,v3,vf3⟩:=mq (NX.out.v);have i0:=(cell_of_row _ (b+1+1+1+1) 0 _ _ _ (NX.out.i)).trans (show _=some (.bool false)from rfl);have if0:=frozen_of_row _ (b+1+1+1+1) 0 _ _ (NX.out.i);have e0:=(cell_of_row _ (b+1+1+1+1+1) 0 _ _ _ (NX.out.e)).trans (show _=some (.int .i64 0)from rfl);have ef0:=frozen_of_row _ (b+1+1+1+1+1) 0 _ _ (NX.out.e)
  gi_wp2
  obtain⟨Wa,hWa⟩:∃Wa,Wa=Wx.setCell ⟨b+1,0,none⟩ (.int .i64 0):=⟨_,rfl⟩;obtain⟨Wb,hWb⟩:∃Wb,Wb=km Wa (b+1+1) (.int .i64 0) (.int .i64 0) (.int .i64 0) (.int .i64 0) (.slice none 0 0) (.slice none 0 0) (.slice none 0 0) (.slice none 0 0) (.slice none 0 0):=⟨_,rfl⟩;obtain⟨Wc,hWc⟩:∃Wc,Wc=kp Wb (b+1+1+1) (.slice none 0 0) (.slice none 0 0) (.slice none 0 0) (.slice none 0 0):=⟨_,rfl⟩;obtain⟨Wd,hWd⟩:∃Wd,Wd=Wc.setCell ⟨b+1+1+1+1,0,none⟩ (.bool false):=⟨_,rfl⟩;obtain⟨We,hWe⟩:∃We,We=Wd.setCell ⟨b+1+1+1+1+1,0,none⟩ (.int .i64 0):=⟨_,rfl⟩;have fa:Fr (λk=>k=b+1) Wx Wa:=by rw[hWa];exact eO (w:=Wx) ⟨b+1,0,none⟩ _
  have fb:Fr (λk=>k=b+1+1) Wa Wb:=by rw[hWb];exact kn Wa (b+1+1) (.int .i64 0) (.int .i64 0) (.int .i64 0) (.int .i64 0) (.slice none 0 0) (.slice none 0 0) (.slice none 0 0) (.slice none 0 0) (.slice none 0 0)
  have fc:Fr (λk=>k=b+1+1+1) Wb Wc:=by rw[hWc];exact kq Wb (b+1+1+1) (.slice none 0 0) (.slice none 0 0) (.slice none 0 0) (.slice none 0 0)
  have fd:Fr (λk=>k=b+1+1+1+1) Wc Wd:=by rw[hWd];exact eO (w:=Wc) ⟨b+1+1+1+1,0,none⟩ _
  have fe:Fr (λk=>k=b+1+1+1+1+1) Wd We:=by rw[hWe];exact eO (w:=Wd) ⟨b+1+1+1+1+1,0,none⟩ _
  have ra:Wa.heap[b+1]?=some (.cells #[.int .i64 0] 2 (0,0)):=by rw[hWa];exact one_setCell NX.out.q
  have rb:Wb.heap[b+1+1]?=some (.cells #[.int .i64 0,.int .i64 0,.int .i64 0,.int .i64 0,.slice none 0 0,.slice none 0 0,.slice none 0 0,.slice none 0 0,.slice none 0 0] 29 (0,0)):=by rw[hWb];exact ko (.int .i64 0) (.int .i64 0) (.int .i64 0) (.int .i64 0) (.slice none 0 0) (.slice none 0 0) (.slice none 0 0) (.slice none 0 0) (.slice none 0 0) (fa.heapAt NX.out.s (by omega))
  have rc:Wc.heap[b+1+1+1]?=some (.cells #[.slice none 0 0,.slice none 0 0,.slice none 0 0,.slice none 0 0] 35 (0,0)):=by rw[hWc];exact kr (.slice none 0 0) (.slice none 0 0) (.slice none 0 0) (.slice none 0 0) (fb.heapAt (fa.heapAt NX.out.v (by omega)) (by omega))
  have rd:Wd.heap[b+1+1+1+1]?=some (.cells #[.bool false] 4 (0,0)):=by rw[hWd];exact one_setCell (fc.heapAt (fb.heapAt (fa.heapAt NX.out.i (by omega)) (by omega)) (by omega))
  have re:We.heap[b+1+1+1+1+1]?=some (.cells #[.int .i64 0] 40 (0,0)):=by rw[hWe];exact one_setCell (fd.heapAt (fc.heapAt (fb.heapAt (fa.heapAt NX.out.e (by omega)) (by omega)) (by omega)) (by omega))
  have hfr:Fr (λk=>b+1≤k∧k≤b+1+1+1+1+1) Wx We:=((((fa.mono (λ_ _ e=>by omega)).trans (fb.mono (λ_ _ e=>by omega))).trans (fc.mono (λ_ _ e=>by omega))).trans (fd.mono (λ_ _ e=>by omega))).trans (fe.mono (λ_ _ e=>by omega));have hd6:NwAt w We b p 0 zC zV false:=⟨hfr.heapAt NX.out.d (by omega),fe.heapAt (fd.heapAt (fc.heapAt (fb.heapAt ra (by omega)) (by omega)) (by omega)) (by omega),fe.heapAt (fd.heapAt (fc.heapAt rb (by omega)) (by omega)) (by omega),fe.heapAt (fd.heapAt rc (by omega)) (by omega),fe.heapAt rd (by omega),re,NX.out.below.trans (hfr.below (B:=b) (by have:=lt_of_block NX.out.d;omega) (λk hk e=>by omega))⟩;have HK2:=hid (hfr.heapAt HK.out (by omega));clear fa fb fc fd fe ra rb rc rd re;unfold km at hWb;unfold kp at hWc;rw[← hWa,← hWb,← hWc,← hWd,← hWe];refine⟨by simp,.inl ⟨_,_,rfl,run_takeDeferred HK2.out,?_⟩⟩;have hf9:Fr (λk=>k=W2.heap.size) We (We.putObj W2.heap.size (.deferred none)):=(Fr.refl (λk=>k=W2.heap.size) We).putObj _ (λ_=>rfl) _;have NF:=hd6.fr hf9 (λk hk e=>by omega);clear q0 qf0 i0 if0 e0 ef0;have o0:=(cell_of_row _ (b+1) 0 _ _ _ (NF.q)).trans (show _=some (.int .i64 0)from rfl);obtain⟨s0,s1,s2,s3,s4,s5,s6,s7,s8⟩:=ml (NF.s);obtain⟨v0,v1,v2,v3⟩:=mo (NF.v);have i0:=(cell_of_row _ (b+1+1+1+1) 0 _ _ _ (NF.i)).trans (show _=some (.bool false)from rfl);have e0:=(cell_of_row _ (b+1+1+1+1+1) 0 _ _ _ (NF.e)).trans (show _=some (.int .i64 0)from rfl);refine⟨.tuple #[.int .i64 0,.agg #[.int .i64 0,.int .i64 0,.int .i64 0,.int .i64 0,.slice none 0 0,.slice none 0 0,.slice none 0 0,.slice none 0 0,.slice none 0 0],.agg #[.slice none 0 0,.slice none 0 0,.slice none 0 0,.slice none 0 0],.bool false,.int .i64 0],by simp[results,Tryz.results9,go_sem,o0,s0,s1,s2,s3,s4,s5,s6,s7,s8,v0,v1,v2,v3,i0,e0],by rw[HV.out];rfl,?_⟩;rw[← HB.out];exact NF.below
 case stop=>
  rintro cd pre Wx ⟨k,hk,hne⟩ ⟨rfl,ini,m,c,h1,h2,h3,h4⟩ hK;have HV:=hid (show nH T (nA f t ns) = .tuple #[.int .i64 (m:Int),stV (c:Int) 0 1 1,dl,.bool true,.int .i64 0]from by
   obtain⟨r,hr⟩:=nK f t (bwL ns) k;show nH T (flt f t (bwL ns))=_;rw[hr,← hk,h1,List.append_assoc];exact nJ h2 h3)
  have NX:=hid h4;have HK:=hid hK;clear h1 h2 h3 h4 hK hk hne
  gi_wp2
  refine⟨by simp,.inl ⟨_,_,rfl,run_takeDeferred HK.out,?_⟩⟩;have hf9:Fr (λk=>k=W2.heap.size) Wx (Wx.putObj W2.heap.size (.deferred none)):=(Fr.refl (λk=>k=W2.heap.size) Wx).putObj _ (λ_=>rfl) _;have NF:=NX.out.fr hf9 (λk hk e=>by omega);have o0:=(cell_of_row _ (b+1) 0 _ _ _ (NF.q)).trans (show _=some (.int .i64 (m:Int))from rfl);obtain⟨s0,s1,s2,s3,s4,s5,s6,s7,s8⟩:=ml (NF.s);obtain⟨v0,v1,v2,v3⟩:=mo (NF.v);have i0:=(cell_of_row _ (b+1+1+1+1) 0 _ _ _ (NF.i)).trans (show _=some (.bool true)from rfl);have e0:=(cell_of_row _ (b+1+1+1+1+1) 0 _ _ _ (NF.e)).trans (show _=some (.int .i64 0)from rfl);refine⟨.tuple #[.int .i64 (m:Int),.agg #[.int .i64 (c:Int),.int .i64 0,.int .i64 1,.int .i64 1,.slice none 0 0,.slice none 0 0,.slice none 0 0,.slice none 0 0,.slice none 0 0],.agg #[.slice none 0 0,.slice none 0 0,.slice none 0 0,.slice none 0 0],.bool true,.int .i64 0],by simp[results,Tryz.results9,go_sem,o0,s0,s1,s2,s3,s4,s5,s6,s7,s8,v0,v1,v2,v3,i0,e0],by rw[HV.out];rfl,?_⟩;rw[← HB.out];exact NF.below
end
section
open Go.RowKit Go.Maps Go.Sort
theorem nP (cp:Int)(l:Fs):(∃c,(c == 0)=false∧c≠0∧il cp l=(none,c))∨(il cp l=(some ⟨l,cp,-1,false⟩,0)):=by
 unfold il
 split
 ·exact .inl ⟨1,by decide,by decide,rfl⟩
 ·split
  ·exact .inl ⟨4,by decide,by decide,rfl⟩
  ·split
   ·exact .inl ⟨44,by decide,by decide,rfl⟩
   ·exact .inr rfl
set_option maxRecDepth 100000 in
theorem nQ (w:World)(cap:Int)(hc:cap≤9223372036854775807) :
  Calls Tryz.prog 23 #[.int .i64 cap] w λe w'=>ir cap [] w e w':=by
 go_enter Tryz.func23,Tryz.ntmps23
 go_wp2_with fail
 refine(iw w cap (.slice none 0 0) [] ⟨none,0,rfl,.inl rfl⟩ (by simp) (by simp) hc).mono ?_;rintro e w1 ⟨hb,h⟩;have HB:=hid hb
 rcases nP cap []with⟨c,hcf,hc0,hld⟩|hld
 ·rw[hld]at h
  simp only at h;subst h;have HL:=hid hld;clear hld hb;go_wp2;refine bodyPost_ret (v:=.tuple #[.pointer none,.int .i64 c]) (by simp[results,Tryz.results23,go_sem]) rfl ⟨HB.out,?_⟩;rw[HL.out]
 ·rw[hld]at h
  obtain⟨p,b,hpg,hbg,rfl,hd⟩:=h;have HL:=hid (And.intro hld (And.intro hpg (And.intro hbg hd)));clear hld hb hd hpg hbg;go_wp2;refine bodyPost_ret (v:=.tuple #[.pointer (some ⟨p,0,none⟩),.int .i64 0]) (by simp[results,Tryz.results23,go_sem]) rfl ⟨HB.out,?_⟩;rw[HL.out.1];exact⟨p,b,HL.out.2.1,HL.out.2.2.1,rfl,HL.out.2.2.2⟩
end
end Go.Proofs.YtaeakdichkhjaaaGreatDoor
