/- What a write of a snapshot leaves of the files, wherever the power goes: plain. -/
import Derived.Test.YtaeakdichkhjaaaGreatDoorQAc
import Derived.Test.YtaeakdichkhjaaaGreatDoorQAk
import Derived.Test.YtaeakdichkhjaaaGreatDoorQBg
import Derived.Test.YtaeakdichkhjaaaGreatDoorQAd
set_option maxHeartbeats 4000000
open Go.Lib(hid)
namespace Go.Proofs.YtaeakdichkhjaaaGreatDoor
section
open Go.RowKit
def xK {α:Type}(Q:α→Prop)(F:Fence)(n:Nat)(P:Program)(g:Nat)(lb:Array Value)(encs:α→Array Value)(own:Nat→Prop)(Kp Kx:World→World→Prop)(S Sp:List α→Prop)(N:Nat)(w:World):Prop:=
 ∀(l:Nat) (J:List α→World→Prop) (Jx:Nat→List α→World→Prop) (W:World),Below w.heap.size w W→w.heap.size+1<W.heap.size→cg own J→(∀M,cg (λk=>own k∧k<M) (Jx M)) →
  (∀pre x W1,Q x→J pre W1→pre.length<N→YieldAt F (n-1) P l (encs x) W1 λe W'=>
   (e = .returned (.bool true)∧J (pre++[x]) W'∧Kp W1 W')∨(e = .returned (.bool false)∧Jx W1.heap.size (pre++[x]) W'∧Kx W1 W')) →
  J [] W →
  CallsIn F n P g (#[.func (.yield l) #[] #[]]++lb) W λe W'=>(∃v,e = .returned v)∧((∃xs,S xs∧J xs W')∨(∃M pre,Sp pre∧Jx M pre W'))
def xL {α:Type}(n:Nat)(Kp Kx:World→World→Prop)(I:List α→World→Prop)(Ix:Code→Nat→List α→World→Prop)(xs:List α)(M:Nat)(W:World):Exit→Act→World→Prop
 | .normal,_,W'=>RgIn n W W'∧Kp W W'∧I xs W'
 | .ret,_,W'=>RgIn n W W'∧Kx W W'∧Ix .ret M xs W'
 | .exit id,_,W'=>RgIn n W W'∧Kx W W'∧Ix (.exit id) M xs W'
 | .goto t,_,W'=>RgIn n W W'∧Kx W W'∧Ix (.goto t) M xs W'
 | .panic _,_,_=>False
 | .outgrown,_,_=>False
variable {F:Fence} {n:Nat} {P:Program}
theorem xM {α:Type}{g:Operand}{ps:Array Tmp}{assign body:Code}{Q:Exit→Act→World→Prop}{a:Act}{w:World}
  (hro:F.round=none) (h1:1≤n) {gf:Nat} {lb:Array Value} (hg:a.eval g = .func (.func gf) #[] lb) (hFg:F.fn gf) (eg:∀args w,(callFunc gf args).run P w = .ok (.enter gf args) w)
  {Qx:α→Prop} {encs:α→Array Value} {own:Nat→Prop} {Kp Kx:World→World→Prop} {S Sp:List α→Prop} {N:Nat} (hseq:xK Qx F (n-1) P gf lb encs own Kp Kx S Sp N w) (hown:¬own w.heap.size∧¬own (w.heap.size+1))
  (hKt:∀{A B C:World},Kp A B→Kp B C→Kp A C) (hKb:∀(W:World) (o:Obj),w.heap.size+1<W.heap.size→Kp W (W.putObj (w.heap.size+1) o)) (hKx:∀{A B C:World},Kp A B→Kx B C→Kx A C) (hKxb:∀(A W:World) (o:Obj),Kx A W→Kx A (W.putObj (w.heap.size+1) o)) (hps:∀x,(encs x).size=ps.size)
  (I:List α→World→Prop) (Ix:Code→Nat→List α→World→Prop) (hI:cg (λk=>own k∨k=w.heap.size∨k=w.heap.size+1) I) (hIx:∀c M,cg (λk=>(own k∧k<M)∨k=w.heap.size∨k=w.heap.size+1) (Ix c M)) (h0:I [] w)
  (A:List α→α→Act→World→Prop) (hA:∀pre x a' W o,w.heap.size+1<W.heap.size→A pre x a' W→A pre x a' (W.putObj (w.heap.size+1) o))
  (hassign:∀(pre:List α) (x:α) (W:World) (K:Act→World→Prop),Qx x→w.heap.size+1<W.heap.size→I pre W→(∀a' W',A pre x a' W'→RgIn w.heap.size W W'→W.heap.size≤W'.heap.size→Kp W W'→K a' W') →
   assign.wpIn (F.inRound (w.heap.size+1)) (n-1-1) P (Exit.then K (λ_ _ _=>False)) { tmps:=(ps.zip (encs x)).foldl (λt (p,v)=>t.setIfInBounds p v) a.tmps,defers:=[] } W)
  (hbody:∀(pre:List α) (x:α) (a':Act) (W:World) (M:Nat),Qx x→w.heap.size+1<M→M≤W.heap.size→A pre x a' W→pre.length<N→body.wpIn (F.inRound (w.heap.size+1)) (n-1-1) P (xL w.heap.size Kp Kx I Ix (pre++[x]) M W) a' W)
  (hdone:∀(xs:List α) (W:World),S xs→I xs W→W.heap[w.heap.size]?=some (.deferred (some []))→Q .normal { a with defers:={ target:=.collected w.heap.size,args:=#[] }::a.defers } W)
  (hstop:∀(c:Code) (M:Nat) (pre:List α) (W:World),Sp pre→Ix c M pre W→W.heap[w.heap.size]?=some (.deferred (some []))→c.wpIn F n P Q { a with defers:={ target:=.collected w.heap.size,args:=#[] }::a.defers } W) :
  (Code.rangeFunc g ps assign body).wpIn F n P Q a w:=by
 refine wpIn_rangeFunc ?_;intro fn hfn;rw[hro];obtain⟨rec,hrec⟩:∃rec:LoopState→Option Code→Loop,rec=λst pe=>{ state:=st,pending:=pe,fn,tmps:=a.tmps,params:=ps,assign,body,defers:=w.heap.size }:=⟨_,rfl⟩;obtain⟨N0,hN0⟩:∃N0,N0=w.heap.size:=⟨_,rfl⟩;obtain⟨W1,hW1⟩:∃W1,(w.alloc (.deferred (some []))).alloc (.loop (rec .ready none))=W1:=⟨_,rfl⟩;have hL1:W1.heap[w.heap.size+1]?=some (.loop (rec .ready none)):=by
  rw[← hW1];have:=World.alloc_heap_new (w.alloc (.deferred (some []))) (.loop (rec .ready none));rwa [World.size_alloc]at this
 have hK1:W1.heap[w.heap.size]?=some (.deferred (some [])):=by
  rw[← hW1];exact(Below.heap_alloc _ _ _ (by simp)).trans (World.alloc_heap_new w _)
 have hf1:∀{S:Nat→Prop},Fr S w W1:=by intro S;rw[← hW1];exact((Fr.refl S w).alloc _).alloc _
 have hI1:I [] W1:=hI _ _ _ h0 hf1;have hb1:Below w.heap.size w W1:=by rw[← hW1];exact((Below.refl _ w).alloc (Nat.le_refl _) _).alloc (by simp) _
 have hturn:∀{β:Type} {J:β→World→Prop} (_:cg (λk=>own k∨k=w.heap.size∨k=w.heap.size+1) J) (s:β) (W:World) (o:Obj),J s W→J s (W.putObj (w.heap.size+1) o):=
  λhJ s W o hs=>hJ s _ _ hs ((Fr.refl _ W).putObj _ (λ_=>.inr (.inr rfl)) o)
 have hturnX:∀{β:Type} {M:Nat} {J:β→World→Prop} (_:cg (λk=>(own k∧k<M)∨k=w.heap.size∨k=w.heap.size+1) J) (s:β) (W:World) (o:Obj),J s W→J s (W.putObj (w.heap.size+1) o):=
  λhJ s W o hs=>hJ s _ _ hs ((Fr.refl _ W).putObj _ (λ_=>.inr (.inr rfl)) o)
 have hkeep:∀{X Y:World} {k:Nat} {o:Obj},Fr own X Y→¬own k→X.heap[k]?=some o→Y.heap[k]?=some o:=
  λhf hk h=>(hf.block _ (lt_of_block h) hk).trans h
 refine⟨w.heap.size+1,[{ target:=.collected w.heap.size,args:=#[] }],W1,{ target:=.fn (.func gf) lb,args:=#[.func (.yield (w.heap.size+1)) #[] #[]] },W1,gf,
  #[.func (.yield (w.heap.size+1)) #[] #[]]++lb,W1,?_,?_,?_,?_,λ_=>h1,?_⟩
 ·rw[← hW1,hrec];exact run_enterLoop_outer _ _ _ _ _
 ·simp only[resolve,hg]
  simp[go_sem]
 ·intro f' hf';simp[Target.leads]at hf';subst hf';exact hFg
 ·simp[invoke,go_sem,eg]
 ·refine(hseq (w.heap.size+1)
   (λpre W=>I pre W∧W.heap[w.heap.size+1]?=some (.loop (rec .ready none))∧W.heap[w.heap.size]?=some (.deferred (some [])))
   (λM pre W=>∃c,Ix c M pre W∧W.heap[w.heap.size+1]?=some (.loop (rec .done (some c)))∧W.heap[w.heap.size]?=some (.deferred (some [])))
   W1 hb1 (lt_of_block hL1)
   (λs X Y hs hf=>⟨hI s X Y hs.1 (hf.mono (λ_ _ e=>.inl e)),hkeep hf hown.2 hs.2.1,hkeep hf hown.1 hs.2.2⟩)
   (λM s X Y hs hf=>by
    obtain⟨c,hc,hl,hk⟩:=hs;exact⟨c,hIx c M s X Y hc (hf.mono (λ_ _ e=>.inl e)),hkeep (hf.mono (λ_ _ e=>e.1)) hown.2 hl,hkeep (hf.mono (λ_ _ e=>e.1)) hown.1 hk⟩)
   ?_ ⟨hI1,hL1,hK1⟩).mono ?_
  ·rintro pre x W hqx ⟨hi,hl,hk⟩ hlen
   have hlt:w.heap.size+1<W.heap.size:=lt_of_block hl;have hy:=run_yield (P:=P) (args:=encs x) hl (by rw[hrec];exact hps x);rw[hrec]at hy;refine⟨fn,_,assign,body,hy,roundIn_of_wpIn hfn (hassign pre x W _ hqx hlt hi ?_)⟩;intro a' W2 hA2 hg2 hsz2 hkp2;have hl2:W2.heap[w.heap.size+1]?=some (.loop (rec .ready none)):=hg2.lo.trans hl;have hk2:W2.heap[w.heap.size]?=some (.deferred (some [])):=hg2.de.trans hk;have hlt2:w.heap.size+1<W2.heap.size:=by omega
   refine⟨_,run_beginRound hl2 (by rw[hrec]),?_⟩;have hl3:(W2.putObj (w.heap.size+1) (.loop { rec .ready none with state:=.busy })).heap[w.heap.size+1]?=some (.loop { rec .ready none with state:=.busy }):=World.putObj_heap_same hlt2;have hk3:(W2.putObj (w.heap.size+1) (.loop { rec .ready none with state:=.busy })).heap[w.heap.size]?=some (.deferred (some [])):=(World.putObj_heap_other (by omega)).trans hk2;have hkp3:Kp W (W2.putObj (w.heap.size+1) (.loop { rec .ready none with state:=.busy })):=hKt hkp2 (hKb _ _ hlt2);refine wpIn_mono (hbody pre x a' _ W.heap.size hqx hlt (by rw[World.putObj_size];exact hsz2) (hA _ _ _ _ _ hlt2 hA2) hlen) ?_;have fin:∀(jump:Option Code) (W4:World),RgIn w.heap.size (W2.putObj (w.heap.size+1) (.loop { rec .ready none with state:=.busy })) W4 →
     (Instr.endRound (w.heap.size+1) jump).run P W4 = .ok (.bool jump.isNone) (W4.putObj (w.heap.size+1) (.loop (rec (if jump.isNone then .ready else .done) jump))) ∧
     w.heap.size+1<W4.heap.size ∧
     (W4.putObj (w.heap.size+1) (.loop (rec (if jump.isNone then .ready else .done) jump))).heap[w.heap.size+1]?=some (.loop (rec (if jump.isNone then .ready else .done) jump)) ∧
     (W4.putObj (w.heap.size+1) (.loop (rec (if jump.isNone then .ready else .done) jump))).heap[w.heap.size]?=some (.deferred (some [])):=λjump W4 hg4=>by
    have hl4:=hg4.lo.trans hl3;have hr:=run_endRound (P:=P) jump hl4;rw[hrec]at hr ⊢;exact⟨hr,lt_of_block hl4,World.putObj_heap_same (lt_of_block hl4),(World.putObj_heap_other (by omega)).trans (hg4.de.trans hk3)⟩
   rintro e a4 W4 hp;cases e with
   | normal=>
    obtain⟨hg4,hkp4,hi4⟩:=hp;obtain⟨hr,hlt4,hl5,hk5⟩:=fin none W4 hg4;exact⟨_,_,hr,.inl ⟨rfl,⟨hturn hI _ _ _ hi4,hl5,hk5⟩,hKt (hKt hkp3 hkp4) (hKb _ _ hlt4)⟩⟩
   | ret=>
    obtain⟨hg4,hkp4,hi4⟩:=hp;obtain⟨hr,hlt4,hl5,hk5⟩:=fin (some .ret) W4 hg4;exact⟨_,_,hr,.inr ⟨rfl,⟨.ret,hturnX (hIx _ _) _ _ _ hi4,hl5,hk5⟩,hKxb _ _ _ (hKx hkp3 hkp4)⟩⟩
   | exit id=>
    obtain⟨hg4,hkp4,hi4⟩:=hp;obtain⟨hr,hlt4,hl5,hk5⟩:=fin (some (.exit id)) W4 hg4;exact⟨_,_,hr,.inr ⟨rfl,⟨.exit id,hturnX (hIx _ _) _ _ _ hi4,hl5,hk5⟩,hKxb _ _ _ (hKx hkp3 hkp4)⟩⟩
   | goto t=>
    obtain⟨hg4,hkp4,hi4⟩:=hp;obtain⟨hr,hlt4,hl5,hk5⟩:=fin (some (.goto t)) W4 hg4;exact⟨_,_,hr,.inr ⟨rfl,⟨.goto t,hturnX (hIx _ _) _ _ _ hi4,hl5,hk5⟩,hKxb _ _ _ (hKx hkp3 hkp4)⟩⟩
   | panic ch=>exact hp.elim
   | outgrown=>exact hp.elim
  ·rintro e W2 ⟨⟨v,rfl⟩,(⟨xs,hS,hi,hl,hk⟩|⟨M,pre,hSp,c,hi,hl,hk⟩)⟩
   ·exact⟨none,_,by have:=run_endLoop (P:=P) hl (by rw[hrec];simp);rw[hrec]at this;exact this,hdone xs _ hS (hturn hI _ _ _ hi) ((World.putObj_heap_other (by omega)).trans hk)⟩
   ·exact⟨some c,_,by have:=run_endLoop (P:=P) hl (by rw[hrec];simp);rw[hrec]at this;exact this,hstop c M pre _ hSp (hturnX (hIx c M) _ _ _ hi) ((World.putObj_heap_other (by omega)).trans hk)⟩
end
section
open Go.RowKit Go.Shelf
attribute [local go_sem] Oper.semAt_some
set_option maxRecDepth 100000 in
theorem xN (w:World)(lB:Nat)(a:Option Addr)(c:Nat)(f t:Int)(ns:List Nat)(hl:ns.length≤64)
  (k0:w.heap[lB]?=some (.cells #[.slice a ns.length c] 45 (0,0))) (k1:w.heap[lB+1]?=some (.cells #[.int .i64 f] 2 (0,0))) (k2:w.heap[lB+2]?=some (.cells #[.int .i64 t] 2 (0,0)))
  (hrow:∀i (hi:i<ns.length),∃g,a=some ⟨g,0,none⟩∧w.cell? ⟨g,i,none⟩=some (.int .i64 (ns[i]:Int))) :
  xK (λn=>n∈ns) Fence.wide 5 Tryz.prog 59 #[.pointer (some ⟨lB,0,none⟩),.pointer (some ⟨lB+1,0,none⟩),.pointer (some ⟨lB+2,0,none⟩)] lG (λk=>w.heap.size+2≤k) (λA B=>Fr (λk=>k=w.heap.size+1) A B) (λA B=>Fr (λk=>k≤w.heap.size+1) A B) (λxs=>xs=lC f t ns) (λpre=>∃k,pre=flt f t ((bwL ns).take k)∧pre≠[]) (ns.length+1) w:=by
 intro y J Jx W hW hsz hJ hJx hY h0;have l0:=(hW.block _ (lt_of_block k0)).trans k0;have l1:=(hW.block _ (lt_of_block k1)).trans k1;have l2:=(hW.block _ (lt_of_block k2)).trans k2;have HLT:=hid (lt_of_block k2);have HROW:=hid (λi (hi:i<ns.length)=>by
  obtain⟨g,h1,h2⟩:=hrow i hi;exact(⟨g,h1,aA h2,(hW.cell (p:=⟨g,i,none⟩) (aA h2)).trans h2⟩:∃g,a=some ⟨g,0,none⟩∧g<w.heap.size∧W.cell? ⟨g,i,none⟩=some (.int .i64 (ns[i]:Int))))
 have d0:W.cell? ⟨lB,0,none⟩=some (.slice a ns.length c):=(cell_of_row _ _ _ _ _ _ l0).trans rfl;have hlB:lB<W.heap.size:=aA d0;have HL0:=hid l0;have HL1:=hid l1;have HL2:=hid l2;have HJ:=hid hJ;have HJX:=hid hJx;have HY:=hid hY;have HH:=hid h0;have HW:=hid hW;clear hW k0 k1 k2 hrow hJ hJx hY h0 l0 l1 l2;refine callsIn_of_wp_marks Tryz.func59 rfl trivial ?_ rfl;simp only[Tryz.ntmps59,List.size_toArray,List.length_cons,List.length_nil,Nat.reduceAdd,Nat.reduceSub,Array.replicate_succ,Array.replicate_zero,List.push_toArray,List.append_toArray,List.nil_append,List.cons_append]
 gi_wp2_with fail
 refine⟨trivial,?_⟩;refine(callsIn_wide.2 (lk a ns.length c _)).mono ?_;rintro e w1 ⟨rfl,rfl⟩
 gi_wp2
 obtain⟨yB,hyB⟩:∃yB,yB=W.heap.size:=⟨_,rfl⟩;obtain⟨W0,hW0⟩:∃W0,W0=(W.alloc (.cells #[.func (.yield y) #[] #[]] 91)).alloc (.cells #[.slice a ns.length c] 45):=⟨_,rfl⟩;have hz0:W0.heap.size=yB+2:=by rw[hW0,hyB];simp
 have hbel:Below W.heap.size W W0:=by rw[hW0];exact((Below.refl _ _).alloc (Nat.le_refl _) _).alloc (by simp) _
 have y0:W0.heap[yB]?=some (.cells #[.func (.yield y) #[] #[]] 91 (0,0)):=by rw[hW0,hyB];exact(Below.heap_alloc _ _ _ (by simp)).trans (heap_alloc_new _ _)
 have s0:W0.heap[yB+1]?=some (.cells #[.slice a ns.length c] 45 (0,0)):=by rw[hW0,hyB];exact cj _ _ (by simp)
 have j0:J [] W0:=HJ.out _ _ _ HH.out (Fr.pure hbel);have e1:=(hbel.block _ (lt_of_block HL1.out)).trans HL1.out;have e2:=(hbel.block _ (lt_of_block HL2.out)).trans HL2.out;have HRW:=hid (λi (hi:i<ns.length)=>by
  obtain⟨g,h1,h2,h3⟩:=HROW.out i hi;exact(⟨g,h1,(hbel.cell (p:=⟨g,i,none⟩) (aA h3)).trans h3⟩:∃g,a=some ⟨g,0,none⟩∧W0.cell? ⟨g,i,none⟩=some (.int .i64 (ns[i]:Int))))
 have HTG:=hid (show ∀g,a=some ⟨g,0,none⟩→ns.length=0∨g<w.heap.size from λg hg=>by
  by_cases h0:ns.length=0
  ·exact .inl h0
  ·obtain⟨g2,h1,h2,_⟩:=HROW.out 0 (by omega)
   rw[hg]at h1;cases h1;exact .inr h2)
 have Y0:=hid y0;have S0:=hid s0;have J0:=hid j0;have E1:=hid e1;have E2:=hid e2;have hlB2:=HLT.out;rw[← hW0,← hyB];have hyw:w.heap.size+1<yB:=by omega
 clear hW0 hbel y0 s0 j0 e1 e2 HH HW HL0 HL1 HL2 d0 hlB hsz hyB;refine cv (n:=5) rfl (by omega) (gf:=99) rfl trivial (enters_of Tryz.func99 (by kernel_rfl) rfl)
  (lA W0 (λk=>k=yB+3∨k=w.heap.size+1) (yB+1) a c ns S0.out HRW.out hl (by omega) (λh0 g hg=>by rcases HTG.out g hg with h|h;exact absurd h h0;omega)) ⟨λh=>h,λh=>h⟩
  (λh k=>h.trans k) (λWx o h=>(Fr.refl _ Wx).putObj _ (λ_=>.inl (by omega)) o) (λ_ _=>trivial) (λ_ _ _ _=>trivial) (λ_=>rfl)
  (λpre Wx=>J (flt f t pre) Wx∧Wx.heap[yB]?=some (.cells #[.func (.yield y) #[] #[]] 91 (0,0))∧Wx.heap[lB+1]?=some (.cells #[.int .i64 f] 2 (0,0))∧Wx.heap[lB+2]?=some (.cells #[.int .i64 t] 2 (0,0)))
  (λcd pre Wx=>cd = .ret∧(∃M,yB+3<M∧Jx M (flt f t pre) Wx)∧flt f t pre≠[]) ?bears ?bearsX ⟨J0.out,Y0.out,E1.out,E2.out⟩
  (λpre x a' Wx=>(J (flt f t pre) Wx∧Wx.heap[yB]?=some (.cells #[.func (.yield y) #[] #[]] 91 (0,0))∧Wx.heap[lB+1]?=some (.cells #[.int .i64 f] 2 (0,0))∧Wx.heap[lB+2]?=some (.cells #[.int .i64 t] 2 (0,0))) ∧
   a'={ tmps:=#[.func (.yield y) #[] #[],.pointer (some ⟨lB,0,none⟩),.pointer (some ⟨lB+1,0,none⟩),.pointer (some ⟨lB+2,0,none⟩),.pointer (some ⟨yB,0,none⟩),undef,.int .i64 (x.1:Int),.slice a ns.length c,.func (.func 99) #[] #[.pointer (some ⟨yB+1,0,none⟩)],.int .i64 (x.2:Int),.int .i64 (x.1:Int),
    undef,undef,undef,undef,undef,undef,undef,undef,undef,undef,undef,undef,undef,undef],defers:=[] })
  ?hA ?assign ?body ?done ?stop
 case bears=>
  rintro pre A B ⟨h1,h2,h3,h4⟩ hf;exact⟨HJ.out _ _ _ h1 (hf.mono (λi _ e=>by rcases e with e|e|e;exact e.elim;omega;omega)),hf.heapAt h2 (λe=>by rcases e with e|e|e;exact e;omega;omega),hf.heapAt h3 (λe=>by rcases e with e|e|e;exact e;omega;omega),hf.heapAt h4 (λe=>by rcases e with e|e|e;exact e;omega;omega)⟩
 case bearsX=>
  rintro cd pre A B ⟨h1,h2,h3⟩ hf;obtain⟨M,hM,h2⟩:=h2;exact⟨h1,⟨M,hM,HJX.out M _ _ _ h2 (hf.mono (λi _ e=>by rcases e with e|e|e;exact e.elim;exact⟨by omega,by omega⟩;exact⟨by omega,by omega⟩))⟩,h3⟩
 case hA=>
  rintro pre x a' Wx o hlt ⟨⟨h1,h2,h3,h4⟩,h5⟩;have hf:Fr (λk=>k=W0.heap.size+1) Wx (Wx.putObj (W0.heap.size+1) o):=(Fr.refl (λk=>k=W0.heap.size+1) Wx).putObj _ (λ_=>rfl) o;exact⟨⟨HJ.out _ _ _ h1 (hf.mono (λi _ e=>by omega)),hf.heapAt h2 (by omega),hf.heapAt h3 (by omega),hf.heapAt h4 (by omega)⟩,h5⟩
 case assign=>
  intro pre x Wx K _ hlt hI hK;have HI:=hid hI;have HK:=hid hK;clear hI hK;unfold ly
  gi_wp2
  exact HK.out _ _ ⟨HI.out,rfl⟩ (RgIn.refl _ _) (Nat.le_refl _) (Fr.refl _ _)
 case body=>
  rintro pre x a' Wx hqx hlt ⟨⟨h1,h2,h3,h4⟩,rfl⟩ hlen;have c1:Wx.cell? ⟨lB+1,0,none⟩=some (.int .i64 f):=(cell_of_row _ _ _ _ _ _ h3).trans rfl;have c2:Wx.cell? ⟨lB+2,0,none⟩=some (.int .i64 t):=(cell_of_row _ _ _ _ _ _ h4).trans rfl;have c3:Wx.cell? ⟨yB,0,none⟩=some (.func (.yield y) #[] #[]):=(cell_of_row _ _ _ _ _ _ h2).trans rfl;have HI:=hid (And.intro h1 (And.intro h2 (And.intro h3 h4)));obtain⟨z,hz⟩:∃z,z=x.1:=⟨_,rfl⟩;rw[← hz];have HZ:=hid hz;by_cases hf:f≤(z:Int)
  ·by_cases ht:(z:Int)≤t
   ·have HF:=hid (show flt f t (pre++[x])=flt f t pre++[z]from by rw[lD,← hz,if_pos (by unfold within;simp[hf,ht])])
    obtain⟨fn,tmps,assign,body,hy,hR⟩:=HY.out (flt f t pre) z Wx (by rw[HZ.out];exact hqx) h1 (by have:=lE f t pre;omega);unfold lG at hy;clear h1 h2 h3 h4 hz
    gi_wp2_with fail
    refine(RoundIn.inRound (RoundIn.anyDepth rfl hR)).mono ?_;rintro e W4 (⟨rfl,hJ4,hk4⟩|⟨rfl,hJx4,hk4⟩)
    ·obtain⟨_,g2,g3,g4⟩:=HI.out
     have H4:=hid (show J (flt f t (pre++[x])) W4 from by rw[HF.out];exact hJ4);have K4:=hid hk4;clear hJ4 hk4 hy hR
     gi_wp2
     exact⟨RgIn.fr K4.out hlt (by omega) (by omega),K4.out.mono (λ_ _ e=>.inr e),H4.out,K4.out.heapAt g2 (by omega),K4.out.heapAt g3 (by omega),K4.out.heapAt g4 (by omega)⟩
    ·have H4:=hid (show ∃M,yB+3<M∧Jx M (flt f t (pre++[x])) W4 from⟨Wx.heap.size,by omega,by rw[HF.out];exact hJx4⟩)
     have K4:=hid hk4;clear hJx4 hk4 hy hR
     gi_wp2
     exact⟨RgIn.fr K4.out hlt (by omega) (by omega),trivial,rfl,H4.out,by rw[HF.out];simp⟩
   ·have HF:=hid (show flt f t (pre++[x])=flt f t pre from by rw[lD,← hz,if_neg (by unfold within;simp[ht])];simp)
    clear h1 h2 h3 h4 hz
    gi_wp2
    refine⟨λ_ h=>(by cases h),?_⟩
    gi_wp2
    exact⟨RgIn.refl _ _,Fr.refl _ _,by show J (flt f t (pre++[x])) Wx∧_;rw[HF.out];exact HI.out⟩
  ·have HF:=hid (show flt f t (pre++[x])=flt f t pre from by rw[lD,← hz,if_neg (by unfold within;simp[hf])];simp)
   clear h1 h2 h3 h4 hz
   gi_wp2
   refine⟨λ_ h=>(by cases h),?_⟩
   gi_wp2
   exact⟨RgIn.refl _ _,Fr.refl _ _,by show J (flt f t (pre++[x])) Wx∧_;rw[HF.out];exact HI.out⟩
 case done=>
  rintro xs Wx rfl ⟨h1,_⟩ hK;have H1:=hid h1;have HK:=hid hK;clear h1 hK
  gi_wp2
  refine⟨by simp,.inl ⟨_,_,rfl,run_takeDeferred HK.out,?_⟩⟩;exact⟨_,results_none rfl _ _ _,⟨_,rfl⟩,.inl ⟨_,rfl,HJ.out _ _ _ H1.out ((Fr.refl _ Wx).putObj _ (λ_=>by omega) _)⟩⟩
 case stop=>
  rintro cd pre Wx ⟨k,hk,rfl⟩ ⟨rfl,h1,h2⟩ hK;have H1:=hid h1;have H2:=hid h2;have HK:=hid hK;clear h1 h2 hK
  gi_wp2
  refine⟨by simp,.inl ⟨_,_,rfl,run_takeDeferred HK.out,?_⟩⟩;obtain⟨M,hM,h1⟩:=H1.out;exact⟨_,results_none rfl _ _ _,⟨_,rfl⟩,.inr ⟨M,_,⟨k+1,rfl,H2.out⟩,HJX.out M _ _ _ h1 ((Fr.refl _ Wx).putObj _ (λ_=>⟨by omega,by omega⟩) _)⟩⟩
end
section
open Go.RowKit
section
variable {N:List UInt8}
def xO (N n:List UInt8):Bool:=n == N || n == gS
def xP (N:List UInt8)(fs:Fs):Fs:=fs.filter λg=>!(xO N g.name)
theorem xQ:xO N N=true:=by unfold xO;simp
theorem xR:xO N gS=true:=by unfold xO;simp
theorem xT {f:FileS}{r:Fs}(h:xO N f.name=true):xP N (f::r)=xP N r:=by
 unfold xP;rw[List.filter_cons,h];rfl
theorem xU {f:FileS}{r:Fs}(h:xO N f.name=false):xP N (f::r)=f::xP N r:=by
 unfold xP;rw[List.filter_cons,h];rfl
theorem xV {f:FileS}(h:xO N f.name=true)(fs:Fs):xP N (cG f fs)=xP N fs:=by
 induction fs with
 | nil=>exact xT h
 | cons g r ih=>
  unfold cG
  split
  ·exact xT h
  ·cases hg:xO N g.name
   ·rw[xU hg,xU hg,ih]
   ·rw[xT hg,xT hg,ih]
theorem xW {n:List UInt8}(h:xO N n=true)(fs:Fs):xP N (cH fs n)=xP N fs:=by
 unfold xP cH;rw[List.filter_filter];congr 1
 funext g
 by_cases e:g.name=n
 ·rw[e,h];rfl
 ·rw[show(g.name == n)=false from by simpa using e];simp
theorem xX {f:FileS}(h:xO N f.name=true)(fs:Fs):xP N (cI fs f)=xP N fs:=by unfold cI;rw[xV h,xW h]
def KeepW (N:List UInt8)(st st':DkSt):Prop:=xP N st'.fs=xP N st.fs∧cJ st'.fs N=cJ st.fs N
theorem KeepW.refl (st:DkSt):KeepW N st st:=⟨rfl,rfl⟩
theorem KeepW.trans {a b c:DkSt}(h:KeepW N a b)(g:KeepW N b c):KeepW N a c:=⟨g.1.trans h.1,g.2.trans h.2⟩
def xY (N s:List UInt8):Nat→DkSt→DkSt×Int
 | 0,st=>ef st gS
 | 1,st=>ee st gS
 | 2,st=>eR st gS s
 | 3,st=>eA st gS
 | _,st=>eL st gS N
def xZ (N s:List UInt8):List Nat→DkSt→DkSt×Int
 | [],st=>(st,0)
 | k::r,st=>if (xY N s k st).2≠0∧¬(k=0∧(xY N s k st).2=5) then xY N s k st else xZ N s r (xY N s k st).1
theorem ya (st:DkSt)(s N:List UInt8):gU st s N=xZ N s [0,1,2,3,4] st:=by
 unfold gU;simp only[xZ,xY];have h:∀r:DkSt×Int,(if r.2≠0∧¬((4:Nat)=0∧r.2=5) then r else (r.1,0))=r:=by
  intro r
  split
  ·rfl
  ·rename_i h
   have h0:r.2=0:=Classical.byContradiction λe=>h ⟨e,by simp⟩;exact Prod.ext rfl h0.symm
 rw[h];simp
def yb (N:List UInt8)(st:DkSt)(P:DkSt→Prop)(r:DkSt×Int):Prop:=
 (r.2=0∧r.1.dark=false∧r.1.left=dec st.left∧st.left≠0∧KeepW N st r.1∧P r.1)∨(r.2=45∧r.1.dark=true∧st.left=0∧KeepW N st r.1)∨(r.2≠0∧r.2≠45∧r.1=st)
theorem yc {st:DkSt}{fs':Fs}{P:DkSt→Prop}(hd:st.dark=false)(h1:xP N fs'=xP N st.fs)(h2:cJ fs' N=cJ st.fs N)(hP:P { st with left:=dec st.left,fs:=fs' }):yb N st P (d9 st fs'):=by
 unfold d9 yb;by_cases h0:st.left=0
 ·rw[if_pos h0];exact .inr (.inl ⟨rfl,rfl,h0,rfl,rfl⟩)
 ·rw[if_neg h0];exact .inl ⟨rfl,hd,rfl,h0,⟨h1,h2⟩,hP⟩
theorem yd (hne:gS≠N)(s:List UInt8){st:DkSt}(hd:st.dark=false):yb N st (λst'=>st'.fs=cH st.fs gS) (xY N s 0 st)∧((xY N s 0 st).2=5↔cJ st.fs gS=none):=by
 show yb N _ _ (ef st gS)∧((ef st gS).2=5↔_);unfold ef;rw[hd];cases h:cJ st.fs gS with
 | none=>exact⟨.inr (.inr ⟨by simp,by simp,rfl⟩),⟨λ_=>rfl,λ_=>rfl⟩⟩
 | some f=>
  refine⟨yc hd (xW xR _) (dW hne _) rfl,⟨λh=>?_,λh=>by cases h⟩⟩;have h':(d9 st (cH st.fs gS)).2=5:=h;unfold d9 at h'
  split at h'<;>simp at h'
theorem ye (hne:gS≠N)(s:List UInt8){st:DkSt}(hd:st.dark=false):yb N st (λst'=>st'.fs=cI st.fs ⟨gS,[],[]⟩) (xY N s 1 st):=by
 show yb N _ _ (ee st gS);unfold ee;rw[hd,if_neg (by simp),vk,if_neg (by simp)]
 split
 ·exact .inr (.inr ⟨by simp,by simp,rfl⟩)
 ·split
  ·exact .inr (.inr ⟨by simp,by simp,rfl⟩)
  ·exact yc hd (xX xR _) (dY hne _) rfl
theorem yf (hne:gS≠N)(s:List UInt8){st:DkSt}(hd:st.dark=false):yb N st (λst'=>∃f,cJ st.fs gS=some f∧st'.fs=cI st.fs ⟨gS,f.firm,f.pend++s⟩) (xY N s 2 st):=by
 show yb N _ _ (eR st gS s);unfold eR;rw[hd,if_neg (by simp)];cases h:cJ st.fs gS with
 | none=>exact .inr (.inr ⟨by simp,by simp,rfl⟩)
 | some f=>
  by_cases hr:(1048576:Int)-((f.firm.length+f.pend.length:Nat):Int)<(s.length:Int)∨st.cap-(cT st.fs:Int)<(s.length:Int)
  ·simp only[hr,if_true];exact .inr (.inr ⟨by simp,by simp,rfl⟩)
  ·simp only[hr,if_false]
   by_cases h0:st.left=0
   ·rw[if_pos h0]
    exact .inr (.inl ⟨rfl,rfl,h0,xX xR _,dY hne _⟩)
   ·rw[if_neg h0]
    exact .inl ⟨rfl,rfl,rfl,h0,⟨xX xR _,dY hne _⟩,f,rfl,rfl⟩
theorem yg (hne:gS≠N)(s:List UInt8){st:DkSt}(hd:st.dark=false):yb N st (λst'=>∃f,cJ st.fs gS=some f∧st'.fs=cI st.fs ⟨gS,f.firm++f.pend,[]⟩) (xY N s 3 st):=by
 show yb N _ _ (eA st gS);unfold eA;rw[hd,if_neg (by simp)];cases h:cJ st.fs gS with
 | none=>exact .inr (.inr ⟨by simp,by simp,rfl⟩)
 | some f=>exact yc hd (xX xR _) (dY hne _) ⟨f,rfl,rfl⟩
theorem yh (hne:gS≠N)(hm:cU N=true)(s:List UInt8){st:DkSt}(hd:st.dark=false){f:FileS}(hf:cJ st.fs gS=some f) :
  ((xY N s 4 st).2=0∧(xY N s 4 st).1.dark=false∧st.left≠0∧(xY N s 4 st).1.left=dec st.left∧(xY N s 4 st).1.fs=cI (cH st.fs gS) ⟨N,f.firm,f.pend⟩)∨((xY N s 4 st).2=45∧(xY N s 4 st).1.dark=true∧st.left=0∧KeepW N st (xY N s 4 st).1):=by
 show((eL st gS N).2=0∧_)∨_;have e:xY N s 4 st=eL st gS N:=rfl;rw[e];have e2:eL st gS N=d9 st (cI (cH st.fs gS) ⟨N,f.firm,f.pend⟩):=by
  unfold eL;rw[hd,if_neg (by simp),hf];show(if !cU N then _ else _)=_;rw[hm,if_neg (by simp),if_neg hne]
 rw[e2];unfold d9;by_cases h0:st.left=0
 ·rw[if_pos h0];exact .inr ⟨rfl,rfl,h0,rfl,rfl⟩
 ·rw[if_neg h0];exact .inl ⟨rfl,hd,h0,rfl,rfl⟩
def yi (N s:List UInt8)(st:DkSt)(r:DkSt×Int):Prop:=
 (r.2=0∧r.1.dark=false∧xP N r.1.fs=xP N st.fs∧cJ r.1.fs N=some ⟨N,s,[]⟩∧cJ r.1.fs gS=none)∨(r.2≠0∧KeepW N st r.1∧(r.1.dark=true↔r.2=45))
theorem yj {c:Int}{st:DkSt}(h:c≠44):gT (st,c)=(st,c):=by unfold gT;rw[if_neg h]
theorem yk (hne:gS≠N){st:DkSt}(hd:st.dark=false):(gT (st,44)).2≠0∧KeepW N st (gT (st,44)).1∧((gT (st,44)).1.dark=true↔(gT (st,44)).2=45):=by
 unfold gT;rw[if_pos rfl];have h:=(yd hne [] hd).1;have e:xY N [] 0 st=ef st gS:=rfl;rw[e]at h
 rcases h with⟨h1,h2,_,_,h3,_⟩|⟨h1,h2,_,h3⟩|⟨h1,h2,h3⟩
 ·simp[h1,h2,h3]
 ·simp[h1,h2,h3]
 ·have hk:KeepW N st (ef st gS).1:=by rw[h3];exact KeepW.refl st
  have hdk:(ef st gS).1.dark=false:=by rw[h3];exact hd
  by_cases h5:(ef st gS).2=5
  ·simp[h5,hk,hdk]
  ·simp[h2,hk,hdk]
theorem yl (hne:gS≠N){s:List UInt8}{st0:DkSt}{r:DkSt×Int}(hc:r.2≠0)(hk:KeepW N st0 r.1)(hd:(r.1.dark=true↔r.2=45)):yi N s st0 (gT r):=by
 obtain⟨st,c⟩:=r;dsimp only at hc hk hd;by_cases h:c=44
 ·subst h
  have hd':st.dark=false:=by cases e:st.dark;rfl;exact absurd (hd.1 e) (by decide)
  obtain⟨h1,h2,h3⟩:=yk hne hd';exact .inr ⟨h1,hk.trans h2,h3⟩
 ·rw[yj h];exact .inr ⟨hc,hk,hd⟩
theorem ym (st:DkSt)(hd:st.dark=false)(hne:gS≠N)(hm:cU N=true)(s:List UInt8):yi N s st (gT (gU st s N)):=by
 rw[ya];have stop:∀(k:Nat) (r:List Nat) (st1:DkSt) (P:DkSt→Prop),KeepW N st st1→yb N st1 P (xY N s k st1)→st1.dark=false→(xY N s k st1).2≠0→¬(k=0∧(xY N s k st1).2=5)→yi N s st ((gT (xZ N s (k::r) st1))):=by
  intro k r st1 P hk he hd1 h0 h5;rw[show xZ N s (k::r) st1=xY N s k st1 from by unfold xZ;rw[if_pos ⟨h0,h5⟩]]
  rcases he with⟨h1,_⟩|⟨h1,h2,_,h3⟩|⟨h1,h2,h3⟩
  ·exact absurd h1 h0
  ·exact yl hne h0 (hk.trans h3) (by rw[h1,h2];simp)
  ·exact yl hne h0 (by rw[h3];exact hk) (by rw[h3,hd1];simp[h2])
 have go:∀(k:Nat) (r:List Nat) (st1:DkSt),((xY N s k st1).2=0∨(k=0∧(xY N s k st1).2=5))→xZ N s (k::r) st1=xZ N s r (xY N s k st1).1:=by
  intro k r st1 h;rw[xZ,if_neg (by rintro⟨a,b⟩;rcases h with h|h;exact a h;exact b h)]
 obtain⟨e0,e05⟩:=yd hne s hd;have h0:((xY N s 0 st).2=0∨(0=0∧(xY N s 0 st).2=5))∨¬((xY N s 0 st).2=0∨(0=0∧(xY N s 0 st).2=5)):=Classical.em _
 rcases h0.symm with h0|h0
 ·exact stop 0 _ st _ (KeepW.refl _) e0 hd (λe=>h0 (.inl e)) (λe=>h0 (.inr e))
 rw[go 0 _ st h0];have k0:KeepW N st (xY N s 0 st).1∧(xY N s 0 st).1.dark=false:=by
  rcases e0 with⟨_,h2,_,_,h3,_⟩|⟨h1,_⟩|⟨_,_,h3⟩
  ·exact⟨h3,h2⟩
  ·rcases h0 with h|h<;>rw[h1]at h<;>simp at h
  ·rw[h3];exact⟨KeepW.refl _,hd⟩
 generalize (xY N s 0 st).1=st1 at k0
 obtain⟨k0,hd1⟩:=k0;have e1:=ye hne s hd1;by_cases h1:¬(xY N s 1 st1).2=0
 ·exact stop 1 _ st1 _ k0 e1 hd1 h1 (by simp)
 have h1:=Classical.not_not.1 h1;rw[go 1 _ st1 (.inl h1)];have k1:KeepW N st (xY N s 1 st1).1∧(xY N s 1 st1).1.dark=false∧cJ (xY N s 1 st1).1.fs gS=some ⟨gS,[],[]⟩:=by
  rcases e1 with⟨_,h2,_,_,h3,h4⟩|⟨h,_⟩|⟨h,_⟩
  ·exact⟨k0.trans h3,h2,by rw[h4];exact dZ ⟨gS,[],[]⟩ _⟩
  ·rw[h1]at h;cases h
  ·exact absurd h1 h
 generalize (xY N s 1 st1).1=st2 at k1
 obtain⟨k1,hd2,g2⟩:=k1;have e2:=yf hne s hd2;by_cases h2:¬(xY N s 2 st2).2=0
 ·exact stop 2 _ st2 _ k1 e2 hd2 h2 (by simp)
 have h2:=Classical.not_not.1 h2;rw[go 2 _ st2 (.inl h2)];have k2:KeepW N st (xY N s 2 st2).1∧(xY N s 2 st2).1.dark=false∧cJ (xY N s 2 st2).1.fs gS=some ⟨gS,[],s⟩:=by
  rcases e2 with⟨_,h2,_,_,h3,f,h4,h5⟩|⟨h,_⟩|⟨h,_⟩
  ·rw[g2]at h4;cases h4
   exact⟨k1.trans h3,h2,by rw[h5];exact dZ ⟨gS,[],s⟩ _⟩
  ·rw[h2]at h;cases h
  ·exact absurd h2 h
 generalize (xY N s 2 st2).1=st3 at k2
 obtain⟨k2,hd3,g3⟩:=k2;have e3:=yg hne s hd3;by_cases h3:¬(xY N s 3 st3).2=0
 ·exact stop 3 _ st3 _ k2 e3 hd3 h3 (by simp)
 have h3:=Classical.not_not.1 h3;rw[go 3 _ st3 (.inl h3)];have k3:KeepW N st (xY N s 3 st3).1∧(xY N s 3 st3).1.dark=false∧cJ (xY N s 3 st3).1.fs gS=some ⟨gS,s,[]⟩:=by
  rcases e3 with⟨_,h2,_,_,h3,f,h4,h5⟩|⟨h,_⟩|⟨h,_⟩
  ·rw[g3]at h4;cases h4
   exact⟨k2.trans h3,h2,by rw[h5];exact dZ ⟨gS,[]++s,[]⟩ _⟩
  ·rw[h3]at h;cases h
  ·exact absurd h3 h
 generalize (xY N s 3 st3).1=st4 at k3
 obtain⟨k3,hd4,g4⟩:=k3
 rcases yh hne hm s hd4 g4 with⟨h1,h2,_,_,h3⟩|⟨h1,h2,_,h3⟩
 ·rw[go 4 _ st4 (.inl h1)]
  show yi N s st (gT ((xY N s 4 st4).1,0));rw[yj (by decide)];refine .inl ⟨rfl,h2,?_,?_,?_⟩
  ·show xP N (xY N s 4 st4).1.fs=_
   rw[h3,xX (N:=N) (f:=⟨N,_,_⟩) xQ,xW xR,k3.1]
  ·show cJ (xY N s 4 st4).1.fs N=_
   rw[h3];exact dZ ⟨N,s,[]⟩ _
  ·show cJ (xY N s 4 st4).1.fs gS=_
   rw[h3,dY (by exact λe=>hne e.symm),dX]
 ·rw[show xZ N s [4] st4=xY N s 4 st4 from by unfold xZ;rw[if_pos ⟨by rw[h1];decide,by simp⟩]]
  exact yl hne (by rw[h1];decide) (k3.trans h3) (by rw[h1,h2];simp)
end
end
end Go.Proofs.YtaeakdichkhjaaaGreatDoor
