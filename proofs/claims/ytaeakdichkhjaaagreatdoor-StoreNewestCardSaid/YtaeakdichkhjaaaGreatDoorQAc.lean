/- The walks of disk.MayName, Used; do, and what is done: Create, Delete, Sync, Rename, Append. -/
import Derived.Test.YtaeakdichkhjaaaGreatDoorQAb
import Derived.RangeFuncFrom
import Derived.Test.YtaeakdichkhjaaaGreatDoorQAa
import Derived.Test.YtaeakdichkhjaaaGreatDoorChecked
import Derived.Test.YtaeakdichkhjaaaGreatDoorShelf
import Derived.Laws.StructEq
import Derived.RangeFuncBound
import Derived.RangeFuncCalls
import Derived.Shelf.Abstract
import Derived.Shelf.RegionOpen
import Derived.OwnWalkIn
import Derived.TacticsInMore
import Derived.LoopNIn
import Derived.LoopIn
import Derived.BigRegionIn
import Derived.Sort.CutIn
import Derived.Maps.OwnSet
import Derived.Carry
import Derived.Maps.OwnOps
import Derived.Maps.RangeWalk
import Derived.Maps.Ext
import Derived.Deep.QuietTactic
import Derived.BigQuiet
import Derived.Shelf.Strings.SlTrimAscii
set_option maxHeartbeats 1000000
open Go.Lib(hid)
namespace Go.Proofs.YtaeakdichkhjaaaGreatDoor
section
open Go.RowKit
structure RdrAt (w:World) (q p:Nat) (s:ByteArray) (st:RdSt):Prop where
 cell:w.heap[q]?=some (.cells #[.pointer (some ⟨p,0,none⟩),.int .i64 (s.size:Int),.bool false] 191 (0,0))
 rd:IsRd w p s st
 ne:q≠p
theorem RdrAt.kept {S:Nat→Prop}{w w':World}{q p:Nat}{s:ByteArray}{st:RdSt}(h:RdrAt w q p s st)(hf:Fr S w w')(hq:¬S q)(hp:¬S p):RdrAt w' q p s st:=⟨hf.heapAt h.cell hq,h.rd.kept hf hp,h.ne⟩
theorem RdrAt.pure {w w':World}{q p:Nat}{s:ByteArray}{st:RdSt}(h:RdrAt w q p s st)(hb:Below w.heap.size w w'):RdrAt w' q p s st:=h.kept (Fr.pure (S:=λ_=>False) hb) (λh=>h) (λh=>h)
theorem RdrAt.cs {w:World}{q p:Nat}{s:ByteArray}{st:RdSt}(h:RdrAt w q p s st):w.cell? ⟨q,0,none⟩=some (.pointer (some ⟨p,0,none⟩))∧w.cell? ⟨q,1,none⟩=some (.int .i64 (s.size:Int))∧w.cell? ⟨q,2,none⟩=some (.bool false):=by
 refine⟨?_,?_,?_⟩<;>rw[cell_of_row w q _ _ _ _ h.cell]<;>rfl
theorem RdrAt.size {w:World}{q p:Nat}{s:ByteArray}{st:RdSt}(h:RdrAt w q p s st):w.cell? ⟨q,1,none⟩=some (.int .i64 (s.size:Int)):=h.cs.2.1
def cg {β:Type}(own:Nat→Prop)(J:β→World→Prop):Prop:=∀s A B,J s A→Fr own A B→J s B
structure RgIn (n:Nat) (W W':World):Prop where
 de:W'.heap[n]?=W.heap[n]?
 lo:W'.heap[n+1]?=W.heap[n+1]?
theorem RgIn.refl (n:Nat)(W:World):RgIn n W W:=⟨rfl,rfl⟩
theorem RgIn.trans {n:Nat}{A B C:World}(h:RgIn n A B)(k:RgIn n B C):RgIn n A C:=⟨k.de.trans h.de,k.lo.trans h.lo⟩
theorem RgIn.fr {n:Nat}{S:Nat→Prop}{W W':World}(h:Fr S W W')(hn:n+1<W.heap.size)(h1:¬S n)(h2:¬S (n+1)):RgIn n W W':=⟨h.block n (by omega) h1,h.block (n+1) hn h2⟩
theorem Fr.putObj {S:Nat→Prop}{a b:World}(h:Fr S a b)(r:Nat)(hr:r<a.heap.size→S r)(o:Obj):Fr S a (b.putObj r o):=
 ⟨h.os,h.tape,h.output,by rw[World.putObj_size];exact h.size,λk hk hs=>(World.putObj_heap_other (λe=>hs (by rw[e];exact hr (by omega)))).trans (h.block k hk hs)⟩
variable {F:Fence} {n:Nat} {P:Program}
end
section
open Go.RowKit
theorem cj {n:Nat}(w:World)(o:Obj)(h:n=w.heap.size):(w.alloc o).heap[n]?=some o:=by subst h;exact heap_alloc_new _ _
theorem ck {F:Fence}(hd:F.depth=none)(k:Nat):F.room k:=λd h=>by rw[hd]at h;cases h
theorem RoundIn.anyDepth {F:Fence}(hd:F.depth=none){m m':Nat}{P:Program}{l:Nat}{f:FuncId}{tmps:Array Value}{assign body:Code}{w:World}{R:Ending→World→Prop}
  (h:RoundIn F m P l f tmps assign body w R):RoundIn F m' P l f tmps assign body w R:=⟨h.1,λc cs _=>h.2 c cs (ck hd _)⟩
theorem YieldAt.anyDepth {F:Fence}(hd:F.depth=none){m:Nat}(m':Nat){P:Program}{l:Nat}{args:Array Value}{W:World}{R:Ending→World→Prop}(h:YieldAt F m P l args W R):YieldAt F m' P l args W R:=by
 obtain⟨fn,tmps,assign,body,hy,hR⟩:=h;exact⟨fn,tmps,assign,body,hy,RoundIn.anyDepth hd hR⟩
theorem RoundIn.inRound {F:Fence}{m:Nat}{P:Program}{l l':Nat}{f:FuncId}{tmps:Array Value}{assign body:Code}{w:World}{R:Ending→World→Prop}(h:RoundIn F m P l f tmps assign body w R):RoundIn (F.inRound l') m P l f tmps assign body w R:=h
def cm {α:Type}(Q:α→Prop)(F:Fence)(n:Nat)(P:Program)(g:Nat)(lb:Array Value)(encs:α→Array Value)(own:Nat→Prop)(Kp Kx:World→World→Prop)(S Sp:List α→Prop)(N:Nat)(w:World):Prop:=
 ∀(l:Nat) (J Jx:List α→World→Prop) (W:World),Below w.heap.size w W→w.heap.size+1<W.heap.size→cg own J→cg own Jx →
  (∀pre x W1,Q x→J pre W1→pre.length<N→YieldAt F (n-1) P l (encs x) W1 λe W'=>
   (e = .returned (.bool true)∧J (pre++[x]) W'∧Kp W1 W')∨(e = .returned (.bool false)∧Jx (pre++[x]) W'∧Kx W1 W')) →
  J [] W →
  CallsIn F n P g (#[.func (.yield l) #[] #[]]++lb) W λe W'=>(∃v,e = .returned v)∧((∃xs,S xs∧J xs W')∨(∃pre,Sp pre∧Jx pre W'))
def ct {α:Type}(n:Nat)(Kp Kx:World→World→Prop)(I:List α→World→Prop)(Ix:Code→List α→World→Prop)(xs:List α)(W:World):Exit→Act→World→Prop
 | .normal,_,W'=>RgIn n W W'∧Kp W W'∧I xs W'
 | .ret,_,W'=>RgIn n W W'∧Kx W W'∧Ix .ret xs W'
 | .exit id,_,W'=>RgIn n W W'∧Kx W W'∧Ix (.exit id) xs W'
 | .goto t,_,W'=>RgIn n W W'∧Kx W W'∧Ix (.goto t) xs W'
 | .panic _,_,_=>False
 | .outgrown,_,_=>False
variable {F:Fence} {n:Nat} {P:Program}
theorem cv {α:Type}{g:Operand}{ps:Array Tmp}{assign body:Code}{Q:Exit→Act→World→Prop}{a:Act}{w:World}
  (hro:F.round=none) (h1:1≤n) {gf:Nat} {lb:Array Value} (hg:a.eval g = .func (.func gf) #[] lb) (hFg:F.fn gf) (eg:∀args w,(callFunc gf args).run P w = .ok (.enter gf args) w)
  {Qx:α→Prop} {encs:α→Array Value} {own:Nat→Prop} {Kp Kx:World→World→Prop} {S Sp:List α→Prop} {N:Nat} (hseq:cm Qx F (n-1) P gf lb encs own Kp Kx S Sp N w) (hown:¬own w.heap.size∧¬own (w.heap.size+1))
  (hKt:∀{A B C:World},Kp A B→Kp B C→Kp A C) (hKb:∀(W:World) (o:Obj),w.heap.size+1<W.heap.size→Kp W (W.putObj (w.heap.size+1) o)) (hKx:∀{A B C:World},Kp A B→Kx B C→Kx A C) (hKxb:∀(A W:World) (o:Obj),Kx A W→Kx A (W.putObj (w.heap.size+1) o)) (hps:∀x,(encs x).size=ps.size)
  (I:List α→World→Prop) (Ix:Code→List α→World→Prop) (hI:cg (λk=>own k∨k=w.heap.size∨k=w.heap.size+1) I) (hIx:∀c,cg (λk=>own k∨k=w.heap.size∨k=w.heap.size+1) (Ix c)) (h0:I [] w)
  (A:List α→α→Act→World→Prop) (hA:∀pre x a' W o,w.heap.size+1<W.heap.size→A pre x a' W→A pre x a' (W.putObj (w.heap.size+1) o))
  (hassign:∀(pre:List α) (x:α) (W:World) (K:Act→World→Prop),Qx x→w.heap.size+1<W.heap.size→I pre W→(∀a' W',A pre x a' W'→RgIn w.heap.size W W'→W.heap.size≤W'.heap.size→Kp W W'→K a' W') →
   assign.wpIn (F.inRound (w.heap.size+1)) (n-1-1) P (Exit.then K (λ_ _ _=>False)) { tmps:=(ps.zip (encs x)).foldl (λt (p,v)=>t.setIfInBounds p v) a.tmps,defers:=[] } W)
  (hbody:∀(pre:List α) (x:α) (a':Act) (W:World),Qx x→w.heap.size+1<W.heap.size→A pre x a' W→pre.length<N→body.wpIn (F.inRound (w.heap.size+1)) (n-1-1) P (ct w.heap.size Kp Kx I Ix (pre++[x]) W) a' W)
  (hdone:∀(xs:List α) (W:World),S xs→I xs W→W.heap[w.heap.size]?=some (.deferred (some []))→Q .normal { a with defers:={ target:=.collected w.heap.size,args:=#[] }::a.defers } W)
  (hstop:∀(c:Code) (pre:List α) (W:World),Sp pre→Ix c pre W→W.heap[w.heap.size]?=some (.deferred (some []))→c.wpIn F n P Q { a with defers:={ target:=.collected w.heap.size,args:=#[] }::a.defers } W) :
  (Code.rangeFunc g ps assign body).wpIn F n P Q a w:=by
 refine wpIn_rangeFunc ?_;intro fn hfn;rw[hro];obtain⟨rec,hrec⟩:∃rec:LoopState→Option Code→Loop,rec=λst pe=>{ state:=st,pending:=pe,fn,tmps:=a.tmps,params:=ps,assign,body,defers:=w.heap.size }:=⟨_,rfl⟩;obtain⟨N0,hN0⟩:∃N0,N0=w.heap.size:=⟨_,rfl⟩;obtain⟨W1,hW1⟩:∃W1,(w.alloc (.deferred (some []))).alloc (.loop (rec .ready none))=W1:=⟨_,rfl⟩;have hL1:W1.heap[w.heap.size+1]?=some (.loop (rec .ready none)):=by
  rw[← hW1];have:=World.alloc_heap_new (w.alloc (.deferred (some []))) (.loop (rec .ready none));rwa [World.size_alloc]at this
 have hK1:W1.heap[w.heap.size]?=some (.deferred (some [])):=by
  rw[← hW1];exact(Below.heap_alloc _ _ _ (by simp)).trans (World.alloc_heap_new w _)
 have hf1:∀{S:Nat→Prop},Fr S w W1:=by intro S;rw[← hW1];exact((Fr.refl S w).alloc _).alloc _
 have hI1:I [] W1:=hI _ _ _ h0 hf1;have hb1:Below w.heap.size w W1:=by rw[← hW1];exact((Below.refl _ w).alloc (Nat.le_refl _) _).alloc (by simp) _
 have hturn:∀{β:Type} {J:β→World→Prop} (_:cg (λk=>own k∨k=w.heap.size∨k=w.heap.size+1) J) (s:β) (W:World) (o:Obj),J s W→J s (W.putObj (w.heap.size+1) o):=
  λhJ s W o hs=>hJ s _ _ hs ((Fr.refl _ W).putObj _ (λ_=>.inr (.inr rfl)) o)
 have hkeep:∀{X Y:World} {k:Nat} {o:Obj},Fr own X Y→¬own k→X.heap[k]?=some o→Y.heap[k]?=some o:=
  λhf hk h=>(hf.block _ (lt_of_block h) hk).trans h
 refine⟨w.heap.size+1,[{ target:=.collected w.heap.size,args:=#[] }],W1,{ target:=.fn (.func gf) lb,args:=#[.func (.yield (w.heap.size+1)) #[] #[]] },W1,gf,
  #[.func (.yield (w.heap.size+1)) #[] #[]]++lb,W1,?_,?_,?_,?_,λ_=>h1,?_⟩
 ·rw[← hW1,hrec];exact run_enterLoop_outer _ _ _ _ _
 ·simp only[resolve,hg]
  simp[go_sem]
 ·intro f' hf';simp[Target.leads]at hf';subst hf';exact hFg
 ·simp[invoke,go_sem,eg]
 ·refine(hseq (w.heap.size+1)
   (λpre W=>I pre W∧W.heap[w.heap.size+1]?=some (.loop (rec .ready none))∧W.heap[w.heap.size]?=some (.deferred (some [])))
   (λpre W=>∃c,Ix c pre W∧W.heap[w.heap.size+1]?=some (.loop (rec .done (some c)))∧W.heap[w.heap.size]?=some (.deferred (some [])))
   W1 hb1 (lt_of_block hL1)
   (λs X Y hs hf=>⟨hI s X Y hs.1 (hf.mono (λ_ _ e=>.inl e)),hkeep hf hown.2 hs.2.1,hkeep hf hown.1 hs.2.2⟩)
   (λs X Y hs hf=>by
    obtain⟨c,hc,hl,hk⟩:=hs;exact⟨c,hIx c s X Y hc (hf.mono (λ_ _ e=>.inl e)),hkeep hf hown.2 hl,hkeep hf hown.1 hk⟩)
   ?_ ⟨hI1,hL1,hK1⟩).mono ?_
  ·rintro pre x W hqx ⟨hi,hl,hk⟩ hlen
   have hlt:w.heap.size+1<W.heap.size:=lt_of_block hl;have hy:=run_yield (P:=P) (args:=encs x) hl (by rw[hrec];exact hps x);rw[hrec]at hy;refine⟨fn,_,assign,body,hy,roundIn_of_wpIn hfn (hassign pre x W _ hqx hlt hi ?_)⟩;intro a' W2 hA2 hg2 hsz2 hkp2;have hl2:W2.heap[w.heap.size+1]?=some (.loop (rec .ready none)):=hg2.lo.trans hl;have hk2:W2.heap[w.heap.size]?=some (.deferred (some [])):=hg2.de.trans hk;have hlt2:w.heap.size+1<W2.heap.size:=by omega
   refine⟨_,run_beginRound hl2 (by rw[hrec]),?_⟩;have hl3:(W2.putObj (w.heap.size+1) (.loop { rec .ready none with state:=.busy })).heap[w.heap.size+1]?=some (.loop { rec .ready none with state:=.busy }):=World.putObj_heap_same hlt2;have hk3:(W2.putObj (w.heap.size+1) (.loop { rec .ready none with state:=.busy })).heap[w.heap.size]?=some (.deferred (some [])):=(World.putObj_heap_other (by omega)).trans hk2;have hkp3:Kp W (W2.putObj (w.heap.size+1) (.loop { rec .ready none with state:=.busy })):=hKt hkp2 (hKb _ _ hlt2);refine wpIn_mono (hbody pre x a' _ hqx (by rw[World.putObj_size];exact hlt2) (hA _ _ _ _ _ hlt2 hA2) hlen) ?_;have fin:∀(jump:Option Code) (W4:World),RgIn w.heap.size (W2.putObj (w.heap.size+1) (.loop { rec .ready none with state:=.busy })) W4 →
     (Instr.endRound (w.heap.size+1) jump).run P W4 = .ok (.bool jump.isNone) (W4.putObj (w.heap.size+1) (.loop (rec (if jump.isNone then .ready else .done) jump))) ∧
     w.heap.size+1<W4.heap.size ∧
     (W4.putObj (w.heap.size+1) (.loop (rec (if jump.isNone then .ready else .done) jump))).heap[w.heap.size+1]?=some (.loop (rec (if jump.isNone then .ready else .done) jump)) ∧
     (W4.putObj (w.heap.size+1) (.loop (rec (if jump.isNone then .ready else .done) jump))).heap[w.heap.size]?=some (.deferred (some [])):=λjump W4 hg4=>by
    have hl4:=hg4.lo.trans hl3;have hr:=run_endRound (P:=P) jump hl4;rw[hrec]at hr ⊢;exact⟨hr,lt_of_block hl4,World.putObj_heap_same (lt_of_block hl4),(World.putObj_heap_other (by omega)).trans (hg4.de.trans hk3)⟩
   rintro e a4 W4 hp;cases e with
   | normal=>
    obtain⟨hg4,hkp4,hi4⟩:=hp;obtain⟨hr,hlt4,hl5,hk5⟩:=fin none W4 hg4;exact⟨_,_,hr,.inl ⟨rfl,⟨hturn hI _ _ _ hi4,hl5,hk5⟩,hKt (hKt hkp3 hkp4) (hKb _ _ hlt4)⟩⟩
   | ret=>
    obtain⟨hg4,hkp4,hi4⟩:=hp;obtain⟨hr,hlt4,hl5,hk5⟩:=fin (some .ret) W4 hg4;exact⟨_,_,hr,.inr ⟨rfl,⟨.ret,hturn (hIx _) _ _ _ hi4,hl5,hk5⟩,hKxb _ _ _ (hKx hkp3 hkp4)⟩⟩
   | exit id=>
    obtain⟨hg4,hkp4,hi4⟩:=hp;obtain⟨hr,hlt4,hl5,hk5⟩:=fin (some (.exit id)) W4 hg4;exact⟨_,_,hr,.inr ⟨rfl,⟨.exit id,hturn (hIx _) _ _ _ hi4,hl5,hk5⟩,hKxb _ _ _ (hKx hkp3 hkp4)⟩⟩
   | goto t=>
    obtain⟨hg4,hkp4,hi4⟩:=hp;obtain⟨hr,hlt4,hl5,hk5⟩:=fin (some (.goto t)) W4 hg4;exact⟨_,_,hr,.inr ⟨rfl,⟨.goto t,hturn (hIx _) _ _ _ hi4,hl5,hk5⟩,hKxb _ _ _ (hKx hkp3 hkp4)⟩⟩
   | panic ch=>exact hp.elim
   | outgrown=>exact hp.elim
  ·rintro e W2 ⟨⟨v,rfl⟩,(⟨xs,hS,hi,hl,hk⟩|⟨pre,hSp,c,hi,hl,hk⟩)⟩
   ·exact⟨none,_,by have:=run_endLoop (P:=P) hl (by rw[hrec];simp);rw[hrec]at this;exact this,hdone xs _ hS (hturn hI _ _ _ hi) ((World.putObj_heap_other (by omega)).trans hk)⟩
   ·exact⟨some c,_,by have:=run_endLoop (P:=P) hl (by rw[hrec];simp);rw[hrec]at this;exact this,hstop c pre _ hSp (hturn (hIx c) _ _ _ hi) ((World.putObj_heap_other (by omega)).trans hk)⟩
end
section
open Go.RowKit
end
section
open Go.RowKit Go.Sort Go.Shelf
end
section
open Go.RowKit
theorem cw {w w1:World}{o:Obj}(hb:Below (w.alloc o).heap.size (w.alloc o) w1):Below w.heap.size w w1:=((Below.refl _ _).alloc (Nat.le_refl _) _).trans (hb.mono (by simp))
theorem cx {a b c:World}(h:Below a.heap.size a b)(k:Below b.heap.size b c):Below a.heap.size a c:=h.trans (k.mono h.size)
def stV (c f a b:Int):Value:=.agg #[.int .i64 c,.int .i64 f,.int .i64 a,.int .i64 b,.slice none 0 0,.slice none 0 0,.slice none 0 0,.slice none 0 0,.slice none 0 0]
def cy:Value:=.agg #[.slice none 0 0,.slice none 0 0,.slice none 0 0,.slice none 0 0]
end
section
open Go.RowKit Go.Shelf
attribute [local go_sem] Oper.semAt_some
def stC (c f a b:Int):Array Value:=#[.int .i64 c,.int .i64 f,.int .i64 a,.int .i64 b,.slice none 0 0,.slice none 0 0,.slice none 0 0,.slice none 0 0,.slice none 0 0]
structure HeldAt (w W:World) (b:Nat) (c f a d:Int):Prop where
 st:W.heap[b]?=some (.cells (stC c f a d) 29 (0,0))
 mp:W.heap[b+1]?=some (.map #[] 0)
 box:W.heap[b+2]?=some (.cells #[.map (some (b+1))] 367 (0,0))
 below:Below b w W
theorem HeldAt.fr {w W W':World}{b:Nat}{c f a d:Int}{S:Nat→Prop}(h:HeldAt w W b c f a d)(hf:Fr S W W')(hS:∀k,k<b+3→¬S k):HeldAt w W' b c f a d:=
 ⟨hf.heapAt h.st (hS _ (by omega)),hf.heapAt h.mp (hS _ (by omega)),hf.heapAt h.box (hS _ (by omega)),h.below.trans (hf.below (B:=b) (by have:=lt_of_block h.st;omega) (λk hk=>hS k (by omega)))⟩
end
section
open Go.RowKit Go.Maps
structure FileS where
 name:List UInt8
 firm:List UInt8
 pend:List UInt8
deriving DecidableEq
abbrev Fs:=List FileS
def cz (f:FileS):DataW Unit:=.agg [.lit (.string f.firm),.lit (.string f.pend)]
def cA (f:FileS):Lit×DataW Unit:=(.string f.name,cz f)
def fsD (fs:Fs):DataW Unit:=.map (fs.map cA)
def cB (v:Value):Option (DataW Unit×List MemPlace):=
 match v with
 | .agg cs=>match cs.toList with
  | [.string a,.string b]=>some (.agg [.lit (.string a.data.toList),.lit (.string b.data.toList)],[])
  | _=>none
 | _=>none
def cC (a b:ByteArray):Value:=.agg #[.string a,.string b]
theorem cD (a b:ByteArray):cB (cC a b)=some (.agg [.lit (.string a.data.toList),.lit (.string b.data.toList)],[]):=rfl
theorem cE {v:Value}{y:DataW Unit×List MemPlace}(h:cB v=some y):∃c:ByteArray×ByteArray,v=cC c.1 c.2:=by
 unfold cB at h
 split at h
 ·rename_i cs
  split at h
  ·rename_i a b hcs
   refine⟨(a,b),?_⟩;show Value.agg cs = .agg #[.string a,.string b];rw[show cs=#[Value.string a,.string b]from Array.ext' hcs]
  ·cases h
 ·cases h
theorem cF {v:Value}{f:FileS}{ps:List MemPlace}(h:cB v=some (cz f,ps)):∃a b:ByteArray,v=cC a b∧a.data.toList=f.firm∧b.data.toList=f.pend:=by
 obtain⟨⟨a,b⟩,rfl⟩:=cE h;rw[cD]at h;simp only[Option.some.injEq,Prod.mk.injEq,cz,DataW.agg.injEq,List.cons.injEq,DataW.lit.injEq,Lit.string.injEq]at h;exact⟨a,b,rfl,h.1.1,h.1.2.1⟩
def cG (f:FileS):Fs→Fs
 | []=>[f]
 | g::r=>if bytesBefore f.name g.name then f::g::r else g::cG f r
def cH (fs:Fs)(n:List UInt8):Fs:=fs.filter λg=>!(g.name == n)
def cI (fs:Fs)(f:FileS):Fs:=cG f (cH fs f.name)
def cJ (fs:Fs)(n:List UInt8):Option FileS:=fs.find? λg=>g.name == n
theorem cK (f:FileS)(fs:Fs):DataW.insert (cA f) (fs.map cA)=(cG f fs).map cA:=by
 induction fs with
 | nil=>rfl
 | cons g r ih=>
  show(if bytesBefore f.name g.name then _ else _)=_;unfold cG
  split
  ·rfl
  ·simp only[List.map_cons,ih]
theorem cL (fs:Fs)(n:List UInt8):(fs.map cA).filter (λp=>!p.1.sameKey (.string n))=(cH fs n).map cA:=by
 unfold cH;rw[List.filter_map];rfl
theorem cM (fs:Fs)(n:List UInt8):(fsD fs).del (.string n)=fsD (cH fs n):=by
 show DataW.map _=DataW.map _;rw[cL]
theorem cN (fs:Fs)(f:FileS):(fsD fs).put (.string f.name) (cz f)=fsD (cI fs f):=by
 show DataW.map (DataW.insert (cA f) _)=DataW.map _;rw[cL,cK];rfl
theorem cO (fs:Fs)(n:List UInt8):(fs.map cA).find? (λp=>p.1.sameKey (.string n))=(cJ fs n).map cA:=by
 unfold cJ;rw[List.find?_map];rfl
theorem cP (fs:Fs)(n:List UInt8)(z:DataW Unit):(fsD fs).atKey (.string n) z=match cJ fs n with|some f=>cz f|none=>z:=by
 unfold DataW.atKey fsD;simp only[cO];cases cJ fs n<;>rfl
theorem cQ (fs:Fs)(n:List UInt8):Maps.has (fsD fs) (.string n)=(cJ fs n).isSome:=by
 show(fs.map cA).any (λp=>p.1.sameKey (.string n))=_;unfold cJ
 induction fs with
 | nil=>rfl
 | cons f r ih=>
  simp only[List.map_cons,List.any_cons,List.find?_cons,ih];show((f.name == n) || _)=_;cases f.name == n<;>rfl
theorem cR (fs:Fs):Maps.size (fsD fs)=fs.length:=by show(fs.map cA).length=_;simp
theorem cS {fs:Fs}{n:List UInt8}{f:FileS}(h:cJ fs n=some f):f.name=n∧f∈fs:=by
 unfold cJ at h;exact⟨by simpa using List.find?_some h,List.mem_of_find?_eq_some h⟩
def cT (fs:Fs):Nat:=(fs.map λf=>f.firm.length+f.pend.length).sum
def letters:List UInt8:=[97,98,99,100,101,102,103,104,105,106,107,108,109,110,111,112,113,114,115,116,117,118,119,120,121,122,65,66,67,68,69,70,71,72,73,74,75,76,77,78,79,80,81,82,83,84,85,86,87,88,89,90,48,49,50,51,52,53,54,55,56,57,45,95,46]
def cU (n:List UInt8):Bool:=decide (1≤n.length) && decide (n.length≤24) && n.all (λc=>letters.contains c)
structure DkSt where
 fs:Fs
 cap:Int
 left:Int
 dark:Bool
structure FsOk (fs:Fs):Prop where
 sorted:fs.Pairwise (λf g=>bytesBefore f.name g.name=true)
 few:fs.length≤64
 small:∀f∈fs,f.firm.length+f.pend.length≤1048576
 names:∀f∈fs,f.name.length≤24
structure DkOk (st:DkSt):Prop where
 fs:FsOk st.fs
 cap0:0≤st.cap
 cap1:st.cap≤9223372036854775807
 fits:(cT st.fs:Int)≤st.cap
 left0 : -1≤st.left
 left1:st.left≤9223372036854775807
def DkSt.cells (st:DkSt)(b:Nat):Array Value:=#[.map (some b),.int .i64 st.cap,.int .i64 st.left,.bool st.dark]
structure IsDk (w:World) (p b:Nat) (st:DkSt):Prop where
 cell:w.heap[p]?=some (.cells (st.cells b) 78 (0,0))
 own:w.ownsMap Tryz.prog 9 cB b st.fs.length (fsD st.fs)
 ok:DkOk st
theorem cV {fs:Fs}(h:FsOk fs):cT fs≤67108864:=by
 have:∀(l:Fs),(∀f∈l,f.firm.length+f.pend.length≤1048576)→cT l≤l.length*1048576:=by
  intro l
  induction l with
  | nil=>intro _;simp[cT]
  | cons f l ih=>
   intro h;have h1:=h f (by simp);have h2:=ih (λg hg=>h g (by simp[hg]));simp only[cT,List.map_cons,List.sum_cons,List.length_cons]at h2 ⊢;omega
 have h1:=this fs h.small;have h2:=h.few;omega
theorem IsDk.lt {w:World}{p b:Nat}{st:DkSt}(h:IsDk w p b st):p<w.heap.size:=lt_of_block h.cell
theorem IsDk.ne {w:World}{p b:Nat}{st:DkSt}(h:IsDk w p b st):b≠p:=by
 intro e;obtain⟨es,clock,hb,_⟩:=h.own;have hc:=h.cell;rw[e,hc]at hb;cases hb
theorem IsDk.cs {w:World}{p b:Nat}{st:DkSt}(h:IsDk w p b st) :
  w.cell? ⟨p,0,none⟩=some (.map (some b))∧w.cell? ⟨p,1,none⟩=some (.int .i64 st.cap)∧w.cell? ⟨p,2,none⟩=some (.int .i64 st.left)∧w.cell? ⟨p,3,none⟩=some (.bool st.dark):=by
 refine⟨?_,?_,?_,?_⟩<;>rw[cell_of_row w p _ _ _ _ h.cell]<;>rfl
theorem IsDk.fz {w:World}{p b:Nat}{st:DkSt}(h:IsDk w p b st)(j:Nat):w.frozen? ⟨p,j,none⟩=false:=frozen_of_row w p j _ _ h.cell
theorem cW {S:Nat→Prop}{w w':World}{P:Program}{k:TypeId}{R:Value→Option (DataW Unit×List MemPlace)}{b n:Nat}{D:DataW Unit}(h:w.ownsMap P k R b n D)(hf:Fr S w w')(hb:¬S b):w'.ownsMap P k R b n D:=by
 obtain⟨es,clock,hh,r⟩:=h;exact⟨es,clock,hf.heapAt hh hb,r⟩
theorem cX {w:World}{P:Program}{k:TypeId}{R:Value→Option (DataW Unit×List MemPlace)}{b n:Nat}{D:DataW Unit}(h:w.ownsMap P k R b n D):w.ownsMap P k R b (Maps.size D) D:=by
 obtain⟨es,clock,hh,F,_,rfl⟩:=h;exact⟨es,clock,hh,F,by simp[Maps.size,length_sorted],rfl⟩
theorem IsDk.kept {S:Nat→Prop}{w w':World}{p b:Nat}{st:DkSt}(h:IsDk w p b st)(hf:Fr S w w')(hp:¬S p)(hb:¬S b):IsDk w' p b st:=
 ⟨hf.heapAt h.cell hp,cW h.own hf hb,h.ok⟩
theorem IsDk.pure {w w':World}{p b:Nat}{st:DkSt}(h:IsDk w p b st)(hb:Below w.heap.size w w'):IsDk w' p b st:=h.kept (Fr.pure (S:=λ_=>False) hb) (λhf=>hf) (λhf=>hf)
theorem IsDk.drewN {w:World}{p b:Nat}{st:DkSt}(h:IsDk w p b st)(n:Nat):IsDk (w.drewN n) p b st:=⟨h.cell,h.own,h.ok⟩
theorem Tryz.strKey:Keyed Tryz.prog 9:=string_keyed Tryz.underlying9
theorem Tryz.zeroFile (w:World):(zeroValue 81).run Tryz.prog w = .ok (cC ⟨#[]⟩ ⟨#[]⟩) w:=by kernel_rfl
theorem cY (w:World)(p b:Nat)(st:DkSt)(h:IsDk w p b st) :
  Calls Tryz.prog 53 #[.pointer (some ⟨p,0,none⟩)] w λe w'=>e = .returned (.int .i64 (if st.dark then 45 else 0))∧w=w':=by
 obtain⟨c0,c1,c2,c3⟩:=h.cs;clear h;cases hd:st.dark<;>rw[hd]at c3<;>clear hd
 ·go_enter Tryz.func53,Tryz.ntmps53
  go_wp2;go_ret;exact⟨rfl,rfl⟩
 ·go_enter Tryz.func53,Tryz.ntmps53
  go_wp2;go_ret;exact⟨rfl,rfl⟩
def cZ (w:World)(st:DkSt)(n:List UInt8)(e:Ending)(w':World):Prop:=
 Below w.heap.size w w'∧∃a b:ByteArray,
  (if st.dark then a.data.toList=[]∧b.data.toList=[]∧e = .returned (.tuple #[cC a b,.int .i64 45])
   else match cJ st.fs n with
   | none=>a.data.toList=[]∧b.data.toList=[]∧e = .returned (.tuple #[cC a b,.int .i64 5])
   | some f=>a.data.toList=f.firm∧b.data.toList=f.pend∧e = .returned (.tuple #[cC a b,.int .i64 0]))
def db (fs:Fs)(n:List UInt8)(a b:ByteArray):Prop:=
 match cJ fs n with
 | some f=>a.data.toList=f.firm∧b.data.toList=f.pend
 | none=>a.data.toList=[]∧b.data.toList=[]
theorem dd {fs:Fs}{n:List UInt8}{v:Value}{ps:List MemPlace}(hv:cB v=some ((fsD fs).atKey (.string n) (.agg [.lit (.string []),.lit (.string [])]),ps)):∃a b,v=cC a b∧db fs n a b:=by
 rw[cP]at hv;unfold db;cases h:cJ fs n with
 | some f=>rw[h]at hv;obtain⟨a,b,h1,h2,h3⟩:=cF hv;exact⟨a,b,h1,h2,h3⟩
 | none=>rw[h]at hv;obtain⟨a,b,h1,h2,h3⟩:=cF (f:=⟨[],[],[]⟩) hv;exact⟨a,b,h1,h2,h3⟩
theorem df (w:World){ops:Array Oper}{rest:List Oper}{o:Oper}{a:Act}{Q:Exit→Act→World→Prop}(hg:o.guard=none)(m x:Operand)(hop:o.op=Op.lookup 76 m x true)
  (b:Nat) (fs:Fs) (hm:a.eval m = .map (some b)) (hown:w.ownsMap Tryz.prog 9 cB b fs.length (fsD fs)) (n:ByteArray) (hx:a.eval x = .string n) (hn:n.size≤maxLen)
  (hK:∀f1 f2,db fs n.data.toList f1 f2→wpList Tryz.prog ops Q rest (a.put o.dst (.tuple #[.agg #[.string f1,.string f2],.bool (cJ fs n.data.toList).isSome])) w):wpList Tryz.prog ops Q (o::rest) a w:=
 wpList_lookup_own_ok w hg m x _ hop 9 81 Tryz.strKey Tryz.underlying76 cB (Tryz.zeroFile _) _ [] (cD _ _) b fs.length (fsD fs) hm hown _ _ hx (WideMaps.keyOf_string_mk Tryz.underlying9 hn)
  (λv ps hv=>by obtain⟨f1,f2,rfl,hf⟩:=dd hv;rw[cQ];exact hK f1 f2 hf)
set_option maxRecDepth 100000 in
theorem dg (w:World)(p b:Nat)(st:DkSt)(h:IsDk w p b st)(n:ByteArray)(hn:n.size≤maxLen) :
  Calls Tryz.prog 52 #[.pointer (some ⟨p,0,none⟩),.string n] w λe w'=>cZ w st n.data.toList e w':=by
 have H:=hid h;have H1:=hid (h.pure ((Below.refl _ _).alloc (Nat.le_refl _) (.cells #[.string ⟨#[]⟩,.string ⟨#[]⟩] 81)));have hp:=h.lt;have hbl:=h.own.lt;obtain⟨c0,c1,c2,c3⟩:=h.cs;clear h;cases hd:st.dark
 ·have HD:=hid hd
  clear hd
  go_enter Tryz.func52,Tryz.ntmps52
  go_wp2_with fail
  refine(cY _ p b st H1.out).mono ?_;rintro e w1 ⟨rfl,rfl⟩;rw[HD.out];cases hget:cJ st.fs n.data.toList with
  | none=>
   have HG:=hid hget;clear hget
   go_wp2_with (at_lookup;refine df _ rfl _ _ rfl b st.fs rfl H1.out.own n rfl hn ?_;intro f1 f2 hf;have HF:=hid hf;clear hf;rw[HG.out])
   refine bodyPost_ret (v:=.tuple #[cC ⟨#[]⟩ ⟨#[]⟩,.int .i64 5]) (by simp[results,Tryz.results52,go_sem];rfl) rfl ⟨?_,⟨#[]⟩,⟨#[]⟩,?_⟩
   ·exact(((Below.refl _ _).alloc (Nat.le_refl _) _).alloc (by simp) _)
   ·rw[HD.out,HG.out];exact⟨rfl,rfl,rfl⟩
  | some f=>
   have HG:=hid hget;clear hget
   go_wp2_with (at_lookup;refine df _ rfl _ _ rfl b st.fs rfl H1.out.own n rfl hn ?_;intro f1 f2 hf;have HF:=hid hf;clear hf;rw[HG.out])
   refine bodyPost_ret (v:=.tuple #[cC f1 f2,.int .i64 0]) (by simp[results,Tryz.results52,go_sem];rfl) rfl ⟨?_,f1,f2,?_⟩
   ·exact(((Below.refl _ _).alloc (Nat.le_refl _) _).alloc (by simp) _)
   ·have hf:=HF.out
    unfold db at hf;rw[HG.out]at hf;rw[HD.out,HG.out];exact⟨hf.1,hf.2,rfl⟩
 ·have HD:=hid hd
  clear hd
  go_enter Tryz.func52,Tryz.ntmps52
  go_wp2_with fail
  refine(cY _ p b st H1.out).mono ?_;rintro e w1 ⟨rfl,rfl⟩;rw[HD.out];go_wp2;refine bodyPost_ret (v:=.tuple #[cC ⟨#[]⟩ ⟨#[]⟩,.int .i64 45]) (by simp[results,Tryz.results52,go_sem];rfl) rfl ⟨?_,⟨#[]⟩,⟨#[]⟩,?_⟩
  ·exact(Below.refl _ _).alloc (Nat.le_refl _) _
  ·rw[HD.out];exact⟨rfl,rfl,rfl⟩
theorem dh (w:World)(a b:ByteArray)(h:a.size+b.size≤9223372036854775807) :
  Calls Tryz.prog 58 #[.agg #[.string a,.string b]] w λe w'=>e = .returned (.int .i64 ((a.size+b.size:Nat):Int))∧Below w.heap.size w w':=by
 go_enter Tryz.func58,Tryz.ntmps58
 go_wp2;go_ret;exact⟨aa (by simp),(Below.refl _ _).alloc (Nat.le_refl _) _⟩
def di (fs:Fs)(left:Lit→Bool):Nat:=cT (fs.filter λf=>!left (.string f.name))
theorem dj (fs:Fs):di fs (Maps.has (fsD fs))=0:=by
 have:fs.filter (λf=>!Maps.has (fsD fs) (.string f.name))=[]:=by
  rw[List.filter_eq_nil_iff];intro f hf;rw[cQ];simp only[Bool.not_eq_true',Bool.not_eq_false];unfold cJ;rw[List.find?_isSome];exact⟨f,hf,by simp⟩
 unfold di;rw[this];rfl
theorem dl (fs:Fs){left:Lit→Bool}(h:∀k,left k=false):di fs left=cT fs:=by
 unfold di;rw[List.filter_eq_self.2 (λf _=>by simp[h])]
theorem dm {a b:List UInt8}(h:bytesBefore a b=true):a≠b:=by
 intro e;subst e;have:(Lit.string a).before (.string a)=true:=h;have hx:=apart_of_rising (H:=Unit) (es:=[(.string a,.nil),(.string a,.nil)]) (by simp[this]);simp at hx
theorem dn {fs:Fs}(h:FsOk fs):fs.Pairwise (λf g=>f.name≠g.name):=h.sorted.imp λh=>dm h
theorem dp {fs:Fs}(hp:fs.Pairwise (λf g=>f.name≠g.name)){left:Lit→Bool}{n:List UInt8}{f:FileS}(hl:left (.string n)=true)(hg:cJ fs n=some f) :
  di fs (λz=>left z && !z.sameKey (.string n))=di fs left+(f.firm.length+f.pend.length):=by
 induction fs with
 | nil=>simp[cJ]at hg
 | cons g r ih=>
  obtain⟨h1,h2⟩:=List.pairwise_cons.1 hp;have cons:∀(l:Lit→Bool),di (g::r) l=(if l (.string g.name) then 0 else g.firm.length+g.pend.length)+di r l:=by
   intro l;unfold di;rw[List.filter_cons];cases l (.string g.name)<;>simp[cT]
  rw[cons,cons];by_cases e:g.name=n
  ·have hgf:g=f:=by
    unfold cJ at hg;rw[List.find?_cons,show(g.name == n)=true from by simp[e]]at hg;exact Option.some.inj hg
   have hr:di r (λz=>left z && !z.sameKey (.string n))=di r left:=by
    unfold di;congr 1;apply List.filter_congr;intro x hx;have hne:x.name≠n:=λe2=>h1 x hx (e.trans e2.symm);have:(Lit.string x.name).sameKey (.string n)=false:=by show(x.name == n)=false;simpa using hne
    simp only[this];simp
   have hs:(Lit.string g.name).sameKey (.string n)=true:=by show(g.name == n)=true;simp[e]
   rw[hr,hs,e,hl,← hgf];simp;omega
  ·have hgr:cJ r n=some f:=by
    unfold cJ at hg ⊢;rw[List.find?_cons,show(g.name == n)=false from by simpa using e]at hg;exact hg
   have hs:(Lit.string g.name).sameKey (.string n)=false:=by show(g.name == n)=false;simpa using e
   rw[ih h2 hgr,hs];simp;omega
theorem dr {w w':World}(h:Below w.heap.size w w')(row:Option Nat):w.grownBy w' row:=⟨h.os,h.tape,h.output,h.size,λk hk _=>h.block k hk⟩
theorem dt {P:Program}{k:TypeId}(hk:P.underlying k=some .string){key:Value}{kl:Lit}(h:keyOf P k key=some kl):∃s:ByteArray,key = .string s∧kl = .string s.data.toList∧s.size≤maxLen:=by
 cases key<;>simp[keyOf,hk,mapKey]at h
 rename_i s
 obtain⟨hs,rfl⟩:=h;exact⟨s,rfl,rfl,hs⟩
theorem du (w:World){ops:Array Oper}{rest:List Oper}{o:Oper}{a:Act}{Q:Exit→Act→World→Prop}(hg:o.guard=none)(it:Operand)(hop:o.op=Op.next it false)
  (b r:Nat) (fs:Fs) (left:Lit→Bool) (cnt:Nat) (hit:a.eval it = .pointer (some ⟨r,0,none⟩)) (h:w.ranges Tryz.prog 9 cB b r fs.length (fsD fs) left cnt)
  (hDone:(∀kl,left kl=false)→wpList Tryz.prog ops Q rest (a.put o.dst (.tuple #[.bool false])) w)
  (hMore:∀(x f1 f2:ByteArray) (f:FileS) (w':World) (cnt':Nat),cJ fs x.data.toList=some f→f1.data.toList=f.firm→f2.data.toList=f.pend→left (.string x.data.toList)=true →
   w'.ranges Tryz.prog 9 cB b r fs.length (fsD fs) (λz=>left z && !z.sameKey (.string x.data.toList)) cnt'→cnt'<cnt→w.grownBy w' (some r)→w'.heap.size=w.heap.size →
   (Instr.entry (.pointer (some ⟨r,0,none⟩))).run Tryz.prog w' = .ok (.tuple #[.string x,.agg #[.string f1,.string f2]]) w'→wpList Tryz.prog ops Q rest (a.put o.dst (.tuple #[.bool true,.string x,.agg #[.string f1,.string f2]])) w') :
  wpList Tryz.prog ops Q (o::rest) a w:=
 wpList_next_ranges w hg it hop 9 Tryz.strKey cB (λx:ByteArray=>.string x) (λc:ByteArray×ByteArray=>cC c.1 c.2)
  (λkey kl hk=>by obtain⟨s,rfl,_⟩:=dt Tryz.underlying9 hk;exact⟨s,rfl⟩) (λv y h=>cE h) b r fs.length (fsD fs) left cnt hit h (λ_ hl=>hDone hl)
  (λx c kl y w' cnt' hk hl hv hat hrg hlt hgr hsz hen=>by
   obtain⟨s,hs,rfl,_⟩:=dt Tryz.underlying9 hk;cases hs;have hhas:=Maps.has_true_of_atKey hat;rw[cQ]at hhas;obtain⟨f,hf⟩:=Option.isSome_iff_exists.1 hhas;have hy:=hat .nil;rw[cP,hf]at hy;simp only at hy;obtain⟨f1,f2,hv2,h1,h2⟩:=cF (v:=cC c.1 c.2) (f:=f) (ps:=y.2) (by rw[hv,hy]);have e1:c.1=f1∧c.2=f2:=by simpa[cC]using hv2
   rw[← e1.1]at h1;rw[← e1.2]at h2;exact hMore x c.1 c.2 f w' cnt' hf h1 h2 hl hrg hlt hgr hsz hen)
theorem dw {fs:Fs}(hp:fs.Pairwise (λf g=>f.name≠g.name))(left:Lit→Bool):di fs left≤cT fs:=by
 unfold di cT
 induction fs with
 | nil=>simp
 | cons f r ih=>
  have:=ih (List.pairwise_cons.1 hp).2;rw[List.filter_cons]
  split<;>simp<;>omega
set_option maxRecDepth 100000 in
theorem dx (w:World)(p b:Nat)(st:DkSt)(hcell:w.heap[p]?=some (.cells (st.cells b) 78 (0,0)))(hown:w.ownsMap Tryz.prog 9 cB b st.fs.length (fsD st.fs))(hfs:FsOk st.fs) :
  Calls Tryz.prog 27 #[.pointer (some ⟨p,0,none⟩)] w λe w'=>e = .returned (.int .i64 (cT st.fs:Int))∧Below w.heap.size w w':=by
 have H:=hid hown;have HS:=hid hfs;have c0:w.cell? ⟨p,0,none⟩=some (.map (some b)):=by rw[cell_of_row w p _ _ _ _ hcell];rfl
 have hap:=hid (dn hfs);have hul:=cV hfs;clear hown hfs hcell
 go_enter Tryz.func27,Tryz.ntmps27
 go_wp2_with (at_range;refine wpList_range_own _ rfl _ _ rfl 9 81 Tryz.strKey Tryz.underlying76 cB b st.fs.length (fsD st.fs) rfl H.out ?_;intro w0 hrg0 hg0 hs0;clear c0)
 go_frame
 go_loopw [3] (λx wr=>∃left cnt,x = .int .i64 (di st.fs left:Int)∧wr.ranges Tryz.prog 9 cB b w.heap.size st.fs.length (fsD st.fs) left cnt∧Below w.heap.size w wr) (λ_ wr=>wr.rangeLeft b w.heap.size)
 case atStart=>exact⟨_,_,by rw[dj];rfl,hrg0,⟨hg0.os,hg0.tape,hg0.output,hg0.size,λk hk=>hg0.block k hk (by simp)⟩⟩
 case round=>
  obtain⟨left,cnt,rfl,hrg,hbw⟩:=hrel;have hle:di st.fs left≤67108864:=Nat.le_trans (dw hap.out left) hul
  go_wp2_with (at_next;refine du _ rfl _ rfl b w.heap.size st.fs _ _ rfl hrg ?_ ?_)
  ·intro hl0
   have HE:=hid (dl st.fs hl0);go_wp2;go_ret;exact⟨aa (by rw[HE.out]),hbw⟩
  ·intro x f1 f2 f w1 cnt1 hget h1 h2 hlx hrg1 hlt hg1 hs1 hen
   have HG:=hid hget;have HST:=hid (dp hap.out hlx hget);have hsm:f1.size+f2.size≤1048576:=by
    rw[av h1,av h2];exact HS.out.small f (cS hget).2
   have HFS:=hid (show f1.size+f2.size=f.firm.length+f.pend.length from by rw[av h1,av h2]);clear hget h1 h2 hlx;have hnlt:di st.fs (λz=>left z && !z.sameKey (.string x.data.toList))≤67108864:=Nat.le_trans (dw hap.out _) hul;have hbw1:=hbw.grown hg1 hbw.size (λk e=>by cases e;exact Nat.le_refl _)
   go_wp2_with fail
   refine(dh _ f1 f2 (by omega)).mono ?_;rintro e w2 ⟨rfl,hb2⟩;have hrg2:=(hrg1.alloc (.cells #[.string f1,.string f2] 81)).kept (dr hb2 none) (by simp) (by simp);have hbw2:=(hbw1.alloc hbw1.size (.cells #[.string f1,.string f2] 81)).trans (hb2.mono (by simp;have:=hbw1.size;omega));go_wp2
   go_roundw
   case rel=>exact⟨_,cnt1,by rw[HST.out,← HFS.out];go_num,hrg2,hbw2⟩
   case measure=>rw[hrg2.left_eq,hrg.left_eq];exact hlt
theorem dy (w:World)(p b:Nat)(st:DkSt)(h:IsDk w p b st) :
  Calls Tryz.prog 27 #[.pointer (some ⟨p,0,none⟩)] w λe w'=>e = .returned (.int .i64 (cT st.fs:Int))∧Below w.heap.size w w':=dx w p b st h.cell h.own h.ok.fs
theorem dA {p:UInt8→Bool}:∀{l:List UInt8},l.all p=false→∃x r,l.dropWhile p=x::r∧p x=false
 | [],h=>by simp at h
 | a::l,h=>by
  cases ha:p a
  ·exact⟨a,l,by rw[List.dropWhile_cons,ha];rfl,ha⟩
  ·rw[List.all_cons,ha,Bool.true_and]at h
   obtain⟨x,r,h1,h2⟩:=dA h;exact⟨x,r,by rw[List.dropWhile_cons,ha];exact h1,h2⟩
theorem dB {p:UInt8→Bool}:∀{l:List UInt8},l.all p=true→l.dropWhile p=[]
 | [],_=>rfl
 | a::l,h=>by
  rw[List.all_cons,Bool.and_eq_true]at h;rw[List.dropWhile_cons,h.1];exact dB h.2
theorem dC (l cs:List UInt8):(Lib.trimS l cs=[])↔l.all (λc=>cs.contains c)=true:=by
 unfold Lib.trimS Lib.trimRightS Lib.trimLeftS;constructor
 ·intro h
  cases hall:l.all (λc=>cs.contains c)
  ·have hr:(l.reverse.all (λc=>cs.contains c))=false:=by
    rw[List.all_reverse];exact hall
   obtain⟨x,r,h1,h2⟩:=dA hr;rw[h1]at h;have hx:((x::r).reverse.all (λc=>cs.contains c))=false:=by
    rw[List.all_eq_false];exact⟨x,by simp,by simp only[h2];simp⟩
   obtain⟨y,q,h3,_⟩:=dA hx;rw[h3]at h;simp at h
  ·rfl
 ·intro h
  have hr:(l.reverse.all (λc=>cs.contains c))=true:=by rw[List.all_reverse];exact h
  rw[dB hr];rfl
set_option maxRecDepth 100000 in
theorem dD (s:ByteArray)(w:World)(hs:s.size≤9223372036854775807) :
  Calls Tryz.prog 26 #[.string s] w λe w'=>e = .returned (.bool (cU s.data.toList))∧Below w.heap.size w w':=by
 by_cases h1:1≤s.size
 ·by_cases h24:s.size≤24
  ·go_enter Tryz.func26,Tryz.ntmps26
   go_wp2_with fail
   refine(Any.strings_Trim_laid Tryz.lays160 (by kernel_rfl) s ⟨letters.toArray⟩ _ hs (by decide) (ascii_of_all (by decide))).mono ?_;rintro e w1 ⟨rfl,hb1⟩;go_wp2;go_ret;refine⟨aB ?_,hb1⟩;have e1:=dC s.data.toList letters;unfold cU;rw[am,decide_eq_true h1,decide_eq_true h24,Bool.true_and,Bool.true_and,Bool.eq_iff_iff,List.isEmpty_iff];exact e1
  ·have HM:=hid (show cU s.data.toList=false from by unfold cU;rw[am];simp[h24])
   go_enter Tryz.func26,Tryz.ntmps26
   go_wp2;go_ret;exact⟨aB HM.out.symm,Below.refl _ _⟩
 ·have HM:=hid (show cU s.data.toList=false from by unfold cU;rw[am];simp[h1])
  go_enter Tryz.func26,Tryz.ntmps26
  go_wp2;go_ret;exact⟨aB HM.out.symm,Below.refl _ _⟩
end
end Go.Proofs.YtaeakdichkhjaaaGreatDoor
