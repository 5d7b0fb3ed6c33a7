/- A disk as the walks see it: files by rising names, a capacity, how many are done still, and whether the power is gone; and the map that holds them. -/
import Derived.Test.YtaeakdichkhjaaaGreatDoorQAc
import Derived.Laws.StructEq
import Derived.RangeFuncBound
import Derived.RangeFuncCalls
import Derived.Shelf.Abstract
import Derived.Shelf.RegionOpen
import Derived.OwnWalkIn
import Derived.TacticsInMore
import Derived.LoopNIn
import Derived.LoopIn
import Derived.BigRegionIn
import Derived.Sort.CutIn
import Derived.Maps.OwnSet
import Derived.Carry
import Derived.Test.YtaeakdichkhjaaaGreatDoorChecked
import Derived.Test.YtaeakdichkhjaaaGreatDoorQAa
import Derived.Maps.OwnOps
import Derived.Maps.RangeWalk
import Derived.Maps.Ext
import Derived.Deep.QuietTactic
import Derived.BigQuiet
set_option maxHeartbeats 4000000
open Go.Lib(hid)
namespace Go.Proofs.YtaeakdichkhjaaaGreatDoor
section
open Go.RowKit
theorem dg {P:Program}{k:IntKind}(t e:TypeId)(n:Nat)(xs:Array Value)(ht:P.underlying t=some (.array n e))(he:P.underlying e=some (.int k))(hz:∀w,(sizeOf e).run P w = .ok 1 w)(ha:∀w,(isAgg e).run P w = .ok false w)
  (hx:∀i,i<n→∃a,xs[i]?=some (.int k a)) (d:Nat) (w:World):(Op.equalIn (d+1+1) t (.agg xs) (.agg xs)).run P w = .ok true w:=by
 have hpart:∀i,i<n→∀w,∃a,(part e xs i).run P w = .ok (.int k a) w:=λi hi w=>by
  obtain⟨a,h⟩:=hx i hi;exact⟨a,by unfold part;simp[ha,h]⟩
 rw[Op.equalIn];simp only[Sem.run_bind,run_underlying ht,Result.andThen_ok,hz,Std.Legacy.Range.forIn_eq_forIn_range',Std.Legacy.Range.size];have hl:∀i∈List.range' 0 ((n-0+1-1) / 1) 1,i<n:=λi hi=>by
  rw[List.mem_range']at hi;obtain⟨j,h1,h2⟩:=hi;omega
 generalize List.range' 0 ((n-0+1-1) / 1) 1=l at hl ⊢
 induction l with
 | nil=>simp
 | cons i l ih=>
  obtain⟨a,h⟩:=hpart i (hl i (by simp)) w;rw[List.forIn_cons];simp only[Sem.run_bind,Nat.mul_one,h,Result.andThen_ok];rw[run_equalIn_int w d e k k a a he];have:=ih (λj hj=>hl j (by simp[hj]));simp only[Nat.mul_one]at this;simpa using this
theorem dh {w w1:World}{C:Array Value}{T:TypeId}(hb:Below (w.alloc (.cells C T)).heap.size (w.alloc (.cells C T)) w1)(j:Nat)(v:Value)(h:C[j]?=some v):w1.cell? ⟨w.heap.size,j,none⟩=some v:=by
 rw[hb.cell (by simp),World.cell?_alloc_at _ _ _ _ rfl];exact h
theorem di {w w1:World}{o:Obj}(hb:Below (w.alloc o).heap.size (w.alloc o) w1):Below w.heap.size w w1:=((Below.refl _ _).alloc (Nat.le_refl _) _).trans (hb.mono (by simp))
theorem dj {a b c:World}(h:Below a.heap.size a b)(k:Below b.heap.size b c):Below a.heap.size a c:=h.trans (k.mono h.size)
def stV (c f a b:Int):Value:=.agg #[.int .i64 c,.int .i64 f,.int .i64 a,.int .i64 b,.slice none 0 0,.slice none 0 0,.slice none 0 0,.slice none 0 0,.slice none 0 0]
def dl:Value:=.agg #[.slice none 0 0,.slice none 0 0,.slice none 0 0,.slice none 0 0]
theorem dm (w:World)(n l h:Int)(h0:l≤n)(h1:n≤h):Calls Tryz.prog 281 #[.int .i64 n,.int .i64 l,.int .i64 h] w λe w'=>e = .returned (.bool true)∧w=w':=by
 go_enter Tryz.func281,Tryz.ntmps281
 go_wp2;go_ret;exact⟨rfl,rfl⟩
theorem dn (w:World)(n:Int)(h0:1≤n)(h1:n≤1099511627777):Calls Tryz.prog 280 #[.int .i64 n] w λe w'=>e = .returned (.bool true)∧w=w':=by
 go_enter Tryz.func280,Tryz.ntmps280
 go_wp2_with fail
 refine(dm w n 1 1099511627777 h0 h1).mono ?_;rintro e w1 ⟨rfl,rfl⟩;go_wp2;go_ret;exact⟨rfl,rfl⟩
set_option maxRecDepth 100000 in
theorem dp (w:World)(c:Int)(h0:0≤c)(h1:c≤1000):Calls Tryz.prog 256 #[stV c 0 1 1] w λe w'=>e = .returned (.bool true)∧Below w.heap.size w w':=by
 unfold stV;have hmf:∀(fn:Fn) (first cap:Array Value) (w:World),(Instr.makeFunc fn first cap).run Tryz.prog w = .ok (.func fn first cap) w:=λ_ _ _ _=>rfl;have he:∀(args:Array Value) (w:World),(callFunc 280 args).run Tryz.prog w = .ok (.enter 280 args) w:=enters_of Tryz.func280 (by kernel_rfl) rfl
 go_enter Tryz.func256,Tryz.ntmps256
 go_wp2_with fail
 refine(dm _ c 0 1099511627776 (by omega) (by omega)).mono ?_;rintro e w1 ⟨rfl,rfl⟩
 go_wp2_with fail
 refine(dm _ 0 0 1000 (by omega) (by omega)).mono ?_;rintro e w1 ⟨rfl,rfl⟩
 go_wp2_with fail
 refine(dn _ 1 (by omega) (by omega)).mono ?_;rintro e w1 ⟨rfl,rfl⟩
 go_wp2_with fail
 refine(dn _ 1 (by omega) (by omega)).mono ?_;rintro e w1 ⟨rfl,rfl⟩;go_wp2;go_ret;exact⟨rfl,(Below.refl _ _).alloc (Nat.le_refl _) _⟩
set_option maxRecDepth 100000 in
theorem dr (w:World)(c f a b:Int):Calls Tryz.prog 257 #[stV c f a b] w λe w'=>e = .returned (.bool true)∧Below w.heap.size w w':=by
 unfold stV
 go_enter Tryz.func257,Tryz.ntmps257
 go_wp2
 go_loopw [3,9] (λl i wr=>l = .slice none 0 0∧i = .int .i64 0∧Hid (Below w.heap.size w wr)) (λ_ _ _=>0)
 case atStart=>exact⟨rfl,rfl,hid ((Below.refl _ _).alloc (Nat.le_refl _) _)⟩
 case round=>
  obtain⟨rfl,rfl,HB⟩:=hrel
  go_wp2_with fail
  refine(df _).mono ?_;rintro e w1 ⟨rfl,rfl⟩;go_wp2;go_ret;exact⟨rfl,HB.out⟩
set_option maxRecDepth 100000 in
theorem dt (w:World)(c f a b:Int):Calls Tryz.prog 258 #[stV c f a b] w λe w'=>e = .returned (.bool true)∧Below w.heap.size w w':=by
 unfold stV
 go_enter Tryz.func258,Tryz.ntmps258
 go_wp2
 go_loopw [3,9] (λl i wr=>l = .slice none 0 0∧i = .int .i64 0∧Hid (Below w.heap.size w wr)) (λ_ _ _=>0)
 case atStart=>exact⟨rfl,rfl,hid ((Below.refl _ _).alloc (Nat.le_refl _) _)⟩
 case round=>
  obtain⟨rfl,rfl,HB⟩:=hrel
  go_wp2_with fail
  refine(df _).mono ?_;rintro e w1 ⟨rfl,rfl⟩;go_wp2;go_ret;exact⟨rfl,HB.out⟩
set_option maxRecDepth 100000 in
theorem du (w:World):Calls Tryz.prog 285 #[.slice none 0 0] w λe w'=>e = .returned (.bool true)∧Below w.heap.size w w':=by
 have hq:∀w,(binOp .eql 391 (.agg #[.int .i64 0,.int .i64 0,.int .i64 0,.int .i64 0,.int .i64 0,.int .i64 0,.int .i64 0,.int .i64 0,.int .i64 0,.int .i64 0,.int .i64 0,.int .i64 0,.int .i64 0,.int .i64 0,.int .i64 0,.int .i64 0,.int .i64 0]) (.agg #[.int .i64 0,.int .i64 0,.int .i64 0,.int .i64 0,.int .i64 0,.int .i64 0,.int .i64 0,.int .i64 0,.int .i64 0,.int .i64 0,.int .i64 0,.int .i64 0,.int .i64 0,.int .i64 0,.int .i64 0,.int .i64 0,.int .i64 0])).run Tryz.prog w = .ok (.bool true) w:=λw=>by
  rw[run_eql_struct,dg 391 2 17 _ Tryz.underlying391 Tryz.underlying2 (Tryz.sizeOf2) (Tryz.isAgg2) (λi hi=>⟨0,by
   rcases(show i=0∨i=1∨i=2∨i=3∨i=4∨i=5∨i=6∨i=7∨i=8∨i=9∨i=10∨i=11∨i=12∨i=13∨i=14∨i=15∨i=16 from by omega)with rfl|rfl|rfl|rfl|rfl|rfl|rfl|rfl|rfl|rfl|rfl|rfl|rfl|rfl|rfl|rfl|rfl<;>rfl⟩) 9998 w]
  rfl
 go_enter Tryz.func285,Tryz.ntmps285
 go_wp2
 go_loopw [13] (λi wr=>i = .int .i64 0∧Hid (Below w.heap.size w wr)∧Hid (∀j,j<17→wr.cell? ⟨w.heap.size+1,j,none⟩=some (.int .i64 0))) (λ_ _=>0)
 case atStart=>
  refine⟨rfl,hid (((Below.refl _ _).alloc (Nat.le_refl _) _).alloc (by simp) _),hid (λj hj=>?_)⟩;rw[World.cell?_alloc_at _ _ _ _ (by simp)]
  rcases(show j=0∨j=1∨j=2∨j=3∨j=4∨j=5∨j=6∨j=7∨j=8∨j=9∨j=10∨j=11∨j=12∨j=13∨j=14∨j=15∨j=16 from by omega)with rfl|rfl|rfl|rfl|rfl|rfl|rfl|rfl|rfl|rfl|rfl|rfl|rfl|rfl|rfl|rfl|rfl<;>rfl
 case round=>
  obtain⟨rfl,HB,HC⟩:=hrel;have x0:=HC.out 0 (by omega);have x1:=HC.out 1 (by omega);have x2:=HC.out 2 (by omega);have x3:=HC.out 3 (by omega);have x4:=HC.out 4 (by omega);have x5:=HC.out 5 (by omega);have x6:=HC.out 6 (by omega);have x7:=HC.out 7 (by omega);have x8:=HC.out 8 (by omega);have x9:=HC.out 9 (by omega);have x10:=HC.out 10 (by omega);have x11:=HC.out 11 (by omega);have x12:=HC.out 12 (by omega);have x13:=HC.out 13 (by omega);have x14:=HC.out 14 (by omega);have x15:=HC.out 15 (by omega);have x16:=HC.out 16 (by omega);go_wp2;go_ret;exact⟨rfl,HB.out⟩
set_option maxRecDepth 100000 in
theorem dw (w:World):Calls Tryz.prog 289 #[.slice none 0 0] w λe w'=>e = .returned (.bool true)∧Below w.heap.size w w':=by
 go_enter Tryz.func289,Tryz.ntmps289
 go_wp2_with fail
 refine(cU w _).mono ?_;rintro e w1 ⟨rfl,rfl⟩;go_wp2
 go_loopw [17] (λi wr=>i = .int .i64 0∧Hid (Below w.heap.size w wr)) (λ_ _=>0)
 case atStart=>exact⟨rfl,hid (Below.refl _ _)⟩
 case round=>
  obtain⟨rfl,HB⟩:=hrel;go_wp2;go_ret;exact⟨rfl,HB.out⟩
set_option maxRecDepth 100000 in
theorem dx (w:World):Calls Tryz.prog 295 #[.slice none 0 0] w λe w'=>e = .returned (.bool true)∧Below w.heap.size w w':=by
 go_enter Tryz.func295,Tryz.ntmps295
 go_wp2
 go_loopw [8] (λi wr=>i = .int .i64 0∧Hid (Below w.heap.size w wr)) (λ_ _=>0)
 case atStart=>exact⟨rfl,hid (Below.refl _ _)⟩
 case round=>
  obtain⟨rfl,HB⟩:=hrel;go_wp2;go_ret;exact⟨rfl,HB.out⟩
set_option maxRecDepth 100000 in
theorem dy (w:World)(c f a b:Int):Calls Tryz.prog 259 #[stV c f a b] w λe w'=>e = .returned (.bool true)∧Below w.heap.size w w':=by
 unfold stV;have hmf:∀(fn:Fn) (first cap:Array Value) (w:World),(Instr.makeFunc fn first cap).run Tryz.prog w = .ok (.func fn first cap) w:=λ_ _ _ _=>rfl
 go_enter Tryz.func259,Tryz.ntmps259
 go_wp2_with fail
 refine(du _).mono ?_;rintro e w1 ⟨rfl,hb1⟩;have c1:=dh hb1 6 _ rfl;have HB:=hid (di hb1);clear hb1
 go_wp2_with fail
 refine(cS _ _).mono ?_;rintro e w2 ⟨rfl,rfl⟩;go_wp2;go_ret;exact⟨rfl,HB.out⟩
set_option maxRecDepth 100000 in
theorem dA (w:World)(c f a b:Int):Calls Tryz.prog 260 #[stV c f a b] w λe w'=>e = .returned (.bool true)∧Below w.heap.size w w':=by
 unfold stV;have hmf:∀(fn:Fn) (first cap:Array Value) (w:World),(Instr.makeFunc fn first cap).run Tryz.prog w = .ok (.func fn first cap) w:=λ_ _ _ _=>rfl
 go_enter Tryz.func260,Tryz.ntmps260
 go_wp2_with fail
 refine(dw _).mono ?_;rintro e w1 ⟨rfl,hb1⟩;have c1:=dh hb1 7 _ rfl;have HB:=hid (di hb1);clear hb1
 go_wp2_with fail
 refine(cU _ _).mono ?_;rintro e w2 ⟨rfl,rfl⟩;go_wp2;go_ret;exact⟨rfl,HB.out⟩
set_option maxRecDepth 100000 in
theorem dB (w:World)(c f a b:Int):Calls Tryz.prog 261 #[stV c f a b] w λe w'=>e = .returned (.bool true)∧Below w.heap.size w w':=by
 unfold stV;have hmf:∀(fn:Fn) (first cap:Array Value) (w:World),(Instr.makeFunc fn first cap).run Tryz.prog w = .ok (.func fn first cap) w:=λ_ _ _ _=>rfl
 go_enter Tryz.func261,Tryz.ntmps261
 go_wp2_with fail
 refine(dx _).mono ?_;rintro e w1 ⟨rfl,hb1⟩;have c1:=dh hb1 8 _ rfl;have HB:=hid (di hb1);clear hb1
 go_wp2_with fail
 refine(cW _ _).mono ?_;rintro e w2 ⟨rfl,rfl⟩;go_wp2;go_ret;exact⟨rfl,HB.out⟩
end
section
open Go.RowKit Go.Shelf
attribute [local go_sem] Oper.semAt_some
def stC (c f a b:Int):Array Value:=#[.int .i64 c,.int .i64 f,.int .i64 a,.int .i64 b,.slice none 0 0,.slice none 0 0,.slice none 0 0,.slice none 0 0,.slice none 0 0]
theorem dC (c f a b:Int)(w:World) :
  Calls Tryz.prog 297 #[stV c f a b] w λe w'=>e = .returned (.func (.func 330) #[] #[.pointer (some ⟨w.heap.size,0,none⟩)])∧w'=w.alloc (.cells (stC c f a b) 29):=by
 unfold stV stC;have hmf:∀(fn:Fn) (first cap:Array Value) (w:World),(Instr.makeFunc fn first cap).run Tryz.prog w = .ok (.func fn first cap) w:=λ_ _ _ _=>rfl
 go_enter Tryz.func297,Tryz.ntmps297
 go_wp2;go_ret;exact⟨rfl,rfl⟩
def dD (x:Int×Int×Int):Array Value:=#[.agg #[.int .i64 x.1,.int .i64 x.2.1],.int .i64 x.2.2]
set_option maxRecDepth 100000 in
theorem dE (w:World)(sB:Nat)(c f a b:Int)(hs:w.heap[sB]?=some (.cells (stC c f a b) 29 (0,0))) :
  cM (λ_=>True) Fence.wide 5 Tryz.prog 330 #[.pointer (some ⟨sB,0,none⟩)] dD (λ_=>False) (λ_ _=>True) (λ_ _=>True) (λxs=>xs=[]) (λ_=>False) 0 w:=by
 intro y J Jx W hW _ hJ hJx hY h0;have hs2:=(hW.block _ (lt_of_block hs)).trans hs;have c7:W.cell? ⟨sB,7,none⟩=some (.slice none 0 0):=(cell_of_row _ _ _ _ _ _ hs2).trans rfl;have c8:W.cell? ⟨sB,8,none⟩=some (.slice none 0 0):=(cell_of_row _ _ _ _ _ _ hs2).trans rfl;have HH:=hid h0;clear hW hs hJ hJx hY h0 hs2;refine callsIn_of_wp Tryz.func330 rfl trivial ?_ rfl;simp only[Tryz.ntmps330,List.size_toArray,List.length_cons,List.length_nil,Nat.reduceAdd,Nat.reduceSub,Array.replicate_succ,Array.replicate_zero,List.push_toArray,List.append_toArray,List.nil_append,List.cons_append]
 gi_wp2
 gi_loopw [14] (λi wr=>i = .int .i64 0∧wr=W) (λ_ _=>0)
 case atStart=>exact⟨rfl,rfl⟩
 case round=>
  obtain⟨rfl,rfl⟩:=hrel
  gi_wp2
  gi_loopw [39] (λi wr2=>i = .int .i64 0∧wr2=wr) (λ_ _=>0)
  case atStart=>exact⟨rfl,rfl⟩
  case round=>
   obtain⟨rfl,rfl⟩:=hrel
   gi_wp2
   go_end0
   exact⟨⟨_,rfl⟩,.inl ⟨[],rfl,HH.out⟩⟩
theorem dF {w:World}{b:Nat}(h:w.heap[b]?=some (.map #[] 0))(ty:TypeId):(Builtin.len_ #[367] ty #[.map (some b)]).run Tryz.prog w = .ok (.int .i64 0) w:=by
 simp[Builtin.len_,run_underlying Tryz.underlying367,MapKept.run_getObj_map h,goInt,Result.andThen]
structure HeldAt (w W:World) (b:Nat) (c f a d:Int):Prop where
 st:W.heap[b]?=some (.cells (stC c f a d) 29 (0,0))
 mp:W.heap[b+1]?=some (.map #[] 0)
 box:W.heap[b+2]?=some (.cells #[.map (some (b+1))] 367 (0,0))
 below:Below b w W
theorem HeldAt.fr {w W W':World}{b:Nat}{c f a d:Int}{S:Nat→Prop}(h:HeldAt w W b c f a d)(hf:Fr S W W')(hS:∀k,k<b+3→¬S k):HeldAt w W' b c f a d:=
 ⟨hf.heapAt h.st (hS _ (by omega)),hf.heapAt h.mp (hS _ (by omega)),hf.heapAt h.box (hS _ (by omega)),h.below.trans (hf.below (B:=b) (by have:=lt_of_block h.st;omega) (λk hk=>hS k (by omega)))⟩
set_option maxRecDepth 100000 in
theorem dG (w:World)(c f a d:Int):Calls Tryz.prog 262 #[stV c f a d] w λe w'=>e = .returned (.bool true)∧Below w.heap.size w w':=by
 have hst:stV c f a d = .agg (stC c f a d):=rfl;have hmm:=@run_makeMap Tryz.prog;refine(callsIn_wide (n:=6)).1 ?_;unfold stV;refine callsIn_of_wp_marks Tryz.func262 rfl trivial ?_ rfl;simp only[Tryz.ntmps262,List.size_toArray,List.length_cons,List.length_nil,Nat.reduceAdd,Nat.reduceSub,Array.replicate_succ,Array.replicate_zero,List.push_toArray,List.append_toArray,List.nil_append,List.cons_append]
 gi_wp2_with fail
 refine⟨trivial,?_⟩;refine(callsIn_wide.2 (dC c f a d _)).mono ?_;rintro e w1 ⟨rfl,rfl⟩
 gi_wp2
 obtain⟨b,hb⟩:∃b,b=w.heap.size:=⟨_,rfl⟩;obtain⟨W0,hW0⟩:∃W0,W0=(((w.alloc (.cells #[.int .i64 c,.int .i64 f,.int .i64 a,.int .i64 d,.slice none 0 0,.slice none 0 0,.slice none 0 0,.slice none 0 0,.slice none 0 0] 29)).alloc (.map #[] 0)).alloc (.cells #[.map (some (w.heap.size+1))] 367)).alloc (.cells (stC c f a d) 29):=⟨_,rfl⟩;have hsz:W0.heap.size=b+4:=by rw[hW0,hb];simp
 have k0:W0.heap[b]?=some (.cells (stC c f a d) 29 (0,0)):=by rw[hW0,hb];exact(Below.heap_alloc _ _ _ (by simp<;>omega)).trans ((Below.heap_alloc _ _ _ (by simp<;>omega)).trans ((Below.heap_alloc _ _ _ (by simp<;>omega)).trans (heap_alloc_new _ _)))
 have k1:W0.heap[b+1]?=some (.map #[] 0):=by rw[hW0,hb];exact(Below.heap_alloc _ _ _ (by simp<;>omega)).trans ((Below.heap_alloc _ _ _ (by simp<;>omega)).trans (cK _ _ (by simp)))
 have k2:W0.heap[b+1+1]?=some (.cells #[.map (some (b+1))] 367 (0,0)):=by rw[hW0,hb];exact(Below.heap_alloc _ _ _ (by simp<;>omega)).trans (cK _ _ (by simp))
 have k3:W0.heap[b+1+1+1]?=some (.cells (stC c f a d) 29 (0,0)):=by rw[hW0,hb];exact cK _ _ (by simp)
 have hbel:Below b w W0:=by rw[hW0,hb];exact((((Below.refl _ _).alloc (Nat.le_refl _) _).alloc (by simp) _).alloc (by simp<;>omega) _).alloc (by simp<;>omega) _
 have hat:HeldAt w W0 b c f a d:=⟨k0,k1,k2,hbel⟩;have K3:=hid k3;have HAT:=hid hat;have HB:=hid hb;rw[← hW0,← hb];clear hW0 hb k0 k1 k2 k3 hbel hat hmm hst;refine cO (n:=6) rfl (by omega) (gf:=330) rfl trivial (enters_of Tryz.func330 (by kernel_rfl) rfl) (dE W0 (b+1+1+1) c f a d K3.out) ⟨λh=>h,λh=>h⟩ (λ_ _=>trivial) (λ_ _ _=>trivial) (λ_ _=>trivial) (λ_ _ _ _=>trivial) (λ_=>rfl)
  (λpre W=>pre=[]∧HeldAt w W b c f a d) (λ_ _ _=>False) ?bears (λ_ _ _ _ h _=>h) ⟨rfl,HAT.out⟩ (λ_ _ _ _=>True) (λ_ _ _ _ _ _ _=>trivial) ?assign ?body ?done ?stop
 case bears=>exact λpre A B h hf=>⟨h.1,h.2.fr hf (λk hk e=>by rcases e with e|e|e;exact e;omega;omega)⟩
 case assign=>
  intro pre x W K _ hlt hI hK;have HK:=hid hK;clear hI hK;unfold dD
  gi_wp2
  exact HK.out _ _ trivial (RgIn.fr ((Fr.refl (λ_=>False) W).alloc _) hlt (λh=>h) (λh=>h)) (by simp) trivial
 case body=>exact λ_ _ _ _ _ _ _ h=>absurd h (Nat.not_lt_zero _)
 case done=>
  rintro xs W _ ⟨_,hat⟩ hK;have x6:W.cell? ⟨b,6,none⟩=some (.slice none 0 0):=(cell_of_row _ _ _ _ _ _ hat.st).trans rfl;have m0:W.cell? ⟨b+1+1,0,none⟩=some (.map (some (b+1))):=(cell_of_row _ _ _ _ _ _ hat.box).trans rfl;have hl:=λty=>dF hat.mp ty;have HK:=hid hK;have HA:=hid hat;clear hK hat
  gi_wp2
  gi_loopw [24] (λi wr=>i = .int .i64 0∧wr=W) (λ_ _=>0)
  case atStart=>exact⟨rfl,rfl⟩
  case round=>
   obtain⟨rfl,rfl⟩:=hrel
   gi_wp2
   refine⟨by simp,.inl ⟨_,_,rfl,run_takeDeferred HK.out,?_⟩⟩;refine⟨_,results_tmp rfl _ _ _,rfl,?_⟩;have hlt:=lt_of_block HA.out.st;rw[← HB.out];exact HA.out.below.trans (((Fr.refl (λk=>k=W0.heap.size) wr).putObj _ (λ_=>rfl) _).below (B:=b) (by omega) (λk hk e=>by omega))
 case stop=>
  rintro c pre W _ h _;exact h.elim
end
section
open Go.RowKit Go.Maps
structure FileS where
 name:List UInt8
 firm:List UInt8
 pend:List UInt8
deriving DecidableEq
abbrev Fs:=List FileS
def dH (f:FileS):DataW Unit:=.agg [.lit (.string f.firm),.lit (.string f.pend)]
def dI (f:FileS):Lit×DataW Unit:=(.string f.name,dH f)
def fsD (fs:Fs):DataW Unit:=.map (fs.map dI)
def dJ (v:Value):Option (DataW Unit×List MemPlace):=
 match v with
 | .agg cs=>match cs.toList with
  | [.string a,.string b]=>some (.agg [.lit (.string a.data.toList),.lit (.string b.data.toList)],[])
  | _=>none
 | _=>none
def dK (a b:ByteArray):Value:=.agg #[.string a,.string b]
theorem dL (a b:ByteArray):dJ (dK a b)=some (.agg [.lit (.string a.data.toList),.lit (.string b.data.toList)],[]):=rfl
theorem dM {v:Value}{y:DataW Unit×List MemPlace}(h:dJ v=some y):∃c:ByteArray×ByteArray,v=dK c.1 c.2:=by
 unfold dJ at h
 split at h
 ·rename_i cs
  split at h
  ·rename_i a b hcs
   refine⟨(a,b),?_⟩;show Value.agg cs = .agg #[.string a,.string b];rw[show cs=#[Value.string a,.string b]from Array.ext' hcs]
  ·cases h
 ·cases h
theorem dN {v:Value}{f:FileS}{ps:List MemPlace}(h:dJ v=some (dH f,ps)):∃a b:ByteArray,v=dK a b∧a.data.toList=f.firm∧b.data.toList=f.pend:=by
 obtain⟨⟨a,b⟩,rfl⟩:=dM h;rw[dL]at h;simp only[Option.some.injEq,Prod.mk.injEq,dH,DataW.agg.injEq,List.cons.injEq,DataW.lit.injEq,Lit.string.injEq]at h;exact⟨a,b,rfl,h.1.1,h.1.2.1⟩
def dO (f:FileS):Fs→Fs
 | []=>[f]
 | g::r=>if bytesBefore f.name g.name then f::g::r else g::dO f r
def dP (fs:Fs)(n:List UInt8):Fs:=fs.filter λg=>!(g.name == n)
def dQ (fs:Fs)(f:FileS):Fs:=dO f (dP fs f.name)
def dR (fs:Fs)(n:List UInt8):Option FileS:=fs.find? λg=>g.name == n
theorem dS (f:FileS)(fs:Fs):DataW.insert (dI f) (fs.map dI)=(dO f fs).map dI:=by
 induction fs with
 | nil=>rfl
 | cons g r ih=>
  show(if bytesBefore f.name g.name then _ else _)=_;unfold dO
  split
  ·rfl
  ·simp only[List.map_cons,ih]
theorem dT (fs:Fs)(n:List UInt8):(fs.map dI).filter (λp=>!p.1.sameKey (.string n))=(dP fs n).map dI:=by
 unfold dP;rw[List.filter_map];rfl
theorem dU (fs:Fs)(n:List UInt8):(fsD fs).del (.string n)=fsD (dP fs n):=by
 show DataW.map _=DataW.map _;rw[dT]
theorem dV (fs:Fs)(f:FileS):(fsD fs).put (.string f.name) (dH f)=fsD (dQ fs f):=by
 show DataW.map (DataW.insert (dI f) _)=DataW.map _;rw[dT,dS];rfl
theorem dW (fs:Fs)(n:List UInt8):(fs.map dI).find? (λp=>p.1.sameKey (.string n))=(dR fs n).map dI:=by
 unfold dR;rw[List.find?_map];rfl
theorem dX (fs:Fs)(n:List UInt8)(z:DataW Unit):(fsD fs).atKey (.string n) z=match dR fs n with|some f=>dH f|none=>z:=by
 unfold DataW.atKey fsD;simp only[dW];cases dR fs n<;>rfl
theorem dY (fs:Fs)(n:List UInt8):Maps.has (fsD fs) (.string n)=(dR fs n).isSome:=by
 show(fs.map dI).any (λp=>p.1.sameKey (.string n))=_;unfold dR
 induction fs with
 | nil=>rfl
 | cons f r ih=>
  simp only[List.map_cons,List.any_cons,List.find?_cons,ih];show((f.name == n) || _)=_;cases f.name == n<;>rfl
theorem dZ (fs:Fs):Maps.size (fsD fs)=fs.length:=by show(fs.map dI).length=_;simp
theorem d9 {fs:Fs}{n:List UInt8}{f:FileS}(h:dR fs n=some f):f.name=n∧f∈fs:=by
 unfold dR at h;exact⟨by simpa using List.find?_some h,List.mem_of_find?_eq_some h⟩
def ec (fs:Fs):Nat:=(fs.map λf=>f.firm.length+f.pend.length).sum
def letters:List UInt8:=[97,98,99,100,101,102,103,104,105,106,107,108,109,110,111,112,113,114,115,116,117,118,119,120,121,122,65,66,67,68,69,70,71,72,73,74,75,76,77,78,79,80,81,82,83,84,85,86,87,88,89,90,48,49,50,51,52,53,54,55,56,57,45,95,46]
def ed (n:List UInt8):Bool:=decide (1≤n.length) && decide (n.length≤24) && n.all (λc=>letters.contains c)
structure DkSt where
 fs:Fs
 cap:Int
 left:Int
 dark:Bool
structure FsOk (fs:Fs):Prop where
 sorted:fs.Pairwise (λf g=>bytesBefore f.name g.name=true)
 few:fs.length≤64
 small:∀f∈fs,f.firm.length+f.pend.length≤1048576
 names:∀f∈fs,f.name.length≤24
structure DkOk (st:DkSt):Prop where
 fs:FsOk st.fs
 cap0:0≤st.cap
 cap1:st.cap≤9223372036854775807
 fits:(ec st.fs:Int)≤st.cap
 left0 : -1≤st.left
 left1:st.left≤9223372036854775807
def DkSt.cells (st:DkSt)(b:Nat):Array Value:=#[.map (some b),.int .i64 st.cap,.int .i64 st.left,.bool st.dark]
structure IsDk (w:World) (p b:Nat) (st:DkSt):Prop where
 cell:w.heap[p]?=some (.cells (st.cells b) 78 (0,0))
 own:w.ownsMap Tryz.prog 9 dJ b st.fs.length (fsD st.fs)
 ok:DkOk st
theorem ee {fs:Fs}(h:FsOk fs):ec fs≤67108864:=by
 have:∀(l:Fs),(∀f∈l,f.firm.length+f.pend.length≤1048576)→ec l≤l.length*1048576:=by
  intro l
  induction l with
  | nil=>intro _;simp[ec]
  | cons f l ih=>
   intro h;have h1:=h f (by simp);have h2:=ih (λg hg=>h g (by simp[hg]));simp only[ec,List.map_cons,List.sum_cons,List.length_cons]at h2 ⊢;omega
 have h1:=this fs h.small;have h2:=h.few;omega
theorem IsDk.lt {w:World}{p b:Nat}{st:DkSt}(h:IsDk w p b st):p<w.heap.size:=lt_of_block h.cell
theorem IsDk.ne {w:World}{p b:Nat}{st:DkSt}(h:IsDk w p b st):b≠p:=by
 intro e;obtain⟨es,clock,hb,_⟩:=h.own;have hc:=h.cell;rw[e,hc]at hb;cases hb
theorem IsDk.cs {w:World}{p b:Nat}{st:DkSt}(h:IsDk w p b st) :
  w.cell? ⟨p,0,none⟩=some (.map (some b))∧w.cell? ⟨p,1,none⟩=some (.int .i64 st.cap)∧w.cell? ⟨p,2,none⟩=some (.int .i64 st.left)∧w.cell? ⟨p,3,none⟩=some (.bool st.dark):=by
 refine⟨?_,?_,?_,?_⟩<;>rw[cell_of_row w p _ _ _ _ h.cell]<;>rfl
theorem IsDk.fz {w:World}{p b:Nat}{st:DkSt}(h:IsDk w p b st)(j:Nat):w.frozen? ⟨p,j,none⟩=false:=frozen_of_row w p j _ _ h.cell
theorem ef {S:Nat→Prop}{w w':World}{P:Program}{k:TypeId}{R:Value→Option (DataW Unit×List MemPlace)}{b n:Nat}{D:DataW Unit}(h:w.ownsMap P k R b n D)(hf:Fr S w w')(hb:¬S b):w'.ownsMap P k R b n D:=by
 obtain⟨es,clock,hh,r⟩:=h;exact⟨es,clock,hf.heapAt hh hb,r⟩
theorem eh {w:World}{P:Program}{k:TypeId}{R:Value→Option (DataW Unit×List MemPlace)}{b n:Nat}{D:DataW Unit}(h:w.ownsMap P k R b n D):w.ownsMap P k R b (Maps.size D) D:=by
 obtain⟨es,clock,hh,F,_,rfl⟩:=h;exact⟨es,clock,hh,F,by simp[Maps.size,length_sorted],rfl⟩
theorem IsDk.kept {S:Nat→Prop}{w w':World}{p b:Nat}{st:DkSt}(h:IsDk w p b st)(hf:Fr S w w')(hp:¬S p)(hb:¬S b):IsDk w' p b st:=
 ⟨hf.heapAt h.cell hp,ef h.own hf hb,h.ok⟩
theorem IsDk.pure {w w':World}{p b:Nat}{st:DkSt}(h:IsDk w p b st)(hb:Below w.heap.size w w'):IsDk w' p b st:=h.kept (Fr.pure (S:=λ_=>False) hb) (λhf=>hf) (λhf=>hf)
theorem IsDk.drewN {w:World}{p b:Nat}{st:DkSt}(h:IsDk w p b st)(n:Nat):IsDk (w.drewN n) p b st:=⟨h.cell,h.own,h.ok⟩
theorem Tryz.strKey:Keyed Tryz.prog 9:=string_keyed Tryz.underlying9
theorem Tryz.zeroFile (w:World):(zeroValue 81).run Tryz.prog w = .ok (dK ⟨#[]⟩ ⟨#[]⟩) w:=by kernel_rfl
theorem ei (w:World)(p b:Nat)(st:DkSt)(h:IsDk w p b st) :
  Calls Tryz.prog 53 #[.pointer (some ⟨p,0,none⟩)] w λe w'=>e = .returned (.int .i64 (if st.dark then 45 else 0))∧w=w':=by
 obtain⟨c0,c1,c2,c3⟩:=h.cs;clear h;cases hd:st.dark<;>rw[hd]at c3<;>clear hd
 ·go_enter Tryz.func53,Tryz.ntmps53
  go_wp2;go_ret;exact⟨rfl,rfl⟩
 ·go_enter Tryz.func53,Tryz.ntmps53
  go_wp2;go_ret;exact⟨rfl,rfl⟩
def ej (w:World)(st:DkSt)(n:List UInt8)(e:Ending)(w':World):Prop:=
 Below w.heap.size w w'∧∃a b:ByteArray,
  (if st.dark then a.data.toList=[]∧b.data.toList=[]∧e = .returned (.tuple #[dK a b,.int .i64 45])
   else match dR st.fs n with
   | none=>a.data.toList=[]∧b.data.toList=[]∧e = .returned (.tuple #[dK a b,.int .i64 5])
   | some f=>a.data.toList=f.firm∧b.data.toList=f.pend∧e = .returned (.tuple #[dK a b,.int .i64 0]))
def el (fs:Fs)(n:List UInt8)(a b:ByteArray):Prop:=
 match dR fs n with
 | some f=>a.data.toList=f.firm∧b.data.toList=f.pend
 | none=>a.data.toList=[]∧b.data.toList=[]
theorem en {fs:Fs}{n:List UInt8}{v:Value}{ps:List MemPlace}(hv:dJ v=some ((fsD fs).atKey (.string n) (.agg [.lit (.string []),.lit (.string [])]),ps)):∃a b,v=dK a b∧el fs n a b:=by
 rw[dX]at hv;unfold el;cases h:dR fs n with
 | some f=>rw[h]at hv;obtain⟨a,b,h1,h2,h3⟩:=dN hv;exact⟨a,b,h1,h2,h3⟩
 | none=>rw[h]at hv;obtain⟨a,b,h1,h2,h3⟩:=dN (f:=⟨[],[],[]⟩) hv;exact⟨a,b,h1,h2,h3⟩
theorem eo (w:World){ops:Array Oper}{rest:List Oper}{o:Oper}{a:Act}{Q:Exit→Act→World→Prop}(hg:o.guard=none)(m x:Operand)(hop:o.op=Op.lookup 76 m x true)
  (b:Nat) (fs:Fs) (hm:a.eval m = .map (some b)) (hown:w.ownsMap Tryz.prog 9 dJ b fs.length (fsD fs)) (n:ByteArray) (hx:a.eval x = .string n) (hn:n.size≤maxLen)
  (hK:∀f1 f2,el fs n.data.toList f1 f2→wpList Tryz.prog ops Q rest (a.put o.dst (.tuple #[.agg #[.string f1,.string f2],.bool (dR fs n.data.toList).isSome])) w):wpList Tryz.prog ops Q (o::rest) a w:=
 wpList_lookup_own_ok w hg m x _ hop 9 81 Tryz.strKey Tryz.underlying76 dJ (Tryz.zeroFile _) _ [] (dL _ _) b fs.length (fsD fs) hm hown _ _ hx (WideMaps.keyOf_string_mk Tryz.underlying9 hn)
  (λv ps hv=>by obtain⟨f1,f2,rfl,hf⟩:=en hv;rw[dY];exact hK f1 f2 hf)
set_option maxRecDepth 100000 in
theorem ep (w:World)(p b:Nat)(st:DkSt)(h:IsDk w p b st)(n:ByteArray)(hn:n.size≤maxLen) :
  Calls Tryz.prog 52 #[.pointer (some ⟨p,0,none⟩),.string n] w λe w'=>ej w st n.data.toList e w':=by
 have H:=hid h;have H1:=hid (h.pure ((Below.refl _ _).alloc (Nat.le_refl _) (.cells #[.string ⟨#[]⟩,.string ⟨#[]⟩] 81)));have hp:=h.lt;have hbl:=h.own.lt;obtain⟨c0,c1,c2,c3⟩:=h.cs;clear h;cases hd:st.dark
 ·have HD:=hid hd
  clear hd
  go_enter Tryz.func52,Tryz.ntmps52
  go_wp2_with fail
  refine(ei _ p b st H1.out).mono ?_;rintro e w1 ⟨rfl,rfl⟩;rw[HD.out];cases hget:dR st.fs n.data.toList with
  | none=>
   have HG:=hid hget;clear hget
   go_wp2_with (at_lookup;refine eo _ rfl _ _ rfl b st.fs rfl H1.out.own n rfl hn ?_;intro f1 f2 hf;have HF:=hid hf;clear hf;rw[HG.out])
   refine bodyPost_ret (v:=.tuple #[dK ⟨#[]⟩ ⟨#[]⟩,.int .i64 5]) (by simp[results,Tryz.results52,go_sem];rfl) rfl ⟨?_,⟨#[]⟩,⟨#[]⟩,?_⟩
   ·exact(((Below.refl _ _).alloc (Nat.le_refl _) _).alloc (by simp) _)
   ·rw[HD.out,HG.out];exact⟨rfl,rfl,rfl⟩
  | some f=>
   have HG:=hid hget;clear hget
   go_wp2_with (at_lookup;refine eo _ rfl _ _ rfl b st.fs rfl H1.out.own n rfl hn ?_;intro f1 f2 hf;have HF:=hid hf;clear hf;rw[HG.out])
   refine bodyPost_ret (v:=.tuple #[dK f1 f2,.int .i64 0]) (by simp[results,Tryz.results52,go_sem];rfl) rfl ⟨?_,f1,f2,?_⟩
   ·exact(((Below.refl _ _).alloc (Nat.le_refl _) _).alloc (by simp) _)
   ·have hf:=HF.out
    unfold el at hf;rw[HG.out]at hf;rw[HD.out,HG.out];exact⟨hf.1,hf.2,rfl⟩
 ·have HD:=hid hd
  clear hd
  go_enter Tryz.func52,Tryz.ntmps52
  go_wp2_with fail
  refine(ei _ p b st H1.out).mono ?_;rintro e w1 ⟨rfl,rfl⟩;rw[HD.out];go_wp2;refine bodyPost_ret (v:=.tuple #[dK ⟨#[]⟩ ⟨#[]⟩,.int .i64 45]) (by simp[results,Tryz.results52,go_sem];rfl) rfl ⟨?_,⟨#[]⟩,⟨#[]⟩,?_⟩
  ·exact(Below.refl _ _).alloc (Nat.le_refl _) _
  ·rw[HD.out];exact⟨rfl,rfl,rfl⟩
theorem eu (w:World)(a b:ByteArray)(h:a.size+b.size≤9223372036854775807) :
  Calls Tryz.prog 58 #[.agg #[.string a,.string b]] w λe w'=>e = .returned (.int .i64 ((a.size+b.size:Nat):Int))∧Below w.heap.size w w':=by
 go_enter Tryz.func58,Tryz.ntmps58
 go_wp2;go_ret;exact⟨aa (by simp),(Below.refl _ _).alloc (Nat.le_refl _) _⟩
end
end Go.Proofs.YtaeakdichkhjaaaGreatDoor
