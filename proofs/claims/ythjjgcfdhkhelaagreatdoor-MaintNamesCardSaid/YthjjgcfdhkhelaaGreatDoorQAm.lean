/- Snapshots' files' names, plainly. -/
import Derived.Test.YthjjgcfdhkhelaaGreatDoorQAk
import Derived.Laws.RangeAny
set_option maxHeartbeats 4000000
set_option maxRecDepth 100000
open Go.Lib(hid)
open Go.Proofs.Tryz
namespace Go.Proofs.YthjjgcfdhkhelaaGreatDoor
section
open Go.RowKit
abbrev KB:Nat:=6
structure uL (w:World):Prop where
 k0:w.cell? ⟨KB,95,none⟩=some (.string ⟨#[109,111,118,101,100]⟩)
 k1:w.cell? ⟨KB,96,none⟩=some (.string ⟨#[116]⟩)
 k2:w.cell? ⟨KB,97,none⟩=some (.string ⟨#[116]⟩)
 k3:w.cell? ⟨KB,98,none⟩=some (.string ⟨#[116]⟩)
 k4:w.cell? ⟨KB,99,none⟩=some (.bool false)
theorem uL.kept {S:Nat→Prop}{w w':World}(h:uL w)(hf:Fr S w w')(hs:¬S KB):uL w':=
 ⟨hf.cellAt h.k0 hs,hf.cellAt h.k1 hs,hf.cellAt h.k2 hs,hf.cellAt h.k3 hs,hf.cellAt h.k4 hs⟩
theorem uL.pure {w w':World}(h:uL w)(hb:Below w.heap.size w w'):uL w':=h.kept (Fr.pure (S:=λ_=>False) hb) (λe=>e.elim)
theorem uL.lt {w:World}(h:uL w):KB<w.heap.size:=aw h.k0
theorem uL.drew {w:World}(h:uL w):uL w.drew:=⟨h.k0,h.k1,h.k2,h.k3,h.k4⟩
theorem uM (W:World)(k:Nat)(h:W.heap[k]?=some (.stringIter ⟨#[116]⟩ 0)) :
  ∃W1,(∀ty,(Instr.next (.pointer (some ⟨k,0,none⟩)) true ty).run prog W = .ok (.tuple #[.bool true,.int .i64 0,.int .i32 116]) W1)∧W1.heap[k]?=some (.stringIter ⟨#[116]⟩ 1)∧Fr (λj=>j=k) W W1:=by
 have hd:Utf8.decode ⟨#[116]⟩ 0=(116,1):=by rfl
 have hlt:0<ByteArray.size ⟨#[116]⟩:=by decide
 refine⟨{ W with heap:=W.heap.setIfInBounds k (.stringIter ⟨#[116]⟩ 1) },?_,?_,?_⟩
 ·intro ty
  simp only[Instr.next,getObj,setObj,Sem.run_bind,Sem.run,h,Result.andThen,hd,hlt,if_true];simp[goInt]
 ·have:=lt_of_block h
  simp[this]
 ·exact⟨rfl,rfl,rfl,by simp,λj _ hne=>by simp[Ne.symm hne]⟩
theorem uN (W:World)(k:Nat)(s:ByteArray)(pos:Nat)(h:W.heap[k]?=some (.stringIter s pos))(hge:¬pos<s.size) :
  ∀ty,(Instr.next (.pointer (some ⟨k,0,none⟩)) true ty).run prog W = .ok (.tuple #[.bool false]) W:=by
 intro ty;simp[Instr.next,getObj,Sem.run,h,hge]
theorem Tryz.infoCls:(prog.info? 459).map (λi=>(i.zero,i.size,i.bytes))=some (some (.int .u8 0),1,1):=by kernel_rfl
theorem uO {B:Nat}{a b:World}(h:Below B a b)(n:Nat):Below B a (b.drewN n):=⟨h.os,h.tape,h.output,h.size,h.block⟩
theorem uP {w:World}{base g c:Nat}{e:TypeId}{x:Value}(h:w.ownsRow base e 1 (.slice (some ⟨g,0,none⟩) 1 c) 1 [x]):w.cell? ⟨g,0,none⟩=some x∧base≤g:=by
 rcases h.2 with⟨h0,_⟩|⟨g',cap,cur,h0,hg,hh,hn,hcm,hcs,ht⟩
 ·cases h0
 ·cases h0
  refine⟨?_,hg⟩;have h1:cur.toList.take 1=[x]:=by simpa using ht
  have h2:cur[0]?=some x:=by
   have:=congrArg (λl=>l[0]?) h1;simpa using this
  exact(cell_of_row _ _ _ _ _ _ hh).trans h2
theorem uQ (w:World)(hk:uL w) :
  Calls prog 369 #[.int .u8 20] w λe w'=>e = .returned (.agg #[.string ⟨#[109,111,118,101,100]⟩,.string ⟨#[116]⟩,.string ⟨#[116]⟩,.string ⟨#[116]⟩,.bool false])∧Below w.heap.size w w':=by
 have hx:∀o,Below w.heap.size w (w.alloc o):=λo=>(Below.refl _ _).alloc (Nat.le_refl _) _;have g0:∀o,(w.alloc o).cell? ⟨KB,95,none⟩=_:=λo=>(hk.pure (hx o)).k0;have g1:∀o,(w.alloc o).cell? ⟨KB,96,none⟩=_:=λo=>(hk.pure (hx o)).k1;have g2:∀o,(w.alloc o).cell? ⟨KB,97,none⟩=_:=λo=>(hk.pure (hx o)).k2;have g3:∀o,(w.alloc o).cell? ⟨KB,98,none⟩=_:=λo=>(hk.pure (hx o)).k3;have g4:∀o,(w.alloc o).cell? ⟨KB,99,none⟩=_:=λo=>(hk.pure (hx o)).k4;have HK:=hid hk;clear hk hx
 go_enter func369,ntmps369
 go_wp2;exact bodyPost_ret (v:=.agg #[.string ⟨#[109,111,118,101,100]⟩,.string ⟨#[116]⟩,.string ⟨#[116]⟩,.string ⟨#[116]⟩,.bool false]) (by simp[results,results369,go_sem]) rfl ⟨rfl,(Below.refl _ _).alloc (Nat.le_refl _) _⟩
theorem uR (w:World)(v:Int)(hv:v=1∨v=2∨v=3)(nm:ByteArray) :
  Calls prog 370 #[.agg #[.string nm,.string ⟨#[116]⟩,.string ⟨#[116]⟩,.string ⟨#[116]⟩,.bool false],.int .u8 v] w λe w'=>(∃g c,e = .returned (.tuple #[.slice (some ⟨g,0,none⟩) 1 c,.bool false,.bool true])∧w.heap.size≤g∧w'.cell? ⟨g,0,none⟩=some (.int .u8 116))∧Below w.heap.size w w':=by
 obtain⟨i0,hi,hz0,hz1,hz2⟩:=info_parts Tryz.infoCls;have HI:=hid hi;have HZ0:=hid hz0;have HZ1:=hid hz1;have HZ2:=hid hz2;clear hi hz0 hz1 hz2;obtain⟨W1,hW1⟩:∃W1,W1=(w.alloc (.cells #[.string nm,.string ⟨#[116]⟩,.string ⟨#[116]⟩,.string ⟨#[116]⟩,.bool false] 456)).iter ⟨#[116]⟩ 0:=⟨_,rfl⟩;have hk1:W1.heap[w.heap.size+1]?=some (.stringIter ⟨#[116]⟩ 0):=by
  rw[hW1];have:=World.iter_heap (w.alloc (.cells #[.string nm,.string ⟨#[116]⟩,.string ⟨#[116]⟩,.string ⟨#[116]⟩,.bool false] 456)) ⟨#[116]⟩ 0;simpa using this
 have hb1:W1.heap[w.heap.size]?=some (.cells #[.string nm,.string ⟨#[116]⟩,.string ⟨#[116]⟩,.string ⟨#[116]⟩,.bool false] 456 (0,0)):=by
  rw[hW1];unfold World.iter;exact(Below.heap_alloc _ _ _ (by simp)).trans (heap_alloc_new _ _)
 have hbel:Below w.heap.size w W1:=by rw[hW1];unfold World.iter;exact((Below.refl _ _).alloc (Nat.le_refl _) _).alloc (by simp) _
 have hs1:W1.heap.size=w.heap.size+2:=by rw[hW1];unfold World.iter;simp
 have HW:=hid hW1;obtain⟨W2,hn1,hk2,hf2⟩:=uM W1 _ hk1;have hs2:w.heap.size+2≤W2.heap.size:=by have:=hf2.size;omega
 have HB2:=hid (show Below w.heap.size w W2 from hbel.trans (hf2.below (by omega) (λk hk e=>by omega)));have HR2:=hid (hf2.heapAt hb1 (by omega));have HK2:=hid hk2;have HN1:=hid hn1;clear hW1 hk1 hb1 hbel hk2 hf2 hn1
 rcases hv with rfl|rfl|rfl
 all_goals
  go_enter func370,ntmps370
  go_wp2_with fail
  have hW:=HW.out;unfold World.iter at hW
  try unfold World.iter
  rw[← hW];clear hW;have hn1:=HN1.out;refine wp_loop_rounds 2 ?_;rw[rounds_succ]
  go_wp2_with (first
   | (refine wpList_append_lies _ rfl _ _ 380 rfl w.heap.size 459 i0 _ 1 1 underlying380 HI.out HZ0.out HZ1.out HZ2.out rfl (by omega) (.slice none 0 0) 0 [] rfl (World.ownsRow_nil _ _ _ _) ⟨W2.heap.size,0,none⟩ 1 1 [.int .u8 116] rfl rfl (aC rfl rfl) (by simp[Value.oneCell']) (by omega) (by unfold maxLen;omega) (by omega) (by simp;omega) (W2.heap.size+1) (by simp) ?_;intro g cap w8 hown8 hgrow8 hat8 hlt8))
  simp only[Nat.zero_add,List.nil_append]at hown8 ⊢;rw[rounds_succ];have hk8:w8.heap[w.heap.size+1]?=some (.stringIter ⟨#[116]⟩ 1):=by
   have h1:(W2.alloc (.cells #[.int .u8 116] 459)).heap[w.heap.size+1]?=some (.stringIter ⟨#[116]⟩ 1):=(Below.heap_alloc _ _ _ (lt_of_block HK2.out)).trans HK2.out;rw[hgrow8.block _ (lt_of_block h1) (by simp[Value.ownBlock])];exact h1
  have hr8:w8.heap[w.heap.size]?=some (.cells #[.string nm,.string ⟨#[116]⟩,.string ⟨#[116]⟩,.string ⟨#[116]⟩,.bool false] 456 (0,0)):=by
   have h1:(W2.alloc (.cells #[.int .u8 116] 459)).heap[w.heap.size]?=some (.cells #[.string nm,.string ⟨#[116]⟩,.string ⟨#[116]⟩,.string ⟨#[116]⟩,.bool false] 456 (0,0)):=(Below.heap_alloc _ _ _ (lt_of_block HR2.out)).trans HR2.out;rw[hgrow8.block _ (lt_of_block h1) (by simp[Value.ownBlock])];exact h1
  have hn3:=uN w8 _ _ 1 hk8 (by decide);have x4:w8.cell? ⟨w.heap.size,4,none⟩=some (.bool false):=(cell_of_row _ _ _ _ _ _ hr8).trans rfl;have HB8:=hid (show Below w.heap.size w w8 from(HB2.out.alloc HB2.out.size _).grown hgrow8 (by simp;omega) (λj e=>by cases e));obtain⟨hc8,hg8⟩:=uP hown8;have HC8:=hid hc8;clear hk8 hr8 hown8 hgrow8 hat8 hc8 hn1
  go_wp2_with fail
  go_quiet (fail)
  go_wp2;refine bodyPost_ret (v:=.tuple #[.slice (some ⟨g,0,none⟩) 1 cap,.bool false,.bool true]) (by simp[results,results370,go_sem]) rfl ⟨⟨g,cap,rfl,hg8,HC8.out⟩,uO HB8.out _⟩
theorem uS (w:World)(hk:uL w)(v:Int)(hv:v=1∨v=2∨v=3) :
  Calls prog 286 #[.int .u8 v,.int .u8 20] w λe w'=>(∃g c,e = .returned (.tuple #[.slice (some ⟨g,0,none⟩) 1 c,.bool false,.bool true])∧w.heap.size≤g∧w'.cell? ⟨g,0,none⟩=some (.int .u8 116))∧Below w.heap.size w w':=by
 have HK:=hid hk;have HV:=hid hv;clear hk hv
 go_enter func286,ntmps286
 go_wp2_with fail
 refine(uQ w HK.out).mono ?_;rintro e w1 ⟨rfl,hb1⟩;have HB1:=hid hb1;clear hb1
 go_wp2_with fail
 refine(uR w1 v HV.out _).mono ?_;rintro e w2 ⟨⟨g,c,rfl,hg,hc⟩,hb2⟩;have HC:=hid hc;have HG:=hid hg;have HB2:=hid hb2;clear hc hg hb2;go_wp2;refine bodyPost_ret (v:=.tuple #[.slice (some ⟨g,0,none⟩) 1 c,.bool false,.bool true]) (by simp[results,results286,go_sem]) rfl ⟨⟨g,c,rfl,Nat.le_trans HB1.out.size HG.out,HC.out⟩,HB1.out.trans (HB2.out.mono HB1.out.size)⟩
def uT (v:Int):Int:=if v=3 then 1099511627776 else 109951162777
theorem uU (w:World)(v:Int)(hv:v=1∨v=2∨v=3) :
  Calls prog 414 #[.int .u8 v,.int .u8 116] w λe w'=>e = .returned (.tuple #[.int .i64 1,.int .i64 (uT v),.bool true])∧w'=w:=by
 rcases hv with rfl|rfl|rfl
 all_goals
  go_enter func414,ntmps414
  go_wp2
 ·exact bodyPost_ret (v:=.tuple #[.int .i64 1,.int .i64 109951162777,.bool true]) (by simp[results,results414,go_sem]) rfl ⟨rfl,rfl⟩
 ·exact bodyPost_ret (v:=.tuple #[.int .i64 1,.int .i64 109951162777,.bool true]) (by simp[results,results414,go_sem]) rfl ⟨rfl,rfl⟩
 ·exact bodyPost_ret (v:=.tuple #[.int .i64 1,.int .i64 1099511627776,.bool true]) (by simp[results,results414,go_sem]) rfl ⟨rfl,rfl⟩
theorem uV (w:World)(v:Int)(hv:v=1∨v=2∨v=3)(n:Int)(h1:1≤n)(h2:n≤1000) :
  Calls prog 371 #[.int .u8 v,.int .u8 116,.int .i64 n] w λe w'=>e = .returned (.bool true)∧w'=w:=by
 have h3:n≤uT v:=by unfold uT;split<;>omega
 have HV:=hid hv;have d1:decide (1≤n)=true:=by simpa using h1
 have d2:decide (n≤uT v)=true:=by simpa using h3
 clear hv
 go_enter func371,ntmps371
 go_wp2_with fail
 refine(uU w v HV.out).mono ?_;rintro e w1 ⟨rfl,rfl⟩;go_wp2;go_ret;exact⟨rfl,rfl⟩
theorem uW (w:World)(v:Int)(hv:v=1∨v=2∨v=3)(n:Int)(h1:1≤n)(h2:n≤1000)(g c h d:Nat)(hg:w.cell? ⟨g,0,none⟩=some (.int .u8 116))(hh:w.cell? ⟨h,0,none⟩=some (.int .i64 n)) :
  Calls prog 287 #[.int .u8 v,.slice (some ⟨g,0,none⟩) 1 c,.slice (some ⟨h,0,none⟩) 1 d] w λe w'=>e = .returned (.bool true)∧w'=w:=by
 have HV:=hid hv;have HN:=hid (And.intro h1 h2);clear hv h1 h2
 go_enter func287,ntmps287
 go_wp2_with fail
 refine wp_loop_rounds 2 ?_;rw[rounds_succ]
 go_wp2_with fail
 refine(uV w v HV.out n HN.out.1 HN.out.2).mono ?_;rintro e w1 ⟨rfl,rfl⟩;go_wp2;rw[rounds_succ];go_wp2;go_ret;exact⟨rfl,rfl⟩
abbrev uX (v:Int) (h c:Nat):Value:=.agg #[.int .u8 v,.int .u8 20,.slice (some ⟨h,0,none⟩) 1 c,.slice none 0 0]
theorem uY {W:World}{b:Nat}{T:TypeId}{v0 v1 v2 v3:Value}(h:W.heap[b]?=some (.cells #[v0,v1,v2,v3] T (0,0))):W.cell? ⟨b,0,none⟩=some v0∧W.cell? ⟨b,1,none⟩=some v1∧W.cell? ⟨b,2,none⟩=some v2∧W.cell? ⟨b,3,none⟩=some v3∧∀j:Nat,W.frozen? ⟨b,j,none⟩=false:=
 ⟨(cell_of_row _ _ _ _ _ _ h).trans rfl,(cell_of_row _ _ _ _ _ _ h).trans rfl,(cell_of_row _ _ _ _ _ _ h).trans rfl,(cell_of_row _ _ _ _ _ _ h).trans rfl,λ_=>frozen_of_row _ _ _ _ _ h⟩
theorem uZ {W W':World}{b:Nat}{o:Obj}(h:W.heap[b]?=some o)(hb:Below W.heap.size W W'):W'.heap[b]?=some o:=(hb.block _ (lt_of_block h)).trans h
theorem vd {W W':World}{b o:Nat}{v:Value}(h:W.cell? ⟨b,o,none⟩=some v)(hb:Below W.heap.size W W'):W'.cell? ⟨b,o,none⟩=some v:=(hb.cell (aw h)).trans h
theorem ve (w:World)(hk:uL w)(v:Int)(hv:v=1∨v=2∨v=3)(n:Int)(h1:1≤n)(h2:n≤1000)(h c:Nat)(hh:w.cell? ⟨h,0,none⟩=some (.int .i64 n)) :
  Calls prog 216 #[uX v h c] w λe w'=>e = .returned (.bool true)∧Below w.heap.size w w':=by
 have HV:=hid hv;have HN:=hid (And.intro h1 h2);obtain⟨W0,hW0⟩:∃W0,W0=w.alloc (.cells #[.int .u8 v,.int .u8 20,.slice (some ⟨h,0,none⟩) 1 c,.slice none 0 0] 189):=⟨_,rfl⟩;have hb0:Below w.heap.size w W0:=by rw[hW0];exact(Below.refl _ _).alloc (Nat.le_refl _) _
 have hr0:W0.heap[w.heap.size]?=some (.cells #[.int .u8 v,.int .u8 20,.slice (some ⟨h,0,none⟩) 1 c,.slice none 0 0] 189 (0,0)):=by rw[hW0];exact heap_alloc_new _ _
 have HH:=hid (vd hh hb0);have HK:=hid (hk.pure hb0);have HR:=hid hr0;have HB0:=hid hb0;clear hk hv h1 h2 hh hb0 hr0
 go_enter func216,ntmps216
 go_wp2_with fail
 rw[← hW0];clear hW0;refine(uS W0 HK.out v HV.out).mono ?_;rintro e w1 ⟨⟨g,cg,rfl,hg,hc⟩,hb1⟩;obtain⟨x0,x1,x2,x3,_⟩:=uY (uZ HR.out hb1);have HH1:=hid (vd HH.out hb1);have HC1:=hid hc;have HB1:=hid (HB0.out.trans (hb1.mono HB0.out.size));clear hg hc hb1
 go_wp2_with fail
 refine(uW w1 v HV.out n HN.out.1 HN.out.2 g cg h c HC1.out HH1.out).mono ?_;rintro e w2 ⟨rfl,rfl⟩;go_wp2;go_ret;exact⟨rfl,HB1.out⟩
theorem Tryz.infoN64:(prog.info? 2).map (λi=>(i.zero,i.size,i.bytes))=some (some (.int .i64 0),1,8):=by kernel_rfl
theorem Tryz.infoRule:(prog.info? 444).map (λi=>(i.zero,i.size,i.bytes))=some (some (.agg #[.int .i64 0,.int .i64 0,.int .i64 0]),3,24):=by kernel_rfl
theorem xX (w:World)(h c:Nat)(n:Int)(hh:w.cell? ⟨h,0,none⟩=some (.int .i64 n)) :
  Calls prog 289 #[.slice (some ⟨h,0,none⟩) 1 c] w λe w'=>(∃g d,e = .returned (.slice (some ⟨g,0,none⟩) 1 d)∧w.heap.size≤g∧w'.cell? ⟨g,0,none⟩=some (.int .i64 n))∧Below w.heap.size w w':=by
 have hq:∀w,(binOp .eql 126 (.slice (some ⟨h,0,none⟩) 1 c) (.slice none 0 0)).run prog w = .ok (.bool false) w:=λw=>by have:=Lib.run_eql_slice_nil (P:=prog) w 126 _ (some ⟨h,0,none⟩) 1 c 0 0 underlying126;exact this
 have hrow:(w.alloc (.cells #[] 2)).ownsRow w.heap.size 2 1 (.slice (some ⟨w.heap.size,0,none⟩) 0 0) 0 []:=⟨rfl,.inr ⟨w.heap.size,0,#[],rfl,Nat.le_refl _,heap_alloc_new _ _,by omega,by simp,rfl,rfl⟩⟩;have HR:=hid hrow;have HN:=hid (show ∀j u,([.int .i64 n]:List Value)[j]?=some u→(w.alloc (.cells #[] 2)).cell? ((⟨h,0,none⟩:Addr).add j)=some u from λj u hj=>by
  cases j with
  | zero=>simp at hj;subst hj;exact(World.cell?_alloc_past _ _ _ (aw hh)).trans hh
  | succ j=>simp at hj)
 obtain⟨i0,hi,hz0,hz1,hz2⟩:=info_parts Tryz.infoN64;have HI:=hid hi;have HZ0:=hid hz0;have HZ1:=hid hz1;have HZ2:=hid hz2;clear hi hz0 hz1 hz2 hrow hh
 go_enter func289,ntmps289
 go_wp2_with (first
  | (refine wpList_append_lies _ rfl _ _ 126 rfl w.heap.size 2 i0 _ 1 8 underlying126 HI.out HZ0.out HZ1.out HZ2.out rfl (by omega) _ 0 [] rfl HR.out ⟨h,0,none⟩ 1 c [.int .i64 n] rfl rfl HN.out (by simp[Value.oneCell']) (by omega) (by unfold maxLen;omega) (by omega) (by simp) (w.heap.size+1) (by simp) ?_;intro gg cap w8 hown8 hgrow8 hat8 hlt8))
 simp only[Nat.zero_add,List.nil_append]at hown8 ⊢;obtain⟨hc8,hg8⟩:=uP hown8;go_ret;exact⟨⟨_,_,rfl,hg8,hc8⟩,((Below.refl _ _).alloc (Nat.le_refl _) _).grown hgrow8 (by simp) (λj e=>by cases e;exact Nat.le_refl _)⟩
theorem xY (w:World)(h c g d:Nat)(n:Int)(hh:w.cell? ⟨h,0,none⟩=some (.int .i64 n))(hg:w.cell? ⟨g,0,none⟩=some (.int .i64 n)) :
  Calls prog 415 #[.slice (some ⟨h,0,none⟩) 1 c,.slice (some ⟨g,0,none⟩) 1 d] w λe w'=>e = .returned (.bool true)∧∃n,w'=w.drewN n:=by
 go_enter func415,ntmps415
 go_wp2;refine wp_loop_rounds 2 ?_;rw[rounds_succ]
 go_wp2_with fail
 go_quiet (fail)
 go_wp2;rw[rounds_succ];go_wp2;go_ret;exact⟨rfl,_,rfl⟩
theorem xZ (w:World) :
  Calls prog 416 #[.slice none 0 0,.slice none 0 0] w λe w'=>e = .returned (.bool true)∧w'=w:=by
 go_enter func416,ntmps416
 go_wp2;refine wp_loop_rounds 1 ?_;rw[rounds_succ];go_wp2;go_ret;exact⟨rfl,rfl⟩
def ya (v:Int):Int:=if v=2 then 10 else 1
theorem yb (w:World)(v:Int)(hv:v=1∨v=2) :
  Calls prog 405 #[.int .u8 v,.int .u8 116] w λe w'=>e = .returned (.agg #[.int .i64 0,.int .i64 (ya v),.int .i64 0])∧Below w.heap.size w w':=by
 rcases hv with rfl|rfl
 all_goals
  go_enter func405,ntmps405
  go_wp2
 ·exact bodyPost_ret (v:=.agg #[.int .i64 0,.int .i64 1,.int .i64 0]) (by simp[results,results405,go_sem]) rfl ⟨rfl,((Below.refl _ _).alloc (Nat.le_refl _) _).alloc (by simp) _⟩
 ·exact bodyPost_ret (v:=.agg #[.int .i64 0,.int .i64 10,.int .i64 0]) (by simp[results,results405,go_sem]) rfl ⟨rfl,((Below.refl _ _).alloc (Nat.le_refl _) _).alloc (by simp) _⟩
theorem yc {w:World}{base g c:Nat}{e:TypeId}{x y z:Value}(h:w.ownsRow base e 3 (.slice (some ⟨g,0,none⟩) 1 c) 1 [x,y,z]):w.cell? ⟨g,0,none⟩=some x∧w.cell? ⟨g,1,none⟩=some y∧w.cell? ⟨g,2,none⟩=some z∧base≤g:=by
 rcases h.2 with⟨h0,_⟩|⟨g',cap,cur,h0,hg,hh,hn,hcm,hcs,ht⟩
 ·cases h0
 ·cases h0
  have h1:cur.toList.take 3=[x,y,z]:=by simpa using ht
  have hc:∀i u,i<3→([x,y,z]:List Value)[i]?=some u→cur[i]?=some u:=λi u hi hu=>by
   rw[← h1,List.getElem?_take,if_pos hi]at hu;simpa using hu
  exact⟨(cell_of_row _ _ _ _ _ _ hh).trans (hc 0 x (by omega) rfl),(cell_of_row _ _ _ _ _ _ hh).trans (hc 1 y (by omega) rfl),(cell_of_row _ _ _ _ _ _ hh).trans (hc 2 z (by omega) rfl),hg⟩
theorem yd (w:World)(hk:uL w)(v:Int)(hv:v=1∨v=2) :
  Calls prog 352 #[.int .u8 v,.int .u8 20] w λe w'=>(∃g c,e = .returned (.tuple #[.slice (some ⟨g,0,none⟩) 1 c,.bool true])∧w.heap.size≤g∧w'.cell? ⟨g,0,none⟩=some (.int .i64 0)∧w'.cell? ⟨g,1,none⟩=some (.int .i64 (ya v))∧w'.cell? ⟨g,2,none⟩=some (.int .i64 0))∧Below w.heap.size w w':=by
 have HV:=hid hv;have HK:=hid hk;have hge:decide (v≥3)=false:=by rcases hv with rfl|rfl<;>rfl
 obtain⟨u,hu⟩:∃u,u=v+1:=⟨_,rfl⟩;have hu2:(v+1) % 256=u:=by rcases hv with rfl|rfl<;>(rw[hu];rfl)
 have HU:=hid (show u=1∨u=2∨u=3 from by omega);obtain⟨i0,hi,hz0,hz1,hz2⟩:=info_parts Tryz.infoRule;have HI:=hid hi;have HZ0:=hid hz0;have HZ1:=hid hz1;have HZ2:=hid hz2;clear hi hz0 hz1 hz2 hv hk hu
 go_enter func352,ntmps352
 go_wp2_with fail
 refine(uS w HK.out v (HV.out.imp id .inl)).mono ?_;rintro e w1 ⟨⟨g1,c1,rfl,hg1,hc1⟩,hb1⟩;have HB1:=hid hb1;have HC1:=hid hc1;have HK1:=hid (HK.out.pure hb1);clear hg1 hc1 hb1
 go_wp2_with fail
 try rw[hu2]
 refine(uS w1 HK1.out u HU.out).mono ?_;rintro e w2 ⟨⟨g2,c2,rfl,hg2,hc2⟩,hb2⟩;have HB2:=hid (HB1.out.trans (hb2.mono HB1.out.size));have hc1:=vd HC1.out hb2;clear hg2 hb2
 go_wp2_with fail
 refine wp_loop_rounds 2 ?_;rw[rounds_succ]
 go_wp2_with fail
 refine(yb w2 v HV.out).mono ?_;rintro e w3 ⟨rfl,hb3⟩;have HB3:=hid (HB2.out.trans (hb3.mono HB2.out.size));have hsz3:=HB3.out.size;clear hb3
 go_wp2_with (first
  | (refine wpList_append_lies _ rfl _ _ 440 rfl w.heap.size 444 i0 _ 3 24 underlying440 HI.out HZ0.out HZ1.out HZ2.out rfl (by omega) (.slice none 0 0) 0 [] rfl (World.ownsRow_nil _ _ _ _) ⟨w3.heap.size+1,0,none⟩ 1 1 [.int .i64 0,.int .i64 (ya v),.int .i64 0] rfl rfl (aC rfl (by simp)) (by simp[Value.oneCell']) (by omega) (by unfold maxLen;omega) (by omega) (by simp;omega) (w3.heap.size+1+1) (by simp) ?_;intro g cap w8 hown8 hgrow8 hat8 hlt8))
 simp only[Nat.zero_add,List.nil_append]at hown8 ⊢;obtain⟨y0,y1,y2,hg8⟩:=yc hown8;have HY:=hid (And.intro y0 (And.intro y1 y2));have HB8:=hid (((HB3.out.alloc hsz3 _).alloc (by simp;omega) _).grown hgrow8 (by simp;omega) (λj e=>by cases e));clear y0 y1 y2 hown8 hgrow8 hat8 hc1 hc2;rw[rounds_succ];go_wp2;refine bodyPost_ret (v:=.tuple #[.slice (some ⟨g,0,none⟩) 1 cap,.bool true]) (by simp[results,results352,go_sem]) rfl ⟨⟨g,cap,rfl,hg8,HY.out.1,HY.out.2.1,HY.out.2.2⟩,HB8.out⟩
theorem yg (w:World):Calls prog 290 #[.slice none 0 0] w λe w'=>e = .returned (.slice none 0 0)∧w'=w:=by
 have hq:∀w,(binOp .eql 70 (.slice none 0 0) (.slice none 0 0)).run prog w = .ok (.bool true) w:=λw=>by have:=Lib.run_eql_slice_nil (P:=prog) w 70 _ none 0 0 0 0 underlying70;exact this
 go_enter func290,ntmps290
 go_wp2;go_ret;exact⟨rfl,rfl⟩
theorem yh (w:World)(hk:uL w)(v:Int)(hv:v=1∨v=2)(n:Nat)(h1:1≤n)(h2:n≤100)(h c:Nat)(hh:w.cell? ⟨h,0,none⟩=some (.int .i64 (n:Int))) :
  Calls prog 269 #[uX v h c] w λe w'=>(∃g d,e = .returned (.tuple #[uX (v+1) g d,.int .i64 0])∧w.heap.size≤g∧w'.cell? ⟨g,0,none⟩=some (.int .i64 (ya v*(n:Int))))∧Below w.heap.size w w':=by
 have HV:=hid hv;obtain⟨u,hu⟩:∃u,u=v+1:=⟨_,rfl⟩;have hu3:IntKind.u8.wrap (v+1)=u:=by rcases hv with rfl|rfl<;>(rw[hu];rfl)
 have HU3:=hid hu3;have hu2:(v+1) % 256=u:=by rcases hv with rfl|rfl<;>(rw[hu];rfl)
 have hm:IntKind.i64.wrap (ya v*(n:Int))=ya v*(n:Int):=by rw[IntKind.wrap_i64];unfold ya;split<;>omega
 obtain⟨m,hm0⟩:∃m,m=ya v*(n:Int):=⟨_,rfl⟩;rw[← hu,← hm0];rw[← hm0]at hm;have HM:=hid hm;have HM0:=hid hm0;obtain⟨i0,hi,hz0,hz1,hz2⟩:=info_parts Tryz.infoN64;have HI:=hid hi;have HZ0:=hid hz0;have HZ1:=hid hz1;have HZ2:=hid hz2;obtain⟨W0,hW0⟩:∃W0,W0=(w.alloc (.cells #[.int .u8 v,.int .u8 20,.slice (some ⟨h,0,none⟩) 1 c,.slice none 0 0] 189)).alloc (.cells #[.int .u8 0,.int .u8 0,.slice none 0 0,.slice none 0 0] 189):=⟨_,rfl⟩;have hb0:Below w.heap.size w W0:=by rw[hW0];exact((Below.refl _ _).alloc (Nat.le_refl _) _).alloc (by simp) _
 have k0:W0.heap[w.heap.size]?=some (.cells #[.int .u8 v,.int .u8 20,.slice (some ⟨h,0,none⟩) 1 c,.slice none 0 0] 189 (0,0)):=by rw[hW0];exact(Below.heap_alloc _ _ _ (by simp)).trans (heap_alloc_new _ _)
 have k1:W0.heap[w.heap.size+1]?=some (.cells #[.int .u8 0,.int .u8 0,.slice none 0 0,.slice none 0 0] 189 (0,0)):=by
  rw[hW0];have:=heap_alloc_new (w.alloc (.cells #[.int .u8 v,.int .u8 20,.slice (some ⟨h,0,none⟩) 1 c,.slice none 0 0] 189)) (.cells #[.int .u8 0,.int .u8 0,.slice none 0 0,.slice none 0 0] 189);simpa using this
 obtain⟨x0,x1,x2,x3,_⟩:=uY k0;have HH:=hid (vd hh hb0);have HK:=hid (hk.pure hb0);have HB0:=hid hb0;have K0:=hid k0;have K1:=hid k1;clear hk hv hh hb0 k0 k1 hi hz0 hz1 hz2 hm0 hu hm hu3 hu2
 go_enter func269,ntmps269
 go_wp2_with fail
 rw[← hW0];refine(ve W0 HK.out v (HV.out.imp id .inl) n (by omega) (by omega) h c HH.out).mono ?_;rintro e w1 ⟨rfl,hb1⟩;have HB1:=hid (HB0.out.trans (hb1.mono HB0.out.size));have HK1:=hid (HK.out.pure hb1);have HH1:=hid (vd HH.out hb1);have A1:=hid (uZ K0.out hb1);have E1:=hid (uZ K1.out hb1);clear hb1 x0 x1 x2 x3 hW0;obtain⟨x0,x1,x2,x3,_⟩:=uY A1.out
 go_wp2_with fail
 refine(yd w1 HK1.out v HV.out).mono ?_;rintro e w2 ⟨⟨gr,cr,rfl,hgr,r0,r1,r2⟩,hb2⟩;have HB2:=hid (HB1.out.trans (hb2.mono HB1.out.size));have HH2:=hid (vd HH1.out hb2);have A2:=hid (uZ A1.out hb2);have E2:=hid (uZ E1.out hb2);have HGR:=hid (And.intro r0 (And.intro r1 r2));clear hb2 x0 x1 x2 x3 hgr;obtain⟨x0,x1,x2,x3,_⟩:=uY A2.out
 go_wp2_with fail
 go_region_held3 (λw'=>w'.cell? ⟨w.heap.size,0,none⟩=some (.int .u8 v)∧w'.cell? ⟨w.heap.size,1,none⟩=some (.int .u8 20)∧w'.cell? ⟨w.heap.size,3,none⟩=some (.slice none 0 0)) (first|exact⟨x0,x1,x3⟩|go_keep) (first
  | (go_at_call 290;refine(yg _).mono ?_;rintro e w9 ⟨rfl,rfl⟩))
 all_goals
  rw[HU3.out];clear x0 x1 x2 x3;obtain⟨W3,hW3⟩:∃W3,W3=(w2.alloc (.cells #[.int .u8 u,.int .u8 20,.slice none 0 0,.slice none 0 0] 189)).drew:=⟨_,rfl⟩;have hb3:Below w2.heap.size w2 W3:=by rw[hW3];exact((Below.refl _ _).alloc (Nat.le_refl _) _).drew
  have o3:W3.heap[w2.heap.size]?=some (.cells #[.int .u8 u,.int .u8 20,.slice none 0 0,.slice none 0 0] 189 (0,0)):=by rw[hW3];exact heap_alloc_new _ _
  have hs3:W3.heap.size=w2.heap.size+1:=by rw[hW3];simp
  rw[← hW3];clear hW3;have HB3:=hid (HB2.out.trans (hb3.mono HB2.out.size));have HH3:=hid (vd HH2.out hb3);have A3:=hid (uZ A2.out hb3);have E3:=hid (uZ E2.out hb3);have O3:=hid o3;have r0:=vd HGR.out.1 hb3;have r1:=vd HGR.out.2.1 hb3;have r2:=vd HGR.out.2.2 hb3;clear hb3 o3
  go_wp2_with fail
  refine wp_loop_rounds 2 ?_;rw[rounds_succ]
  go_wp2_with fail
  obtain⟨W4,hW4⟩:∃W4,W4=W3.alloc (.cells #[.int .i64 0,.int .i64 (ya v),.int .i64 0] 444):=⟨_,rfl⟩;have hb4:Below W3.heap.size W3 W4:=by rw[hW4];exact(Below.refl _ _).alloc (Nat.le_refl _) _
  have q4:W4.heap[w2.heap.size+1]?=some (.cells #[.int .i64 0,.int .i64 (ya v),.int .i64 0] 444 (0,0)):=by rw[hW4,← hs3];exact heap_alloc_new _ _
  have hs4:W4.heap.size=w2.heap.size+2:=by rw[hW4];simp[hs3]
  rw[← hW4];clear hW4 r0 r1 r2;have HB4:=hid (HB3.out.trans (hb4.mono HB3.out.size));have HH4:=hid (vd HH3.out hb4);have A4:=hid (uZ A3.out hb4);have E4:=hid (uZ E3.out hb4);have O4:=hid (uZ O3.out hb4);have q0:W4.cell? ⟨w2.heap.size+1,0,none⟩=some (.int .i64 0):=(cell_of_row _ _ _ _ _ _ q4).trans rfl;have q1:W4.cell? ⟨w2.heap.size+1,1,none⟩=some (.int .i64 (ya v)):=(cell_of_row _ _ _ _ _ _ q4).trans rfl;obtain⟨_,_,x2,_,_⟩:=uY A4.out;have hh4:=HH4.out;have hm0:ya v*(n:Int)=m:=HM0.out.symm;have hm1:IntKind.i64.wrap m=m:=HM.out;clear q4 hb4
  go_quiet (fail)
  clear hh4 hm0 hm1 q0 q1 x2
  generalize hW5:W4.drewN _=W5
  have hb5:Below W4.heap.size W4 W5:=by rw[← hW5];exact uO (Below.refl _ _) _
  have HB5:=hid (HB4.out.trans (hb5.mono HB4.out.size));have E5:=hid (uZ E4.out hb5);have O5:=hid (uZ O4.out hb5);have hs5:=HB5.out.size;have hw2:=HB2.out.size;obtain⟨y0,y1,y2,y3,yf⟩:=uY O5.out;clear hb5 hW5
  go_wp2_with (first
   | (refine wpList_append_lies _ rfl _ _ 126 rfl w.heap.size 2 i0 _ 1 8 underlying126 HI.out HZ0.out HZ1.out HZ2.out rfl (by omega) (.slice none 0 0) 0 [] rfl (World.ownsRow_nil _ _ _ _) ⟨W5.heap.size,0,none⟩ 1 1 [.int .i64 m] rfl rfl (aC rfl rfl) (by simp[Value.oneCell']) (by omega) (by unfold maxLen;omega) (by omega) (by simp;omega) (W5.heap.size+1) (by simp) ?_
      intro g cap w8 hown8 hgrow8 hat8 hlt8;have o8:w8.heap[w2.heap.size]?=some (.cells #[.int .u8 u,.int .u8 20,.slice none 0 0,.slice none 0 0] 189 (0,0)):=(hgrow8.block _ (by have:=lt_of_block O5.out;simp;omega) (by simp[Value.ownBlock])).trans ((Below.heap_alloc _ _ _ (lt_of_block O5.out)).trans O5.out);obtain⟨z0,z1,z2,z3,zf⟩:=uY o8))
  simp only[Nat.zero_add,List.nil_append]at hown8 ⊢;obtain⟨hc8,hg8⟩:=uP hown8;have e8:w8.heap[w.heap.size+1]?=some (.cells #[.int .u8 0,.int .u8 0,.slice none 0 0,.slice none 0 0] 189 (0,0)):=(hgrow8.block _ (by have:=lt_of_block E5.out;simp;omega) (by simp[Value.ownBlock])).trans ((Below.heap_alloc _ _ _ (lt_of_block E5.out)).trans E5.out);have HB8:=hid ((HB5.out.alloc hs5 _).grown hgrow8 (by simp;omega) (λj e=>by cases e));have hgo:g≠w2.heap.size∧g≠w.heap.size+1:=by
   have h1:=lt_of_block O5.out;have h2:=lt_of_block E5.out
   rcases hat8 with e|e
   ·cases e
   ·omega
  generalize hW9:w8.setCell _ _=W9
  have o9:W9.heap[w2.heap.size]?=some (.cells #[.int .u8 u,.int .u8 20,.slice (some ⟨g,0,none⟩) 1 cap,.slice none 0 0] 189 (0,0)):=by rw[← hW9];exact heap_setCell_same _ _ _ _ _ _ o8
  have f9:Fr (λk=>k=w2.heap.size) w8 W9:=by rw[← hW9];exact(Fr.refl (λk=>k=w2.heap.size) w8).setCell ⟨w2.heap.size,2,none⟩ (λ_=>rfl) _
  have e9:=f9.heapAt e8 (by have:=lt_of_block E2.out;omega);have C9:=hid (f9.cellAt hc8 (by omega));have HB9:=hid (HB8.out.trans (f9.below HB8.out.size (λk hk e=>by omega)));clear z0 z1 z2 z3 zf y0 y1 y2 y3 yf hW9 hown8 hgrow8 hat8 hc8 o8 e8 f9;obtain⟨y0,y1,y2,y3,yf⟩:=uY o9;obtain⟨r0,r1,r2,r3,rf⟩:=uY e9;rw[rounds_succ];go_wp2;refine bodyPost_ret (v:=.tuple #[uX u g cap,.int .i64 0]) (by simp[results,results269,go_sem,r0,r1,r2,r3]) rfl ⟨⟨g,cap,rfl,hg8,?_⟩,?_⟩
  ·have hf:=((((Fr.refl (λk=>k=w.heap.size+1) W9).setCell ⟨w.heap.size+1,0,none⟩ (λ_=>rfl) (.int .u8 u)).setCell ⟨w.heap.size+1,1,none⟩ (λ_=>rfl) (.int .u8 20)).setCell ⟨w.heap.size+1,2,none⟩ (λ_=>rfl) (.slice (some ⟨g,0,none⟩) 1 cap)).setCell ⟨w.heap.size+1,3,none⟩ (λ_=>rfl) (.slice none 0 0)
   exact hf.cellAt C9.out (by omega)
  ·exact((((HB9.out.setCell (p:=⟨w.heap.size+1,0,none⟩) (by simp) _).setCell (p:=⟨w.heap.size+1,1,none⟩) (by simp) _).setCell (p:=⟨w.heap.size+1,2,none⟩) (by simp) _).setCell (p:=⟨w.heap.size+1,3,none⟩) (by simp) _)
def qc (n:Int):List UInt8:=if 0≤n∧n≤1048576 then 110::bV n 10 else []
def qd (s:List UInt8):Prop:=∃n:Nat,n≤1048576∧s=qc (n:Int)
theorem qe (n:Nat)(h:n≤1048576):qc (n:Int)=110::bV (n:Int) 10:=by
 unfold qc;rw[if_pos (by omega)]
theorem qf (n:Nat)(h:n≤1048576):(qc (n:Int)).length=11:=by
 rw[qe n h,List.length_cons,kp n 9 (by omega)]
theorem qg {n:Int}(h:qc n≠[]):0≤n∧n≤1048576:=by
 unfold qc at h
 split at h
 ·assumption
 ·exact absurd rfl h
theorem qh (r:List UInt8):Lib.hasPrefix (110::r) [110]=true:=by
 unfold Lib.hasPrefix;simp
theorem qi (r:List UInt8):Lib.trimPrefix (110::r) [110]=r:=by
 unfold Lib.trimPrefix Lib.hasPrefix;simp
theorem qj (a b:List UInt8):(Lib.trimPrefix a b).length≤a.length:=by
 unfold Lib.trimPrefix
 split
 ·rw[List.length_drop];omega
 ·exact Nat.le_refl _
open Classical in
noncomputable def qk (s:List UInt8):Option Nat:=if qd s then some (vF 0 (s.drop 1)) else none
theorem ql (n:Nat)(h:n≤1048576):qk (qc (n:Int))=some n:=by
 unfold qk;rw[if_pos ⟨n,h,rfl⟩,qe n h];show some (vF 0 (bV (n:Int) 10))=_;rw[mQ]
theorem qm {s:List UInt8}{n:Nat}(h:qk s=some n):n≤1048576∧s=qc (n:Int):=by
 by_cases hs:qd s
 ·obtain⟨m,hm,rfl⟩:=hs
  rw[ql m hm]at h;cases h;exact⟨hm,rfl⟩
 ·unfold qk at h;rw[if_neg hs]at h;cases h
theorem qn {s:List UInt8}:qk s=none↔¬qd s:=by
 constructor
 ·intro h ⟨m,hm,e⟩;rw[e,ql m hm]at h;cases h
 ·intro h;unfold qk;rw[if_neg h]
end
end Go.Proofs.YthjjgcfdhkhelaaGreatDoor
