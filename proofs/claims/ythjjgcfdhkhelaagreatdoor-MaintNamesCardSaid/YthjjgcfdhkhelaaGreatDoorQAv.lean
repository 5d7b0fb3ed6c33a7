/- The steps of rotate. -/
import Derived.Test.YthjjgcfdhkhelaaGreatDoorQAr
import Derived.Lib.SliceRun
import Derived.Deep.OwnRows
import Derived.Lib.LazyBuf
import Derived.Test.YthjjgcfdhkhelaaGreatDoorQAu
set_option maxHeartbeats 4000000
set_option maxRecDepth 100000
open Go.Lib(hid)
open Go.Proofs.Tryz
namespace Go.Proofs.YthjjgcfdhkhelaaGreatDoor
section
open Go.RowKit Go.Sort
theorem tm (w:World)(S:Nat→Prop)(g p:Nat)(l:kR)(h:sX w S g p l)(hb:l.segs.length≤64)(h0:0<l.segs.length) :
  Calls prog 15 #[.pointer (some ⟨g,0,none⟩)] w λe w'=>∃v,e = .returned (.agg #[.int .i64 l.gen,v])∧gO w' v l.segs∧(∀b,v.ownBlock=some b→w.heap.size≤b)∧Below w.heap.size w w':=by
 obtain⟨sv,iv,xs,S1,h,_,_,_⟩:=h;obtain⟨a,c,rfl⟩:=h.segs.shape;obtain⟨_,_,_,_,c4,c5,_⟩:=h.cs;have hgl:=h.gl;have HS:=hid h.segs;clear h
 go_enter func15,ntmps15
 go_wp2_with fail
 have d4:(w.alloc (.cells #[.int .i64 0,.slice none 0 0] 42)).cell? ⟨g,4,none⟩=some (.int .i64 l.gen):=(World.cell?_alloc_past _ _ _ hgl).trans c4;have d5:(w.alloc (.cells #[.int .i64 0,.slice none 0 0] 42)).cell? ⟨g,5,none⟩=some (.slice a l.segs.length c):=(World.cell?_alloc_past _ _ _ hgl).trans c5;have hbox:(w.alloc (.cells #[.int .i64 0,.slice none 0 0] 42)).heap[w.heap.size]?=some (.cells #[.int .i64 0,.slice none 0 0] 42 (0,0)):=fm _ _ rfl;have HB0:=hid ((Below.refl w.heap.size w).alloc (Nat.le_refl _) (.cells #[.int .i64 0,.slice none 0 0] 42));have hz0:w.heap.size<(w.alloc (.cells #[.int .i64 0,.slice none 0 0] 42)).heap.size:=by simp
 have hgB:g≠w.heap.size:=by omega
 have hgl0:g<(w.alloc (.cells #[.int .i64 0,.slice none 0 0] 42)).heap.size:=by simp;omega
 have HS0:=hid (HS.out.pure HB0.out)
 generalize w.alloc (.cells #[.int .i64 0,.slice none 0 0] 42)=w0 at *
 have HBX:=hid hbox;have HCON:=hid (λW (hb:Below w0.heap.size w0 W)=>jY W (.slice a l.segs.length c) l.segs (HS0.out.pure hb) h0 (by omega));clear hbox
 go_region_held3 (λw'=>w'.cell? ⟨g,4,none⟩=some (.int .i64 l.gen)∧w'.cell? ⟨g,5,none⟩=some (.slice a l.segs.length c)) (first|exact⟨d4,d5⟩|exact⟨e4,e5⟩|(refine⟨?_,?_⟩<;>((repeat rw[World.cell?_setCell_other _ _ _ _ (by intro e;have e2:=congrArg Addr.block e;simp at e2;omega)]);first|exact e4|exact e5))|go_keep) (first
  | (go_at_call 68;refine(HCON.out _ (by first|exact Below.refl _ _|exact(Below.refl _ _).drew)).mono ?_;rintro e W1 ⟨v1,rfl,hv1,hvb1,hb1⟩;obtain⟨g1,c1,rfl⟩:=j7 hv1 h0;have hg1:=hvb1 g1 rfl;have BW:=Below.trans (show Below w0.heap.size w0 _ from(by first|exact Below.refl _ _|exact(Below.refl _ _).drew)) hb1;have e4:=(BW.cell (p:=⟨g,4,none⟩) hgl0).trans d4;have e5:=(BW.cell (p:=⟨g,5,none⟩) hgl0).trans d5;have bx:=(BW.block _ hz0).trans HBX.out;have x0:W1.cell? ⟨w.heap.size,0,none⟩=some (.int .i64 0):=(cell_of_row _ _ _ _ _ _ bx).trans rfl;have x1:W1.cell? ⟨w.heap.size,1,none⟩=some (.slice none 0 0):=(cell_of_row _ _ _ _ _ _ bx).trans rfl;have z0:∀j:Nat,W1.frozen? ⟨w.heap.size,j,none⟩=false:=λj=>frozen_of_row _ _ _ _ _ bx;have BX:=hid bx;have HV:=hid hv1;have HB1:=hid BW;clear hv1 hvb1 hb1 BW bx))
 go_wp2;simp at hg1;have hq:=heap_setCell_same _ _ 1 _ _ (.slice (some ⟨g1,0,none⟩) l.segs.length c1) (heap_setCell_same W1 _ 0 _ _ (.int .i64 l.gen) BX.out);have r0:((W1.setCell ⟨w.heap.size,0,none⟩ (.int .i64 l.gen)).setCell ⟨w.heap.size,1,none⟩ (.slice (some ⟨g1,0,none⟩) l.segs.length c1)).cell? ⟨w.heap.size,0,none⟩=some (.int .i64 l.gen):=(cell_of_row _ _ _ _ _ _ hq).trans rfl;have r1:((W1.setCell ⟨w.heap.size,0,none⟩ (.int .i64 l.gen)).setCell ⟨w.heap.size,1,none⟩ (.slice (some ⟨g1,0,none⟩) l.segs.length c1)).cell? ⟨w.heap.size,1,none⟩=some (.slice (some ⟨g1,0,none⟩) l.segs.length c1):=(cell_of_row _ _ _ _ _ _ hq).trans rfl;have hnb:some g1≠some w.heap.size:=λe=>by have:=Option.some.inj e;omega
 refine bodyPost_ret (v:=.agg #[.int .i64 l.gen,.slice (some ⟨g1,0,none⟩) l.segs.length c1]) (by simp[results,results15,go_sem,r0,r1]) rfl ?_;refine⟨_,rfl,ownsRow_setCell_other (a:=⟨w.heap.size,1,none⟩) (ownsRow_setCell_other (a:=⟨w.heap.size,0,none⟩) HV.out hnb _) hnb _,λb e=>by have:=Option.some.inj e;simp at this;omega,?_⟩;exact((HB0.out.trans (HB1.out.mono HB0.out.size)).setCell (Nat.le_refl _) _).setCell (Nat.le_refl _) _
end
section
open Go.RowKit
theorem Tryz.infoStep:(prog.info? 93).map (λi=>(i.zero,i.size,i.bytes))=some (some (.agg #[.nilFunc]),1,8):=by kernel_rfl
def tC (p b:Nat)(r:cZ×Int×Option kR)(w:World)(e:Ending)(w':World):Prop:=
 db w' p b r.1∧dY p b w w'∧match r.2.2 with
  | none=>e = .returned (.tuple #[.pointer none,.int .i64 r.2.1])
  | some l=>∃(g:Nat) (F:Nat→Prop),sX w' F g p l∧(∀k,F k→w.heap.size≤k)∧e = .returned (.tuple #[.pointer (some ⟨g,0,none⟩),.int .i64 r.2.1])
theorem tD (f:Int):(hdF f).2=if bW f then 0 else 1:=by unfold hdF;split<;>rfl
theorem tE (fs:Fs)(n:List UInt8):(fs.map (·.name)).contains n=(cM fs n).isSome:=by
 unfold cM;rw[Bool.eq_iff_iff,List.contains_iff_mem,List.find?_isSome,List.mem_map];constructor
 ·rintro⟨f,hf,rfl⟩;exact⟨f,hf,by simp⟩
 ·rintro⟨f,hf,e⟩;exact⟨f,hf,by simpa using e⟩
theorem tF {q:Nat}(hq:q≤1048576):kQ (iM q)=(0,(q,[])):=by
 have h1:=iP hq [];rw[List.append_nil]at h1;have h2:iD (iM q).length q ((iM q).drop 16)=[]:=by
  rw[List.drop_of_length_le (by rw[iN];exact Nat.le_refl _)];exact iK (by rw[iL];simp)
 unfold kQ;rw[h1];simp only[ne_eq,not_true_eq_false,if_false];rw[h2]
theorem tG {c:Cfg}(hc:kN c=true):∃ev:Nat,(ev:Int)=c.ev∧1≤ev∧ev≤64∧c.ev.toNat=ev:=by
 unfold kN at hc;simp only[Bool.and_eq_true,decide_eq_true_eq]at hc;exact⟨c.ev.toNat,by omega,by omega,by omega,rfl⟩
theorem tH (w w1 w2:World)(p b:Nat)(st1:cZ)(q:Nat)(c:Cfg)(ev:Nat)(HE0:Hid ((ev:Int)=c.ev))(HE3:Hid (c.ev.toNat=ev))(HF:Hid (dY p b w w1))(HD:Hid (db w1 p b st1))(eB:Nat)(ew:w.heap.size≤eB)
  (E0:Hid (w1.cell? ⟨eB,0,none⟩=some (.int .i64 0))) (E1:Hid (w1.cell? ⟨eB,1,none⟩=some (.int .i64 (q:Int)))) (hel:eB<w1.heap.size) (HB2:Hid (Below w1.heap.size w1 w2)) (x:Nat) (sv:Value) (HX:Hid (w1.heap.size≤x)) (HSV:Hid (∀b,sv.ownBlock=some b→w1.heap.size≤b))
  (HIX:Hid (oR w2 x ev q (kP.next (q,[])) (kP.good (q,[])) sv (iV ev q []))) :
  tC p b (st1,0,some ⟨c,0,[(0,(q:Int))],[(q,[])]⟩) w (.returned (.tuple #[.pointer (some ⟨w2.heap.size+1,0,none⟩),.int .i64 0])) ((w2.alloc (.cells #[.pointer (some ⟨x,0,none⟩)] 99)).alloc (.cells #[.pointer (some ⟨p,0,none⟩),.int .i64 c.ss,.int .i64 (ev:Int),.int .u8 c.v,.int .i64 0,.slice (some ⟨eB,0,none⟩) 1 1,.slice (some ⟨w2.heap.size,0,none⟩) 1 1] 104)):=by
 have hbn:Below w2.heap.size w2 ((w2.alloc (.cells #[.pointer (some ⟨x,0,none⟩)] 99)).alloc (.cells #[.pointer (some ⟨p,0,none⟩),.int .i64 c.ss,.int .i64 (ev:Int),.int .u8 c.v,.int .i64 0,.slice (some ⟨eB,0,none⟩) 1 1,.slice (some ⟨w2.heap.size,0,none⟩) 1 1] 104)):=ek _ _ _;have hs2:=HB2.out.size;have hrow:((w2.alloc (.cells #[.pointer (some ⟨x,0,none⟩)] 99)).alloc (.cells #[.pointer (some ⟨p,0,none⟩),.int .i64 c.ss,.int .i64 (ev:Int),.int .u8 c.v,.int .i64 0,.slice (some ⟨eB,0,none⟩) 1 1,.slice (some ⟨w2.heap.size,0,none⟩) 1 1] 104)).ownsRow 0 99 1 (.slice (some ⟨w2.heap.size,0,none⟩) 1 1) 1 [.pointer (some ⟨x,0,none⟩)]:=
  (World.ownsRow_lit (size:=1) w2 #[.pointer (some ⟨x,0,none⟩)] 1 (Nat.zero_le _) (by decide) rfl).alloc _
 have hcell:((w2.alloc (.cells #[.pointer (some ⟨x,0,none⟩)] 99)).alloc (.cells #[.pointer (some ⟨p,0,none⟩),.int .i64 c.ss,.int .i64 (ev:Int),.int .u8 c.v,.int .i64 0,.slice (some ⟨eB,0,none⟩) 1 1,.slice (some ⟨w2.heap.size,0,none⟩) 1 1] 104)).heap[w2.heap.size+1]?=some (.cells #[.pointer (some ⟨p,0,none⟩),.int .i64 c.ss,.int .i64 (ev:Int),.int .u8 c.v,.int .i64 0,.slice (some ⟨eB,0,none⟩) 1 1,.slice (some ⟨w2.heap.size,0,none⟩) 1 1] 104 (0,0)):=fm _ _ (by simp);have hsz:((w2.alloc (.cells #[.pointer (some ⟨x,0,none⟩)] 99)).alloc (.cells #[.pointer (some ⟨p,0,none⟩),.int .i64 c.ss,.int .i64 (ev:Int),.int .u8 c.v,.int .i64 0,.slice (some ⟨eB,0,none⟩) 1 1,.slice (some ⟨w2.heap.size,0,none⟩) 1 1] 104)).heap.size=w2.heap.size+2:=by simp
 generalize (w2.alloc (.cells #[.pointer (some ⟨x,0,none⟩)] 99)).alloc (.cells #[.pointer (some ⟨p,0,none⟩),.int .i64 c.ss,.int .i64 (ev:Int),.int .u8 c.v,.int .i64 0,.slice (some ⟨eB,0,none⟩) 1 1,.slice (some ⟨w2.heap.size,0,none⟩) 1 1] 104)=W at *
 have hB:Below w1.heap.size w1 W:=HB2.out.trans (hbn.mono hs2);have hfs:=HF.out.size;refine⟨HD.out.pure hB,HF.out.trans (Fr.pure hB),w2.heap.size+1,λk=>k=w2.heap.size+1∨k=w2.heap.size∨k=x∨sv.ownBlock=some k∨k=eB,⟨.slice (some ⟨eB,0,none⟩) 1 1,.slice (some ⟨w2.heap.size,0,none⟩) 1 1,[(x,sv)],λk=>k=w2.heap.size+1∨k=w2.heap.size∨k=x∨sv.ownBlock=some k,⟨?_,?_,?_,hrow,rfl,?_,.inl rfl,?_,?_,?_,?_⟩,?_,?_,?_⟩,?_,rfl⟩
 ·show W.heap[w2.heap.size+1]?=_
  rw[hcell,HE0.out]
 ·exact⟨some ⟨eB,0,none⟩,1,rfl,.inr ⟨eB,0,rfl,λi hi=>by
   obtain rfl:i=0:=by simp at hi;omega
   exact⟨(hB.cell (p:=⟨eB,0,none⟩) hel).trans E0.out,(hB.cell (p:=⟨eB,1,none⟩) hel).trans E1.out⟩⟩⟩
 ·intro k hk
  obtain rfl:eB=k:=Option.some.inj hk;rintro(h|h|h|h)
  ·omega
  ·omega
  ·have:=HX.out;omega
  ·have:=HSV.out _ h;omega
 ·intro i hi hi'
  obtain rfl:i=0:=by simp at hi;omega
  have h9:=HIX.out.pure hbn;show oR W x c.ev.toNat q (kP.next (q,[])) (kP.good (q,[])) sv (iV c.ev.toNat q []);rw[HE3.out];exact h9
 ·intro k hk
  obtain rfl:w2.heap.size=k:=Option.some.inj hk;exact .inr (.inl rfl)
 ·intro y hy
  rw[List.mem_singleton.1 hy];exact⟨.inr (.inr (.inl rfl)),λk hk=>.inr (.inr (.inr hk))⟩
 ·exact List.pairwise_singleton _ _
 ·rintro k (h|h|h|h)
  ·omega
  ·omega
  ·have:=HIX.out.lt;omega
  ·have:=sT HIX.out.own h;omega
 ·rintro k (h|h|h|h)
  ·exact .inl h
  ·exact .inr (.inl h)
  ·exact .inr (.inr (.inl h))
  ·exact .inr (.inr (.inr (.inl h)))
 ·intro k hk
  exact .inr (.inr (.inr (.inr (Option.some.inj hk).symm)))
 ·rintro k (h|h|h|h|h)
  ·omega
  ·omega
  ·have:=HIX.out.lt;omega
  ·have:=sT HIX.out.own h;omega
  ·omega
 ·rintro k (h|h|h|h|h)
  ·omega
  ·omega
  ·have:=HX.out;omega
  ·have:=HSV.out _ h;omega
  ·omega
end
section
open Go.RowKit Go.Shelf
def ErrAt (w:World)(g:Nat):Prop:=∃ev,w.cell? ⟨g,0,none⟩=some ev∧(ev = .nilIface∨∃te pe,ev = .iface te pe)
structure vN (w:World):Prop where
 pow:Pow w
 mxl:Mxl w
 syn:ErrAt w 2
 rng:ErrAt w 3
theorem ErrAt.kept {S:Nat→Prop}{w w':World}{g:Nat}(h:ErrAt w g)(hf:Fr S w w')(hs:¬S g):ErrAt w' g:=by
 obtain⟨ev,h1,h2⟩:=h;exact⟨ev,hf.cellAt h1 hs,h2⟩
def vO (k:Nat):Prop:=k=0∨k=1∨k=2∨k=3
theorem vN.kept {S:Nat→Prop}{w w':World}(h:vN w)(hf:Fr S w w')(hs:∀k,S k→¬vO k):vN w':=
 ⟨hf.pow h.pow (λe=>hs _ e (.inl rfl)),hf.mxl h.mxl (λe=>hs _ e (.inr (.inl rfl))),h.syn.kept hf (λe=>hs _ e (.inr (.inr (.inl rfl)))),h.rng.kept hf (λe=>hs _ e (.inr (.inr (.inr rfl))))⟩
theorem vN.pure {w w':World}(h:vN w)(hb:Below w.heap.size w w'):vN w':=h.kept (Fr.pure (S:=λ_=>False) hb) (λ_ e=>e.elim)
theorem vN.lt {w:World}(h:vN w)(k:Nat)(hk:vO k):k<w.heap.size:=by
 rcases hk with rfl|rfl|rfl|rfl
 ·exact bR h.pow
 ·obtain⟨m,h1⟩:=h.mxl;exact aw h1
 ·obtain⟨ev,h1,_⟩:=h.syn;exact aw h1
 ·obtain⟨ev,h1,_⟩:=h.rng;exact aw h1
theorem vP (w:World)(q:Nat):Below w.heap.size w (w.drewN q):=⟨rfl,rfl,rfl,Nat.le_refl _,λ_ _=>rfl⟩
theorem vQ {v1 v2:Int}(h:b9 v1 v2≠[]):kZ (b9 v1 v2):=by
 unfold b9 at h
 split at h
 ·rename_i hc
  obtain⟨a,b,c,d⟩:=hc;exact⟨v1.toNat,v2.toNat,by omega,by omega,by rw[Int.toNat_of_nonneg a,Int.toNat_of_nonneg c]⟩
 ·exact absurd rfl h
theorem vR (s p:List UInt8):(Lib.cut s p).1.length≤s.length∧(Lib.cut s p).2.1.length≤s.length:=by
 unfold Lib.cut
 split
 ·exact⟨by rw[List.length_take];omega,by rw[List.length_drop];omega⟩
 ·exact⟨Nat.le_refl _,Nat.zero_le _⟩
theorem vS (a b:List UInt8):(Lib.trimPrefix a b).length≤a.length:=by
 unfold Lib.trimPrefix
 split
 ·rw[List.length_drop];omega
 ·exact Nat.le_refl _
theorem vT (s:ByteArray)(hz:s.size≤281474976710656)(w:World)(h:vN w) :
  Calls prog 182 #[.string s,.int .i64 10,.int .i64 64] w λe w'=>(∃(v:Int) (er:Value),e = .returned (.tuple #[.int .i64 v,er]))∧Below w.heap.size w w':=by
 cases hp:Lib.parseIntB 64 s.data.toList
 ·rename_i v
  refine(Any.strconv_ParseInt_10_at64_ok Tryz.laysC174 s (by omega) v hp w).mono ?_;rintro e w' ⟨he,h⟩;refine⟨⟨v,_,he⟩,?_⟩
  rcases h with rfl|⟨t,rfl⟩
  ·exact Below.refl _ _
  ·exact Joins.below_bytesWorld _ _ _ _ (Nat.le_refl _)
 ·obtain⟨ev,h1,h2⟩:=h.syn
  refine(Any.strconv_ParseInt_10_at64_syntax Tryz.laysC174 s hz hp ev w h1 h2).mono ?_;rintro e w' ⟨n,he,_,_,hb⟩;exact⟨⟨_,_,he⟩,hb⟩
 ·obtain⟨ev,h1,h2⟩:=h.rng
  refine(Any.strconv_ParseInt_10_at64_range Tryz.laysC174 s hz hp ev w h1 h2).mono ?_;rintro e w' ⟨n,he,_,_,hb⟩;exact⟨⟨_,_,he⟩,hb⟩
theorem vU (w:World)(h:vN w)(s:ByteArray)(h1:1≤s.size)(h2:s.size≤1048576) :
  Calls prog 137 #[.string s] w λe w'=>(∃(g f:Int) (b:Bool),(b=true↔kZ s.data.toList)∧e = .returned (.tuple #[.int .i64 g,.int .i64 f,.bool b]))∧Below w.heap.size w w':=by
 by_cases hseg:kZ s.data.toList
 ·obtain⟨g,f,hg,hf,hs⟩:=id hseg
  refine(vM w h.pow h.mxl g f hg hf s hs).mono ?_;rintro e w' ⟨he,hb⟩;exact⟨⟨_,_,true,by simp[hseg],he⟩,hb⟩
 ·obtain⟨mx,hmx⟩:=h.mxl
  have H:=hid h;have HN:=hid hseg;clear h hseg
  go_enter func137,ntmps137
  go_wp2_with fail
  refine(Tryz.strings_TrimPrefix s ⟨#[115]⟩ w).mono ?_;rintro e w1 ⟨rfl,rfl⟩;obtain⟨t,ht⟩:∃t:ByteArray,t=⟨(Lib.trimPrefix s.data.toList (⟨#[115]⟩:ByteArray).data.toList).toArray⟩:=⟨_,rfl⟩;rw[← ht];have htz:t.size≤1048576:=by
   have h9:t.data.toList.length≤s.data.toList.length:=by
    rw[ht];show(Lib.trimPrefix s.data.toList [115]).toArray.toList.length≤_;exact vS _ _
   rw[ak,ak]at h9;omega
  clear ht
  go_wp2_with fail
  refine(Tryz.strings_Cut t ⟨#[45]⟩ mx w1 (by omega) hmx).mono ?_;rintro e w2 ⟨rfl,nd,rfl⟩;obtain⟨a,ha⟩:∃a:ByteArray,a=⟨(Lib.cut t.data.toList (⟨#[45]⟩:ByteArray).data.toList).1.toArray⟩:=⟨_,rfl⟩;obtain⟨b,hb⟩:∃b:ByteArray,b=⟨(Lib.cut t.data.toList (⟨#[45]⟩:ByteArray).data.toList).2.1.toArray⟩:=⟨_,rfl⟩;rw[← ha,← hb];obtain⟨c1,c2⟩:=vR t.data.toList (⟨#[45]⟩:ByteArray).data.toList;have haz:a.size≤1048576:=by
   have h9:a.data.toList.length≤t.data.toList.length:=by rw[ha];exact c1
   rw[ak,ak]at h9;omega
  have hbz:b.size≤1048576:=by
   have h9:b.data.toList.length≤t.data.toList.length:=by rw[hb];exact c2
   rw[ak,ak]at h9;omega
  clear c1 c2;clear ha hb
  go_wp2_with fail
  refine(vT a (by omega) _ (H.out.pure (vP w1 nd))).mono ?_;rintro e w3 ⟨⟨v1,er1,rfl⟩,hb3⟩;have B3:=hid (show Below w1.heap.size w1 w3 from⟨hb3.os,hb3.tape,hb3.output,hb3.size,hb3.block⟩);clear hb3
  go_wp2_with fail
  refine(vT b (by omega) _ (H.out.pure B3.out)).mono ?_;rintro e w4 ⟨⟨v2,er2,rfl⟩,hb4⟩;have B4:=hid (B3.out.trans (hb4.mono B3.out.size));clear hb4
  go_wp2_with fail
  refine(cf w4 (bS B4.out H.out.pow) v1 v2).mono ?_;rintro e w5 ⟨⟨r,hr,rfl⟩,hb5⟩;have B5:=hid (B4.out.trans (hb5.mono B4.out.size));have hns:r.data.toList≠s.data.toList:=λe=>HN.out (by
   rw[← e,hr];have hne:b9 v1 v2≠[]:=λh0=>by
    have:=congrArg List.length e;rw[hr,h0,ak]at this;simp at this;omega
   exact vQ hne)
  have heq:(r.toList == s.toList)=false:=by
   rw[ByteArray.toList_eq,ByteArray.toList_eq];simpa using hns
  have hne:(r.toList != s.toList)=true:=by unfold bne;rw[heq];rfl
  have HX:=hid HN.out;clear hb5 hr hns;go_wp2
  go_ret3
  exact⟨⟨_,_,false,by simp[HX.out],rfl⟩,B5.out⟩
open Classical in
noncomputable def vV (own:List (List UInt8)) (n:List UInt8):Bool:=!(decide (kZ n)) || own.contains n
theorem vW (w:World)(h:vN w)(ob base:Nat)(ov:Value)(own:List (List UInt8))(hb:w.cell? ⟨ob,0,none⟩=some ov)(hown:rX w base ov own)(hl:own.length≤64)(s:ByteArray)(h1:1≤s.size)(h2:s.size≤1048576) :
  Calls prog 136 #[.string s,.pointer (some ⟨ob,0,none⟩)] w λe w'=>e = .returned (.bool (vV own s.data.toList))∧Below w.heap.size w w':=by
 have HOW:=hid hown;have HN:=hid (vU w h s h1 h2);clear hown h
 go_enter func136,ntmps136
 go_wp2_with fail
 refine HN.out.mono ?_;rintro e w1 ⟨⟨g,f,b,hbi,rfl⟩,hb1⟩;have HB1:=hid hb1;have hb2:=(hb1.cell (p:=⟨ob,0,none⟩) (aw hb)).trans hb;have HO1:Hid (rX w1 base ov own):=hid ((Fr.pure (S:=λ_=>False) hb1).ownsRow HOW.out (λ_ _ e=>e));clear hb1 hb;cases b
 ·have hns:vV own s.data.toList=true:=by
   unfold vV;have:¬kZ s.data.toList:=λh=>by have:=hbi.2 h;cases this
   simp[this]
  have HNS:=hid hns;clear hbi hns;go_wp2;go_ret;exact⟨by rw[HNS.out];rfl,HB1.out⟩
 ·have hns:vV own s.data.toList=own.contains s.data.toList:=by
   unfold vV;simp[hbi.1 rfl]
  have HNS:=hid hns;clear hbi hns
  go_wp2_with fail
  refine(tB w1 base ov own HO1.out s (by omega)).mono ?_;rintro e w2 ⟨rfl,rfl⟩;go_wp2;go_ret;exact⟨by rw[HNS.out,List.contains_eq_mem];rfl,HB1.out⟩
structure vX (w:World) (nb ob base:Nat) (ov:Value) (own:List (List UInt8)):Prop where
 libs:vN w
 box:w.cell? ⟨ob,0,none⟩=some ov
 row:rX w base ov own
 few:own.length≤64
 nob:ob≠nb
 nov:ov.ownBlock≠some nb
 nlib:¬vO nb
theorem vX.kept {w W:World}{nb ob base:Nat}{ov:Value}{own:List (List UInt8)}(h:vX w nb ob base ov own)(hf:Fr (λk=>k=nb) w W):vX W nb ob base ov own:=
 ⟨h.libs.kept hf (λk hk hl=>h.nlib (hk▸hl)),hf.cellAt h.box h.nob,hf.ownsRow h.row (λg e hg=>h.nov (by rw[e,hg])),h.few,h.nob,h.nov,h.nlib⟩
theorem vX.run {w:World}{nb ob base:Nat}{ov:Value}{own:List (List UInt8)}(h:vX w nb ob base ov own)(s:ByteArray)(h1:1≤s.size)(h2:s.size≤1048576) :
  Calls prog 136 #[.string s,.pointer (some ⟨ob,0,none⟩)] w λe w'=>e = .returned (.bool (vV own s.data.toList))∧Below w.heap.size w w':=
 vW w h.libs ob base ov own h.box h.row h.few s h1 h2
theorem vY:∀(args:Array Value) (w:World),(callFunc 136 args).run prog w = .ok (.enter 136 args) w:=enters_of func136 (by kernel_rfl) rfl
theorem vZ (w:World)(nb ob base c:Nat)(ov:Value)(own:List (List UInt8))(hs:vX w nb ob base ov own)(ns:List ByteArray)(hrow:∀i (h:i<ns.length),w.cell? ⟨nb,i,none⟩=some (.string ns[i]))(hsz:∀s∈ns,1≤s.size∧s.size≤1048576)(hl:ns.length≤64) :
  Calls prog 179 #[.slice (some ⟨nb,0,none⟩) ns.length c,.func (.func 136) #[] #[.pointer (some ⟨ob,0,none⟩)]] w λe w'=>
   ∃k,k≤ns.length∧(∀j (h:j<ns.length),j<k→vV own ns[j].data.toList=false)∧(∀h:k<ns.length,vV own ns[k].data.toList=true)∧e = .returned (.int .i64 (if k<ns.length then (k:Int) else -1))∧Below w.heap.size w w':=by
 have HS:=hid hs;have HR:=hid hrow;have HZ:=hid hsz;have ent:=vY;clear hs hrow hsz
 go_enter func179,ntmps179
 go_wp2
 go_loopw [8] (λi wr=>∃k:Nat,i = .int .i64 k∧k≤ns.length∧Hid (Below w.heap.size w wr)∧Hid (∀j (h:j<ns.length),j<k→vV own ns[j].data.toList=false)) (λi _=>ns.length-(intOf i).toNat)
 case atStart=>exact⟨0,rfl,by omega,hid (Below.refl _ _),hid (λj _ h=>by omega)⟩
 case round=>
  obtain⟨k,rfl,hk,HB,HP⟩:=hrel;by_cases hlt:k<ns.length
  ·have hc:=(HB.out.cell (p:=⟨nb,k,none⟩) (aw (HR.out k hlt))).trans (HR.out k hlt)
   have hz:=HZ.out ns[k] (List.getElem_mem hlt);have hcall:=(HS.out.kept (Fr.pure HB.out)).run ns[k] hz.1 hz.2;have HC:=hid hcall;clear hcall
   go_wp2_with fail
   refine HC.out.mono ?_;rintro e w1 ⟨rfl,hb1⟩;have HB1:=hid (HB.out.trans (hb1.mono HB.out.size));clear hb1;cases hst:vV own ns[k].data.toList
   ·have HST:=hid hst
    clear hst;go_wp2;refine⟨⟨k+1,by go_num,by omega,HB1,hid (λj h hj=>?_)⟩,?_⟩
    ·by_cases hjk:j=k
     ·subst hjk;exact HST.out
     ·exact HP.out j h (by omega)
    ·simp[intOf];omega
   ·have HST:=hid hst
    clear hst;go_wp2;go_ret;exact⟨k,hk,HP.out,λ_=>HST.out,by rw[if_pos hlt];rfl,HB1.out⟩
  ·obtain rfl:k=ns.length:=by omega
   go_wp2;go_ret;exact⟨ns.length,Nat.le_refl _,HP.out,λh=>absurd h (by omega),by rw[if_neg (by omega)];rfl,HB.out⟩
noncomputable def wg (own:List (List UInt8)) (l:List ByteArray):List ByteArray:=l.filter λs=>!vV own s.data.toList
theorem wh {own:List (List UInt8)}{ns:List ByteArray}{k:Nat}(h:k<ns.length):wg own (ns.take (k+1))=wg own (ns.take k)++(if vV own ns[k].data.toList then [] else [ns[k]]):=by
 unfold wg;rw[List.take_succ_eq_append_getElem h,List.filter_append];congr 1;cases hs:vV own ns[k].data.toList<;>simp[hs]
theorem wi {own:List (List UInt8)}(l:List ByteArray):(wg own l).length≤l.length:=List.length_filter_le _ _
theorem wj {own:List (List UInt8)}{ns:List ByteArray}:∀k,k≤ns.length→(∀j (h:j<ns.length),j<k→vV own ns[j].data.toList=false)→wg own (ns.take k)=ns.take k:=by
 intro k hk h;unfold wg;rw[List.filter_eq_self];intro s hs;obtain⟨i,hi,rfl⟩:=List.getElem_of_mem hs;rw[List.length_take]at hi;rw[List.getElem_take,h i (by omega) (by omega)];rfl
structure DelAt (own:List (List UInt8)) (ns:List ByteArray) (i j:Nat) (f:Nat→Value):Prop where
 ij:i<j
 jn:j≤ns.length
 len:i=(wg own (ns.take j)).length
 low:∀x (h:x<(wg own (ns.take j)).length),f x = .string (wg own (ns.take j))[x]
 high:∀x (h:x<ns.length),j≤x→f x = .string ns[x]
theorem DelAt.skip {own:List (List UInt8)}{ns:List ByteArray}{i j:Nat}{f:Nat→Value}(h:DelAt own ns i j f)(hj:j<ns.length)(hs:vV own ns[j].data.toList=true):DelAt own ns i (j+1) f:=by
 have e:wg own (ns.take (j+1))=wg own (ns.take j):=by rw[wh hj,if_pos hs,List.append_nil]
 refine⟨by have:=h.ij;omega,by omega,by rw[e];exact h.len,λx hx=>?_,λx hx h2=>h.high x hx (by omega)⟩;rw[h.low x (by rw[← e];exact hx)];congr 1;exact(List.getElem_of_eq e hx).symm
theorem DelAt.keep {own:List (List UInt8)}{ns:List ByteArray}{i j:Nat}{f:Nat→Value}(h:DelAt own ns i j f)(hj:j<ns.length)(hs:vV own ns[j].data.toList=false):DelAt own ns (i+1) (j+1) (λx=>if x=i then .string ns[j] else f x):=by
 have e:wg own (ns.take (j+1))=wg own (ns.take j)++[ns[j]]:=by rw[wh hj,if_neg (by rw[hs];decide)]
 have hi:=h.len;refine⟨by have:=h.ij;omega,by omega,by rw[e,List.length_append,List.length_singleton,← hi],λx hx=>?_,λx hx h2=>?_⟩
 ·rw[List.getElem_of_eq e hx]
  by_cases hc:x=i
  ·subst hc
   rw[if_pos rfl,List.getElem_append_right (by omega)];simp[hi]
  ·have hx2:x<(wg own (ns.take j)).length:=by rw[e,List.length_append,List.length_singleton]at hx;omega
   rw[if_neg hc,List.getElem_append_left hx2];exact h.low x hx2
 ·rw[if_neg (by have:=h.ij;omega)]
  exact h.high x hx (by omega)
theorem wk {w:World}{nb:Nat}:∀{vs:List Value} {wr:World} (_:Fr (λk=>k=nb) w wr) (o:Nat) (vs':List Value),vs'=vs→Fr (λk=>k=nb) w (wr.setCells nb o vs')
 | [],_,h,_,_,e=>by subst e;exact h
 | v::r,wr,h,o,_,e=>by subst e;exact wk (vs:=r) (h.setCell ⟨nb,o,none⟩ (λ_=>rfl) v) (o+1) r rfl
theorem wm (w:World)(nb ob base c N:Nat)(ov:Value)(own:List (List UInt8))(hs:vX w nb ob base ov own)(ns:List ByteArray)(f:Nat→Value)(hrow:w.rowIs nb 9 N f)(hf:∀i (h:i<ns.length),f i = .string ns[i])(hN:ns.length≤N)(hc:ns.length≤c)
  (hsz:∀s∈ns,1≤s.size∧s.size≤1048576) (hl:ns.length≤64) :
  Calls prog 135 #[.slice (some ⟨nb,0,none⟩) ns.length c,.func (.func 136) #[] #[.pointer (some ⟨ob,0,none⟩)]] w λe w'=>
   e = .returned (.slice (some ⟨nb,0,none⟩) (wg own ns).length c)∧Fr (λk=>k=nb) w w'∧∀i (h:i<(wg own ns).length),w'.cell? ⟨nb,i,none⟩=some (.string (wg own ns)[i]):=by
 have hcell:∀i (h:i<ns.length),w.cell? ⟨nb,i,none⟩=some (.string ns[i]):=λi h=>by rw[hrow.cell (by omega),hf i h]
 have HI:=hid (vZ w nb ob base c ov own hs ns hcell hsz hl);have HS:=hid hs;have HR:=hid hrow;have HZ:=hid hsz;have HF:=hid hf;have HCE:=hid hcell;have ent:=vY;clear hs hrow hsz hf hcell
 go_enter func135,ntmps135
 go_wp2_with fail
 refine HI.out.mono ?_;rintro e w1 ⟨k,hk,hlo,hhi,rfl,hb1⟩;have HB1:=hid hb1;by_cases hlt:k<ns.length;rotate_left
 ·rw[if_neg hlt]
  obtain rfl:k=ns.length:=by omega
  have hall:=wj (own:=own) ns.length (Nat.le_refl _) hlo;rw[List.take_length]at hall;have HA:=hid hall;clear hall hlo hhi hb1;go_wp2;go_ret;refine⟨by rw[HA.out];rfl,Fr.pure HB1.out,λi h=>?_⟩;have hi:i<ns.length:=by rw[← HA.out];exact h
  rw[(HB1.out.cell (p:=⟨nb,i,none⟩) (aw (HCE.out i hi))).trans (HCE.out i hi)];congr 2;exact(List.getElem_of_eq HA.out h).symm
 ·rw[if_pos hlt]
  have h0:DelAt own ns k (k+1) f:=by
   have e:wg own (ns.take (k+1))=ns.take k:=by rw[wh hlt,if_pos (hhi hlt),List.append_nil,wj k hk hlo]
   refine⟨by omega,by omega,by rw[e,List.length_take];omega,λx hx=>?_,λx hx _=>HF.out x hx⟩;rw[HF.out x (by rw[e,List.length_take]at hx;omega)];congr 1;rw[List.getElem_of_eq e hx,List.getElem_take]
  have H0:=hid h0;have hrow1:w1.rowIs nb 9 N f:=HR.out.of_block (hb1.block nb HR.out.lt);have HR1:=hid hrow1;have hkm:((k:Int) == -1)=false:=by rw[beq_eq_false_iff_ne];omega
  clear h0 hlo hhi hb1 hrow1;go_wp2
  go_loopw [5,6,7] (λiv jv _ wr=>∃(i j:Nat) (f':Nat→Value),iv = .int .i64 i∧jv = .int .i64 j∧j≤ns.length∧i<j∧Hid (DelAt own ns i j f')∧Hid (wr.rowIs nb 9 N f')∧Hid (Fr (λk=>k=nb) w wr)) (λ_ jv _ _=>ns.length-(intOf jv).toNat)
  case atStart=>exact⟨k,k+1,f,rfl,by go_num,by omega,by omega,H0,HR1,hid (Fr.pure HB1.out)⟩
  case round=>
   obtain⟨i,j,f',rfl,rfl,hj,hij,HD,HRW,HFR⟩:=hrel;by_cases hlt2:j<ns.length
   ·have hcj:wr.cell? ⟨nb,j,none⟩=some (.string ns[j]):=by rw[HRW.out.cell (by omega),HD.out.high j hlt2 (Nat.le_refl _)]
    have hz:=HZ.out ns[j] (List.getElem_mem hlt2);have HC:=hid ((HS.out.kept HFR.out).run ns[j] hz.1 hz.2)
    go_wp2_with fail
    refine HC.out.mono ?_;rintro e w2 ⟨rfl,hb2⟩;have hrow2:w2.rowIs nb 9 N f':=HRW.out.of_block (hb2.block nb HRW.out.lt);have hci:w2.cell? ⟨nb,i,none⟩=some (f' i):=hrow2.cell (by omega);have zi:w2.frozen? ⟨nb,i,none⟩=false:=hrow2.frozen _;have HR2:=hid hrow2;have HF2:=hid (HFR.out.then (Fr.pure (S:=λk=>k=nb) hb2) (λk _ h=>h));clear hb2 hrow2;cases hst:vV own ns[j].data.toList
    ·have HST:=hid hst
     clear hst;go_wp2;refine⟨⟨i+1,j+1,_,by go_num,by go_num,by omega,by omega,hid (HD.out.keep hlt2 HST.out),hid (HR2.out.set i _),hid (HF2.out.setCell ⟨nb,i,none⟩ (λ_=>rfl) _)⟩,?_⟩;simp[intOf];omega
    ·have HST:=hid hst
     clear hst;go_wp2;refine⟨⟨i,j+1,f',rfl,by go_num,by omega,by omega,hid (HD.out.skip hlt2 HST.out),HR2,HF2⟩,?_⟩;simp[intOf];omega
   ·obtain rfl:j=ns.length:=by omega
    have hcl:∀ty,(Builtin.clear_ #[70] ty #[.slice (some ⟨nb,i,none⟩) (ns.length-i) (c-i)]).run prog wr = .ok (.tuple #[]) (wr.setCells nb i (List.replicate (ns.length-i) (.string ⟨#[]⟩))):=
     λty=>Lib.run_clear_slice wr _ 9 ty _ underlying70 (λw=>by rfl) rfl rfl nb i _ _ (by omega) (λt ht=>by rw[HRW.out.cell (by omega)];rfl) (λt ht=>HRW.out.frozen _)
    go_wp2;go_ret;have hD:=HD.out;have hlen:=hD.len;rw[List.take_length]at hlen;have hlow:=hD.low;have hrw:=rowIs_setCells (List.replicate (ns.length-i) (.string ⟨#[]⟩)) i wr f' HRW.out;refine⟨by rw[← hlen];rfl,wk HFR.out _ _ rfl,λx hx=>?_⟩;rw[hrw.cell (by have:=hij;omega),if_neg (by omega)];rw[hlow x (by rw[List.take_length];exact hx)];congr 2;exact List.getElem_of_eq (by rw[List.take_length]) _
end
section
open Go.RowKit
def Br (n:Int):Nat:=(n % 18446744073709551616).toNat
def Bs (ns:List Int):List UInt8:=ns.flatMap (λn=>qC (Br n))
theorem Bt (ns:List Int)(n:Int):Bs (ns++[n])=Bs ns++qC (Br n):=by unfold Bs;simp
theorem Bu (ns:List Int):(Bs ns).length≤10*ns.length:=by
 unfold Bs
 induction ns with
 | nil=>simp
 | cons n r ih=>
  rw[List.flatMap_cons,List.length_append,List.length_cons];have:=qG (Br n) (by unfold Br;omega);omega
theorem aN.lto {w:World}{p:Nat}{v:Value}{L:List UInt8}(h:aN w p v L){g:Nat}(hg:v.ownBlock=some g):g<w.heap.size:=by
 rcases h.own.2 with⟨rfl,_⟩|⟨k,cap,cur,rfl,_,hh,_⟩
 ·cases hg
 ·cases hg;exact lt_of_block hh
theorem aO.cellx {p:Nat}{w w1:World}{v v1:Value}{L:List UInt8}(h:aO p w w1 v v1 L){b o:Nat}{x:Value}(hb:w.cell? ⟨b,o,none⟩=some x)(hne:b≠p)(hv:v.ownBlock≠some b):w1.cell? ⟨b,o,none⟩=some x:=
 h.fr.cellAt hb (by rintro(e|e);exact hne e;exact hv e)
theorem Bv (sv:Value)(ns:List Int)(p:Nat)(v:Value)(L:List UInt8)(w:World)(h:aN w p v L)(hs:IntsAt w sv ns)(hsb:∀g,sv.ownBlock=some g→g≠p∧v.ownBlock≠some g)(hn:ns.length≤100)(hL:L.length≤1000000) :
  Calls prog 226 #[.pointer (some ⟨p,0,none⟩),sv] w λe w'=>e = .returned (.tuple #[])∧∃v',aO p w w' v v' (L++Bs ns):=by
 obtain⟨a,c,rfl,_,hc⟩:=hs;have hrow:∀i (hi:i<ns.length),∃g o,a=some ⟨g,o,none⟩∧w.cell? ⟨g,o+i,none⟩=some (.int .i64 ns[i]):=λi hi=>by
  rcases hc with rfl|⟨b,o,rfl,hcell⟩
  ·simp at hi
  ·exact⟨b,o,rfl,hcell i hi⟩
 have H:=hid h;have HR:=hid hrow;have HSB:=hid hsb;clear h hc hrow hsb
 go_enter func226,ntmps226
 go_wp2
 go_loopw [8] (λi wr=>∃(k:Nat) (v1:Value),i = .int .i64 k∧k≤ns.length∧Hid (aO p w wr v v1 (L++Bs (ns.take k)))) (λi _=>ns.length-(intOf i).toNat)
 case atStart=>exact⟨0,v,rfl,by omega,hid (by rw[List.take_zero];show aO p w w v v (L++[]);rw[List.append_nil];exact⟨H.out,Fr.refl _ _,aA.refl _ _⟩)⟩
 case round=>
  obtain⟨k,v1,rfl,hk,HW⟩:=hrel;by_cases hlt:k<ns.length
  ·obtain⟨g,o,rfl,hcell⟩:=HR.out k hlt
   have hgb:=HSB.out g rfl;have hcell:=HW.out.cellx hcell hgb.1 hgb.2;have hlen:(L++Bs (ns.take k)).length+10≤1073741824:=by
    have:=Bu (ns.take k);rw[List.length_take]at this;rw[List.length_append];omega
   obtain⟨z,hz⟩:∃z,z=ns[k]:=⟨_,rfl⟩;rw[← hz]at hcell;have HST:=hid (show Bs (ns.take (k+1))=Bs (ns.take k)++qC (Br z)from by rw[List.take_succ_eq_append_getElem hlt,Bt,hz]);have hu:IntKind.u64.wrap z=((Br z:Nat):Int):=by unfold Br;rw[IntKind.wrap_u64];omega
   clear hz hgb
   go_wp2_with fail
   try rw[hu]
   refine(uo (Br z) p v1 _ wr (by unfold Br;omega) HW.out.is hlen).mono ?_;rintro e w1 ⟨rfl,v2,h2⟩;have H2:=hid (HW.out.trans h2);clear h2;go_wp2
   go_roundw
   case rel=>exact⟨k+1,v2,by go_num,by omega,hid (by rw[HST.out,← List.append_assoc];exact H2.out)⟩
   case measure=>simp[intOf];omega
  ·have hkl:k=ns.length:=by omega
   have HE:=hid (show aO p w wr v v1 (L++Bs ns)from by have:=HW.out;rwa [hkl,List.take_length]at this);go_wp2
   go_end0
   exact⟨rfl,v1,HE.out⟩
abbrev PW:Nat:=0
structure tp (w:World) (F:Nat→Prop) (g p b:Nat) (st:cZ) (l:kR):Prop where
 lg:sX w F g p l
 dk:db w p b st
 pow:Pow w
 ok:lu l
 far:∀k,F k→k≠p∧k≠b∧k≠PW
 pw:PW≠p∧PW≠b
def tq (w:World)(F:Nat→Prop)(g p b:Nat)(s:cZ×kR)(w':World):Prop:=
 ∃F',tp w' F' g p b s.1 s.2∧Fr (λk=>F k∨k=p∨k=b) w w'∧∀k,F' k→F k∨w.heap.size≤k
theorem tr {w W:World}(h:W.heap[PW]?=w.heap[PW]?)(hp:Pow w):Pow W:=by
 unfold Pow Lib.TabIs World.var? at hp ⊢;rw[show prog.globalNamed "internal/strconv.uint64pow10" = some 0 from by kernel_rfl]at hp ⊢;simp only[Option.bind_some]at hp ⊢;rw[h];exact hp
theorem tp.lt {w:World}{F:Nat→Prop}{g p b:Nat}{st:cZ}{l:kR}(h:tp w F g p b st l):∀k,F k→k<w.heap.size:=by
 obtain⟨_,_,_,_,_,_,_,h3⟩:=h.lg;exact h3
theorem tp.pure {w w':World}{F:Nat→Prop}{g p b:Nat}{st:cZ}{l:kR}(h:tp w F g p b st l)(hb:Below w.heap.size w w'):tp w' F g p b st l:=
 ⟨h.lg.pure hb,h.dk.pure hb,bS hb h.pow,h.ok,h.far,h.pw⟩
theorem tp.kept {w w':World}{T F:Nat→Prop}{g p b:Nat}{st:cZ}{l:kR}(h:tp w F g p b st l)(hf:Fr T w w')(ht:∀k,T k→¬F k∧k≠p∧k≠b∧k≠PW):tp w' F g p b st l:=
 ⟨h.lg.kept hf λk hk hT=>(ht k hT).1 hk,h.dk.kept hf (λhT=>(ht _ hT).2.1 rfl) (λhT=>(ht _ hT).2.2.1 rfl),hf.pow h.pow (λhT=>(ht _ hT).2.2.2 rfl),h.ok,h.far,h.pw⟩
theorem tp.stay {w w':World}{F:Nat→Prop}{g p b:Nat}{st:cZ}{l:kR}(h:tp w F g p b st l)(hb:Below w.heap.size w w'):tq w F g p b (st,l) w':=
 ⟨F,h.pure hb,Fr.pure hb,λ_ hk=>.inl hk⟩
theorem tp.disk {w w':World}{F:Nat→Prop}{g p b:Nat}{st st':cZ}{l:kR}(h:tp w F g p b st l)(hd:db w' p b st')(hf:dY p b w w'):tp w' F g p b st' l:=
 ⟨h.lg.kept hf λk hk hT=>hT.elim (h.far k hk).1 (h.far k hk).2.1,hd,hf.pow h.pow (λe=>e.elim h.pw.1 h.pw.2),h.ok,h.far,h.pw⟩
theorem tq.trans {w w1 w2:World}{F:Nat→Prop}{g p b:Nat}{s1 s2:cZ×kR}{st:cZ}{l:kR}(h0:tp w F g p b st l)(h:tq w F g p b s1 w1)(k:∀F',tp w1 F' g p b s1.1 s1.2→tq w1 F' g p b s2 w2):tq w F g p b s2 w2:=by
 obtain⟨F1,e1,f1,n1⟩:=h;obtain⟨F2,e2,f2,n2⟩:=k F1 e1;have hs:=f1.size;have hp:=h0.dk.lt;have hb:=h0.dk.own.lt;refine⟨F2,e2,f1.then f2 ?_,?_⟩
 ·rintro i hi (hi2|hi2)
  ·rcases n1 i hi2 with h|h
   ·exact .inl h
   ·omega
  ·exact .inr hi2
 ·intro i hi
  rcases n2 i hi with h|h
  ·exact n1 i h
  ·exact .inr (by omega)
theorem ts {q:Nat}(h:q≤1048576):hdF (q:Int)=(iM q,0):=by
 have hn:bW (q:Int)=true:=by unfold bW;simp;omega
 unfold hdF;rw[if_pos hn];rfl
theorem tt {w W:World}{base n size:Nat}{e:TypeId}{v:Value}{xs:List Value}(h:w.ownsRow base e size v n xs)(hs:∀k,v.ownBlock=some k→W.heap[k]?=w.heap[k]?):W.ownsRow base e size v n xs:=by
 obtain⟨h1,h2|⟨g,c,cur,rfl,hg,hb,r⟩⟩:=h
 ·exact⟨h1,.inl h2⟩
 ·exact⟨h1,.inr ⟨g,c,cur,rfl,hg,(hs g rfl).trans hb,r⟩⟩
theorem tu {w W:World}{k:Nat}(h1:k<w.heap.size)(h:W.heap[k]?=w.heap[k]?):k<W.heap.size:=by
 rw[Array.getElem?_eq_getElem h1]at h;exact lt_of_block h
theorem sX.same {w W:World}{F:Nat→Prop}{g p:Nat}{l:kR}(h:sX w F g p l)(he:∀k,F k→W.heap[k]?=w.heap[k]?):sX W F g p l:=by
 obtain⟨sv,iv,xs,S,h,h1,h2,h3⟩:=h;have hS:∀k,S k→W.heap[k]?=w.heap[k]?:=λk hk=>he k (h1 k hk);exact⟨sv,iv,xs,S,⟨(hS _ h.sg).trans h.cell,h.segs.same λk hk=>he k (h2 k hk),h.sfar,tt h.row λk hk=>hS k (h.siv k hk),h.len,
  λi hi hi'=>⟨(hS _ (h.sx _ (List.getElem_mem hi)).1).trans (h.ixs i hi hi').cell,tt (h.ixs i hi hi').own λk hk=>hS k ((h.sx _ (List.getElem_mem hi)).2 k hk)⟩,h.sg,h.siv,h.sx,h.apart,λk hk=>tu (h.lt k hk) (hS k hk)⟩,h1,h2,λk hk=>tu (h3 k hk) (he k hk)⟩
theorem lu.name_len {l:kR}(h:lu l):l.name.length=20:=by
 have h0:=h.pos;obtain⟨a,f,e,h1,h2⟩:=lP h.may (l.segs.length-1) (by omega);rw[lU h0,e];exact kA a f h1 h2
theorem tw {w:World}{F:Nat→Prop}{g p b:Nat}{st0:cZ}{l:kR}(h:tp w F g p b st0 l):sA p b w (λk=>F k∨k=PW) (55,#[.pointer (some ⟨g,0,none⟩)],#[]) (λst=>ln st l):=
 ⟨enters_of func55 (by kernel_rfl) rfl,λk hk=>by
  rcases hk with hk|rfl
  ·exact⟨h.lt k hk,(h.far k hk).1,(h.far k hk).2.1⟩
  ·exact⟨bR h.pow,h.pw⟩,
 λst W hd hf=>by
  have key:=ti W (tr (hf _ (.inr rfl)) h.pow) F g p b st l (h.lg.same λk hk=>hf k (.inl hk)) hd h.ok.pos (by have:=h.ok.few;omega) (by have:=h.ok.name_len;omega);simpa using key⟩
theorem tx (w:World)(q c g p b:Nat)(st:cZ)(G:Int)(sv:Value)(l:bI)(hq:w.cell? ⟨q,0,none⟩=some (.pointer (some ⟨g,0,none⟩)))(hg:w.cell? ⟨g,0,none⟩=some (.pointer (some ⟨p,0,none⟩)))(h0:w.cell? ⟨c,0,none⟩=some (.int .i64 G))(h1:w.cell? ⟨c,1,none⟩=some sv)(hs:bJ w sv l)(hl:l.length≤1099511627776)(h:db w p b st)(nq:q≠p∧q≠b)(ng:g≠p∧g≠b)(nc:c≠p∧c≠b) :
  Calls prog 109 #[.pointer (some ⟨q,0,none⟩),.pointer (some ⟨c,0,none⟩)] w λe w'=>d8 p b (jt st G l) w e w':=by
 have H:=hid h;have HS:=hid hs;obtain⟨a,cc,rfl⟩:=hs.shape;clear hs h
 go_enter func109,ntmps109
 go_wp2_with fail
 go_region_held3 (λw'=>w'.cell? ⟨q,0,none⟩=some (.pointer (some ⟨g,0,none⟩))∧w'.cell? ⟨g,0,none⟩=some (.pointer (some ⟨p,0,none⟩))∧w'.cell? ⟨c,0,none⟩=some (.int .i64 G)∧w'.cell? ⟨c,1,none⟩=some (.slice a l.length cc)) (first|exact⟨hq,hg,h0,h1⟩|exact⟨rq,rg,r0,r1⟩|go_keep) (first
  | (go_at_call 14;refine(jT _ p b st (by first|exact H.out|exact H.out.drew) G _ l (by first|exact HS.out|exact HS.out.pure (Below.refl _ _).drew) hl).mono ?_;rintro e w1 ⟨rfl,hd,hf⟩;have HD:=hid hd;have HF:=hid hf;have rq:=db.ofD hf hq nq.1 nq.2;have rg:=db.ofD hf hg ng.1 ng.2;have r0:=db.ofD hf h0 nc.1 nc.2;have r1:=db.ofD hf h1 nc.1 nc.2;clear hd hf))
 go_wp2;go_ret;exact⟨rfl,HD.out,(Fr.refl _ _).drew.trans HF.out⟩
theorem tA (w:World)(q c g p b:Nat)(G:Int)(sv:Value)(l:bI)(hq:w.cell? ⟨q,0,none⟩=some (.pointer (some ⟨g,0,none⟩)))(hg:w.cell? ⟨g,0,none⟩=some (.pointer (some ⟨p,0,none⟩)))(h0:w.cell? ⟨c,0,none⟩=some (.int .i64 G))(h1:w.cell? ⟨c,1,none⟩=some sv)(hs:bJ w sv l)(hl:l.length≤1099511627776)
  (K:Nat→Prop) (hK:∀k,K k→k<w.heap.size∧k≠p∧k≠b) (kq:K q) (kg:K g) (kc:K c) (ksv:∀k,sv.ownBlock=some k→K k) :
  sA p b w K (109,#[],#[.pointer (some ⟨q,0,none⟩),.pointer (some ⟨c,0,none⟩)]) (λst=>jt st G l):=
 ⟨enters_of func109 (by kernel_rfl) rfl,hK,λst W hd hf=>si (tx W q c g p b st G sv l (sz (hf _ kq) hq) (sz (hf _ kg) hg) (sz (hf _ kc) h0) (sz (hf _ kc) h1) (hs.same λk hk=>hf k (ksv k hk)) hl hd (hK q kq).2 (hK g kg).2 (hK c kc).2)⟩
end
end Go.Proofs.YthjjgcfdhkhelaaGreatDoor
