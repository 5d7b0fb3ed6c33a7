/- Lists of one event that moves the clock: said in the least version. -/
import Derived.Test.YthjjgcfdhkhelaaGreatDoorQAs
import Derived.Test.YthjjgcfdhkhelaaGreatDoorQAp
set_option maxHeartbeats 4000000
set_option maxRecDepth 100000
open Go.Lib(hid)
open Go.Proofs.Tryz
namespace Go.Proofs.YthjjgcfdhkhelaaGreatDoor
section
open Go.RowKit
theorem yw (w:World)(hk:uL w)(n:Int)(h1:1≤n)(h2:n≤1000)(h c:Nat)(hh:w.cell? ⟨h,0,none⟩=some (.int .i64 n)) :
  Calls prog 190 #[uX 3 h c] w λe w'=>(∃g d,e = .returned (.tuple #[uX 3 g d,.int .i64 0])∧w.heap.size≤g∧w'.cell? ⟨g,0,none⟩=some (.int .i64 n))∧Below w.heap.size w w':=by
 obtain⟨W0,hW0⟩:∃W0,W0=(w.alloc (.cells #[.int .u8 3,.int .u8 20,.slice (some ⟨h,0,none⟩) 1 c,.slice none 0 0] 189)).alloc (.cells #[.int .u8 0,.int .u8 0,.slice none 0 0,.slice none 0 0] 189):=⟨_,rfl⟩;have hb0:Below w.heap.size w W0:=by rw[hW0];exact((Below.refl _ _).alloc (Nat.le_refl _) _).alloc (by simp) _
 have k0:W0.heap[w.heap.size]?=some (.cells #[.int .u8 3,.int .u8 20,.slice (some ⟨h,0,none⟩) 1 c,.slice none 0 0] 189 (0,0)):=by rw[hW0];exact(Below.heap_alloc _ _ _ (by simp)).trans (heap_alloc_new _ _)
 have k1:W0.heap[w.heap.size+1]?=some (.cells #[.int .u8 0,.int .u8 0,.slice none 0 0,.slice none 0 0] 189 (0,0)):=by
  rw[hW0];have:=heap_alloc_new (w.alloc (.cells #[.int .u8 3,.int .u8 20,.slice (some ⟨h,0,none⟩) 1 c,.slice none 0 0] 189)) (.cells #[.int .u8 0,.int .u8 0,.slice none 0 0,.slice none 0 0] 189);simpa using this
 have HH:=hid (vd hh hb0);have HK:=hid (hk.pure hb0);have HB0:=hid hb0;have K0:=hid k0;have K1:=hid k1;have HN:=hid (And.intro h1 h2);clear hk hh hb0 k0 k1 h1 h2
 go_enter func190,ntmps190
 go_wp2_with fail
 rw[← hW0];refine(ys W0 HK.out 3 (.inr (.inr rfl)) n HN.out.1 HN.out.2 h c HH.out).mono ?_;rintro e w1 ⟨⟨g,d,rfl,hg,hc⟩,hb1⟩;have HB1:=hid (HB0.out.trans (hb1.mono HB0.out.size));have A1:=uZ K0.out hb1;have E1:=uZ K1.out hb1;have hal:∀o,Below w1.heap.size w1 (w1.alloc o):=λo=>(Below.refl _ _).alloc (Nat.le_refl _) _;have a0:=λo=>(uY (uZ A1 (hal o))).1;have e0:=λo=>(uY (uZ E1 (hal o))).1;have e1:=λo=>(uY (uZ E1 (hal o))).2.1;have e2:=λo=>(uY (uZ E1 (hal o))).2.2.1;have e3:=λo=>(uY (uZ E1 (hal o))).2.2.2.1;have ef:=λo=>(uY (uZ E1 (hal o))).2.2.2.2;have HG:=hid (And.intro hc (show w.heap.size≤g∧g≠w.heap.size+1 from⟨Nat.le_trans HB0.out.size hg,by have:=lt_of_block K1.out;omega⟩));clear hW0 A1 E1 hal hb1 hg hc;go_wp2;refine bodyPost_ret (v:=.tuple #[uX 3 g d,.int .i64 0]) (by simp[results,results190,go_sem,e0,e1,e2,e3]) rfl ⟨⟨g,d,rfl,HG.out.2.1,?_⟩,?_⟩
 ·exact ym HG.out.2.2 ((World.cell?_alloc_past _ _ _ (aw HG.out.1)).trans HG.out.1)
 ·exact(HB1.out.alloc HB1.out.size _).trans ((yl _ _ _ _ _ _).below (by simp;have:=HB1.out.size;omega) (λk hk e=>by omega))
theorem yx (w:World)(hk:uL w)(n:Nat)(h1:1≤n)(h2:n≤100)(h c:Nat)(hh:w.cell? ⟨h,0,none⟩=some (.int .i64 (n:Int))) :
  Calls prog 190 #[uX 1 h c] w λe w'=>(∃g d,e = .returned (.tuple #[uX 3 g d,.int .i64 0])∧w.heap.size≤g∧w'.cell? ⟨g,0,none⟩=some (.int .i64 (10*(n:Int))))∧Below w.heap.size w w':=by
 obtain⟨W0,hW0⟩:∃W0,W0=(w.alloc (.cells #[.int .u8 1,.int .u8 20,.slice (some ⟨h,0,none⟩) 1 c,.slice none 0 0] 189)).alloc (.cells #[.int .u8 0,.int .u8 0,.slice none 0 0,.slice none 0 0] 189):=⟨_,rfl⟩;have hb0:Below w.heap.size w W0:=by rw[hW0];exact((Below.refl _ _).alloc (Nat.le_refl _) _).alloc (by simp) _
 have k0:W0.heap[w.heap.size]?=some (.cells #[.int .u8 1,.int .u8 20,.slice (some ⟨h,0,none⟩) 1 c,.slice none 0 0] 189 (0,0)):=by rw[hW0];exact(Below.heap_alloc _ _ _ (by simp)).trans (heap_alloc_new _ _)
 have k1:W0.heap[w.heap.size+1]?=some (.cells #[.int .u8 0,.int .u8 0,.slice none 0 0,.slice none 0 0] 189 (0,0)):=by
  rw[hW0];have:=heap_alloc_new (w.alloc (.cells #[.int .u8 1,.int .u8 20,.slice (some ⟨h,0,none⟩) 1 c,.slice none 0 0] 189)) (.cells #[.int .u8 0,.int .u8 0,.slice none 0 0,.slice none 0 0] 189);simpa using this
 have HH:=hid (vd hh hb0);have HK:=hid (hk.pure hb0);have HB0:=hid hb0;have K0:=hid k0;have K1:=hid k1;clear hk hh hb0 k0 k1
 go_enter func190,ntmps190
 go_wp2_with fail
 rw[← hW0];refine(ys W0 HK.out 1 (.inl rfl) n (by omega) (by omega) h c HH.out).mono ?_;rintro e w1 ⟨⟨g,d,rfl,hg,hc⟩,hb1⟩;have hal:∀o,Below w1.heap.size w1 (w1.alloc o):=λo=>(Below.refl _ _).alloc (Nat.le_refl _) _;have HB1:=hid (HB0.out.trans (hb1.mono HB0.out.size));have HK1:=hid (HK.out.pure hb1);have A1:=uZ K0.out hb1;have E1:=hid (uZ K1.out hb1);have a0:=λo=>(uY (uZ A1 (hal o))).1;have HG:=hid (And.intro hc (show w.heap.size≤g from Nat.le_trans HB0.out.size hg));clear hW0 A1 hb1 hg hc
 go_wp2_with fail
 obtain⟨W2,hW2⟩:∃W2,W2=w1.alloc (.cells #[.int .u8 1,.int .u8 20,.slice (some ⟨g,0,none⟩) 1 d,.slice none 0 0] 189):=⟨_,rfl⟩;have hb2:Below w1.heap.size w1 W2:=by rw[hW2];exact hal _
 have O2:=hid (show W2.heap[w1.heap.size]?=some (.cells #[.int .u8 1,.int .u8 20,.slice (some ⟨g,0,none⟩) 1 d,.slice none 0 0] 189 (0,0))from by rw[hW2];exact heap_alloc_new _ _);rw[← hW2];clear hW2 a0 hal;refine(yh W2 (HK1.out.pure hb2) 1 (.inl rfl) n h1 h2 g d (vd HG.out.1 hb2)).mono ?_;rw[show ya 1*(n:Int)=(n:Int)from by simp[ya],show(1:Int)+1=2 from rfl];rintro e w3 ⟨⟨g3,d3,rfl,hg3,hc3⟩,hb3⟩;have HB3:=hid ((HB1.out.trans (hb2.mono HB1.out.size)).trans (hb3.mono (HB1.out.trans (hb2.mono HB1.out.size)).size));have HK3:=hid ((HK1.out.pure hb2).pure hb3);have E3:=hid (uZ (uZ E1.out hb2) hb3);have O3:=hid (uZ O2.out hb3);have HC3:=hid hc3;have HX:=hid (show w.heap.size+1<w1.heap.size∧w1.heap.size<g3∧KB<w1.heap.size from⟨lt_of_block E1.out,by have:=lt_of_block O2.out;omega,HK1.out.lt⟩);obtain⟨y0,y1,y2,y3,yf⟩:=uY O3.out;clear hb2 hb3 hg3 hc3
 go_wp2_with fail
 generalize hW4:(((w3.setCell _ _).setCell _ _).setCell _ _).setCell _ _=W4
 have hf4:Fr (λk=>k=w1.heap.size) w3 W4:=by rw[← hW4];exact yl _ _ _ _ _ _
 have O4:=hid (show W4.heap[w1.heap.size]?=some (.cells #[.int .u8 2,.int .u8 20,.slice (some ⟨g3,0,none⟩) 1 d3,.slice none 0 0] 189 (0,0))from by rw[← hW4];exact yn _ _ _ _ O3.out);have E4:=hid (hf4.heapAt E3.out (by have:=HX.out;omega));have hk4:=HK3.out.kept hf4 (by have:=HX.out;omega);have hc4:=hf4.cellAt HC3.out (by have:=HX.out;omega);have HB4:=hid (HB3.out.trans (hf4.below HB3.out.size (λk hk e=>by have:=HX.out;omega)));clear y0 y1 y2 y3 yf hW4 hf4;refine(yh W4 hk4 2 (.inr rfl) n h1 h2 g3 d3 hc4).mono ?_;rw[show ya 2*(n:Int)=10*(n:Int)from by simp[ya],show(2:Int)+1=3 from rfl];rintro e w5 ⟨⟨g5,d5,rfl,hg5,hc5⟩,hb5⟩;have HB5:=hid (HB4.out.trans (hb5.mono HB4.out.size));have E5:=hid (uZ E4.out hb5);have O5:=hid (uZ O4.out hb5);have HC5:=hid (And.intro hc5 (show w1.heap.size<g5 from by have:=lt_of_block O4.out;omega));obtain⟨y0,y1,y2,y3,yf⟩:=uY O5.out;clear hk4 hc4 hb5 hg5 hc5;have hsum:∀u0 u1 u2 u3,((((w5.setCell ⟨w1.heap.size,0,none⟩ u0).setCell ⟨w1.heap.size,1,none⟩ u1).setCell ⟨w1.heap.size,2,none⟩ u2).setCell ⟨w1.heap.size,3,none⟩ u3).heap[w.heap.size+1]?=some (.cells #[.int .u8 0,.int .u8 0,.slice none 0 0,.slice none 0 0] 189 (0,0)):=λu0 u1 u2 u3=>(yl w5 w1.heap.size u0 u1 u2 u3).heapAt E5.out (by have:=HX.out;omega);have e0:=λu0 u1 u2 u3=>(uY (hsum u0 u1 u2 u3)).1;have e1:=λu0 u1 u2 u3=>(uY (hsum u0 u1 u2 u3)).2.1;have e2:=λu0 u1 u2 u3=>(uY (hsum u0 u1 u2 u3)).2.2.1;have e3:=λu0 u1 u2 u3=>(uY (hsum u0 u1 u2 u3)).2.2.2.1;have ef:=λu0 u1 u2 u3=>(uY (hsum u0 u1 u2 u3)).2.2.2.2;go_wp2;refine bodyPost_ret (v:=.tuple #[uX 3 g5 d5,.int .i64 0]) (by simp[results,results190,go_sem,e0,e1,e2,e3]) rfl ⟨⟨g5,d5,rfl,by have:=HC5.out;have:=HX.out;omega,?_⟩,?_⟩
 ·exact ym (by have:=HC5.out;have:=HX.out;omega) (ym (by have:=HC5.out;omega) HC5.out.1)
 ·have hf:=yl w5 w1.heap.size (.int .u8 3) (.int .u8 20) (.slice (some ⟨g5,0,none⟩) 1 d5) (.slice none 0 0)
  have hb:=HB5.out.trans (hf.below HB5.out.size (λk hk e=>by have:=HX.out;omega));exact hb.trans ((yl _ _ _ _ _ _).below hb.size (λk hk e=>by omega))
end
section
open Go.RowKit Go.Maps Go.Sort
end
section
open Go.RowKit Go.Sort
def OneAt (w:World)(ob sb:Nat):Prop:=w.cell? ⟨ob,0,none⟩=some (.int .i64 99999999)∧w.cell? ⟨ob,1,none⟩=some (.slice (some ⟨sb,0,none⟩) 1 1)∧bJ w (.slice (some ⟨sb,0,none⟩) 1 1) [(99999999,1048576)]
theorem OneAt.pure {w w':World}{ob sb:Nat}(h:OneAt w ob sb)(hb:Below w.heap.size w w'):OneAt w' ob sb:=
 ⟨(hb.cell (p:=⟨ob,0,none⟩) (aw h.1)).trans h.1,(hb.cell (p:=⟨ob,1,none⟩) (aw h.2.1)).trans h.2.1,h.2.2.pure hb⟩
end
section
open Go.RowKit Go.Maps Go.Sort
def mt (s:List UInt8):Int×bI×Int:=if s.length<4 then (0,[],8) else if Crc.seal_ (s.take (s.length-4))=s then (match gD (s.take (s.length-4))with|some (g,l)=>(g,l,0)|none=>(0,[],4)) else (0,[],42)
def mu (r:Int×bI×Int)(w:World)(e:Ending)(w':World):Prop:=Below w.heap.size w w'∧∃v,e = .returned (.tuple #[.agg #[.int .i64 r.1,v],.int .i64 r.2.2])∧gO w' v r.2.1∧∀j,v.ownBlock=some j→w.heap.size≤j
theorem mv (w:World):gO w (.slice none 0 0) []:=World.ownsRow_nil _ _ _ _
theorem mw {w w':World}{e:Ending}(c:Int)(h:e = .returned (.tuple #[gG,.int .i64 c]))(hb:Below w.heap.size w w'):mu (0,[],c) w e w':=⟨hb,.slice none 0 0,h,mv _,λj e=>by simp[Value.ownBlock]at e⟩
theorem my (s:ByteArray)(w:World)(hs:s.size≤1099511627776):Calls prog 57 #[.string s] w λe w'=>mu (mt s.data.toList) w e w':=by
 by_cases h4:s.size<4
 ·have e1:mt s.data.toList=(0,[],8):=if_pos (by rw[ak];exact h4)
  rw[e1];exact(gH s w h4).mono λe w' h=>mw 8 h.1 h.2
 ·by_cases hS:fV s.data.toList
  ·have e1:mt s.data.toList=(match gD (s.data.toList.take (s.data.toList.length-4))with|some (g,l)=>(g,l,0)|none=>(0,[],4)):=(if_neg (by rw[ak];exact h4)).trans (if_pos hS.2)
   refine(gY s w hs hS _ rfl).mono ?_;intro e w' h;unfold gW at h;obtain⟨hb,h⟩:=h;rw[e1,ak];cases hp:gD (s.data.toList.take (s.size-4))with
   | none=>rw[hp]at h;exact mw 4 h hb
   | some q=>
    obtain⟨g,l⟩:=q;rw[hp]at h;obtain⟨v,hv,hvb,he⟩:=h;exact⟨hb,v,he,hv,hvb⟩
  ·have e1:mt s.data.toList=(0,[],42):=(if_neg (by rw[ak];exact h4)).trans (if_neg (λh=>hS ⟨by rw[ak];omega,h⟩))
   rw[e1];exact(gI s w (by omega) (by unfold maxLen;omega) hS).mono λe w' h=>mw 42 h.1 h.2
def mz (st:cZ):Int×bI×Int:=if (eI st jh).2≠0 then (0,[],(eI st jh).2) else mt (eI st jh).1
theorem mA {st:cZ}(h:DkOk st)(n:List UInt8):(eI st n).1.length≤1048576:=by
 unfold eI
 split
 ·simp
 ·cases hg:cM st.fs n with
  | none=>simp
  | some f=>
   show(f.firm++f.pend).length≤_;rw[List.length_append];exact h.fs.small f (List.mem_of_find?_eq_some hg)
theorem mC (w:World)(p b:Nat)(st:cZ)(h:db w p b st) :
  Calls prog 13 #[.pointer (some ⟨p,0,none⟩)] w λe w'=>mu (mz st) w e w':=by
 refine(jV w p b st h (λg l c=>(g,l,c)=mz st) (λh0 s W hs=>?_) (λh0=>?_)).mono ?_
 ·have e1:mz st=mt s.data.toList:=by unfold mz;rw[if_neg (λh=>h h0),hs]
  rw[e1];refine(my s W (by rw[ao hs];have:=mA h.ok jh;omega)).mono ?_;rintro e w' ⟨hb,v,he,hv,hvb⟩;exact⟨hb,_,_,_,v,rfl,hv,hvb,he⟩
 ·unfold mz;rw[if_pos h0]
 ·rintro e w' ⟨hb,c,g,l,v,hP,hv,hvb,he⟩
  rw[← hP];exact⟨hb,v,he,hv,hvb⟩
end
section
open Go.RowKit
def Cn {α:Type}(enc:α→List Value)(k:Nat)(F:Nat→Prop)(w:World)(sv:Value)(xs:List α):Prop:=
 ∃a c,sv = .slice a xs.length c∧xs.length≤c∧(xs=[]∨∃b o,a=some ⟨b,o,none⟩∧F b∧∀i (h:i<xs.length) j v,(enc xs[i])[j]?=some v→w.cell? ⟨b,o+(i*k+j),none⟩=some v)
section
variable {α:Type} {enc:α→List Value} {k:Nat} {F:Nat→Prop}
theorem Cn.shape {w:World}{sv:Value}{xs:List α}(h:Cn enc k F w sv xs):∃a c,sv = .slice a xs.length c:=by obtain⟨a,c,h,_⟩:=h;exact⟨a,c,h⟩
theorem Cn.kept {S:Nat→Prop}{w w':World}{sv:Value}{xs:List α}(h:Cn enc k F w sv xs)(hf:Fr S w w')(hS:∀g,F g→¬S g):Cn enc k F w' sv xs:=by
 obtain⟨a,c,rfl,hc,h|⟨b,o,rfl,hb,h⟩⟩:=h
 ·exact⟨a,c,rfl,hc,.inl h⟩
 ·exact⟨_,c,rfl,hc,.inr ⟨b,o,rfl,hb,λi hi j v hv=>hf.cellAt (h i hi j v hv) (hS b hb)⟩⟩
theorem Cn.pure {w w':World}{sv:Value}{xs:List α}(h:Cn enc k F w sv xs)(hb:Below w.heap.size w w'):Cn enc k F w' sv xs:=h.kept (Fr.pure (S:=λ_=>False) hb) (λ_ _ h=>h)
theorem Cn.mono {G:Nat→Prop}{w:World}{sv:Value}{xs:List α}(h:Cn enc k F w sv xs)(hF:∀g,F g→G g):Cn enc k G w sv xs:=by
 obtain⟨a,c,rfl,hc,h|⟨b,o,rfl,hb,h⟩⟩:=h
 ·exact⟨a,c,rfl,hc,.inl h⟩
 ·exact⟨_,c,rfl,hc,.inr ⟨b,o,rfl,hF b hb,h⟩⟩
theorem Cn.nil (w:World):Cn enc k F w (.slice none 0 0) ([]:List α):=⟨none,0,rfl,by simp,.inl rfl⟩
theorem Cn.get {w:World}{a:Option Addr}{c n:Nat}{xs:List α}(h:Cn enc k F w (.slice a n c) xs)(i:Nat)(hi:i<xs.length) :
  ∃b o,a=some ⟨b,o,none⟩∧F b∧∀j v,(enc xs[i])[j]?=some v→w.cell? ⟨b,o+(i*k+j),none⟩=some v:=by
 obtain⟨a',c',he,_,h|⟨b,o,rfl,hb,h⟩⟩:=h
 ·subst h;simp at hi
 ·cases he;exact⟨b,o,rfl,hb,h i hi⟩
theorem Co {k:Nat}(hk:∀x,(enc x).length=k):∀(xs:List α) (i:Nat) (hi:i<xs.length) (j:Nat) (v:Value),(enc xs[i])[j]?=some v→(xs.flatMap enc)[i*k+j]?=some v
 | x::r,0,_,j,v,h=>by
  rw[List.flatMap_cons,Nat.zero_mul,Nat.zero_add,List.getElem?_append_left]
  ·exact h
  ·exact(List.getElem?_eq_some_iff.1 h).1
 | x::r,i+1,hi,j,v,h=>by
  rw[List.flatMap_cons,List.getElem?_append_right (by rw[hk];rw[Nat.succ_mul];omega),hk,show(i+1)*k+j-k=i*k+j from by rw[Nat.succ_mul];omega];exact Co hk r i (by simpa using hi) j v h
theorem Cn.of_own {w:World}{base:Nat}{e:TypeId}{v:Value}{xs:List α}(hk:∀x,(enc x).length=k)(h:w.ownsRow base e k v xs.length (xs.flatMap enc))(hF:∀g,v.ownBlock=some g→F g):Cn enc k F w v xs:=by
 rcases h.2 with⟨rfl,hn⟩|⟨g,cap,cur,rfl,hb,hh,hn,_,hsz,ht⟩
 ·exact⟨none,0,by rw[hn],by omega,.inl (List.eq_nil_of_length_eq_zero hn)⟩
 ·refine⟨_,cap,rfl,hn,.inr ⟨g,0,rfl,hF g rfl,λi hi j v hv=>?_⟩⟩
  have h1:=Co hk xs i hi j v hv;rw[Nat.zero_add,cell_of_row w g _ _ _ _ hh];rw[← ht]at h1;have h2:=(List.getElem?_eq_some_iff.1 h1).1;rw[List.getElem?_take,if_pos (by rw[List.length_take]at h2;omega)]at h1;rw[← Array.getElem?_toList];exact h1
end
structure AccD where
 name:List UInt8
 opn:Bool
deriving DecidableEq
def AccD.cells (x:AccD):List Value:=[.string ⟨x.name.toArray⟩,.bool x.opn]
def AccD.agg (x:AccD):Value:=.agg #[.string ⟨x.name.toArray⟩,.bool x.opn]
abbrev AccsAt (F:Nat→Prop) (w:World) (sv:Value) (xs:List AccD):Prop:=Cn AccD.cells 2 F w sv xs
theorem AccD.at {F:Nat→Prop}{w:World}{a:Option Addr}{c n:Nat}{xs:List AccD}(h:AccsAt F w (.slice a n c) xs)(k:Nat)(hk:k<xs.length) :
  ∃b o,a=some ⟨b,o,none⟩∧F b∧b<w.heap.size∧w.cell? ⟨b,o+k*2,none⟩=some (.string ⟨xs[k].name.toArray⟩)∧w.cell? ⟨b,o+k*2+1,none⟩=some (.bool xs[k].opn):=by
 obtain⟨b,o,ha,hb,hc⟩:=h.get k hk;exact⟨b,o,ha,hb,aw (hc 0 _ rfl),hc 0 _ rfl,hc 1 _ rfl⟩
structure InsD where
 name:List UInt8
 tick:Int
 halt:Bool
deriving DecidableEq
def InsD.cells (x:InsD):List Value:=[.string ⟨x.name.toArray⟩,.int .i64 x.tick,.bool x.halt]
def InsD.agg (x:InsD):Value:=.agg #[.string ⟨x.name.toArray⟩,.int .i64 x.tick,.bool x.halt]
abbrev InssAt (F:Nat→Prop) (w:World) (sv:Value) (xs:List InsD):Prop:=Cn InsD.cells 3 F w sv xs
theorem InsD.at {F:Nat→Prop}{w:World}{a:Option Addr}{c n:Nat}{xs:List InsD}(h:InssAt F w (.slice a n c) xs)(k:Nat)(hk:k<xs.length) :
  ∃b o,a=some ⟨b,o,none⟩∧F b∧b<w.heap.size∧w.cell? ⟨b,o+k*3,none⟩=some (.string ⟨xs[k].name.toArray⟩)∧w.cell? ⟨b,o+k*3+1,none⟩=some (.int .i64 xs[k].tick)∧w.cell? ⟨b,o+k*3+2,none⟩=some (.bool xs[k].halt):=by
 obtain⟨b,o,ha,hb,hc⟩:=h.get k hk;exact⟨b,o,ha,hb,aw (hc 0 _ rfl),hc 0 _ rfl,hc 1 _ rfl,hc 2 _ rfl⟩
structure RowD where
 acct:Int
 asset:Int
 free:Int
 held:Int
deriving DecidableEq
def RowD.cells (x:RowD):List Value:=[.int .i64 x.acct,.int .i64 x.asset,.int .i64 x.free,.int .i64 x.held]
def RowD.agg (x:RowD):Value:=.agg #[.int .i64 x.acct,.int .i64 x.asset,.int .i64 x.free,.int .i64 x.held]
abbrev RowsAt (F:Nat→Prop) (w:World) (sv:Value) (xs:List RowD):Prop:=Cn RowD.cells 4 F w sv xs
theorem RowD.at {F:Nat→Prop}{w:World}{a:Option Addr}{c n:Nat}{xs:List RowD}(h:RowsAt F w (.slice a n c) xs)(k:Nat)(hk:k<xs.length) :
  ∃b o,a=some ⟨b,o,none⟩∧F b∧b<w.heap.size∧w.cell? ⟨b,o+k*4,none⟩=some (.int .i64 xs[k].acct)∧w.cell? ⟨b,o+k*4+1,none⟩=some (.int .i64 xs[k].asset)∧w.cell? ⟨b,o+k*4+2,none⟩=some (.int .i64 xs[k].free)∧w.cell? ⟨b,o+k*4+3,none⟩=some (.int .i64 xs[k].held):=by
 obtain⟨b,o,ha,hb,hc⟩:=h.get k hk;exact⟨b,o,ha,hb,aw (hc 0 _ rfl),hc 0 _ rfl,hc 1 _ rfl,hc 2 _ rfl,hc 3 _ rfl⟩
structure OrdD where
 id:Int
 acct:Int
 inst:Int
 side:Int
 price:Int
 left:Int
deriving DecidableEq
def OrdD.cells (x:OrdD):List Value:=[.int .i64 x.id,.int .i64 x.acct,.int .i64 x.inst,.int .u8 x.side,.int .i64 x.price,.int .i64 x.left]
def OrdD.agg (x:OrdD):Value:=.agg #[.int .i64 x.id,.int .i64 x.acct,.int .i64 x.inst,.int .u8 x.side,.int .i64 x.price,.int .i64 x.left]
abbrev OrdsAt (F:Nat→Prop) (w:World) (sv:Value) (xs:List OrdD):Prop:=Cn OrdD.cells 6 F w sv xs
theorem OrdD.at {F:Nat→Prop}{w:World}{a:Option Addr}{c n:Nat}{xs:List OrdD}(h:OrdsAt F w (.slice a n c) xs)(k:Nat)(hk:k<xs.length) :
  ∃b o,a=some ⟨b,o,none⟩∧F b∧b<w.heap.size∧w.cell? ⟨b,o+k*6,none⟩=some (.int .i64 xs[k].id)∧w.cell? ⟨b,o+k*6+1,none⟩=some (.int .i64 xs[k].acct)∧w.cell? ⟨b,o+k*6+2,none⟩=some (.int .i64 xs[k].inst)∧w.cell? ⟨b,o+k*6+3,none⟩=some (.int .u8 xs[k].side)∧w.cell? ⟨b,o+k*6+4,none⟩=some (.int .i64 xs[k].price)∧w.cell? ⟨b,o+k*6+5,none⟩=some (.int .i64 xs[k].left):=by
 obtain⟨b,o,ha,hb,hc⟩:=h.get k hk;exact⟨b,o,ha,hb,aw (hc 0 _ rfl),hc 0 _ rfl,hc 1 _ rfl,hc 2 _ rfl,hc 3 _ rfl,hc 4 _ rfl,hc 5 _ rfl⟩
structure BidD where
 acct:Int
 amount:Int
deriving DecidableEq
def BidD.cells (x:BidD):List Value:=[.int .i64 x.acct,.int .i64 x.amount]
def BidD.agg (x:BidD):Value:=.agg #[.int .i64 x.acct,.int .i64 x.amount]
abbrev BidsAt (F:Nat→Prop) (w:World) (sv:Value) (xs:List BidD):Prop:=Cn BidD.cells 2 F w sv xs
theorem BidD.at {F:Nat→Prop}{w:World}{a:Option Addr}{c n:Nat}{xs:List BidD}(h:BidsAt F w (.slice a n c) xs)(k:Nat)(hk:k<xs.length) :
  ∃b o,a=some ⟨b,o,none⟩∧F b∧b<w.heap.size∧w.cell? ⟨b,o+k*2,none⟩=some (.int .i64 xs[k].acct)∧w.cell? ⟨b,o+k*2+1,none⟩=some (.int .i64 xs[k].amount):=by
 obtain⟨b,o,ha,hb,hc⟩:=h.get k hk;exact⟨b,o,ha,hb,aw (hc 0 _ rfl),hc 0 _ rfl,hc 1 _ rfl⟩
structure AucD where
 id:Int
 seller:Int
 inst:Int
 sealed:Bool
 qty:Int
 reserve:Int
 step:Int
 fin:Int
 bids:List BidD
deriving DecidableEq
def AucD.cells (x:AucD×Value):List Value:=[.int .i64 x.1.id,.int .i64 x.1.seller,.int .i64 x.1.inst,.bool x.1.sealed,.int .i64 x.1.qty,.int .i64 x.1.reserve,.int .i64 x.1.step,.int .i64 x.1.fin,x.2]
def AucD.agg (x:AucD)(bv:Value):Value:=.agg #[.int .i64 x.id,.int .i64 x.seller,.int .i64 x.inst,.bool x.sealed,.int .i64 x.qty,.int .i64 x.reserve,.int .i64 x.step,.int .i64 x.fin,bv]
def Cp (F:Nat→Prop)(w:World)(sv:Value)(xs:List AucD):Prop:=∃ms:List (AucD×Value),ms.map (·.1)=xs∧Cn AucD.cells 9 F w sv ms∧∀m∈ms,BidsAt F w m.2 m.1.bids
theorem Cp.shape {F:Nat→Prop}{w:World}{sv:Value}{xs:List AucD}(h:Cp F w sv xs):∃a c,sv = .slice a xs.length c:=by
 obtain⟨ms,rfl,h,_⟩:=h;obtain⟨a,c,e⟩:=h.shape;exact⟨a,c,by rw[e,List.length_map]⟩
theorem Cp.kept {S F:Nat→Prop}{w w':World}{sv:Value}{xs:List AucD}(h:Cp F w sv xs)(hf:Fr S w w')(hS:∀g,F g→¬S g):Cp F w' sv xs:=by
 obtain⟨ms,e,h1,h2⟩:=h;exact⟨ms,e,h1.kept hf hS,λm hm=>(h2 m hm).kept hf hS⟩
theorem Cp.pure {F:Nat→Prop}{w w':World}{sv:Value}{xs:List AucD}(h:Cp F w sv xs)(hb:Below w.heap.size w w'):Cp F w' sv xs:=h.kept (Fr.pure (S:=λ_=>False) hb) (λ_ _ h=>h)
theorem Cp.mono {F G:Nat→Prop}{w:World}{sv:Value}{xs:List AucD}(h:Cp F w sv xs)(hF:∀g,F g→G g):Cp G w sv xs:=by
 obtain⟨ms,e,h1,h2⟩:=h;exact⟨ms,e,h1.mono hF,λm hm=>(h2 m hm).mono hF⟩
theorem Cp.nil {F:Nat→Prop}(w:World):Cp F w (.slice none 0 0) []:=⟨[],rfl,Cn.nil w,by simp⟩
theorem Cp.at {F:Nat→Prop}{w:World}{a:Option Addr}{c n:Nat}{xs:List AucD}(h:Cp F w (.slice a n c) xs)(k:Nat)(hk:k<xs.length) :
  ∃b o bv,a=some ⟨b,o,none⟩∧F b∧b<w.heap.size∧BidsAt F w bv xs[k].bids∧w.cell? ⟨b,o+k*9,none⟩=some (.int .i64 xs[k].id)∧w.cell? ⟨b,o+k*9+1,none⟩=some (.int .i64 xs[k].seller)∧w.cell? ⟨b,o+k*9+2,none⟩=some (.int .i64 xs[k].inst)∧w.cell? ⟨b,o+k*9+3,none⟩=some (.bool xs[k].sealed)∧w.cell? ⟨b,o+k*9+4,none⟩=some (.int .i64 xs[k].qty)∧w.cell? ⟨b,o+k*9+5,none⟩=some (.int .i64 xs[k].reserve)∧w.cell? ⟨b,o+k*9+6,none⟩=some (.int .i64 xs[k].step)∧w.cell? ⟨b,o+k*9+7,none⟩=some (.int .i64 xs[k].fin)∧w.cell? ⟨b,o+k*9+8,none⟩=some (bv):=by
 obtain⟨ms,rfl,h1,h2⟩:=h;rw[List.length_map]at hk;obtain⟨b,o,ha,hb,hc⟩:=h1.get k hk;simp only[List.getElem_map];have hm:=h2 _ (List.getElem_mem hk);refine⟨b,o,ms[k].2,ha,hb,aw (hc 0 _ rfl),hm,hc 0 _ rfl,hc 1 _ rfl,hc 2 _ rfl,hc 3 _ rfl,hc 4 _ rfl,hc 5 _ rfl,hc 6 _ rfl,hc 7 _ rfl,hc 8 _ rfl⟩
structure OpnD where
 acct:Int
 id:Int
 inst:Int
 side:Int
 price:Int
 left:Int
deriving DecidableEq
def OpnD.cells (x:OpnD):List Value:=[.int .i64 x.acct,.int .i64 x.id,.int .i64 x.inst,.int .u8 x.side,.int .i64 x.price,.int .i64 x.left]
def OpnD.agg (x:OpnD):Value:=.agg #[.int .i64 x.acct,.int .i64 x.id,.int .i64 x.inst,.int .u8 x.side,.int .i64 x.price,.int .i64 x.left]
abbrev OpnsAt (F:Nat→Prop) (w:World) (sv:Value) (xs:List OpnD):Prop:=Cn OpnD.cells 6 F w sv xs
theorem OpnD.at {F:Nat→Prop}{w:World}{a:Option Addr}{c n:Nat}{xs:List OpnD}(h:OpnsAt F w (.slice a n c) xs)(k:Nat)(hk:k<xs.length) :
  ∃b o,a=some ⟨b,o,none⟩∧F b∧b<w.heap.size∧w.cell? ⟨b,o+k*6,none⟩=some (.int .i64 xs[k].acct)∧w.cell? ⟨b,o+k*6+1,none⟩=some (.int .i64 xs[k].id)∧w.cell? ⟨b,o+k*6+2,none⟩=some (.int .i64 xs[k].inst)∧w.cell? ⟨b,o+k*6+3,none⟩=some (.int .u8 xs[k].side)∧w.cell? ⟨b,o+k*6+4,none⟩=some (.int .i64 xs[k].price)∧w.cell? ⟨b,o+k*6+5,none⟩=some (.int .i64 xs[k].left):=by
 obtain⟨b,o,ha,hb,hc⟩:=h.get k hk;exact⟨b,o,ha,hb,aw (hc 0 _ rfl),hc 0 _ rfl,hc 1 _ rfl,hc 2 _ rfl,hc 3 _ rfl,hc 4 _ rfl,hc 5 _ rfl⟩
structure LotD where
 id:Int
 seller:Int
 inst:Int
 qty:Int
deriving DecidableEq
def LotD.cells (x:LotD):List Value:=[.int .i64 x.id,.int .i64 x.seller,.int .i64 x.inst,.int .i64 x.qty]
def LotD.agg (x:LotD):Value:=.agg #[.int .i64 x.id,.int .i64 x.seller,.int .i64 x.inst,.int .i64 x.qty]
abbrev LotsAt (F:Nat→Prop) (w:World) (sv:Value) (xs:List LotD):Prop:=Cn LotD.cells 4 F w sv xs
theorem LotD.at {F:Nat→Prop}{w:World}{a:Option Addr}{c n:Nat}{xs:List LotD}(h:LotsAt F w (.slice a n c) xs)(k:Nat)(hk:k<xs.length) :
  ∃b o,a=some ⟨b,o,none⟩∧F b∧b<w.heap.size∧w.cell? ⟨b,o+k*4,none⟩=some (.int .i64 xs[k].id)∧w.cell? ⟨b,o+k*4+1,none⟩=some (.int .i64 xs[k].seller)∧w.cell? ⟨b,o+k*4+2,none⟩=some (.int .i64 xs[k].inst)∧w.cell? ⟨b,o+k*4+3,none⟩=some (.int .i64 xs[k].qty):=by
 obtain⟨b,o,ha,hb,hc⟩:=h.get k hk;exact⟨b,o,ha,hb,aw (hc 0 _ rfl),hc 0 _ rfl,hc 1 _ rfl,hc 2 _ rfl,hc 3 _ rfl⟩
structure PosD where
 acct:Int
 inst:Int
 bought:Int
 sold:Int
 spent:Int
 got:Int
deriving DecidableEq
def PosD.cells (x:PosD):List Value:=[.int .i64 x.acct,.int .i64 x.inst,.int .i64 x.bought,.int .i64 x.sold,.int .i64 x.spent,.int .i64 x.got]
def PosD.agg (x:PosD):Value:=.agg #[.int .i64 x.acct,.int .i64 x.inst,.int .i64 x.bought,.int .i64 x.sold,.int .i64 x.spent,.int .i64 x.got]
abbrev PossAt (F:Nat→Prop) (w:World) (sv:Value) (xs:List PosD):Prop:=Cn PosD.cells 6 F w sv xs
theorem PosD.at {F:Nat→Prop}{w:World}{a:Option Addr}{c n:Nat}{xs:List PosD}(h:PossAt F w (.slice a n c) xs)(k:Nat)(hk:k<xs.length) :
  ∃b o,a=some ⟨b,o,none⟩∧F b∧b<w.heap.size∧w.cell? ⟨b,o+k*6,none⟩=some (.int .i64 xs[k].acct)∧w.cell? ⟨b,o+k*6+1,none⟩=some (.int .i64 xs[k].inst)∧w.cell? ⟨b,o+k*6+2,none⟩=some (.int .i64 xs[k].bought)∧w.cell? ⟨b,o+k*6+3,none⟩=some (.int .i64 xs[k].sold)∧w.cell? ⟨b,o+k*6+4,none⟩=some (.int .i64 xs[k].spent)∧w.cell? ⟨b,o+k*6+5,none⟩=some (.int .i64 xs[k].got):=by
 obtain⟨b,o,ha,hb,hc⟩:=h.get k hk;exact⟨b,o,ha,hb,aw (hc 0 _ rfl),hc 0 _ rfl,hc 1 _ rfl,hc 2 _ rfl,hc 3 _ rfl,hc 4 _ rfl,hc 5 _ rfl⟩
structure LinD where
 acct:Int
 seq:Int
 kind:Int
 delta:Int
 balance:Int
deriving DecidableEq
def LinD.cells (x:LinD):List Value:=[.int .i64 x.acct,.int .i64 x.seq,.int .u8 x.kind,.int .i64 x.delta,.int .i64 x.balance]
def LinD.agg (x:LinD):Value:=.agg #[.int .i64 x.acct,.int .i64 x.seq,.int .u8 x.kind,.int .i64 x.delta,.int .i64 x.balance]
abbrev LinsAt (F:Nat→Prop) (w:World) (sv:Value) (xs:List LinD):Prop:=Cn LinD.cells 5 F w sv xs
theorem LinD.at {F:Nat→Prop}{w:World}{a:Option Addr}{c n:Nat}{xs:List LinD}(h:LinsAt F w (.slice a n c) xs)(k:Nat)(hk:k<xs.length) :
  ∃b o,a=some ⟨b,o,none⟩∧F b∧b<w.heap.size∧w.cell? ⟨b,o+k*5,none⟩=some (.int .i64 xs[k].acct)∧w.cell? ⟨b,o+k*5+1,none⟩=some (.int .i64 xs[k].seq)∧w.cell? ⟨b,o+k*5+2,none⟩=some (.int .u8 xs[k].kind)∧w.cell? ⟨b,o+k*5+3,none⟩=some (.int .i64 xs[k].delta)∧w.cell? ⟨b,o+k*5+4,none⟩=some (.int .i64 xs[k].balance):=by
 obtain⟨b,o,ha,hb,hc⟩:=h.get k hk;exact⟨b,o,ha,hb,aw (hc 0 _ rfl),hc 0 _ rfl,hc 1 _ rfl,hc 2 _ rfl,hc 3 _ rfl,hc 4 _ rfl⟩
structure StD where
 clock:Int
 fee:Int
 nextO:Int
 nextA:Int
 accts:List AccD
 insts:List InsD
 rows:List RowD
 ords:List OrdD
 aucs:List AucD
deriving DecidableEq
structure VwD where
 open_:List OpnD
 lots:List LotD
 poss:List PosD
 lins:List LinD
deriving DecidableEq
structure StV where
 a:Value
 i:Value
 r:Value
 o:Value
 u:Value
structure VwV where
 o:Value
 l:Value
 p:Value
 n:Value
structure StAt (F:Nat→Prop) (w:World) (v:StV) (s:StD):Prop where
 a:AccsAt F w v.a s.accts
 i:InssAt F w v.i s.insts
 r:RowsAt F w v.r s.rows
 o:OrdsAt F w v.o s.ords
 u:Cp F w v.u s.aucs
structure VwAt (F:Nat→Prop) (w:World) (v:VwV) (d:VwD):Prop where
 o:OpnsAt F w v.o d.open_
 l:LotsAt F w v.l d.lots
 p:PossAt F w v.p d.poss
 n:LinsAt F w v.n d.lins
theorem StAt.kept {S F:Nat→Prop}{w w':World}{v:StV}{s:StD}(h:StAt F w v s)(hf:Fr S w w')(hS:∀g,F g→¬S g):StAt F w' v s:=⟨h.a.kept hf hS,h.i.kept hf hS,h.r.kept hf hS,h.o.kept hf hS,h.u.kept hf hS⟩
theorem StAt.pure {F:Nat→Prop}{w w':World}{v:StV}{s:StD}(h:StAt F w v s)(hb:Below w.heap.size w w'):StAt F w' v s:=h.kept (Fr.pure (S:=λ_=>False) hb) (λ_ _ h=>h)
theorem StAt.mono {F G:Nat→Prop}{w:World}{v:StV}{s:StD}(h:StAt F w v s)(hF:∀g,F g→G g):StAt G w v s:=⟨h.a.mono hF,h.i.mono hF,h.r.mono hF,h.o.mono hF,h.u.mono hF⟩
theorem VwAt.kept {S F:Nat→Prop}{w w':World}{v:VwV}{d:VwD}(h:VwAt F w v d)(hf:Fr S w w')(hS:∀g,F g→¬S g):VwAt F w' v d:=⟨h.o.kept hf hS,h.l.kept hf hS,h.p.kept hf hS,h.n.kept hf hS⟩
theorem VwAt.pure {F:Nat→Prop}{w w':World}{v:VwV}{d:VwD}(h:VwAt F w v d)(hb:Below w.heap.size w w'):VwAt F w' v d:=h.kept (Fr.pure (S:=λ_=>False) hb) (λ_ _ h=>h)
theorem VwAt.mono {F G:Nat→Prop}{w:World}{v:VwV}{d:VwD}(h:VwAt F w v d)(hF:∀g,F g→G g):VwAt G w v d:=⟨h.o.mono hF,h.l.mono hF,h.p.mono hF,h.n.mono hF⟩
end
section
open Go.RowKit
structure yy (w:World) (q:Nat) (v:Int) (h c:Nat) (n:Int):Prop where
 c0:w.cell? ⟨q,0,none⟩=some (.int .u8 v)
 c1:w.cell? ⟨q,1,none⟩=some (.int .u8 20)
 c2:w.cell? ⟨q,2,none⟩=some (.slice (some ⟨h,0,none⟩) 1 c)
 c3:w.cell? ⟨q,3,none⟩=some (.slice none 0 0)
 n:w.cell? ⟨h,0,none⟩=some (.int .i64 n)
 z:∀j:Nat,w.frozen? ⟨q,j,none⟩=false
theorem yy.pure {w w':World}{q:Nat}{v:Int}{h c:Nat}{n:Int}(hr:yy w q v h c n)(hb:Below w.heap.size w w'):yy w' q v h c n:=⟨vd hr.c0 hb,vd hr.c1 hb,vd hr.c2 hb,vd hr.c3 hb,vd hr.n hb,λj=>(World.frozen?_of_block (w:=w) (hb.block q (aw hr.c0))).trans (hr.z j)⟩
theorem yz (w:World)(q cq:Nat)(v:Int)(h c:Nat)(n:Int)(hr:yy w q v h c n)(fk:FuncId)(hent:∀(args:Array Value) (w:World),(callFunc fk args).run prog w = .ok (.enter fk args) w)(cs:Array Value)
  (hcall:∀W:World,Below w.heap.size w W→Calls prog fk (#[uX v h c]++cs) W λe w'=>e = .returned (.bool false)∧Below W.heap.size W w') :
  Calls prog 285 #[.slice (some ⟨q,0,none⟩) 1 cq,.func (.func fk) #[] cs] w λe w'=>e = .returned (.int .i64 (-1))∧Below w.heap.size w w':=by
 obtain⟨x0,x1,x2,x3,_,_⟩:=hr;have HC:=hid hcall;have ent:=hent;clear hcall hent
 go_enter func285,ntmps285
 go_wp2_with fail
 refine wp_loop_rounds 2 ?_;rw[rounds_succ]
 go_wp2_with fail
 refine(HC.out w (Below.refl _ _)).mono ?_;rintro e w1 ⟨rfl,hb1⟩;have HB1:=hid hb1;clear hb1 x0 x1 x2 x3;go_wp2;rw[rounds_succ];go_wp2;go_ret;exact⟨rfl,HB1.out⟩
theorem yA (w:World)(q cq:Nat)(v:Int)(h c:Nat)(n:Int)(hr:yy w q v h c n)(fk:FuncId)(hent:∀(args:Array Value) (w:World),(callFunc fk args).run prog w = .ok (.enter fk args) w)(cs:Array Value)
  (hcall:∀W:World,Below w.heap.size w W→Calls prog fk (#[uX v h c]++cs) W λe w'=>e = .returned (.bool false)∧Below W.heap.size W w') :
  Calls prog 214 #[.slice (some ⟨q,0,none⟩) 1 cq,.func (.func fk) #[] cs] w λe w'=>e = .returned (.bool false)∧Below w.heap.size w w':=by
 have HI:=hid (yz w q cq v h c n hr fk hent cs hcall);clear hr hcall hent
 go_enter func214,ntmps214
 go_wp2_with fail
 refine HI.out.mono ?_;rintro e w1 ⟨rfl,hb⟩;have HB:=hid hb;clear hb;go_wp2;go_ret;exact⟨rfl,HB.out⟩
theorem yC (w:World)(hk:uL w)(v:Int)(hv:v=1∨v=2∨v=3)(n:Int)(h1:1≤n)(h2:n≤1000)(h c:Nat)(hh:w.cell? ⟨h,0,none⟩=some (.int .i64 n)) :
  Calls prog 215 #[uX v h c] w λe w'=>e = .returned (.bool false)∧Below w.heap.size w w':=by
 have hb:∀o,Below w.heap.size w (w.alloc o):=λo=>(Below.refl _ _).alloc (Nat.le_refl _) _;have HM:=hid (λo=>ve (w.alloc o) (hk.pure (hb o)) v hv n h1 h2 h c (vd hh (hb o)));clear hk hv h1 h2 hh hb
 go_enter func215,ntmps215
 go_wp2_with fail
 refine(HM.out _).mono ?_;rintro e w1 ⟨rfl,hb1⟩;have HB:=hid (ax (hb1.mono (by simp)));clear hb1;go_wp2;go_ret;exact⟨rfl,HB.out⟩
def yD (f:FuncId)(args:Array Value)(w:World)(t m:Int):Prop:=
 Calls prog f args w λe w'=>(∃g d,e = .returned (.tuple #[uX t g d,.int .i64 0])∧w.heap.size≤g∧w'.cell? ⟨g,0,none⟩=some (.int .i64 m))∧Below w.heap.size w w'
theorem yE (w:World)(vb h c:Nat)(t m:Int)(hvb:w.cell? ⟨vb,0,none⟩=some (.int .u8 t))(hto:∀W,Below w.heap.size w W→yD 219 #[uX 3 h c,.int .u8 t] W t m) :
  yD 218 #[uX 3 h c,.pointer (some ⟨vb,0,none⟩)] w t m:=by
 obtain⟨W0,hW0⟩:∃W0,W0=(w.alloc (.cells #[.int .u8 3,.int .u8 20,.slice (some ⟨h,0,none⟩) 1 c,.slice none 0 0] 189)).alloc (.cells #[.int .u8 0,.int .u8 0,.slice none 0 0,.slice none 0 0] 189):=⟨_,rfl⟩;have hb0:Below w.heap.size w W0:=by rw[hW0];exact((Below.refl _ _).alloc (Nat.le_refl _) _).alloc (by simp) _
 have k1:W0.heap[w.heap.size+1]?=some (.cells #[.int .u8 0,.int .u8 0,.slice none 0 0,.slice none 0 0] 189 (0,0)):=by
  rw[hW0];have:=heap_alloc_new (w.alloc (.cells #[.int .u8 3,.int .u8 20,.slice (some ⟨h,0,none⟩) 1 c,.slice none 0 0] 189)) (.cells #[.int .u8 0,.int .u8 0,.slice none 0 0,.slice none 0 0] 189);simpa using this
 have HT:=hid (hto W0 hb0);have HB0:=hid hb0;have K1:=hid k1;have g0:∀o1 o2,((w.alloc o1).alloc o2).cell? ⟨vb,0,none⟩=some (.int .u8 t):=λo1 o2=>vd hvb (((Below.refl _ _).alloc (Nat.le_refl _) _).alloc (by simp) _);unfold yD;clear hto hb0 k1 hvb
 go_enter func218,ntmps218
 go_wp2_with fail
 rw[← hW0];clear hW0 g0;have ht:=HT.out;unfold yD at ht;refine ht.mono ?_;rintro e w1 ⟨⟨g,d,rfl,hg,hc⟩,hb1⟩;have HB1:=hid (HB0.out.trans (hb1.mono HB0.out.size));have HG:=hid (And.intro hc (show w.heap.size≤g∧g≠w.heap.size+1 from⟨Nat.le_trans HB0.out.size hg,by have:=lt_of_block K1.out;omega⟩));obtain⟨r0,r1,r2,r3,rf⟩:=uY (uZ K1.out hb1);clear ht hg hc hb1;go_wp2;refine bodyPost_ret (v:=.tuple #[uX t g d,.int .i64 0]) (by simp[results,results218,go_sem,r0,r1,r2,r3]) rfl ⟨⟨g,d,rfl,HG.out.2.1,ym HG.out.2.2 HG.out.1⟩,HB1.out.trans ((yl _ _ _ _ _ _).below HB1.out.size (λk hk e=>by omega))⟩
theorem Tryz.infoEv:(prog.info? 189).map (λi=>(i.zero,i.size,i.bytes))=some (some (.agg #[.int .u8 0,.int .u8 0,.slice none 0 0,.slice none 0 0]),4,56):=by kernel_rfl
theorem yF {w:World}{base g c:Nat}{e:TypeId}{x y z u:Value}(h:w.ownsRow base e 4 (.slice (some ⟨g,0,none⟩) 1 c) 1 [x,y,z,u]):w.cell? ⟨g,0,none⟩=some x∧w.cell? ⟨g,1,none⟩=some y∧w.cell? ⟨g,2,none⟩=some z∧w.cell? ⟨g,3,none⟩=some u∧base≤g:=by
 rcases h.2 with⟨h0,_⟩|⟨g',cap,cur,h0,hg,hh,hn,hcm,hcs,ht⟩
 ·cases h0
 ·cases h0
  have h1:cur.toList.take 4=[x,y,z,u]:=by simpa using ht
  have hc:∀i v,i<4→([x,y,z,u]:List Value)[i]?=some v→cur[i]?=some v:=λi v hi hv=>by
   rw[← h1,List.getElem?_take,if_pos hi]at hv;simpa using hv
  exact⟨(cell_of_row _ _ _ _ _ _ hh).trans (hc 0 x (by omega) rfl),(cell_of_row _ _ _ _ _ _ hh).trans (hc 1 y (by omega) rfl),(cell_of_row _ _ _ _ _ _ hh).trans (hc 2 z (by omega) rfl),(cell_of_row _ _ _ _ _ _ hh).trans (hc 3 u (by omega) rfl),hg⟩
theorem yG {w:World}{base g c s n:Nat}{e:TypeId}{xs:List Value}(h:w.ownsRow base e s (.slice (some ⟨g,0,none⟩) (n+1) c) (n+1) xs)(j:Nat):w.frozen? ⟨g,j,none⟩=false:=by
 rcases h.2 with⟨h0,_⟩|⟨g',cap,cur,h0,hg,hh,_⟩
 ·cases h0
 ·cases h0
  exact frozen_of_row _ _ _ _ _ hh
theorem yH (w:World)(q cq h c:Nat)(n:Int)(hr:yy w q 3 h c n)(t m:Int)(fk:FuncId)(hent:∀(args:Array Value) (w:World),(callFunc fk args).run prog w = .ok (.enter fk args) w)(cs:Array Value)
  (hcall:∀W,Below w.heap.size w W→yD fk (#[uX 3 h c]++cs) W t m) :
  Calls prog 217 #[.slice (some ⟨q,0,none⟩) 1 cq,.func (.func fk) #[] cs] w λe w'=>(∃g d h' c',e = .returned (.tuple #[.slice (some ⟨g,0,none⟩) 1 d,.int .i64 0])∧yy w' g t h' c' m)∧Below w.heap.size w w':=by
 obtain⟨x0,x1,x2,x3,_,_⟩:=hr;obtain⟨i0,hi,hz0,hz1,hz2⟩:=info_parts Tryz.infoEv;have HI:=hid hi;have HZ0:=hid hz0;have HZ1:=hid hz1;have HZ2:=hid hz2;have HC:=hid hcall;have ent:=hent;clear hcall hent hi hz0 hz1 hz2
 go_enter func217,ntmps217
 go_wp2_with fail
 refine wp_loop_rounds 2 ?_;rw[rounds_succ]
 go_wp2_with fail
 have hbw:Below w.heap.size w (w.alloc (.cells #[.int .u8 3,.int .u8 20,.slice (some ⟨h,0,none⟩) 1 c,.slice none 0 0] 189)):=(Below.refl _ _).alloc (Nat.le_refl _) _;have hcl:=HC.out _ hbw;unfold yD at hcl;refine hcl.mono ?_;rintro e w2 ⟨⟨g,d,rfl,hg,hc⟩,hb2⟩;have HB2:=hid (hbw.trans (hb2.mono hbw.size));have HG:=hid hc;have hs2:=HB2.out.size;clear hcl hbw hb2 hg hc x0 x1 x2 x3
 go_wp2_with (first
  | (refine wpList_append_lies _ rfl _ _ 190 rfl w.heap.size 189 i0 _ 4 56 underlying190 HI.out HZ0.out HZ1.out HZ2.out rfl (by omega) (.slice none 0 0) 0 [] rfl (World.ownsRow_nil _ _ _ _) ⟨w2.heap.size+1,0,none⟩ 1 1 [.int .u8 t,.int .u8 20,.slice (some ⟨g,0,none⟩) 1 d,.slice none 0 0] rfl rfl (aC rfl (by simp)) (by simp[Value.oneCell']) (by omega) (by unfold maxLen;omega) (by omega) (by simp;omega) (w2.heap.size+1+1) (by simp) ?_;intro gg cap w8 hown8 hgrow8 hat8 hlt8))
 simp only[Nat.zero_add,List.nil_append]at hown8 ⊢;obtain⟨y0,y1,y2,y3,hg8⟩:=yF hown8;have hb8:Below w2.heap.size w2 w8:=(((Below.refl _ _).alloc (Nat.le_refl _) _).alloc (by simp) _).grown hgrow8 (by simp;omega) (λj e=>by cases e);have HR8:=hid (show yy w8 gg t g d m from⟨y0,y1,y2,y3,vd HG.out hb8,yG (n:=0) hown8⟩);have HB8:=hid (HB2.out.trans (hb8.mono HB2.out.size));clear y0 y1 y2 y3 hown8 hgrow8 hat8 hb8;rw[rounds_succ];go_wp2;exact bodyPost_ret (v:=.tuple #[.slice (some ⟨gg,0,none⟩) 1 cap,.int .i64 0]) (by simp[results,results217,go_sem]) rfl ⟨⟨gg,cap,g,d,rfl,HR8.out⟩,HB8.out⟩
theorem yI (w:World)(hk:uL w)(q cq h c:Nat)(n:Int)(h1:1≤n)(h2:n≤1000)(hr:yy w q 3 h c n)(t m:Int)(ht:t=1∨t=2∨t=3)(hto:∀W,Below w.heap.size w W→yD 219 #[uX 3 h c,.int .u8 t] W t m) :
  Calls prog 160 #[.slice (some ⟨q,0,none⟩) 1 cq,.int .u8 t] w λe w'=>(∃g d h' c',e = .returned (.tuple #[.int .u8 t,.slice (some ⟨g,0,none⟩) 1 d,.int .i64 0])∧yy w' g t h' c' m)∧Below w.heap.size w w':=by
 have hmf:∀(fn:Fn) (first cap:Array Value) (w:World),(Instr.makeFunc fn first cap).run prog w = .ok (.func fn first cap) w:=λ_ _ _ _=>rfl;obtain⟨W0,hW0⟩:∃W0,W0=w.alloc (.cells #[.int .u8 t] 5):=⟨_,rfl⟩;have hb0:Below w.heap.size w W0:=by rw[hW0];exact(Below.refl _ _).alloc (Nat.le_refl _) _
 have k0:W0.cell? ⟨w.heap.size,0,none⟩=some (.int .u8 t):=by rw[hW0];exact(cell_of_row _ _ _ _ _ _ (heap_alloc_new _ _)).trans rfl
 have HB0:=hid hb0;have K0:=hid k0;have HR:=hid (hr.pure hb0);have HL1:=hid (λ(W:World) (hb:Below W0.heap.size W0 W)=>yC W ((hk.pure hb0).pure hb) 3 (.inr (.inr rfl)) n h1 h2 h c (vd (vd hr.n hb0) hb));have HTO:=hid (λ(W:World) (hb:Below W0.heap.size W0 W)=>hto W (hb0.trans (hb.mono hb0.size)));have d1:decide (t≥1)=true:=by rcases ht with rfl|rfl|rfl<;>rfl
 have d2:decide (t≤3)=true:=by rcases ht with rfl|rfl|rfl<;>rfl
 clear hb0 k0 hr hk h1 h2 hto ht
 go_enter func160,ntmps160
 go_wp2_with fail
 rw[← hW0];clear hW0;refine(yA W0 q cq 3 h c n HR.out 215 (λ_ _=>rfl) #[] (λW hb=>HL1.out W hb)).mono ?_;rintro e w1 ⟨rfl,hb1⟩;have HB1:=hid (HB0.out.trans (hb1.mono HB0.out.size));have k1:=vd K0.out hb1;have HBW:=hid hb1;clear hb1
 go_wp2_with fail
 refine wp_loop_rounds 1 ?_;rw[rounds_succ]
 go_wp2_with fail
 refine(yH w1 q cq h c n (HR.out.pure HBW.out) t m 218 (λ_ _=>rfl) #[.pointer (some ⟨w.heap.size,0,none⟩)] (λW hb=>yE W w.heap.size h c t m (vd k1 hb) (λW' hb'=>HTO.out W' ((HBW.out.trans (hb.mono HBW.out.size)).trans (hb'.mono (HBW.out.trans (hb.mono HBW.out.size)).size))))).mono ?_;rintro e w2 ⟨⟨g,d,h',c',rfl,hr2⟩,hb2⟩;have k2:=vd k1 hb2;have HR2:=hid hr2;have HB2:=hid (HB1.out.trans (hb2.mono HB1.out.size));clear hr2 hb2 k1;go_wp2;exact bodyPost_ret (v:=.tuple #[.int .u8 t,.slice (some ⟨g,0,none⟩) 1 d,.int .i64 0]) (by simp[results,results160,go_sem]) rfl ⟨⟨g,d,h',c',rfl,HR2.out⟩,HB2.out⟩
end
end Go.Proofs.YthjjgcfdhkhelaaGreatDoor
