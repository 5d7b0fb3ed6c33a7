/- A text, a byte, read by a body's reader wherever it stands. -/
import Derived.Test.YtaeakdichkhjaaaGreatDoorQAn
import Derived.Test.YtaeakdichkhjaaaGreatDoorQAo
import Derived.Test.YtaeakdichkhjaaaGreatDoorQAq
import Derived.Test.YtaeakdichkhjaaaGreatDoorQAl
import Derived.Test.YtaeakdichkhjaaaGreatDoorQAi
import Derived.Test.YtaeakdichkhjaaaGreatDoorQAc
import Derived.Test.YtaeakdichkhjaaaGreatDoorQAb
import Derived.Deep.QuietTactic
import Derived.BigQuiet
set_option maxHeartbeats 4000000
open Go.Lib(hid)
namespace Go.Proofs.YtaeakdichkhjaaaGreatDoor
section
open Go.RowKit Go.Maps Go.Sort
structure Own27 (w0 W:World) (p b:Nat) (st:DkSt):Prop where
 dk:IsDk W p b st
 fp:w0.heap.size≤p
 fb:w0.heap.size≤b
 below:Below w0.heap.size w0 W
theorem Own27.pure {w0 W W':World}{p b:Nat}{st:DkSt}(h:Own27 w0 W p b st)(hb:Below W.heap.size W W'):Own27 w0 W' p b st:=⟨h.dk.pure hb,h.fp,h.fb,dj h.below hb⟩
theorem Own27.op {w0 W W':World}{p b:Nat}{st st':DkSt}(h:Own27 w0 W p b st)(hd:IsDk W' p b st')(hf:DFr p b W W'):Own27 w0 W' p b st':=
 ⟨hd,h.fp,h.fb,h.below.trans (hf.below h.below.size (λk hk e=>by have:=h.fp;have:=h.fb;rcases e with rfl|rfl<;>omega))⟩
theorem Own27.lz {w0 W:World}{p b:Nat}{st:DkSt}(h:Own27 w0 W p b st)(hl:Libz w0):Libz W∧¬mM p∧¬mM b:=
 ⟨hl.pure h.below,λe=>by have:=hl.lt _ e;have:=h.fp;omega,λe=>by have:=hl.lt _ e;have:=h.fb;omega⟩
theorem nR (w:World)(q c:Nat)(hq:q≤1048576)(hc:c<128):nh w (q:Int) (stV (c:Int) 0 1 1) dl (iU q c) 0:=λW _=>kk q c hq hc W
theorem nS (q c:Nat):(iU q c).length=33:=by show(Crc.seal_ (mB q c)).length=33;rw[Crc.seal_length,mC]
theorem nT {w0 W:World}{p b:Nat}{st:DkSt}(h:Own27 w0 W p b st)(hl:Libz w0)(q c:Nat)(hq:q≤1048576)(hc:c<128) :
  Calls Tryz.prog 14 #[.pointer (some ⟨p,0,none⟩),.int .i64 (q:Int),stV (c:Int) 0 1 1,dl] W λe w'=>e = .returned (.int .i64 (iS st (q:Int) (iU q c,0)).2)∧Own27 w0 w' p b (iS st (q:Int) (iU q c,0)).1:=by
 obtain⟨h1,h2⟩:=h.lz hl;refine(nr W h1 p b st h.dk h2 (q:Int) (iU q c) (by rw[nS];omega) (nR W q c hq hc)).mono ?_;rintro e w' ⟨h3,h4,h5⟩;exact⟨h3,h.op h4 h5⟩
def exT (n:Nat):Option Nat:=if n=5 then some 50 else if n=9 then some 90 else none
set_option maxRecDepth 100000 in
theorem nU:fU seC.1 (gQ 9)=(iU 9 90,0):=by decide +kernel
set_option maxRecDepth 100000 in
theorem nV:gQ 17=[110,48,48,48,48,48,48,48,48,49,55]:=by decide +kernel
theorem nW:∀n∈hU (seC.1.fs.map (·.name)),nL seC.1 exT n:=by
 rw[iW];intro n hn;simp at hn
 rcases hn with rfl|rfl|rfl
 ·exact iX.1
 ·exact⟨by decide,iX.2⟩
 ·exact⟨by decide,nU⟩
theorem nX:nH exT (nA 0 8 (hU (seC.1.fs.map (·.name)))) = .tuple #[.int .i64 5,stV 50 0 1 1,dl,.bool true,.int .i64 0]:=by
 rw[iW,show nA 0 8 [3,5,9]=[5,3]from by decide];rfl
theorem nY:nH exT (nA 0 4 (hU (seC.1.fs.map (·.name)))) = .tuple #[.int .i64 0,stZ,dl,.bool false,.int .i64 0]:=by
 rw[iW,show nA 0 4 [3,5,9]=[3]from by decide];rfl
theorem nZ:il 1000 []=(some seT,0):=rfl
theorem n8 (w0 W:World)(hb:Below w0.heap.size w0 W):Calls Tryz.prog 23 #[.int .i64 1000] W λe w'=>∃p b,e = .returned (.tuple #[.pointer (some ⟨p,0,none⟩),.int .i64 0])∧Own27 w0 w' p b seT:=by
 refine(nQ W 1000 (by omega)).mono ?_;rintro e w' ⟨h1,h2⟩;rw[nZ]at h2;obtain⟨p,b,h3,h4,h5,h6⟩:=h2;have:=hb.size;exact⟨p,b,h5,h6,by omega,by omega,hb.trans (h1.mono hb.size)⟩
set_option maxRecDepth 100000 in
theorem n9 (w:World)(hl:Libz w):Calls Tryz.prog 7 #[] w λe w'=>e = .returned (.bool true)∧Below w.heap.size w w':=by
 have HL:=hid hl;clear hl
 go_enter Tryz.func7,Tryz.ntmps7
 go_wp2_with fail
 refine(mL w HL.out.pow 17).mono ?_;rintro e w1 ⟨⟨r,hr,rfl⟩,hb1⟩;have hcmp:(r.toList == [110,48,48,48,48,48,48,48,48,49,55])=true:=by rw[ByteArray.toList_eq,hr,nV];decide
 have hcne:(r.toList != [110,48,48,48,48,48,48,48,48,49,55])=false:=by unfold bne;rw[hcmp];rfl
 have HB1:=hid hb1;clear hr hb1
 go_wp2_with fail
 refine(n8 w w1 HB1.out).mono ?_;rintro e w2 ⟨p,b,rfl,o2⟩;have O2:=hid o2;clear o2 HB1
 go_wp2_with fail
 refine(ng 50 _).mono ?_;rintro e w3 ⟨rfl,hb3⟩;have O3:=hid (O2.out.pure hb3);clear hb3 O2;unfold stV
 go_wp2_with fail
 refine(show Calls Tryz.prog 14 #[.pointer (some ⟨p,0,none⟩),.int .i64 5,.agg #[.int .i64 50,.int .i64 0,.int .i64 1,.int .i64 1,.slice none 0 0,.slice none 0 0,.slice none 0 0,.slice none 0 0,.slice none 0 0],.agg #[.slice none 0 0,.slice none 0 0,.slice none 0 0,.slice none 0 0]] w3 _ from nT O3.out HL.out 5 50 (by omega) (by omega)).mono ?_;rintro e w4 ⟨rfl,o4⟩;have O4:=hid (show Own27 w w4 p b seA.1 from o4);rw[show(iS seT ((5:Nat):Int) (iU 5 50,0)).2=seA.2 from rfl];clear o4 O3;rw[iV.1]
 go_wp2_with fail
 refine(ng 90 _).mono ?_;rintro e w5 ⟨rfl,hb5⟩;have O5:=hid (O4.out.pure hb5);clear hb5 O4;unfold stV
 go_wp2_with fail
 refine(show Calls Tryz.prog 14 #[.pointer (some ⟨p,0,none⟩),.int .i64 9,.agg #[.int .i64 90,.int .i64 0,.int .i64 1,.int .i64 1,.slice none 0 0,.slice none 0 0,.slice none 0 0,.slice none 0 0,.slice none 0 0],.agg #[.slice none 0 0,.slice none 0 0,.slice none 0 0,.slice none 0 0]] w5 _ from nT O5.out HL.out 9 90 (by omega) (by omega)).mono ?_;rintro e w6 ⟨rfl,o6⟩;have O6:=hid (show Own27 w w6 p b seB.1 from o6);rw[show(iS seA.1 ((9:Nat):Int) (iU 9 90,0)).2=seB.2 from rfl];clear o6 O5;rw[iV.2.1]
 go_wp2_with fail
 refine(show Calls Tryz.prog 25 #[.pointer (some ⟨p,0,none⟩),.string ⟨#[110,48,48,48,48,48,48,48,48,48,51]⟩] w6 λe w'=>fx p b seC w6 e w' from fI w6 p b seB.1 O6.out.dk ⟨#[110,48,48,48,48,48,48,48,48,48,51]⟩ (by decide)).mono ?_;rintro e w7 ⟨rfl,hd7,hf7⟩;have O7:=hid (O6.out.op hd7 hf7);rw[iV.2.2.1];clear hd7 hf7 O6
 go_wp2_with fail
 refine(show Calls Tryz.prog 9 #[.pointer (some ⟨p,0,none⟩),.int .i64 0,.int .i64 8] _ _ from nO _ (O7.out.lz HL.out).1 p b seC.1 O7.out.dk iV.2.2.2 0 8 exT nW (by rw[iW];decide)).mono ?_;rw[nX];rintro e w8 ⟨rfl,hb8⟩;have O8:=hid (O7.out.pure hb8);clear hb8 O7;unfold stV dl
 go_wp2_with fail
 obtain⟨W9,hW9⟩:∃W9,W9=(w8.alloc (.cells #[.int .i64 50,.int .i64 0,.int .i64 1,.int .i64 1,.slice none 0 0,.slice none 0 0,.slice none 0 0,.slice none 0 0,.slice none 0 0] 29)).alloc (.cells #[.slice none 0 0,.slice none 0 0,.slice none 0 0,.slice none 0 0] 35):=⟨_,rfl⟩;have hb9:Below w8.heap.size w8 W9:=by rw[hW9];exact((Below.refl _ _).alloc (Nat.le_refl _) _).alloc (by simp) _
 have O9:=hid (O8.out.pure hb9);have K9:=hid (show W9.heap[w8.heap.size]?=some (.cells #[.int .i64 50,.int .i64 0,.int .i64 1,.int .i64 1,.slice none 0 0,.slice none 0 0,.slice none 0 0,.slice none 0 0,.slice none 0 0] 29 (0,0))from by rw[hW9];exact(Below.heap_alloc _ _ _ (by simp)).trans (heap_alloc_new _ _));rw[← hW9];clear hW9 hb9 O8;refine(show Calls Tryz.prog 9 #[.pointer (some ⟨p,0,none⟩),.int .i64 0,.int .i64 4] _ _ from nO _ (O9.out.lz HL.out).1 p b seC.1 O9.out.dk iV.2.2.2 0 4 exT nW (by rw[iW];decide)).mono ?_;rw[nY];rintro e w10 ⟨rfl,hb10⟩;have O10:=hid (O9.out.pure hb10);have K10:=hid ((hb10.block _ (lt_of_block K9.out)).trans K9.out);clear hb10 O9 K9;unfold stZ dl
 go_wp2_with fail
 obtain⟨W11,hW11⟩:∃W11,W11=(w10.alloc (.cells #[.int .i64 0,.int .i64 0,.int .i64 0,.int .i64 0,.slice none 0 0,.slice none 0 0,.slice none 0 0,.slice none 0 0,.slice none 0 0] 29)).alloc (.cells #[.slice none 0 0,.slice none 0 0,.slice none 0 0,.slice none 0 0] 35):=⟨_,rfl⟩;have hb11:Below w10.heap.size w10 W11:=by rw[hW11];exact((Below.refl _ _).alloc (Nat.le_refl _) _).alloc (by simp) _
 have O11:=hid (O10.out.pure hb11);have K11:=hid ((hb11.block _ (lt_of_block K10.out)).trans K10.out);rw[← hW11];clear hW11 hb11 O10 K10;refine(m3 W11 (O11.out.lz HL.out).1 p b seC.1 O11.out.dk).mono ?_;rintro e w12 ⟨hb12,h12⟩;rw[iV.2.2.2,if_neg (by decide),iW]at h12;obtain⟨v,rfl,hown⟩:=h12;obtain⟨ga,gc,rfl,hrow⟩:=m4 hown;obtain⟨gb,hgb,_,hl2⟩:=hrow 2 (by decide);subst hgb;have O12:=hid (O11.out.pure hb12);have k12:=(hb12.block _ (lt_of_block K11.out)).trans K11.out;have x50:w12.cell? ⟨w8.heap.size,0,none⟩=some (.int .i64 50):=(cell_of_row _ _ _ _ _ _ k12).trans rfl;have hl2':w12.cell? ⟨gb,2,none⟩=some (.int .i64 9):=hl2;clear hb12 O11 K11 hown hrow k12 hl2;go_wp2;have HB12:=hid O12.out.below;clear O12
 go_loopw [15] (λi wr=>∃z:Int,i = .int .i64 z∧(z=2∨z=3∨z=4∨z=5)∧Hid (Below w.heap.size w wr)) (λi _=>5-(intOf i).toNat)
 case atStart=>exact⟨2,rfl,.inl rfl,HB12⟩
 case round=>
  obtain⟨z,rfl,hz,HB⟩:=hrel
  rcases hz with rfl|rfl|rfl|rfl
  ·go_wp2_with fail
   refine(n8 w wr HB.out).mono ?_;rintro e w2 ⟨p,b,rfl,o2⟩;have O2:=hid o2;clear o2
   go_wp2_with fail
   refine(fY w2 p b seT O2.out.dk 2 (by omega) (by omega)).mono ?_;rintro e w3 ⟨rfl,hd3,hf3⟩;rw[iY.1];have O3:=hid (O2.out.op hd3 hf3);clear hd3 hf3 O2
   go_wp2_with fail
   refine(ng 50 _).mono ?_;rintro e w4 ⟨rfl,hb4⟩;have O4:=hid (O3.out.pure hb4);clear hb4 O3;unfold stV
   go_wp2_with fail
   refine(show Calls Tryz.prog 14 #[.pointer (some ⟨p,0,none⟩),.int .i64 5,.agg #[.int .i64 50,.int .i64 0,.int .i64 1,.int .i64 1,.slice none 0 0,.slice none 0 0,.slice none 0 0,.slice none 0 0,.slice none 0 0],.agg #[.slice none 0 0,.slice none 0 0,.slice none 0 0,.slice none 0 0]] w4 _ from nT O4.out HL.out 5 50 (by omega) (by omega)).mono ?_;rintro e w5 ⟨rfl,o5⟩;have O5:=hid (show Own27 w w5 p b (seK 2).1 from o5);rw[show(iS (fX seT 2).1 ((5:Nat):Int) (iU 5 50,0)).2=(seK 2).2 from rfl];clear o5 O4;obtain⟨cd,hcd⟩:∃cd,cd=(seK 2).2:=⟨_,rfl⟩;have hc0:cd≠0:=by rw[hcd];exact iY.2.2.2.1
   have hcf:(cd == 0)=false:=by simpa using hc0
   have hct:(cd != 0)=true:=by simpa using hc0
   rw[← hcd];clear hcd
   go_wp2_with fail
   have hal:Below w5.heap.size w5 (w5.alloc (.cells #[.int .i64 99] 3)):=(Below.refl _ _).alloc (Nat.le_refl _) _;have o6:=O5.out.pure hal;have hpl:=O5.out.dk.lt;have hbl:=O5.out.dk.own.lt;refine(iL _ p b (seK 2).1 o6.dk (.slice (some ⟨w5.heap.size,0,none⟩) 1 1) [99] ⟨_,1,rfl,by simp,.inr ⟨w5.heap.size,0,rfl,λi hi=>by
    obtain rfl:i=0:=by simpa using hi
    exact(World.cell?_alloc_at _ _ _ _ rfl).trans rfl⟩⟩ (λg e=>by cases e;exact⟨by show w5.heap.size≠p;omega,by show w5.heap.size≠b;omega⟩)).mono ?_
   rintro e w7 ⟨rfl,hd7,hf7⟩;have O7:=hid (show Own27 w w7 p b (seX 2)from o6.op hd7 hf7);clear hal o6 hpl hbl hd7 hf7 O5
   go_wp2_with fail
   refine(m6 w7 (.pointer (some ⟨p,0,none⟩)) (O7.out.lz HL.out).1.pow 5 (by decide) [] 5 (by decide) (nM O7.out.dk iZ.1 (nN _))).mono ?_;rintro e w8 ⟨rfl,hb8⟩;have HB8:=hid (dj O7.out.below hb8);clear hb8 O7
   skip
   go_wp2
   go_roundw
   case rel=>exact⟨3,by go_num,by decide,hid ((HB8.out.alloc HB8.out.size _).alloc (by have:=HB8.out.size;simp;omega) _)⟩
   case measure=>simp[intOf]
  ·go_wp2_with fail
   refine(n8 w wr HB.out).mono ?_;rintro e w2 ⟨p,b,rfl,o2⟩;have O2:=hid o2;clear o2
   go_wp2_with fail
   refine(fY w2 p b seT O2.out.dk 3 (by omega) (by omega)).mono ?_;rintro e w3 ⟨rfl,hd3,hf3⟩;rw[iY.2.1];have O3:=hid (O2.out.op hd3 hf3);clear hd3 hf3 O2
   go_wp2_with fail
   refine(ng 50 _).mono ?_;rintro e w4 ⟨rfl,hb4⟩;have O4:=hid (O3.out.pure hb4);clear hb4 O3;unfold stV
   go_wp2_with fail
   refine(show Calls Tryz.prog 14 #[.pointer (some ⟨p,0,none⟩),.int .i64 5,.agg #[.int .i64 50,.int .i64 0,.int .i64 1,.int .i64 1,.slice none 0 0,.slice none 0 0,.slice none 0 0,.slice none 0 0,.slice none 0 0],.agg #[.slice none 0 0,.slice none 0 0,.slice none 0 0,.slice none 0 0]] w4 _ from nT O4.out HL.out 5 50 (by omega) (by omega)).mono ?_;rintro e w5 ⟨rfl,o5⟩;have O5:=hid (show Own27 w w5 p b (seK 3).1 from o5);rw[show(iS (fX seT 3).1 ((5:Nat):Int) (iU 5 50,0)).2=(seK 3).2 from rfl];clear o5 O4;obtain⟨cd,hcd⟩:∃cd,cd=(seK 3).2:=⟨_,rfl⟩;have hc0:cd≠0:=by rw[hcd];exact iY.2.2.2.2.1
   have hcf:(cd == 0)=false:=by simpa using hc0
   have hct:(cd != 0)=true:=by simpa using hc0
   rw[← hcd];clear hcd
   go_wp2_with fail
   have hal:Below w5.heap.size w5 (w5.alloc (.cells #[.int .i64 99] 3)):=(Below.refl _ _).alloc (Nat.le_refl _) _;have o6:=O5.out.pure hal;have hpl:=O5.out.dk.lt;have hbl:=O5.out.dk.own.lt;refine(iL _ p b (seK 3).1 o6.dk (.slice (some ⟨w5.heap.size,0,none⟩) 1 1) [99] ⟨_,1,rfl,by simp,.inr ⟨w5.heap.size,0,rfl,λi hi=>by
    obtain rfl:i=0:=by simpa using hi
    exact(World.cell?_alloc_at _ _ _ _ rfl).trans rfl⟩⟩ (λg e=>by cases e;exact⟨by show w5.heap.size≠p;omega,by show w5.heap.size≠b;omega⟩)).mono ?_
   rintro e w7 ⟨rfl,hd7,hf7⟩;have O7:=hid (show Own27 w w7 p b (seX 3)from o6.op hd7 hf7);clear hal o6 hpl hbl hd7 hf7 O5
   go_wp2_with fail
   refine(m6 w7 (.pointer (some ⟨p,0,none⟩)) (O7.out.lz HL.out).1.pow 5 (by decide) [] 5 (by decide) (nM O7.out.dk iZ.2.1 (nN _))).mono ?_;rintro e w8 ⟨rfl,hb8⟩;have HB8:=hid (dj O7.out.below hb8);clear hb8 O7
   skip
   go_wp2
   go_roundw
   case rel=>exact⟨4,by go_num,by decide,hid ((HB8.out.alloc HB8.out.size _).alloc (by have:=HB8.out.size;simp;omega) _)⟩
   case measure=>simp[intOf]
  ·go_wp2_with fail
   refine(n8 w wr HB.out).mono ?_;rintro e w2 ⟨p,b,rfl,o2⟩;have O2:=hid o2;clear o2
   go_wp2_with fail
   refine(fY w2 p b seT O2.out.dk 4 (by omega) (by omega)).mono ?_;rintro e w3 ⟨rfl,hd3,hf3⟩;rw[iY.2.2.1];have O3:=hid (O2.out.op hd3 hf3);clear hd3 hf3 O2
   go_wp2_with fail
   refine(ng 50 _).mono ?_;rintro e w4 ⟨rfl,hb4⟩;have O4:=hid (O3.out.pure hb4);clear hb4 O3;unfold stV
   go_wp2_with fail
   refine(show Calls Tryz.prog 14 #[.pointer (some ⟨p,0,none⟩),.int .i64 5,.agg #[.int .i64 50,.int .i64 0,.int .i64 1,.int .i64 1,.slice none 0 0,.slice none 0 0,.slice none 0 0,.slice none 0 0,.slice none 0 0],.agg #[.slice none 0 0,.slice none 0 0,.slice none 0 0,.slice none 0 0]] w4 _ from nT O4.out HL.out 5 50 (by omega) (by omega)).mono ?_;rintro e w5 ⟨rfl,o5⟩;have O5:=hid (show Own27 w w5 p b (seK 4).1 from o5);rw[show(iS (fX seT 4).1 ((5:Nat):Int) (iU 5 50,0)).2=(seK 4).2 from rfl];clear o5 O4;rw[iY.2.2.2.2.2]
   go_wp2_with fail
   have hal:Below w5.heap.size w5 (w5.alloc (.cells #[.int .i64 99] 3)):=(Below.refl _ _).alloc (Nat.le_refl _) _;have o6:=O5.out.pure hal;have hpl:=O5.out.dk.lt;have hbl:=O5.out.dk.own.lt;refine(iL _ p b (seK 4).1 o6.dk (.slice (some ⟨w5.heap.size,0,none⟩) 1 1) [99] ⟨_,1,rfl,by simp,.inr ⟨w5.heap.size,0,rfl,λi hi=>by
    obtain rfl:i=0:=by simpa using hi
    exact(World.cell?_alloc_at _ _ _ _ rfl).trans rfl⟩⟩ (λg e=>by cases e;exact⟨by show w5.heap.size≠p;omega,by show w5.heap.size≠b;omega⟩)).mono ?_
   rintro e w7 ⟨rfl,hd7,hf7⟩;have O7:=hid (show Own27 w w7 p b (seX 4)from o6.op hd7 hf7);clear hal o6 hpl hbl hd7 hf7 O5
   go_wp2_with fail
   refine(show Calls Tryz.prog 11 #[.pointer (some ⟨p,0,none⟩),.int .i64 5] w7 _ from nc w7 (.pointer (some ⟨p,0,none⟩)) (O7.out.lz HL.out).1.pow 5 50 (by omega) (by omega) (nM O7.out.dk iZ.2.2 (nN _))).mono ?_;rintro e w8 ⟨rfl,hb8⟩;have HB8:=hid (dj O7.out.below hb8);clear hb8 O7;unfold stV dl;go_wp2
   go_roundw
   case rel=>exact⟨5,by go_num,by decide,hid ((HB8.out.alloc HB8.out.size _).alloc (by have:=HB8.out.size;simp;omega) _)⟩
   case measure=>simp[intOf]
  ·go_wp2
   go_ret;exact⟨rfl,HB.out⟩
end
section
open Go.RowKit
def oa (b:Bool):List UInt8:=[if b then 1 else 0]
def ob (n:List UInt8):List UInt8:=bE n.length++n
def oc (n:Int):List UInt8:=[UInt8.ofNat n.toNat]
def od {α:Type}(f:α→List UInt8)(l:List α):List UInt8:=bE l.length++l.flatMap f
def oe (a:AccD):List UInt8:=ob a.name++oa a.opn
def og (x:InsD):List UInt8:=ob x.name++(jh [x.tick]++oa x.halt)
def oh (r:RowD):RowD:=if r.acct=0 then { r with free:=wrap64 (-r.free) } else r
def oj (r:RowD):List UInt8:=jh [r.acct,r.asset,(oh r).free,r.held]
def ol (o:OrdD):List UInt8:=jh [o.id,o.acct,o.inst]++(oc o.side++jh [o.price,o.left])
def om (b:BidD):List UInt8:=jh [b.acct,b.amount]
def oo (a:AucD):List UInt8:=jh [a.id,a.seller,a.inst]++(oa a.sealed++(jh [a.qty,a.reserve,a.step,a.fin]++od om a.bids))
def stB (s:StD):List UInt8:=jh [s.clock,s.fee,s.nextO,s.nextA]++(od oe s.accts++(od og s.insts++(od oj s.rows++(od ol s.ords++od oo s.aucs))))
def oq (d:Int):Int:=if 0<d then wrap64 (2*d) else wrap64 (wrap64 (-2*d)-1)
def ot (n:Int):Int:=if n % 2=0 then n.tdiv 2 else wrap64 ((-n).tdiv 2-1)
def ou (o:OpnD):List UInt8:=jh [o.acct,o.id,o.inst]++(oc o.side++jh [o.price,o.left])
def ov (l:LotD):List UInt8:=jh [l.id,l.seller,l.inst,l.qty]
def ow (p:PosD):List UInt8:=jh [p.acct,p.inst,p.bought,p.sold,p.spent,p.got]
def ox (l:LinD):List UInt8:=jh [l.acct,l.seq]++(oc l.kind++jh [oq l.delta,l.balance])
def vwB (v:VwD):List UInt8:=od ou v.open_++(od ov v.lots++(od ow v.poss++od ox v.lins))
def oy (s:StD)(v:VwD):List UInt8:=stB s++vwB v
structure RS where
 st:RdSt
 bad:Bool
def RS.upTo (s:List UInt8)(n:Nat)(r:RS):Int×RS:=(wrap64 ((r.st.short s n).1:Int),⟨(r.st.short s n).2,r.bad⟩)
def RS.long (s:List UInt8)(r:RS):Int×RS:=r.upTo s 4611686018427387904
def RS.u8 (s:List UInt8)(r:RS):Int×RS:=(((r.st.fixed s 1).1:Int),⟨(r.st.fixed s 1).2,r.bad⟩)
def RS.yes (s:List UInt8)(r:RS):Bool×RS:=(decide ((r.st.fixed s 1).1=1),⟨(r.st.fixed s 1).2,r.bad || decide (1<(r.st.fixed s 1).1)⟩)
def RdSt.text (st:RdSt)(s:List UInt8)(most:Nat):List UInt8×RdSt:=
 if st.e≠0 then ([],st) else if (st.short s most).2.e≠0 then ([],(st.short s most).2)
 else if s.length-(st.short s most).2.at_<(st.short s most).1 then ([],⟨st.at_,8,st.at_⟩)
 else (((st.short s most).2.take s (st.short s most).1).1,((st.short s most).2.take s (st.short s most).1).2.2)
def RS.text (s:List UInt8)(r:RS):List UInt8×RS:=((r.st.text s 24).1,⟨(r.st.text s 24).2,r.bad⟩)
def oA {α:Type}(one:RS→α×RS):Nat→List α→RS→List α×RS
 | 0,acc,r=>(acc,r)
 | n+1,acc,r=>if (one r).2.st.e≠0 then ([],(one r).2) else oA one n (acc++[(one r).1]) (one r).2
def RS.list {α:Type}(s:List UInt8)(one:RS→α×RS)(r:RS):List α×RS:=oA one (r.upTo s s.length).1.toNat [] (r.upTo s s.length).2
section
variable (s:List UInt8)
def oB (r:RS):AccD×RS:=(⟨(r.text s).1,((r.text s).2.yes s).1⟩,((r.text s).2.yes s).2)
def oC (r:RS):InsD×RS:=
 let a:=r.text s;let b:=a.2.long s;let c:=b.2.yes s
 (⟨a.1,b.1,c.1⟩,c.2)
def oD (r:RS):RowD×RS:=
 let a:=r.upTo s 64;let b:=a.2.upTo s 16;let c:=b.2.long s;let d:=c.2.long s
 (oh ⟨a.1,b.1,c.1,d.1⟩,d.2)
def oE (r:RS):OrdD×RS:=
 let a:=r.long s;let b:=a.2.upTo s 64;let c:=b.2.upTo s 16;let d:=c.2.u8 s;let e:=d.2.long s;let f:=e.2.long s
 (⟨a.1,b.1,c.1,d.1,e.1,f.1⟩,f.2)
def oF (r:RS):BidD×RS:=
 let a:=r.upTo s 64;let b:=a.2.long s
 (⟨a.1,b.1⟩,b.2)
def oG (r:RS):AucD×RS:=
 let a:=r.long s;let b:=a.2.upTo s 64;let c:=b.2.upTo s 16;let d:=c.2.yes s;let e:=d.2.long s;let f:=e.2.long s;let g:=f.2.long s;let h:=g.2.long s;let i:=h.2.list s (oF s)
 (⟨a.1,b.1,c.1,d.1,e.1,f.1,g.1,h.1,i.1⟩,i.2)
def stR (r:RS):StD×RS:=
 let a:=r.long s;let b:=a.2.long s;let c:=b.2.long s;let d:=c.2.long s
 let e:=d.2.list s (oB s);let f:=e.2.list s (oC s);let g:=f.2.list s (oD s);let h:=g.2.list s (oE s);let i:=h.2.list s (oG s)
 (⟨a.1,b.1,c.1,d.1,e.1,f.1,g.1,h.1,i.1⟩,i.2)
def oH (r:RS):OpnD×RS:=
 let a:=r.upTo s 64;let b:=a.2.long s;let c:=b.2.upTo s 16;let d:=c.2.u8 s;let e:=d.2.long s;let f:=e.2.long s
 (⟨a.1,b.1,c.1,d.1,e.1,f.1⟩,f.2)
def oI (r:RS):LotD×RS:=
 let a:=r.long s;let b:=a.2.upTo s 64;let c:=b.2.upTo s 16;let d:=c.2.long s
 (⟨a.1,b.1,c.1,d.1⟩,d.2)
def oJ (r:RS):PosD×RS:=
 let a:=r.upTo s 64;let b:=a.2.upTo s 16;let c:=b.2.long s;let d:=c.2.long s;let e:=d.2.long s;let f:=e.2.long s
 (⟨a.1,b.1,c.1,d.1,e.1,f.1⟩,f.2)
def oK (r:RS):LinD×RS:=
 let a:=r.upTo s 64;let b:=a.2.long s;let c:=b.2.u8 s;let d:=c.2.long s;let e:=d.2.long s
 (⟨a.1,b.1,c.1,ot d.1,e.1⟩,e.2)
def vwR (r:RS):VwD×RS:=
 let a:=r.list s (oH s);let b:=a.2.list s (oI s);let c:=b.2.list s (oJ s);let d:=c.2.list s (oK s)
 (⟨a.1,b.1,c.1,d.1⟩,d.2)
end
def oL (k:Nat):RS:=⟨⟨k,0,0⟩,false⟩
def oM:StD:=⟨0,0,0,0,[],[],[],[],[]⟩
def oN:VwD:=⟨[],[],[],[]⟩
def oO (s:List UInt8):Prop:=1048556<s.length
open Classical in
noncomputable def oP (s:List UInt8):StD×VwD×Int:=
 if oO s then (oM,oN,40)
 else if (vwR s (stR s (oL 0)).2).2.st.ended s.length=0∧(vwR s (stR s (oL 0)).2).2.bad=false∧lJ (stR s (oL 0)).1∧lT (vwR s (stR s (oL 0)).2).1 then ((stR s (oL 0)).1,(vwR s (stR s (oL 0)).2).1,0)
 else (oM,oN,4)
open Classical in
noncomputable def oQ (s:StD) (v:VwD):List UInt8×Int:=if ¬(lJ s∧lT v) then ([],4) else if oO (oy s v) then ([],40) else (oy s v,0)
theorem oR {s A B:List UInt8}{k:Nat}(h:s.drop k=A++B):s.drop (k+A.length)=B:=by
 rw[← List.drop_drop,h,List.drop_left]
theorem oS {n:Int}(h0:0≤n)(h1:n≤9223372036854775807):((jg n:Nat):Int)=n∧jg n<9223372036854775808:=by unfold jg;omega
theorem oT (n:Int)(l:List Int):jh (n::l)=bE (jg n)++jh l:=by unfold jh;rw[List.flatMap_cons]
theorem oU:jh []=[]:=rfl
def oV {α:Type}(s:List UInt8)(one:RS→α×RS)(x:α)(L:List UInt8):Prop:=∀k rest,s.drop k=L++rest→one (oL k)=(x,oL (k+L.length))
theorem oW (s:List UInt8){n:Int}{most:Nat}(h0:0≤n)(h1:n≤most)(hm:most≤9223372036854775807):oV s (RS.upTo s most) n (bE (jg n)):=by
 intro k rest hs;obtain⟨e,hlt⟩:=oS h0 (by omega);have h:=bS (s:=s) (most:=most) (n:=jg n) (st:=⟨k,0,0⟩) rfl (by omega) (by omega) hs;unfold RS.upTo oL;rw[h];simp only[e];rw[show wrap64 n=n from by unfold wrap64;omega]
theorem oX (s:List UInt8){n:Int}(h0:0≤n)(h1:n≤4611686018427387904):oV s (RS.long s) n (bE (jg n)):=oW s h0 (by omega) (by omega)
theorem oY {s rest:List UInt8}{k:Nat}{b:UInt8}(hs:s.drop k=b::rest):(⟨k,0,0⟩:RdSt).fixed s 1=(b.toNat,⟨k+1,0,0⟩):=by
 unfold RdSt.fixed;rw[bN (st:=⟨k,0,0⟩) rfl hs];simp[bP]
theorem oZ (s:List UInt8){n:Int}(h0:0≤n)(h1:n≤255):oV s (RS.u8 s) n (oc n):=by
 intro k rest hs;unfold RS.u8 oL oc at *;rw[oY (b:=UInt8.ofNat n.toNat) hs];have:((UInt8.ofNat n.toNat).toNat:Int)=n:=by simp;omega
 simp only[this,List.length_singleton]
theorem pa (s:List UInt8)(b:Bool):oV s (RS.yes s) b (oa b):=by
 intro k rest hs;unfold RS.yes oL oa at *;rw[oY (b:=if b then 1 else 0) hs];cases b<;>simp
theorem pb (s:List UInt8){n:List UInt8}(hn:n.length≤24):oV s (RS.text s) n (ob n):=by
 intro k rest hs;unfold ob at *;rw[List.append_assoc]at hs;have h:=bS (s:=s) (most:=24) (n:=n.length) (st:=⟨k,0,0⟩) rfl (by omega) (by omega) hs;have hd:=oR hs;have hl:=congrArg List.length hd;rw[List.length_drop,List.length_append]at hl;unfold RS.text RdSt.text oL;rw[h];have ht:(⟨k+(bE n.length).length,0,0⟩:RdSt).take s n.length=(n,true,⟨k+(bE n.length).length+n.length,0,0⟩):=by
  unfold RdSt.take;rw[hd];simp;omega
 simp only[ne_eq,not_true_eq_false,if_false,ht,List.length_append];rw[if_neg (by omega),Nat.add_assoc]
theorem pc (n:Nat):1≤(bE n).length:=by
 by_cases h:n<128
 ·rw[bF h];simp
 ·rw[bG h];simp
theorem pd {α:Type}{s:List UInt8}{one:RS→α×RS}{enc:α→List UInt8}:∀(xs acc:List α) (k:Nat) (rest:List UInt8),(∀x∈xs,oV s one x (enc x))→s.drop k=xs.flatMap enc++rest →
  oA one xs.length acc (oL k)=(acc++xs,oL (k+(xs.flatMap enc).length))
 | [],acc,k,rest,_,_=>by simp[oA]
 | x::r,acc,k,rest,h,hs=>by
  rw[List.flatMap_cons,List.append_assoc]at hs;have h1:=h x (by simp) k _ hs;rw[List.length_cons,oA,h1];simp only[oL,ne_eq,not_true_eq_false,if_false];have:=pd r (acc++[x]) (k+(enc x).length) rest (λy hy=>h y (by simp[hy])) (oR hs);rw[oL]at this;rw[this,List.flatMap_cons,List.length_append,List.append_assoc];simp[oL,Nat.add_assoc]
theorem pf {α:Type}{enc:α→List UInt8}(h1:∀x,1≤(enc x).length)(xs:List α):xs.length≤(xs.flatMap enc).length:=by
 induction xs with
 | nil=>simp
 | cons x r ih=>rw[List.flatMap_cons,List.length_append,List.length_cons];have:=h1 x;omega
theorem pg (s:List UInt8){α:Type}{one:RS→α×RS}{enc:α→List UInt8}{xs:List α}(h1:∀x,1≤(enc x).length)(h:∀x∈xs,oV s one x (enc x))(hz:s.length≤1048576):oV s (RS.list s one) xs (od enc xs):=by
 intro k rest hs;unfold od at *;rw[List.append_assoc]at hs;have hl:=congrArg List.length hs;rw[List.length_drop,List.length_append,List.length_append]at hl;have hg:=pf h1 xs;have hu:=oW s (n:=(xs.length:Int)) (most:=s.length) (by omega) (by omega) (by omega) k (xs.flatMap enc++rest) (by
  have:jg (xs.length:Int)=xs.length:=by unfold jg;omega
  rw[this];exact hs)
 have hn:jg (xs.length:Int)=xs.length:=by unfold jg;omega
 rw[hn]at hu;unfold RS.list;rw[hu];simp only[Int.toNat_natCast];rw[pd xs [] _ rest h (oR hs),List.length_append,List.nil_append,Nat.add_assoc]
end
section
open Go.RowKit
structure RrAt (w:World) (q p:Nat) (s:ByteArray) (r:RS):Prop where
 cell:w.heap[q]?=some (.cells #[.pointer (some ⟨p,0,none⟩),.int .i64 (s.size:Int),.bool r.bad] 191 (0,0))
 rd:IsRd w p s r.st
 ne:q≠p
theorem RrAt.kept {S:Nat→Prop}{w w':World}{q p:Nat}{s:ByteArray}{r:RS}(h:RrAt w q p s r)(hf:Fr S w w')(hq:¬S q)(hp:¬S p):RrAt w' q p s r:=⟨hf.heapAt h.cell hq,h.rd.kept hf hp,h.ne⟩
theorem RrAt.pure {w w':World}{q p:Nat}{s:ByteArray}{r:RS}(h:RrAt w q p s r)(hb:Below w.heap.size w w'):RrAt w' q p s r:=h.kept (Fr.pure (S:=λ_=>False) hb) (λh=>h) (λh=>h)
theorem RrAt.cs {w:World}{q p:Nat}{s:ByteArray}{r:RS}(h:RrAt w q p s r):w.cell? ⟨q,0,none⟩=some (.pointer (some ⟨p,0,none⟩))∧w.cell? ⟨q,1,none⟩=some (.int .i64 (s.size:Int))∧w.cell? ⟨q,2,none⟩=some (.bool r.bad):=by
 refine⟨?_,?_,?_⟩<;>rw[cell_of_row w q _ _ _ _ h.cell]<;>rfl
abbrev RrTo (w w':World) (q p:Nat) (s:ByteArray) (r:RS):Prop:=RrAt w' q p s r∧Fr (λk=>k=p∨k=q) w w'
theorem ph (w:World)(q p:Nat)(s:ByteArray)(r:RS)(h:RrAt w q p s r)(n:Nat)(hn:n≤9223372036854775807) :
  Calls Tryz.prog 149 #[.pointer (some ⟨q,0,none⟩),.int .i64 (n:Int)] w λe w'=>e = .returned (.int .i64 (r.upTo s.data.toList n).1)∧RrTo w w' q p s (r.upTo s.data.toList n).2:=by
 obtain⟨c0,c1,c2⟩:=h.cs;have H:=hid h;clear h;unfold RS.upTo
 go_enter Tryz.func149,Tryz.ntmps149
 go_wp2_with fail
 refine(cm w p s r.st H.out.rd n).mono ?_;rintro e w1 ⟨rfl,h1,hf1⟩;have H1:=hid (show RrAt w1 q p s ⟨(r.st.short s.data.toList n).2,r.bad⟩from⟨hf1.heapAt H.out.cell H.out.ne,h1,H.out.ne⟩);clear h1;go_wp2;go_ret;exact⟨rfl,H1.out,hf1.mono (λ_ _ e=>.inl e)⟩
theorem pi (w:World)(q p:Nat)(s:ByteArray)(r:RS)(h:RrAt w q p s r) :
  Calls Tryz.prog 140 #[.pointer (some ⟨q,0,none⟩)] w λe w'=>e = .returned (.int .i64 (r.long s.data.toList).1)∧RrTo w w' q p s (r.long s.data.toList).2:=by
 obtain⟨c0,c1,c2⟩:=h.cs;have H:=hid h;clear h;unfold RS.long RS.upTo
 go_enter Tryz.func140,Tryz.ntmps140
 go_wp2_with fail
 refine(cm w p s r.st H.out.rd 4611686018427387904).mono ?_;rintro e w1 ⟨rfl,h1,hf1⟩;have H1:=hid (show RrAt w1 q p s ⟨(r.st.short s.data.toList 4611686018427387904).2,r.bad⟩from⟨hf1.heapAt H.out.cell H.out.ne,h1,H.out.ne⟩);clear h1;go_wp2;go_ret;exact⟨rfl,H1.out,hf1.mono (λ_ _ e=>.inl e)⟩
set_option maxRecDepth 100000 in
theorem pj (w:World)(q p:Nat)(s:ByteArray)(r:RS)(h:RrAt w q p s r) :
  Calls Tryz.prog 144 #[.pointer (some ⟨q,0,none⟩)] w λe w'=>e = .returned (.bool (r.yes s.data.toList).1)∧RrTo w w' q p s (r.yes s.data.toList).2:=by
 obtain⟨c0,c1,c2⟩:=h.cs;have H:=hid h;clear h;unfold RS.yes;obtain⟨R,hR⟩:∃R,R=r.st.fixed s.data.toList 1:=⟨_,rfl⟩;obtain⟨b,st⟩:=R;have HR:=hid (bW w p s r.st H.out.rd);rw[← hR]at HR ⊢;dsimp only at HR ⊢
 go_enter Tryz.func144,Tryz.ntmps144
 go_wp2_with fail
 refine HR.out.mono ?_;rintro e w1 ⟨rfl,h1,hf1⟩;have hb1:=hf1.heapAt H.out.cell H.out.ne;have d2:w1.cell? ⟨q,2,none⟩=some (.bool r.bad):=(cell_of_row _ _ _ _ _ _ hb1).trans rfl;have z2:=frozen_of_row _ q 2 _ _ hb1;have HB1:=hid hb1;have H1:=hid h1;have HF1:=hid (show Fr (λk=>k=p∨k=q) w w1 from hf1.mono (λ_ _ e=>.inl e));clear h1 hb1 hf1 hR;have HFIN:=hid (λ(x:Bool)=>(show RrTo w (w1.setCell ⟨q,2,none⟩ (.bool x)) q p s ⟨st,x⟩from
  ⟨⟨heap_setCell_same _ _ _ _ _ _ HB1.out,H1.out.kept ((Fr.refl (λk=>k=q) w1).setCell ⟨q,2,none⟩ (λ_=>rfl) _) (λe=>H.out.ne e.symm),H.out.ne⟩,HF1.out.setCell ⟨q,2,none⟩ (λ_=>.inr rfl) _⟩))
 by_cases h1:b=1
 ·have q1:((b:Int) == 1)=true:=by rw[beq_iff_eq];omega
  have q2:decide ((1:Int)<(b:Int))=false:=by simp;omega
  have E1:=hid (show decide (b=1)=true from by simpa using h1);have E2:=hid (show decide (1<b)=false from by simp;omega);clear h1;cases hbad:r.bad
  ·rw[hbad]at d2
   go_wp2;go_ret;rw[E1.out,E2.out,hbad];exact⟨rfl,HFIN.out _⟩
  ·rw[hbad]at d2
   go_wp2;go_ret;rw[E1.out,E2.out,hbad];exact⟨rfl,HFIN.out _⟩
 ·by_cases h2:1<b
  ·have q1:((b:Int) == 1)=false:=by rw[beq_eq_false_iff_ne];omega
   have q2:decide ((1:Int)<(b:Int))=true:=by simp;omega
   have E1:=hid (show decide (b=1)=false from by simpa using h1);have E2:=hid (show decide (1<b)=true from by simp;omega);clear h1 h2;cases hbad:r.bad
   ·rw[hbad]at d2
    go_wp2;go_ret;rw[E1.out,E2.out,hbad];exact⟨rfl,HFIN.out _⟩
   ·rw[hbad]at d2
    go_wp2;go_ret;rw[E1.out,E2.out,hbad];exact⟨rfl,HFIN.out _⟩
  ·have q1:((b:Int) == 1)=false:=by rw[beq_eq_false_iff_ne];omega
   have q2:decide ((1:Int)<(b:Int))=false:=by simp;omega
   have E1:=hid (show decide (b=1)=false from by simpa using h1);have E2:=hid (show decide (1<b)=false from by simp;omega);clear h1 h2;cases hbad:r.bad
   ·rw[hbad]at d2
    go_wp2;go_ret;rw[E1.out,E2.out,hbad];exact⟨rfl,HFIN.out _⟩
   ·rw[hbad]at d2
    go_wp2;go_ret;rw[E1.out,E2.out,hbad];exact⟨rfl,HFIN.out _⟩
set_option maxRecDepth 100000 in
theorem pk (w:World)(p:Nat)(s:ByteArray)(st:RdSt)(h:IsRd w p s st)(most:Nat)(hm:most≤4611686018427387904) :
  Calls Tryz.prog 143 #[.pointer (some ⟨p,0,none⟩),.int .i64 (most:Int)] w λe w'=>(∃r:ByteArray,r.data.toList=(st.text s.data.toList most).1∧e = .returned (.string r))∧IsRd w' p s (st.text s.data.toList most).2∧Fr (λk=>k=p) w w':=by
 obtain⟨c0,c1,c2,c3⟩:=h.cs;have H:=hid h;have hsz:=h.2.2;have hat:=h.2.1;by_cases he:st.e=0;rotate_left
 ·have ht:st.text s.data.toList most=([],st):=by unfold RdSt.text;rw[if_pos he]
  rw[ht];have HG:=hid (aL w p s st h false (by simpa using he));clear h ht
  go_enter Tryz.func143,Tryz.ntmps143
  go_wp2_with fail
  refine HG.out.mono ?_;rintro e w1 ⟨rfl,rfl⟩;go_wp2;go_ret;exact⟨⟨⟨#[]⟩,rfl,rfl⟩,H.out,Fr.refl _ _⟩
 have HG:=hid (aL w p s st h true (by simpa using he));have HS:=hid (cm w p s st h most);obtain⟨R,hR⟩:∃R,R=st.short s.data.toList most:=⟨_,rfl⟩;have hst:st.text s.data.toList most=if R.2.e≠0 then ([],R.2) else if s.data.toList.length-R.2.at_<R.1 then ([],⟨st.at_,8,st.at_⟩)
   else ((R.2.take s.data.toList R.1).1,(R.2.take s.data.toList R.1).2.2):=by
  unfold RdSt.text;rw[if_neg (λh=>h he),← hR]
 have HST:=hid hst;rw[← hR]at HS;obtain⟨n,sr⟩:=R;dsimp only at HS HST;have hmx:(max (most:Int) 0)=(most:Int):=by omega
 have hwm:IntKind.u64.wrap (most:Int)=(most:Int):=by rw[IntKind.wrap_u64];omega
 have HAT:=hid hat;have HSZ:=hid hsz;clear h hst hR he hat hsz
 go_enter Tryz.func143,Tryz.ntmps143
 go_wp2_with fail
 refine HG.out.mono ?_;rintro e w1 ⟨rfl,rfl⟩
 go_wp2_with fail
 try rw[hwm]
 refine HS.out.mono ?_;rintro e w2 ⟨rfl,h2,hf2⟩;obtain⟨d0,d1,d2,d3⟩:=h2.cs;have H2:=hid h2;have HA2:=hid h2.2.1;have HF2:=hid hf2;have hlen:s.data.toList.length=s.size:=by rw[Array.length_toList];rfl
 have HLEN:=hid hlen;clear h2 hf2 c0 c1 c2 c3 hlen;by_cases he2:sr.e=0;rotate_left
 ·have ht:st.text s.data.toList most=([],sr):=by rw[HST.out,if_pos he2]
  have HTT:=hid ht;have hq:(sr.e == 0)=false:=by simpa using he2
  clear ht he2;go_wp2;go_ret;rw[HTT.out];exact⟨⟨⟨#[]⟩,rfl,rfl⟩,H2.out,HF2.out⟩
 have hq:(sr.e == 0)=true:=by simpa using he2
 obtain⟨L,hL⟩:∃L,L=s.size-sr.at_:=⟨_,rfl⟩;have hsub:((s.size:Int)-(sr.at_:Int))=(L:Int):=by have:=HA2.out;omega
 have hw3:IntKind.u64.wrap (L:Int)=(L:Int):=by have:=HSZ.out;rw[IntKind.wrap_u64];omega
 have hw6:wrap64 (L:Int)=(L:Int):=by have:=HSZ.out;unfold wrap64;omega
 by_cases hlt:L<n
 ·have ht:st.text s.data.toList most=([],⟨st.at_,8,st.at_⟩):=by
   rw[HST.out,if_neg (λh=>h he2),if_pos (by rw[HLEN.out];omega)]
  have HTT:=hid ht;have hd:decide ((L:Int)<(n:Int))=true:=by simp;omega
  have hdn:decide (L<n)=true:=by simpa using hlt
  have HWR:=hid (λnq=>aM (w2.drewN nq) p s sr (H2.out.drewN nq) 8 st.at_ HAT.out);clear ht he2 hL hlt;go_wp2
  go_quiet (fail)
  go_wp2_with fail
  refine(HWR.out nq).mono ?_;rintro e w5 ⟨rfl,h5,hf5⟩;have H5:=hid h5;have HF5:=hid (HF2.out.trans (Fr.trans (b:=w2.drewN nq) ⟨rfl,rfl,rfl,Nat.le_refl _,λ_ _ _=>rfl⟩ hf5));clear h5 hf5;go_wp2;go_ret;rw[HTT.out];exact⟨⟨⟨#[]⟩,rfl,rfl⟩,H5.out,HF5.out⟩
 ·have ht:st.text s.data.toList most=((sr.take s.data.toList n).1,(sr.take s.data.toList n).2.2):=by
   rw[HST.out,if_neg (λh=>h he2),if_neg (by rw[HLEN.out];omega)]
  have HTT:=hid ht;have hd:decide ((L:Int)<(n:Int))=false:=by simp;omega
  have hdn:decide (L<n)=false:=by simpa using hlt
  have hn:n≤1099511627776:=by have:=HSZ.out;omega
  have hw4:IntKind.i64.wrap (n:Int)=(n:Int):=by rw[IntKind.wrap_i64];omega
  have hw5:wrap64 (n:Int)=(n:Int):=by unfold wrap64;omega
  have HRW:=hid (λnq=>aT (w2.drewN nq) p s sr (H2.out.drewN nq) n hn);clear ht he2 hL hlt;go_wp2
  go_quiet (fail)
  go_wp2_with fail
  try rw[hw4]
  try rw[hw5]
  refine(HRW.out nq).mono ?_;rintro e w5 ⟨r,hr,rfl,h5,hf5⟩;have HR:=hid hr;have H5:=hid h5;have HF5:=hid (HF2.out.trans (Fr.trans (b:=w2.drewN nq) ⟨rfl,rfl,rfl,Nat.le_refl _,λ_ _ _=>rfl⟩ hf5));clear h5 hf5 hr;go_wp2;go_ret;rw[HTT.out];exact⟨⟨r,HR.out,rfl⟩,H5.out,HF5.out⟩
theorem RrAt.sub {w w':World}{q p:Nat}{s:ByteArray}{r:RS}{st':RdSt}(h:RrAt w q p s r)(h1:IsRd w' p s st')(hf:Fr (λk=>k=p) w w'):RrTo w w' q p s ⟨st',r.bad⟩:=
 ⟨⟨hf.heapAt h.cell h.ne,h1,h.ne⟩,hf.mono (λ_ _ e=>.inl e)⟩
theorem pl (w:World)(q p:Nat)(s:ByteArray)(r:RS)(h:RrAt w q p s r) :
  Calls Tryz.prog 143 #[.pointer (some ⟨p,0,none⟩),.int .i64 24] w λe w'=>(∃x:ByteArray,x.data.toList=(r.text s.data.toList).1∧e = .returned (.string x))∧RrTo w w' q p s (r.text s.data.toList).2:=by
 refine(pk w p s r.st h.rd 24 (by omega)).mono ?_;rintro e w' ⟨h1,h2,h3⟩;exact⟨h1,h.sub h2 h3⟩
theorem pm (w:World)(q p:Nat)(s:ByteArray)(r:RS)(h:RrAt w q p s r) :
  Calls Tryz.prog 153 #[.pointer (some ⟨p,0,none⟩)] w λe w'=>e = .returned (.int .u8 (r.u8 s.data.toList).1)∧RrTo w w' q p s (r.u8 s.data.toList).2:=by
 refine(bW w p s r.st h.rd).mono ?_;rintro e w' ⟨h1,h2,h3⟩;exact⟨h1,h.sub h2 h3⟩
theorem RrTo.trans {w w1 w2:World}{q p:Nat}{s:ByteArray}{r1 r2:RS}(h:RrTo w w1 q p s r1)(k:RrTo w1 w2 q p s r2):RrTo w w2 q p s r2:=⟨k.1,h.2.trans k.2⟩
end
end Go.Proofs.YtaeakdichkhjaaaGreatDoor
