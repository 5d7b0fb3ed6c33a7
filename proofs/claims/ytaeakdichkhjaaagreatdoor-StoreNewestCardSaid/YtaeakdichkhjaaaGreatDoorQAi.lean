/- The walks of the empty state, and of at, of the laws of snapshots' files. -/
import Derived.Test.YtaeakdichkhjaaaGreatDoorQAg
import Derived.Test.YtaeakdichkhjaaaGreatDoorQAh
import Derived.Test.YtaeakdichkhjaaaGreatDoorQAe
import Derived.Test.YtaeakdichkhjaaaGreatDoorShelfD
import Derived.Lib.SmallJoins
import Derived.Test.YtaeakdichkhjaaaGreatDoorQAa
import Derived.Test.YtaeakdichkhjaaaGreatDoorChecked
import Derived.Deep.AppendLies
import Derived.Test.YtaeakdichkhjaaaGreatDoorQAf
import Derived.Test.YtaeakdichkhjaaaGreatDoorQAd
set_option maxHeartbeats 2000000
open Go.Lib(hid)
namespace Go.Proofs.YtaeakdichkhjaaaGreatDoor
section
open Go.RowKit
theorem kq {w:World}{b:Nat}{T:TypeId}{v0 v1 v2 v3 v4 v5 v6 v7 v8:Value}(h:w.heap[b]?=some (.cells #[v0,v1,v2,v3,v4,v5,v6,v7,v8] T (0,0))):w.cell? ⟨b,0,none⟩=some v0∧w.cell? ⟨b,1,none⟩=some v1∧w.cell? ⟨b,2,none⟩=some v2∧w.cell? ⟨b,3,none⟩=some v3∧w.cell? ⟨b,4,none⟩=some v4∧w.cell? ⟨b,5,none⟩=some v5∧w.cell? ⟨b,6,none⟩=some v6∧w.cell? ⟨b,7,none⟩=some v7∧w.cell? ⟨b,8,none⟩=some v8:=
 ⟨(cell_of_row _ _ _ _ _ _ h).trans rfl,(cell_of_row _ _ _ _ _ _ h).trans rfl,(cell_of_row _ _ _ _ _ _ h).trans rfl,(cell_of_row _ _ _ _ _ _ h).trans rfl,(cell_of_row _ _ _ _ _ _ h).trans rfl,(cell_of_row _ _ _ _ _ _ h).trans rfl,(cell_of_row _ _ _ _ _ _ h).trans rfl,(cell_of_row _ _ _ _ _ _ h).trans rfl,(cell_of_row _ _ _ _ _ _ h).trans rfl⟩
theorem kr {w:World}{b:Nat}{T:TypeId}{v0 v1 v2 v3 v4 v5 v6 v7 v8:Value}(h:w.heap[b]?=some (.cells #[v0,v1,v2,v3,v4,v5,v6,v7,v8] T (0,0))):w.cell? ⟨b,0,none⟩=some v0∧w.frozen? ⟨b,0,none⟩=false∧w.cell? ⟨b,1,none⟩=some v1∧w.frozen? ⟨b,1,none⟩=false∧w.cell? ⟨b,2,none⟩=some v2∧w.frozen? ⟨b,2,none⟩=false∧w.cell? ⟨b,3,none⟩=some v3∧w.frozen? ⟨b,3,none⟩=false∧w.cell? ⟨b,4,none⟩=some v4∧w.frozen? ⟨b,4,none⟩=false∧w.cell? ⟨b,5,none⟩=some v5∧w.frozen? ⟨b,5,none⟩=false∧w.cell? ⟨b,6,none⟩=some v6∧w.frozen? ⟨b,6,none⟩=false∧w.cell? ⟨b,7,none⟩=some v7∧w.frozen? ⟨b,7,none⟩=false∧w.cell? ⟨b,8,none⟩=some v8∧w.frozen? ⟨b,8,none⟩=false:=
 ⟨(cell_of_row _ _ _ _ _ _ h).trans rfl,frozen_of_row _ _ _ _ _ h,(cell_of_row _ _ _ _ _ _ h).trans rfl,frozen_of_row _ _ _ _ _ h,(cell_of_row _ _ _ _ _ _ h).trans rfl,frozen_of_row _ _ _ _ _ h,(cell_of_row _ _ _ _ _ _ h).trans rfl,frozen_of_row _ _ _ _ _ h,(cell_of_row _ _ _ _ _ _ h).trans rfl,frozen_of_row _ _ _ _ _ h,(cell_of_row _ _ _ _ _ _ h).trans rfl,frozen_of_row _ _ _ _ _ h,(cell_of_row _ _ _ _ _ _ h).trans rfl,frozen_of_row _ _ _ _ _ h,(cell_of_row _ _ _ _ _ _ h).trans rfl,frozen_of_row _ _ _ _ _ h,(cell_of_row _ _ _ _ _ _ h).trans rfl,frozen_of_row _ _ _ _ _ h⟩
theorem ku {w:World}{b:Nat}{T:TypeId}{v0 v1 v2 v3:Value}(h:w.heap[b]?=some (.cells #[v0,v1,v2,v3] T (0,0))):w.cell? ⟨b,0,none⟩=some v0∧w.cell? ⟨b,1,none⟩=some v1∧w.cell? ⟨b,2,none⟩=some v2∧w.cell? ⟨b,3,none⟩=some v3:=
 ⟨(cell_of_row _ _ _ _ _ _ h).trans rfl,(cell_of_row _ _ _ _ _ _ h).trans rfl,(cell_of_row _ _ _ _ _ _ h).trans rfl,(cell_of_row _ _ _ _ _ _ h).trans rfl⟩
theorem kw {w:World}{b:Nat}{T:TypeId}{v0 v1 v2 v3:Value}(h:w.heap[b]?=some (.cells #[v0,v1,v2,v3] T (0,0))):w.cell? ⟨b,0,none⟩=some v0∧w.frozen? ⟨b,0,none⟩=false∧w.cell? ⟨b,1,none⟩=some v1∧w.frozen? ⟨b,1,none⟩=false∧w.cell? ⟨b,2,none⟩=some v2∧w.frozen? ⟨b,2,none⟩=false∧w.cell? ⟨b,3,none⟩=some v3∧w.frozen? ⟨b,3,none⟩=false:=
 ⟨(cell_of_row _ _ _ _ _ _ h).trans rfl,frozen_of_row _ _ _ _ _ h,(cell_of_row _ _ _ _ _ _ h).trans rfl,frozen_of_row _ _ _ _ _ h,(cell_of_row _ _ _ _ _ _ h).trans rfl,frozen_of_row _ _ _ _ _ h,(cell_of_row _ _ _ _ _ _ h).trans rfl,frozen_of_row _ _ _ _ _ h⟩
def ky (W:World)(n:Nat)(v0 v1 v2 v3 v4 v5 v6 v7 v8 u0 u1 u2 u3:Value):World:=(((((((((((((W.setCell ⟨n,0,none⟩ v0).setCell ⟨n,1,none⟩ v1).setCell ⟨n,2,none⟩ v2).setCell ⟨n,3,none⟩ v3).setCell ⟨n,4,none⟩ v4).setCell ⟨n,5,none⟩ v5).setCell ⟨n,6,none⟩ v6).setCell ⟨n,7,none⟩ v7).setCell ⟨n,8,none⟩ v8).setCell ⟨n+1,0,none⟩ u0).setCell ⟨n+1,1,none⟩ u1).setCell ⟨n+1,2,none⟩ u2).setCell ⟨n+1,3,none⟩ u3)
structure Fin13 (W Wf:World) (n:Nat) (v0 v1 v2 v3 v4 v5 v6 v7 v8 u0 u1 u2 u3:Value):Prop where
 s0:Wf.cell? ⟨n,0,none⟩=some v0
 s1:Wf.cell? ⟨n,1,none⟩=some v1
 s2:Wf.cell? ⟨n,2,none⟩=some v2
 s3:Wf.cell? ⟨n,3,none⟩=some v3
 s4:Wf.cell? ⟨n,4,none⟩=some v4
 s5:Wf.cell? ⟨n,5,none⟩=some v5
 s6:Wf.cell? ⟨n,6,none⟩=some v6
 s7:Wf.cell? ⟨n,7,none⟩=some v7
 s8:Wf.cell? ⟨n,8,none⟩=some v8
 t0:Wf.cell? ⟨n+1,0,none⟩=some u0
 t1:Wf.cell? ⟨n+1,1,none⟩=some u1
 t2:Wf.cell? ⟨n+1,2,none⟩=some u2
 t3:Wf.cell? ⟨n+1,3,none⟩=some u3
 fr:Fr (λk=>k=n∨k=n+1) W Wf
theorem kz {W:World}{n:Nat}{TS TV:TypeId}{z0 z1 z2 z3 z4 z5 z6 z7 z8 y0 y1 y2 y3:Value}(hP:W.heap[n]?=some (.cells #[z0,z1,z2,z3,z4,z5,z6,z7,z8] TS (0,0)))(hQ:W.heap[n+1]?=some (.cells #[y0,y1,y2,y3] TV (0,0)))(v0 v1 v2 v3 v4 v5 v6 v7 v8 u0 u1 u2 u3:Value):Fin13 W (ky W n v0 v1 v2 v3 v4 v5 v6 v7 v8 u0 u1 u2 u3) n v0 v1 v2 v3 v4 v5 v6 v7 v8 u0 u1 u2 u3:=by
 have ra:=iX v0 v1 v2 v3 v4 v5 v6 v7 v8 hP;have fa:=iW W n v0 v1 v2 v3 v4 v5 v6 v7 v8;have rb:=ja u0 u1 u2 u3 (fa.heapAt hQ (show ¬n+1=n by omega));have fb:=iZ (iV W n v0 v1 v2 v3 v4 v5 v6 v7 v8) (n+1) u0 u1 u2 u3;have ra':=fb.heapAt ra (show ¬n=n+1 by omega);obtain⟨a0,a1,a2,a3,a4,a5,a6,a7,a8⟩:=kq ra';obtain⟨b0,b1,b2,b3⟩:=ku rb;exact⟨a0,a1,a2,a3,a4,a5,a6,a7,a8,b0,b1,b2,b3,(fa.mono (λ_ _ e=>.inl e)).trans (fb.mono (λ_ _ e=>.inr e))⟩
theorem Fin13.drew {W Wf:World}{n:Nat}{v0 v1 v2 v3 v4 v5 v6 v7 v8 u0 u1 u2 u3:Value}(h:Fin13 W Wf n v0 v1 v2 v3 v4 v5 v6 v7 v8 u0 u1 u2 u3):Fin13 W Wf.drew n v0 v1 v2 v3 v4 v5 v6 v7 v8 u0 u1 u2 u3:=⟨h.s0,h.s1,h.s2,h.s3,h.s4,h.s5,h.s6,h.s7,h.s8,h.t0,h.t1,h.t2,h.t3,h.fr.drew⟩
theorem Fin13.pure {W Wf W2:World}{n:Nat}{v0 v1 v2 v3 v4 v5 v6 v7 v8 u0 u1 u2 u3:Value}(h:Fin13 W Wf n v0 v1 v2 v3 v4 v5 v6 v7 v8 u0 u1 u2 u3)(hb:Below Wf.heap.size Wf W2):Fin13 W W2 n v0 v1 v2 v3 v4 v5 v6 v7 v8 u0 u1 u2 u3:=
 ⟨(hb.cell (aA h.s0)).trans h.s0,(hb.cell (aA h.s1)).trans h.s1,(hb.cell (aA h.s2)).trans h.s2,(hb.cell (aA h.s3)).trans h.s3,(hb.cell (aA h.s4)).trans h.s4,(hb.cell (aA h.s5)).trans h.s5,(hb.cell (aA h.s6)).trans h.s6,(hb.cell (aA h.s7)).trans h.s7,(hb.cell (aA h.s8)).trans h.s8,(hb.cell (aA h.t0)).trans h.t0,(hb.cell (aA h.t1)).trans h.t1,(hb.cell (aA h.t2)).trans h.t2,(hb.cell (aA h.t3)).trans h.t3,h.fr.andPure hb⟩
theorem kA (w:World)(o1 o2:Obj):Below w.heap.size w ((w.alloc o1).alloc o2):=((Below.refl _ _).alloc (Nat.le_refl _) _).alloc (by simp) _
theorem kB {W:World}{n:Nat}{TS TV:TypeId}{z0 z1 z2 z3 z4 z5 z6 z7 z8 y0 y1 y2 y3:Value}(hP:W.heap[n]?=some (.cells #[z0,z1,z2,z3,z4,z5,z6,z7,z8] TS (0,0)))(hQ:W.heap[n+1]?=some (.cells #[y0,y1,y2,y3] TV (0,0)))(v0 v1 v2 v3 v4 v5 v6 v7 v8 u0 u1 u2 u3:Value):∃Wf,Wf=(((((((((((((W.setCell ⟨n,0,none⟩ v0).setCell ⟨n,1,none⟩ v1).setCell ⟨n,2,none⟩ v2).setCell ⟨n,3,none⟩ v3).setCell ⟨n,4,none⟩ v4).setCell ⟨n,5,none⟩ v5).setCell ⟨n,6,none⟩ v6).setCell ⟨n,7,none⟩ v7).setCell ⟨n,8,none⟩ v8).setCell ⟨n+1,0,none⟩ u0).setCell ⟨n+1,1,none⟩ u1).setCell ⟨n+1,2,none⟩ u2).setCell ⟨n+1,3,none⟩ u3)∧Fin13 W Wf n v0 v1 v2 v3 v4 v5 v6 v7 v8 u0 u1 u2 u3:=⟨_,rfl,kz hP hQ v0 v1 v2 v3 v4 v5 v6 v7 v8 u0 u1 u2 u3⟩
theorem kC (l:List UInt8):iS (Crc.seal_ l):=by
 refine⟨by rw[Crc.seal_length];omega,?_⟩;rw[Crc.seal_length,Nat.add_sub_cancel];unfold Crc.seal_;rw[List.take_left'];rfl
theorem kD {A B C:List UInt8}{k n:Nat}(hA:A.length=k)(hB:B.length=n):(⟨k,0,0⟩:RdSt).take (A++(B++C)) n=(B,true,⟨k+n,0,0⟩):=by
 unfold RdSt.take;rw[if_neg (by simp),if_neg (by simp[hA,hB])];simp only;rw[List.drop_left' hA,List.take_left' hB]
def stZ:Value:=.agg #[.int .i64 0,.int .i64 0,.int .i64 0,.int .i64 0,.slice none 0 0,.slice none 0 0,.slice none 0 0,.slice none 0 0,.slice none 0 0]
set_option maxRecDepth 100000 in
theorem kE (x:Int)(w:World):Calls Tryz.prog 63 #[.int .i64 x] w λe w'=>e = .returned (.tuple #[.int .i64 0,stZ,cy,.int .i64 x])∧Below w.heap.size w w':=by
 go_enter Tryz.func63,Tryz.ntmps63
 go_wp2;obtain⟨n,hn⟩:∃n,n=w.heap.size:=⟨_,rfl⟩;obtain⟨W0,hW0⟩:∃W0,W0=(w.alloc (.cells #[.int .i64 0,.int .i64 0,.int .i64 0,.int .i64 0,.slice none 0 0,.slice none 0 0,.slice none 0 0,.slice none 0 0,.slice none 0 0] 29)).alloc (.cells #[.slice none 0 0,.slice none 0 0,.slice none 0 0,.slice none 0 0] 35):=⟨_,rfl⟩;have hbel:Below w.heap.size w W0:=by rw[hW0];exact((Below.refl _ _).alloc (Nat.le_refl _) _).alloc (by simp) _
 have k0:W0.heap[n]?=some (.cells #[.int .i64 0,.int .i64 0,.int .i64 0,.int .i64 0,.slice none 0 0,.slice none 0 0,.slice none 0 0,.slice none 0 0,.slice none 0 0] 29 (0,0)):=by rw[hW0,hn];exact(Below.heap_alloc _ _ _ (by simp<;>omega)).trans (heap_alloc_new _ _)
 have k1:W0.heap[n+1]?=some (.cells #[.slice none 0 0,.slice none 0 0,.slice none 0 0,.slice none 0 0] 35 (0,0)):=by rw[hW0,hn];exact cj _ _ (by simp)
 rw[← hW0,← hn];obtain⟨o0,o1,o2,o3,o4,o5,o6,o7,o8⟩:=kq (k0);obtain⟨u0,u1,u2,u3⟩:=ku (k1);clear hW0;exact bodyPost_ret (v:=.tuple #[.int .i64 0,.agg #[.int .i64 0,.int .i64 0,.int .i64 0,.int .i64 0,.slice none 0 0,.slice none 0 0,.slice none 0 0,.slice none 0 0,.slice none 0 0],.agg #[.slice none 0 0,.slice none 0 0,.slice none 0 0,.slice none 0 0],.int .i64 x]) (by simp[results,Tryz.results63,go_sem,o0,o1,o2,o3,o4,o5,o6,o7,o8,u0,u1,u2,u3]) rfl ⟨rfl,by rw[hn];exact hbel⟩
end
section
open Go.RowKit Go.Sort Go.Shelf
set_option maxRecDepth 100000 in
theorem kF (w:World)(f:Int):Calls Tryz.prog 31 #[.int .i64 f] w λe w'=>e = .returned (.bool (fg f))∧w=w':=by
 by_cases h0:0≤f
 ·by_cases h1:f≤1048576
  ·go_enter Tryz.func31,Tryz.ntmps31
   go_wp2;go_ret;exact⟨aB (by unfold fg;simp[h0,h1]),rfl⟩
  ·go_enter Tryz.func31,Tryz.ntmps31
   go_wp2;go_ret;exact⟨aB (by unfold fg;simp[h1]),rfl⟩
 ·go_enter Tryz.func31,Tryz.ntmps31
  go_wp2;go_ret;exact⟨aB (by unfold fg;simp;omega),rfl⟩
set_option maxRecDepth 100000 in
theorem kG (w:World)(hp:Pow w)(n:Int) :
  Calls Tryz.prog 15 #[.int .i64 n] w λe w'=>(∃r:ByteArray,r.data.toList=fN n∧e = .returned (.string r))∧Below w.heap.size w w':=by
 have HP:=hid hp;clear hp;cases hn:fg n
 ·have hE:=hid (show fN n=[]from by unfold fN;rw[if_neg (by unfold fg at hn;simp at hn;omega)])
  go_enter Tryz.func15,Tryz.ntmps15
  go_wp2_with fail
  refine(kF _ n).mono ?_;rintro e w1 ⟨rfl,rfl⟩;rw[hn];go_wp2;go_ret;exact⟨⟨⟨#[]⟩,by rw[hE.out],rfl⟩,Below.refl _ _⟩
 ·have hf:0≤n∧n≤1048576:=by unfold fg at hn;simp at hn;exact hn
  obtain⟨h0,h1⟩:=hf;have hE:=hid (show fN n=110::eZ n 10 from by unfold fN;rw[if_pos ⟨h0,h1⟩])
  go_enter Tryz.func15,Tryz.ntmps15
  go_wp2_with fail
  refine(kF _ n).mono ?_;rintro e w1 ⟨rfl,rfl⟩;rw[hn]
  go_wp2_with fail
  refine(Tryz.strconv_FormatInt_10 n (by omega) (by omega) w HP.out).mono ?_;rintro e w1 ⟨rfl,k,os,hw1⟩;have hb1:Below w.heap.size w w1:=by rw[hw1];exact⟨rfl,rfl,rfl,by simp[grow,World.drewN],λj hj=>by simp[grow,World.drewN,Array.getElem?_append,hj]⟩
  clear hw1;obtain⟨t,ht⟩:∃t:ByteArray,t=⟨(Lib.itoa n).toArray⟩:=⟨_,rfl⟩;rw[← ht];have htl:=hid (show t.data.toList=Lib.itoa n from by rw[ht]);clear ht;have hts:t.size≤7:=by
   rw[av htl.out];obtain⟨u,rfl⟩:∃u:Nat,n=(u:Int):=⟨n.toNat,by omega⟩;rw[Lib.itoa_nonneg];exact fq u 6 (by omega)
  have hw2:IntKind.i64.wrap (10-(t.size:Int))=10-(t.size:Int):=IntWalk.i64_in _ (by omega);have hw3:(10-(t.size:Int))=((10-t.size:Nat):Int):=by omega
  rw[hw3]at hw2
  go_wp2_with fail
  try rw[hw3]
  refine(Tryz.strings_Repeat ⟨#[48]⟩ (10-t.size) w1 (by omega) (by show 1*(10-t.size)≤_;omega)).mono ?_;rintro e w2 ⟨rfl,hb2⟩;obtain⟨z,hz⟩:∃z:ByteArray,z=⟨(Lib.repeatL (⟨#[48]⟩:ByteArray).data.toList (10-t.size)).toArray⟩:=⟨_,rfl⟩;rw[← hz];have hzl:=hid (show z.data.toList=eX (10-t.size)from by rw[hz];exact eY _);clear hz;have hzs:z.size≤10:=by rw[av hzl.out];unfold eX;rw[List.length_replicate];omega
  have hcat0:(⟨#[110]⟩:ByteArray).size+z.size≤9223372036854775807:=by show 1+z.size≤_;omega
  have hcat1:1+z.size≤9223372036854775807:=by omega
  have hcat:1+z.size+t.size≤9223372036854775807:=by omega
  have HB:=hid (hb1.trans (hb2.mono hb1.size));clear hb1 hb2;go_wp2;go_ret;refine⟨⟨_,?_,rfl⟩,HB.out⟩;rw[hE.out];unfold eZ;rw[← htl.out,am,← hzl.out];simp
def ErrIn (w:World)(g:Nat):Prop:=∃ev,w.cell? ⟨g,0,none⟩=some ev∧(ev = .nilIface∨∃te pe,ev = .iface te pe)
structure Libz (w:World):Prop where
 pow:Pow w
 syn:ErrIn w 1
 rng:ErrIn w 2
theorem ErrIn.kept {S:Nat→Prop}{w w':World}{g:Nat}(h:ErrIn w g)(hf:Fr S w w')(hs:¬S g):ErrIn w' g:=by
 obtain⟨ev,h1,h2⟩:=h;exact⟨ev,hf.cellAt h1 hs,h2⟩
def kH (k:Nat):Prop:=k=0∨k=1∨k=2
theorem Libz.kept {S:Nat→Prop}{w w':World}(h:Libz w)(hf:Fr S w w')(hs:∀k,S k→¬kH k):Libz w':=
 ⟨hf.pow h.pow (λe=>hs _ e (.inl rfl)),h.syn.kept hf (λe=>hs _ e (.inr (.inl rfl))),h.rng.kept hf (λe=>hs _ e (.inr (.inr rfl)))⟩
theorem Libz.pure {w w':World}(h:Libz w)(hb:Below w.heap.size w w'):Libz w':=h.kept (Fr.pure (S:=λ_=>False) hb) (λ_ e=>e.elim)
theorem Libz.lt {w:World}(h:Libz w)(k:Nat)(hk:kH k):k<w.heap.size:=by
 rcases hk with rfl|rfl|rfl
 ·exact eV h.pow
 ·obtain⟨ev,h1,_⟩:=h.syn;exact Lib.lt_of_cell h1
 ·obtain⟨ev,h1,_⟩:=h.rng;exact Lib.lt_of_cell h1
theorem kI (s:ByteArray)(hz:s.size≤281474976710656)(w:World)(h:Libz w) :
  Calls Tryz.prog 62 #[.string s,.int .i64 10,.int .i64 64] w λe w'=>((∃v:Int,Lib.parseIntB 64 s.data.toList = .ok v∧e = .returned (.tuple #[.int .i64 v,.nilIface]))∨(∃(v:Int) (t:TypeId) (a:Addr),(∀u,Lib.parseIntB 64 s.data.toList ≠ .ok u)∧e = .returned (.tuple #[.int .i64 v,.iface t (.pointer (some a))])))∧Below w.heap.size w w':=by
 cases hp:Lib.parseIntB 64 s.data.toList
 ·rename_i v
  refine(Any.strconv_ParseInt_10_at64_ok Tryz.laysD174 s (by omega) v hp w).mono ?_;rintro e w' ⟨he,h⟩;refine⟨.inl ⟨v,rfl,he⟩,?_⟩
  rcases h with rfl|⟨t,rfl⟩
  ·exact Below.refl _ _
  ·exact Joins.below_bytesWorld _ _ _ _ (Nat.le_refl _)
 ·obtain⟨ev,h1,h2⟩:=h.syn
  refine(Any.strconv_ParseInt_10_at64_syntax Tryz.laysD174 s hz hp ev w h1 h2).mono ?_;rintro e w' ⟨n,he,_,_,hb⟩;exact⟨.inr ⟨_,_,_,(λu hu=>by cases hu),he⟩,hb⟩
 ·obtain⟨ev,h1,h2⟩:=h.rng
  refine(Any.strconv_ParseInt_10_at64_range Tryz.laysD174 s hz hp ev w h1 h2).mono ?_;rintro e w' ⟨n,he,_,_,hb⟩;exact⟨.inr ⟨_,_,_,(λu hu=>by cases hu),he⟩,hb⟩
def kJ (s:List UInt8)(r:Value):Prop:=(∃n:Nat,n≤1048576∧s=fN (n:Int)∧r = .tuple #[.int .i64 (n:Int),.bool true])∨(¬fO s∧r = .tuple #[.int .i64 0,.bool false])
set_option maxRecDepth 100000 in
theorem kK (w:World)(h:Libz w)(s:ByteArray)(hz:s.size≤281474976710656) :
  Calls Tryz.prog 30 #[.string s] w λe w'=>(∃r,kJ s.data.toList r∧e = .returned r)∧Below w.heap.size w w':=by
 have H:=hid h;clear h;obtain⟨t,ht⟩:∃t:ByteArray,t=⟨(Lib.trimPrefix s.data.toList (⟨#[110]⟩:ByteArray).data.toList).toArray⟩:=⟨_,rfl⟩;have htz:t.size≤281474976710656:=by
  have h9:t.data.toList.length≤s.data.toList.length:=by
   rw[ht];show(Lib.trimPrefix s.data.toList [110]).toArray.toList.length≤_;exact fV _ _
  rw[am,am]at h9;omega
 have htl:t.data.toList=Lib.trimPrefix s.data.toList [110]:=by rw[ht]
 have HT:=hid htl;clear htl;cases hpre:Lib.hasPrefix s.data.toList (⟨#[110]⟩:ByteArray).data.toList
 ·have HX:=hid (show ¬fO s.data.toList from by
   rintro⟨n,hn,e⟩;rw[e,fP n hn]at hpre;have:=fT (eZ (n:Int) 10);rw[show(⟨#[110]⟩:ByteArray).data.toList=[110]from rfl,this]at hpre;cases hpre)
  go_enter Tryz.func30,Tryz.ntmps30
  go_wp2_with fail
  refine(Tryz.strings_CutPrefix s ⟨#[110]⟩ w).mono ?_;rintro e w1 ⟨rfl,rfl⟩;rw[← ht,hpre];clear ht
  go_wp2_with fail
  refine(kI t htz w1 H.out).mono ?_;rintro e w2 ⟨⟨v,_,rfl⟩|⟨v,ty,a,_,rfl⟩,hb2⟩
  ·have B2:=hid hb2
   clear hb2;go_wp2
   go_ret2
   exact⟨⟨_,.inr ⟨HX.out,rfl⟩,rfl⟩,B2.out⟩
  ·have B2:=hid hb2
   clear hb2;go_wp2
   go_ret2
   exact⟨⟨_,.inr ⟨HX.out,rfl⟩,rfl⟩,B2.out⟩
 ·have hdec:∀n:Nat,n≤1048576→s.data.toList=fN (n:Int)→Lib.parseIntB 64 t.data.toList = .ok (n:Int):=by
   intro n hn e;rw[HT.out,e,fP n hn,fU];exact fB n 10 (by omega)
  have HD:=hid hdec;clear hdec
  go_enter Tryz.func30,Tryz.ntmps30
  go_wp2_with fail
  refine(Tryz.strings_CutPrefix s ⟨#[110]⟩ w).mono ?_;rintro e w1 ⟨rfl,rfl⟩;rw[← ht,hpre];clear ht
  go_wp2_with fail
  refine(kI t htz w1 H.out).mono ?_;rintro e w2 ⟨⟨v,hv,rfl⟩|⟨v,ty,a,hv,rfl⟩,hb2⟩
  ·have B2:=hid hb2
   have HV:=hid hv;clear hb2 hv
   go_wp2_with fail
   refine(kG w2 (eW B2.out H.out.pow) v).mono ?_;rintro e w3 ⟨⟨r,hr,rfl⟩,hb3⟩;have B3:=hid (B2.out.trans (hb3.mono B2.out.size));by_cases heq:r.data.toList=s.data.toList
   ·have hne:fN v≠[]:=by
     intro e;rw[hr,e]at heq;rw[← heq]at hpre
     revert hpre;decide
    obtain⟨h0,h1⟩:=fS hne;obtain⟨n,rfl⟩:∃n:Nat,v=(n:Int):=⟨v.toNat,by omega⟩;have HY:=hid (show n≤1048576∧s.data.toList=fN (n:Int)from⟨by omega,by rw[← heq,hr]⟩);have hee:(r.toList == s.toList)=true:=ay heq;have hne:(r.toList != s.toList)=false:=by unfold bne;rw[hee];rfl
    clear hb3 hr heq;go_wp2
    go_ret2
    exact⟨⟨_,.inl ⟨n,HY.out.1,HY.out.2,rfl⟩,rfl⟩,B3.out⟩
   ·have HX:=hid (show ¬fO s.data.toList from by
     rintro⟨n,hn,e⟩;have:=HD.out n hn e;rw[HV.out]at this;cases this;exact heq (by rw[hr,e]))
    have hee:(r.toList == s.toList)=false:=by
     rw[ByteArray.toList_eq,ByteArray.toList_eq];simpa using heq
    have hne:(r.toList != s.toList)=true:=by unfold bne;rw[hee];rfl
    clear hb3 hr heq;go_wp2
    go_ret2
    exact⟨⟨_,.inr ⟨HX.out,rfl⟩,rfl⟩,B3.out⟩
  ·have B2:=hid hb2
   have HX:=hid (show ¬fO s.data.toList from by
    rintro⟨n,hn,e⟩;exact hv _ (HD.out n hn e))
   clear hb2 hv;go_wp2
   go_ret2
   exact⟨⟨_,.inr ⟨HX.out,rfl⟩,rfl⟩,B2.out⟩
end
section
open Go.RowKit
theorem Tryz.infoStr:(Tryz.prog.info? 9).map (λi=>(i.zero,i.size,i.bytes))=some (some (.string ⟨#[]⟩),1,16):=by kernel_rfl
theorem kL {w:World}{base:Nat}{e:TypeId}{size:Nat}{v:Value}{n:Nat}{xs:List Value}(h:w.ownsRow base e size v n xs){g:Nat}(hg:v.ownBlock=some g):base≤g:=by
 obtain⟨_,⟨rfl,_⟩|⟨g',cap,cur,rfl,hb,_⟩⟩:=h
 ·cases hg
 ·cases hg;exact hb
end
section
open Go.RowKit Go.Maps Go.Sort
def kM (l:Fs):List Value:=l.flatMap λf=>[encStr f.name,encStr f.firm,encStr f.pend]
theorem kN (l:Fs)(i:Nat)(h:i<l.length):(kM l)[i*3]?=some (encStr l[i].name)∧(kM l)[i*3+1]?=some (encStr l[i].firm)∧(kM l)[i*3+2]?=some (encStr l[i].pend):=by
 induction l generalizing i with
 | nil=>simp at h
 | cons x l ih=>
  rcases i with _|i
  ·simp[kM]
  ·have:=ih i (by simpa using h)
   simp only[kM,List.flatMap_cons,List.getElem_cons_succ]at this ⊢;rw[show(i+1)*3=i*3+1+1+1 from by omega];simpa using this
def OwnFiles (w:World)(v:Value)(l:Fs):Prop:=w.ownsRow 0 60 3 v l.length (kM l)
theorem kO (l:List UInt8):(⟨l.toArray⟩:ByteArray).data.toList=l:=by simp
theorem OwnFiles.at {w:World}{v:Value}{l:Fs}(h:OwnFiles w v l):FilesAt w v l:=by
 rcases h.2 with⟨hv,hn⟩|⟨g,cap,cur,hv,hh⟩
 ·exact⟨none,0,by rw[hv,hn],.inl (List.eq_nil_of_length_eq_zero hn)⟩
 ·subst hv
  refine⟨_,cap,rfl,.inr ⟨g,0,rfl,λi hi=>?_⟩⟩;obtain⟨h1,h2,h3⟩:=kN l i hi;refine⟨_,_,_,kO _,kO _,kO _,?_⟩;rw[Nat.zero_add,World.ownsRow.cellAt h (i*3) (by omega),World.ownsRow.cellAt h (i*3+1) (by omega),World.ownsRow.cellAt h (i*3+2) (by omega)];exact⟨h1,h2,h3⟩
theorem FilesAt.kept {S:Nat→Prop}{w w':World}{sv:Value}{l:Fs}(h:FilesAt w sv l)(hf:Fr S w w')(hs:∀g,sv.ownBlock=some g→¬S g):FilesAt w' sv l:=by
 obtain⟨a,c,rfl,h|⟨b,o,rfl,h⟩⟩:=h
 ·exact⟨a,c,rfl,.inl h⟩
 ·refine⟨_,c,rfl,.inr ⟨b,o,rfl,λi hi=>?_⟩⟩
  obtain⟨x,y,z,e1,e2,e3,h1,h2,h3⟩:=h i hi;exact⟨x,y,z,e1,e2,e3,hf.cellAt h1 (hs b rfl),hf.cellAt h2 (hs b rfl),hf.cellAt h3 (hs b rfl)⟩
theorem FilesAt.pure {w w':World}{sv:Value}{l:Fs}(h:FilesAt w sv l)(hb:Below w.heap.size w w'):FilesAt w' sv l:=h.kept (Fr.pure (S:=λ_=>False) hb) (λ_ _ h=>h)
def kP (w:World)(base:Nat)(v:Value)(l:List (List UInt8)):Prop:=w.ownsRow base 9 1 v l.length (l.map encStr)
theorem kQ (w:World)(p b:Nat)(st:DkSt)(h:IsDk w p b st) :
  Calls Tryz.prog 29 #[.pointer (some ⟨p,0,none⟩)] w λe w'=>Below w.heap.size w w' ∧
   (if st.dark then e = .returned (.tuple #[.slice none 0 0,.int .i64 45]) else ∃v,e = .returned (.tuple #[v,.int .i64 0])∧kP w' w.heap.size v (st.fs.map (·.name))):=by
 have H:=hid h;clear h;cases hd:st.dark
 ·have HD:=hid hd
  clear hd
  go_enter Tryz.func29,Tryz.ntmps29
  go_wp2_with fail
  refine(cY _ p b st H.out).mono ?_;rintro e w1 ⟨rfl,rfl⟩;rw[HD.out]
  go_wp2_with fail
  refine(gD _ p b st H.out).mono ?_;rintro e w1 ⟨v,rfl,ho,hb⟩;have HO:=hid ho;have HB:=hid hb;clear ho hb;go_wp2;refine bodyPost_ret (v:=.tuple #[v,.int .i64 0]) (by simp[results,Tryz.results29,go_sem]) rfl ?_;exact⟨HB.out,v,rfl,by have:=HO.out;unfold kP;rw[List.length_map];exact this⟩
 ·have HD:=hid hd
  clear hd
  go_enter Tryz.func29,Tryz.ntmps29
  go_wp2_with fail
  refine(cY _ p b st H.out).mono ?_;rintro e w1 ⟨rfl,rfl⟩;rw[HD.out];go_wp2;refine bodyPost_ret (v:=.tuple #[.slice none 0 0,.int .i64 45]) (by simp[results,Tryz.results29,go_sem]) rfl ?_;exact⟨Below.refl _ _,rfl⟩
end
section
open Go.RowKit Go.Sort Go.Shelf
theorem Tryz.infoI64:(Tryz.prog.info? 2).map (λi=>(i.zero,i.size,i.bytes))=some (some (.int .i64 0),1,8):=by kernel_rfl
def kR (n:Nat):Value:=.int .i64 (n:Int)
def kS (w:World)(base:Nat)(v:Value)(l:List Nat):Prop:=w.ownsRow base 2 1 v l.length (l.map kR)
def kT (st:DkSt)(w:World)(e:Ending)(w':World):Prop:=Below w.heap.size w w' ∧
 (if st.dark then e = .returned (.tuple #[.slice none 0 0,.int .i64 45]) else ∃v,e = .returned (.tuple #[v,.int .i64 0])∧kS w' w.heap.size v (gd (st.fs.map (·.name))))
set_option maxRecDepth 100000 in
theorem kU (w:World)(hl:Libz w)(p b:Nat)(st:DkSt)(h:IsDk w p b st) :
  Calls Tryz.prog 10 #[.pointer (some ⟨p,0,none⟩)] w λe w'=>kT st w e w':=by
 have H:=hid h;have HL:=hid hl;have hfew:=h.ok.fs.few;have hnm:=hid h.ok.fs.names;clear h hl;cases hd:st.dark
 ·have HD:=hid hd
  clear hd
  go_enter Tryz.func10,Tryz.ntmps10
  go_wp2_with fail
  refine(kQ w p b st H.out).mono ?_;rintro e w1 ⟨hb1,h1⟩;rw[HD.out,if_neg (by decide)]at h1;obtain⟨v,rfl,hown⟩:=h1;obtain⟨ns,hns⟩:∃ns,ns=st.fs.map (·.name):=⟨_,rfl⟩;rw[← hns]at hown;have hnl:ns.length≤64:=by rw[hns,List.length_map];exact hfew
  have hnz:=hid (show ∀x∈ns,x.length≤24 from λx hx=>by
   rw[hns]at hx;obtain⟨f,hf,rfl⟩:=List.mem_map.1 hx;exact hnm.out f hf)
  have HN:=hid hns;clear hns;obtain⟨ga,gc,rfl,_,hrow⟩:=gM hown
  rename_i hlen
  clear hlen;have HR:=hid hrow;have HB1:=hid hb1;have HL1:=hid (HL.out.pure hb1);clear hown hrow hb1;go_wp2
  go_loopw [6,21] (λv i wr=>∃k:Nat,i = .int .i64 k∧k≤ns.length∧Hid (kS wr w1.heap.size v (gd (ns.take k)))∧Hid (Below w1.heap.size w1 wr)) (λ_ i _=>ns.length-(intOf i).toNat)
  case atStart=>exact⟨0,rfl,by omega,hid (World.ownsRow_nil _ _ _ _),hid (Below.refl _ _)⟩
  case round=>
   obtain⟨k,rfl,hk,HO,HB⟩:=hrel;have hsz:=HB.out.size;obtain⟨a0,n0,c0,rfl⟩:=aD HO.out;by_cases hlt:k<ns.length
   ·obtain⟨g,rfl,hg,hcell⟩:=HR.out k hlt
    have hcell:=(HB.out.cell (p:=⟨g,k,none⟩) (aA hcell)).trans hcell;obtain⟨x,hx⟩:∃x:ByteArray,x=⟨ns[k].toArray⟩:=⟨_,rfl⟩;have hxl:x.data.toList=ns[k]:=by rw[hx]
    rw[← hx]at hcell;have hxz:x.size≤24:=by rw[av hxl];exact hnz.out _ (List.getElem_mem hlt)
    have HX:=hid hxl;have HLr:=hid (HL1.out.pure HB.out);clear hx hxl
    go_wp2_with fail
    refine(kK wr HLr.out x (by omega)).mono ?_;rintro e w2 ⟨⟨r,⟨m,hm,hs,rfl⟩|⟨hs,rfl⟩,rfl⟩,hb2⟩
    ·have HS:=hid (show gd (ns.take (k+1))=gd (ns.take k)++[m]from by
      rw[gh hlt,← HX.out,hs,fX m hm];rfl)
     have hs2:=hb2.size;have HO2:=hid (((Fr.pure (S:=λ_=>False) hb2).ownsRow HO.out (λ_ _ h=>h)).alloc (.cells #[.int .i64 (m:Int)] 2));have HB2:=hid (HB.out.trans (hb2.mono hsz));have hcnt:(gd (ns.take k)).length≤64:=by have:=gi (ns.take k);rw[List.length_take]at this;omega
     clear hb2 hs;obtain⟨i0,hi,hz0,hz1,hz2⟩:=info_parts Tryz.infoI64;have HI:=hid hi;have HZ0:=hid hz0;have HZ1:=hid hz1;have HZ2:=hid hz2;clear hi hz0 hz1 hz2
     go_wp2_with (first
      | (refine wpList_append_lies _ rfl _ _ 45 rfl w1.heap.size 2 i0 _ 1 8 Tryz.underlying45 HI.out HZ0.out HZ1.out HZ2.out rfl (by omega) _ (gd (ns.take k)).length _ rfl HO2.out ⟨w2.heap.size,0,none⟩ 1 1 [.int .i64 (m:Int)] rfl rfl (aE rfl rfl) (by simp[Value.oneCell']) (by omega) (by unfold maxLen;omega) (by omega) (by simp;omega) (w2.heap.size+1) (by simp) ?_;intro gg cap w8 hown8 hgrow8 hat8 hlt8))
     go_roundw
     case rel=>
      refine⟨k+1,by go_num,by omega,hid ?_,hid ?_⟩
      ·unfold kS
       rw[HS.out,List.map_append,List.length_append];exact hown8
      ·exact(HB2.out.alloc (by omega) _).grown hgrow8 (by simp;omega) (λj e=>kL HO.out (by exact e))
     case measure=>simp[intOf];omega
    ·have HS:=hid (show gd (ns.take (k+1))=gd (ns.take k)from by
      rw[gh hlt,← HX.out,fZ.2 hs];simp)
     have HO2:=hid ((Fr.pure (S:=λ_=>False) hb2).ownsRow HO.out (λ_ _ h=>h));have HB2:=hid (HB.out.trans (hb2.mono hsz));clear hb2 hs;go_wp2
     go_roundw
     case rel=>
      refine⟨k+1,by go_num,by omega,hid ?_,HB2⟩;unfold kS;rw[HS.out];exact HO2.out
     case measure=>simp[intOf];omega
   ·have hkl:k=ns.length:=by omega
    have HO2:=hid (show kS wr w1.heap.size (.slice a0 n0 c0) (gd ns)from by have:=HO.out;rw[hkl,List.take_length]at this;exact this);go_wp2;refine bodyPost_ret (v:=.tuple #[.slice a0 n0 c0,.int .i64 0]) (by simp[results,Tryz.results10,go_sem]) rfl ?_;refine⟨HB1.out.trans (HB.out.mono HB1.out.size),?_⟩;rw[HD.out,if_neg (by decide),← HN.out];exact⟨_,rfl,aC HO2.out (λg e=>by have:=kL HO2.out e;have:=HB1.out.size;omega)⟩
 ·have HD:=hid hd
  clear hd
  go_enter Tryz.func10,Tryz.ntmps10
  go_wp2_with fail
  refine(kQ w p b st H.out).mono ?_;rintro e w1 ⟨hb1,h1⟩;rw[HD.out,if_pos rfl]at h1;subst h1;have HB1:=hid hb1;clear hb1;go_wp2;refine bodyPost_ret (v:=.tuple #[.slice none 0 0,.int .i64 45]) (by simp[results,Tryz.results10,go_sem]) rfl ?_;exact⟨HB1.out,by rw[HD.out,if_pos rfl]⟩
theorem kV {w:World}{base:Nat}{v:Value}{ns:List Nat}(h:kS w base v ns):∃a c,v = .slice a ns.length c∧∀i (hi:i<ns.length),∃g,a=some ⟨g,0,none⟩∧base≤g∧w.cell? ⟨g,i,none⟩=some (.int .i64 (ns[i]:Int)):=by
 obtain⟨hl,⟨rfl,h0⟩|⟨g,cap,cur,rfl,hb,hh,hn,_,hsz,ht⟩⟩:=h
 ·exact⟨none,0,by rw[h0],λi hi=>by omega⟩
 ·refine⟨_,cap,rfl,λi hi=>⟨g,rfl,hb,?_⟩⟩
  rw[cell_of_row w g i _ _ _ hh];have e:(ns.map kR)[i]?=some (kR ns[i]):=by simp[hi]
  rw[← ht,List.getElem?_take,if_pos (by omega)]at e;rw[← Array.getElem?_toList];exact e
def Reads (w:World)(dv:Value)(nm D:List UInt8)(code:Int):Prop:=∀(W:World) (r:ByteArray),Below w.heap.size w W→r.data.toList=nm →
 Calls Tryz.prog 17 #[dv,.string r] W λe w'=>(∃d:ByteArray,d.data.toList=D∧e = .returned (.tuple #[.string d,.int .i64 code]))∧Below W.heap.size W w'
theorem Reads.pure {w w':World}{dv:Value}{nm D:List UInt8}{code:Int}(h:Reads w dv nm D code)(hb:Below w.heap.size w w'):Reads w' dv nm D code:=λW r hW hr=>h W r (cx hb hW) hr
end
section
open Go.RowKit
set_option maxRecDepth 100000 in
theorem kW (w:World):Calls Tryz.prog 54 #[] w λe w'=>e = .returned (stV 0 0 1 1)∧Below w.heap.size w w':=by
 go_enter Tryz.func54,Tryz.ntmps54
 go_wp2;obtain⟨W0,hW0⟩:∃W0,W0=w.alloc (.cells #[.int .i64 0,.int .i64 0,.int .i64 1,.int .i64 1,.slice none 0 0,.slice none 0 0,.slice none 0 0,.slice none 0 0,.slice none 0 0] 29):=⟨_,rfl⟩;have hbel:Below w.heap.size w W0:=by rw[hW0];exact(Below.refl _ _).alloc (Nat.le_refl _) _
 have k0:W0.heap[w.heap.size]?=some (.cells #[.int .i64 0,.int .i64 0,.int .i64 1,.int .i64 1,.slice none 0 0,.slice none 0 0,.slice none 0 0,.slice none 0 0,.slice none 0 0] 29 (0,0)):=by rw[hW0];exact heap_alloc_new _ _
 rw[← hW0];obtain⟨o0,o1,o2,o3,o4,o5,o6,o7,o8⟩:=kq (k0);exact bodyPost_ret (v:=.agg #[.int .i64 0,.int .i64 0,.int .i64 1,.int .i64 1,.slice none 0 0,.slice none 0 0,.slice none 0 0,.slice none 0 0,.slice none 0 0]) (by simp[results,Tryz.results54,go_sem,o0,o1,o2,o3,o4,o5,o6,o7,o8]) rfl ⟨rfl,hbel⟩
set_option maxRecDepth 100000 in
theorem kX (c:Int)(w:World):Calls Tryz.prog 24 #[.int .i64 c] w λe w'=>e = .returned (stV c 0 1 1)∧Below w.heap.size w w':=by
 go_enter Tryz.func24,Tryz.ntmps24
 go_wp2_with fail
 refine(kW _).mono ?_;rintro e w1 ⟨rfl,hb1⟩;obtain⟨n,hn⟩:∃n,n=w.heap.size:=⟨_,rfl⟩;have k0:w1.heap[n]?=some (.cells #[.int .i64 0,.int .i64 0,.int .i64 0,.int .i64 0,.slice none 0 0,.slice none 0 0,.slice none 0 0,.slice none 0 0,.slice none 0 0] 29 (0,0)):=by rw[hn];exact(hb1.block _ (by simp)).trans (heap_alloc_new _ _)
 have K0:=hid k0;have HB:=hid (cw hb1);have hlt:n<w1.heap.size:=lt_of_block k0;have HN:=hid hn;rw[← hn];clear hb1 hn k0;obtain⟨p0,pf0,p1,pf1,p2,pf2,p3,pf3,p4,pf4,p5,pf5,p6,pf6,p7,pf7,p8,pf8⟩:=kr (K0.out);unfold stV;go_wp2;obtain⟨Wa,hWa⟩:∃Wa,Wa=iV w1 n (.int .i64 c) (.int .i64 0) (.int .i64 1) (.int .i64 1) (.slice none 0 0) (.slice none 0 0) (.slice none 0 0) (.slice none 0 0) (.slice none 0 0):=⟨_,rfl⟩;have fa:Fr (λk=>k=n) w1 Wa:=by rw[hWa];exact iW w1 n (.int .i64 c) (.int .i64 0) (.int .i64 1) (.int .i64 1) (.slice none 0 0) (.slice none 0 0) (.slice none 0 0) (.slice none 0 0) (.slice none 0 0)
 have ra:Wa.heap[n]?=some (.cells #[.int .i64 c,.int .i64 0,.int .i64 1,.int .i64 1,.slice none 0 0,.slice none 0 0,.slice none 0 0,.slice none 0 0,.slice none 0 0] 29 (0,0)):=by rw[hWa];exact iX (.int .i64 c) (.int .i64 0) (.int .i64 1) (.int .i64 1) (.slice none 0 0) (.slice none 0 0) (.slice none 0 0) (.slice none 0 0) (.slice none 0 0) K0.out
 obtain⟨Wf,hWf⟩:∃Wf,Wf=Wa.alloc (.cells #[.int .i64 c,.int .i64 0,.int .i64 1,.int .i64 1,.slice none 0 0,.slice none 0 0,.slice none 0 0,.slice none 0 0,.slice none 0 0] 29):=⟨_,rfl⟩;have rf:Wf.heap[n]?=some (.cells #[.int .i64 c,.int .i64 0,.int .i64 1,.int .i64 1,.slice none 0 0,.slice none 0 0,.slice none 0 0,.slice none 0 0,.slice none 0 0] 29 (0,0)):=by rw[hWf];exact(Below.heap_alloc _ _ _ (lt_of_block ra)).trans ra
 have ff:Fr (λk=>k=n) w1 Wf:=by rw[hWf];exact fa.alloc _
 clear fa ra;obtain⟨o0,o1,o2,o3,o4,o5,o6,o7,o8⟩:=kq (rf);unfold iV at hWa;rw[← hWa,← hWf];clear hWa hWf;refine bodyPost_ret (v:=.agg #[.int .i64 c,.int .i64 0,.int .i64 1,.int .i64 1,.slice none 0 0,.slice none 0 0,.slice none 0 0,.slice none 0 0,.slice none 0 0]) (by simp[results,Tryz.results24,go_sem,o0,o1,o2,o3,o4,o5,o6,o7,o8]) rfl ⟨rfl,?_⟩;have hnw:=HN.out;exact HB.out.trans (ff.below (B:=w.heap.size) HB.out.size (λk hk e=>by omega))
end
end Go.Proofs.YtaeakdichkhjaaaGreatDoor
