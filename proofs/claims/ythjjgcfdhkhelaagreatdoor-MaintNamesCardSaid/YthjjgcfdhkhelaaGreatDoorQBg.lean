/- The walks of snap.Read and Open, at an empty market's snapshot. -/
import Derived.Test.YthjjgcfdhkhelaaGreatDoorQBf
set_option maxHeartbeats 4000000
set_option maxRecDepth 100000
open Go.Lib(hid)
open Go.Proofs.Tryz
namespace Go.Proofs.YthjjgcfdhkhelaaGreatDoor
section
open Go.RowKit
theorem Ct {w:World}{b:Nat}{T:TypeId}{v0 v1 v2 v3 v4 v5 v6 v7 v8:Value}(h:w.heap[b]?=some (.cells #[v0,v1,v2,v3,v4,v5,v6,v7,v8] T (0,0))):w.cell? ⟨b,0,none⟩=some v0∧w.cell? ⟨b,1,none⟩=some v1∧w.cell? ⟨b,2,none⟩=some v2∧w.cell? ⟨b,3,none⟩=some v3∧w.cell? ⟨b,4,none⟩=some v4∧w.cell? ⟨b,5,none⟩=some v5∧w.cell? ⟨b,6,none⟩=some v6∧w.cell? ⟨b,7,none⟩=some v7∧w.cell? ⟨b,8,none⟩=some v8:=
 ⟨(cell_of_row _ _ _ _ _ _ h).trans rfl,(cell_of_row _ _ _ _ _ _ h).trans rfl,(cell_of_row _ _ _ _ _ _ h).trans rfl,(cell_of_row _ _ _ _ _ _ h).trans rfl,(cell_of_row _ _ _ _ _ _ h).trans rfl,(cell_of_row _ _ _ _ _ _ h).trans rfl,(cell_of_row _ _ _ _ _ _ h).trans rfl,(cell_of_row _ _ _ _ _ _ h).trans rfl,(cell_of_row _ _ _ _ _ _ h).trans rfl⟩
theorem Cu {w:World}{b:Nat}{T:TypeId}{v0 v1 v2 v3 v4 v5 v6 v7 v8:Value}(h:w.heap[b]?=some (.cells #[v0,v1,v2,v3,v4,v5,v6,v7,v8] T (0,0))):w.cell? ⟨b,0,none⟩=some v0∧w.frozen? ⟨b,0,none⟩=false∧w.cell? ⟨b,1,none⟩=some v1∧w.frozen? ⟨b,1,none⟩=false∧w.cell? ⟨b,2,none⟩=some v2∧w.frozen? ⟨b,2,none⟩=false∧w.cell? ⟨b,3,none⟩=some v3∧w.frozen? ⟨b,3,none⟩=false∧w.cell? ⟨b,4,none⟩=some v4∧w.frozen? ⟨b,4,none⟩=false∧w.cell? ⟨b,5,none⟩=some v5∧w.frozen? ⟨b,5,none⟩=false∧w.cell? ⟨b,6,none⟩=some v6∧w.frozen? ⟨b,6,none⟩=false∧w.cell? ⟨b,7,none⟩=some v7∧w.frozen? ⟨b,7,none⟩=false∧w.cell? ⟨b,8,none⟩=some v8∧w.frozen? ⟨b,8,none⟩=false:=
 ⟨(cell_of_row _ _ _ _ _ _ h).trans rfl,frozen_of_row _ _ _ _ _ h,(cell_of_row _ _ _ _ _ _ h).trans rfl,frozen_of_row _ _ _ _ _ h,(cell_of_row _ _ _ _ _ _ h).trans rfl,frozen_of_row _ _ _ _ _ h,(cell_of_row _ _ _ _ _ _ h).trans rfl,frozen_of_row _ _ _ _ _ h,(cell_of_row _ _ _ _ _ _ h).trans rfl,frozen_of_row _ _ _ _ _ h,(cell_of_row _ _ _ _ _ _ h).trans rfl,frozen_of_row _ _ _ _ _ h,(cell_of_row _ _ _ _ _ _ h).trans rfl,frozen_of_row _ _ _ _ _ h,(cell_of_row _ _ _ _ _ _ h).trans rfl,frozen_of_row _ _ _ _ _ h,(cell_of_row _ _ _ _ _ _ h).trans rfl,frozen_of_row _ _ _ _ _ h⟩
theorem Cv {w:World}{b:Nat}{T:TypeId}{v0 v1 v2 v3:Value}(h:w.heap[b]?=some (.cells #[v0,v1,v2,v3] T (0,0))):w.cell? ⟨b,0,none⟩=some v0∧w.cell? ⟨b,1,none⟩=some v1∧w.cell? ⟨b,2,none⟩=some v2∧w.cell? ⟨b,3,none⟩=some v3:=
 ⟨(cell_of_row _ _ _ _ _ _ h).trans rfl,(cell_of_row _ _ _ _ _ _ h).trans rfl,(cell_of_row _ _ _ _ _ _ h).trans rfl,(cell_of_row _ _ _ _ _ _ h).trans rfl⟩
theorem Cw {w:World}{b:Nat}{T:TypeId}{v0 v1 v2 v3:Value}(h:w.heap[b]?=some (.cells #[v0,v1,v2,v3] T (0,0))):w.cell? ⟨b,0,none⟩=some v0∧w.frozen? ⟨b,0,none⟩=false∧w.cell? ⟨b,1,none⟩=some v1∧w.frozen? ⟨b,1,none⟩=false∧w.cell? ⟨b,2,none⟩=some v2∧w.frozen? ⟨b,2,none⟩=false∧w.cell? ⟨b,3,none⟩=some v3∧w.frozen? ⟨b,3,none⟩=false:=
 ⟨(cell_of_row _ _ _ _ _ _ h).trans rfl,frozen_of_row _ _ _ _ _ h,(cell_of_row _ _ _ _ _ _ h).trans rfl,frozen_of_row _ _ _ _ _ h,(cell_of_row _ _ _ _ _ _ h).trans rfl,frozen_of_row _ _ _ _ _ h,(cell_of_row _ _ _ _ _ _ h).trans rfl,frozen_of_row _ _ _ _ _ h⟩
def Cx (W:World)(n:Nat)(v0 v1 v2 v3 v4 v5 v6 v7 v8 u0 u1 u2 u3:Value):World:=(((((((((((((W.setCell ⟨n,0,none⟩ v0).setCell ⟨n,1,none⟩ v1).setCell ⟨n,2,none⟩ v2).setCell ⟨n,3,none⟩ v3).setCell ⟨n,4,none⟩ v4).setCell ⟨n,5,none⟩ v5).setCell ⟨n,6,none⟩ v6).setCell ⟨n,7,none⟩ v7).setCell ⟨n,8,none⟩ v8).setCell ⟨n+1,0,none⟩ u0).setCell ⟨n+1,1,none⟩ u1).setCell ⟨n+1,2,none⟩ u2).setCell ⟨n+1,3,none⟩ u3)
structure Fin13 (W Wf:World) (n:Nat) (v0 v1 v2 v3 v4 v5 v6 v7 v8 u0 u1 u2 u3:Value):Prop where
 s0:Wf.cell? ⟨n,0,none⟩=some v0
 s1:Wf.cell? ⟨n,1,none⟩=some v1
 s2:Wf.cell? ⟨n,2,none⟩=some v2
 s3:Wf.cell? ⟨n,3,none⟩=some v3
 s4:Wf.cell? ⟨n,4,none⟩=some v4
 s5:Wf.cell? ⟨n,5,none⟩=some v5
 s6:Wf.cell? ⟨n,6,none⟩=some v6
 s7:Wf.cell? ⟨n,7,none⟩=some v7
 s8:Wf.cell? ⟨n,8,none⟩=some v8
 t0:Wf.cell? ⟨n+1,0,none⟩=some u0
 t1:Wf.cell? ⟨n+1,1,none⟩=some u1
 t2:Wf.cell? ⟨n+1,2,none⟩=some u2
 t3:Wf.cell? ⟨n+1,3,none⟩=some u3
 fr:Fr (λk=>k=n∨k=n+1) W Wf
theorem Cy {W:World}{n:Nat}{TS TV:TypeId}{z0 z1 z2 z3 z4 z5 z6 z7 z8 y0 y1 y2 y3:Value}(hP:W.heap[n]?=some (.cells #[z0,z1,z2,z3,z4,z5,z6,z7,z8] TS (0,0)))(hQ:W.heap[n+1]?=some (.cells #[y0,y1,y2,y3] TV (0,0)))(v0 v1 v2 v3 v4 v5 v6 v7 v8 u0 u1 u2 u3:Value):Fin13 W (Cx W n v0 v1 v2 v3 v4 v5 v6 v7 v8 u0 u1 u2 u3) n v0 v1 v2 v3 v4 v5 v6 v7 v8 u0 u1 u2 u3:=by
 have ra:=Cj v0 v1 v2 v3 v4 v5 v6 v7 v8 hP;have fa:=Ci W n v0 v1 v2 v3 v4 v5 v6 v7 v8;have rb:=Cm u0 u1 u2 u3 (fa.heapAt hQ (show ¬n+1=n by omega));have fb:=Cl (Ch W n v0 v1 v2 v3 v4 v5 v6 v7 v8) (n+1) u0 u1 u2 u3;have ra':=fb.heapAt ra (show ¬n=n+1 by omega);obtain⟨a0,a1,a2,a3,a4,a5,a6,a7,a8⟩:=Ct ra';obtain⟨b0,b1,b2,b3⟩:=Cv rb;exact⟨a0,a1,a2,a3,a4,a5,a6,a7,a8,b0,b1,b2,b3,(fa.mono (λ_ _ e=>.inl e)).trans (fb.mono (λ_ _ e=>.inr e))⟩
theorem Fin13.drew {W Wf:World}{n:Nat}{v0 v1 v2 v3 v4 v5 v6 v7 v8 u0 u1 u2 u3:Value}(h:Fin13 W Wf n v0 v1 v2 v3 v4 v5 v6 v7 v8 u0 u1 u2 u3):Fin13 W Wf.drew n v0 v1 v2 v3 v4 v5 v6 v7 v8 u0 u1 u2 u3:=⟨h.s0,h.s1,h.s2,h.s3,h.s4,h.s5,h.s6,h.s7,h.s8,h.t0,h.t1,h.t2,h.t3,h.fr.drew⟩
theorem Fin13.pure {W Wf W2:World}{n:Nat}{v0 v1 v2 v3 v4 v5 v6 v7 v8 u0 u1 u2 u3:Value}(h:Fin13 W Wf n v0 v1 v2 v3 v4 v5 v6 v7 v8 u0 u1 u2 u3)(hb:Below Wf.heap.size Wf W2):Fin13 W W2 n v0 v1 v2 v3 v4 v5 v6 v7 v8 u0 u1 u2 u3:=
 ⟨(hb.cell (aw h.s0)).trans h.s0,(hb.cell (aw h.s1)).trans h.s1,(hb.cell (aw h.s2)).trans h.s2,(hb.cell (aw h.s3)).trans h.s3,(hb.cell (aw h.s4)).trans h.s4,(hb.cell (aw h.s5)).trans h.s5,(hb.cell (aw h.s6)).trans h.s6,(hb.cell (aw h.s7)).trans h.s7,(hb.cell (aw h.s8)).trans h.s8,(hb.cell (aw h.t0)).trans h.t0,(hb.cell (aw h.t1)).trans h.t1,(hb.cell (aw h.t2)).trans h.t2,(hb.cell (aw h.t3)).trans h.t3,h.fr.andPure hb⟩
theorem Cz (w:World)(o1 o2:Obj):Below w.heap.size w ((w.alloc o1).alloc o2):=((Below.refl _ _).alloc (Nat.le_refl _) _).alloc (by simp) _
theorem CB {W:World}{n:Nat}{TS TV:TypeId}{z0 z1 z2 z3 z4 z5 z6 z7 z8 y0 y1 y2 y3:Value}(hP:W.heap[n]?=some (.cells #[z0,z1,z2,z3,z4,z5,z6,z7,z8] TS (0,0)))(hQ:W.heap[n+1]?=some (.cells #[y0,y1,y2,y3] TV (0,0)))(v0 v1 v2 v3 v4 v5 v6 v7 v8 u0 u1 u2 u3:Value):∃Wf,Wf=(((((((((((((W.setCell ⟨n,0,none⟩ v0).setCell ⟨n,1,none⟩ v1).setCell ⟨n,2,none⟩ v2).setCell ⟨n,3,none⟩ v3).setCell ⟨n,4,none⟩ v4).setCell ⟨n,5,none⟩ v5).setCell ⟨n,6,none⟩ v6).setCell ⟨n,7,none⟩ v7).setCell ⟨n,8,none⟩ v8).setCell ⟨n+1,0,none⟩ u0).setCell ⟨n+1,1,none⟩ u1).setCell ⟨n+1,2,none⟩ u2).setCell ⟨n+1,3,none⟩ u3)∧Fin13 W Wf n v0 v1 v2 v3 v4 v5 v6 v7 v8 u0 u1 u2 u3:=⟨_,rfl,Cy hP hQ v0 v1 v2 v3 v4 v5 v6 v7 v8 u0 u1 u2 u3⟩
end
section
open Go.RowKit Go.Sort Go.Shelf
theorem xz (w:World)(f:Int):Calls prog 132 #[.int .i64 f] w λe w'=>e = .returned (.bool (bW f))∧w=w':=by
 by_cases h0:0≤f
 ·by_cases h1:f≤1048576
  ·go_enter func132,ntmps132
   go_wp2;go_ret;exact⟨ay (by unfold bW;simp[h0,h1]),rfl⟩
  ·go_enter func132,ntmps132
   go_wp2;go_ret;exact⟨ay (by unfold bW;simp[h1]),rfl⟩
 ·go_enter func132,ntmps132
  go_wp2;go_ret;exact⟨ay (by unfold bW;simp;omega),rfl⟩
theorem xA (w:World)(hp:Pow w)(n:Int) :
  Calls prog 71 #[.int .i64 n] w λe w'=>(∃r:ByteArray,r.data.toList=qc n∧e = .returned (.string r))∧Below w.heap.size w w':=by
 have HP:=hid hp;clear hp;cases hn:bW n
 ·have hE:=hid (show qc n=[]from by unfold qc;rw[if_neg (by unfold bW at hn;simp at hn;omega)])
  go_enter func71,ntmps71
  go_wp2_with fail
  refine(xz _ n).mono ?_;rintro e w1 ⟨rfl,rfl⟩;rw[hn];go_wp2;go_ret;exact⟨⟨⟨#[]⟩,by rw[hE.out],rfl⟩,Below.refl _ _⟩
 ·have hf:0≤n∧n≤1048576:=by unfold bW at hn;simp at hn;exact hn
  obtain⟨h0,h1⟩:=hf;have hE:=hid (show qc n=110::bV n 10 from by unfold qc;rw[if_pos ⟨h0,h1⟩])
  go_enter func71,ntmps71
  go_wp2_with fail
  refine(xz _ n).mono ?_;rintro e w1 ⟨rfl,rfl⟩;rw[hn]
  go_wp2_with fail
  refine(Tryz.strconv_FormatInt_10 n (by omega) (by omega) w HP.out).mono ?_;rintro e w1 ⟨rfl,k,os,hw1⟩;have hb1:Below w.heap.size w w1:=by rw[hw1];exact⟨rfl,rfl,rfl,by simp[grow,World.drewN],λj hj=>by simp[grow,World.drewN,Array.getElem?_append,hj]⟩
  clear hw1;obtain⟨t,ht⟩:∃t:ByteArray,t=⟨(Lib.itoa n).toArray⟩:=⟨_,rfl⟩;rw[← ht];have htl:=hid (show t.data.toList=Lib.itoa n from by rw[ht]);clear ht;have hts:t.size≤7:=by
   rw[ao htl.out];obtain⟨u,rfl⟩:∃u:Nat,n=(u:Int):=⟨n.toNat,by omega⟩;rw[Lib.itoa_nonneg];exact ki u 6 (by omega)
  have hw2:IntKind.i64.wrap (10-(t.size:Int))=10-(t.size:Int):=IntWalk.i64_in _ (by omega);have hw3:(10-(t.size:Int))=((10-t.size:Nat):Int):=by omega
  rw[hw3]at hw2
  go_wp2_with fail
  try rw[hw3]
  refine(Tryz.strings_Repeat ⟨#[48]⟩ (10-t.size) w1 (by omega) (by show 1*(10-t.size)≤_;omega)).mono ?_;rintro e w2 ⟨rfl,hb2⟩;obtain⟨z,hz⟩:∃z:ByteArray,z=⟨(Lib.repeatL (⟨#[48]⟩:ByteArray).data.toList (10-t.size)).toArray⟩:=⟨_,rfl⟩;rw[← hz];have hzl:=hid (show z.data.toList=bT (10-t.size)from by rw[hz];exact bU _);clear hz;have hzs:z.size≤10:=by rw[ao hzl.out];unfold bT;rw[List.length_replicate];omega
  have hcat0:(⟨#[110]⟩:ByteArray).size+z.size≤9223372036854775807:=by show 1+z.size≤_;omega
  have hcat1:1+z.size≤9223372036854775807:=by omega
  have hcat:1+z.size+t.size≤9223372036854775807:=by omega
  have HB:=hid (hb1.trans (hb2.mono hb1.size));clear hb1 hb2;go_wp2;go_ret;refine⟨⟨_,?_,rfl⟩,HB.out⟩;rw[hE.out];unfold bV;rw[← htl.out,ak,← hzl.out];simp
def ErrIn (w:World)(g:Nat):Prop:=∃ev,w.cell? ⟨g,0,none⟩=some ev∧(ev = .nilIface∨∃te pe,ev = .iface te pe)
structure xB (w:World):Prop where
 pow:Pow w
 syn:ErrIn w 2
 rng:ErrIn w 3
theorem ErrIn.kept {S:Nat→Prop}{w w':World}{g:Nat}(h:ErrIn w g)(hf:Fr S w w')(hs:¬S g):ErrIn w' g:=by
 obtain⟨ev,h1,h2⟩:=h;exact⟨ev,hf.cellAt h1 hs,h2⟩
def xC (k:Nat):Prop:=k=0∨k=2∨k=3
theorem xB.kept {S:Nat→Prop}{w w':World}(h:xB w)(hf:Fr S w w')(hs:∀k,S k→¬xC k):xB w':=
 ⟨hf.pow h.pow (λe=>hs _ e (.inl rfl)),h.syn.kept hf (λe=>hs _ e (.inr (.inl rfl))),h.rng.kept hf (λe=>hs _ e (.inr (.inr rfl)))⟩
theorem xB.pure {w w':World}(h:xB w)(hb:Below w.heap.size w w'):xB w':=h.kept (Fr.pure (S:=λ_=>False) hb) (λ_ e=>e.elim)
theorem xB.lt {w:World}(h:xB w)(k:Nat)(hk:xC k):k<w.heap.size:=by
 rcases hk with rfl|rfl|rfl
 ·exact bR h.pow
 ·obtain⟨ev,h1,_⟩:=h.syn;exact Lib.lt_of_cell h1
 ·obtain⟨ev,h1,_⟩:=h.rng;exact Lib.lt_of_cell h1
theorem xD (s:ByteArray)(hz:s.size≤281474976710656)(w:World)(h:xB w) :
  Calls prog 182 #[.string s,.int .i64 10,.int .i64 64] w λe w'=>((∃v:Int,Lib.parseIntB 64 s.data.toList = .ok v∧e = .returned (.tuple #[.int .i64 v,.nilIface]))∨(∃(v:Int) (t:TypeId) (a:Addr),(∀u,Lib.parseIntB 64 s.data.toList ≠ .ok u)∧e = .returned (.tuple #[.int .i64 v,.iface t (.pointer (some a))])))∧Below w.heap.size w w':=by
 cases hp:Lib.parseIntB 64 s.data.toList
 ·rename_i v
  refine(Any.strconv_ParseInt_10_at64_ok Tryz.laysD174 s (by omega) v hp w).mono ?_;rintro e w' ⟨he,h⟩;refine⟨.inl ⟨v,rfl,he⟩,?_⟩
  rcases h with rfl|⟨t,rfl⟩
  ·exact Below.refl _ _
  ·exact Joins.below_bytesWorld _ _ _ _ (Nat.le_refl _)
 ·obtain⟨ev,h1,h2⟩:=h.syn
  refine(Any.strconv_ParseInt_10_at64_syntax Tryz.laysD174 s hz hp ev w h1 h2).mono ?_;rintro e w' ⟨n,he,_,_,hb⟩;exact⟨.inr ⟨_,_,_,(λu hu=>by cases hu),he⟩,hb⟩
 ·obtain⟨ev,h1,h2⟩:=h.rng
  refine(Any.strconv_ParseInt_10_at64_range Tryz.laysD174 s hz hp ev w h1 h2).mono ?_;rintro e w' ⟨n,he,_,_,hb⟩;exact⟨.inr ⟨_,_,_,(λu hu=>by cases hu),he⟩,hb⟩
def xE (s:List UInt8)(r:Value):Prop:=(∃n:Nat,n≤1048576∧s=qc (n:Int)∧r = .tuple #[.int .i64 (n:Int),.bool true])∨(¬qd s∧r = .tuple #[.int .i64 0,.bool false])
theorem xF (w:World)(h:xB w)(s:ByteArray)(hz:s.size≤281474976710656) :
  Calls prog 140 #[.string s] w λe w'=>(∃r,xE s.data.toList r∧e = .returned r)∧Below w.heap.size w w':=by
 have H:=hid h;clear h;obtain⟨t,ht⟩:∃t:ByteArray,t=⟨(Lib.trimPrefix s.data.toList (⟨#[110]⟩:ByteArray).data.toList).toArray⟩:=⟨_,rfl⟩;have htz:t.size≤281474976710656:=by
  have h9:t.data.toList.length≤s.data.toList.length:=by
   rw[ht];show(Lib.trimPrefix s.data.toList [110]).toArray.toList.length≤_;exact qj _ _
  rw[ak,ak]at h9;omega
 have htl:t.data.toList=Lib.trimPrefix s.data.toList [110]:=by rw[ht]
 have HT:=hid htl;clear htl;cases hpre:Lib.hasPrefix s.data.toList (⟨#[110]⟩:ByteArray).data.toList
 ·have HX:=hid (show ¬qd s.data.toList from by
   rintro⟨n,hn,e⟩;rw[e,qe n hn]at hpre;have:=qh (bV (n:Int) 10);rw[show(⟨#[110]⟩:ByteArray).data.toList=[110]from rfl,this]at hpre;cases hpre)
  go_enter func140,ntmps140
  go_wp2_with fail
  refine(Tryz.strings_CutPrefix s ⟨#[110]⟩ w).mono ?_;rintro e w1 ⟨rfl,rfl⟩;rw[← ht,hpre];clear ht
  go_wp2_with fail
  refine(xD t htz w1 H.out).mono ?_;rintro e w2 ⟨⟨v,_,rfl⟩|⟨v,ty,a,_,rfl⟩,hb2⟩
  ·have B2:=hid hb2
   clear hb2;go_wp2
   go_ret2
   exact⟨⟨_,.inr ⟨HX.out,rfl⟩,rfl⟩,B2.out⟩
  ·have B2:=hid hb2
   clear hb2;go_wp2
   go_ret2
   exact⟨⟨_,.inr ⟨HX.out,rfl⟩,rfl⟩,B2.out⟩
 ·have hdec:∀n:Nat,n≤1048576→s.data.toList=qc (n:Int)→Lib.parseIntB 64 t.data.toList = .ok (n:Int):=by
   intro n hn e;rw[HT.out,e,qe n hn,qi];exact kt n 10 (by omega)
  have HD:=hid hdec;clear hdec
  go_enter func140,ntmps140
  go_wp2_with fail
  refine(Tryz.strings_CutPrefix s ⟨#[110]⟩ w).mono ?_;rintro e w1 ⟨rfl,rfl⟩;rw[← ht,hpre];clear ht
  go_wp2_with fail
  refine(xD t htz w1 H.out).mono ?_;rintro e w2 ⟨⟨v,hv,rfl⟩|⟨v,ty,a,hv,rfl⟩,hb2⟩
  ·have B2:=hid hb2
   have HV:=hid hv;clear hb2 hv
   go_wp2_with fail
   refine(xA w2 (bS B2.out H.out.pow) v).mono ?_;rintro e w3 ⟨⟨r,hr,rfl⟩,hb3⟩;have B3:=hid (B2.out.trans (hb3.mono B2.out.size));by_cases heq:r.data.toList=s.data.toList
   ·have hne:qc v≠[]:=by
     intro e;rw[hr,e]at heq;rw[← heq]at hpre
     revert hpre;decide
    obtain⟨h0,h1⟩:=qg hne;obtain⟨n,rfl⟩:∃n:Nat,v=(n:Int):=⟨v.toNat,by omega⟩;have HY:=hid (show n≤1048576∧s.data.toList=qc (n:Int)from⟨by omega,by rw[← heq,hr]⟩);have hee:(r.toList == s.toList)=true:=ar heq;have hne:(r.toList != s.toList)=false:=by unfold bne;rw[hee];rfl
    clear hb3 hr heq;go_wp2
    go_ret2
    exact⟨⟨_,.inl ⟨n,HY.out.1,HY.out.2,rfl⟩,rfl⟩,B3.out⟩
   ·have HX:=hid (show ¬qd s.data.toList from by
     rintro⟨n,hn,e⟩;have:=HD.out n hn e;rw[HV.out]at this;cases this;exact heq (by rw[hr,e]))
    have hee:(r.toList == s.toList)=false:=by
     rw[ByteArray.toList_eq,ByteArray.toList_eq];simpa using heq
    have hne:(r.toList != s.toList)=true:=by unfold bne;rw[hee];rfl
    clear hb3 hr heq;go_wp2
    go_ret2
    exact⟨⟨_,.inr ⟨HX.out,rfl⟩,rfl⟩,B3.out⟩
  ·have B2:=hid hb2
   have HX:=hid (show ¬qd s.data.toList from by
    rintro⟨n,hn,e⟩;exact hv _ (HD.out n hn e))
   clear hb2 hv;go_wp2
   go_ret2
   exact⟨⟨_,.inr ⟨HX.out,rfl⟩,rfl⟩,B2.out⟩
theorem Tryz.infoI64:(prog.info? 2).map (λi=>(i.zero,i.size,i.bytes))=some (some (.int .i64 0),1,8):=by kernel_rfl
def CP (n:Nat):Value:=.int .i64 (n:Int)
def CQ (w:World)(base:Nat)(v:Value)(l:List Nat):Prop:=w.ownsRow base 2 1 v l.length (l.map CP)
def CR (st:cZ)(w:World)(e:Ending)(w':World):Prop:=Below w.heap.size w w' ∧
 (if st.dark then e = .returned (.tuple #[.slice none 0 0,.int .i64 45]) else ∃v,e = .returned (.tuple #[v,.int .i64 0])∧CQ w' w.heap.size v (qp (st.fs.map (·.name))))
theorem CS (w:World)(hl:xB w)(p b:Nat)(st:cZ)(h:db w p b st) :
  Calls prog 76 #[.pointer (some ⟨p,0,none⟩)] w λe w'=>CR st w e w':=by
 have H:=hid h;have HL:=hid hl;have hfew:=h.ok.fs.few;have hnm:=hid h.ok.fs.names;clear h hl;cases hd:st.dark
 ·have HD:=hid hd
  clear hd
  go_enter func76,ntmps76
  go_wp2_with fail
  refine(rY w p b st H.out).mono ?_;rintro e w1 ⟨hb1,h1⟩;rw[HD.out,if_neg (by decide)]at h1;obtain⟨v,rfl,hown⟩:=h1;obtain⟨ns,hns⟩:∃ns,ns=st.fs.map (·.name):=⟨_,rfl⟩;rw[← hns]at hown;have hnl:ns.length≤64:=by rw[hns,List.length_map];exact hfew
  have hnz:=hid (show ∀x∈ns,x.length≤24 from λx hx=>by
   rw[hns]at hx;obtain⟨f,hf,rfl⟩:=List.mem_map.1 hx;exact hnm.out f hf)
  have HN:=hid hns;clear hns;obtain⟨ga,gc,rfl,_,hrow⟩:=jf hown
  rename_i hlen
  clear hlen;have HR:=hid hrow;have HB1:=hid hb1;have HL1:=hid (HL.out.pure hb1);clear hown hrow hb1;go_wp2
  go_loopw [6,21] (λv i wr=>∃k:Nat,i = .int .i64 k∧k≤ns.length∧Hid (CQ wr w1.heap.size v (qp (ns.take k)))∧Hid (Below w1.heap.size w1 wr)) (λ_ i _=>ns.length-(intOf i).toNat)
  case atStart=>exact⟨0,rfl,by omega,hid (World.ownsRow_nil _ _ _ _),hid (Below.refl _ _)⟩
  case round=>
   obtain⟨k,rfl,hk,HO,HB⟩:=hrel;have hsz:=HB.out.size;obtain⟨a0,n0,c0,rfl⟩:=aB HO.out;by_cases hlt:k<ns.length
   ·obtain⟨g,rfl,hg,hcell⟩:=HR.out k hlt
    have hcell:=(HB.out.cell (p:=⟨g,k,none⟩) (aw hcell)).trans hcell;obtain⟨x,hx⟩:∃x:ByteArray,x=⟨ns[k].toArray⟩:=⟨_,rfl⟩;have hxl:x.data.toList=ns[k]:=by rw[hx]
    rw[← hx]at hcell;have hxz:x.size≤24:=by rw[ao hxl];exact hnz.out _ (List.getElem_mem hlt)
    have HX:=hid hxl;have HLr:=hid (HL1.out.pure HB.out);clear hx hxl
    go_wp2_with fail
    refine(xF wr HLr.out x (by omega)).mono ?_;rintro e w2 ⟨⟨r,⟨m,hm,hs,rfl⟩|⟨hs,rfl⟩,rfl⟩,hb2⟩
    ·have HS:=hid (show qp (ns.take (k+1))=qp (ns.take k)++[m]from by
      rw[qr hlt,← HX.out,hs,ql m hm];rfl)
     have hs2:=hb2.size;have HO2:=hid (((Fr.pure (S:=λ_=>False) hb2).ownsRow HO.out (λ_ _ h=>h)).alloc (.cells #[.int .i64 (m:Int)] 2));have HB2:=hid (HB.out.trans (hb2.mono hsz));have hcnt:(qp (ns.take k)).length≤64:=by have:=qs (ns.take k);rw[List.length_take]at this;omega
     clear hb2 hs;obtain⟨i0,hi,hz0,hz1,hz2⟩:=info_parts Tryz.infoI64;have HI:=hid hi;have HZ0:=hid hz0;have HZ1:=hid hz1;have HZ2:=hid hz2;clear hi hz0 hz1 hz2
     go_wp2_with (first
      | (refine wpList_append_lies _ rfl _ _ 126 rfl w1.heap.size 2 i0 _ 1 8 underlying126 HI.out HZ0.out HZ1.out HZ2.out rfl (by omega) _ (qp (ns.take k)).length _ rfl HO2.out ⟨w2.heap.size,0,none⟩ 1 1 [.int .i64 (m:Int)] rfl rfl (aC rfl rfl) (by simp[Value.oneCell']) (by omega) (by unfold maxLen;omega) (by omega) (by simp;omega) (w2.heap.size+1) (by simp) ?_;intro gg cap w8 hown8 hgrow8 hat8 hlt8))
     go_roundw
     case rel=>
      refine⟨k+1,by go_num,by omega,hid ?_,hid ?_⟩
      ·unfold CQ
       rw[HS.out,List.map_append,List.length_append];exact hown8
      ·exact(HB2.out.alloc (by omega) _).grown hgrow8 (by simp;omega) (λj e=>gt HO.out (by exact e))
     case measure=>simp[intOf];omega
    ·have HS:=hid (show qp (ns.take (k+1))=qp (ns.take k)from by
      rw[qr hlt,← HX.out,qn.2 hs];simp)
     have HO2:=hid ((Fr.pure (S:=λ_=>False) hb2).ownsRow HO.out (λ_ _ h=>h));have HB2:=hid (HB.out.trans (hb2.mono hsz));clear hb2 hs;go_wp2
     go_roundw
     case rel=>
      refine⟨k+1,by go_num,by omega,hid ?_,HB2⟩;unfold CQ;rw[HS.out];exact HO2.out
     case measure=>simp[intOf];omega
   ·have hkl:k=ns.length:=by omega
    have HO2:=hid (show CQ wr w1.heap.size (.slice a0 n0 c0) (qp ns)from by have:=HO.out;rw[hkl,List.take_length]at this;exact this);go_wp2;refine bodyPost_ret (v:=.tuple #[.slice a0 n0 c0,.int .i64 0]) (by simp[results,results76,go_sem]) rfl ?_;refine⟨HB1.out.trans (HB.out.mono HB1.out.size),?_⟩;rw[HD.out,if_neg (by decide),← HN.out];exact⟨_,rfl,az HO2.out (λg e=>by have:=gt HO2.out e;have:=HB1.out.size;omega)⟩
 ·have HD:=hid hd
  clear hd
  go_enter func76,ntmps76
  go_wp2_with fail
  refine(rY w p b st H.out).mono ?_;rintro e w1 ⟨hb1,h1⟩;rw[HD.out,if_pos rfl]at h1;subst h1;have HB1:=hid hb1;clear hb1;go_wp2;refine bodyPost_ret (v:=.tuple #[.slice none 0 0,.int .i64 45]) (by simp[results,results76,go_sem]) rfl ?_;exact⟨HB1.out,by rw[HD.out,if_pos rfl]⟩
theorem CT {w:World}{base:Nat}{v:Value}{ns:List Nat}(h:CQ w base v ns):∃a c,v = .slice a ns.length c∧∀i (hi:i<ns.length),∃g,a=some ⟨g,0,none⟩∧base≤g∧w.cell? ⟨g,i,none⟩=some (.int .i64 (ns[i]:Int)):=by
 obtain⟨hl,⟨rfl,h0⟩|⟨g,cap,cur,rfl,hb,hh,hn,_,hsz,ht⟩⟩:=h
 ·exact⟨none,0,by rw[h0],λi hi=>by omega⟩
 ·refine⟨_,cap,rfl,λi hi=>⟨g,rfl,hb,?_⟩⟩
  rw[cell_of_row w g i _ _ _ hh];have e:(ns.map CP)[i]?=some (CP ns[i]):=by simp[hi]
  rw[← ht,List.getElem?_take,if_pos (by omega)]at e;rw[← Array.getElem?_toList];exact e
end
section
open Go.RowKit Go.Shelf
attribute [local go_sem] Oper.semAt_some
theorem CW (a:Option Addr)(n c:Nat)(w:World) :
  Calls prog 142 #[.slice a n c] w λe w'=>e = .returned (.func (.func 185) #[] #[.pointer (some ⟨w.heap.size,0,none⟩)])∧w'=w.alloc (.cells #[.slice a n c] 126):=by
 have hmf:∀(fn:Fn) (first cap:Array Value) (w:World),(Instr.makeFunc fn first cap).run prog w = .ok (.func fn first cap) w:=λ_ _ _ _=>rfl
 go_enter func142,ntmps142
 go_wp2;go_ret;exact⟨rfl,rfl⟩
def bwL (ns:List Nat):List (Nat×Nat):=ns.zipIdx.reverse
theorem CX (ns:List Nat):(bwL ns).length=ns.length:=by unfold bwL;simp
theorem CY (ns:List Nat)(k:Nat)(h:k<ns.length):(bwL ns)[k]?=some (ns[ns.length-1-k]'(by omega),ns.length-1-k):=by
 show(ns.zipIdx.reverse)[k]?=_;rw[List.getElem?_reverse (by simpa using h)];simp
theorem CZ (ns:List Nat)(k:Nat)(h:k<ns.length):(bwL ns).take (k+1)=(bwL ns).take k++[(ns[ns.length-1-k]'(by omega),ns.length-1-k)]:=by
 rw[List.take_add_one,CY ns k h];rfl
def C1 (x:Nat×Nat):Array Value:=#[.int .i64 (x.2:Int),.int .i64 (x.1:Int)]
theorem C2 (w:World)(T:Nat→Prop)(sB:Nat)(a:Option Addr)(c:Nat)(ns:List Nat)(hs:w.heap[sB]?=some (.cells #[.slice a ns.length c] 126 (0,0)))
  (hrow:∀i (hi:i<ns.length),∃g,a=some ⟨g,0,none⟩∧w.cell? ⟨g,i,none⟩=some (.int .i64 (ns[i]:Int))) (hl:ns.length≤64) (hT:¬T sB) (hTg:ns.length≠0→∀g,a=some ⟨g,0,none⟩→¬T g) :
  yU (λx=>x.1∈ns) Fence.wide 4 prog 185 #[.pointer (some ⟨sB,0,none⟩)] C1 (λ_=>False) (λA B=>Fr T A B) (λ_ _=>True) (λxs=>xs=bwL ns) (λpre=>∃k,k<ns.length∧pre=(bwL ns).take (k+1)) ns.length w:=by
 intro y J Jx W hW _ hJ hJx hY h0;have HS:=hid ((hW.block _ (lt_of_block hs)).trans hs);have HR:=hid (λi (hi:i<ns.length)=>by
  obtain⟨g,h1,h2⟩:=hrow i hi;exact(⟨g,h1,(hW.cell (p:=⟨g,i,none⟩) (aw h2)).trans h2⟩:∃g,a=some ⟨g,0,none⟩∧W.cell? ⟨g,i,none⟩=some (.int .i64 (ns[i]:Int))))
 have HJ:=hid hJ;have HY:=hid hY;have HH:=hid h0;have HT:=hid hT;have HTG:=hid hTg;clear hW hs hrow hJ hJx hY h0 hT hTg;have c0:W.cell? ⟨sB,0,none⟩=some (.slice a ns.length c):=(cell_of_row _ _ _ _ _ _ HS.out).trans rfl;refine callsIn_of_wp func185 rfl trivial ?_ rfl;simp only[ntmps185,List.size_toArray,List.length_cons,List.length_nil,Nat.reduceAdd,Nat.reduceSub,Array.replicate_succ,Array.replicate_zero,List.push_toArray,List.append_toArray,List.nil_append,List.cons_append]
 gi_wp2
 gi_loopw [3] (λi wr=>∃k:Nat,k≤ns.length∧i = .int .i64 ((ns.length:Int)-1-(k:Int))∧Hid (J ((bwL ns).take k) wr)∧Hid (Fr T W wr)) (λi _=>(intOf i+1).toNat)
 case atStart=>exact⟨0,by omega,by go_num,hid HH.out,hid (Fr.refl _ _)⟩
 case round=>
  obtain⟨k,hk,rfl,HJK,HF⟩:=hrel;have d0:=HF.out.cellAt c0 HT.out;by_cases hlt:k<ns.length
  ·obtain⟨j,hj⟩:∃j,j=ns.length-1-k:=⟨_,rfl⟩
   have hjl:j<ns.length:=by omega
   obtain⟨g,hg,hc⟩:=HR.out j hjl;subst hg;have d1:=HF.out.cellAt hc (HTG.out (by omega) g rfl);have HST:=hid (show(bwL ns).take (k+1)=(bwL ns).take k++[(ns[j]'hjl,j)]from by subst hj;exact CZ ns k hlt);have hji:(ns.length:Int)-1-(k:Int)=(j:Int):=by omega
   obtain⟨fn,tmps,assign,body,hy,hR⟩:=HY.out ((bwL ns).take k) (ns[j]'hjl,j) wr (List.getElem_mem hjl) HJK.out (by rw[List.length_take,CX];omega);unfold C1 at hy;dsimp only at hy;rw[hji];clear hj
   gi_wp2_with fail
   refine hR.mono ?_;rintro e W4 (⟨rfl,hJ4,hk4⟩|⟨rfl,hJx4,_⟩)
   ·have HJ4:=hid (show J ((bwL ns).take (k+1)) W4 from by rw[HST.out];exact hJ4)
    have HF4:=hid (HF.out.trans hk4);clear hJ4 hk4 hy hR
    gi_wp2
    refine⟨⟨k+1,by omega,?_,HJ4,HF4⟩,?_⟩
    ·go_num
    ·simp[intOf]<;>omega
   ·have HX:=hid (show Jx ((bwL ns).take (k+1)) W4 from by rw[HST.out];exact hJx4)
    clear hJx4 hy hR
    gi_wp2
    refine bodyPost_ret (results_none rfl _ _ _) rfl ?_;exact⟨⟨_,rfl⟩,.inr ⟨_,⟨k,hlt,rfl⟩,HX.out⟩⟩
  ·have hke:k=ns.length:=by omega
   have HJE:=hid (show J (bwL ns) wr from by have:=HJK.out;rwa [List.take_of_length_le (by rw[CX];omega)]at this)
   gi_wp2
   go_end0
   exact⟨⟨_,rfl⟩,.inl ⟨_,rfl,HJE.out⟩⟩
end
section
open Go.RowKit Go.Shelf
attribute [local go_sem] Oper.semAt_some
def C3 (f t:Int)(n:Nat):Bool:=decide (f≤(n:Int)∧(n:Int)≤t)
def C4 (f t:Int)(ns:List Nat):List Nat:=((bwL ns).map (·.1)).filter (C3 f t)
def flt (f t:Int)(pre:List (Nat×Nat)):List Nat:=(pre.map (·.1)).filter (C3 f t)
theorem C5 (f t:Int)(pre:List (Nat×Nat))(x:Nat×Nat):flt f t (pre++[x])=flt f t pre++(if C3 f t x.1 then [x.1] else []):=by
 unfold flt;rw[List.map_append,List.filter_append];cases h:C3 f t x.1<;>simp[h]
theorem C6 (f t:Int)(pre:List (Nat×Nat)):(flt f t pre).length≤pre.length:=by
 unfold flt;exact Nat.le_trans (List.length_filter_le _ _) (by simp)
theorem C7 (a:Option Addr)(n c:Nat)(f t:Int)(w:World) :
  Calls prog 77 #[.slice a n c,.int .i64 f,.int .i64 t] w λe w'=>e = .returned (.func (.func 141) #[] #[.pointer (some ⟨w.heap.size,0,none⟩),.pointer (some ⟨w.heap.size+1,0,none⟩),.pointer (some ⟨w.heap.size+2,0,none⟩)])∧w'=((w.alloc (.cells #[.slice a n c] 126)).alloc (.cells #[.int .i64 f] 2)).alloc (.cells #[.int .i64 t] 2):=by
 have hmf:∀(fn:Fn) (first cap:Array Value) (w:World),(Instr.makeFunc fn first cap).run prog w = .ok (.func fn first cap) w:=λ_ _ _ _=>rfl
 go_enter func77,ntmps77
 go_wp2;go_ret;exact⟨by simp,rfl⟩
def C8 (n:Nat):Array Value:=#[.int .i64 (n:Int)]
theorem Da (w:World)(lB:Nat)(a:Option Addr)(c:Nat)(f t:Int)(ns:List Nat)(hl:ns.length≤64)
  (k0:w.heap[lB]?=some (.cells #[.slice a ns.length c] 126 (0,0))) (k1:w.heap[lB+1]?=some (.cells #[.int .i64 f] 2 (0,0))) (k2:w.heap[lB+2]?=some (.cells #[.int .i64 t] 2 (0,0)))
  (hrow:∀i (hi:i<ns.length),∃g,a=some ⟨g,0,none⟩∧w.cell? ⟨g,i,none⟩=some (.int .i64 (ns[i]:Int))) :
  yU (λn=>n∈ns) Fence.wide 5 prog 141 #[.pointer (some ⟨lB,0,none⟩),.pointer (some ⟨lB+1,0,none⟩),.pointer (some ⟨lB+2,0,none⟩)] C8 (λk=>w.heap.size+2≤k) (λA B=>Fr (λk=>k=w.heap.size+1) A B) (λA B=>Fr (λk=>k≤w.heap.size+1) A B) (λxs=>xs=C4 f t ns) (λpre=>∃k,pre=flt f t ((bwL ns).take k)∧pre≠[]) (ns.length+1) w:=by
 intro y J Jx W hW hsz hJ hJx hY h0;have l0:=(hW.block _ (lt_of_block k0)).trans k0;have l1:=(hW.block _ (lt_of_block k1)).trans k1;have l2:=(hW.block _ (lt_of_block k2)).trans k2;have HLT:=hid (lt_of_block k2);have HROW:=hid (λi (hi:i<ns.length)=>by
  obtain⟨g,h1,h2⟩:=hrow i hi;exact(⟨g,h1,aw h2,(hW.cell (p:=⟨g,i,none⟩) (aw h2)).trans h2⟩:∃g,a=some ⟨g,0,none⟩∧g<w.heap.size∧W.cell? ⟨g,i,none⟩=some (.int .i64 (ns[i]:Int))))
 have d0:W.cell? ⟨lB,0,none⟩=some (.slice a ns.length c):=(cell_of_row _ _ _ _ _ _ l0).trans rfl;have hlB:lB<W.heap.size:=aw d0;have HL0:=hid l0;have HL1:=hid l1;have HL2:=hid l2;have HJ:=hid hJ;have HJX:=hid hJx;have HY:=hid hY;have HH:=hid h0;have HW:=hid hW;clear hW k0 k1 k2 hrow hJ hJx hY h0 l0 l1 l2;refine callsIn_of_wp_marks func141 rfl trivial ?_ rfl;simp only[ntmps141,List.size_toArray,List.length_cons,List.length_nil,Nat.reduceAdd,Nat.reduceSub,Array.replicate_succ,Array.replicate_zero,List.push_toArray,List.append_toArray,List.nil_append,List.cons_append]
 gi_wp2_with fail
 refine⟨trivial,?_⟩;refine(callsIn_wide.2 (CW a ns.length c _)).mono ?_;rintro e w1 ⟨rfl,rfl⟩
 gi_wp2
 obtain⟨yB,hyB⟩:∃yB,yB=W.heap.size:=⟨_,rfl⟩;obtain⟨W0,hW0⟩:∃W0,W0=(W.alloc (.cells #[.func (.yield y) #[] #[]] 153)).alloc (.cells #[.slice a ns.length c] 126):=⟨_,rfl⟩;have hz0:W0.heap.size=yB+2:=by rw[hW0,hyB];simp
 have hbel:Below W.heap.size W W0:=by rw[hW0];exact((Below.refl _ _).alloc (Nat.le_refl _) _).alloc (by simp) _
 have y0:W0.heap[yB]?=some (.cells #[.func (.yield y) #[] #[]] 153 (0,0)):=by rw[hW0,hyB];exact(Below.heap_alloc _ _ _ (by simp)).trans (heap_alloc_new _ _)
 have s0:W0.heap[yB+1]?=some (.cells #[.slice a ns.length c] 126 (0,0)):=by rw[hW0,hyB];exact yS _ _ (by simp)
 have j0:J [] W0:=HJ.out _ _ _ HH.out (Fr.pure hbel);have e1:=(hbel.block _ (lt_of_block HL1.out)).trans HL1.out;have e2:=(hbel.block _ (lt_of_block HL2.out)).trans HL2.out;have HRW:=hid (λi (hi:i<ns.length)=>by
  obtain⟨g,h1,h2,h3⟩:=HROW.out i hi;exact(⟨g,h1,(hbel.cell (p:=⟨g,i,none⟩) (aw h3)).trans h3⟩:∃g,a=some ⟨g,0,none⟩∧W0.cell? ⟨g,i,none⟩=some (.int .i64 (ns[i]:Int))))
 have HTG:=hid (show ∀g,a=some ⟨g,0,none⟩→ns.length=0∨g<w.heap.size from λg hg=>by
  by_cases h0:ns.length=0
  ·exact .inl h0
  ·obtain⟨g2,h1,h2,_⟩:=HROW.out 0 (by omega)
   rw[hg]at h1;cases h1;exact .inr h2)
 have Y0:=hid y0;have S0:=hid s0;have J0:=hid j0;have E1:=hid e1;have E2:=hid e2;have hlB2:=HLT.out;rw[← hW0,← hyB];have hyw:w.heap.size+1<yB:=by omega
 clear hW0 hbel y0 s0 j0 e1 e2 HH HW HL0 HL1 HL2 d0 hlB hsz hyB;refine yW (n:=5) rfl (by omega) (gf:=185) rfl trivial (enters_of func185 (by kernel_rfl) rfl)
  (C2 W0 (λk=>k=yB+3∨k=w.heap.size+1) (yB+1) a c ns S0.out HRW.out hl (by omega) (λh0 g hg=>by rcases HTG.out g hg with h|h;exact absurd h h0;omega)) ⟨λh=>h,λh=>h⟩
  (λh k=>h.trans k) (λWx o h=>(Fr.refl _ Wx).putObj _ (λ_=>.inl (by omega)) o) (λ_ _=>trivial) (λ_ _ _ _=>trivial) (λ_=>rfl)
  (λpre Wx=>J (flt f t pre) Wx∧Wx.heap[yB]?=some (.cells #[.func (.yield y) #[] #[]] 153 (0,0))∧Wx.heap[lB+1]?=some (.cells #[.int .i64 f] 2 (0,0))∧Wx.heap[lB+2]?=some (.cells #[.int .i64 t] 2 (0,0)))
  (λcd pre Wx=>cd = .ret∧Jx (flt f t pre) Wx∧flt f t pre≠[]) ?bears ?bearsX ⟨J0.out,Y0.out,E1.out,E2.out⟩
  (λpre x a' Wx=>(J (flt f t pre) Wx∧Wx.heap[yB]?=some (.cells #[.func (.yield y) #[] #[]] 153 (0,0))∧Wx.heap[lB+1]?=some (.cells #[.int .i64 f] 2 (0,0))∧Wx.heap[lB+2]?=some (.cells #[.int .i64 t] 2 (0,0))) ∧
    a'={ tmps:=#[.func (.yield y) #[] #[],.pointer (some ⟨lB,0,none⟩),.pointer (some ⟨lB+1,0,none⟩),.pointer (some ⟨lB+2,0,none⟩),.pointer (some ⟨yB,0,none⟩),undef,.int .i64 (x.1:Int),.slice a ns.length c,.func (.func 185) #[] #[.pointer (some ⟨yB+1,0,none⟩)],.int .i64 (x.2:Int),.int .i64 (x.1:Int),
     undef,undef,undef,undef,undef,undef,undef,undef,undef,undef,undef,undef,undef,undef],defers:=[] })
  ?hA ?assign ?body ?done ?stop
 case bears=>
  rintro pre A B ⟨h1,h2,h3,h4⟩ hf;exact⟨HJ.out _ _ _ h1 (hf.mono (λi _ e=>by rcases e with e|e|e;exact e.elim;omega;omega)),hf.heapAt h2 (λe=>by rcases e with e|e|e;exact e;omega;omega),hf.heapAt h3 (λe=>by rcases e with e|e|e;exact e;omega;omega),hf.heapAt h4 (λe=>by rcases e with e|e|e;exact e;omega;omega)⟩
 case bearsX=>
  rintro cd pre A B ⟨h1,h2,h3⟩ hf;exact⟨h1,HJX.out _ _ _ h2 (hf.mono (λi _ e=>by rcases e with e|e|e;exact e.elim;omega;omega)),h3⟩
 case hA=>
  rintro pre x a' Wx o hlt ⟨⟨h1,h2,h3,h4⟩,h5⟩;have hf:Fr (λk=>k=W0.heap.size+1) Wx (Wx.putObj (W0.heap.size+1) o):=(Fr.refl (λk=>k=W0.heap.size+1) Wx).putObj _ (λ_=>rfl) o;exact⟨⟨HJ.out _ _ _ h1 (hf.mono (λi _ e=>by omega)),hf.heapAt h2 (by omega),hf.heapAt h3 (by omega),hf.heapAt h4 (by omega)⟩,h5⟩
 case assign=>
  intro pre x Wx K _ hlt hI hK;have HI:=hid hI;have HK:=hid hK;clear hI hK;unfold C1
  gi_wp2
  exact HK.out _ _ ⟨HI.out,rfl⟩ (m8.refl _ _) (Nat.le_refl _) (Fr.refl _ _)
 case body=>
  rintro pre x a' Wx hqx hlt ⟨⟨h1,h2,h3,h4⟩,rfl⟩ hlen;have c1:Wx.cell? ⟨lB+1,0,none⟩=some (.int .i64 f):=(cell_of_row _ _ _ _ _ _ h3).trans rfl;have c2:Wx.cell? ⟨lB+2,0,none⟩=some (.int .i64 t):=(cell_of_row _ _ _ _ _ _ h4).trans rfl;have c3:Wx.cell? ⟨yB,0,none⟩=some (.func (.yield y) #[] #[]):=(cell_of_row _ _ _ _ _ _ h2).trans rfl;have HI:=hid (And.intro h1 (And.intro h2 (And.intro h3 h4)));obtain⟨z,hz⟩:∃z,z=x.1:=⟨_,rfl⟩;rw[← hz];have HZ:=hid hz;by_cases hf:f≤(z:Int)
  ·by_cases ht:(z:Int)≤t
   ·have HF:=hid (show flt f t (pre++[x])=flt f t pre++[z]from by rw[C5,← hz,if_pos (by unfold C3;simp[hf,ht])])
    obtain⟨fn,tmps,assign,body,hy,hR⟩:=HY.out (flt f t pre) z Wx (by rw[HZ.out];exact hqx) h1 (by have:=C6 f t pre;omega);unfold C8 at hy;clear h1 h2 h3 h4 hz
    gi_wp2_with fail
    refine(RoundIn.inRound (RoundIn.anyDepth rfl hR)).mono ?_;rintro e W4 (⟨rfl,hJ4,hk4⟩|⟨rfl,hJx4,hk4⟩)
    ·obtain⟨_,g2,g3,g4⟩:=HI.out
     have H4:=hid (show J (flt f t (pre++[x])) W4 from by rw[HF.out];exact hJ4);have K4:=hid hk4;clear hJ4 hk4 hy hR
     gi_wp2
     exact⟨m8.fr K4.out hlt (by omega) (by omega),K4.out.mono (λ_ _ e=>.inr e),H4.out,K4.out.heapAt g2 (by omega),K4.out.heapAt g3 (by omega),K4.out.heapAt g4 (by omega)⟩
    ·have H4:=hid (show Jx (flt f t (pre++[x])) W4 from by rw[HF.out];exact hJx4)
     have K4:=hid hk4;clear hJx4 hk4 hy hR
     gi_wp2
     exact⟨m8.fr K4.out hlt (by omega) (by omega),trivial,rfl,H4.out,by rw[HF.out];simp⟩
   ·have HF:=hid (show flt f t (pre++[x])=flt f t pre from by rw[C5,← hz,if_neg (by unfold C3;simp[ht])];simp)
    clear h1 h2 h3 h4 hz
    gi_wp2
    refine⟨λ_ h=>(by cases h),?_⟩
    gi_wp2
    exact⟨m8.refl _ _,Fr.refl _ _,by show J (flt f t (pre++[x])) Wx∧_;rw[HF.out];exact HI.out⟩
  ·have HF:=hid (show flt f t (pre++[x])=flt f t pre from by rw[C5,← hz,if_neg (by unfold C3;simp[hf])];simp)
   clear h1 h2 h3 h4 hz
   gi_wp2
   refine⟨λ_ h=>(by cases h),?_⟩
   gi_wp2
   exact⟨m8.refl _ _,Fr.refl _ _,by show J (flt f t (pre++[x])) Wx∧_;rw[HF.out];exact HI.out⟩
 case done=>
  rintro xs Wx rfl ⟨h1,_⟩ hK;have H1:=hid h1;have HK:=hid hK;clear h1 hK
  gi_wp2
  refine⟨by simp,.inl ⟨_,_,rfl,run_takeDeferred HK.out,?_⟩⟩;exact⟨_,results_none rfl _ _ _,⟨_,rfl⟩,.inl ⟨_,rfl,HJ.out _ _ _ H1.out ((Fr.refl _ Wx).putObj _ (λ_=>by omega) _)⟩⟩
 case stop=>
  rintro cd pre Wx ⟨k,hk,rfl⟩ ⟨rfl,h1,h2⟩ hK;have H1:=hid h1;have H2:=hid h2;have HK:=hid hK;clear h1 h2 hK
  gi_wp2
  refine⟨by simp,.inl ⟨_,_,rfl,run_takeDeferred HK.out,?_⟩⟩;exact⟨_,results_none rfl _ _ _,⟨_,rfl⟩,.inr ⟨_,⟨k+1,rfl,H2.out⟩,HJX.out _ _ _ H1.out ((Fr.refl _ Wx).putObj _ (λ_=>by omega) _)⟩⟩
end
section
open Go.RowKit
theorem CD (c:Nat)(hc:c<128)(w:World)(s:ByteArray)(hs:s.data.toList=qP c) :
  Calls prog 188 #[.string s] w λe w'=>e = .returned (.tuple #[AZ (c:Int) 0 1 1,A5,.int .i64 0])∧Below w.heap.size w w':=by
 have hz:s.size=13:=by rw[ao hs];rfl
 have HS:=hid hs;clear hs
 go_enter func188,ntmps188
 go_wp2_with fail
 obtain⟨n,hn⟩:∃n,n=w.heap.size:=⟨_,rfl⟩;obtain⟨W0,hW0⟩:∃W0,W0=(w.alloc (.cells #[.int .i64 0,.int .i64 0,.int .i64 0,.int .i64 0,.slice none 0 0,.slice none 0 0,.slice none 0 0,.slice none 0 0,.slice none 0 0] 56)).alloc (.cells #[.slice none 0 0,.slice none 0 0,.slice none 0 0,.slice none 0 0] 64):=⟨_,rfl⟩;have hbel:Below w.heap.size w W0:=by rw[hW0];exact((Below.refl _ _).alloc (Nat.le_refl _) _).alloc (by simp) _
 have k0:W0.heap[n]?=some (.cells #[.int .i64 0,.int .i64 0,.int .i64 0,.int .i64 0,.slice none 0 0,.slice none 0 0,.slice none 0 0,.slice none 0 0,.slice none 0 0] 56 (0,0)):=by rw[hW0,hn];exact(Below.heap_alloc _ _ _ (by simp<;>omega)).trans (heap_alloc_new _ _)
 have k1:W0.heap[n+1]?=some (.cells #[.slice none 0 0,.slice none 0 0,.slice none 0 0,.slice none 0 0] 64 (0,0)):=by rw[hW0,hn];exact yS _ _ (by simp)
 have K0:=hid k0;have K1:=hid k1;have HB:=hid hbel;have HN:=hid hn;rw[← hW0,← hn];clear hW0 hn k0 k1 hbel;refine(bf s W0 (by omega)).mono ?_;rintro e w1 ⟨rfl,hr1,hb1⟩;obtain⟨p,hp⟩:∃p,p=W0.heap.size:=⟨_,rfl⟩;rw[← hp]at hr1 ⊢;have hpl:=hr1.lt;have R1:=hid hr1;have B1:=hid hb1;clear hr1 hb1
 go_wp2_with fail
 obtain⟨q,hq⟩:∃q,q=w1.heap.size:=⟨_,rfl⟩;rw[← hp];obtain⟨W2,hW2⟩:∃W2,W2=w1.alloc (.cells #[.pointer (some ⟨p,0,none⟩),.int .i64 13,.bool false] 360):=⟨_,rfl⟩;have b2:Below w1.heap.size w1 W2:=by rw[hW2];exact(Below.refl _ _).alloc (Nat.le_refl _) _
 have g:Am W2 q p s ⟨0,0,0⟩:=⟨by rw[hW2,hq,hz];exact heap_alloc_new _ _,R1.out.kept (Fr.pure (S:=λ_=>False) b2) (λh=>h),by omega⟩;have B2:=hid (AY B1.out b2);rw[← hW2,← hq];have hql:=lt_of_block g.cell;have hpn:n+1<p:=by have:=lt_of_block K1.out;omega
 have hpq:p<q:=by omega
 have G:=hid g;clear hW2 b2 g hp hq hpl hql;refine(Bp c hc W2 q p s G.out HS.out).mono ?_;rintro e w3 ⟨rfl,r3,f3⟩;have R3:=hid r3;have F3:=hid (show Fr (λk=>k=p) W0 w3 from(Fr.pure B2.out).then f3 (λ_ _ e=>e));have hl3:=lt_of_block r3.cell;clear r3 f3 G;unfold AZ
 go_wp2_with fail
 obtain⟨W4,hW4⟩:∃W4,W4=w3.alloc (.cells #[.int .i64 (c:Int),.int .i64 0,.int .i64 1,.int .i64 1,.slice none 0 0,.slice none 0 0,.slice none 0 0,.slice none 0 0,.slice none 0 0] 56):=⟨_,rfl⟩;have b4:Below w3.heap.size w3 W4:=by rw[hW4];exact(Below.refl _ _).alloc (Nat.le_refl _) _
 have R4:=hid (R3.out.pure b4);have F4:=hid (F3.out.andPure b4);have K4:=hid (show W4.heap[w3.heap.size]?=some (.cells #[.int .i64 (c:Int),.int .i64 0,.int .i64 1,.int .i64 1,.slice none 0 0,.slice none 0 0,.slice none 0 0,.slice none 0 0,.slice none 0 0] 56 (0,0))from by rw[hW4];exact heap_alloc_new _ _);rw[← hW4];clear hW4 b4 R3 F3;refine(Bq c hc W4 q p s R4.out HS.out).mono ?_;rintro e w5 ⟨rfl,r5,f5⟩;have R5:=hid r5;have hl5:=lt_of_block r5.cell;have F5:=hid (F4.out.trans f5);have hmp:w3.heap.size≠p:=by omega
 have K5:=hid (f5.heapAt K4.out hmp);have hlm:=lt_of_block K5.out;obtain⟨x0,x1,x2⟩:=r5.cs;clear r5 f5 R4 F4 K4;unfold A5
 go_wp2_with fail
 obtain⟨W6,hW6⟩:∃W6,W6=w5.alloc (.cells #[.slice none 0 0,.slice none 0 0,.slice none 0 0,.slice none 0 0] 64):=⟨_,rfl⟩;have b6:Below w5.heap.size w5 W6:=by rw[hW6];exact(Below.refl _ _).alloc (Nat.le_refl _) _
 have R6:=hid (R5.out.pure b6);have F6:=hid (F5.out.andPure b6);have K6:=hid ((b6.block _ hlm).trans K5.out);have V6:=hid (show W6.heap[w5.heap.size]?=some (.cells #[.slice none 0 0,.slice none 0 0,.slice none 0 0,.slice none 0 0] 64 (0,0))from by rw[hW6];exact heap_alloc_new _ _);rw[← hW6];clear hW6 b6 R5 F5 K5 x0 x1 x2;refine(bF W6 p s _ R6.out.rd).mono ?_;rintro e w7 ⟨rfl,nn,rfl⟩;rw[show bc.ended ⟨13,0,0⟩ s.size=0 from by unfold bc.ended;rw[if_neg (by rw[hz];decide)]];obtain⟨W7,hW7⟩:∃W7,W7=W6.drewN nn:=⟨_,rfl⟩;have R7:=hid (show Am W7 q p s ⟨13,0,0⟩from by rw[hW7];exact⟨R6.out.cell,R6.out.rd,R6.out.ne⟩);have F7:=hid (show Fr (λk=>k=p) W0 W7 from by rw[hW7];exact F6.out.drewN nn);have K7:=hid (show W7.heap[w3.heap.size]?=some (.cells #[.int .i64 (c:Int),.int .i64 0,.int .i64 1,.int .i64 1,.slice none 0 0,.slice none 0 0,.slice none 0 0,.slice none 0 0,.slice none 0 0] 56 (0,0))from by rw[hW7];exact K6.out);have V7:=hid (show W7.heap[w5.heap.size]?=some (.cells #[.slice none 0 0,.slice none 0 0,.slice none 0 0,.slice none 0 0] 64 (0,0))from by rw[hW7];exact V6.out);rw[← hW7];obtain⟨_,_,x2⟩:=R7.out.cs;clear hW7 R6 F6 K6 V6;obtain⟨x0,x1,xx2,x3,x4,x5,x6,x7,x8⟩:=Ct (K7.out)
 go_wp2_with fail
 refine(show Calls prog 167 #[.agg #[.int .i64 (c:Int),.int .i64 0,.int .i64 1,.int .i64 1,.slice none 0 0,.slice none 0 0,.slice none 0 0,.slice none 0 0,.slice none 0 0]] W7 _ from BR W7 (c:Int) (by omega) (by omega)).mono ?_;rintro e w8 ⟨rfl,hb8⟩;have B8:=hid hb8;clear hb8 x2 x0 x1 xx2 x3 x4 x5 x6 x7 x8;have V8:=hid ((B8.out.block _ (lt_of_block V7.out)).trans V7.out);obtain⟨y0,y1,y2,y3⟩:=Cv (V8.out)
 go_wp2_with fail
 refine(show Calls prog 168 #[.agg #[.slice none 0 0,.slice none 0 0,.slice none 0 0,.slice none 0 0]] w8 _ from Cc w8).mono ?_;rintro e w9 ⟨rfl,hb9⟩;have B9:=hid (AY B8.out hb9);clear hb9 y0 y1 y2 y3;have K9:=hid ((B9.out.block _ (lt_of_block K7.out)).trans K7.out);have V9:=hid ((B9.out.block _ (lt_of_block V7.out)).trans V7.out);have F9:=hid (F7.out.andPure B9.out);have P9:=hid (F9.out.heapAt K0.out (by omega));have Q9:=hid (F9.out.heapAt K1.out (by omega));obtain⟨x0,x1,x2,x3,x4,x5,x6,x7,x8⟩:=Ct (K9.out);obtain⟨y0,y1,y2,y3⟩:=Cv (V9.out);obtain⟨p0,pf0,p1,pf1,p2,pf2,p3,pf3,p4,pf4,p5,pf5,p6,pf6,p7,pf7,p8,pf8⟩:=Cu (P9.out);obtain⟨q0,qf0,q1,qf1,q2,qf2,q3,qf3⟩:=Cw (Q9.out);have hmn:n+1<w3.heap.size:=by omega
 have hmn2:n+1<w5.heap.size:=by omega
 clear R7;go_wp2
 go_region
 go_wp2;obtain⟨Wf,hWf,FA⟩:=CB P9.out Q9.out (.int .i64 (c:Int)) (.int .i64 0) (.int .i64 1) (.int .i64 1) (.slice none 0 0) (.slice none 0 0) (.slice none 0 0) (.slice none 0 0) (.slice none 0 0) (.slice none 0 0) (.slice none 0 0) (.slice none 0 0) (.slice none 0 0);rw[← hWf];clear hWf;have FA:=FA.drew;have hfr:=FA.fr;refine bodyPost_ret (v:=.tuple #[.agg #[.int .i64 (c:Int),.int .i64 0,.int .i64 1,.int .i64 1,.slice none 0 0,.slice none 0 0,.slice none 0 0,.slice none 0 0,.slice none 0 0],.agg #[.slice none 0 0,.slice none 0 0,.slice none 0 0,.slice none 0 0],.int .i64 0]) (by simp[results,results188,go_sem,FA.s0,FA.s1,FA.s2,FA.s3,FA.s4,FA.s5,FA.s6,FA.s7,FA.s8,FA.t0,FA.t1,FA.t2,FA.t3]) rfl ⟨rfl,?_⟩;have hnw:=HN.out;exact HB.out.trans ((F9.out.below (B:=w.heap.size) HB.out.size (λk hk e=>by omega)).trans (hfr.below (B:=w.heap.size) (by have:=HB.out.size;have:=F9.out.size;omega) (λk hk e=>by omega)))
end
end Go.Proofs.YthjjgcfdhkhelaaGreatDoor
