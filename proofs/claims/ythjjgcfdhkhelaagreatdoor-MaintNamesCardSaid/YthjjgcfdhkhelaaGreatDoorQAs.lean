/- Events that move the clock: said in the first version. -/
import Derived.Test.YthjjgcfdhkhelaaGreatDoorQAm
import Derived.Test.YthjjgcfdhkhelaaGreatDoorQAn
import Derived.Deep.DeepCutAuto
set_option maxHeartbeats 8000000
set_option maxRecDepth 100000
open Go.Lib(hid)
open Go.Proofs.Tryz
namespace Go.Proofs.YthjjgcfdhkhelaaGreatDoor
section
open Go.RowKit
theorem yi (w:World)(v:Int)(h c g d:Nat)(n:Int)(hh:w.cell? ⟨h,0,none⟩=some (.int .i64 n))(hg:w.cell? ⟨g,0,none⟩=some (.int .i64 n)) :
  Calls prog 372 #[uX v h c,uX v g d] w λe w'=>e = .returned (.bool true)∧Below w.heap.size w w':=by
 obtain⟨W0,hW0⟩:∃W0,W0=(w.alloc (.cells #[.int .u8 v,.int .u8 20,.slice (some ⟨h,0,none⟩) 1 c,.slice none 0 0] 189)).alloc (.cells #[.int .u8 v,.int .u8 20,.slice (some ⟨g,0,none⟩) 1 d,.slice none 0 0] 189):=⟨_,rfl⟩;have hb0:Below w.heap.size w W0:=by rw[hW0];exact((Below.refl _ _).alloc (Nat.le_refl _) _).alloc (by simp) _
 have k0:W0.heap[w.heap.size]?=some (.cells #[.int .u8 v,.int .u8 20,.slice (some ⟨h,0,none⟩) 1 c,.slice none 0 0] 189 (0,0)):=by rw[hW0];exact(Below.heap_alloc _ _ _ (by simp)).trans (heap_alloc_new _ _)
 have k1:W0.heap[w.heap.size+1]?=some (.cells #[.int .u8 v,.int .u8 20,.slice (some ⟨g,0,none⟩) 1 d,.slice none 0 0] 189 (0,0)):=by
  rw[hW0];have:=heap_alloc_new (w.alloc (.cells #[.int .u8 v,.int .u8 20,.slice (some ⟨h,0,none⟩) 1 c,.slice none 0 0] 189)) (.cells #[.int .u8 v,.int .u8 20,.slice (some ⟨g,0,none⟩) 1 d,.slice none 0 0] 189);simpa using this
 have HH:=hid (vd hh hb0);have HG:=hid (vd hg hb0);have HB0:=hid hb0;have K0:=hid k0;have K1:=hid k1;clear hh hg hb0 k0 k1
 go_enter func372,ntmps372
 go_wp2_with fail
 rw[← hW0];refine(xY W0 h c g d n HH.out HG.out).mono ?_;rintro e w1 ⟨rfl,nd,rfl⟩;clear hW0
 generalize hW1:W0.drewN nd=W1
 have hb1:Below W0.heap.size W0 W1:=by rw[← hW1];exact uO (Below.refl _ _) _
 have HB1:=hid (HB0.out.trans (hb1.mono HB0.out.size));obtain⟨_,_,_,x3,_⟩:=uY (uZ K0.out hb1);obtain⟨_,_,_,y3,_⟩:=uY (uZ K1.out hb1);clear hb1 hW1
 go_wp2_with fail
 refine(xZ W1).mono ?_;rintro e w2 ⟨rfl,rfl⟩;go_wp2;go_ret;exact⟨rfl,HB1.out⟩
theorem yj (w:World)(hk:uL w)(n:Nat)(h1:1≤n)(h2:n≤100)(h c:Nat)(hh:w.cell? ⟨h,0,none⟩=some (.int .i64 (10*(n:Int)))) :
  Calls prog 291 #[uX 3 h c] w λe w'=>(∃g d,e = .returned (.tuple #[uX 2 g d,.int .i64 0])∧w.heap.size≤g∧w'.cell? ⟨g,0,none⟩=some (.int .i64 (n:Int)))∧Below w.heap.size w w':=by
 obtain⟨N,hN⟩:∃N:Int,N=(10*(n:Int)):=⟨_,rfl⟩;have hN1:1≤N∧N≤1000:=by omega
 rw[← hN]at hh;have HN:=hid hN;have HN1:=hid hN1;obtain⟨i0,hi,hz0,hz1,hz2⟩:=info_parts Tryz.infoN64;have HI:=hid hi;have HZ0:=hid hz0;have HZ1:=hid hz1;have HZ2:=hid hz2;obtain⟨W0,hW0⟩:∃W0,W0=(w.alloc (.cells #[.int .u8 3,.int .u8 20,.slice (some ⟨h,0,none⟩) 1 c,.slice none 0 0] 189)).alloc (.cells #[.int .u8 0,.int .u8 0,.slice none 0 0,.slice none 0 0] 189):=⟨_,rfl⟩;have hb0:Below w.heap.size w W0:=by rw[hW0];exact((Below.refl _ _).alloc (Nat.le_refl _) _).alloc (by simp) _
 have k0:W0.heap[w.heap.size]?=some (.cells #[.int .u8 3,.int .u8 20,.slice (some ⟨h,0,none⟩) 1 c,.slice none 0 0] 189 (0,0)):=by rw[hW0];exact(Below.heap_alloc _ _ _ (by simp)).trans (heap_alloc_new _ _)
 have k1:W0.heap[w.heap.size+1]?=some (.cells #[.int .u8 0,.int .u8 0,.slice none 0 0,.slice none 0 0] 189 (0,0)):=by
  rw[hW0];have:=heap_alloc_new (w.alloc (.cells #[.int .u8 3,.int .u8 20,.slice (some ⟨h,0,none⟩) 1 c,.slice none 0 0] 189)) (.cells #[.int .u8 0,.int .u8 0,.slice none 0 0,.slice none 0 0] 189);simpa using this
 obtain⟨x0,x1,x2,x3,_⟩:=uY k0;have HH:=hid (vd hh hb0);have HK:=hid (hk.pure hb0);have HB0:=hid hb0;have K0:=hid k0;have K1:=hid k1;clear hk hh hb0 k0 k1 hi hz0 hz1 hz2 hN hN1
 go_enter func291,ntmps291
 go_wp2_with fail
 rw[← hW0];refine(ve W0 HK.out 3 (by omega) N HN1.out.1 HN1.out.2 h c HH.out).mono ?_;rintro e w1 ⟨rfl,hb1⟩;have HB1:=hid (HB0.out.trans (hb1.mono HB0.out.size));have HK1:=hid (HK.out.pure hb1);have HH1:=hid (vd HH.out hb1);have A1:=hid (uZ K0.out hb1);have E1:=hid (uZ K1.out hb1);clear hb1 x0 x1 x2 x3 hW0;obtain⟨x0,x1,x2,x3,_⟩:=uY A1.out
 go_wp2_with fail
 refine(yd w1 HK1.out 2 (by omega)).mono ?_;rw[show ya 2=10 from rfl];rintro e w2 ⟨⟨gr,cr,rfl,hgr,r0,r1,r2⟩,hb2⟩;have HB2:=hid (HB1.out.trans (hb2.mono HB1.out.size));have HK2:=hid (HK1.out.pure hb2);have HH2:=hid (vd HH1.out hb2);have A2:=hid (uZ A1.out hb2);have E2:=hid (uZ E1.out hb2);have HGR:=hid (And.intro r0 (And.intro r1 r2));clear hb2 x0 x1 x2 x3 hgr;obtain⟨x0,x1,x2,x3,_⟩:=uY A2.out
 go_wp2_with fail
 go_region_held3 (λw'=>w'.cell? ⟨w.heap.size,0,none⟩=some (.int .u8 3)∧w'.cell? ⟨w.heap.size,1,none⟩=some (.int .u8 20)∧w'.cell? ⟨w.heap.size,3,none⟩=some (.slice none 0 0)) (first|exact⟨x0,x1,x3⟩|go_keep) (first
  | (go_at_call 290;refine(yg _).mono ?_;rintro e w9 ⟨rfl,rfl⟩))
 all_goals
  rw[show IntKind.u8.wrap 2=2 from by rfl];clear x0 x1 x2 x3;obtain⟨W3,hW3⟩:∃W3,W3=(w2.alloc (.cells #[.int .u8 2,.int .u8 20,.slice none 0 0,.slice none 0 0] 189)).drew:=⟨_,rfl⟩;have hb3:Below w2.heap.size w2 W3:=by rw[hW3];exact((Below.refl _ _).alloc (Nat.le_refl _) _).drew
  have o3:W3.heap[w2.heap.size]?=some (.cells #[.int .u8 2,.int .u8 20,.slice none 0 0,.slice none 0 0] 189 (0,0)):=by rw[hW3];exact heap_alloc_new _ _
  have hs3:W3.heap.size=w2.heap.size+1:=by rw[hW3];simp
  rw[← hW3];clear hW3;have HB3:=hid (HB2.out.trans (hb3.mono HB2.out.size));have HK3:=hid (HK2.out.pure hb3);have HH3:=hid (vd HH2.out hb3);have A3:=hid (uZ A2.out hb3);have E3:=hid (uZ E2.out hb3);have O3:=hid o3;have r0:=vd HGR.out.1 hb3;have r1:=vd HGR.out.2.1 hb3;have r2:=vd HGR.out.2.2 hb3;clear hb3 o3
  go_wp2_with fail
  refine wp_loop_rounds 2 ?_;rw[rounds_succ]
  go_wp2_with fail
  obtain⟨W4,hW4⟩:∃W4,W4=W3.alloc (.cells #[.int .i64 0,.int .i64 10,.int .i64 0] 444):=⟨_,rfl⟩;have hb4:Below W3.heap.size W3 W4:=by rw[hW4];exact(Below.refl _ _).alloc (Nat.le_refl _) _
  have q4:W4.heap[w2.heap.size+1]?=some (.cells #[.int .i64 0,.int .i64 10,.int .i64 0] 444 (0,0)):=by rw[hW4,← hs3];exact heap_alloc_new _ _
  have hs4:W4.heap.size=w2.heap.size+2:=by rw[hW4];simp[hs3]
  rw[← hW4];clear hW4 r0 r1 r2;have HB4:=hid (HB3.out.trans (hb4.mono HB3.out.size));have HK4:=hid (HK3.out.pure hb4);have HH4:=hid (vd HH3.out hb4);have A4:=hid (uZ A3.out hb4);have E4:=hid (uZ E3.out hb4);have O4:=hid (uZ O3.out hb4);have q1:W4.drew.cell? ⟨w2.heap.size+1,1,none⟩=some (.int .i64 10):=(cell_of_row _ _ _ _ _ _ q4).trans rfl;have q2:W4.drew.cell? ⟨w2.heap.size+1,2,none⟩=some (.int .i64 0):=(cell_of_row _ _ _ _ _ _ q4).trans rfl;have x2:W4.drew.cell? ⟨w.heap.size,2,none⟩=some (.slice (some ⟨h,0,none⟩) 1 c):=(cell_of_row _ _ _ _ _ _ A4.out).trans rfl;have y2:W4.drew.cell? ⟨w2.heap.size,2,none⟩=some (.slice none 0 0):=(cell_of_row _ _ _ _ _ _ O4.out).trans rfl;have hh4:W4.drew.cell? ⟨h,0,none⟩=some (.int .i64 N):=HH4.out;have hs5:w.heap.size≤W4.heap.size:=HB4.out.size;have hw2:=HB2.out.size;clear q4 hb4 hs4 hs3;refine pg (S:=(λw':World=>w'.cell? ⟨w2.heap.size,2,none⟩=some (.slice none 0 0)∧w'.cell? ⟨w.heap.size,2,none⟩=some (.slice (some ⟨h,0,none⟩) 1 c)∧w'.cell? ⟨h,0,none⟩=some (.int .i64 N)∧w'.cell? ⟨w2.heap.size+1,2,none⟩=some (.int .i64 0)∧w'.cell? ⟨w2.heap.size+1,1,none⟩=some (.int .i64 10))) 16 (by kernel_rfl) ?_;have hHeld:(λw':World=>w'.cell? ⟨w2.heap.size,2,none⟩=some (.slice none 0 0)∧w'.cell? ⟨w.heap.size,2,none⟩=some (.slice (some ⟨h,0,none⟩) 1 c)∧w'.cell? ⟨h,0,none⟩=some (.int .i64 N)∧w'.cell? ⟨w2.heap.size+1,2,none⟩=some (.int .i64 0)∧w'.cell? ⟨w2.heap.size+1,1,none⟩=some (.int .i64 10)) W4.drew:=⟨y2,x2,hh4,q2,q1⟩;refine tz 0 (h:=?_);simp only[Act.put,List.setIfInBounds_toArray,List.set_cons_zero,List.set_cons_succ];refine tz 1 (h:=?_);simp only[Act.put,List.setIfInBounds_toArray,List.set_cons_zero,List.set_cons_succ];refine tz 2 (h:=?_);simp only[Act.put,List.setIfInBounds_toArray,List.set_cons_zero,List.set_cons_succ];refine tz 3 (h:=?_);simp only[Act.put,List.setIfInBounds_toArray,List.set_cons_zero,List.set_cons_succ];refine tz 4 (h:=?_);simp only[Act.put,List.setIfInBounds_toArray,List.set_cons_zero,List.set_cons_succ];refine tz 5 (h:=?_);simp only[Act.put,List.setIfInBounds_toArray,List.set_cons_zero,List.set_cons_succ];refine tz 6 (h:=?_);simp only[Act.put,List.setIfInBounds_toArray,List.set_cons_zero,List.set_cons_succ];refine tz 7 (h:=?_);simp only[Act.put,List.setIfInBounds_toArray,List.set_cons_zero,List.set_cons_succ];refine tz 8 (h:=?_);simp only[Act.put,List.setIfInBounds_toArray,List.set_cons_zero,List.set_cons_succ];refine tz 9 (h:=?_);simp only[Act.put,List.setIfInBounds_toArray,List.set_cons_zero,List.set_cons_succ];refine tz 10 (h:=?_);simp only[Act.put,List.setIfInBounds_toArray,List.set_cons_zero,List.set_cons_succ];refine tz 11 (h:=?_);simp only[Act.put,List.setIfInBounds_toArray,List.set_cons_zero,List.set_cons_succ];refine tz 12 (h:=?_);simp only[Act.put,List.setIfInBounds_toArray,List.set_cons_zero,List.set_cons_succ];have e1:IntKind.i64.wrap N=N:=by rw[IntKind.wrap_i64];have:=HN1.out;omega
  (first
    | rw[show IntKind.i64.wrap ((IntKind.i64.wrap N).tdiv 10)=(n:Int)from by
      rw[e1,HN.out,Int.mul_tdiv_cancel_left _ (by decide),IntKind.wrap_i64];omega]
    | rw[show IntKind.i64.wrap (IntKind.i64.wrap N)=(n:Int)from by rw[e1,e1,HN.out]])
  clear e1;refine rz 13 (h:=λK hK=>?_)
  go_simp
  refine hK.out _ _ (λ_=>⟨(World.cell?_alloc_past _ _ _ (aw hHeld.1)).trans hHeld.1,(World.cell?_alloc_past _ _ _ (aw hHeld.2.1)).trans hHeld.2.1,(World.cell?_alloc_past _ _ _ (aw hHeld.2.2.1)).trans hHeld.2.2.1,(World.cell?_alloc_past _ _ _ (aw hHeld.2.2.2.1)).trans hHeld.2.2.2.1,(World.cell?_alloc_past _ _ _ (aw hHeld.2.2.2.2)).trans hHeld.2.2.2.2⟩) ?_;clear hK K
  (try simp only[Act.put,List.setIfInBounds_toArray,List.set_cons_zero,List.set_cons_succ])
  refine rz 14 (h:=λK hK=>?_);refine step_append_lies _ (by rfl) _ _ _ (by rfl) w.heap.size 2 i0 _ 1 8 underlying126 HI.out HZ0.out HZ1.out HZ2.out rfl (by omega) (.slice none 0 0) 0 [] (by rfl) (World.ownsRow_nil _ _ _ _) ⟨W4.drew.heap.size,0,none⟩ 1 1 [.int .i64 (n:Int)] (by rfl) (by rfl) (aC (w:=W4.drew) rfl rfl) (by simp[Value.oneCell']) (by omega) (by unfold maxLen;omega) (by omega) (by simp;omega) (W4.heap.size+1) (by simp) ?_;intro g cap w8 hown8 hgrow8 hat8 hlt8;simp only[Nat.zero_add,List.nil_append]at hown8 ⊢;obtain⟨hc8,hg8⟩:=uP hown8;have hal:∀{b:Nat} {o:Obj},W4.heap[b]?=some o→w8.heap[b]?=some o:=λ{b o} h=>(hgrow8.block _ (by have:=lt_of_block h;simp;omega) (by simp[Value.ownBlock])).trans ((Below.heap_alloc _ _ _ (lt_of_block h)).trans h);have o8:=hal O4.out;have e8:=hal E4.out;have a8:=hal A4.out;have hB8:Below W4.heap.size W4 w8:=((Below.refl _ _).drew.alloc (Nat.le_refl _) _).grown hgrow8 (by simp) (λj e=>by cases e);have HH8:=hid (vd HH4.out hB8);have HK8:=hid (HK4.out.pure hB8);have HB8:=hid (HB4.out.trans (hB8.mono HB4.out.size));have HG8:=hid (show W4.heap.size≤g from by rcases hat8 with e|e;cases e;omega);obtain⟨z0,z1,z2,z3,zf⟩:=uY o8;have s1:w8.cell? ⟨w2.heap.size,2,none⟩=some (.slice none 0 0):=z2;have q1:w8.cell? ⟨w2.heap.size+1,1,none⟩=some (.int .i64 10):=vd (W:=W4) (show W4.cell? ⟨w2.heap.size+1,1,none⟩=_ from hHeld.2.2.2.2) hB8;have q2:w8.cell? ⟨w2.heap.size+1,2,none⟩=some (.int .i64 0):=vd (W:=W4) (show W4.cell? ⟨w2.heap.size+1,2,none⟩=_ from hHeld.2.2.2.1) hB8;have x2:w8.cell? ⟨w.heap.size,2,none⟩=some (.slice (some ⟨h,0,none⟩) 1 c):=vd (W:=W4) (show W4.cell? ⟨w.heap.size,2,none⟩=_ from hHeld.2.1) hB8;have hh8:=HH8.out;clear hHeld;have hHeld:(λw':World=>w'.cell? ⟨w2.heap.size,2,none⟩=some (.slice none 0 0)∧w'.cell? ⟨w.heap.size,2,none⟩=some (.slice (some ⟨h,0,none⟩) 1 c)∧w'.cell? ⟨h,0,none⟩=some (.int .i64 N)∧w'.cell? ⟨w2.heap.size+1,2,none⟩=some (.int .i64 0)∧w'.cell? ⟨w2.heap.size+1,1,none⟩=some (.int .i64 10)) w8:=⟨s1,x2,hh8,q2,q1⟩;refine hK.out _ _ (λ_=>hHeld) ?_;clear hK K
  (try simp only[Act.put,List.setIfInBounds_toArray,List.set_cons_zero,List.set_cons_succ])
  refine tz 15 (h:=?_)
  (try simp only[Act.put,List.setIfInBounds_toArray,List.set_cons_zero,List.set_cons_succ])
  refine rz 16 (h:=λK hK=>?_)
  go_simp
  refine hK.out _ _ (λh=>absurd rfl h) ?_;clear hK K
  (try simp only[Act.put,List.setIfInBounds_toArray,List.set_cons_zero,List.set_cons_succ])
  refine pf (by kernel_rfl) ?_ _
  generalize hW9:w8.setCell _ _=W9
  have f9:Fr (λk=>k=w2.heap.size) w8 W9:=by rw[← hW9];exact(Fr.refl (λk=>k=w2.heap.size) w8).setCell ⟨w2.heap.size,2,none⟩ (λ_=>rfl) _
  have hgz:w2.heap.size<W4.heap.size∧w.heap.size+1<w2.heap.size:=⟨lt_of_block O4.out,lt_of_block E2.out⟩;have O9:=hid (show W9.heap[w2.heap.size]?=some (.cells #[.int .u8 2,.int .u8 20,.slice (some ⟨g,0,none⟩) 1 cap,.slice none 0 0] 189 (0,0))from by rw[← hW9];exact heap_setCell_same _ _ _ _ _ _ o8);have E9:=hid (f9.heapAt e8 (by omega));have A9:=hid (f9.heapAt a8 (by omega));have hhb:h<w2.heap.size:=aw HH2.out;have HH9:=hid (f9.cellAt hh8 (by omega));have C9:=hid (f9.cellAt hc8 (by have:=HG8.out;omega));have HK9:=hid (HK8.out.kept f9 (by have:=HK2.out.lt;omega));have HB9:=hid (HB8.out.trans (f9.below HB8.out.size (λk hk e=>by omega)));clear z0 z1 z2 z3 zf s1 q1 q2 x2 hh8 hHeld hW9 hown8 hgrow8 hat8 hc8 o8 e8 a8 f9 hal hB8 hh4 y2;go_wp2;rw[rounds_succ];obtain⟨y0,y1,y2,y3,_⟩:=uY O9.out
  go_wp2_with fail
  refine(yh W9 HK9.out 2 (by omega) n h1 h2 g cap C9.out).mono ?_;rw[show ya 2*(n:Int)=N from by rw[HN.out];simp[ya],show(2:Int)+1=3 from rfl];rintro e wA ⟨⟨g',d',rfl,hg',hc'⟩,hbA⟩;have HBA:=hid (HB9.out.trans (hbA.mono HB9.out.size));have OA:=hid (uZ O9.out hbA);have EA:=hid (uZ E9.out hbA);have HHA:=hid (vd HH9.out hbA);have CA:=hid (vd C9.out hbA);have HCA:=hid hc';have hA:=uZ A9.out hbA;have hal:∀o,(wA.alloc o).heap[w.heap.size]?=some (.cells #[.int .u8 3,.int .u8 20,.slice (some ⟨h,0,none⟩) 1 c,.slice none 0 0] 189 (0,0)):=λo=>(Below.heap_alloc _ _ _ (lt_of_block hA)).trans hA;have a0:=λo=>(uY (hal o)).1;have a1:=λo=>(uY (hal o)).2.1;have a2:=λo=>(uY (hal o)).2.2.1;have a3:=λo=>(uY (hal o)).2.2.2.1;clear hA hal hbA hc' hg' y0 y1 y2 y3
  go_wp2_with fail
  have hbB:∀o,Below wA.heap.size wA (wA.alloc o):=λo=>(Below.refl _ _).alloc (Nat.le_refl _) _;refine(yi _ 3 g' d' h c N (vd HCA.out (hbB _)) (vd HHA.out (hbB _))).mono ?_;rintro e wC ⟨rfl,hbC⟩;have hbD:=(hbB _).trans (hbC.mono (hbB _).size);have HBC:=hid (HBA.out.trans (hbD.mono HBA.out.size));have CC:=hid (vd CA.out hbD);obtain⟨y0,y1,y2,y3,yf⟩:=uY (uZ OA.out hbD);obtain⟨r0,r1,r2,r3,rf⟩:=uY (uZ EA.out hbD);clear a0 a1 a2 a3 hbB hbC hbD;go_wp2;refine bodyPost_ret (v:=.tuple #[uX 2 g cap,.int .i64 0]) (by simp[results,results291,go_sem,r0,r1,r2,r3]) rfl ⟨⟨g,cap,rfl,hg8,?_⟩,?_⟩
  ·have hf:=((((Fr.refl (λk=>k=w.heap.size+1) wC).setCell ⟨w.heap.size+1,0,none⟩ (λ_=>rfl) (.int .u8 2)).setCell ⟨w.heap.size+1,1,none⟩ (λ_=>rfl) (.int .u8 20)).setCell ⟨w.heap.size+1,2,none⟩ (λ_=>rfl) (.slice (some ⟨g,0,none⟩) 1 cap)).setCell ⟨w.heap.size+1,3,none⟩ (λ_=>rfl) (.slice none 0 0)
   exact hf.cellAt CC.out (by have:=HG8.out;omega)
  ·exact((((HBC.out.setCell (p:=⟨w.heap.size+1,0,none⟩) (by simp) _).setCell (p:=⟨w.heap.size+1,1,none⟩) (by simp) _).setCell (p:=⟨w.heap.size+1,2,none⟩) (by simp) _).setCell (p:=⟨w.heap.size+1,3,none⟩) (by simp) _)
theorem yk (w:World)(hk:uL w)(n:Nat)(h1:1≤n)(h2:n≤100)(h c:Nat)(hh:w.cell? ⟨h,0,none⟩=some (.int .i64 (n:Int))) :
  Calls prog 291 #[uX 2 h c] w λe w'=>(∃g d,e = .returned (.tuple #[uX 1 g d,.int .i64 0])∧w.heap.size≤g∧w'.cell? ⟨g,0,none⟩=some (.int .i64 (n:Int)))∧Below w.heap.size w w':=by
 obtain⟨N,hN⟩:∃N:Int,N=(n:Int):=⟨_,rfl⟩;have hN1:1≤N∧N≤1000:=by omega
 rw[← hN]at hh;have HN:=hid hN;have HN1:=hid hN1;obtain⟨i0,hi,hz0,hz1,hz2⟩:=info_parts Tryz.infoN64;have HI:=hid hi;have HZ0:=hid hz0;have HZ1:=hid hz1;have HZ2:=hid hz2;obtain⟨W0,hW0⟩:∃W0,W0=(w.alloc (.cells #[.int .u8 2,.int .u8 20,.slice (some ⟨h,0,none⟩) 1 c,.slice none 0 0] 189)).alloc (.cells #[.int .u8 0,.int .u8 0,.slice none 0 0,.slice none 0 0] 189):=⟨_,rfl⟩;have hb0:Below w.heap.size w W0:=by rw[hW0];exact((Below.refl _ _).alloc (Nat.le_refl _) _).alloc (by simp) _
 have k0:W0.heap[w.heap.size]?=some (.cells #[.int .u8 2,.int .u8 20,.slice (some ⟨h,0,none⟩) 1 c,.slice none 0 0] 189 (0,0)):=by rw[hW0];exact(Below.heap_alloc _ _ _ (by simp)).trans (heap_alloc_new _ _)
 have k1:W0.heap[w.heap.size+1]?=some (.cells #[.int .u8 0,.int .u8 0,.slice none 0 0,.slice none 0 0] 189 (0,0)):=by
  rw[hW0];have:=heap_alloc_new (w.alloc (.cells #[.int .u8 2,.int .u8 20,.slice (some ⟨h,0,none⟩) 1 c,.slice none 0 0] 189)) (.cells #[.int .u8 0,.int .u8 0,.slice none 0 0,.slice none 0 0] 189);simpa using this
 obtain⟨x0,x1,x2,x3,_⟩:=uY k0;have HH:=hid (vd hh hb0);have HK:=hid (hk.pure hb0);have HB0:=hid hb0;have K0:=hid k0;have K1:=hid k1;clear hk hh hb0 k0 k1 hi hz0 hz1 hz2 hN hN1
 go_enter func291,ntmps291
 go_wp2_with fail
 rw[← hW0];refine(ve W0 HK.out 2 (by omega) N HN1.out.1 HN1.out.2 h c HH.out).mono ?_;rintro e w1 ⟨rfl,hb1⟩;have HB1:=hid (HB0.out.trans (hb1.mono HB0.out.size));have HK1:=hid (HK.out.pure hb1);have HH1:=hid (vd HH.out hb1);have A1:=hid (uZ K0.out hb1);have E1:=hid (uZ K1.out hb1);clear hb1 x0 x1 x2 x3 hW0;obtain⟨x0,x1,x2,x3,_⟩:=uY A1.out
 go_wp2_with fail
 refine(yd w1 HK1.out 1 (by omega)).mono ?_;rw[show ya 1=1 from rfl];rintro e w2 ⟨⟨gr,cr,rfl,hgr,r0,r1,r2⟩,hb2⟩;have HB2:=hid (HB1.out.trans (hb2.mono HB1.out.size));have HK2:=hid (HK1.out.pure hb2);have HH2:=hid (vd HH1.out hb2);have A2:=hid (uZ A1.out hb2);have E2:=hid (uZ E1.out hb2);have HGR:=hid (And.intro r0 (And.intro r1 r2));clear hb2 x0 x1 x2 x3 hgr;obtain⟨x0,x1,x2,x3,_⟩:=uY A2.out
 go_wp2_with fail
 go_region_held3 (λw'=>w'.cell? ⟨w.heap.size,0,none⟩=some (.int .u8 2)∧w'.cell? ⟨w.heap.size,1,none⟩=some (.int .u8 20)∧w'.cell? ⟨w.heap.size,3,none⟩=some (.slice none 0 0)) (first|exact⟨x0,x1,x3⟩|go_keep) (first
  | (go_at_call 290;refine(yg _).mono ?_;rintro e w9 ⟨rfl,rfl⟩))
 all_goals
  rw[show IntKind.u8.wrap 1=1 from by rfl];clear x0 x1 x2 x3;obtain⟨W3,hW3⟩:∃W3,W3=(w2.alloc (.cells #[.int .u8 1,.int .u8 20,.slice none 0 0,.slice none 0 0] 189)).drew:=⟨_,rfl⟩;have hb3:Below w2.heap.size w2 W3:=by rw[hW3];exact((Below.refl _ _).alloc (Nat.le_refl _) _).drew
  have o3:W3.heap[w2.heap.size]?=some (.cells #[.int .u8 1,.int .u8 20,.slice none 0 0,.slice none 0 0] 189 (0,0)):=by rw[hW3];exact heap_alloc_new _ _
  have hs3:W3.heap.size=w2.heap.size+1:=by rw[hW3];simp
  rw[← hW3];clear hW3;have HB3:=hid (HB2.out.trans (hb3.mono HB2.out.size));have HK3:=hid (HK2.out.pure hb3);have HH3:=hid (vd HH2.out hb3);have A3:=hid (uZ A2.out hb3);have E3:=hid (uZ E2.out hb3);have O3:=hid o3;have r0:=vd HGR.out.1 hb3;have r1:=vd HGR.out.2.1 hb3;have r2:=vd HGR.out.2.2 hb3;clear hb3 o3
  go_wp2_with fail
  refine wp_loop_rounds 2 ?_;rw[rounds_succ]
  go_wp2_with fail
  obtain⟨W4,hW4⟩:∃W4,W4=W3.alloc (.cells #[.int .i64 0,.int .i64 1,.int .i64 0] 444):=⟨_,rfl⟩;have hb4:Below W3.heap.size W3 W4:=by rw[hW4];exact(Below.refl _ _).alloc (Nat.le_refl _) _
  have q4:W4.heap[w2.heap.size+1]?=some (.cells #[.int .i64 0,.int .i64 1,.int .i64 0] 444 (0,0)):=by rw[hW4,← hs3];exact heap_alloc_new _ _
  have hs4:W4.heap.size=w2.heap.size+2:=by rw[hW4];simp[hs3]
  rw[← hW4];clear hW4 r0 r1 r2;have HB4:=hid (HB3.out.trans (hb4.mono HB3.out.size));have HK4:=hid (HK3.out.pure hb4);have HH4:=hid (vd HH3.out hb4);have A4:=hid (uZ A3.out hb4);have E4:=hid (uZ E3.out hb4);have O4:=hid (uZ O3.out hb4);have q1:W4.drew.cell? ⟨w2.heap.size+1,1,none⟩=some (.int .i64 1):=(cell_of_row _ _ _ _ _ _ q4).trans rfl;have q2:W4.drew.cell? ⟨w2.heap.size+1,2,none⟩=some (.int .i64 0):=(cell_of_row _ _ _ _ _ _ q4).trans rfl;have x2:W4.drew.cell? ⟨w.heap.size,2,none⟩=some (.slice (some ⟨h,0,none⟩) 1 c):=(cell_of_row _ _ _ _ _ _ A4.out).trans rfl;have y2:W4.drew.cell? ⟨w2.heap.size,2,none⟩=some (.slice none 0 0):=(cell_of_row _ _ _ _ _ _ O4.out).trans rfl;have hh4:W4.drew.cell? ⟨h,0,none⟩=some (.int .i64 N):=HH4.out;have hs5:w.heap.size≤W4.heap.size:=HB4.out.size;have hw2:=HB2.out.size;clear q4 hb4 hs4 hs3;refine pg (S:=(λw':World=>w'.cell? ⟨w2.heap.size,2,none⟩=some (.slice none 0 0)∧w'.cell? ⟨w.heap.size,2,none⟩=some (.slice (some ⟨h,0,none⟩) 1 c)∧w'.cell? ⟨h,0,none⟩=some (.int .i64 N)∧w'.cell? ⟨w2.heap.size+1,2,none⟩=some (.int .i64 0)∧w'.cell? ⟨w2.heap.size+1,1,none⟩=some (.int .i64 1))) 16 (by kernel_rfl) ?_;have hHeld:(λw':World=>w'.cell? ⟨w2.heap.size,2,none⟩=some (.slice none 0 0)∧w'.cell? ⟨w.heap.size,2,none⟩=some (.slice (some ⟨h,0,none⟩) 1 c)∧w'.cell? ⟨h,0,none⟩=some (.int .i64 N)∧w'.cell? ⟨w2.heap.size+1,2,none⟩=some (.int .i64 0)∧w'.cell? ⟨w2.heap.size+1,1,none⟩=some (.int .i64 1)) W4.drew:=⟨y2,x2,hh4,q2,q1⟩;refine tz 0 (h:=?_);simp only[Act.put,List.setIfInBounds_toArray,List.set_cons_zero,List.set_cons_succ];refine tz 1 (h:=?_);simp only[Act.put,List.setIfInBounds_toArray,List.set_cons_zero,List.set_cons_succ];refine tz 2 (h:=?_);simp only[Act.put,List.setIfInBounds_toArray,List.set_cons_zero,List.set_cons_succ];refine tz 3 (h:=?_);simp only[Act.put,List.setIfInBounds_toArray,List.set_cons_zero,List.set_cons_succ];refine tz 4 (h:=?_);simp only[Act.put,List.setIfInBounds_toArray,List.set_cons_zero,List.set_cons_succ];refine tz 5 (h:=?_);simp only[Act.put,List.setIfInBounds_toArray,List.set_cons_zero,List.set_cons_succ];refine tz 6 (h:=?_);simp only[Act.put,List.setIfInBounds_toArray,List.set_cons_zero,List.set_cons_succ];refine tz 7 (h:=?_);simp only[Act.put,List.setIfInBounds_toArray,List.set_cons_zero,List.set_cons_succ];refine tz 8 (h:=?_);simp only[Act.put,List.setIfInBounds_toArray,List.set_cons_zero,List.set_cons_succ];refine tz 9 (h:=?_);simp only[Act.put,List.setIfInBounds_toArray,List.set_cons_zero,List.set_cons_succ];refine tz 10 (h:=?_);simp only[Act.put,List.setIfInBounds_toArray,List.set_cons_zero,List.set_cons_succ];refine tz 11 (h:=?_);simp only[Act.put,List.setIfInBounds_toArray,List.set_cons_zero,List.set_cons_succ];refine tz 12 (h:=?_);simp only[Act.put,List.setIfInBounds_toArray,List.set_cons_zero,List.set_cons_succ];have e1:IntKind.i64.wrap N=N:=by rw[IntKind.wrap_i64];have:=HN1.out;omega
  (first
    | rw[show IntKind.i64.wrap ((IntKind.i64.wrap N).tdiv 1)=(n:Int)from by
      rw[e1,HN.out,Int.tdiv_one,IntKind.wrap_i64];omega]
    | rw[show IntKind.i64.wrap (IntKind.i64.wrap N)=(n:Int)from by rw[e1,e1,HN.out]])
  clear e1;refine rz 13 (h:=λK hK=>?_)
  go_simp
  refine hK.out _ _ (λ_=>⟨(World.cell?_alloc_past _ _ _ (aw hHeld.1)).trans hHeld.1,(World.cell?_alloc_past _ _ _ (aw hHeld.2.1)).trans hHeld.2.1,(World.cell?_alloc_past _ _ _ (aw hHeld.2.2.1)).trans hHeld.2.2.1,(World.cell?_alloc_past _ _ _ (aw hHeld.2.2.2.1)).trans hHeld.2.2.2.1,(World.cell?_alloc_past _ _ _ (aw hHeld.2.2.2.2)).trans hHeld.2.2.2.2⟩) ?_;clear hK K
  (try simp only[Act.put,List.setIfInBounds_toArray,List.set_cons_zero,List.set_cons_succ])
  refine rz 14 (h:=λK hK=>?_);refine step_append_lies _ (by rfl) _ _ _ (by rfl) w.heap.size 2 i0 _ 1 8 underlying126 HI.out HZ0.out HZ1.out HZ2.out rfl (by omega) (.slice none 0 0) 0 [] (by rfl) (World.ownsRow_nil _ _ _ _) ⟨W4.drew.heap.size,0,none⟩ 1 1 [.int .i64 (n:Int)] (by rfl) (by rfl) (aC (w:=W4.drew) rfl rfl) (by simp[Value.oneCell']) (by omega) (by unfold maxLen;omega) (by omega) (by simp;omega) (W4.heap.size+1) (by simp) ?_;intro g cap w8 hown8 hgrow8 hat8 hlt8;simp only[Nat.zero_add,List.nil_append]at hown8 ⊢;obtain⟨hc8,hg8⟩:=uP hown8;have hal:∀{b:Nat} {o:Obj},W4.heap[b]?=some o→w8.heap[b]?=some o:=λ{b o} h=>(hgrow8.block _ (by have:=lt_of_block h;simp;omega) (by simp[Value.ownBlock])).trans ((Below.heap_alloc _ _ _ (lt_of_block h)).trans h);have o8:=hal O4.out;have e8:=hal E4.out;have a8:=hal A4.out;have hB8:Below W4.heap.size W4 w8:=((Below.refl _ _).drew.alloc (Nat.le_refl _) _).grown hgrow8 (by simp) (λj e=>by cases e);have HH8:=hid (vd HH4.out hB8);have HK8:=hid (HK4.out.pure hB8);have HB8:=hid (HB4.out.trans (hB8.mono HB4.out.size));have HG8:=hid (show W4.heap.size≤g from by rcases hat8 with e|e;cases e;omega);obtain⟨z0,z1,z2,z3,zf⟩:=uY o8;have s1:w8.cell? ⟨w2.heap.size,2,none⟩=some (.slice none 0 0):=z2;have q1:w8.cell? ⟨w2.heap.size+1,1,none⟩=some (.int .i64 1):=vd (W:=W4) (show W4.cell? ⟨w2.heap.size+1,1,none⟩=_ from hHeld.2.2.2.2) hB8;have q2:w8.cell? ⟨w2.heap.size+1,2,none⟩=some (.int .i64 0):=vd (W:=W4) (show W4.cell? ⟨w2.heap.size+1,2,none⟩=_ from hHeld.2.2.2.1) hB8;have x2:w8.cell? ⟨w.heap.size,2,none⟩=some (.slice (some ⟨h,0,none⟩) 1 c):=vd (W:=W4) (show W4.cell? ⟨w.heap.size,2,none⟩=_ from hHeld.2.1) hB8;have hh8:=HH8.out;clear hHeld;have hHeld:(λw':World=>w'.cell? ⟨w2.heap.size,2,none⟩=some (.slice none 0 0)∧w'.cell? ⟨w.heap.size,2,none⟩=some (.slice (some ⟨h,0,none⟩) 1 c)∧w'.cell? ⟨h,0,none⟩=some (.int .i64 N)∧w'.cell? ⟨w2.heap.size+1,2,none⟩=some (.int .i64 0)∧w'.cell? ⟨w2.heap.size+1,1,none⟩=some (.int .i64 1)) w8:=⟨s1,x2,hh8,q2,q1⟩;refine hK.out _ _ (λ_=>hHeld) ?_;clear hK K
  (try simp only[Act.put,List.setIfInBounds_toArray,List.set_cons_zero,List.set_cons_succ])
  refine tz 15 (h:=?_)
  (try simp only[Act.put,List.setIfInBounds_toArray,List.set_cons_zero,List.set_cons_succ])
  refine rz 16 (h:=λK hK=>?_)
  go_simp
  refine hK.out _ _ (λh=>absurd rfl h) ?_;clear hK K
  (try simp only[Act.put,List.setIfInBounds_toArray,List.set_cons_zero,List.set_cons_succ])
  refine pf (by kernel_rfl) ?_ _
  generalize hW9:w8.setCell _ _=W9
  have f9:Fr (λk=>k=w2.heap.size) w8 W9:=by rw[← hW9];exact(Fr.refl (λk=>k=w2.heap.size) w8).setCell ⟨w2.heap.size,2,none⟩ (λ_=>rfl) _
  have hgz:w2.heap.size<W4.heap.size∧w.heap.size+1<w2.heap.size:=⟨lt_of_block O4.out,lt_of_block E2.out⟩;have O9:=hid (show W9.heap[w2.heap.size]?=some (.cells #[.int .u8 1,.int .u8 20,.slice (some ⟨g,0,none⟩) 1 cap,.slice none 0 0] 189 (0,0))from by rw[← hW9];exact heap_setCell_same _ _ _ _ _ _ o8);have E9:=hid (f9.heapAt e8 (by omega));have A9:=hid (f9.heapAt a8 (by omega));have hhb:h<w2.heap.size:=aw HH2.out;have HH9:=hid (f9.cellAt hh8 (by omega));have C9:=hid (f9.cellAt hc8 (by have:=HG8.out;omega));have HK9:=hid (HK8.out.kept f9 (by have:=HK2.out.lt;omega));have HB9:=hid (HB8.out.trans (f9.below HB8.out.size (λk hk e=>by omega)));clear z0 z1 z2 z3 zf s1 q1 q2 x2 hh8 hHeld hW9 hown8 hgrow8 hat8 hc8 o8 e8 a8 f9 hal hB8 hh4 y2;go_wp2;rw[rounds_succ];obtain⟨y0,y1,y2,y3,_⟩:=uY O9.out
  go_wp2_with fail
  refine(yh W9 HK9.out 1 (by omega) n h1 h2 g cap C9.out).mono ?_;rw[show ya 1*(n:Int)=N from by rw[HN.out];simp[ya],show(1:Int)+1=2 from rfl];rintro e wA ⟨⟨g',d',rfl,hg',hc'⟩,hbA⟩;have HBA:=hid (HB9.out.trans (hbA.mono HB9.out.size));have OA:=hid (uZ O9.out hbA);have EA:=hid (uZ E9.out hbA);have HHA:=hid (vd HH9.out hbA);have CA:=hid (vd C9.out hbA);have HCA:=hid hc';have hA:=uZ A9.out hbA;have hal:∀o,(wA.alloc o).heap[w.heap.size]?=some (.cells #[.int .u8 2,.int .u8 20,.slice (some ⟨h,0,none⟩) 1 c,.slice none 0 0] 189 (0,0)):=λo=>(Below.heap_alloc _ _ _ (lt_of_block hA)).trans hA;have a0:=λo=>(uY (hal o)).1;have a1:=λo=>(uY (hal o)).2.1;have a2:=λo=>(uY (hal o)).2.2.1;have a3:=λo=>(uY (hal o)).2.2.2.1;clear hA hal hbA hc' hg' y0 y1 y2 y3
  go_wp2_with fail
  have hbB:∀o,Below wA.heap.size wA (wA.alloc o):=λo=>(Below.refl _ _).alloc (Nat.le_refl _) _;refine(yi _ 2 g' d' h c N (vd HCA.out (hbB _)) (vd HHA.out (hbB _))).mono ?_;rintro e wC ⟨rfl,hbC⟩;have hbD:=(hbB _).trans (hbC.mono (hbB _).size);have HBC:=hid (HBA.out.trans (hbD.mono HBA.out.size));have CC:=hid (vd CA.out hbD);obtain⟨y0,y1,y2,y3,yf⟩:=uY (uZ OA.out hbD);obtain⟨r0,r1,r2,r3,rf⟩:=uY (uZ EA.out hbD);clear a0 a1 a2 a3 hbB hbC hbD;go_wp2;refine bodyPost_ret (v:=.tuple #[uX 1 g cap,.int .i64 0]) (by simp[results,results291,go_sem,r0,r1,r2,r3]) rfl ⟨⟨g,cap,rfl,hg8,?_⟩,?_⟩
  ·have hf:=((((Fr.refl (λk=>k=w.heap.size+1) wC).setCell ⟨w.heap.size+1,0,none⟩ (λ_=>rfl) (.int .u8 1)).setCell ⟨w.heap.size+1,1,none⟩ (λ_=>rfl) (.int .u8 20)).setCell ⟨w.heap.size+1,2,none⟩ (λ_=>rfl) (.slice (some ⟨g,0,none⟩) 1 cap)).setCell ⟨w.heap.size+1,3,none⟩ (λ_=>rfl) (.slice none 0 0)
   exact hf.cellAt CC.out (by have:=HG8.out;omega)
  ·exact((((HBC.out.setCell (p:=⟨w.heap.size+1,0,none⟩) (by simp) _).setCell (p:=⟨w.heap.size+1,1,none⟩) (by simp) _).setCell (p:=⟨w.heap.size+1,2,none⟩) (by simp) _).setCell (p:=⟨w.heap.size+1,3,none⟩) (by simp) _)
theorem yl (W:World)(b:Nat)(u0 u1 u2 u3:Value):Fr (λk=>k=b) W ((((W.setCell ⟨b,0,none⟩ u0).setCell ⟨b,1,none⟩ u1).setCell ⟨b,2,none⟩ u2).setCell ⟨b,3,none⟩ u3):=
 ((((Fr.refl (λk=>k=b) W).setCell ⟨b,0,none⟩ (λ_=>rfl) u0).setCell ⟨b,1,none⟩ (λ_=>rfl) u1).setCell ⟨b,2,none⟩ (λ_=>rfl) u2).setCell ⟨b,3,none⟩ (λ_=>rfl) u3
theorem ym {W:World}{a b o:Nat}{x u0 u1 u2 u3:Value}(hne:a≠b)(h:W.cell? ⟨a,o,none⟩=some x):((((W.setCell ⟨b,0,none⟩ u0).setCell ⟨b,1,none⟩ u1).setCell ⟨b,2,none⟩ u2).setCell ⟨b,3,none⟩ u3).cell? ⟨a,o,none⟩=some x:=(yl W b u0 u1 u2 u3).cellAt h hne
theorem yn {W:World}{b:Nat}{T:TypeId}{z0 z1 z2 z3:Value}(u0 u1 u2 u3:Value)(h:W.heap[b]?=some (.cells #[z0,z1,z2,z3] T (0,0))):((((W.setCell ⟨b,0,none⟩ u0).setCell ⟨b,1,none⟩ u1).setCell ⟨b,2,none⟩ u2).setCell ⟨b,3,none⟩ u3).heap[b]?=some (.cells #[u0,u1,u2,u3] T (0,0)):=by
 have h:(W.setCell ⟨b,0,none⟩ u0).heap[b]?=some (.cells #[u0,z1,z2,z3] T (0,0)):=heap_setCell_same _ _ _ _ _ _ h;have h:((W.setCell ⟨b,0,none⟩ u0).setCell ⟨b,1,none⟩ u1).heap[b]?=some (.cells #[u0,u1,z2,z3] T (0,0)):=heap_setCell_same _ _ _ _ _ _ h;have h:(((W.setCell ⟨b,0,none⟩ u0).setCell ⟨b,1,none⟩ u1).setCell ⟨b,2,none⟩ u2).heap[b]?=some (.cells #[u0,u1,u2,z3] T (0,0)):=heap_setCell_same _ _ _ _ _ _ h;exact heap_setCell_same _ _ _ _ _ _ h
def yo (w1 wx:World)(t:Value)(v n:Int):Prop:=∃o g d,t = .pointer (some ⟨o,0,none⟩)∧wx.heap[o]?=some (.cells #[.int .u8 v,.int .u8 20,.slice (some ⟨g,0,none⟩) 1 d,.slice none 0 0] 189 (0,0))∧w1.heap.size≤g∧g≠o∧w1.heap.size≤o∧wx.cell? ⟨g,0,none⟩=some (.int .i64 n)∧Below w1.heap.size w1 wx
theorem yq {w1 w9:World}{g d:Nat}{v n:Int}(hg:w1.heap.size≤g)(hc:w9.cell? ⟨g,0,none⟩=some (.int .i64 n))(hb:Below w1.heap.size w1 w9) :
  yo w1 (w9.alloc (.cells #[.int .u8 v,.int .u8 20,.slice (some ⟨g,0,none⟩) 1 d,.slice none 0 0] 189)) (.pointer (some ⟨w9.heap.size,0,none⟩)) v n:=
 ⟨_,g,d,rfl,heap_alloc_new _ _,hg,by have:=aw hc;omega,hb.size,(World.cell?_alloc_past _ _ _ (aw hc)).trans hc,hb.alloc hb.size _⟩
theorem yr {w1 w9:World}{g d:Nat}{v n:Int}{z0 z1 z2 z3:Value}(o5:w9.heap[w1.heap.size]?=some (.cells #[z0,z1,z2,z3] 189 (0,0)))(hg:w1.heap.size<g)(hc:w9.cell? ⟨g,0,none⟩=some (.int .i64 n))(hb:Below w1.heap.size w1 w9) :
  yo w1 ((((w9.setCell ⟨w1.heap.size,0,none⟩ (.int .u8 v)).setCell ⟨w1.heap.size,1,none⟩ (.int .u8 20)).setCell ⟨w1.heap.size,2,none⟩ (.slice (some ⟨g,0,none⟩) 1 d)).setCell ⟨w1.heap.size,3,none⟩ (.slice none 0 0)) (.pointer (some ⟨w1.heap.size,0,none⟩)) v n:=
 ⟨_,g,d,rfl,yn _ _ _ _ o5,by omega,by omega,Nat.le_refl _,ym (by omega) hc,hb.trans ((yl _ _ _ _ _ _).below hb.size (λk hk e=>by omega))⟩
theorem ys (w:World)(hk:uL w)(v:Int)(hv:v=1∨v=2∨v=3)(n:Int)(h1:1≤n)(h2:n≤1000)(h c:Nat)(hh:w.cell? ⟨h,0,none⟩=some (.int .i64 n)) :
  Calls prog 219 #[uX v h c,.int .u8 v] w λe w'=>(∃g d,e = .returned (.tuple #[uX v g d,.int .i64 0])∧w.heap.size≤g∧w'.cell? ⟨g,0,none⟩=some (.int .i64 n))∧Below w.heap.size w w':=by
 have HV:=hid hv;have HN:=hid (And.intro h1 h2);have d1:decide (v<1)=false:=by rcases hv with rfl|rfl|rfl<;>rfl
 have d2:decide (v > 3)=false:=by rcases hv with rfl|rfl|rfl<;>rfl
 obtain⟨W0,hW0⟩:∃W0,W0=(w.alloc (.cells #[.int .u8 v,.int .u8 20,.slice (some ⟨h,0,none⟩) 1 c,.slice none 0 0] 189)).alloc (.cells #[.int .u8 0,.int .u8 0,.slice none 0 0,.slice none 0 0] 189):=⟨_,rfl⟩;have hb0:Below w.heap.size w W0:=by rw[hW0];exact((Below.refl _ _).alloc (Nat.le_refl _) _).alloc (by simp) _
 have k0:W0.heap[w.heap.size]?=some (.cells #[.int .u8 v,.int .u8 20,.slice (some ⟨h,0,none⟩) 1 c,.slice none 0 0] 189 (0,0)):=by rw[hW0];exact(Below.heap_alloc _ _ _ (by simp)).trans (heap_alloc_new _ _)
 have k1:W0.heap[w.heap.size+1]?=some (.cells #[.int .u8 0,.int .u8 0,.slice none 0 0,.slice none 0 0] 189 (0,0)):=by
  rw[hW0];have:=heap_alloc_new (w.alloc (.cells #[.int .u8 v,.int .u8 20,.slice (some ⟨h,0,none⟩) 1 c,.slice none 0 0] 189)) (.cells #[.int .u8 0,.int .u8 0,.slice none 0 0,.slice none 0 0] 189);simpa using this
 obtain⟨x0,x1,x2,x3,_⟩:=uY k0;have HH:=hid (vd hh hb0);have HK:=hid (hk.pure hb0);have HB0:=hid hb0;have K0:=hid k0;have K1:=hid k1;clear hk hh hb0 k0 k1 hv h1 h2
 go_enter func219,ntmps219
 go_wp2_with fail
 rw[← hW0];refine(ve W0 HK.out v HV.out n HN.out.1 HN.out.2 h c HH.out).mono ?_;rintro e w1 ⟨rfl,hb1⟩;have HB1:=hid (HB0.out.trans (hb1.mono HB0.out.size));have HH1:=hid (vd HH.out hb1);have A1:=hid (uZ K0.out hb1);have E1:=hid (uZ K1.out hb1);clear hb1 x0 x1 x2 x3 hW0;obtain⟨x0,x1,x2,x3,_⟩:=uY A1.out;have d0:w1.drew.cell? ⟨w.heap.size,0,none⟩=_:=x0;have d1:w1.drew.cell? ⟨w.heap.size,1,none⟩=_:=x1;have d2:w1.drew.cell? ⟨w.heap.size,2,none⟩=_:=x2;have d3:w1.drew.cell? ⟨w.heap.size,3,none⟩=_:=x3;have hne:w.heap.size≠w1.heap.size:=by have:=lt_of_block A1.out;omega
 have HCL:=hid (λ(W:World) (hb:Below w1.heap.size w1 W)=>xX W h c n (vd HH1.out hb))
 conv=>arg 2;whnf
 go_upto_region 5 with fail
 go_cut [6] (λt wx=>yo w1 wx t v n)
 case first=>
  go_region_held3 (λw'=>w'.cell? ⟨w.heap.size,0,none⟩=some (.int .u8 v)∧w'.cell? ⟨w.heap.size,1,none⟩=some (.int .u8 20)∧w'.cell? ⟨w.heap.size,2,none⟩=some (.slice (some ⟨h,0,none⟩) 1 c)∧w'.cell? ⟨w.heap.size,3,none⟩=some (.slice none 0 0)) (first|with_reducible exact⟨x0,x1,x2,x3⟩|with_reducible exact⟨y0,y1,y2,y3⟩|with_reducible exact⟨d0,d1,d2,d3⟩|with_reducible exact⟨ym hne y0,ym hne y1,ym hne y2,ym hne y3⟩|go_keep) (first
   | (go_at_call 290;refine(yg _).mono ?_;rintro e w9 ⟨rfl,rfl⟩)
   | (go_at_call 289;refine(HCL.out _ (by first|exact(Below.refl _ _).drew|exact(Below.refl _ _).drew.alloc (by simp) _)).mono ?_;rintro e w5 ⟨⟨g,d,rfl,hg,hc⟩,hb5⟩;have BL:=Below.trans (show Below w1.heap.size w1 _ from(by first|exact(Below.refl _ _).drew|exact(Below.refl _ _).drew.alloc (by simp) _)) (hb5.mono (by simp));obtain⟨y0,y1,y2,y3,_⟩:=uY (uZ A1.out BL);have HBL:=hid BL;have HG5:=hid (show w1.heap.size≤g by first|exact hg|(simp at hg;omega));have HC5:=hid hc;(first|(have o5:w5.heap[w1.heap.size]?=some (.cells #[.int .u8 0,.int .u8 0,.slice none 0 0,.slice none 0 0] 189 (0,0)):=(hb5.block _ (by simp)).trans (heap_alloc_new w1.drew _);have HGO:=hid (show w1.heap.size<g by simp at hg;omega);obtain⟨z0,z1,z2,z3,zf⟩:=uY o5)|skip);clear hg hc hb5 BL))
  all_goals
   go_wp2_with fail
   go_meet
   first
    | with_reducible exact yr o5 HGO.out HC5.out HBL.out
    | with_reducible exact yq HG5.out HC5.out HBL.out
 case rest=>
  obtain⟨o,g,d,rfl,ho,hg,hgo,hot,hc,hbx⟩:=hcut;have HBX:=hid (HB1.out.trans (hbx.mono HB1.out.size));have HC:=hid hc;have HGW:=hid (show w.heap.size≤g∧w.heap.size+1<w1.heap.size∧w1.heap.size≤g from⟨Nat.le_trans HB1.out.size hg,lt_of_block E1.out,hg⟩);obtain⟨y0,y1,y2,y3,yf⟩:=uY ho;obtain⟨r0,r1,r2,r3,rf⟩:=uY (uZ E1.out hbx);have hlt:decide (v<v)=false:=by simp
  have hgt:decide (v > v)=false:=by simp
  clear x0 x1 x2 x3 d0 d1 d2 d3 hne ho hg hgo hot hc hbx
  go_wp2_with fail
  refine wp_loop_rounds 1 ?_;rw[rounds_succ]
  go_wp2_with fail
  refine wp_loop_rounds 1 ?_;rw[rounds_succ];go_wp2;refine bodyPost_ret (v:=.tuple #[uX v g d,.int .i64 0]) (by simp[results,results219,go_sem,r0,r1,r2,r3]) rfl ⟨⟨g,d,rfl,HGW.out.1,?_⟩,?_⟩
  ·exact ym (by have:=HGW.out;omega) HC.out
  ·exact HBX.out.trans ((yl _ _ _ _ _ _).below HBX.out.size (λk hk e=>by omega))
theorem yv (w:World)(hk:uL w)(m:Nat)(m1:1≤m)(m2:m≤100)(h c:Nat)(hh:w.cell? ⟨h,0,none⟩=some (.int .i64 (10*(m:Int)))) :
  Calls prog 219 #[uX 3 h c,.int .u8 1] w λe w'=>(∃g d,e = .returned (.tuple #[uX 1 g d,.int .i64 0])∧w.heap.size≤g∧w'.cell? ⟨g,0,none⟩=some (.int .i64 (m:Int)))∧Below w.heap.size w w':=by
 obtain⟨n,hn⟩:∃n:Int,n=10*(m:Int):=⟨_,rfl⟩;obtain⟨v,hv3⟩:∃v:Int,v=3:=⟨3,rfl⟩;rw[← hv3];have HV:=hid (show v=1∨v=2∨v=3 from .inr (.inr hv3));have HV3:=hid hv3;have HN:=hid (show 1≤n∧n≤1000 from by omega);have HNM:=hid hn;rw[← hn]at hh;obtain⟨W0,hW0⟩:∃W0,W0=(w.alloc (.cells #[.int .u8 v,.int .u8 20,.slice (some ⟨h,0,none⟩) 1 c,.slice none 0 0] 189)).alloc (.cells #[.int .u8 0,.int .u8 0,.slice none 0 0,.slice none 0 0] 189):=⟨_,rfl⟩;have hb0:Below w.heap.size w W0:=by rw[hW0];exact((Below.refl _ _).alloc (Nat.le_refl _) _).alloc (by simp) _
 have k0:W0.heap[w.heap.size]?=some (.cells #[.int .u8 v,.int .u8 20,.slice (some ⟨h,0,none⟩) 1 c,.slice none 0 0] 189 (0,0)):=by rw[hW0];exact(Below.heap_alloc _ _ _ (by simp)).trans (heap_alloc_new _ _)
 have k1:W0.heap[w.heap.size+1]?=some (.cells #[.int .u8 0,.int .u8 0,.slice none 0 0,.slice none 0 0] 189 (0,0)):=by
  rw[hW0];have:=heap_alloc_new (w.alloc (.cells #[.int .u8 v,.int .u8 20,.slice (some ⟨h,0,none⟩) 1 c,.slice none 0 0] 189)) (.cells #[.int .u8 0,.int .u8 0,.slice none 0 0,.slice none 0 0] 189);simpa using this
 obtain⟨x0,x1,x2,x3,_⟩:=uY k0;have HH:=hid (vd hh hb0);have HK:=hid (hk.pure hb0);have HB0:=hid hb0;have K0:=hid k0;have K1:=hid k1;clear hk hh hb0 k0 k1 hn hv3
 go_enter func219,ntmps219
 go_wp2_with fail
 rw[← hW0];refine(ve W0 HK.out v HV.out n HN.out.1 HN.out.2 h c HH.out).mono ?_;rintro e w1 ⟨rfl,hb1⟩;have HB1:=hid (HB0.out.trans (hb1.mono HB0.out.size));have HH1:=hid (vd HH.out hb1);have A1:=hid (uZ K0.out hb1);have E1:=hid (uZ K1.out hb1);have HBW:=hid hb1;clear hb1 x0 x1 x2 x3 hW0;obtain⟨x0,x1,x2,x3,_⟩:=uY A1.out;have d0:w1.drew.cell? ⟨w.heap.size,0,none⟩=_:=x0;have d1:w1.drew.cell? ⟨w.heap.size,1,none⟩=_:=x1;have d2:w1.drew.cell? ⟨w.heap.size,2,none⟩=_:=x2;have d3:w1.drew.cell? ⟨w.heap.size,3,none⟩=_:=x3;have hne:w.heap.size≠w1.heap.size:=by have:=lt_of_block A1.out;omega
 have HCL:=hid (λ(W:World) (hb:Below w1.heap.size w1 W)=>xX W h c n (vd HH1.out hb))
 conv=>arg 2;whnf
 go_upto_region 5 with fail
 go_cut [6] (λt wx=>yo w1 wx t v n)
 case first=>
  go_region_held3 (λw'=>w'.cell? ⟨w.heap.size,0,none⟩=some (.int .u8 v)∧w'.cell? ⟨w.heap.size,1,none⟩=some (.int .u8 20)∧w'.cell? ⟨w.heap.size,2,none⟩=some (.slice (some ⟨h,0,none⟩) 1 c)∧w'.cell? ⟨w.heap.size,3,none⟩=some (.slice none 0 0)) (first|with_reducible exact⟨x0,x1,x2,x3⟩|with_reducible exact⟨y0,y1,y2,y3⟩|with_reducible exact⟨d0,d1,d2,d3⟩|with_reducible exact⟨ym hne y0,ym hne y1,ym hne y2,ym hne y3⟩|go_keep) (first
   | (go_at_call 290;refine(yg _).mono ?_;rintro e w9 ⟨rfl,rfl⟩)
   | (go_at_call 289;refine(HCL.out _ (by first|exact(Below.refl _ _).drew|exact(Below.refl _ _).drew.alloc (by simp) _)).mono ?_;rintro e w5 ⟨⟨g,d,rfl,hg,hc⟩,hb5⟩;have BL:=Below.trans (show Below w1.heap.size w1 _ from(by first|exact(Below.refl _ _).drew|exact(Below.refl _ _).drew.alloc (by simp) _)) (hb5.mono (by simp));obtain⟨y0,y1,y2,y3,_⟩:=uY (uZ A1.out BL);have HBL:=hid BL;have HG5:=hid (show w1.heap.size≤g by first|exact hg|(simp at hg;omega));have HC5:=hid hc;(first|(have o5:w5.heap[w1.heap.size]?=some (.cells #[.int .u8 0,.int .u8 0,.slice none 0 0,.slice none 0 0] 189 (0,0)):=(hb5.block _ (by simp)).trans (heap_alloc_new w1.drew _);have HGO:=hid (show w1.heap.size<g by simp at hg;omega);obtain⟨z0,z1,z2,z3,zf⟩:=uY o5)|skip);clear hg hc hb5 BL))
  all_goals
   go_wp2_with fail
   go_meet
   first
    | with_reducible exact yr o5 HGO.out HC5.out HBL.out
    | with_reducible exact yq HG5.out HC5.out HBL.out
 case rest=>
  obtain⟨o,g,d,rfl,ho,hg,hgo,hot,hc,hbx⟩:=hcut;obtain rfl:v=3:=HV3.out;have HBX:=hid (HB1.out.trans (hbx.mono HB1.out.size));have HC:=hid hc;have HGW:=hid (show w.heap.size≤g∧w.heap.size+1<w1.heap.size∧w1.heap.size≤g from⟨Nat.le_trans HB1.out.size hg,lt_of_block E1.out,hg⟩);have HO:=hid ho;have HE:=hid (uZ E1.out hbx);have HKX:=hid ((HK.out.pure (show Below W0.heap.size W0 w1 from HBW.out)).pure hbx);have HOT:=hid (And.intro hot hgo);obtain⟨y0,y1,y2,y3,yf⟩:=uY ho;have HOS:=hid (lt_of_block ho);clear x0 x1 x2 x3 d0 d1 d2 d3 hne ho hg hgo hot hc hbx
  go_wp2_with fail
  refine wp_loop_rounds 1 ?_;rw[rounds_succ]
  go_wp2_with fail
  refine wp_loop_rounds 3 ?_;rw[rounds_succ]
  go_wp2_with fail
  refine(yj wc HKX.out m m1 m2 g d (by rw[← HNM.out];exact HC.out)).mono ?_;rintro e wd ⟨⟨g2,d2,rfl,hg2,hc2⟩,hbd⟩;obtain⟨z0,z1,z2,z3,zf⟩:=uY (uZ HO.out hbd);have HO2:=hid (uZ HO.out hbd);have HE2:=hid (uZ HE.out hbd);have HK2:=hid (HKX.out.pure hbd);have HB2:=hid (HBX.out.trans (hbd.mono HBX.out.size));have HC2:=hid hc2;have hxs:=HBX.out.size;have HG2:=hid hg2;clear y0 y1 y2 y3 yf hbd hc2 hg2
  go_wp2_with fail
  generalize hW4:(((wd.setCell _ _).setCell _ _).setCell _ _).setCell _ _=W4
  have hf4:Fr (λk=>k=o) wd W4:=by rw[← hW4];exact yl _ _ _ _ _ _
  have HO4:=hid (show W4.heap[o]?=some (.cells #[.int .u8 2,.int .u8 20,.slice (some ⟨g2,0,none⟩) 1 d2,.slice none 0 0] 189 (0,0))from by rw[← hW4];exact yn _ _ _ _ HO2.out);have HE4:=hid (hf4.heapAt HE2.out (by have:=HOT.out;have:=HGW.out;omega));have HK4:=hid (HK2.out.kept hf4 (by have:=HK.out.lt;have:=HBW.out.size;have:=HOT.out;omega));have HC4:=hid (hf4.cellAt HC2.out (by have:=HG2.out;have:=HOS.out;omega));have HB4:=hid (HB2.out.trans (hf4.below HB2.out.size (λk hk e=>by have:=HOT.out;have:=HGW.out;omega)));clear z0 z1 z2 z3 zf hW4 hf4;obtain⟨y0,y1,y2,y3,yf⟩:=uY HO4.out;rw[rounds_succ]
  go_wp2_with fail
  refine(yk W4 HK4.out m m1 m2 g2 d2 HC4.out).mono ?_;rintro e we ⟨⟨g3,d3,rfl,hg3,hc3⟩,hbe⟩;have hxs4:=HB4.out.size;obtain⟨z0,z1,z2,z3,zf⟩:=uY (uZ HO4.out hbe);have HO5:=hid (uZ HO4.out hbe);have HE5:=hid (uZ HE4.out hbe);have HB5:=hid (HB4.out.trans (hbe.mono HB4.out.size));have HC5:=hid hc3;have HG3:=hid hg3;have HOS4:=hid (lt_of_block HO4.out);clear y0 y1 y2 y3 yf hbe hc3 hg3
  go_wp2_with fail
  generalize hW6:(((we.setCell _ _).setCell _ _).setCell _ _).setCell _ _=W6
  have hf6:Fr (λk=>k=o) we W6:=by rw[← hW6];exact yl _ _ _ _ _ _
  have HO6:=hid (show W6.heap[o]?=some (.cells #[.int .u8 1,.int .u8 20,.slice (some ⟨g3,0,none⟩) 1 d3,.slice none 0 0] 189 (0,0))from by rw[← hW6];exact yn _ _ _ _ HO5.out);have he6:=hf6.heapAt HE5.out (by have:=HOT.out;have:=HGW.out;omega);have HC6:=hid (hf6.cellAt HC5.out (by have:=HG3.out;have:=HOS4.out;omega));have HB6:=hid (HB5.out.trans (hf6.below HB5.out.size (λk hk e=>by have:=HOT.out;have:=HGW.out;omega)));clear z0 z1 z2 z3 zf hW6 hf6;obtain⟨y0,y1,y2,y3,yf⟩:=uY HO6.out;obtain⟨r0,r1,r2,r3,rf⟩:=uY he6;rw[rounds_succ];go_wp2;refine bodyPost_ret (v:=.tuple #[uX 1 g3 d3,.int .i64 0]) (by simp[results,results219,go_sem,r0,r1,r2,r3]) rfl ⟨⟨g3,d3,rfl,?_,?_⟩,?_⟩
  ·have:=HG3.out;omega
  ·exact ym (by have:=HG3.out;have:=HGW.out;have:=HOT.out;have:=HOS4.out;omega) HC6.out
  ·exact HB6.out.trans ((yl _ _ _ _ _ _).below HB6.out.size (λk hk e=>by omega))
end
end Go.Proofs.YthjjgcfdhkhelaaGreatDoor
