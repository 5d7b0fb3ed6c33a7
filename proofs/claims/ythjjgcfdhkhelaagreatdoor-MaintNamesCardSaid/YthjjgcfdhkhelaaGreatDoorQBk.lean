/- schema's kinds, out of what the row lists. -/
import Derived.Test.YthjjgcfdhkhelaaGreatDoorQBd
import Derived.Test.YthjjgcfdhkhelaaGreatDoorQBh
import Derived.Test.YthjjgcfdhkhelaaGreatDoorRows
import Derived.Lib.LaidTab
set_option maxHeartbeats 4000000
set_option maxRecDepth 100000
open Go.Lib(hid)
open Go.Proofs.Tryz
namespace Go.Proofs.YthjjgcfdhkhelaaGreatDoor
section
open Go.RowKit Go.Shelf
theorem wW {s:List UInt8}(h:(mt s).2.2=0):bL (mt s).1 (mt s).2.1=true:=by
 unfold mt at h ⊢
 split at h
 ·simp at h
 ·split at h
  ·rename_i h1 h2
   rw[if_neg h1,if_pos h2];cases hp:gD (s.take (s.length-4))with
   | none=>rw[hp]at h;simp at h
   | some q=>
    obtain⟨g,l⟩:=q;exact(im hp).1
  ·simp at h
theorem wX {st:cZ}(h:(mz st).2.2=0):bL (mz st).1 (mz st).2.1=true∧(cM st.fs jh).isSome=true:=by
 unfold mz at h ⊢
 split at h
 ·rename_i h1;exact absurd h h1
 ·rename_i h1
  rw[if_neg h1];refine⟨wW h,?_⟩;have h2:(eI st jh).2=0:=by simpa using h1
  unfold eI at h2
  split at h2
  ·simp at h2
  ·cases hg:cM st.fs jh with
   | none=>rw[hg]at h2;simp at h2
   | some f=>rfl
theorem wY {W:World}{g p:Nat}{c:Cfg}{gen:Int}{sv:Value}{segs:bI}(hc:W.heap[g]?=some (.cells #[.pointer (some ⟨p,0,none⟩),.int .i64 c.ss,.int .i64 c.ev,.int .u8 c.v,.int .i64 gen,sv,.slice none 0 0] 104 (0,0)))
  (hs:gO W sv segs) (hne:sv.ownBlock≠some g):sX W (λk=>k=g∨sv.ownBlock=some k) g p ⟨c,gen,segs,[]⟩:=by
 refine⟨sv,.slice none 0 0,[],λk=>k=g,⟨hc,hs.at,λk hk e=>hne (by rw[hk,e]),World.ownsRow_nil _ _ _ _,rfl,λi h=>absurd h (Nat.not_lt_zero _),rfl,λk hk=>(by cases hk),λx hx=>(by simp at hx),List.Pairwise.nil,λk hk=>(by rw[hk];exact lt_of_block hc)⟩,λk hk=>.inl hk,λk hk=>.inr hk,?_⟩;rintro k (rfl|hk)
 ·exact lt_of_block hc
 ·exact sT hs hk
structure OpRow (f:FnV) (g q:Nat) (w:World) (base:Nat) (v:Value) (rs:List Nat):Prop where
 own:w.ownsRow base 93 1 v (rs.length+2) ((wK f g q rs).map sC)
 box:∀i (h:i<rs.length),w.cell? ⟨rs[i],0,none⟩=some (.int .i64 (i:Int))
 apart:∀i (h:i<rs.length),base≤rs[i]∧v.ownBlock≠some rs[i]
theorem OpRow.pure {f:FnV}{g q:Nat}{w w':World}{base:Nat}{v:Value}{rs:List Nat}(h:OpRow f g q w base v rs)(hb:Below w.heap.size w w'):OpRow f g q w' base v rs:=
 ⟨(Fr.pure (S:=λ_=>False) hb).ownsRow h.own (λ_ _ h=>h),λi hi=>(hb.cell (p:=⟨rs[i],0,none⟩) (aw (h.box i hi))).trans (h.box i hi),h.apart⟩
theorem wZ (f:FnV)(g q:Nat)(rs:List Nat)(r:Nat):(wK f g q (rs++[r])).map sC=(wK f g q rs).map sC++[.func (.func 74) #[] #[.pointer (some ⟨q,0,none⟩),.pointer (some ⟨r,0,none⟩)]]:=by
 unfold wK sC;simp
theorem OpRow.more {f:FnV}{g q:Nat}{w w8:World}{base:Nat}{v:Value}{rs:List Nat}(h:OpRow f g q w base v rs)(hb:base≤w.heap.size){o:Obj}{gg n cap:Nat}
  (hg:((w.alloc (.cells #[.int .i64 (rs.length:Int)] 3)).alloc o).grownBy w8 v.ownBlock) (hn:n=rs.length+1+2)
  (hown:w8.ownsRow base 93 1 (.slice (some ⟨gg,0,none⟩) n cap) n ((wK f g q rs).map sC++[.func (.func 74) #[] #[.pointer (some ⟨q,0,none⟩),.pointer (some ⟨w.heap.size,0,none⟩)]]))
  (hat:v.ownBlock=some gg∨gg=w.heap.size+1+1):OpRow f g q w8 base (.slice (some ⟨gg,0,none⟩) n cap) (rs++[w.heap.size]):=by
 have hb2:Below w.heap.size w ((w.alloc (.cells #[.int .i64 (rs.length:Int)] 3)).alloc o):=ek _ _ _;have hvl:∀k,v.ownBlock=some k→k<w.heap.size:=λk hk=>sT h.own hk;have up:∀k u,w.cell? ⟨k,0,none⟩=some u→v.ownBlock≠some k→w8.cell? ⟨k,0,none⟩=some u:=λk u hc hne=>by
  have h1:=(hb2.cell (p:=⟨k,0,none⟩) (aw hc)).trans hc;exact(World.cell?_of_block (hg.block k (aw h1) (λe=>hne e.symm))).trans h1
 refine⟨?_,λi hi=>?_,λi hi=>?_⟩
 ·rw[wZ,List.length_append,List.length_singleton,← hn];exact hown
 ·by_cases hc:i<rs.length
  ·rw[List.getElem_append_left hc];exact up _ _ (h.box i hc) (h.apart i hc).2
  ·obtain rfl:i=rs.length:=by simp at hi;omega
   rw[List.getElem_append_right (Nat.le_refl _)];simp only[Nat.sub_self,List.getElem_singleton];have h1:((w.alloc (.cells #[.int .i64 (rs.length:Int)] 3)).alloc o).cell? ⟨w.heap.size,0,none⟩=some (.int .i64 (rs.length:Int)):=by
    rw[World.cell?_alloc_past _ _ _ (by simp),World.cell?_alloc_at _ _ _ _ rfl];rfl
   exact(World.cell?_of_block (hg.block w.heap.size (by simp;omega) (λe=>by have:=hvl _ e.symm;omega))).trans h1
 ·by_cases hc:i<rs.length
  ·rw[List.getElem_append_left hc]
   have h1:=aw (h.box i hc);refine⟨(h.apart i hc).1,λe=>?_⟩;have e2:gg=rs[i]:=Option.some.inj e
   rcases hat with h8|h8
   ·exact(h.apart i hc).2 (by rw[h8,e2])
   ·omega
  ·obtain rfl:i=rs.length:=by simp at hi;omega
   rw[List.getElem_append_right (Nat.le_refl _)];simp only[Nat.sub_self,List.getElem_singleton];refine⟨hb,λe=>?_⟩;have e2:gg=w.heap.size:=Option.some.inj e
   rcases hat with h8|h8
   ·have:=hvl _ h8;omega
   ·omega
theorem OpRow.at {f:FnV}{g q:Nat}{w:World}{base:Nat}{v:Value}{rs:List Nat}(h:OpRow f g q w base v rs) :
  ∃bb c,v = .slice (some ⟨bb,0,none⟩) (rs.length+2) c∧base≤bb∧∀i (hi:i<(wK f g q rs).length),w.cell? ⟨bb,0+i,none⟩=some (sC (wK f g q rs)[i]):=by
 obtain⟨_,⟨_,h1⟩|⟨b,c,cur,rfl,hg,hb,hc1,_,hc3,hc4⟩⟩:=h.own
 ·omega
 ·refine⟨b,c,rfl,hg,λi hi=>?_⟩
  rw[wQ]at hi;rw[Nat.zero_add,cell_of_row _ _ _ _ _ _ hb];have hh:(cur.toList.take ((rs.length+2)*1))[i]?=((wK f g q rs).map sC)[i]?:=by rw[hc4]
  rw[List.getElem?_take_of_lt (by omega),List.getElem?_map,List.getElem?_eq_getElem (l:=wK f g q rs) (by rw[wQ];omega)]at hh;simpa[hc3]using hh
theorem xa {W0 W:World}{g k:Nat}{v:Value}(h:W.cell? ⟨g,k,none⟩=some v∧Below W0.heap.size W0 W):W.drew.cell? ⟨g,k,none⟩=some v∧Below W0.heap.size W0 W.drew:=⟨h.1,h.2.drew⟩
theorem xb {W0 W:World}{g k:Nat}{v:Value}(h:W.cell? ⟨g,k,none⟩=some v∧Below W0.heap.size W0 W)(o:Obj):(W.alloc o).cell? ⟨g,k,none⟩=some v∧Below W0.heap.size W0 (W.alloc o):=
 ⟨by rw[World.cell?_alloc_past _ _ _ (aw h.1)];exact h.1,h.2.alloc h.2.size o⟩
theorem xc {W0 W W':World}{g k:Nat}{v:Value}(h:W.cell? ⟨g,k,none⟩=some v∧Below W0.heap.size W0 W)(hb:Below W.heap.size W W'):W'.cell? ⟨g,k,none⟩=some v∧Below W0.heap.size W0 W':=
 ⟨(hb.cell (aw h.1)).trans h.1,h.2.trans (hb.mono h.2.size)⟩
theorem xd (w:World)(p b:Nat)(st:cZ)(hd:db w p b st)(c:Cfg)(h0:0≤c.v)(h1:c.v≤255)(hc:kN c=false) :
  Calls prog 21 #[.pointer (some ⟨p,0,none⟩),.agg #[.int .i64 c.ss,.int .i64 c.ev,.int .u8 c.v]] w λe w'=>tC p b (mD st c) w e w':=by
 have ho:mD st c=(st,1,none):=by unfold mD;rw[if_pos hc]
 have HD:=hid hd;have HC:=hid hc;have HO:=hid ho;have hb1:Below w.heap.size w (w.alloc (.cells #[.int .i64 c.ss,.int .i64 c.ev,.int .u8 c.v] 24)):=(Below.refl _ _).alloc (Nat.le_refl _) _;have HB:=hid hb1;clear hd hc ho hb1
 go_enter func21,ntmps21
 go_wp2_with (go_at_call 33;refine(th _ c h0 h1).mono ?_;rintro e w2 ⟨rfl,hb2⟩;rw[HC.out];have HB2:=hid (HB.out.trans (hb2.mono HB.out.size));clear hb2)
 refine bodyPost_ret (v:=.tuple #[.pointer none,.int .i64 1]) (by simp[results,results21,go_sem]) rfl ?_;rw[HO.out];exact⟨HD.out.pure HB2.out,Fr.pure HB2.out,rfl⟩
theorem xe (w:World)(hl:vN w)(p b:Nat)(st:cZ)(hd:db w p b st)(hlb:¬vO p∧¬vO b)(hne:∀f∈st.fs,1≤f.name.length)(c:Cfg)(h0:0≤c.v)(h1:c.v≤255)(hc:kN c=true) :
  Calls prog 21 #[.pointer (some ⟨p,0,none⟩),.agg #[.int .i64 c.ss,.int .i64 c.ev,.int .u8 c.v]] w λe w'=>tC p b (mD st c) w e w':=by
 have HD:=hid hd;have HC:=hid hc;have HL:=hid hl;have HNE:=hid hne;have HLB:=hid hlb;have hpl:=hd.lt;have hbl:=hd.own.lt;obtain⟨w1,hw1⟩:∃w1,w1=w.alloc (.cells #[.int .i64 c.ss,.int .i64 c.ev,.int .u8 c.v] 24):=⟨_,rfl⟩;have hb1:Below w.heap.size w w1:=by rw[hw1];exact(Below.refl _ _).alloc (Nat.le_refl _) _
 have hk:w1.heap[w.heap.size]?=some (.cells #[.int .i64 c.ss,.int .i64 c.ev,.int .u8 c.v] 24 (0,0)):=by rw[hw1];exact heap_alloc_new _ _
 have k0:w1.cell? ⟨w.heap.size,0,none⟩=some (.int .i64 c.ss):=(cell_of_row _ _ _ _ _ _ hk).trans rfl;have k1:w1.cell? ⟨w.heap.size,1,none⟩=some (.int .i64 c.ev):=(cell_of_row _ _ _ _ _ _ hk).trans rfl;have k2:w1.cell? ⟨w.heap.size,2,none⟩=some (.int .u8 c.v):=(cell_of_row _ _ _ _ _ _ hk).trans rfl;have HB1:=hid hb1;clear hd hc hl hne hlb hb1 hk;have hmf:∀(fn:Fn) (first cap:Array Value) (w:World),(Instr.makeFunc fn first cap).run prog w = .ok (.func fn first cap) w:=λ_ _ _ _=>rfl
 go_enter func21,ntmps21
 go_wp2_with (go_at_call 33;rw[← hw1];clear hw1;refine(th _ c h0 h1).mono ?_;rintro e w2 ⟨rfl,hb2⟩;rw[HC.out];have HB2:=hid (HB1.out.trans (hb2.mono HB1.out.size));have k0:=(hb2.cell (p:=⟨w.heap.size,0,none⟩) (aw k0)).trans k0;have k1:=(hb2.cell (p:=⟨w.heap.size,1,none⟩) (aw k1)).trans k1;have k2:=(hb2.cell (p:=⟨w.heap.size,2,none⟩) (aw k2)).trans k2;clear hb2)
 refine(mC w2 p b st (HD.out.pure HB2.out)).mono ?_;rintro e w3 ⟨hb3,sv,rfl,hown,hvb⟩;have HB3:=hid (HB2.out.trans (hb3.mono HB2.out.size));have k0:=(hb3.cell (p:=⟨w.heap.size,0,none⟩) (aw k0)).trans k0;have k1:=(hb3.cell (p:=⟨w.heap.size,1,none⟩) (aw k1)).trans k1;have k2:=(hb3.cell (p:=⟨w.heap.size,2,none⟩) (aw k2)).trans k2;have HOWN:=hid hown;have HVB:=hid (show ∀j,sv.ownBlock=some j→w.heap.size≤j from λj h=>Nat.le_trans HB2.out.size (hvb j h));clear hb3 hown hvb;obtain⟨sa,sn,sc,rfl⟩:=aB HOWN.out;by_cases hz:(mz st).2.2=0;rotate_left
 ·have ho:mD st c=(st,(mz st).2.2,none):=by unfold mD;rw[if_neg (by rw[HC.out];decide),if_pos hz]
  have HO:=hid ho;have hzb:((mz st).2.2 == 0)=false:=by simpa using hz
  have hzn:((mz st).2.2 != 0)=true:=by simpa using hz
  clear ho
  generalize (mz st).2.2=E at *
  go_wp2;refine bodyPost_ret (v:=.tuple #[.pointer none,.int .i64 E]) (by simp[results,results21,go_sem]) rfl ?_;rw[HO.out];have hbn:=(Below.refl w3.heap.size w3).alloc (Nat.le_refl _) (.cells #[.int .i64 (mz st).1,.slice sa sn sc] 42);exact⟨HD.out.pure (HB3.out.trans (hbn.mono HB3.out.size)),Fr.pure (HB3.out.trans (hbn.mono HB3.out.size)),rfl⟩
 ·obtain⟨hmay,hfile⟩:=wX hz
  have HMAY:=hid hmay;have HFILE:=hid hfile;obtain⟨gen,hgen⟩:∃g,g=(mz st).1:=⟨_,rfl⟩;obtain⟨segs,hsegs⟩:∃s,s=(mz st).2.1:=⟨_,rfl⟩;have hlen:segs.length≤64:=by rw[hsegs];exact(gm hmay).2.2.2.1
  have ho:mD st c=if (kT (li segs.length) (st,(⟨c,gen,segs,[]⟩:kR))).2≠0 then ((kT (li segs.length) (st,(⟨c,gen,segs,[]⟩:kR))).1.1,(kT (li segs.length) (st,(⟨c,gen,segs,[]⟩:kR))).2,none)
    else ((kT (li segs.length) (st,(⟨c,gen,segs,[]⟩:kR))).1.1,0,some (kT (li segs.length) (st,(⟨c,gen,segs,[]⟩:kR))).1.2):=by
   unfold mD;rw[if_neg (by rw[HC.out];decide),if_neg (by rw[hz];decide),hgen,hsegs]
  have HO:=hid ho;rw[hz];rw[← hgen];rw[← hgen,← hsegs]at HMAY;rw[← hsegs]at HOWN;clear ho hgen hsegs hmay hfile hz;obtain rfl:sn=segs.length:=by obtain⟨a',c',e,_⟩:=HOWN.out.at;cases e;rfl
  have hlt3:w.heap.size<w3.heap.size:=aw k0
  go_wp2_with fail
  obtain⟨W,hW⟩:∃W,W=((w3.alloc (.cells #[.int .i64 gen,.slice sa segs.length sc] 42)).alloc (.cells #[.pointer (some ⟨p,0,none⟩),.int .i64 c.ss,.int .i64 c.ev,.int .u8 c.v,.int .i64 gen,.slice sa segs.length sc,.slice none 0 0] 104)).alloc (.cells #[.pointer (some ⟨w3.heap.size+1,0,none⟩)] 25):=⟨_,rfl⟩;obtain⟨mb,hmb⟩:∃mb,mb=w3.heap.size:=⟨_,rfl⟩;have hWs:W.heap.size=mb+3:=by rw[hW,hmb];simp
  have hbW:Below w3.heap.size w3 W:=by rw[hW];exact((Below.refl _ _).alloc (Nat.le_refl _) _).alloc (by simp) _ |>.alloc (by simp;omega) _
  have hgc:W.heap[mb+1]?=some (.cells #[.pointer (some ⟨p,0,none⟩),.int .i64 c.ss,.int .i64 c.ev,.int .u8 c.v,.int .i64 gen,.slice sa segs.length sc,.slice none 0 0] 104 (0,0)):=by
   rw[hW,hmb];exact(Below.heap_alloc _ _ _ (by simp)).trans (fm _ _ (by simp))
  have hmc:W.heap[mb]?=some (.cells #[.int .i64 gen,.slice sa segs.length sc] 42 (0,0)):=by
   rw[hW,hmb];exact(Below.heap_alloc _ _ _ (by simp;omega)).trans ((Below.heap_alloc _ _ _ (by simp)).trans (heap_alloc_new _ _))
  have hqc:W.cell? ⟨mb+1+1,0,none⟩=some (.pointer (some ⟨mb+1,0,none⟩)):=by
   rw[hW,hmb,World.cell?_alloc_at _ _ _ _ (by simp)];rfl
  rw[← hW,← hmb];have HBW:=hid (HB3.out.trans (hbW.mono HB3.out.size));have HOW:=hid (show gO W (.slice sa segs.length sc) segs from(Fr.pure (S:=λ_=>False) hbW).ownsRow HOWN.out (λ_ _ h=>h));have HGC:=hid hgc;have HMC:=hid hmc;have HSB:=hid (show ∀k,(Value.slice sa segs.length sc).ownBlock=some k→k<mb from λk hk=>by rw[hmb];exact sT HOWN.out hk);have hmw:w.heap.size<mb:=by rw[hmb];exact hlt3
  clear hW hmb hbW hgc hmc hlt3 k0 k1 k2
  go_region_held3 (λw'=>w'.cell? ⟨mb+1+1,0,none⟩=some (.pointer (some ⟨mb+1,0,none⟩))∧Below W.heap.size W w') (first|exact xS|exact⟨hqc,(Below.refl _ _).drew⟩|exact xb (by assumption) _|exact xa (by assumption)|fail) (first
   | (go_at_call 36;have hh:=‹_∧Below W.heap.size W _›;have hsz5:=hh.2.size;refine(sE _ p ⟨#[77,65,78,73,70,69,83,84,46,110,101,119]⟩ (by decide) (by omega) b (by omega)).mono ?_;rintro e w5 ⟨f,K5,rfl,hb5,hst,hk5⟩;have xS:=xc hh hb5;have HST:=hid hst;have HK5:=hid (λk hk=>Nat.le_trans hsz5 (hk5 k hk));clear hst hk5 hb5 hsz5))
  all_goals
   have hh:=‹_∧Below W.heap.size W _›;obtain⟨w6,hw6⟩:∃w6,w6=w5.alloc (.cells #[sC f,.func (.func 73) #[.pointer (some ⟨mb+1,0,none⟩)] #[]] 93):=⟨_,rfl⟩;obtain⟨rb,hrb⟩:∃rb,rb=w5.heap.size:=⟨_,rfl⟩;have hb56:Below w5.heap.size w5 w6:=by rw[hw6];exact(Below.refl _ _).alloc (Nat.le_refl _) _
   have hrow6:OpRow f (mb+1) (mb+1+1) w6 rb (.slice (some ⟨rb,0,none⟩) 2 2) []:=⟨by
    rw[hw6,hrb];exact World.ownsRow_lit (size:=1) w5 #[sC f,.func (.func 73) #[.pointer (some ⟨mb+1,0,none⟩)] #[]] 2 (Nat.le_refl _) (by decide) rfl,λi h=>absurd h (Nat.not_lt_zero _),λi h=>absurd h (Nat.not_lt_zero _)⟩
   have hw6s:w6.heap.size=rb+1:=by rw[hw6,hrb];simp
   have hWrb:W.heap.size≤rb:=by rw[hrb];first|exact xS.2.size|exact ‹_∧Below W.heap.size W w5›.2.size
   have HKL:=hid (show ∀k,K5 k→k<rb from λk hk=>by rw[hrb];exact(HST.out.lt k hk).1);rw[← hw6]at hh ⊢;rw[← hrb];have HROW:=hid hrow6;have HST6:=hid (HST.out.pure hb56);have HH:=hid hh;clear hw6 hrb hb56 hrow6 HST hh;have HM0:=hid ((cell_of_row _ _ 0 _ _ _ HMC.out).trans (show(#[.int .i64 gen,.slice sa segs.length sc]:Array Value)[0]?=_ from rfl));have hm1:=(HH.out.2.cell (p:=⟨mb,1,none⟩) (show mb<W.heap.size by omega)).trans ((cell_of_row _ _ 1 _ _ _ HMC.out).trans (show(#[.int .i64 gen,.slice sa segs.length sc]:Array Value)[1]?=some (.slice sa segs.length sc)from rfl))
   go_wp2_with fail
   go_loopw [9,41] (λlv i wr=>∃(k:Nat) (rs:List Nat),i = .int .i64 (k:Int)∧k≤segs.length∧rs.length=k∧Hid (OpRow f (mb+1) (mb+1+1) wr rb lv rs)∧Hid (Below rb w6 wr)) (λ_ i _=>segs.length-(intOf i).toNat)
   case atStart=>exact⟨0,[],rfl,by omega,rfl,HROW,hid (Below.refl _ _)⟩
   case round=>
    obtain⟨k,rs,rfl,hk,hrl,HR,HB6⟩:=hrel;subst hrl;have hs6:=HH.out.2.size;have hsr:=HB6.out.size;obtain⟨a0,n0,c0,rfl⟩:=aB HR.out.own;by_cases hlt:rs.length<segs.length
    ·have HO6:=hid (World.ownsRow.alloc (World.ownsRow.alloc (HR.out.own:wr.ownsRow rb 93 1 (.slice a0 n0 c0) (rs.length+2) ((wK f (mb+1) (mb+1+1) rs).map sC)) (.cells #[.int .i64 (rs.length:Int)] 3)) (.cells #[.func (.func 74) #[] #[.pointer (some ⟨mb+1+1,0,none⟩),.pointer (some ⟨wr.heap.size,0,none⟩)]] 93))
     obtain⟨i0,hi,hz0,hz1,hz2⟩:=info_parts Tryz.infoStep;have HI:=hid hi;have HZ0:=hid hz0;have HZ1:=hid hz1;have HZ2:=hid hz2;clear hi hz0 hz1 hz2
     go_wp2_with (first
      | (refine wpList_append_lies _ rfl _ _ 90 rfl rb 93 i0 _ 1 8 underlying90 HI.out HZ0.out HZ1.out HZ2.out rfl (by omega) _ (rs.length+2) _ rfl HO6.out ⟨wr.heap.size+1,0,none⟩ 1 1 [.func (.func 74) #[] #[.pointer (some ⟨mb+1+1,0,none⟩),.pointer (some ⟨wr.heap.size,0,none⟩)]] rfl rfl (aC rfl (by simp)) (by simp[Value.oneCell']) (by omega) (by unfold maxLen;omega) (by omega) (by simp;omega) (wr.heap.size+1+1) (by simp) ?_;intro gg cap w8 hown8 hgrow8 hat8 hlt8))
     have hb8:Below rb w6 w8:=((HB6.out.alloc (by omega) (.cells #[.int .i64 (rs.length:Int)] 3)).alloc (by simp;omega) (.cells #[.func (.func 74) #[] #[.pointer (some ⟨mb+1+1,0,none⟩),.pointer (some ⟨wr.heap.size,0,none⟩)]] 93)).grown hgrow8 (by simp;omega) (λj e=>gt HR.out.own (by exact e));refine⟨⟨rs.length+1,rs++[wr.heap.size],by go_num,by omega,by simp,hid (HR.out.more (by omega) hgrow8 (by omega) hown8 (hat8.imp id λe=>by simpa using e)),hid hb8⟩,?_⟩;simp[intOf];omega
    ·have hrs:rs.length=segs.length:=by omega
     obtain⟨bb,cc,hlv,hbb,hrowc⟩:=HR.out.at;cases hlv;obtain⟨l0,hl0⟩:∃l0:kR,l0=⟨c,gen,segs,[]⟩:=⟨_,rfl⟩;have hbr:Below W.heap.size W wr:=HH.out.2.trans (HB6.out.mono hWrb);have HBR:=hid (HBW.out.trans (hbr.mono HBW.out.size));have hF:∀k,(k=mb+1∨(Value.slice sa segs.length sc).ownBlock=some k)→w.heap.size≤k∧k<mb+2:=λk hk=>by
      rcases hk with rfl|hk
      ·omega
      ·have h1:=HSB.out k hk;have h2:=HVB.out k hk;omega
     have hE:wn wr (λk=>k=mb+1∨(Value.slice sa segs.length sc).ownBlock=some k) (mb+1) p b st l0:=by
      rw[hl0];exact⟨(wY HGC.out HOW.out (λe=>by have:=HSB.out _ e;omega)).pure hbr,HD.out.pure HBR.out,HL.out.pure HBR.out,HMAY.out,HC.out,λk hk=>by
       have:=hF k hk;exact⟨by omega,by omega,λe=>by have:=HL.out.lt k e;omega⟩,HLB.out⟩
     have hfg:sA p b wr K5 f (kU jg):=HST6.out.keep hsr (λk hk=>HB6.out.block k (HKL.out k hk));have hnew:∀k,mb+2≤k→¬(k=mb+1∨(Value.slice sa segs.length sc).ownBlock=some k)∧k≠p∧k≠b:=λk hk=>⟨λe=>by have:=hF k e;omega,by omega,by omega⟩;have hq9:wr.cell? ⟨mb+1+1,0,none⟩=some (.pointer (some ⟨mb+1,0,none⟩)):=(hbr.cell (p:=⟨mb+1+1,0,none⟩) (show mb+1+1<W.heap.size by omega)).trans hqc;have hall:=wT wr (λk=>k=mb+1∨(Value.slice sa segs.length sc).ownBlock=some k) (mb+1) p b st l0 hE (by rw[hl0]) HFILE.out HNE.out f K5 hfg (λk hk=>(hnew k (by have:=HK5.out k hk;omega)).1) (mb+1+1) hq9 (hnew _ (by omega)) rs (by rw[hl0];exact hrs)
      (λi h=>⟨HR.out.box i h,hnew _ (by have:=(HR.out.apart i h).1;omega)⟩) bb c0 (hnew _ (by omega)) hrowc
     have HALL:=hid hall;have HF:=hid hF;have HQN:=hid (hnew (mb+1+1) (by omega));have HQ9:=hid hq9;have hgt:decide ((rs.length:Int)<(segs.length:Int))=false:=by simp;omega
     have HRS:=hid hrs;clear hall hF hnew hE hfg hrowc hq9 hrs
     go_wp2_with fail
     refine HALL.out.mono ?_;rintro e w9 ⟨rfl,hok,hbad⟩;have hO:=HO.out;rw[← hl0,← HRS.out]at hO;have HOK:=hid hok;have HBAD:=hid hbad;have HOO:=hid hO;clear hok hbad hO;obtain⟨R,hR⟩:∃R,R=kT (li rs.length) (st,l0):=⟨_,rfl⟩;rw[← hR]at HOK HBAD HOO ⊢;have hT:∀k,((k=mb+1∨(Value.slice sa segs.length sc).ownBlock=some k)∨k=p∨k=b)→(k=p∨k=b)∨w.heap.size≤k:=λk hk=>by
      rcases hk with hk|hk
      ·exact .inr (HF.out k hk).1
      ·exact .inl hk
     have HT:=hid hT;clear hT hR;by_cases hz:R.2=0
     ·have hRk:=HOK.out hz
      have HRK:=hid hRk;have hq9:=hRk.fr.cellAt HQ9.out (λe=>by rcases e with e|e|e;exact HQN.out.1 e;exact HQN.out.2.1 e;exact HQN.out.2.2 e);have HZ:=hid hz;rw[hz];clear hRk hz;go_wp2;refine bodyPost_ret (v:=.tuple #[.pointer (some ⟨mb+1,0,none⟩),.int .i64 0]) (by simp[results,results21,go_sem]) rfl ?_;rw[HOO.out,if_neg (by rw[HZ.out];simp)];obtain⟨⟨F,he,hF9⟩,hfr,_⟩:=HRK.out;refine⟨he.dk,wL (Fr.pure HBR.out) hfr HT.out,mb+1,F,he.lg,λk hk=>?_,rfl⟩
      rcases hF9 k hk with h|h
      ·exact(HF.out k h).1
      ·exact Nat.le_trans HBR.out.size h
     ·have HRK:=hid (HBAD.out hz)
      have HZ:=hid hz;have hzb:(R.2 == 0)=false:=by simpa using hz
      have hzn:(R.2 != 0)=true:=by simpa using hz
      generalize hE2:R.2=E at *
      go_wp2;refine bodyPost_ret (v:=.tuple #[.pointer none,.int .i64 E]) (by simp[results,results21,go_sem]) rfl ?_;rw[HOO.out,if_pos HZ.out];exact⟨HRK.out.1,wL (Fr.pure HBR.out) HRK.out.2 HT.out,rfl⟩
end
section
open Go.RowKit
attribute [local go_sem] Oper.semAt_some
def nbB:List UInt8:=[110,111,32,98,97,116,99,104]
abbrev evZ:Value:=.agg #[.int .u8 0,.int .u8 0,.slice none 0 0,.slice none 0 0]
theorem y7 (w:World)(pb:Nat)(s:ByteArray)(hs:s.data.toList=nbB)(hpb:w.cell? ⟨pb,0,none⟩=some (.string s)) :
  yX (λx _=>x=(evZ,(43:Int))) Fence.wide 5 prog 349 #[.pointer (some ⟨pb,0,none⟩)] evEnc (λ_=>False)
   (λA B=>Fr (λk=>k≤w.heap.size+1) A B) (λ_ _=>True) (λxs=>xs=[(evZ,(43:Int))]) (λpre=>pre=[(evZ,(43:Int))]) 1 w:=by
 intro y J Jx W hW hsz hJ hJx hY h0;have hp:=vd hpb hW;have hss:s.size=8:=by rw[← ak,hs];rfl
 have HS:=hid (And.intro hs hss);have HJ:=hid hJ;have HJX:=hid hJx;have HY:=hid hY;have HH:=hid h0;have HZ:=hid hsz;clear hW hsz hJ hJx hY h0 hpb hs hss;refine callsIn_of_wp_marks func349 rfl trivial ?_ rfl;simp only[ntmps349,List.size_toArray,List.length_cons,List.length_nil,Nat.reduceAdd,Nat.reduceSub,Array.replicate_succ,Array.replicate_zero,List.push_toArray,List.append_toArray,List.nil_append,List.cons_append]
 gi_wp2_with fail
 refine⟨trivial,?_⟩;refine(callsIn_wide.2 (bf s W (by have:=HS.out.2;omega))).mono ?_;rintro e w1 ⟨rfl,hr1,hb1⟩;obtain⟨q,hq⟩:∃q,q=W.heap.size:=⟨_,rfl⟩;rw[← hq]at hr1 ⊢;have HR1:=hid hr1;have HQ:=hid (show w.heap.size+1<q from by have:=HZ.out;omega);have HF1:=hid (show Fr (λ_=>False) W w1 from Fr.pure hb1);have HQW:=hid hq;clear hr1 hb1 hp hq
 gi_wp2_with fail
 refine⟨trivial,?_⟩;have hu:=uB w1 q s ⟨0,0,0⟩ HR1.out;rw[HS.out.1,show nbB=[110,111,32,98,97,116,99,104]from rfl,yR]at hu;dsimp only at hu;refine(callsIn_wide.2 (show Calls prog 335 #[.pointer (some ⟨q,0,none⟩)] w1 λe w'=>e = .returned (.int .u8 110)∧bd w' q s ⟨1,0,0⟩∧Fr (λk=>k=q) w1 w' from hu)).mono ?_;rintro e w2 ⟨rfl,hr2,hf2⟩;have HR2:=hid hr2;have HF2:=hid (HF1.out.then hf2 (λi hi e=>by have:=HQW.out;omega));clear hu hr2 hf2
 gi_wp2_with fail
 refine⟨trivial,?_⟩;refine(callsIn_wide.2 (bD w2 q s ⟨1,0,0⟩ HR2.out)).mono ?_;rintro e w3' ⟨rfl,nd,rfl⟩
 generalize hW3:w2.drewN nd=w3
 have hb3:Below w2.heap.size w2 w3:=by rw[← hW3];exact uO (Below.refl _ _) _
 have HF3:=hid (HF2.out.trans (Fr.pure hb3));clear hb3 hW3;obtain⟨fn,tmps,assign,body,hy,hR⟩:=HY.out [] (evZ,(43:Int)) w3 rfl (HJ.out _ _ _ HH.out HF3.out) (by simp);dsimp only[evEnc]at hy;have HRW:=hid hR;clear hR
 gi_wp2_with fail
 refine HRW.out.mono ?_;rintro e W9 (⟨rfl,hJ9,hk9⟩|⟨rfl,hJx9,_⟩)
 ·have HJ9:=hid hJ9
  clear hJ9 hk9 hy
  gi_wp2
  exact⟨_,results_none rfl _ _ _,⟨_,rfl⟩,.inl ⟨_,rfl,HJ9.out⟩⟩
 ·have HX:=hid hJx9
  clear hJx9 hy
  gi_wp2
  exact⟨_,results_none rfl _ _ _,⟨_,rfl⟩,.inr ⟨_,rfl,HX.out⟩⟩
def DcX (w:World)(b:Nat)(c:Code)(pre:List (Value×Int))(W:World):Prop:=c = .ret∧pre=[(evZ,(43:Int))]∧W.heap[b]?=some (.cells #[.slice none 0 0] 190 (0,0))∧W.heap[b+1]?=some (.cells #[.int .i64 43] 26 (0,0))∧Below b w W
theorem DcX.fr {S:Nat→Prop}{w W W':World}{b:Nat}{c:Code}{pre:List (Value×Int)}(h:DcX w b c pre W)(hf:Fr S W W')(hs:∀k,S k→b+2<k):DcX w b c pre W':=by
 obtain⟨h1,h2,h3,h4,h5⟩:=h;exact⟨h1,h2,hf.heapAt h3 (λe=>by have:=hs _ e;omega),hf.heapAt h4 (λe=>by have:=hs _ e;omega),h5.trans (hf.below (by have:=lt_of_block h3;omega) (λk hk e=>by have:=hs _ e;omega))⟩
theorem y8 (w:World)(s:ByteArray)(hs:s.data.toList=nbB) :
  Calls prog 189 #[.string s] w λe w'=>e = .returned (.tuple #[.slice none 0 0,.int .i64 43])∧Below w.heap.size w w':=by
 have HS:=hid hs;clear hs;refine(callsIn_wide (n:=6)).1 ?_;refine callsIn_of_wp_marks func189 rfl trivial ?_ rfl;simp only[ntmps189,List.size_toArray,List.length_cons,List.length_nil,Nat.reduceAdd,Nat.reduceSub,Array.replicate_succ,Array.replicate_zero,List.push_toArray,List.append_toArray,List.nil_append,List.cons_append]
 gi_wp2_with fail
 refine⟨trivial,?_⟩;refine(callsIn_wide.2 (y5 _ s)).mono ?_;rintro e w1 ⟨rfl,rfl⟩
 gi_wp2
 obtain⟨b,hb⟩:∃b,b=w.heap.size:=⟨_,rfl⟩;obtain⟨W0,hW0⟩:∃W0,W0=(((w.alloc (.cells #[.slice none 0 0] 190)).alloc (.cells #[.int .i64 0] 26)).alloc (.cells #[.slice none 0 0] 190)).alloc (.cells #[.string s] 9):=⟨_,rfl⟩;have hz0:W0.heap.size=b+4:=by rw[hW0,hb];simp
 have hbw:Below b w W0:=by rw[hW0,hb];exact((((Below.refl _ _).alloc (Nat.le_refl _) _).alloc (by simp) _).alloc (by simp<;>omega) _).alloc (by simp<;>omega) _
 have hd0:DcAt w W0 b (.slice none 0 0):=by
  refine⟨?_,?_,?_,hbw⟩
  ·rw[hW0,hb];exact(Below.heap_alloc _ _ _ (by simp<;>omega)).trans ((Below.heap_alloc _ _ _ (by simp<;>omega)).trans ((Below.heap_alloc _ _ _ (by simp)).trans (heap_alloc_new _ _)))
  ·rw[hW0,hb];exact(Below.heap_alloc _ _ _ (by simp<;>omega)).trans ((Below.heap_alloc _ _ _ (by simp<;>omega)).trans (yS _ _ (by simp)))
  ·rw[hW0,hb];exact(Below.heap_alloc _ _ _ (by simp<;>omega)).trans (yS _ _ (by simp))
 have hps:W0.cell? ⟨b+3,0,none⟩=some (.string s):=by
  have h:W0.heap[b+3]?=some (.cells #[.string s] 9 (0,0)):=by rw[hW0,hb];exact yS _ _ (by simp)
  exact(cell_of_row _ _ _ _ _ _ h).trans rfl
 have HD0:=hid hd0;have HB:=hid hb;have HZ0:=hid hz0;have hsq:=y7 W0 (b+3) s HS.out hps;simp only[Nat.add_assoc,Nat.reduceAdd]at *;rw[← hW0,← hb];clear hW0 hbw hd0 hps hb;refine yY (n:=6) rfl (by omega) (gf:=349) rfl trivial (λ_ _=>rfl) hsq ⟨λh=>h,λh=>h⟩
  (λh k=>h.trans k) (λWx o h=>(Fr.refl (λk=>k≤W0.heap.size+1) Wx).putObj _ (λ_=>by omega) o) (λ_ _=>trivial) (λ_ _ _ _=>trivial) (λ_=>rfl)
  (λpre Wx=>pre=[]∧DcAt w Wx b (.slice none 0 0)) (DcX w b) ?bears ?bearsX ⟨rfl,HD0.out⟩
  (λpre x a' Wx=>(pre=[]∧DcAt w Wx b (.slice none 0 0))∧x=(evZ,(43:Int))∧∃k,b+5<k ∧
    a'={ tmps:=#[.string s,undef,.pointer (some ⟨b,0,none⟩),.pointer (some ⟨b+1,0,none⟩),.pointer (some ⟨b+2,0,none⟩),.pointer (some ⟨k,0,none⟩),.int .i64 43,.string s,.func (.func 349) #[] #[.pointer (some ⟨b+3,0,none⟩)],evZ,.int .i64 43,undef,undef,undef,undef,undef,undef,undef,undef],defers:=[] })
  ?hA ?assign ?body ?done ?stop
 case bears=>
  rintro pre A B ⟨h1,h2⟩ hf;exact⟨h1,h2.fr hf (λk e=>by rcases e with e|e|e;exact e.elim;omega;omega)⟩
 case bearsX=>exact λc pre A B h hf=>h.fr hf (λk e=>by rcases e with e|e|e;exact e.elim;omega;omega)
 case hA=>
  rintro pre x a' Wx o hlt ⟨⟨h1,h2⟩,h3,h4⟩;have hf:Fr (λk=>k=W0.heap.size+1) Wx (Wx.putObj (W0.heap.size+1) o):=(Fr.refl (λk=>k=W0.heap.size+1) Wx).putObj _ (λ_=>rfl) o;exact⟨⟨h1,h2.fr hf (λk e=>by omega)⟩,h3,h4⟩
 case assign=>
  rintro pre x Wx K rfl hlt ⟨rfl,hI⟩ hK;have HI:=hid hI;have HKK:=hid hK;clear hI hK
  gi_wp2
  exact HKK.out _ _ ⟨⟨by trivial,HI.out.fr ((Fr.refl (λ_=>False) Wx).alloc _) (λk e=>e.elim)⟩,by trivial,Wx.heap.size,by omega,by first|rfl|trivial⟩ (m8.fr (S:=λ_=>False) ((Fr.refl _ Wx).alloc _) hlt (λe=>e) (λe=>e)) (by simp) ((Fr.refl _ Wx).alloc _)
 case body=>
  rintro pre x a' Wx hlt ⟨⟨rfl,hD⟩,rfl,k,hk,rfl⟩ hlen;have z0:Wx.cell? ⟨b,0,none⟩=some (.slice none 0 0):=(cell_of_row _ _ _ _ _ _ hD.r0).trans rfl;have zf0:Wx.frozen? ⟨b,0,none⟩=false:=frozen_of_row _ _ _ _ _ hD.r0;have z1:Wx.cell? ⟨b+1,0,none⟩=some (.int .i64 0):=(cell_of_row _ _ _ _ _ _ hD.r1).trans rfl;have zf1:Wx.frozen? ⟨b+1,0,none⟩=false:=frozen_of_row _ _ _ _ _ hD.r1;have HD:=hid hD;clear hD
  gi_wp2
  have hf:Fr (λk=>k=b∨k=b+1) Wx ((Wx.setCell ⟨b,0,none⟩ (.slice none 0 0)).setCell ⟨b+1,0,none⟩ (.int .i64 43)):=((Fr.refl (λk=>k=b∨k=b+1) Wx).setCell ⟨b,0,none⟩ (λ_=>.inl rfl) _).setCell ⟨b+1,0,none⟩ (λ_=>.inr rfl) _;exact⟨m8.fr hf hlt (by omega) (by omega),trivial,rfl,rfl,(Below.heap_setCell _ _ _ _ (by simp)).trans (one_setCell HD.out.r0),one_setCell ((Below.heap_setCell _ _ _ _ (by simp)).trans HD.out.r1),HD.out.below.trans (hf.below (by have:=lt_of_block HD.out.r0;omega) (λk hk e=>by omega))⟩
 case done=>
  rintro xs Wx rfl ⟨h,_⟩;cases h
 case stop=>
  rintro c pre Wx _ ⟨rfl,_,a0,a1,hbb⟩ hK;have HK:=hid hK;have HA:=hid (And.intro a0 (And.intro a1 hbb));clear hK a0 a1 hbb
  gi_wp2
  refine⟨by simp,.inl ⟨_,_,rfl,run_takeDeferred HK.out,?_⟩⟩;have hg:Fr (λk=>k=W0.heap.size) Wx (Wx.putObj W0.heap.size (.deferred none)):=(Fr.refl (λk=>k=W0.heap.size) Wx).putObj _ (λ_=>rfl) _;have hz:=HZ0.out;have o0:=(cell_of_row _ b 0 _ _ _ (hg.heapAt HA.out.1 (by omega))).trans (show _=some (.slice none 0 0)from rfl);have o1:=(cell_of_row _ (b+1) 0 _ _ _ (hg.heapAt HA.out.2.1 (by omega))).trans (show _=some (.int .i64 43)from rfl);have hbz:=lt_of_block HA.out.1;refine⟨.tuple #[.slice none 0 0,.int .i64 43],by simp[results,results189,go_sem,o0,o1],rfl,?_⟩;rw[← HB.out];exact HA.out.2.2.trans (hg.below (by omega) (λk hk e=>by omega))
theorem za (w:World)(s:ByteArray)(hs:s.data.toList=nbB) :
  Calls prog 144 #[.string s] w λe w'=>e = .returned (.tuple #[.string ⟨#[]⟩,.int .i64 43])∧Below w.heap.size w w':=by
 have HS:=hid hs;clear hs
 go_enter func144,ntmps144
 go_wp2_with fail
 refine(y8 w s HS.out).mono ?_;rintro e w1 ⟨rfl,hb1⟩;have HB1:=hid hb1;clear hb1;go_wp2;exact bodyPost_ret (v:=.tuple #[.string ⟨#[]⟩,.int .i64 43]) (by simp[results,results144,go_sem]) rfl ⟨rfl,HB1.out⟩
end
section
open Go.RowKit
def zb (v n m:Int):Prop:=∀(W:World) (h c:Nat),uL W→W.cell? ⟨h,0,none⟩=some (.int .i64 n) →
 Calls prog 190 #[uX v h c] W λe w'=>(∃g d,e = .returned (.tuple #[uX 3 g d,.int .i64 0])∧W.heap.size≤g∧w'.cell? ⟨g,0,none⟩=some (.int .i64 m))∧Below W.heap.size W w'
theorem zc (n:Nat)(h1:1≤n)(h2:n≤100):zb 3 n n:=λW h c hk hh=>yw W hk n (by omega) (by omega) h c hh
theorem zd (n:Nat)(h1:1≤n)(h2:n≤100):zb 1 n (10*(n:Int)):=λW h c hk hh=>yx W hk n h1 h2 h c hh
theorem zg (w:World)(hk:uL w)(s:ByteArray)(v n m:Nat)(hv:v=1∨v=3)(h1:1≤n)(h2:n≤100)(m1:1≤m)(m2:m≤100)(hs:s.data.toList=yM v n)(hl:zb (v:Int) n m) :
  Calls prog 144 #[.string s] w λe w'=>(∃r:ByteArray,r.data.toList=yM 3 m∧e = .returned (.tuple #[.string r,.int .i64 0]))∧Below w.heap.size w w':=by
 have HK:=hid hk;have HS:=hid hs;have HV:=hid hv;have HL:=hid hl;clear hk hs hv hl
 go_enter func144,ntmps144
 go_wp2_with fail
 refine(y6 w HK.out s v n HV.out h1 h2 HS.out).mono ?_;rintro e w1 ⟨⟨q,c,h,d,rfl,hq,hr⟩,hb1⟩;have HR:=hid hr;have HB1:=hid hb1;have HQ:=hid hq;have HK1:=hid (HK.out.pure hb1);obtain⟨x0,x1,x2,x3,_,_⟩:=hr;clear hb1 hq
 go_wp2_with fail
 refine wp_loop_rounds 2 ?_;rw[rounds_succ]
 go_wp2_with fail
 obtain⟨W2,hW2⟩:∃W2,W2=w1.alloc (.cells #[.int .u8 (v:Int),.int .u8 20,.slice (some ⟨h,0,none⟩) 1 d,.slice none 0 0] 189):=⟨_,rfl⟩;have hb2:Below w1.heap.size w1 W2:=by rw[hW2];exact(Below.refl _ _).alloc (Nat.le_refl _) _
 rw[← hW2];clear hW2 x0 x1 x2 x3;have HR2:=hid (HR.out.pure hb2);have HB2:=hid (HB1.out.trans (hb2.mono HB1.out.size));refine(HL.out W2 h d (HK1.out.pure hb2) HR2.out.n).mono ?_;rintro e w3 ⟨⟨g,d3,rfl,hg,hc⟩,hb3⟩;have hr3:=HR2.out.pure hb3;have HR3:=hid hr3;have HB3:=hid (HB2.out.trans (hb3.mono HB2.out.size));have HC3:=hid hc;have HG3:=hid (show q<g from by have:=aw HR2.out.c0;omega);have HK3:=hid ((HK1.out.pure hb2).pure hb3);obtain⟨x0,x1,x2,x3,_,xf⟩:=hr3;clear hb2 hb3 hg hc
 go_wp2_with fail
 obtain⟨W4,hW4⟩:∃W4,W4=(((w3.setCell ⟨q,0,none⟩ (.int .u8 3)).setCell ⟨q,1,none⟩ (.int .u8 20)).setCell ⟨q,2,none⟩ (.slice (some ⟨g,0,none⟩) 1 d3)).setCell ⟨q,3,none⟩ (.slice none 0 0):=⟨_,rfl⟩;have hf4:Fr (λk=>k=q) w3 W4:=by rw[hW4];exact yl _ _ _ _ _ _
 have HR4:=hid (show yy W4 q 3 g d3 (m:Int)from⟨by rw[hW4];simp[go_sem,x0],by rw[hW4];simp[go_sem,x1],by rw[hW4];simp[go_sem,x2],by rw[hW4];simp[go_sem,x3],hf4.cellAt HC3.out (by have:=HG3.out;omega),λj=>by rw[hW4];simp[go_sem,xf]⟩);have HK4:=hid (HK3.out.kept hf4 (by have:=HK.out.lt;have:=HQ.out;omega));have HB4:=hid (HB3.out.trans (hf4.below HB3.out.size (λk hk e=>by have:=HQ.out;omega)));rw[← hW4];clear hW4 hf4 x0 x1 x2 x3 xf;rw[rounds_succ]
 go_wp2_with fail
 refine(yL W4 HK4.out q c 3 (.inr (.inr rfl)) m m1 m2 g d3 HR4.out).mono ?_;rintro e w5 ⟨⟨r,hr,rfl⟩,hb5⟩;have HRR:=hid hr;have HB5:=hid (HB4.out.trans (hb5.mono HB4.out.size));clear hr hb5;go_wp2;exact bodyPost_ret (v:=.tuple #[.string r,.int .i64 0]) (by simp[results,results144,go_sem]) rfl ⟨⟨r,HRR.out,rfl⟩,HB5.out⟩
theorem Dw (w:World):Calls prog 17 #[] w λe w'=>e = .returned (AZ 0 0 1 1)∧Below w.heap.size w w':=by
 go_enter func17,ntmps17
 go_wp2;obtain⟨W0,hW0⟩:∃W0,W0=w.alloc (.cells #[.int .i64 0,.int .i64 0,.int .i64 1,.int .i64 1,.slice none 0 0,.slice none 0 0,.slice none 0 0,.slice none 0 0,.slice none 0 0] 56):=⟨_,rfl⟩;have hbel:Below w.heap.size w W0:=by rw[hW0];exact(Below.refl _ _).alloc (Nat.le_refl _) _
 have k0:W0.heap[w.heap.size]?=some (.cells #[.int .i64 0,.int .i64 0,.int .i64 1,.int .i64 1,.slice none 0 0,.slice none 0 0,.slice none 0 0,.slice none 0 0,.slice none 0 0] 56 (0,0)):=by rw[hW0];exact heap_alloc_new _ _
 rw[← hW0];obtain⟨o0,o1,o2,o3,o4,o5,o6,o7,o8⟩:=Ct (k0);exact bodyPost_ret (v:=.agg #[.int .i64 0,.int .i64 0,.int .i64 1,.int .i64 1,.slice none 0 0,.slice none 0 0,.slice none 0 0,.slice none 0 0,.slice none 0 0]) (by simp[results,results17,go_sem,o0,o1,o2,o3,o4,o5,o6,o7,o8]) rfl ⟨rfl,hbel⟩
section
variable {H:Type} {enc:TypeId×Value→H} {P:Program} {w:World} {base:Nat} {sp:Nat→Bool} {held:Bool}
theorem EK {fuel:Nat}{t:TypeId}{cs:List Value}{b:List UInt8}{q:List MemPlace}(ht:P.underlying t=some .string)(h:DataW.trod enc P w base sp held fuel t cs=some (.lit (.string b),q)):∃s:ByteArray,cs=[.string s]∧s.data.toList=b:=by
 cases fuel with
 | zero=>simp[DataW.trod]at h
 | succ n=>
  unfold DataW.trod at h;rw[ht]at h
  split at h<;>simp_all
theorem EL {fuel:Nat}{t:TypeId}{cs:List Value}{b:Bool}{q:List MemPlace}(ht:P.underlying t=some .bool)(h:DataW.trod enc P w base sp held fuel t cs=some (.lit (.bool b),q)):cs=[.bool b]:=by
 cases fuel with
 | zero=>simp[DataW.trod]at h
 | succ n=>
  unfold DataW.trod at h;rw[ht]at h
  split at h<;>simp_all
theorem EM {fuel:Nat}{t e:TypeId}{n:Nat}{cs:List Value}{ds:List (DataW H)}{q:List MemPlace}(ht:P.underlying t=some (.array n e))(h:DataW.trod enc P w base sp held fuel t cs=some (.agg ds,q)) :
  ∃f,∀i,i<n→∃d p,ds[i]?=some d∧DataW.trod enc P w base sp held f e ((cs.drop (i*P.cellsOf e)).take (P.cellsOf e))=some (d,p):=by
 cases fuel with
 | zero=>simp[DataW.trod]at h
 | succ m=>
  simp only[DataW.trod,ht]at h
  split at h
  ·obtain⟨xs,hm,hx⟩:=Option.map_eq_some_iff.1 h
   refine⟨m,λi hi=>?_⟩;obtain⟨b,hb,hf⟩:=Lib.mapM_at hm i i (by simp[hi]);have h1:xs.map (·.1)=ds:=by
    have:=congrArg Prod.fst hx;simpa using this
   exact⟨b.1,b.2,by rw[← h1];simp[hb],hf⟩
  ·cases h
theorem EO {fuel:Nat}{t:TypeId}{fs:Array Go.Field}{cs:List Value}{ds:List (DataW H)}{q:List MemPlace}(ht:P.underlying t=some (.struct fs))(h:DataW.trod enc P w base sp held fuel t cs=some (.agg ds,q)) :
  ∃f,∀(i:Nat) (x:Go.Field),fs.toList[i]?=some x→∃d p,ds[i]?=some d∧DataW.trod enc P w base sp held f x.type ((cs.drop x.offset).take (P.cellsOf x.type))=some (d,p):=by
 cases fuel with
 | zero=>simp[DataW.trod]at h
 | succ m=>
  simp only[DataW.trod,ht]at h
  split at h
  ·obtain⟨xs,hm,hx⟩:=Option.map_eq_some_iff.1 h
   refine⟨m,λi x hi=>?_⟩;obtain⟨b,hb,hf⟩:=Lib.mapM_at hm i x hi;have h1:xs.map (·.1)=ds:=by
    have:=congrArg Prod.fst hx;simpa using this
   exact⟨b.1,b.2,by rw[← h1];simp[hb],hf⟩
  ·cases h
end
theorem EP {cs:List Value}{i:Nat}{v:Value}(h:(cs.drop i).take 1=[v]):cs[i]?=some v:=by
 have:=congrArg (·[0]?) h;simpa[List.getElem?_take,List.getElem?_drop]using this
theorem ER {cs:List Value}{a n i:Nat}{v:Value}(hi:i<n)(h:(((cs.drop a).take n).drop i).take 1=[v]):cs[a+i]?=some v:=by
 have:=EP h;rw[List.getElem?_take,if_pos hi,List.getElem?_drop]at this;exact this
theorem ES {cs:List Value}{a n b m i:Nat}{v:Value}(hi:i<m)(hb:b+i<n)(h:(((((cs.drop a).take n).drop b).take m).drop i).take 1=[v]):cs[a+(b+i)]?=some v:=by
 have:=ER hi h;rw[List.getElem?_take,if_pos hb,List.getElem?_drop]at this;exact this
theorem ET {cs:List Value}{fuel:Nat}{w:World}{q:List MemPlace}(h:DataW.trod (λ_=>()) prog w 0 (λ_=>true) false fuel 494 cs=some (Rows.laid_souk_schema_kinds,q)) :
  cs[95]?=some (.string ⟨#[109,111,118,101,100]⟩)∧cs[96]?=some (.string ⟨#[116]⟩)∧cs[97]?=some (.string ⟨#[116]⟩)∧cs[98]?=some (.string ⟨#[116]⟩)∧cs[99]?=some (.bool false):=by
 obtain⟨f1,h1⟩:=EM (n:=23) (e:=456) underlying494 h;obtain⟨d,p1,hd,h2⟩:=h1 19 (by omega);obtain rfl:d = .agg [.lit (.string [109,111,118,101,100]),.agg [.lit (.string [116]),.lit (.string [116]),.lit (.string [116])],.lit (.bool false)]:=(Option.some.inj hd).symm;rw[show prog.cellsOf 456=5 from by kernel_rfl]at h2;obtain⟨f2,h3⟩:=EO underlying456 h2;obtain⟨d0,p2,hd0,g0⟩:=h3 0 _ rfl;obtain⟨d1,p3,hd1,g1⟩:=h3 1 _ rfl;obtain⟨d2,p4,hd2,g2⟩:=h3 2 _ rfl;have hcs:prog.cellsOf 9=1:=by kernel_rfl
 have hca:prog.cellsOf 454=3:=by kernel_rfl
 have hcb:prog.cellsOf 4=1:=by kernel_rfl
 dsimp only at g0 g1 g2;rw[hcs]at g0;rw[hca]at g1;rw[hcb]at g2;obtain rfl:d0 = .lit (.string [109,111,118,101,100]):=(Option.some.inj hd0).symm;obtain rfl:d1 = .agg [.lit (.string [116]),.lit (.string [116]),.lit (.string [116])]:=(Option.some.inj hd1).symm;obtain rfl:d2 = .lit (.bool false):=(Option.some.inj hd2).symm;obtain⟨s0,e0,z0⟩:=EK underlying9 g0;have e2:=EL underlying4 g2;obtain⟨f3,h4⟩:=EM (n:=3) (e:=9) underlying454 g1;obtain⟨a0,q0,ha0,j0⟩:=h4 0 (by omega);obtain⟨a1,q1,ha1,j1⟩:=h4 1 (by omega);obtain⟨a2,q2,ha2,j2⟩:=h4 2 (by omega);rw[hcs]at j0 j1 j2;obtain rfl:a0 = .lit (.string [116]):=(Option.some.inj ha0).symm;obtain rfl:a1 = .lit (.string [116]):=(Option.some.inj ha1).symm;obtain rfl:a2 = .lit (.string [116]):=(Option.some.inj ha2).symm;obtain⟨t0,x0,y0⟩:=EK underlying9 j0;obtain⟨t1,x1,y1⟩:=EK underlying9 j1;obtain⟨t2,x2,y2⟩:=EK underlying9 j2;rw[jP z0]at e0;rw[jP y0]at x0;rw[jP y1]at x1;rw[jP y2]at x2;have r0:=ER (i:=0) (by omega) e0;have r1:=ES (b:=1) (m:=3) (i:=0) (by omega) (by omega) x0;have r2:=ES (b:=1) (m:=3) (i:=1) (by omega) (by omega) x1;have r3:=ES (b:=1) (m:=3) (i:=2) (by omega) (by omega) x2;have r4:=ER (i:=4) (by omega) e2;simp only[Nat.reduceMul,Nat.reduceAdd]at r0 r1 r2 r3 r4;exact⟨r0,r1,r2,r3,r4⟩
theorem EU {W:World}{cs:Array Value}(hv:W.var? prog "souk/schema.kinds" = some cs){fuel:Nat}{q:List MemPlace}(h:DataW.trod (λ_=>()) prog W 0 (λ_=>true) false fuel 494 cs.toList=some (Rows.laid_souk_schema_kinds,q)):uL W:=by
 obtain⟨a0,a1,a2,a3,a4⟩:=ET h;unfold World.var? at hv;rw[show prog.globalNamed "souk/schema.kinds" = some KB from by kernel_rfl]at hv;simp only[Option.bind_some]at hv;cases hh:W.heap[KB]? with
 | none=>rw[hh]at hv;cases hv
 | some o=>
  rw[hh]at hv;cases o with
  | cells c1 t1 z1=>
   have e:c1=cs:=Option.some.inj hv;subst e;refine⟨?_,?_,?_,?_,?_⟩<;>simp only[World.cell?,hh]<;>simp_all
  | _=>simp at hv
end
end Go.Proofs.YthjjgcfdhkhelaaGreatDoor
