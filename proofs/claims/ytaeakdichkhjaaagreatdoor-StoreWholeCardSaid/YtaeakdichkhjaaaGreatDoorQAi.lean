/- The walk of snap.numbers. -/
import Derived.Test.YtaeakdichkhjaaaGreatDoorQAc
import Derived.Test.YtaeakdichkhjaaaGreatDoorQAd
import Derived.Test.YtaeakdichkhjaaaGreatDoorQAh
import Derived.Deep.RegionWith
import Derived.Deep.RegionHeld3
import Derived.Test.YtaeakdichkhjaaaGreatDoorQAb
set_option maxHeartbeats 4000000
open Go.Lib(hid)
namespace Go.Proofs.YtaeakdichkhjaaaGreatDoor
section
open Go.RowKit
structure GetAt (w W:World) (T:TypeId) (q p:Nat) (s:ByteArray) (st:RdSt) (n:Nat) (Z C:Array Value):Prop where
 rd:RdrAt W q p s st
 box:W.heap[n]?=some (.cells #[.pointer (some ⟨q,0,none⟩)] 189 (0,0))
 res:W.heap[n+1]?=some (.cells Z T (0,0))
 loc:W.heap[n+2]?=some (.cells C T (0,0))
 fr:Fr (λk=>k=p) w W
 hn:n=w.heap.size
 hp:p<n
 hq:q<n
theorem GetAt.step {w W W':World}{T:TypeId}{q p:Nat}{s:ByteArray}{st st':RdSt}{n:Nat}{Z C:Array Value}(h:GetAt w W T q p s st n Z C)(h1:RdrAt W' q p s st')(hf:Fr (λk=>k=p) W W'):GetAt w W' T q p s st' n Z C:=
 ⟨h1,hf.heapAt h.box (by have:=h.hp;omega),hf.heapAt h.res (by have:=h.hp;omega),hf.heapAt h.loc (by have:=h.hp;omega),h.fr.trans hf,h.hn,h.hp,h.hq⟩
theorem GetAt.set {w W:World}{T:TypeId}{q p:Nat}{s:ByteArray}{st:RdSt}{n:Nat}{Z C:Array Value}(h:GetAt w W T q p s st n Z C)(j:Nat)(v:Value):GetAt w (W.setCell ⟨n+2,j,none⟩ v) T q p s st n Z (C.setIfInBounds j v):=
 ⟨h.rd.kept (eO _ _) (by have:=h.hq;show ¬q=n+2;omega) (by have:=h.hp;show ¬p=n+2;omega),(eO _ _).heapAt h.box (by show ¬n=n+2;omega),(eO _ _).heapAt h.res (by show ¬n+1=n+2;omega),heap_setCell_same _ _ _ _ _ _ h.loc,h.fr.setCell ⟨n+2,j,none⟩ (λe=>by have:=h.hn;have:n+2<w.heap.size:=e;omega) v,h.hn,h.hp,h.hq⟩
theorem GetAt.setR {w W:World}{T:TypeId}{q p:Nat}{s:ByteArray}{st:RdSt}{n:Nat}{Z C:Array Value}(h:GetAt w W T q p s st n Z C)(j:Nat)(v:Value):GetAt w (W.setCell ⟨n+1,j,none⟩ v) T q p s st n (Z.setIfInBounds j v) C:=
 ⟨h.rd.kept (eO _ _) (by have:=h.hq;show ¬q=n+1;omega) (by have:=h.hp;show ¬p=n+1;omega),(eO _ _).heapAt h.box (by show ¬n=n+1;omega),heap_setCell_same _ _ _ _ _ _ h.res,(eO _ _).heapAt h.loc (by show ¬n+2=n+1;omega),h.fr.setCell ⟨n+1,j,none⟩ (λe=>by have:=h.hn;have:n+1<w.heap.size:=e;omega) v,h.hn,h.hp,h.hq⟩
theorem GetAt.drew {w W:World}{T:TypeId}{q p:Nat}{s:ByteArray}{st:RdSt}{n:Nat}{Z C:Array Value}(h:GetAt w W T q p s st n Z C):GetAt w W.drew T q p s st n Z C:=
 ⟨⟨h.rd.cell,h.rd.rd,h.rd.ne⟩,h.box,h.res,h.loc,h.fr.drew,h.hn,h.hp,h.hq⟩
theorem GetAt.b0 {w W:World}{T:TypeId}{q p:Nat}{s:ByteArray}{st:RdSt}{n:Nat}{Z C:Array Value}(h:GetAt w W T q p s st n Z C):W.cell? ⟨n,0,none⟩=some (.pointer (some ⟨q,0,none⟩)):=(cell_of_row _ _ _ _ _ _ h.box).trans rfl
theorem GetAt.at {w W:World}{T:TypeId}{q p:Nat}{s:ByteArray}{st:RdSt}{n:Nat}{Z C:Array Value}(h:GetAt w W T q p s st n Z C)(j:Nat)(v:Value)(e:C[j]?=some v):W.cell? ⟨n+2,j,none⟩=some v:=(cell_of_row _ _ _ _ _ _ h.loc).trans e
theorem GetAt.rs {w W:World}{T:TypeId}{q p:Nat}{s:ByteArray}{st:RdSt}{n:Nat}{Z C:Array Value}(h:GetAt w W T q p s st n Z C)(j:Nat)(v:Value)(e:Z[j]?=some v):W.cell? ⟨n+1,j,none⟩=some v:=(cell_of_row _ _ _ _ _ _ h.res).trans e
theorem GetAt.rz {w W:World}{T:TypeId}{q p:Nat}{s:ByteArray}{st:RdSt}{n:Nat}{Z C:Array Value}(h:GetAt w W T q p s st n Z C)(j:Nat):W.frozen? ⟨n+1,j,none⟩=false:=frozen_of_row _ _ j _ _ h.res
theorem GetAt.fz {w W:World}{T:TypeId}{q p:Nat}{s:ByteArray}{st:RdSt}{n:Nat}{Z C:Array Value}(h:GetAt w W T q p s st n Z C)(j:Nat):W.frozen? ⟨n+2,j,none⟩=false:=frozen_of_row _ _ j _ _ h.loc
set_option maxRecDepth 100000 in
theorem ja (c:Nat)(hc:c<128)(w:World)(q p:Nat)(s:ByteArray)(h:RdrAt w q p s ⟨0,0,0⟩)(hs:s.data.toList=iT c) :
  Calls Tryz.prog 106 #[.pointer (some ⟨q,0,none⟩)] w λe w'=>e = .returned (stV (c:Int) 0 1 1)∧RdrAt w' q p s ⟨9,0,0⟩∧Fr (λk=>k=p) w w':=by
 have hmf:∀(fn:Fn) (first cap:Array Value) (w:World),(Instr.makeFunc fn first cap).run Tryz.prog w = .ok (.func fn first cap) w:=λ_ _ _ _=>rfl;have hp:=h.rd.lt;have hq:=lt_of_block h.cell;have H:=hid h;have HS:=hid (λ(k:Nat) (b:UInt8) (e:(iT c)[k]?=some b)=>(by rw[hs];exact e:s.data.toList[k]?=some b));have hcb:(UInt8.ofNat c).toNat=c:=by simp;omega
 have HCB:=hid hcb;clear h hs hcb
 go_enter Tryz.func106,Tryz.ntmps106
 go_wp2_with fail
 obtain⟨n,hn⟩:∃n,n=w.heap.size:=⟨_,rfl⟩;obtain⟨W0,hW0⟩:∃W0,W0=((w.alloc (.cells #[.pointer (some ⟨q,0,none⟩)] 189)).alloc (.cells #[.int .i64 0,.int .i64 0,.int .i64 0,.int .i64 0,.slice none 0 0,.slice none 0 0,.slice none 0 0,.slice none 0 0,.slice none 0 0] 29)).alloc (.cells #[.int .i64 0,.int .i64 0,.int .i64 0,.int .i64 0,.slice none 0 0,.slice none 0 0,.slice none 0 0,.slice none 0 0,.slice none 0 0] 29):=⟨_,rfl⟩;have g0:GetAt w W0 29 q p s ⟨0,0,0⟩ n #[.int .i64 0,.int .i64 0,.int .i64 0,.int .i64 0,.slice none 0 0,.slice none 0 0,.slice none 0 0,.slice none 0 0,.slice none 0 0] #[.int .i64 0,.int .i64 0,.int .i64 0,.int .i64 0,.slice none 0 0,.slice none 0 0,.slice none 0 0,.slice none 0 0,.slice none 0 0]:=by
  have hbel:Below w.heap.size w W0:=by rw[hW0];exact(((Below.refl _ _).alloc (Nat.le_refl _) _).alloc (by simp) _).alloc (by simp<;>omega) _
  refine⟨H.out.pure hbel,?_,?_,?_,Fr.pure hbel,hn,by omega,by omega⟩
  ·rw[hW0,hn];exact(Below.heap_alloc _ _ _ (by simp<;>omega)).trans ((Below.heap_alloc _ _ _ (by simp<;>omega)).trans (heap_alloc_new _ _))
  ·rw[hW0,hn];exact(Below.heap_alloc _ _ _ (by simp<;>omega)).trans (cK _ _ (by simp))
  ·rw[hW0,hn];exact cK _ _ (by simp)
 have G0:=hid g0;rw[← hW0,← hn]
 try simp only[Nat.add_assoc,Nat.reduceAdd]
 clear hW0 hn g0 hp hq;have b0:=G0.out.b0;refine wp_region_held_drew (S:=(λw'=>w'.cell? ⟨n,0,none⟩=some (.pointer (some ⟨q,0,none⟩)))) (by kernel_rfl) b0 (λhHeld=>?_);refine wpAnyH_take (i:=0) (oi:=_) (v:=?_) (by simp only[List.getElem?_toArray,List.getElem?_cons_zero];rfl) (by kernel_rfl) (by kernel_rfl) (by kernel_rfl) (by exact λ_ _ _ h=>h) (Or.inl ⟨by rfl,?_⟩) (by assumption) ?_;rotate_left
 ·(intro w hSw;(try dsimp only at hSw);go_simp;try with_reducible rfl)
 simp only[Act.put,List.setIfInBounds_toArray,List.set_cons_zero,List.set_cons_succ];refine wpAnyH_take (i:=2) (oi:=_) (v:=?_) (by simp only[List.getElem?_toArray,List.getElem?_cons_succ,List.getElem?_cons_zero];rfl) (by kernel_rfl) (by kernel_rfl) (by kernel_rfl) (by exact λ_ _ _ h=>h) (Or.inl ⟨by rfl,?_⟩) (by assumption) ?_;rotate_left
 ·(intro w hSw;(try dsimp only at hSw);go_simp;try with_reducible rfl)
 simp only[Act.put,List.setIfInBounds_toArray,List.set_cons_zero,List.set_cons_succ];refine wpAnyH_ready (rs:=[1]) (by kernel_rfl) (by simp) ?_;refine AllReadyH.cons (o:=_) (by simp only[List.getElem?_toArray,List.getElem?_cons_succ,List.getElem?_cons_zero];rfl) (λK hK=>?_) AllReadyH.nil
 go_simp
 refine(cy _ q p s 0 (UInt8.ofNat c) G0.out.drew.rd (HS.out 0 _ rfl) (by rw[HCB.out];exact hc)).mono ?_;rintro e wa0 ⟨rfl,h1,hf1⟩;have G0x:=hid (G0.out.drew.step h1 hf1);rw[HCB.out];clear h1 hf1;refine hK.out _ _ G0x.out.b0 (λhHeld=>?_);clear hK K;refine wpAnyH_take (i:=4) (oi:=_) (v:=?_) (by simp only[List.getElem?_toArray,List.getElem?_cons_succ,List.getElem?_cons_zero];rfl) (by kernel_rfl) (by kernel_rfl) (by kernel_rfl) (by exact λ_ _ _ h=>h) (Or.inl ⟨by rfl,?_⟩) (by assumption) ?_;rotate_left
 ·(intro w hSw;(try dsimp only at hSw);go_simp;try with_reducible rfl)
 simp only[Act.put,List.setIfInBounds_toArray,List.set_cons_zero,List.set_cons_succ];refine wpAnyH_ready (rs:=[3]) (by kernel_rfl) (by simp) ?_;refine AllReadyH.cons (o:=_) (by simp only[List.getElem?_toArray,List.getElem?_cons_succ,List.getElem?_cons_zero];rfl) (λK hK=>?_) AllReadyH.nil
 go_simp
 refine(cy _ q p s 1 (0) G0x.out.rd (HS.out 1 _ rfl) (by decide)).mono ?_;rintro e wa1 ⟨rfl,h1,hf1⟩;have G0xx:=hid (G0x.out.step h1 hf1)
 try simp only[show((UInt8.toNat 0:Nat):Int)=0 from rfl]
 clear h1 hf1;refine hK.out _ _ G0xx.out.b0 (λhHeld=>?_);clear hK K;have z0:=G0xx.out.at 0 _ rfl;have y0:=G0xx.out.fz 0;refine wpAnyH_ready (rs:=[5]) (by kernel_rfl) (by simp) ?_;refine AllReadyH.cons (o:=_) (by simp only[List.getElem?_toArray,List.getElem?_cons_succ,List.getElem?_cons_zero];rfl) (λK hK=>?_) AllReadyH.nil
 go_simp
 have G1:=hid (G0xx.out.set 0 (.int .i64 (c:Int)));clear z0 y0;refine hK.out _ _ G1.out.b0 (λhHeld=>?_);clear hK K;refine wpAnyH_take (i:=6) (oi:=_) (v:=?_) (by simp only[List.getElem?_toArray,List.getElem?_cons_succ,List.getElem?_cons_zero];rfl) (by kernel_rfl) (by kernel_rfl) (by kernel_rfl) (by exact λ_ _ _ h=>h) (Or.inl ⟨by rfl,?_⟩) (by assumption) ?_;rotate_left
 ·(intro w hSw;(try dsimp only at hSw);go_simp;try with_reducible rfl)
 simp only[Act.put,List.setIfInBounds_toArray,List.set_cons_zero,List.set_cons_succ];have z0:=G1.out.at 1 _ rfl;have y0:=G1.out.fz 1;refine wpAnyH_ready (rs:=[7]) (by kernel_rfl) (by simp) ?_;refine AllReadyH.cons (o:=_) (by simp only[List.getElem?_toArray,List.getElem?_cons_succ,List.getElem?_cons_zero];rfl) (λK hK=>?_) AllReadyH.nil
 go_simp
 have G4:=hid (G1.out.set 1 (.int .i64 0));clear z0 y0;refine hK.out _ _ G4.out.b0 (λhHeld=>?_);clear hK K;refine wpAnyH_done (by kernel_rfl) ?_ _;clear b0 hHeld G0 G0x G0xx G1
 try clear hHeld
 go_wp2_with fail
 have b0:=G4.out.b0;refine wp_region_held_drew (S:=(λw'=>w'.cell? ⟨n,0,none⟩=some (.pointer (some ⟨q,0,none⟩)))) (by kernel_rfl) b0 (λhHeld=>?_);refine wpAnyH_take (i:=0) (oi:=_) (v:=?_) (by simp only[List.getElem?_toArray,List.getElem?_cons_zero];rfl) (by kernel_rfl) (by kernel_rfl) (by kernel_rfl) (by exact λ_ _ _ h=>h) (Or.inl ⟨by rfl,?_⟩) (by assumption) ?_;rotate_left
 ·(intro w hSw;(try dsimp only at hSw);go_simp;try with_reducible rfl)
 simp only[Act.put,List.setIfInBounds_toArray,List.set_cons_zero,List.set_cons_succ];refine wpAnyH_take (i:=2) (oi:=_) (v:=?_) (by simp only[List.getElem?_toArray,List.getElem?_cons_succ,List.getElem?_cons_zero];rfl) (by kernel_rfl) (by kernel_rfl) (by kernel_rfl) (by exact λ_ _ _ h=>h) (Or.inl ⟨by rfl,?_⟩) (by assumption) ?_;rotate_left
 ·(intro w hSw;(try dsimp only at hSw);go_simp;try with_reducible rfl)
 simp only[Act.put,List.setIfInBounds_toArray,List.set_cons_zero,List.set_cons_succ];refine wpAnyH_ready (rs:=[1]) (by kernel_rfl) (by simp) ?_;refine AllReadyH.cons (o:=_) (by simp only[List.getElem?_toArray,List.getElem?_cons_succ,List.getElem?_cons_zero];rfl) (λK hK=>?_) AllReadyH.nil
 go_simp
 refine(cy _ q p s 2 (1) G4.out.drew.rd (HS.out 2 _ rfl) (by decide)).mono ?_;rintro e wa2 ⟨rfl,h1,hf1⟩;have G4x:=hid (G4.out.drew.step h1 hf1)
 try simp only[show((UInt8.toNat 1:Nat):Int)=1 from rfl]
 clear h1 hf1;refine hK.out _ _ G4x.out.b0 (λhHeld=>?_);clear hK K;refine wpAnyH_take (i:=4) (oi:=_) (v:=?_) (by simp only[List.getElem?_toArray,List.getElem?_cons_succ,List.getElem?_cons_zero];rfl) (by kernel_rfl) (by kernel_rfl) (by kernel_rfl) (by exact λ_ _ _ h=>h) (Or.inl ⟨by rfl,?_⟩) (by assumption) ?_;rotate_left
 ·(intro w hSw;(try dsimp only at hSw);go_simp;try with_reducible rfl)
 simp only[Act.put,List.setIfInBounds_toArray,List.set_cons_zero,List.set_cons_succ];refine wpAnyH_ready (rs:=[3]) (by kernel_rfl) (by simp) ?_;refine AllReadyH.cons (o:=_) (by simp only[List.getElem?_toArray,List.getElem?_cons_succ,List.getElem?_cons_zero];rfl) (λK hK=>?_) AllReadyH.nil
 go_simp
 refine(cy _ q p s 3 (1) G4x.out.rd (HS.out 3 _ rfl) (by decide)).mono ?_;rintro e wa3 ⟨rfl,h1,hf1⟩;have G4xx:=hid (G4x.out.step h1 hf1)
 try simp only[show((UInt8.toNat 1:Nat):Int)=1 from rfl]
 clear h1 hf1;refine hK.out _ _ G4xx.out.b0 (λhHeld=>?_);clear hK K;have z0:=G4xx.out.at 2 _ rfl;have y0:=G4xx.out.fz 2;refine wpAnyH_ready (rs:=[5]) (by kernel_rfl) (by simp) ?_;refine AllReadyH.cons (o:=_) (by simp only[List.getElem?_toArray,List.getElem?_cons_succ,List.getElem?_cons_zero];rfl) (λK hK=>?_) AllReadyH.nil
 go_simp
 have G5:=hid (G4xx.out.set 2 (.int .i64 1));clear z0 y0;refine hK.out _ _ G5.out.b0 (λhHeld=>?_);clear hK K;refine wpAnyH_take (i:=6) (oi:=_) (v:=?_) (by simp only[List.getElem?_toArray,List.getElem?_cons_succ,List.getElem?_cons_zero];rfl) (by kernel_rfl) (by kernel_rfl) (by kernel_rfl) (by exact λ_ _ _ h=>h) (Or.inl ⟨by rfl,?_⟩) (by assumption) ?_;rotate_left
 ·(intro w hSw;(try dsimp only at hSw);go_simp;try with_reducible rfl)
 simp only[Act.put,List.setIfInBounds_toArray,List.set_cons_zero,List.set_cons_succ];have z0:=G5.out.at 3 _ rfl;have y0:=G5.out.fz 3;refine wpAnyH_ready (rs:=[7]) (by kernel_rfl) (by simp) ?_;refine AllReadyH.cons (o:=_) (by simp only[List.getElem?_toArray,List.getElem?_cons_succ,List.getElem?_cons_zero];rfl) (λK hK=>?_) AllReadyH.nil
 go_simp
 have G8:=hid (G5.out.set 3 (.int .i64 1));clear z0 y0;refine hK.out _ _ G8.out.b0 (λhHeld=>?_);clear hK K;refine wpAnyH_done (by kernel_rfl) ?_ _;clear b0 hHeld G4 G4x G4xx G5
 try clear hHeld
 obtain⟨W8,hW8⟩:∃W8,W8=((wa3.setCell ⟨n+2,2,none⟩ (.int .i64 1)).setCell ⟨n+2,3,none⟩ (.int .i64 1)):=⟨_,rfl⟩;have GW:=hid (show GetAt w W8 29 q p s ⟨4,0,0⟩ n #[.int .i64 0,.int .i64 0,.int .i64 0,.int .i64 0,.slice none 0 0,.slice none 0 0,.slice none 0 0,.slice none 0 0,.slice none 0 0] #[.int .i64 (c:Int),.int .i64 0,.int .i64 1,.int .i64 1,.slice none 0 0,.slice none 0 0,.slice none 0 0,.slice none 0 0,.slice none 0 0]from by rw[hW8];exact G8.out);rw[← hW8];clear hW8 G8;have b0:=GW.out.b0
 go_wp2_with fail
 refine(cA _ W8 q p s 4 GW.out.rd (HS.out 4 _ rfl)).mono ?_;rintro e wb4 ⟨rfl,h1,hf1⟩;have GY4:=hid (GW.out.step h1 hf1);have b1:=GY4.out.b0;have z1:=GY4.out.at 4 (.slice none 0 0) rfl;have y1:=GY4.out.fz 4;have GL4:=hid (show GetAt w (wb4.setCell ⟨n+2,4,none⟩ (.slice none 0 0)) 29 q p s ⟨5,0,0⟩ n #[.int .i64 0,.int .i64 0,.int .i64 0,.int .i64 0,.slice none 0 0,.slice none 0 0,.slice none 0 0,.slice none 0 0,.slice none 0 0] #[.int .i64 (c:Int),.int .i64 0,.int .i64 1,.int .i64 1,.slice none 0 0,.slice none 0 0,.slice none 0 0,.slice none 0 0,.slice none 0 0]from GY4.out.set 4 (.slice none 0 0));clear h1 hf1 b0 GW;have b0:=GL4.out.b0
 go_wp2_with fail
 refine(cB _ (wb4.setCell ⟨n+2,4,none⟩ (.slice none 0 0)) q p s 5 GL4.out.rd (HS.out 5 _ rfl)).mono ?_;rintro e wb5 ⟨rfl,h1,hf1⟩;have GY5:=hid (GL4.out.step h1 hf1);have b1:=GY5.out.b0;have z1:=GY5.out.at 5 (.slice none 0 0) rfl;have y1:=GY5.out.fz 5;have GL5:=hid (show GetAt w (wb5.setCell ⟨n+2,5,none⟩ (.slice none 0 0)) 29 q p s ⟨6,0,0⟩ n #[.int .i64 0,.int .i64 0,.int .i64 0,.int .i64 0,.slice none 0 0,.slice none 0 0,.slice none 0 0,.slice none 0 0,.slice none 0 0] #[.int .i64 (c:Int),.int .i64 0,.int .i64 1,.int .i64 1,.slice none 0 0,.slice none 0 0,.slice none 0 0,.slice none 0 0,.slice none 0 0]from GY5.out.set 5 (.slice none 0 0));clear h1 hf1 b0 GL4;have b0:=GL5.out.b0
 go_wp2_with fail
 refine(cC _ (wb5.setCell ⟨n+2,5,none⟩ (.slice none 0 0)) q p s 6 GL5.out.rd (HS.out 6 _ rfl)).mono ?_;rintro e wb6 ⟨rfl,h1,hf1⟩;have GY6:=hid (GL5.out.step h1 hf1);have b1:=GY6.out.b0;have z1:=GY6.out.at 6 (.slice none 0 0) rfl;have y1:=GY6.out.fz 6;have GL6:=hid (show GetAt w (wb6.setCell ⟨n+2,6,none⟩ (.slice none 0 0)) 29 q p s ⟨7,0,0⟩ n #[.int .i64 0,.int .i64 0,.int .i64 0,.int .i64 0,.slice none 0 0,.slice none 0 0,.slice none 0 0,.slice none 0 0,.slice none 0 0] #[.int .i64 (c:Int),.int .i64 0,.int .i64 1,.int .i64 1,.slice none 0 0,.slice none 0 0,.slice none 0 0,.slice none 0 0,.slice none 0 0]from GY6.out.set 6 (.slice none 0 0));clear h1 hf1 b0 GL5;have b0:=GL6.out.b0
 go_wp2_with fail
 refine(cD _ (wb6.setCell ⟨n+2,6,none⟩ (.slice none 0 0)) q p s 7 GL6.out.rd (HS.out 7 _ rfl)).mono ?_;rintro e wb7 ⟨rfl,h1,hf1⟩;have GY7:=hid (GL6.out.step h1 hf1);have b1:=GY7.out.b0;have z1:=GY7.out.at 7 (.slice none 0 0) rfl;have y1:=GY7.out.fz 7;have GL7:=hid (show GetAt w (wb7.setCell ⟨n+2,7,none⟩ (.slice none 0 0)) 29 q p s ⟨8,0,0⟩ n #[.int .i64 0,.int .i64 0,.int .i64 0,.int .i64 0,.slice none 0 0,.slice none 0 0,.slice none 0 0,.slice none 0 0,.slice none 0 0] #[.int .i64 (c:Int),.int .i64 0,.int .i64 1,.int .i64 1,.slice none 0 0,.slice none 0 0,.slice none 0 0,.slice none 0 0,.slice none 0 0]from GY7.out.set 7 (.slice none 0 0));clear h1 hf1 b0 GL6;have b0:=GL7.out.b0
 go_wp2_with fail
 refine(cE _ (wb7.setCell ⟨n+2,7,none⟩ (.slice none 0 0)) q p s 8 GL7.out.rd (HS.out 8 _ rfl)).mono ?_;rintro e wb8 ⟨rfl,h1,hf1⟩;have GY8:=hid (GL7.out.step h1 hf1);have b1:=GY8.out.b0;have z1:=GY8.out.at 8 (.slice none 0 0) rfl;have y1:=GY8.out.fz 8;have GL8:=hid (show GetAt w (wb8.setCell ⟨n+2,8,none⟩ (.slice none 0 0)) 29 q p s ⟨9,0,0⟩ n #[.int .i64 0,.int .i64 0,.int .i64 0,.int .i64 0,.slice none 0 0,.slice none 0 0,.slice none 0 0,.slice none 0 0,.slice none 0 0] #[.int .i64 (c:Int),.int .i64 0,.int .i64 1,.int .i64 1,.slice none 0 0,.slice none 0 0,.slice none 0 0,.slice none 0 0,.slice none 0 0]from GY8.out.set 8 (.slice none 0 0));clear h1 hf1 b0 GL7;have e0:=GL8.out.at 0 (.int .i64 (c:Int)) rfl;have e1:=GL8.out.at 1 (.int .i64 0) rfl;have e2:=GL8.out.at 2 (.int .i64 1) rfl;have e3:=GL8.out.at 3 (.int .i64 1) rfl;have e4:=GL8.out.at 4 (.slice none 0 0) rfl;have e5:=GL8.out.at 5 (.slice none 0 0) rfl;have e6:=GL8.out.at 6 (.slice none 0 0) rfl;have e7:=GL8.out.at 7 (.slice none 0 0) rfl;have e8:=GL8.out.at 8 (.slice none 0 0) rfl;have r0:=GL8.out.rs 0 (.int .i64 0) rfl;have f0:=GL8.out.rz 0;have r1:=GL8.out.rs 1 (.int .i64 0) rfl;have f1:=GL8.out.rz 1;have r2:=GL8.out.rs 2 (.int .i64 0) rfl;have f2:=GL8.out.rz 2;have r3:=GL8.out.rs 3 (.int .i64 0) rfl;have f3:=GL8.out.rz 3;have r4:=GL8.out.rs 4 (.slice none 0 0) rfl;have f4:=GL8.out.rz 4;have r5:=GL8.out.rs 5 (.slice none 0 0) rfl;have f5:=GL8.out.rz 5;have r6:=GL8.out.rs 6 (.slice none 0 0) rfl;have f6:=GL8.out.rz 6;have r7:=GL8.out.rs 7 (.slice none 0 0) rfl;have f7:=GL8.out.rz 7;have r8:=GL8.out.rs 8 (.slice none 0 0) rfl;have f8:=GL8.out.rz 8;have GR0:=hid (show GetAt w _ 29 q p s _ n #[.int .i64 (c:Int),.int .i64 0,.int .i64 0,.int .i64 0,.slice none 0 0,.slice none 0 0,.slice none 0 0,.slice none 0 0,.slice none 0 0] _ from GL8.out.setR 0 (.int .i64 (c:Int)));clear GL8;have GR1:=hid (show GetAt w _ 29 q p s _ n #[.int .i64 (c:Int),.int .i64 0,.int .i64 0,.int .i64 0,.slice none 0 0,.slice none 0 0,.slice none 0 0,.slice none 0 0,.slice none 0 0] _ from GR0.out.setR 1 (.int .i64 0));clear GR0;have GR2:=hid (show GetAt w _ 29 q p s _ n #[.int .i64 (c:Int),.int .i64 0,.int .i64 1,.int .i64 0,.slice none 0 0,.slice none 0 0,.slice none 0 0,.slice none 0 0,.slice none 0 0] _ from GR1.out.setR 2 (.int .i64 1));clear GR1;have GR3:=hid (show GetAt w _ 29 q p s _ n #[.int .i64 (c:Int),.int .i64 0,.int .i64 1,.int .i64 1,.slice none 0 0,.slice none 0 0,.slice none 0 0,.slice none 0 0,.slice none 0 0] _ from GR2.out.setR 3 (.int .i64 1));clear GR2;have GR4:=hid (show GetAt w _ 29 q p s _ n #[.int .i64 (c:Int),.int .i64 0,.int .i64 1,.int .i64 1,.slice none 0 0,.slice none 0 0,.slice none 0 0,.slice none 0 0,.slice none 0 0] _ from GR3.out.setR 4 (.slice none 0 0));clear GR3;have GR5:=hid (show GetAt w _ 29 q p s _ n #[.int .i64 (c:Int),.int .i64 0,.int .i64 1,.int .i64 1,.slice none 0 0,.slice none 0 0,.slice none 0 0,.slice none 0 0,.slice none 0 0] _ from GR4.out.setR 5 (.slice none 0 0));clear GR4;have GR6:=hid (show GetAt w _ 29 q p s _ n #[.int .i64 (c:Int),.int .i64 0,.int .i64 1,.int .i64 1,.slice none 0 0,.slice none 0 0,.slice none 0 0,.slice none 0 0,.slice none 0 0] _ from GR5.out.setR 6 (.slice none 0 0));clear GR5;have GR7:=hid (show GetAt w _ 29 q p s _ n #[.int .i64 (c:Int),.int .i64 0,.int .i64 1,.int .i64 1,.slice none 0 0,.slice none 0 0,.slice none 0 0,.slice none 0 0,.slice none 0 0] _ from GR6.out.setR 7 (.slice none 0 0));clear GR6;have GR8:=hid (show GetAt w _ 29 q p s _ n #[.int .i64 (c:Int),.int .i64 0,.int .i64 1,.int .i64 1,.slice none 0 0,.slice none 0 0,.slice none 0 0,.slice none 0 0,.slice none 0 0] _ from GR7.out.setR 8 (.slice none 0 0));clear GR7;have GF:=GR8;clear GR8;go_wp2;have o0:=(cell_of_row _ _ 0 _ _ _ GF.out.res).trans (show _=some (.int .i64 (c:Int))from rfl);have o1:=(cell_of_row _ _ 1 _ _ _ GF.out.res).trans (show _=some (.int .i64 0)from rfl);have o2:=(cell_of_row _ _ 2 _ _ _ GF.out.res).trans (show _=some (.int .i64 1)from rfl);have o3:=(cell_of_row _ _ 3 _ _ _ GF.out.res).trans (show _=some (.int .i64 1)from rfl);have o4:=(cell_of_row _ _ 4 _ _ _ GF.out.res).trans (show _=some (.slice none 0 0)from rfl);have o5:=(cell_of_row _ _ 5 _ _ _ GF.out.res).trans (show _=some (.slice none 0 0)from rfl);have o6:=(cell_of_row _ _ 6 _ _ _ GF.out.res).trans (show _=some (.slice none 0 0)from rfl);have o7:=(cell_of_row _ _ 7 _ _ _ GF.out.res).trans (show _=some (.slice none 0 0)from rfl);have o8:=(cell_of_row _ _ 8 _ _ _ GF.out.res).trans (show _=some (.slice none 0 0)from rfl);refine bodyPost_ret (v:=.agg #[.int .i64 (c:Int),.int .i64 0,.int .i64 1,.int .i64 1,.slice none 0 0,.slice none 0 0,.slice none 0 0,.slice none 0 0,.slice none 0 0]) (by simp[results,Tryz.results106,go_sem,o0,o1,o2,o3,o4,o5,o6,o7,o8]) rfl ⟨rfl,GF.out.rd,GF.out.fr⟩
set_option maxRecDepth 100000 in
theorem jb (c:Nat)(hc:c<128)(w:World)(q p:Nat)(s:ByteArray)(h:RdrAt w q p s ⟨9,0,0⟩)(hs:s.data.toList=iT c) :
  Calls Tryz.prog 107 #[.pointer (some ⟨q,0,none⟩)] w λe w'=>e = .returned (dl)∧RdrAt w' q p s ⟨13,0,0⟩∧Fr (λk=>k=p) w w':=by
 have hmf:∀(fn:Fn) (first cap:Array Value) (w:World),(Instr.makeFunc fn first cap).run Tryz.prog w = .ok (.func fn first cap) w:=λ_ _ _ _=>rfl;have hp:=h.rd.lt;have hq:=lt_of_block h.cell;have H:=hid h;have HS:=hid (λ(k:Nat) (b:UInt8) (e:(iT c)[k]?=some b)=>(by rw[hs];exact e:s.data.toList[k]?=some b));have hcb:(UInt8.ofNat c).toNat=c:=by simp;omega
 have HCB:=hid hcb;clear h hs hcb
 go_enter Tryz.func107,Tryz.ntmps107
 go_wp2_with fail
 obtain⟨n,hn⟩:∃n,n=w.heap.size:=⟨_,rfl⟩;obtain⟨W0,hW0⟩:∃W0,W0=((w.alloc (.cells #[.pointer (some ⟨q,0,none⟩)] 189)).alloc (.cells #[.slice none 0 0,.slice none 0 0,.slice none 0 0,.slice none 0 0] 35)).alloc (.cells #[.slice none 0 0,.slice none 0 0,.slice none 0 0,.slice none 0 0] 35):=⟨_,rfl⟩;have g0:GetAt w W0 35 q p s ⟨9,0,0⟩ n #[.slice none 0 0,.slice none 0 0,.slice none 0 0,.slice none 0 0] #[.slice none 0 0,.slice none 0 0,.slice none 0 0,.slice none 0 0]:=by
  have hbel:Below w.heap.size w W0:=by rw[hW0];exact(((Below.refl _ _).alloc (Nat.le_refl _) _).alloc (by simp) _).alloc (by simp<;>omega) _
  refine⟨H.out.pure hbel,?_,?_,?_,Fr.pure hbel,hn,by omega,by omega⟩
  ·rw[hW0,hn];exact(Below.heap_alloc _ _ _ (by simp<;>omega)).trans ((Below.heap_alloc _ _ _ (by simp<;>omega)).trans (heap_alloc_new _ _))
  ·rw[hW0,hn];exact(Below.heap_alloc _ _ _ (by simp<;>omega)).trans (cK _ _ (by simp))
  ·rw[hW0,hn];exact cK _ _ (by simp)
 have G0:=hid g0;rw[← hW0,← hn]
 try simp only[Nat.add_assoc,Nat.reduceAdd]
 clear hW0 hn g0 hp hq;refine(cF _ W0 q p s 9 G0.out.rd (HS.out 9 _ rfl)).mono ?_;rintro e wb0 ⟨rfl,h1,hf1⟩;have GY0:=hid (G0.out.step h1 hf1);have b1:=GY0.out.b0;have z1:=GY0.out.at 0 (.slice none 0 0) rfl;have y1:=GY0.out.fz 0;have GL0:=hid (show GetAt w (wb0.setCell ⟨n+2,0,none⟩ (.slice none 0 0)) 35 q p s ⟨10,0,0⟩ n #[.slice none 0 0,.slice none 0 0,.slice none 0 0,.slice none 0 0] #[.slice none 0 0,.slice none 0 0,.slice none 0 0,.slice none 0 0]from GY0.out.set 0 (.slice none 0 0));clear h1 hf1 G0;have b0:=GL0.out.b0
 go_wp2_with fail
 refine(cG _ (wb0.setCell ⟨n+2,0,none⟩ (.slice none 0 0)) q p s 10 GL0.out.rd (HS.out 10 _ rfl)).mono ?_;rintro e wb1 ⟨rfl,h1,hf1⟩;have GY1:=hid (GL0.out.step h1 hf1);have b1:=GY1.out.b0;have z1:=GY1.out.at 1 (.slice none 0 0) rfl;have y1:=GY1.out.fz 1;have GL1:=hid (show GetAt w (wb1.setCell ⟨n+2,1,none⟩ (.slice none 0 0)) 35 q p s ⟨11,0,0⟩ n #[.slice none 0 0,.slice none 0 0,.slice none 0 0,.slice none 0 0] #[.slice none 0 0,.slice none 0 0,.slice none 0 0,.slice none 0 0]from GY1.out.set 1 (.slice none 0 0));clear h1 hf1 b0 GL0;have b0:=GL1.out.b0
 go_wp2_with fail
 refine(cH _ (wb1.setCell ⟨n+2,1,none⟩ (.slice none 0 0)) q p s 11 GL1.out.rd (HS.out 11 _ rfl)).mono ?_;rintro e wb2 ⟨rfl,h1,hf1⟩;have GY2:=hid (GL1.out.step h1 hf1);have b1:=GY2.out.b0;have z1:=GY2.out.at 2 (.slice none 0 0) rfl;have y1:=GY2.out.fz 2;have GL2:=hid (show GetAt w (wb2.setCell ⟨n+2,2,none⟩ (.slice none 0 0)) 35 q p s ⟨12,0,0⟩ n #[.slice none 0 0,.slice none 0 0,.slice none 0 0,.slice none 0 0] #[.slice none 0 0,.slice none 0 0,.slice none 0 0,.slice none 0 0]from GY2.out.set 2 (.slice none 0 0));clear h1 hf1 b0 GL1;have b0:=GL2.out.b0
 go_wp2_with fail
 refine(cI _ (wb2.setCell ⟨n+2,2,none⟩ (.slice none 0 0)) q p s 12 GL2.out.rd (HS.out 12 _ rfl)).mono ?_;rintro e wb3 ⟨rfl,h1,hf1⟩;have GY3:=hid (GL2.out.step h1 hf1);have b1:=GY3.out.b0;have z1:=GY3.out.at 3 (.slice none 0 0) rfl;have y1:=GY3.out.fz 3;have GL3:=hid (show GetAt w (wb3.setCell ⟨n+2,3,none⟩ (.slice none 0 0)) 35 q p s ⟨13,0,0⟩ n #[.slice none 0 0,.slice none 0 0,.slice none 0 0,.slice none 0 0] #[.slice none 0 0,.slice none 0 0,.slice none 0 0,.slice none 0 0]from GY3.out.set 3 (.slice none 0 0));clear h1 hf1 b0 GL2;have e0:=GL3.out.at 0 (.slice none 0 0) rfl;have e1:=GL3.out.at 1 (.slice none 0 0) rfl;have e2:=GL3.out.at 2 (.slice none 0 0) rfl;have e3:=GL3.out.at 3 (.slice none 0 0) rfl;have r0:=GL3.out.rs 0 (.slice none 0 0) rfl;have f0:=GL3.out.rz 0;have r1:=GL3.out.rs 1 (.slice none 0 0) rfl;have f1:=GL3.out.rz 1;have r2:=GL3.out.rs 2 (.slice none 0 0) rfl;have f2:=GL3.out.rz 2;have r3:=GL3.out.rs 3 (.slice none 0 0) rfl;have f3:=GL3.out.rz 3;have GR0:=hid (show GetAt w _ 35 q p s _ n #[.slice none 0 0,.slice none 0 0,.slice none 0 0,.slice none 0 0] _ from GL3.out.setR 0 (.slice none 0 0));clear GL3;have GR1:=hid (show GetAt w _ 35 q p s _ n #[.slice none 0 0,.slice none 0 0,.slice none 0 0,.slice none 0 0] _ from GR0.out.setR 1 (.slice none 0 0));clear GR0;have GR2:=hid (show GetAt w _ 35 q p s _ n #[.slice none 0 0,.slice none 0 0,.slice none 0 0,.slice none 0 0] _ from GR1.out.setR 2 (.slice none 0 0));clear GR1;have GR3:=hid (show GetAt w _ 35 q p s _ n #[.slice none 0 0,.slice none 0 0,.slice none 0 0,.slice none 0 0] _ from GR2.out.setR 3 (.slice none 0 0));clear GR2;have GF:=GR3;clear GR3;go_wp2;have o0:=(cell_of_row _ _ 0 _ _ _ GF.out.res).trans (show _=some (.slice none 0 0)from rfl);have o1:=(cell_of_row _ _ 1 _ _ _ GF.out.res).trans (show _=some (.slice none 0 0)from rfl);have o2:=(cell_of_row _ _ 2 _ _ _ GF.out.res).trans (show _=some (.slice none 0 0)from rfl);have o3:=(cell_of_row _ _ 3 _ _ _ GF.out.res).trans (show _=some (.slice none 0 0)from rfl);refine bodyPost_ret (v:=.agg #[.slice none 0 0,.slice none 0 0,.slice none 0 0,.slice none 0 0]) (by simp[results,Tryz.results107,go_sem,o0,o1,o2,o3]) rfl ⟨rfl,GF.out.rd,GF.out.fr⟩
theorem jc (n:Nat)(p:Nat)(v:Value)(L:List UInt8)(w:World)(hn:n<256)(h:IsWr w p v L)(hL:L.length≤1073741824) :
  Calls Tryz.prog 182 #[.pointer (some ⟨p,0,none⟩),.int .u8 (n:Int)] w λe w'=>e = .returned (.tuple #[])∧∃v',WrTo p w w' v v' (L++[UInt8.ofNat n]):=by
 have H:=hid h;have HB:=hid (bJ n hn);clear h
 go_enter Tryz.func182,Tryz.ntmps182
 go_wp2_with fail
 refine(bt n p v L _ H.out hL).mono ?_;rintro e w1 ⟨rfl,h1⟩;have H1:=hid h1;clear h1;go_wp2
 go_end0
 exact⟨rfl,by have:=H1.out;rw[HB.out]at this;exact this⟩
set_option maxRecDepth 100000 in
theorem jd (n:Nat)(p:Nat)(v:Value)(L:List UInt8)(w:World)(hn:n<18446744073709551616)(h:IsWr w p v L)(hL:L.length+10≤1073741824) :
  Calls Tryz.prog 235 #[.pointer (some ⟨p,0,none⟩),.int .u64 (n:Int)] w λe w'=>e = .returned (.tuple #[])∧∃v',WrTo p w w' v v' (L++bE n):=by
 have H:=hid h;have hl10:=bI n hn;clear h
 go_enter Tryz.func235,Tryz.ntmps235
 go_wp2
 go_loopw [1] (λx wr=>∃(m:Nat) (v1:Value) (L1:List UInt8),x = .int .u64 (m:Int)∧m<18446744073709551616∧Hid (WrTo p w wr v v1 L1)∧Hid (L1++bE m=L++bE n)) (λx _=>(intOf x).toNat)
 case atStart=>exact⟨n,v,L,rfl,hn,hid ⟨H.out,Fr.refl _ _,Went.refl _ _⟩,hid rfl⟩
 case round=>
  obtain⟨m,v1,L1,rfl,hm,HW,HE⟩:=hrel;have hl1:L1.length≤1073741824:=by
   have:=congrArg List.length HE.out;rw[List.length_append,List.length_append]at this;omega
  by_cases hs:m<128
  ·have HF:=hid (show L1++[UInt8.ofNat m]=L++bE n from by rw[← HE.out,bF hs])
   have hmm:(m:Int) % 256=(m:Int):=by omega
   go_wp2_with fail
   try rw[hmm]
   refine(jc m p v1 L1 wr (by omega) HW.out.is hl1).mono ?_;rintro e w1 ⟨rfl,v2,h2⟩;have H2:=hid (HW.out.trans h2);clear h2;go_wp2
   go_end0
   exact⟨rfl,v2,by rw[← HF.out];exact H2.out⟩
  ·have HO:=hid (bK m)
   have HG:=hid (bL HE.out hs)
   go_wp2_with fail
   rw[HO.out];refine(jc (m % 128+128) p v1 L1 wr (by omega) HW.out.is hl1).mono ?_;rintro e w1 ⟨rfl,v2,h2⟩;have H2:=hid (HW.out.trans h2);clear h2;go_wp2
   go_roundw
   case rel=>exact⟨m / 128,v2,_,by go_num,by omega,H2,HG⟩
   case measure=>simp[intOf];omega
theorem je (s:ByteArray)(p:Nat)(v:Value)(L:List UInt8)(w:World)(h:IsWr w p v L)(hL:L.length+10+s.size≤1073741824) :
  Calls Tryz.prog 174 #[.pointer (some ⟨p,0,none⟩),.string s] w λe w'=>e = .returned (.tuple #[])∧∃v',WrTo p w w' v v' (L++(bE s.size++s.data.toList)):=by
 have H:=hid h;have hl10:=bI s.size (by omega);clear h
 go_enter Tryz.func174,Tryz.ntmps174
 go_wp2_with fail
 refine(jd s.size p v L w (by omega) H.out (by omega)).mono ?_;rintro e w1 ⟨rfl,v1,h1⟩;have H1:=hid h1;clear h1
 go_wp2_with fail
 refine(bB s p v1 _ w1 H1.out.is (by rw[List.length_append];omega)).mono ?_;rintro e w2 ⟨rfl,v2,h2⟩;have H2:=hid (H1.out.trans h2);clear h2;go_wp2
 go_end0
 exact⟨rfl,v2,by rw[← List.append_assoc];exact H2.out⟩
theorem jf (p:Nat)(v:Value)(L:List UInt8)(w:World)(h:IsWr w p v L) :
  Calls Tryz.prog 113 #[.pointer (some ⟨p,0,none⟩)] w λe w'=>e = .returned (.int .i64 (L.length:Int))∧w=w':=by
 have H:=hid h;clear h
 go_enter Tryz.func113,Tryz.ntmps113
 go_wp2_with fail
 refine(bD p v L w H.out).mono ?_;rintro e w1 ⟨r,hr,rfl,rfl⟩;have hz:r.size=L.length:=ay hr;have HR:=hid hz;clear hr hz;go_wp2;go_ret;exact⟨by show Ending.returned (.int .i64 (r.size:Int))=_;rw[HR.out],rfl⟩
theorem WrTo.alloc {p:Nat}{w w1:World}{v v1:Value}{L:List UInt8}(h:WrTo p w w1 v v1 L)(o:Obj):WrTo p w (w1.alloc o) v v1 L:=
 ⟨h.is.kept (S:=λ_=>False) ((Fr.refl _ _).alloc o) (λhf=>hf) (λ_ _ hf=>hf),h.fr.alloc o,h.went⟩
theorem WrTo.start {p:Nat}{w:World}{v:Value}{L:List UInt8}(h:IsWr w p v L):WrTo p w w v v L:=⟨h,Fr.refl _ _,Went.refl _ _⟩
theorem IsWr.fresh (w:World):IsWr (w.alloc (.cells #[.slice none 0 0] 155)) w.heap.size (.slice none 0 0) []:=⟨heap_alloc_new _ _,World.ownsRow_nil _ _ _ _,by simp[Value.ownBlock]⟩
theorem WrTo.cell {p:Nat}{wa wr:World}{v:Value}{L:List UInt8}(h:WrTo p wa wr (.slice none 0 0) v L){b o:Nat}{x:Value}(hb:wa.cell? ⟨b,o,none⟩=some x)(hne:b≠p):wr.cell? ⟨b,o,none⟩=some x:=
 h.fr.cellAt hb (λk=>k.elim hne (by simp[Value.ownBlock]))
def jg (n:Int):Nat:=(n % 18446744073709551616).toNat
def jh (ns:List Int):List UInt8:=ns.flatMap (λn=>bE (jg n))
theorem ji (ns:List Int)(n:Int):jh (ns++[n])=jh ns++bE (jg n):=by unfold jh;simp
theorem jj (ns:List Int):(jh ns).length≤10*ns.length:=by
 unfold jh
 induction ns with
 | nil=>simp
 | cons n r ih=>
  rw[List.flatMap_cons,List.length_append,List.length_cons];have:=bI (jg n) (by unfold jg;omega);omega
theorem IsWr.lto {w:World}{p:Nat}{v:Value}{L:List UInt8}(h:IsWr w p v L){g:Nat}(hg:v.ownBlock=some g):g<w.heap.size:=by
 rcases h.own.2 with⟨rfl,_⟩|⟨k,cap,cur,rfl,_,hh,_⟩
 ·cases hg
 ·cases hg;exact lt_of_block hh
theorem WrTo.cellx {p:Nat}{w w1:World}{v v1:Value}{L:List UInt8}(h:WrTo p w w1 v v1 L){b o:Nat}{x:Value}(hb:w.cell? ⟨b,o,none⟩=some x)(hne:b≠p)(hv:v.ownBlock≠some b):w1.cell? ⟨b,o,none⟩=some x:=
 h.fr.cellAt hb (by rintro(e|e);exact hne e;exact hv e)
set_option maxRecDepth 100000 in
theorem jk (sv:Value)(ns:List Int)(p:Nat)(v:Value)(L:List UInt8)(w:World)(h:IsWr w p v L)(hs:IntsAt w sv ns)(hsb:∀g,sv.ownBlock=some g→g≠p∧v.ownBlock≠some g)(hn:ns.length≤100)(hL:L.length≤1000000) :
  Calls Tryz.prog 171 #[.pointer (some ⟨p,0,none⟩),sv] w λe w'=>e = .returned (.tuple #[])∧∃v',WrTo p w w' v v' (L++jh ns):=by
 obtain⟨a,c,rfl,_,hc⟩:=hs;have hrow:∀i (hi:i<ns.length),∃g o,a=some ⟨g,o,none⟩∧w.cell? ⟨g,o+i,none⟩=some (.int .i64 ns[i]):=λi hi=>by
  rcases hc with rfl|⟨b,o,rfl,hcell⟩
  ·simp at hi
  ·exact⟨b,o,rfl,hcell i hi⟩
 have H:=hid h;have HR:=hid hrow;have HSB:=hid hsb;clear h hc hrow hsb
 go_enter Tryz.func171,Tryz.ntmps171
 go_wp2
 go_loopw [8] (λi wr=>∃(k:Nat) (v1:Value),i = .int .i64 k∧k≤ns.length∧Hid (WrTo p w wr v v1 (L++jh (ns.take k)))) (λi _=>ns.length-(intOf i).toNat)
 case atStart=>exact⟨0,v,rfl,by omega,hid (by rw[List.take_zero];show WrTo p w w v v (L++[]);rw[List.append_nil];exact⟨H.out,Fr.refl _ _,Went.refl _ _⟩)⟩
 case round=>
  obtain⟨k,v1,rfl,hk,HW⟩:=hrel;by_cases hlt:k<ns.length
  ·obtain⟨g,o,rfl,hcell⟩:=HR.out k hlt
   have hgb:=HSB.out g rfl;have hcell:=HW.out.cellx hcell hgb.1 hgb.2;have hlen:(L++jh (ns.take k)).length+10≤1073741824:=by
    have:=jj (ns.take k);rw[List.length_take]at this;rw[List.length_append];omega
   obtain⟨z,hz⟩:∃z,z=ns[k]:=⟨_,rfl⟩;rw[← hz]at hcell;have HST:=hid (show jh (ns.take (k+1))=jh (ns.take k)++bE (jg z)from by rw[List.take_succ_eq_append_getElem hlt,ji,hz]);have hu:IntKind.u64.wrap z=((jg z:Nat):Int):=by unfold jg;rw[IntKind.wrap_u64];omega
   clear hz hgb
   go_wp2_with fail
   try rw[hu]
   refine(jd (jg z) p v1 _ wr (by unfold jg;omega) HW.out.is hlen).mono ?_;rintro e w1 ⟨rfl,v2,h2⟩;have H2:=hid (HW.out.trans h2);clear h2;go_wp2
   go_roundw
   case rel=>exact⟨k+1,v2,by go_num,by omega,hid (by rw[HST.out,← List.append_assoc];exact H2.out)⟩
   case measure=>simp[intOf];omega
  ·have hkl:k=ns.length:=by omega
   have HE:=hid (show WrTo p w wr v v1 (L++jh ns)from by have:=HW.out;rwa [hkl,List.take_length]at this);go_wp2
   go_end0
   exact⟨rfl,v1,HE.out⟩
end
end Go.Proofs.YtaeakdichkhjaaaGreatDoor
