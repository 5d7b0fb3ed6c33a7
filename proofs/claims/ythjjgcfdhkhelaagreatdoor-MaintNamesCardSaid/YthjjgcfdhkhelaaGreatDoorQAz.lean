/- The walks of snap.put and project, where there are none. -/
import Derived.Test.YthjjgcfdhkhelaaGreatDoorQAt
import Derived.Test.YthjjgcfdhkhelaaGreatDoorQAv
set_option maxHeartbeats 4000000
set_option maxRecDepth 100000
open Go.Lib(hid)
open Go.Proofs.Tryz
namespace Go.Proofs.YthjjgcfdhkhelaaGreatDoor
section
open Go.RowKit
structure Bo (w W:World) (T:TypeId) (q p:Nat) (s:ByteArray) (st:bc) (n:Nat) (Z C:Array Value):Prop where
 rd:Am W q p s st
 box:W.heap[n]?=some (.cells #[.pointer (some ⟨q,0,none⟩)] 358 (0,0))
 res:W.heap[n+1]?=some (.cells Z T (0,0))
 loc:W.heap[n+2]?=some (.cells C T (0,0))
 fr:Fr (λk=>k=p) w W
 hn:n=w.heap.size
 hp:p<n
 hq:q<n
theorem Bo.step {w W W':World}{T:TypeId}{q p:Nat}{s:ByteArray}{st st':bc}{n:Nat}{Z C:Array Value}(h:Bo w W T q p s st n Z C)(h1:Am W' q p s st')(hf:Fr (λk=>k=p) W W'):Bo w W' T q p s st' n Z C:=
 ⟨h1,hf.heapAt h.box (by have:=h.hp;omega),hf.heapAt h.res (by have:=h.hp;omega),hf.heapAt h.loc (by have:=h.hp;omega),h.fr.trans hf,h.hn,h.hp,h.hq⟩
theorem Bo.set {w W:World}{T:TypeId}{q p:Nat}{s:ByteArray}{st:bc}{n:Nat}{Z C:Array Value}(h:Bo w W T q p s st n Z C)(j:Nat)(v:Value):Bo w (W.setCell ⟨n+2,j,none⟩ v) T q p s st n Z (C.setIfInBounds j v):=
 ⟨h.rd.kept (dK _ _) (by have:=h.hq;show ¬q=n+2;omega) (by have:=h.hp;show ¬p=n+2;omega),(dK _ _).heapAt h.box (by show ¬n=n+2;omega),(dK _ _).heapAt h.res (by show ¬n+1=n+2;omega),heap_setCell_same _ _ _ _ _ _ h.loc,h.fr.setCell ⟨n+2,j,none⟩ (λe=>by have:=h.hn;have:n+2<w.heap.size:=e;omega) v,h.hn,h.hp,h.hq⟩
theorem Bo.setR {w W:World}{T:TypeId}{q p:Nat}{s:ByteArray}{st:bc}{n:Nat}{Z C:Array Value}(h:Bo w W T q p s st n Z C)(j:Nat)(v:Value):Bo w (W.setCell ⟨n+1,j,none⟩ v) T q p s st n (Z.setIfInBounds j v) C:=
 ⟨h.rd.kept (dK _ _) (by have:=h.hq;show ¬q=n+1;omega) (by have:=h.hp;show ¬p=n+1;omega),(dK _ _).heapAt h.box (by show ¬n=n+1;omega),heap_setCell_same _ _ _ _ _ _ h.res,(dK _ _).heapAt h.loc (by show ¬n+2=n+1;omega),h.fr.setCell ⟨n+1,j,none⟩ (λe=>by have:=h.hn;have:n+1<w.heap.size:=e;omega) v,h.hn,h.hp,h.hq⟩
theorem Bo.drew {w W:World}{T:TypeId}{q p:Nat}{s:ByteArray}{st:bc}{n:Nat}{Z C:Array Value}(h:Bo w W T q p s st n Z C):Bo w W.drew T q p s st n Z C:=
 ⟨⟨h.rd.cell,h.rd.rd,h.rd.ne⟩,h.box,h.res,h.loc,h.fr.drew,h.hn,h.hp,h.hq⟩
theorem Bo.b0 {w W:World}{T:TypeId}{q p:Nat}{s:ByteArray}{st:bc}{n:Nat}{Z C:Array Value}(h:Bo w W T q p s st n Z C):W.cell? ⟨n,0,none⟩=some (.pointer (some ⟨q,0,none⟩)):=(cell_of_row _ _ _ _ _ _ h.box).trans rfl
theorem Bo.at {w W:World}{T:TypeId}{q p:Nat}{s:ByteArray}{st:bc}{n:Nat}{Z C:Array Value}(h:Bo w W T q p s st n Z C)(j:Nat)(v:Value)(e:C[j]?=some v):W.cell? ⟨n+2,j,none⟩=some v:=(cell_of_row _ _ _ _ _ _ h.loc).trans e
theorem Bo.rs {w W:World}{T:TypeId}{q p:Nat}{s:ByteArray}{st:bc}{n:Nat}{Z C:Array Value}(h:Bo w W T q p s st n Z C)(j:Nat)(v:Value)(e:Z[j]?=some v):W.cell? ⟨n+1,j,none⟩=some v:=(cell_of_row _ _ _ _ _ _ h.res).trans e
theorem Bo.rz {w W:World}{T:TypeId}{q p:Nat}{s:ByteArray}{st:bc}{n:Nat}{Z C:Array Value}(h:Bo w W T q p s st n Z C)(j:Nat):W.frozen? ⟨n+1,j,none⟩=false:=frozen_of_row _ _ j _ _ h.res
theorem Bo.fz {w W:World}{T:TypeId}{q p:Nat}{s:ByteArray}{st:bc}{n:Nat}{Z C:Array Value}(h:Bo w W T q p s st n Z C)(j:Nat):W.frozen? ⟨n+2,j,none⟩=false:=frozen_of_row _ _ j _ _ h.loc
theorem Bp (c:Nat)(hc:c<128)(w:World)(q p:Nat)(s:ByteArray)(h:Am w q p s ⟨0,0,0⟩)(hs:s.data.toList=qP c) :
  Calls prog 266 #[.pointer (some ⟨q,0,none⟩)] w λe w'=>e = .returned (AZ (c:Int) 0 1 1)∧Am w' q p s ⟨9,0,0⟩∧Fr (λk=>k=p) w w':=by
 have hmf:∀(fn:Fn) (first cap:Array Value) (w:World),(Instr.makeFunc fn first cap).run prog w = .ok (.func fn first cap) w:=λ_ _ _ _=>rfl;have hp:=h.rd.lt;have hq:=lt_of_block h.cell;have H:=hid h;have HS:=hid (λ(k:Nat) (b:UInt8) (e:(qP c)[k]?=some b)=>(by rw[hs];exact e:s.data.toList[k]?=some b));have hcb:(UInt8.ofNat c).toNat=c:=by simp;omega
 have HCB:=hid hcb;clear h hs hcb
 go_enter func266,ntmps266
 go_wp2_with fail
 obtain⟨n,hn⟩:∃n,n=w.heap.size:=⟨_,rfl⟩;obtain⟨W0,hW0⟩:∃W0,W0=((w.alloc (.cells #[.pointer (some ⟨q,0,none⟩)] 358)).alloc (.cells #[.int .i64 0,.int .i64 0,.int .i64 0,.int .i64 0,.slice none 0 0,.slice none 0 0,.slice none 0 0,.slice none 0 0,.slice none 0 0] 56)).alloc (.cells #[.int .i64 0,.int .i64 0,.int .i64 0,.int .i64 0,.slice none 0 0,.slice none 0 0,.slice none 0 0,.slice none 0 0,.slice none 0 0] 56):=⟨_,rfl⟩;have g0:Bo w W0 56 q p s ⟨0,0,0⟩ n #[.int .i64 0,.int .i64 0,.int .i64 0,.int .i64 0,.slice none 0 0,.slice none 0 0,.slice none 0 0,.slice none 0 0,.slice none 0 0] #[.int .i64 0,.int .i64 0,.int .i64 0,.int .i64 0,.slice none 0 0,.slice none 0 0,.slice none 0 0,.slice none 0 0,.slice none 0 0]:=by
  have hbel:Below w.heap.size w W0:=by rw[hW0];exact(((Below.refl _ _).alloc (Nat.le_refl _) _).alloc (by simp) _).alloc (by simp<;>omega) _
  refine⟨H.out.pure hbel,?_,?_,?_,Fr.pure hbel,hn,by omega,by omega⟩
  ·rw[hW0,hn];exact(Below.heap_alloc _ _ _ (by simp<;>omega)).trans ((Below.heap_alloc _ _ _ (by simp<;>omega)).trans (heap_alloc_new _ _))
  ·rw[hW0,hn];exact(Below.heap_alloc _ _ _ (by simp<;>omega)).trans (yS _ _ (by simp))
  ·rw[hW0,hn];exact yS _ _ (by simp)
 have G0:=hid g0;rw[← hW0,← hn]
 try simp only[Nat.add_assoc,Nat.reduceAdd]
 clear hW0 hn g0 hp hq;have b0:=G0.out.b0;refine wp_region_held_drew (S:=(λw'=>w'.cell? ⟨n,0,none⟩=some (.pointer (some ⟨q,0,none⟩)))) (by kernel_rfl) b0 (λhHeld=>?_);refine wpAnyH_take (i:=0) (oi:=_) (v:=?_) (by simp only[List.getElem?_toArray,List.getElem?_cons_zero];rfl) (by kernel_rfl) (by kernel_rfl) (by kernel_rfl) (by exact λ_ _ _ h=>h) (Or.inl ⟨by rfl,?_⟩) (by assumption) ?_;rotate_left
 ·(intro w hSw;(try dsimp only at hSw);go_simp;try with_reducible rfl)
 simp only[Act.put,List.setIfInBounds_toArray,List.set_cons_zero,List.set_cons_succ];refine wpAnyH_take (i:=2) (oi:=_) (v:=?_) (by simp only[List.getElem?_toArray,List.getElem?_cons_succ,List.getElem?_cons_zero];rfl) (by kernel_rfl) (by kernel_rfl) (by kernel_rfl) (by exact λ_ _ _ h=>h) (Or.inl ⟨by rfl,?_⟩) (by assumption) ?_;rotate_left
 ·(intro w hSw;(try dsimp only at hSw);go_simp;try with_reducible rfl)
 simp only[Act.put,List.setIfInBounds_toArray,List.set_cons_zero,List.set_cons_succ];refine wpAnyH_ready (rs:=[1]) (by kernel_rfl) (by simp) ?_;refine AllReadyH.cons (o:=_) (by simp only[List.getElem?_toArray,List.getElem?_cons_succ,List.getElem?_cons_zero];rfl) (λK hK=>?_) AllReadyH.nil
 go_simp
 refine(Aq _ q p s 0 (UInt8.ofNat c) G0.out.drew.rd (HS.out 0 _ rfl) (by rw[HCB.out];exact hc)).mono ?_;rintro e wa0 ⟨rfl,h1,hf1⟩;have G0x:=hid (G0.out.drew.step h1 hf1);rw[HCB.out];clear h1 hf1;refine hK.out _ _ G0x.out.b0 (λhHeld=>?_);clear hK K;refine wpAnyH_take (i:=4) (oi:=_) (v:=?_) (by simp only[List.getElem?_toArray,List.getElem?_cons_succ,List.getElem?_cons_zero];rfl) (by kernel_rfl) (by kernel_rfl) (by kernel_rfl) (by exact λ_ _ _ h=>h) (Or.inl ⟨by rfl,?_⟩) (by assumption) ?_;rotate_left
 ·(intro w hSw;(try dsimp only at hSw);go_simp;try with_reducible rfl)
 simp only[Act.put,List.setIfInBounds_toArray,List.set_cons_zero,List.set_cons_succ];refine wpAnyH_ready (rs:=[3]) (by kernel_rfl) (by simp) ?_;refine AllReadyH.cons (o:=_) (by simp only[List.getElem?_toArray,List.getElem?_cons_succ,List.getElem?_cons_zero];rfl) (λK hK=>?_) AllReadyH.nil
 go_simp
 refine(Aq _ q p s 1 (0) G0x.out.rd (HS.out 1 _ rfl) (by decide)).mono ?_;rintro e wa1 ⟨rfl,h1,hf1⟩;have G0xx:=hid (G0x.out.step h1 hf1)
 try simp only[show((UInt8.toNat 0:Nat):Int)=0 from rfl]
 clear h1 hf1;refine hK.out _ _ G0xx.out.b0 (λhHeld=>?_);clear hK K;have z0:=G0xx.out.at 0 _ rfl;have y0:=G0xx.out.fz 0;refine wpAnyH_ready (rs:=[5]) (by kernel_rfl) (by simp) ?_;refine AllReadyH.cons (o:=_) (by simp only[List.getElem?_toArray,List.getElem?_cons_succ,List.getElem?_cons_zero];rfl) (λK hK=>?_) AllReadyH.nil
 go_simp
 have G1:=hid (G0xx.out.set 0 (.int .i64 (c:Int)));clear z0 y0;refine hK.out _ _ G1.out.b0 (λhHeld=>?_);clear hK K;refine wpAnyH_take (i:=6) (oi:=_) (v:=?_) (by simp only[List.getElem?_toArray,List.getElem?_cons_succ,List.getElem?_cons_zero];rfl) (by kernel_rfl) (by kernel_rfl) (by kernel_rfl) (by exact λ_ _ _ h=>h) (Or.inl ⟨by rfl,?_⟩) (by assumption) ?_;rotate_left
 ·(intro w hSw;(try dsimp only at hSw);go_simp;try with_reducible rfl)
 simp only[Act.put,List.setIfInBounds_toArray,List.set_cons_zero,List.set_cons_succ];have z0:=G1.out.at 1 _ rfl;have y0:=G1.out.fz 1;refine wpAnyH_ready (rs:=[7]) (by kernel_rfl) (by simp) ?_;refine AllReadyH.cons (o:=_) (by simp only[List.getElem?_toArray,List.getElem?_cons_succ,List.getElem?_cons_zero];rfl) (λK hK=>?_) AllReadyH.nil
 go_simp
 have G4:=hid (G1.out.set 1 (.int .i64 0));clear z0 y0;refine hK.out _ _ G4.out.b0 (λhHeld=>?_);clear hK K;refine wpAnyH_done (by kernel_rfl) ?_ _;clear b0 hHeld G0 G0x G0xx G1
 try clear hHeld
 go_wp2_with fail
 have b0:=G4.out.b0;refine wp_region_held_drew (S:=(λw'=>w'.cell? ⟨n,0,none⟩=some (.pointer (some ⟨q,0,none⟩)))) (by kernel_rfl) b0 (λhHeld=>?_);refine wpAnyH_take (i:=0) (oi:=_) (v:=?_) (by simp only[List.getElem?_toArray,List.getElem?_cons_zero];rfl) (by kernel_rfl) (by kernel_rfl) (by kernel_rfl) (by exact λ_ _ _ h=>h) (Or.inl ⟨by rfl,?_⟩) (by assumption) ?_;rotate_left
 ·(intro w hSw;(try dsimp only at hSw);go_simp;try with_reducible rfl)
 simp only[Act.put,List.setIfInBounds_toArray,List.set_cons_zero,List.set_cons_succ];refine wpAnyH_take (i:=2) (oi:=_) (v:=?_) (by simp only[List.getElem?_toArray,List.getElem?_cons_succ,List.getElem?_cons_zero];rfl) (by kernel_rfl) (by kernel_rfl) (by kernel_rfl) (by exact λ_ _ _ h=>h) (Or.inl ⟨by rfl,?_⟩) (by assumption) ?_;rotate_left
 ·(intro w hSw;(try dsimp only at hSw);go_simp;try with_reducible rfl)
 simp only[Act.put,List.setIfInBounds_toArray,List.set_cons_zero,List.set_cons_succ];refine wpAnyH_ready (rs:=[1]) (by kernel_rfl) (by simp) ?_;refine AllReadyH.cons (o:=_) (by simp only[List.getElem?_toArray,List.getElem?_cons_succ,List.getElem?_cons_zero];rfl) (λK hK=>?_) AllReadyH.nil
 go_simp
 refine(Aq _ q p s 2 (1) G4.out.drew.rd (HS.out 2 _ rfl) (by decide)).mono ?_;rintro e wa2 ⟨rfl,h1,hf1⟩;have G4x:=hid (G4.out.drew.step h1 hf1)
 try simp only[show((UInt8.toNat 1:Nat):Int)=1 from rfl]
 clear h1 hf1;refine hK.out _ _ G4x.out.b0 (λhHeld=>?_);clear hK K;refine wpAnyH_take (i:=4) (oi:=_) (v:=?_) (by simp only[List.getElem?_toArray,List.getElem?_cons_succ,List.getElem?_cons_zero];rfl) (by kernel_rfl) (by kernel_rfl) (by kernel_rfl) (by exact λ_ _ _ h=>h) (Or.inl ⟨by rfl,?_⟩) (by assumption) ?_;rotate_left
 ·(intro w hSw;(try dsimp only at hSw);go_simp;try with_reducible rfl)
 simp only[Act.put,List.setIfInBounds_toArray,List.set_cons_zero,List.set_cons_succ];refine wpAnyH_ready (rs:=[3]) (by kernel_rfl) (by simp) ?_;refine AllReadyH.cons (o:=_) (by simp only[List.getElem?_toArray,List.getElem?_cons_succ,List.getElem?_cons_zero];rfl) (λK hK=>?_) AllReadyH.nil
 go_simp
 refine(Aq _ q p s 3 (1) G4x.out.rd (HS.out 3 _ rfl) (by decide)).mono ?_;rintro e wa3 ⟨rfl,h1,hf1⟩;have G4xx:=hid (G4x.out.step h1 hf1)
 try simp only[show((UInt8.toNat 1:Nat):Int)=1 from rfl]
 clear h1 hf1;refine hK.out _ _ G4xx.out.b0 (λhHeld=>?_);clear hK K;have z0:=G4xx.out.at 2 _ rfl;have y0:=G4xx.out.fz 2;refine wpAnyH_ready (rs:=[5]) (by kernel_rfl) (by simp) ?_;refine AllReadyH.cons (o:=_) (by simp only[List.getElem?_toArray,List.getElem?_cons_succ,List.getElem?_cons_zero];rfl) (λK hK=>?_) AllReadyH.nil
 go_simp
 have G5:=hid (G4xx.out.set 2 (.int .i64 1));clear z0 y0;refine hK.out _ _ G5.out.b0 (λhHeld=>?_);clear hK K;refine wpAnyH_take (i:=6) (oi:=_) (v:=?_) (by simp only[List.getElem?_toArray,List.getElem?_cons_succ,List.getElem?_cons_zero];rfl) (by kernel_rfl) (by kernel_rfl) (by kernel_rfl) (by exact λ_ _ _ h=>h) (Or.inl ⟨by rfl,?_⟩) (by assumption) ?_;rotate_left
 ·(intro w hSw;(try dsimp only at hSw);go_simp;try with_reducible rfl)
 simp only[Act.put,List.setIfInBounds_toArray,List.set_cons_zero,List.set_cons_succ];have z0:=G5.out.at 3 _ rfl;have y0:=G5.out.fz 3;refine wpAnyH_ready (rs:=[7]) (by kernel_rfl) (by simp) ?_;refine AllReadyH.cons (o:=_) (by simp only[List.getElem?_toArray,List.getElem?_cons_succ,List.getElem?_cons_zero];rfl) (λK hK=>?_) AllReadyH.nil
 go_simp
 have G8:=hid (G5.out.set 3 (.int .i64 1));clear z0 y0;refine hK.out _ _ G8.out.b0 (λhHeld=>?_);clear hK K;refine wpAnyH_done (by kernel_rfl) ?_ _;clear b0 hHeld G4 G4x G4xx G5
 try clear hHeld
 obtain⟨W8,hW8⟩:∃W8,W8=((wa3.setCell ⟨n+2,2,none⟩ (.int .i64 1)).setCell ⟨n+2,3,none⟩ (.int .i64 1)):=⟨_,rfl⟩;have GW:=hid (show Bo w W8 56 q p s ⟨4,0,0⟩ n #[.int .i64 0,.int .i64 0,.int .i64 0,.int .i64 0,.slice none 0 0,.slice none 0 0,.slice none 0 0,.slice none 0 0,.slice none 0 0] #[.int .i64 (c:Int),.int .i64 0,.int .i64 1,.int .i64 1,.slice none 0 0,.slice none 0 0,.slice none 0 0,.slice none 0 0,.slice none 0 0]from by rw[hW8];exact G8.out);rw[← hW8];clear hW8 G8;have b0:=GW.out.b0
 go_wp2_with fail
 refine(Au _ W8 q p s 4 GW.out.rd (HS.out 4 _ rfl)).mono ?_;rintro e wb4 ⟨rfl,h1,hf1⟩;have GY4:=hid (GW.out.step h1 hf1);have b1:=GY4.out.b0;have z1:=GY4.out.at 4 (.slice none 0 0) rfl;have y1:=GY4.out.fz 4;have GL4:=hid (show Bo w (wb4.setCell ⟨n+2,4,none⟩ (.slice none 0 0)) 56 q p s ⟨5,0,0⟩ n #[.int .i64 0,.int .i64 0,.int .i64 0,.int .i64 0,.slice none 0 0,.slice none 0 0,.slice none 0 0,.slice none 0 0,.slice none 0 0] #[.int .i64 (c:Int),.int .i64 0,.int .i64 1,.int .i64 1,.slice none 0 0,.slice none 0 0,.slice none 0 0,.slice none 0 0,.slice none 0 0]from GY4.out.set 4 (.slice none 0 0));clear h1 hf1 b0 GW;have b0:=GL4.out.b0
 go_wp2_with fail
 refine(Av _ (wb4.setCell ⟨n+2,4,none⟩ (.slice none 0 0)) q p s 5 GL4.out.rd (HS.out 5 _ rfl)).mono ?_;rintro e wb5 ⟨rfl,h1,hf1⟩;have GY5:=hid (GL4.out.step h1 hf1);have b1:=GY5.out.b0;have z1:=GY5.out.at 5 (.slice none 0 0) rfl;have y1:=GY5.out.fz 5;have GL5:=hid (show Bo w (wb5.setCell ⟨n+2,5,none⟩ (.slice none 0 0)) 56 q p s ⟨6,0,0⟩ n #[.int .i64 0,.int .i64 0,.int .i64 0,.int .i64 0,.slice none 0 0,.slice none 0 0,.slice none 0 0,.slice none 0 0,.slice none 0 0] #[.int .i64 (c:Int),.int .i64 0,.int .i64 1,.int .i64 1,.slice none 0 0,.slice none 0 0,.slice none 0 0,.slice none 0 0,.slice none 0 0]from GY5.out.set 5 (.slice none 0 0));clear h1 hf1 b0 GL4;have b0:=GL5.out.b0
 go_wp2_with fail
 refine(Aw _ (wb5.setCell ⟨n+2,5,none⟩ (.slice none 0 0)) q p s 6 GL5.out.rd (HS.out 6 _ rfl)).mono ?_;rintro e wb6 ⟨rfl,h1,hf1⟩;have GY6:=hid (GL5.out.step h1 hf1);have b1:=GY6.out.b0;have z1:=GY6.out.at 6 (.slice none 0 0) rfl;have y1:=GY6.out.fz 6;have GL6:=hid (show Bo w (wb6.setCell ⟨n+2,6,none⟩ (.slice none 0 0)) 56 q p s ⟨7,0,0⟩ n #[.int .i64 0,.int .i64 0,.int .i64 0,.int .i64 0,.slice none 0 0,.slice none 0 0,.slice none 0 0,.slice none 0 0,.slice none 0 0] #[.int .i64 (c:Int),.int .i64 0,.int .i64 1,.int .i64 1,.slice none 0 0,.slice none 0 0,.slice none 0 0,.slice none 0 0,.slice none 0 0]from GY6.out.set 6 (.slice none 0 0));clear h1 hf1 b0 GL5;have b0:=GL6.out.b0
 go_wp2_with fail
 refine(Ax _ (wb6.setCell ⟨n+2,6,none⟩ (.slice none 0 0)) q p s 7 GL6.out.rd (HS.out 7 _ rfl)).mono ?_;rintro e wb7 ⟨rfl,h1,hf1⟩;have GY7:=hid (GL6.out.step h1 hf1);have b1:=GY7.out.b0;have z1:=GY7.out.at 7 (.slice none 0 0) rfl;have y1:=GY7.out.fz 7;have GL7:=hid (show Bo w (wb7.setCell ⟨n+2,7,none⟩ (.slice none 0 0)) 56 q p s ⟨8,0,0⟩ n #[.int .i64 0,.int .i64 0,.int .i64 0,.int .i64 0,.slice none 0 0,.slice none 0 0,.slice none 0 0,.slice none 0 0,.slice none 0 0] #[.int .i64 (c:Int),.int .i64 0,.int .i64 1,.int .i64 1,.slice none 0 0,.slice none 0 0,.slice none 0 0,.slice none 0 0,.slice none 0 0]from GY7.out.set 7 (.slice none 0 0));clear h1 hf1 b0 GL6;have b0:=GL7.out.b0
 go_wp2_with fail
 refine(Ay _ (wb7.setCell ⟨n+2,7,none⟩ (.slice none 0 0)) q p s 8 GL7.out.rd (HS.out 8 _ rfl)).mono ?_;rintro e wb8 ⟨rfl,h1,hf1⟩;have GY8:=hid (GL7.out.step h1 hf1);have b1:=GY8.out.b0;have z1:=GY8.out.at 8 (.slice none 0 0) rfl;have y1:=GY8.out.fz 8;have GL8:=hid (show Bo w (wb8.setCell ⟨n+2,8,none⟩ (.slice none 0 0)) 56 q p s ⟨9,0,0⟩ n #[.int .i64 0,.int .i64 0,.int .i64 0,.int .i64 0,.slice none 0 0,.slice none 0 0,.slice none 0 0,.slice none 0 0,.slice none 0 0] #[.int .i64 (c:Int),.int .i64 0,.int .i64 1,.int .i64 1,.slice none 0 0,.slice none 0 0,.slice none 0 0,.slice none 0 0,.slice none 0 0]from GY8.out.set 8 (.slice none 0 0));clear h1 hf1 b0 GL7;have e0:=GL8.out.at 0 (.int .i64 (c:Int)) rfl;have e1:=GL8.out.at 1 (.int .i64 0) rfl;have e2:=GL8.out.at 2 (.int .i64 1) rfl;have e3:=GL8.out.at 3 (.int .i64 1) rfl;have e4:=GL8.out.at 4 (.slice none 0 0) rfl;have e5:=GL8.out.at 5 (.slice none 0 0) rfl;have e6:=GL8.out.at 6 (.slice none 0 0) rfl;have e7:=GL8.out.at 7 (.slice none 0 0) rfl;have e8:=GL8.out.at 8 (.slice none 0 0) rfl;have r0:=GL8.out.rs 0 (.int .i64 0) rfl;have f0:=GL8.out.rz 0;have r1:=GL8.out.rs 1 (.int .i64 0) rfl;have f1:=GL8.out.rz 1;have r2:=GL8.out.rs 2 (.int .i64 0) rfl;have f2:=GL8.out.rz 2;have r3:=GL8.out.rs 3 (.int .i64 0) rfl;have f3:=GL8.out.rz 3;have r4:=GL8.out.rs 4 (.slice none 0 0) rfl;have f4:=GL8.out.rz 4;have r5:=GL8.out.rs 5 (.slice none 0 0) rfl;have f5:=GL8.out.rz 5;have r6:=GL8.out.rs 6 (.slice none 0 0) rfl;have f6:=GL8.out.rz 6;have r7:=GL8.out.rs 7 (.slice none 0 0) rfl;have f7:=GL8.out.rz 7;have r8:=GL8.out.rs 8 (.slice none 0 0) rfl;have f8:=GL8.out.rz 8;have GR0:=hid (show Bo w _ 56 q p s _ n #[.int .i64 (c:Int),.int .i64 0,.int .i64 0,.int .i64 0,.slice none 0 0,.slice none 0 0,.slice none 0 0,.slice none 0 0,.slice none 0 0] _ from GL8.out.setR 0 (.int .i64 (c:Int)));clear GL8;have GR1:=hid (show Bo w _ 56 q p s _ n #[.int .i64 (c:Int),.int .i64 0,.int .i64 0,.int .i64 0,.slice none 0 0,.slice none 0 0,.slice none 0 0,.slice none 0 0,.slice none 0 0] _ from GR0.out.setR 1 (.int .i64 0));clear GR0;have GR2:=hid (show Bo w _ 56 q p s _ n #[.int .i64 (c:Int),.int .i64 0,.int .i64 1,.int .i64 0,.slice none 0 0,.slice none 0 0,.slice none 0 0,.slice none 0 0,.slice none 0 0] _ from GR1.out.setR 2 (.int .i64 1));clear GR1;have GR3:=hid (show Bo w _ 56 q p s _ n #[.int .i64 (c:Int),.int .i64 0,.int .i64 1,.int .i64 1,.slice none 0 0,.slice none 0 0,.slice none 0 0,.slice none 0 0,.slice none 0 0] _ from GR2.out.setR 3 (.int .i64 1));clear GR2;have GR4:=hid (show Bo w _ 56 q p s _ n #[.int .i64 (c:Int),.int .i64 0,.int .i64 1,.int .i64 1,.slice none 0 0,.slice none 0 0,.slice none 0 0,.slice none 0 0,.slice none 0 0] _ from GR3.out.setR 4 (.slice none 0 0));clear GR3;have GR5:=hid (show Bo w _ 56 q p s _ n #[.int .i64 (c:Int),.int .i64 0,.int .i64 1,.int .i64 1,.slice none 0 0,.slice none 0 0,.slice none 0 0,.slice none 0 0,.slice none 0 0] _ from GR4.out.setR 5 (.slice none 0 0));clear GR4;have GR6:=hid (show Bo w _ 56 q p s _ n #[.int .i64 (c:Int),.int .i64 0,.int .i64 1,.int .i64 1,.slice none 0 0,.slice none 0 0,.slice none 0 0,.slice none 0 0,.slice none 0 0] _ from GR5.out.setR 6 (.slice none 0 0));clear GR5;have GR7:=hid (show Bo w _ 56 q p s _ n #[.int .i64 (c:Int),.int .i64 0,.int .i64 1,.int .i64 1,.slice none 0 0,.slice none 0 0,.slice none 0 0,.slice none 0 0,.slice none 0 0] _ from GR6.out.setR 7 (.slice none 0 0));clear GR6;have GR8:=hid (show Bo w _ 56 q p s _ n #[.int .i64 (c:Int),.int .i64 0,.int .i64 1,.int .i64 1,.slice none 0 0,.slice none 0 0,.slice none 0 0,.slice none 0 0,.slice none 0 0] _ from GR7.out.setR 8 (.slice none 0 0));clear GR7;have GF:=GR8;clear GR8;go_wp2;have o0:=(cell_of_row _ _ 0 _ _ _ GF.out.res).trans (show _=some (.int .i64 (c:Int))from rfl);have o1:=(cell_of_row _ _ 1 _ _ _ GF.out.res).trans (show _=some (.int .i64 0)from rfl);have o2:=(cell_of_row _ _ 2 _ _ _ GF.out.res).trans (show _=some (.int .i64 1)from rfl);have o3:=(cell_of_row _ _ 3 _ _ _ GF.out.res).trans (show _=some (.int .i64 1)from rfl);have o4:=(cell_of_row _ _ 4 _ _ _ GF.out.res).trans (show _=some (.slice none 0 0)from rfl);have o5:=(cell_of_row _ _ 5 _ _ _ GF.out.res).trans (show _=some (.slice none 0 0)from rfl);have o6:=(cell_of_row _ _ 6 _ _ _ GF.out.res).trans (show _=some (.slice none 0 0)from rfl);have o7:=(cell_of_row _ _ 7 _ _ _ GF.out.res).trans (show _=some (.slice none 0 0)from rfl);have o8:=(cell_of_row _ _ 8 _ _ _ GF.out.res).trans (show _=some (.slice none 0 0)from rfl);refine bodyPost_ret (v:=.agg #[.int .i64 (c:Int),.int .i64 0,.int .i64 1,.int .i64 1,.slice none 0 0,.slice none 0 0,.slice none 0 0,.slice none 0 0,.slice none 0 0]) (by simp[results,results266,go_sem,o0,o1,o2,o3,o4,o5,o6,o7,o8]) rfl ⟨rfl,GF.out.rd,GF.out.fr⟩
theorem Bq (c:Nat)(hc:c<128)(w:World)(q p:Nat)(s:ByteArray)(h:Am w q p s ⟨9,0,0⟩)(hs:s.data.toList=qP c) :
  Calls prog 267 #[.pointer (some ⟨q,0,none⟩)] w λe w'=>e = .returned (A5)∧Am w' q p s ⟨13,0,0⟩∧Fr (λk=>k=p) w w':=by
 have hmf:∀(fn:Fn) (first cap:Array Value) (w:World),(Instr.makeFunc fn first cap).run prog w = .ok (.func fn first cap) w:=λ_ _ _ _=>rfl;have hp:=h.rd.lt;have hq:=lt_of_block h.cell;have H:=hid h;have HS:=hid (λ(k:Nat) (b:UInt8) (e:(qP c)[k]?=some b)=>(by rw[hs];exact e:s.data.toList[k]?=some b));have hcb:(UInt8.ofNat c).toNat=c:=by simp;omega
 have HCB:=hid hcb;clear h hs hcb
 go_enter func267,ntmps267
 go_wp2_with fail
 obtain⟨n,hn⟩:∃n,n=w.heap.size:=⟨_,rfl⟩;obtain⟨W0,hW0⟩:∃W0,W0=((w.alloc (.cells #[.pointer (some ⟨q,0,none⟩)] 358)).alloc (.cells #[.slice none 0 0,.slice none 0 0,.slice none 0 0,.slice none 0 0] 64)).alloc (.cells #[.slice none 0 0,.slice none 0 0,.slice none 0 0,.slice none 0 0] 64):=⟨_,rfl⟩;have g0:Bo w W0 64 q p s ⟨9,0,0⟩ n #[.slice none 0 0,.slice none 0 0,.slice none 0 0,.slice none 0 0] #[.slice none 0 0,.slice none 0 0,.slice none 0 0,.slice none 0 0]:=by
  have hbel:Below w.heap.size w W0:=by rw[hW0];exact(((Below.refl _ _).alloc (Nat.le_refl _) _).alloc (by simp) _).alloc (by simp<;>omega) _
  refine⟨H.out.pure hbel,?_,?_,?_,Fr.pure hbel,hn,by omega,by omega⟩
  ·rw[hW0,hn];exact(Below.heap_alloc _ _ _ (by simp<;>omega)).trans ((Below.heap_alloc _ _ _ (by simp<;>omega)).trans (heap_alloc_new _ _))
  ·rw[hW0,hn];exact(Below.heap_alloc _ _ _ (by simp<;>omega)).trans (yS _ _ (by simp))
  ·rw[hW0,hn];exact yS _ _ (by simp)
 have G0:=hid g0;rw[← hW0,← hn]
 try simp only[Nat.add_assoc,Nat.reduceAdd]
 clear hW0 hn g0 hp hq;refine(Az _ W0 q p s 9 G0.out.rd (HS.out 9 _ rfl)).mono ?_;rintro e wb0 ⟨rfl,h1,hf1⟩;have GY0:=hid (G0.out.step h1 hf1);have b1:=GY0.out.b0;have z1:=GY0.out.at 0 (.slice none 0 0) rfl;have y1:=GY0.out.fz 0;have GL0:=hid (show Bo w (wb0.setCell ⟨n+2,0,none⟩ (.slice none 0 0)) 64 q p s ⟨10,0,0⟩ n #[.slice none 0 0,.slice none 0 0,.slice none 0 0,.slice none 0 0] #[.slice none 0 0,.slice none 0 0,.slice none 0 0,.slice none 0 0]from GY0.out.set 0 (.slice none 0 0));clear h1 hf1 G0;have b0:=GL0.out.b0
 go_wp2_with fail
 refine(AA _ (wb0.setCell ⟨n+2,0,none⟩ (.slice none 0 0)) q p s 10 GL0.out.rd (HS.out 10 _ rfl)).mono ?_;rintro e wb1 ⟨rfl,h1,hf1⟩;have GY1:=hid (GL0.out.step h1 hf1);have b1:=GY1.out.b0;have z1:=GY1.out.at 1 (.slice none 0 0) rfl;have y1:=GY1.out.fz 1;have GL1:=hid (show Bo w (wb1.setCell ⟨n+2,1,none⟩ (.slice none 0 0)) 64 q p s ⟨11,0,0⟩ n #[.slice none 0 0,.slice none 0 0,.slice none 0 0,.slice none 0 0] #[.slice none 0 0,.slice none 0 0,.slice none 0 0,.slice none 0 0]from GY1.out.set 1 (.slice none 0 0));clear h1 hf1 b0 GL0;have b0:=GL1.out.b0
 go_wp2_with fail
 refine(AB _ (wb1.setCell ⟨n+2,1,none⟩ (.slice none 0 0)) q p s 11 GL1.out.rd (HS.out 11 _ rfl)).mono ?_;rintro e wb2 ⟨rfl,h1,hf1⟩;have GY2:=hid (GL1.out.step h1 hf1);have b1:=GY2.out.b0;have z1:=GY2.out.at 2 (.slice none 0 0) rfl;have y1:=GY2.out.fz 2;have GL2:=hid (show Bo w (wb2.setCell ⟨n+2,2,none⟩ (.slice none 0 0)) 64 q p s ⟨12,0,0⟩ n #[.slice none 0 0,.slice none 0 0,.slice none 0 0,.slice none 0 0] #[.slice none 0 0,.slice none 0 0,.slice none 0 0,.slice none 0 0]from GY2.out.set 2 (.slice none 0 0));clear h1 hf1 b0 GL1;have b0:=GL2.out.b0
 go_wp2_with fail
 refine(AC _ (wb2.setCell ⟨n+2,2,none⟩ (.slice none 0 0)) q p s 12 GL2.out.rd (HS.out 12 _ rfl)).mono ?_;rintro e wb3 ⟨rfl,h1,hf1⟩;have GY3:=hid (GL2.out.step h1 hf1);have b1:=GY3.out.b0;have z1:=GY3.out.at 3 (.slice none 0 0) rfl;have y1:=GY3.out.fz 3;have GL3:=hid (show Bo w (wb3.setCell ⟨n+2,3,none⟩ (.slice none 0 0)) 64 q p s ⟨13,0,0⟩ n #[.slice none 0 0,.slice none 0 0,.slice none 0 0,.slice none 0 0] #[.slice none 0 0,.slice none 0 0,.slice none 0 0,.slice none 0 0]from GY3.out.set 3 (.slice none 0 0));clear h1 hf1 b0 GL2;have e0:=GL3.out.at 0 (.slice none 0 0) rfl;have e1:=GL3.out.at 1 (.slice none 0 0) rfl;have e2:=GL3.out.at 2 (.slice none 0 0) rfl;have e3:=GL3.out.at 3 (.slice none 0 0) rfl;have r0:=GL3.out.rs 0 (.slice none 0 0) rfl;have f0:=GL3.out.rz 0;have r1:=GL3.out.rs 1 (.slice none 0 0) rfl;have f1:=GL3.out.rz 1;have r2:=GL3.out.rs 2 (.slice none 0 0) rfl;have f2:=GL3.out.rz 2;have r3:=GL3.out.rs 3 (.slice none 0 0) rfl;have f3:=GL3.out.rz 3;have GR0:=hid (show Bo w _ 64 q p s _ n #[.slice none 0 0,.slice none 0 0,.slice none 0 0,.slice none 0 0] _ from GL3.out.setR 0 (.slice none 0 0));clear GL3;have GR1:=hid (show Bo w _ 64 q p s _ n #[.slice none 0 0,.slice none 0 0,.slice none 0 0,.slice none 0 0] _ from GR0.out.setR 1 (.slice none 0 0));clear GR0;have GR2:=hid (show Bo w _ 64 q p s _ n #[.slice none 0 0,.slice none 0 0,.slice none 0 0,.slice none 0 0] _ from GR1.out.setR 2 (.slice none 0 0));clear GR1;have GR3:=hid (show Bo w _ 64 q p s _ n #[.slice none 0 0,.slice none 0 0,.slice none 0 0,.slice none 0 0] _ from GR2.out.setR 3 (.slice none 0 0));clear GR2;have GF:=GR3;clear GR3;go_wp2;have o0:=(cell_of_row _ _ 0 _ _ _ GF.out.res).trans (show _=some (.slice none 0 0)from rfl);have o1:=(cell_of_row _ _ 1 _ _ _ GF.out.res).trans (show _=some (.slice none 0 0)from rfl);have o2:=(cell_of_row _ _ 2 _ _ _ GF.out.res).trans (show _=some (.slice none 0 0)from rfl);have o3:=(cell_of_row _ _ 3 _ _ _ GF.out.res).trans (show _=some (.slice none 0 0)from rfl);refine bodyPost_ret (v:=.agg #[.slice none 0 0,.slice none 0 0,.slice none 0 0,.slice none 0 0]) (by simp[results,results267,go_sem,o0,o1,o2,o3]) rfl ⟨rfl,GF.out.rd,GF.out.fr⟩
theorem Bw (fv:Value)(p:Nat)(v:Value)(L:List UInt8)(w:World)(h:aN w p v L)(hL:L.length≤1000000) :
  Calls prog 227 #[.pointer (some ⟨p,0,none⟩),.slice none 0 0,fv] w λe w'=>e = .returned (.tuple #[])∧∃v',aO p w w' v v' (L++[0]):=by
 have H:=hid h;clear h
 go_enter func227,ntmps227
 go_wp2_with fail
 refine(uo 0 p v L w (by omega) H.out (by omega)).mono ?_;rintro e w1 ⟨rfl,v1,h1⟩;rw[qD (by omega)]at h1;have H1:=hid h1;clear h1;go_wp2
 go_loopw [15] (λi wr=>i = .int .i64 0∧wr=w1) (λ_ _=>0)
 case atStart=>exact⟨rfl,rfl⟩
 case round=>
  obtain⟨rfl,rfl⟩:=hrel;go_wp2
  go_end0
  exact⟨rfl,v1,H1.out⟩
theorem Bz (fv:Value)(p:Nat)(v:Value)(L:List UInt8)(w:World)(h:aN w p v L)(hL:L.length≤1000000) :
  Calls prog 231 #[.pointer (some ⟨p,0,none⟩),.slice none 0 0,fv] w λe w'=>e = .returned (.tuple #[])∧∃v',aO p w w' v v' (L++[0]):=by
 have H:=hid h;clear h
 go_enter func231,ntmps231
 go_wp2_with fail
 refine(uo 0 p v L w (by omega) H.out (by omega)).mono ?_;rintro e w1 ⟨rfl,v1,h1⟩;rw[qD (by omega)]at h1;have H1:=hid h1;clear h1;go_wp2
 go_loopw [15] (λi wr=>i = .int .i64 0∧wr=w1) (λ_ _=>0)
 case atStart=>exact⟨rfl,rfl⟩
 case round=>
  obtain⟨rfl,rfl⟩:=hrel;go_wp2
  go_end0
  exact⟨rfl,v1,H1.out⟩
theorem BA (fv:Value)(p:Nat)(v:Value)(L:List UInt8)(w:World)(h:aN w p v L)(hL:L.length≤1000000) :
  Calls prog 233 #[.pointer (some ⟨p,0,none⟩),.slice none 0 0,fv] w λe w'=>e = .returned (.tuple #[])∧∃v',aO p w w' v v' (L++[0]):=by
 have H:=hid h;clear h
 go_enter func233,ntmps233
 go_wp2_with fail
 refine(uo 0 p v L w (by omega) H.out (by omega)).mono ?_;rintro e w1 ⟨rfl,v1,h1⟩;rw[qD (by omega)]at h1;have H1:=hid h1;clear h1;go_wp2
 go_loopw [15] (λi wr=>i = .int .i64 0∧wr=w1) (λ_ _=>0)
 case atStart=>exact⟨rfl,rfl⟩
 case round=>
  obtain⟨rfl,rfl⟩:=hrel;go_wp2
  go_end0
  exact⟨rfl,v1,H1.out⟩
theorem BD (fv:Value)(p:Nat)(v:Value)(L:List UInt8)(w:World)(h:aN w p v L)(hL:L.length≤1000000) :
  Calls prog 236 #[.pointer (some ⟨p,0,none⟩),.slice none 0 0,fv] w λe w'=>e = .returned (.tuple #[])∧∃v',aO p w w' v v' (L++[0]):=by
 have H:=hid h;clear h
 go_enter func236,ntmps236
 go_wp2_with fail
 refine(uo 0 p v L w (by omega) H.out (by omega)).mono ?_;rintro e w1 ⟨rfl,v1,h1⟩;rw[qD (by omega)]at h1;have H1:=hid h1;clear h1;go_wp2
 go_loopw [15] (λi wr=>i = .int .i64 0∧wr=w1) (λ_ _=>0)
 case atStart=>exact⟨rfl,rfl⟩
 case round=>
  obtain⟨rfl,rfl⟩:=hrel;go_wp2
  go_end0
  exact⟨rfl,v1,H1.out⟩
theorem BE (fv:Value)(p:Nat)(v:Value)(L:List UInt8)(w:World)(h:aN w p v L)(hL:L.length≤1000000) :
  Calls prog 238 #[.pointer (some ⟨p,0,none⟩),.slice none 0 0,fv] w λe w'=>e = .returned (.tuple #[])∧∃v',aO p w w' v v' (L++[0]):=by
 have H:=hid h;clear h
 go_enter func238,ntmps238
 go_wp2_with fail
 refine(uo 0 p v L w (by omega) H.out (by omega)).mono ?_;rintro e w1 ⟨rfl,v1,h1⟩;rw[qD (by omega)]at h1;have H1:=hid h1;clear h1;go_wp2
 go_loopw [15] (λi wr=>i = .int .i64 0∧wr=w1) (λ_ _=>0)
 case atStart=>exact⟨rfl,rfl⟩
 case round=>
  obtain⟨rfl,rfl⟩:=hrel;go_wp2
  go_end0
  exact⟨rfl,v1,H1.out⟩
theorem BF (fv:Value)(p:Nat)(v:Value)(L:List UInt8)(w:World)(h:aN w p v L)(hL:L.length≤1000000) :
  Calls prog 242 #[.pointer (some ⟨p,0,none⟩),.slice none 0 0,fv] w λe w'=>e = .returned (.tuple #[])∧∃v',aO p w w' v v' (L++[0]):=by
 have H:=hid h;clear h
 go_enter func242,ntmps242
 go_wp2_with fail
 refine(uo 0 p v L w (by omega) H.out (by omega)).mono ?_;rintro e w1 ⟨rfl,v1,h1⟩;rw[qD (by omega)]at h1;have H1:=hid h1;clear h1;go_wp2
 go_loopw [15] (λi wr=>i = .int .i64 0∧wr=w1) (λ_ _=>0)
 case atStart=>exact⟨rfl,rfl⟩
 case round=>
  obtain⟨rfl,rfl⟩:=hrel;go_wp2
  go_end0
  exact⟨rfl,v1,H1.out⟩
theorem BG (fv:Value)(p:Nat)(v:Value)(L:List UInt8)(w:World)(h:aN w p v L)(hL:L.length≤1000000) :
  Calls prog 244 #[.pointer (some ⟨p,0,none⟩),.slice none 0 0,fv] w λe w'=>e = .returned (.tuple #[])∧∃v',aO p w w' v v' (L++[0]):=by
 have H:=hid h;clear h
 go_enter func244,ntmps244
 go_wp2_with fail
 refine(uo 0 p v L w (by omega) H.out (by omega)).mono ?_;rintro e w1 ⟨rfl,v1,h1⟩;rw[qD (by omega)]at h1;have H1:=hid h1;clear h1;go_wp2
 go_loopw [15] (λi wr=>i = .int .i64 0∧wr=w1) (λ_ _=>0)
 case atStart=>exact⟨rfl,rfl⟩
 case round=>
  obtain⟨rfl,rfl⟩:=hrel;go_wp2
  go_end0
  exact⟨rfl,v1,H1.out⟩
theorem BH (fv:Value)(p:Nat)(v:Value)(L:List UInt8)(w:World)(h:aN w p v L)(hL:L.length≤1000000) :
  Calls prog 246 #[.pointer (some ⟨p,0,none⟩),.slice none 0 0,fv] w λe w'=>e = .returned (.tuple #[])∧∃v',aO p w w' v v' (L++[0]):=by
 have H:=hid h;clear h
 go_enter func246,ntmps246
 go_wp2_with fail
 refine(uo 0 p v L w (by omega) H.out (by omega)).mono ?_;rintro e w1 ⟨rfl,v1,h1⟩;rw[qD (by omega)]at h1;have H1:=hid h1;clear h1;go_wp2
 go_loopw [15] (λi wr=>i = .int .i64 0∧wr=w1) (λ_ _=>0)
 case atStart=>exact⟨rfl,rfl⟩
 case round=>
  obtain⟨rfl,rfl⟩:=hrel;go_wp2
  go_end0
  exact⟨rfl,v1,H1.out⟩
theorem BI (fv:Value)(p:Nat)(v:Value)(L:List UInt8)(w:World)(h:aN w p v L)(hL:L.length≤1000000) :
  Calls prog 248 #[.pointer (some ⟨p,0,none⟩),.slice none 0 0,fv] w λe w'=>e = .returned (.tuple #[])∧∃v',aO p w w' v v' (L++[0]):=by
 have H:=hid h;clear h
 go_enter func248,ntmps248
 go_wp2_with fail
 refine(uo 0 p v L w (by omega) H.out (by omega)).mono ?_;rintro e w1 ⟨rfl,v1,h1⟩;rw[qD (by omega)]at h1;have H1:=hid h1;clear h1;go_wp2
 go_loopw [15] (λi wr=>i = .int .i64 0∧wr=w1) (λ_ _=>0)
 case atStart=>exact⟨rfl,rfl⟩
 case round=>
  obtain⟨rfl,rfl⟩:=hrel;go_wp2
  go_end0
  exact⟨rfl,v1,H1.out⟩
theorem aO.under {p:Nat}{w W0 w':World}{v v':Value}{L:List UInt8}(hb:Below w.heap.size w W0)(h:aO p W0 w' v v' L):aO p w w' v v' L:=
 ⟨h.is,(Fr.pure hb).then h.fr (λ_ _ e=>e),h.went.older hb.size⟩
theorem aN.pure {w w':World}{p:Nat}{v:Value}{L:List UInt8}(h:aN w p v L)(hb:Below w.heap.size w w'):aN w' p v L:=h.kept (Fr.pure (S:=λ_=>False) hb) (λh=>h) (λ_ _ h=>h)
theorem BJ (c:Int)(p:Nat)(v:Value)(L:List UInt8)(w:World)(h:aN w p v L)(hL:L.length≤100000) :
  Calls prog 169 #[.pointer (some ⟨p,0,none⟩),AZ c 0 1 1] w λe w'=>e = .returned (.tuple #[])∧∃v',aO p w w' v v' (L++(Bs [c,0,1,1]++[0,0,0,0,0])):=by
 unfold AZ;have hmf:∀(fn:Fn) (first cap:Array Value) (w:World),(Instr.makeFunc fn first cap).run prog w = .ok (.func fn first cap) w:=λ_ _ _ _=>rfl;have H:=hid h;have hp:=h.lt;have HO:=hid (λg (hg:v.ownBlock=some g)=>h.lto hg);have hn4:=hid (Bu [c,0,1,1]);clear h
 go_enter func169,ntmps169
 go_wp2_with fail
 obtain⟨n,hn⟩:∃n,n=w.heap.size:=⟨_,rfl⟩;obtain⟨W0,hW0⟩:∃W0,W0=((w.alloc (.cells #[.pointer (some ⟨p,0,none⟩)] 177)).alloc (.cells #[.int .i64 c,.int .i64 0,.int .i64 1,.int .i64 1,.slice none 0 0,.slice none 0 0,.slice none 0 0,.slice none 0 0,.slice none 0 0] 56)).alloc (.cells #[.int .i64 c,.int .i64 0,.int .i64 1,.int .i64 1] 2):=⟨_,rfl⟩;have hbel:Below w.heap.size w W0:=by rw[hW0];exact(((Below.refl _ _).alloc (Nat.le_refl _) _).alloc (by simp) _).alloc (by simp;omega) _
 have k0:W0.heap[n]?=some (.cells #[.pointer (some ⟨p,0,none⟩)] 177 (0,0)):=by rw[hW0,hn];exact(Below.heap_alloc _ _ _ (by simp;omega)).trans ((Below.heap_alloc _ _ _ (by simp)).trans (heap_alloc_new _ _))
 have k1:W0.heap[n+1]?=some (.cells #[.int .i64 c,.int .i64 0,.int .i64 1,.int .i64 1,.slice none 0 0,.slice none 0 0,.slice none 0 0,.slice none 0 0,.slice none 0 0] 56 (0,0)):=by rw[hW0,hn];exact(Below.heap_alloc _ _ _ (by simp)).trans (fm _ _ (by simp))
 have k2:W0.heap[n+1+1]?=some (.cells #[.int .i64 c,.int .i64 0,.int .i64 1,.int .i64 1] 2 (0,0)):=by rw[hW0,hn];exact fm _ _ (by simp)
 rw[← hW0]
 try rw[← hn]
 have hints:IntsAt W0 (.slice (some ⟨n+1+1,0,none⟩) 4 4) [c,0,1,1]:=⟨_,4,rfl,by simp,.inr ⟨n+1+1,0,rfl,λi hi=>by
  rw[cell_of_row _ _ _ _ _ _ k2]
  match i,hi with
  | 0,_=>rfl
  | 1,_=>rfl
  | 2,_=>rfl
  | 3,_=>rfl⟩⟩
 have hpn:p<n:=by omega
 have HON:=hid (λ(b:Nat) (hb:n≤b)=>(λe=>by have:=HO.out b e;omega:v.ownBlock≠some b));have c0:W0.cell? ⟨n,0,none⟩=some (.pointer (some ⟨p,0,none⟩)):=(cell_of_row _ _ _ _ _ _ k0).trans rfl;have HD:=hid (λ(j:Nat) (hj:4≤j) (hj2:j<9)=>((cell_of_row W0 (n+1) j _ _ _ k1).trans (by
  match j,hj,hj2 with
  | 4,_,_=>rfl
  | 5,_,_=>rfl
  | 6,_,_=>rfl
  | 7,_,_=>rfl
  | 8,_,_=>rfl):W0.cell? ⟨n+1,j,none⟩=some (.slice none 0 0)))
 have HB:=hid hbel;have HI:=hid hints;have HW:=hid (H.out.pure hbel);have C0:=hid c0;clear hW0 hn hbel k0 k1 k2 hints c0 hp;refine(Bv _ [c,0,1,1] p v L W0 HW.out HI.out (λg e=>by cases e;exact⟨by show n+1+1≠p;omega,HON.out _ (by show n≤n+1+1;omega)⟩) (by simp) (by omega)).mono ?_;rintro e w1 ⟨rfl,v1,h1⟩;have H1:=hid h1;have c1:=H1.out.cellx C0.out (by omega) (HON.out _ (by omega));have d1:=H1.out.cellx (HD.out 4 (by omega) (by omega)) (by omega) (HON.out _ (by omega));clear h1
 go_wp2_with fail
 refine(Bw _ p v1 _ w1 H1.out.is (by have:=hn4.out;simp at this ⊢;omega)).mono ?_;rintro e w2 ⟨rfl,v2,h2⟩;have H2:=hid (H1.out.trans h2);have c2:=H2.out.cellx C0.out (by omega) (HON.out _ (by omega));have d2:=H2.out.cellx (HD.out 5 (by omega) (by omega)) (by omega) (HON.out _ (by omega));clear h2 c1 d1
 go_wp2_with fail
 refine(Bz _ p v2 _ w2 H2.out.is (by have:=hn4.out;simp at this ⊢;omega)).mono ?_;rintro e w3 ⟨rfl,v3,h3⟩;have H3:=hid (H2.out.trans h3);have c3:=H3.out.cellx C0.out (by omega) (HON.out _ (by omega));have d3:=H3.out.cellx (HD.out 6 (by omega) (by omega)) (by omega) (HON.out _ (by omega));clear h3 c2 d2
 go_wp2_with fail
 refine(BA _ p v3 _ w3 H3.out.is (by have:=hn4.out;simp at this ⊢;omega)).mono ?_;rintro e w4 ⟨rfl,v4,h4⟩;have H4:=hid (H3.out.trans h4);have c4:=H4.out.cellx C0.out (by omega) (HON.out _ (by omega));have d4:=H4.out.cellx (HD.out 7 (by omega) (by omega)) (by omega) (HON.out _ (by omega));clear h4 c3 d3
 go_wp2_with fail
 refine(BD _ p v4 _ w4 H4.out.is (by have:=hn4.out;simp at this ⊢;omega)).mono ?_;rintro e w5 ⟨rfl,v5,h5⟩;have H5:=hid (H4.out.trans h5);have c5:=H5.out.cellx C0.out (by omega) (HON.out _ (by omega));have d5:=H5.out.cellx (HD.out 8 (by omega) (by omega)) (by omega) (HON.out _ (by omega));clear h5 c4 d4
 go_wp2_with fail
 refine(BE _ p v5 _ w5 H5.out.is (by have:=hn4.out;simp at this ⊢;omega)).mono ?_;rintro e w6 ⟨rfl,v6,h6⟩;have H6:=hid (H5.out.trans h6);clear h6 c5 d5;go_wp2
 go_end0
 refine⟨rfl,v6,?_⟩;have:=aO.under HB.out H6.out;simpa using this
theorem BK (p:Nat)(v:Value)(L:List UInt8)(w:World)(h:aN w p v L)(hL:L.length≤100000) :
  Calls prog 170 #[.pointer (some ⟨p,0,none⟩),A5] w λe w'=>e = .returned (.tuple #[])∧∃v',aO p w w' v v' (L++[0,0,0,0]):=by
 unfold A5;have hmf:∀(fn:Fn) (first cap:Array Value) (w:World),(Instr.makeFunc fn first cap).run prog w = .ok (.func fn first cap) w:=λ_ _ _ _=>rfl;have H:=hid h;have hp:=h.lt;have HO:=hid (λg (hg:v.ownBlock=some g)=>h.lto hg);clear h
 go_enter func170,ntmps170
 go_wp2_with fail
 obtain⟨n,hn⟩:∃n,n=w.heap.size:=⟨_,rfl⟩;obtain⟨W0,hW0⟩:∃W0,W0=(w.alloc (.cells #[.pointer (some ⟨p,0,none⟩)] 177)).alloc (.cells #[.slice none 0 0,.slice none 0 0,.slice none 0 0,.slice none 0 0] 64):=⟨_,rfl⟩;have hbel:Below w.heap.size w W0:=by rw[hW0];exact((Below.refl _ _).alloc (Nat.le_refl _) _).alloc (by simp) _
 have k0:W0.heap[n]?=some (.cells #[.pointer (some ⟨p,0,none⟩)] 177 (0,0)):=by rw[hW0,hn];exact(Below.heap_alloc _ _ _ (by simp)).trans (heap_alloc_new _ _)
 have k1:W0.heap[n+1]?=some (.cells #[.slice none 0 0,.slice none 0 0,.slice none 0 0,.slice none 0 0] 64 (0,0)):=by rw[hW0,hn];exact fm _ _ (by simp)
 rw[← hW0]
 try rw[← hn]
 have hpn:p<n:=by omega
 have HON:=hid (λ(b:Nat) (hb:n≤b)=>(λe=>by have:=HO.out b e;omega:v.ownBlock≠some b));have c0:W0.cell? ⟨n,0,none⟩=some (.pointer (some ⟨p,0,none⟩)):=(cell_of_row _ _ _ _ _ _ k0).trans rfl;have HD:=hid (λ(j:Nat) (hj2:j<4)=>((cell_of_row W0 (n+1) j _ _ _ k1).trans (by
  match j,hj2 with
  | 0,_=>rfl
  | 1,_=>rfl
  | 2,_=>rfl
  | 3,_=>rfl):W0.cell? ⟨n+1,j,none⟩=some (.slice none 0 0)))
 have HB:=hid hbel;have H1:=hid (show aO p W0 W0 v v L from⟨H.out.pure hbel,Fr.refl _ _,aA.refl _ _⟩);have C0:=hid c0;clear hW0 hn hbel k0 k1 c0 hp;refine(BF _ p v _ W0 H1.out.is (by(try simp);omega)).mono ?_;rintro e w2 ⟨rfl,v2,h2⟩;have H2:=hid (H1.out.trans h2);have c2:=H2.out.cellx C0.out (by omega) (HON.out _ (by omega));have d2:=H2.out.cellx (HD.out 1 (by omega)) (by omega) (HON.out _ (by omega));clear h2
 go_wp2_with fail
 refine(BG _ p v2 _ w2 H2.out.is (by(try simp);omega)).mono ?_;rintro e w3 ⟨rfl,v3,h3⟩;have H3:=hid (H2.out.trans h3);have c3:=H3.out.cellx C0.out (by omega) (HON.out _ (by omega));have d3:=H3.out.cellx (HD.out 2 (by omega)) (by omega) (HON.out _ (by omega));clear h3 c2 d2
 go_wp2_with fail
 refine(BH _ p v3 _ w3 H3.out.is (by(try simp);omega)).mono ?_;rintro e w4 ⟨rfl,v4,h4⟩;have H4:=hid (H3.out.trans h4);have c4:=H4.out.cellx C0.out (by omega) (HON.out _ (by omega));have d4:=H4.out.cellx (HD.out 3 (by omega)) (by omega) (HON.out _ (by omega));clear h4 c3 d3
 go_wp2_with fail
 refine(BI _ p v4 _ w4 H4.out.is (by(try simp);omega)).mono ?_;rintro e w5 ⟨rfl,v5,h5⟩;have H5:=hid (H4.out.trans h5);clear h5 c4 d4;go_wp2
 go_end0
 refine⟨rfl,v5,?_⟩;have:=aO.under HB.out H5.out;simpa using this
end
end Go.Proofs.YthjjgcfdhkhelaaGreatDoor
