/- The walk of crc.Table: it makes the table, and turns nothing that was there. -/
import Derived.Test.YtaeakdichkhjaaaGreatDoorQAi
import Derived.Test.YtaeakdichkhjaaaGreatDoorQAd
import Derived.Laws.EntriesVeiled
import Derived.Test.YtaeakdichkhjaaaGreatDoorShelfE
import Derived.Test.YtaeakdichkhjaaaGreatDoorQAb
import Derived.Test.YtaeakdichkhjaaaGreatDoorQAa
import Derived.Deep.QuietTactic
import Derived.BigQuiet
import Derived.Test.YtaeakdichkhjaaaGreatDoorChecked
import Derived.Test.YtaeakdichkhjaaaGreatDoorQAh
import Derived.Deep.LoopGhost
import Derived.Deep.Light
import Derived.Laws.CopyOwn
set_option maxHeartbeats 2000000
open Go.Lib(hid)
namespace Go.Proofs.YtaeakdichkhjaaaGreatDoor
section
open Go.RowKit
theorem jl (fv:Value)(p:Nat)(v:Value)(L:List UInt8)(w:World)(h:IsWr w p v L)(hL:L.length≤1000000) :
  Calls Tryz.prog 172 #[.pointer (some ⟨p,0,none⟩),.slice none 0 0,fv] w λe w'=>e = .returned (.tuple #[])∧∃v',WrTo p w w' v v' (L++[0]):=by
 have H:=hid h;clear h
 go_enter Tryz.func172,Tryz.ntmps172
 go_wp2_with fail
 refine(jd 0 p v L w (by omega) H.out (by omega)).mono ?_;rintro e w1 ⟨rfl,v1,h1⟩;rw[bF (by omega)]at h1;have H1:=hid h1;clear h1;go_wp2
 go_loopw [15] (λi wr=>i = .int .i64 0∧wr=w1) (λ_ _=>0)
 case atStart=>exact⟨rfl,rfl⟩
 case round=>
  obtain⟨rfl,rfl⟩:=hrel;go_wp2
  go_end0
  exact⟨rfl,v1,H1.out⟩
theorem jm (fv:Value)(p:Nat)(v:Value)(L:List UInt8)(w:World)(h:IsWr w p v L)(hL:L.length≤1000000) :
  Calls Tryz.prog 176 #[.pointer (some ⟨p,0,none⟩),.slice none 0 0,fv] w λe w'=>e = .returned (.tuple #[])∧∃v',WrTo p w w' v v' (L++[0]):=by
 have H:=hid h;clear h
 go_enter Tryz.func176,Tryz.ntmps176
 go_wp2_with fail
 refine(jd 0 p v L w (by omega) H.out (by omega)).mono ?_;rintro e w1 ⟨rfl,v1,h1⟩;rw[bF (by omega)]at h1;have H1:=hid h1;clear h1;go_wp2
 go_loopw [15] (λi wr=>i = .int .i64 0∧wr=w1) (λ_ _=>0)
 case atStart=>exact⟨rfl,rfl⟩
 case round=>
  obtain⟨rfl,rfl⟩:=hrel;go_wp2
  go_end0
  exact⟨rfl,v1,H1.out⟩
theorem jn (fv:Value)(p:Nat)(v:Value)(L:List UInt8)(w:World)(h:IsWr w p v L)(hL:L.length≤1000000) :
  Calls Tryz.prog 178 #[.pointer (some ⟨p,0,none⟩),.slice none 0 0,fv] w λe w'=>e = .returned (.tuple #[])∧∃v',WrTo p w w' v v' (L++[0]):=by
 have H:=hid h;clear h
 go_enter Tryz.func178,Tryz.ntmps178
 go_wp2_with fail
 refine(jd 0 p v L w (by omega) H.out (by omega)).mono ?_;rintro e w1 ⟨rfl,v1,h1⟩;rw[bF (by omega)]at h1;have H1:=hid h1;clear h1;go_wp2
 go_loopw [15] (λi wr=>i = .int .i64 0∧wr=w1) (λ_ _=>0)
 case atStart=>exact⟨rfl,rfl⟩
 case round=>
  obtain⟨rfl,rfl⟩:=hrel;go_wp2
  go_end0
  exact⟨rfl,v1,H1.out⟩
theorem jo (fv:Value)(p:Nat)(v:Value)(L:List UInt8)(w:World)(h:IsWr w p v L)(hL:L.length≤1000000) :
  Calls Tryz.prog 180 #[.pointer (some ⟨p,0,none⟩),.slice none 0 0,fv] w λe w'=>e = .returned (.tuple #[])∧∃v',WrTo p w w' v v' (L++[0]):=by
 have H:=hid h;clear h
 go_enter Tryz.func180,Tryz.ntmps180
 go_wp2_with fail
 refine(jd 0 p v L w (by omega) H.out (by omega)).mono ?_;rintro e w1 ⟨rfl,v1,h1⟩;rw[bF (by omega)]at h1;have H1:=hid h1;clear h1;go_wp2
 go_loopw [15] (λi wr=>i = .int .i64 0∧wr=w1) (λ_ _=>0)
 case atStart=>exact⟨rfl,rfl⟩
 case round=>
  obtain⟨rfl,rfl⟩:=hrel;go_wp2
  go_end0
  exact⟨rfl,v1,H1.out⟩
theorem jp (fv:Value)(p:Nat)(v:Value)(L:List UInt8)(w:World)(h:IsWr w p v L)(hL:L.length≤1000000) :
  Calls Tryz.prog 183 #[.pointer (some ⟨p,0,none⟩),.slice none 0 0,fv] w λe w'=>e = .returned (.tuple #[])∧∃v',WrTo p w w' v v' (L++[0]):=by
 have H:=hid h;clear h
 go_enter Tryz.func183,Tryz.ntmps183
 go_wp2_with fail
 refine(jd 0 p v L w (by omega) H.out (by omega)).mono ?_;rintro e w1 ⟨rfl,v1,h1⟩;rw[bF (by omega)]at h1;have H1:=hid h1;clear h1;go_wp2
 go_loopw [15] (λi wr=>i = .int .i64 0∧wr=w1) (λ_ _=>0)
 case atStart=>exact⟨rfl,rfl⟩
 case round=>
  obtain⟨rfl,rfl⟩:=hrel;go_wp2
  go_end0
  exact⟨rfl,v1,H1.out⟩
theorem jq (fv:Value)(p:Nat)(v:Value)(L:List UInt8)(w:World)(h:IsWr w p v L)(hL:L.length≤1000000) :
  Calls Tryz.prog 187 #[.pointer (some ⟨p,0,none⟩),.slice none 0 0,fv] w λe w'=>e = .returned (.tuple #[])∧∃v',WrTo p w w' v v' (L++[0]):=by
 have H:=hid h;clear h
 go_enter Tryz.func187,Tryz.ntmps187
 go_wp2_with fail
 refine(jd 0 p v L w (by omega) H.out (by omega)).mono ?_;rintro e w1 ⟨rfl,v1,h1⟩;rw[bF (by omega)]at h1;have H1:=hid h1;clear h1;go_wp2
 go_loopw [15] (λi wr=>i = .int .i64 0∧wr=w1) (λ_ _=>0)
 case atStart=>exact⟨rfl,rfl⟩
 case round=>
  obtain⟨rfl,rfl⟩:=hrel;go_wp2
  go_end0
  exact⟨rfl,v1,H1.out⟩
theorem jr (fv:Value)(p:Nat)(v:Value)(L:List UInt8)(w:World)(h:IsWr w p v L)(hL:L.length≤1000000) :
  Calls Tryz.prog 189 #[.pointer (some ⟨p,0,none⟩),.slice none 0 0,fv] w λe w'=>e = .returned (.tuple #[])∧∃v',WrTo p w w' v v' (L++[0]):=by
 have H:=hid h;clear h
 go_enter Tryz.func189,Tryz.ntmps189
 go_wp2_with fail
 refine(jd 0 p v L w (by omega) H.out (by omega)).mono ?_;rintro e w1 ⟨rfl,v1,h1⟩;rw[bF (by omega)]at h1;have H1:=hid h1;clear h1;go_wp2
 go_loopw [15] (λi wr=>i = .int .i64 0∧wr=w1) (λ_ _=>0)
 case atStart=>exact⟨rfl,rfl⟩
 case round=>
  obtain⟨rfl,rfl⟩:=hrel;go_wp2
  go_end0
  exact⟨rfl,v1,H1.out⟩
theorem js (fv:Value)(p:Nat)(v:Value)(L:List UInt8)(w:World)(h:IsWr w p v L)(hL:L.length≤1000000) :
  Calls Tryz.prog 191 #[.pointer (some ⟨p,0,none⟩),.slice none 0 0,fv] w λe w'=>e = .returned (.tuple #[])∧∃v',WrTo p w w' v v' (L++[0]):=by
 have H:=hid h;clear h
 go_enter Tryz.func191,Tryz.ntmps191
 go_wp2_with fail
 refine(jd 0 p v L w (by omega) H.out (by omega)).mono ?_;rintro e w1 ⟨rfl,v1,h1⟩;rw[bF (by omega)]at h1;have H1:=hid h1;clear h1;go_wp2
 go_loopw [15] (λi wr=>i = .int .i64 0∧wr=w1) (λ_ _=>0)
 case atStart=>exact⟨rfl,rfl⟩
 case round=>
  obtain⟨rfl,rfl⟩:=hrel;go_wp2
  go_end0
  exact⟨rfl,v1,H1.out⟩
theorem jt (fv:Value)(p:Nat)(v:Value)(L:List UInt8)(w:World)(h:IsWr w p v L)(hL:L.length≤1000000) :
  Calls Tryz.prog 193 #[.pointer (some ⟨p,0,none⟩),.slice none 0 0,fv] w λe w'=>e = .returned (.tuple #[])∧∃v',WrTo p w w' v v' (L++[0]):=by
 have H:=hid h;clear h
 go_enter Tryz.func193,Tryz.ntmps193
 go_wp2_with fail
 refine(jd 0 p v L w (by omega) H.out (by omega)).mono ?_;rintro e w1 ⟨rfl,v1,h1⟩;rw[bF (by omega)]at h1;have H1:=hid h1;clear h1;go_wp2
 go_loopw [15] (λi wr=>i = .int .i64 0∧wr=w1) (λ_ _=>0)
 case atStart=>exact⟨rfl,rfl⟩
 case round=>
  obtain⟨rfl,rfl⟩:=hrel;go_wp2
  go_end0
  exact⟨rfl,v1,H1.out⟩
theorem WrTo.under {p:Nat}{w W0 w':World}{v v':Value}{L:List UInt8}(hb:Below w.heap.size w W0)(h:WrTo p W0 w' v v' L):WrTo p w w' v v' L:=
 ⟨h.is,(Fr.pure hb).then h.fr (λ_ _ e=>e),h.went.older hb.size⟩
theorem IsWr.pure {w w':World}{p:Nat}{v:Value}{L:List UInt8}(h:IsWr w p v L)(hb:Below w.heap.size w w'):IsWr w' p v L:=h.kept (Fr.pure (S:=λ_=>False) hb) (λh=>h) (λ_ _ h=>h)
set_option maxRecDepth 100000 in
theorem ju (c:Int)(p:Nat)(v:Value)(L:List UInt8)(w:World)(h:IsWr w p v L)(hL:L.length≤100000) :
  Calls Tryz.prog 111 #[.pointer (some ⟨p,0,none⟩),stV c 0 1 1] w λe w'=>e = .returned (.tuple #[])∧∃v',WrTo p w w' v v' (L++(jh [c,0,1,1]++[0,0,0,0,0])):=by
 unfold stV;have hmf:∀(fn:Fn) (first cap:Array Value) (w:World),(Instr.makeFunc fn first cap).run Tryz.prog w = .ok (.func fn first cap) w:=λ_ _ _ _=>rfl;have H:=hid h;have hp:=h.lt;have HO:=hid (λg (hg:v.ownBlock=some g)=>h.lto hg);have hn4:=hid (jj [c,0,1,1]);clear h
 go_enter Tryz.func111,Tryz.ntmps111
 go_wp2_with fail
 obtain⟨n,hn⟩:∃n,n=w.heap.size:=⟨_,rfl⟩;obtain⟨W0,hW0⟩:∃W0,W0=((w.alloc (.cells #[.pointer (some ⟨p,0,none⟩)] 152)).alloc (.cells #[.int .i64 c,.int .i64 0,.int .i64 1,.int .i64 1,.slice none 0 0,.slice none 0 0,.slice none 0 0,.slice none 0 0,.slice none 0 0] 29)).alloc (.cells #[.int .i64 c,.int .i64 0,.int .i64 1,.int .i64 1] 2):=⟨_,rfl⟩;have hbel:Below w.heap.size w W0:=by rw[hW0];exact(((Below.refl _ _).alloc (Nat.le_refl _) _).alloc (by simp) _).alloc (by simp;omega) _
 have k0:W0.heap[n]?=some (.cells #[.pointer (some ⟨p,0,none⟩)] 152 (0,0)):=by rw[hW0,hn];exact(Below.heap_alloc _ _ _ (by simp;omega)).trans ((Below.heap_alloc _ _ _ (by simp)).trans (heap_alloc_new _ _))
 have k1:W0.heap[n+1]?=some (.cells #[.int .i64 c,.int .i64 0,.int .i64 1,.int .i64 1,.slice none 0 0,.slice none 0 0,.slice none 0 0,.slice none 0 0,.slice none 0 0] 29 (0,0)):=by rw[hW0,hn];exact(Below.heap_alloc _ _ _ (by simp)).trans (iu _ _ (by simp))
 have k2:W0.heap[n+1+1]?=some (.cells #[.int .i64 c,.int .i64 0,.int .i64 1,.int .i64 1] 2 (0,0)):=by rw[hW0,hn];exact iu _ _ (by simp)
 rw[← hW0]
 try rw[← hn]
 have hints:IntsAt W0 (.slice (some ⟨n+1+1,0,none⟩) 4 4) [c,0,1,1]:=⟨_,4,rfl,by simp,.inr ⟨n+1+1,0,rfl,λi hi=>by
  rw[cell_of_row _ _ _ _ _ _ k2]
  match i,hi with
  | 0,_=>rfl
  | 1,_=>rfl
  | 2,_=>rfl
  | 3,_=>rfl⟩⟩
 have hpn:p<n:=by omega
 have HON:=hid (λ(b:Nat) (hb:n≤b)=>(λe=>by have:=HO.out b e;omega:v.ownBlock≠some b));have c0:W0.cell? ⟨n,0,none⟩=some (.pointer (some ⟨p,0,none⟩)):=(cell_of_row _ _ _ _ _ _ k0).trans rfl;have HD:=hid (λ(j:Nat) (hj:4≤j) (hj2:j<9)=>((cell_of_row W0 (n+1) j _ _ _ k1).trans (by
  match j,hj,hj2 with
  | 4,_,_=>rfl
  | 5,_,_=>rfl
  | 6,_,_=>rfl
  | 7,_,_=>rfl
  | 8,_,_=>rfl):W0.cell? ⟨n+1,j,none⟩=some (.slice none 0 0)))
 have HB:=hid hbel;have HI:=hid hints;have HW:=hid (H.out.pure hbel);have C0:=hid c0;clear hW0 hn hbel k0 k1 k2 hints c0 hp;refine(jk _ [c,0,1,1] p v L W0 HW.out HI.out (λg e=>by cases e;exact⟨by show n+1+1≠p;omega,HON.out _ (by show n≤n+1+1;omega)⟩) (by simp) (by omega)).mono ?_;rintro e w1 ⟨rfl,v1,h1⟩;have H1:=hid h1;have c1:=H1.out.cellx C0.out (by omega) (HON.out _ (by omega));have d1:=H1.out.cellx (HD.out 4 (by omega) (by omega)) (by omega) (HON.out _ (by omega));clear h1
 go_wp2_with fail
 refine(jl _ p v1 _ w1 H1.out.is (by have:=hn4.out;simp at this ⊢;omega)).mono ?_;rintro e w2 ⟨rfl,v2,h2⟩;have H2:=hid (H1.out.trans h2);have c2:=H2.out.cellx C0.out (by omega) (HON.out _ (by omega));have d2:=H2.out.cellx (HD.out 5 (by omega) (by omega)) (by omega) (HON.out _ (by omega));clear h2 c1 d1
 go_wp2_with fail
 refine(jm _ p v2 _ w2 H2.out.is (by have:=hn4.out;simp at this ⊢;omega)).mono ?_;rintro e w3 ⟨rfl,v3,h3⟩;have H3:=hid (H2.out.trans h3);have c3:=H3.out.cellx C0.out (by omega) (HON.out _ (by omega));have d3:=H3.out.cellx (HD.out 6 (by omega) (by omega)) (by omega) (HON.out _ (by omega));clear h3 c2 d2
 go_wp2_with fail
 refine(jn _ p v3 _ w3 H3.out.is (by have:=hn4.out;simp at this ⊢;omega)).mono ?_;rintro e w4 ⟨rfl,v4,h4⟩;have H4:=hid (H3.out.trans h4);have c4:=H4.out.cellx C0.out (by omega) (HON.out _ (by omega));have d4:=H4.out.cellx (HD.out 7 (by omega) (by omega)) (by omega) (HON.out _ (by omega));clear h4 c3 d3
 go_wp2_with fail
 refine(jo _ p v4 _ w4 H4.out.is (by have:=hn4.out;simp at this ⊢;omega)).mono ?_;rintro e w5 ⟨rfl,v5,h5⟩;have H5:=hid (H4.out.trans h5);have c5:=H5.out.cellx C0.out (by omega) (HON.out _ (by omega));have d5:=H5.out.cellx (HD.out 8 (by omega) (by omega)) (by omega) (HON.out _ (by omega));clear h5 c4 d4
 go_wp2_with fail
 refine(jp _ p v5 _ w5 H5.out.is (by have:=hn4.out;simp at this ⊢;omega)).mono ?_;rintro e w6 ⟨rfl,v6,h6⟩;have H6:=hid (H5.out.trans h6);clear h6 c5 d5;go_wp2
 go_end0
 refine⟨rfl,v6,?_⟩;have:=WrTo.under HB.out H6.out;simpa using this
set_option maxRecDepth 100000 in
theorem jv (p:Nat)(v:Value)(L:List UInt8)(w:World)(h:IsWr w p v L)(hL:L.length≤100000) :
  Calls Tryz.prog 112 #[.pointer (some ⟨p,0,none⟩),dl] w λe w'=>e = .returned (.tuple #[])∧∃v',WrTo p w w' v v' (L++[0,0,0,0]):=by
 unfold dl;have hmf:∀(fn:Fn) (first cap:Array Value) (w:World),(Instr.makeFunc fn first cap).run Tryz.prog w = .ok (.func fn first cap) w:=λ_ _ _ _=>rfl;have H:=hid h;have hp:=h.lt;have HO:=hid (λg (hg:v.ownBlock=some g)=>h.lto hg);clear h
 go_enter Tryz.func112,Tryz.ntmps112
 go_wp2_with fail
 obtain⟨n,hn⟩:∃n,n=w.heap.size:=⟨_,rfl⟩;obtain⟨W0,hW0⟩:∃W0,W0=(w.alloc (.cells #[.pointer (some ⟨p,0,none⟩)] 152)).alloc (.cells #[.slice none 0 0,.slice none 0 0,.slice none 0 0,.slice none 0 0] 35):=⟨_,rfl⟩;have hbel:Below w.heap.size w W0:=by rw[hW0];exact((Below.refl _ _).alloc (Nat.le_refl _) _).alloc (by simp) _
 have k0:W0.heap[n]?=some (.cells #[.pointer (some ⟨p,0,none⟩)] 152 (0,0)):=by rw[hW0,hn];exact(Below.heap_alloc _ _ _ (by simp)).trans (heap_alloc_new _ _)
 have k1:W0.heap[n+1]?=some (.cells #[.slice none 0 0,.slice none 0 0,.slice none 0 0,.slice none 0 0] 35 (0,0)):=by rw[hW0,hn];exact iu _ _ (by simp)
 rw[← hW0]
 try rw[← hn]
 have hpn:p<n:=by omega
 have HON:=hid (λ(b:Nat) (hb:n≤b)=>(λe=>by have:=HO.out b e;omega:v.ownBlock≠some b));have c0:W0.cell? ⟨n,0,none⟩=some (.pointer (some ⟨p,0,none⟩)):=(cell_of_row _ _ _ _ _ _ k0).trans rfl;have HD:=hid (λ(j:Nat) (hj2:j<4)=>((cell_of_row W0 (n+1) j _ _ _ k1).trans (by
  match j,hj2 with
  | 0,_=>rfl
  | 1,_=>rfl
  | 2,_=>rfl
  | 3,_=>rfl):W0.cell? ⟨n+1,j,none⟩=some (.slice none 0 0)))
 have HB:=hid hbel;have H1:=hid (show WrTo p W0 W0 v v L from⟨H.out.pure hbel,Fr.refl _ _,Went.refl _ _⟩);have C0:=hid c0;clear hW0 hn hbel k0 k1 c0 hp;refine(jq _ p v _ W0 H1.out.is (by(try simp);omega)).mono ?_;rintro e w2 ⟨rfl,v2,h2⟩;have H2:=hid (H1.out.trans h2);have c2:=H2.out.cellx C0.out (by omega) (HON.out _ (by omega));have d2:=H2.out.cellx (HD.out 1 (by omega)) (by omega) (HON.out _ (by omega));clear h2
 go_wp2_with fail
 refine(jr _ p v2 _ w2 H2.out.is (by(try simp);omega)).mono ?_;rintro e w3 ⟨rfl,v3,h3⟩;have H3:=hid (H2.out.trans h3);have c3:=H3.out.cellx C0.out (by omega) (HON.out _ (by omega));have d3:=H3.out.cellx (HD.out 2 (by omega)) (by omega) (HON.out _ (by omega));clear h3 c2 d2
 go_wp2_with fail
 refine(js _ p v3 _ w3 H3.out.is (by(try simp);omega)).mono ?_;rintro e w4 ⟨rfl,v4,h4⟩;have H4:=hid (H3.out.trans h4);have c4:=H4.out.cellx C0.out (by omega) (HON.out _ (by omega));have d4:=H4.out.cellx (HD.out 3 (by omega)) (by omega) (HON.out _ (by omega));clear h4 c3 d3
 go_wp2_with fail
 refine(jt _ p v4 _ w4 H4.out.is (by(try simp);omega)).mono ?_;rintro e w5 ⟨rfl,v5,h5⟩;have H5:=hid (H4.out.trans h5);clear h5 c4 d4;go_wp2
 go_end0
 refine⟨rfl,v5,?_⟩;have:=WrTo.under HB.out H5.out;simpa using this
def jw:Array Value:=#[.string ⟨#[110,117,109,98,101,114,115]⟩,.func (.func 256) #[] #[],.string ⟨#[97,99,99,111,117,110,116,115]⟩,.func (.func 257) #[] #[],
 .string ⟨#[105,110,115,116,114,117,109,101,110,116,115]⟩,.func (.func 258) #[] #[],.string ⟨#[114,111,119,115]⟩,.func (.func 259) #[] #[],
 .string ⟨#[111,114,100,101,114,115]⟩,.func (.func 260) #[] #[],.string ⟨#[97,117,99,116,105,111,110,115]⟩,.func (.func 261) #[] #[],
 .string ⟨#[104,101,108,100]⟩,.func (.func 262) #[] #[]]
set_option maxRecDepth 100000 in
theorem jx (w:World):Calls Tryz.prog 217 #[] w λe w'=>e = .returned (.slice (some ⟨w.heap.size,0,none⟩) 7 7)∧w'=w.alloc (.cells jw 295):=by
 go_enter Tryz.func217,Tryz.ntmps217
 go_wp2;go_ret;exact⟨rfl,rfl⟩
theorem jy (k:Nat)(hk:k<7)(c:Int)(h0:0≤c)(h1:c≤1000):∃(fk:FuncId) (nm:ByteArray),Enters Tryz.prog fk∧jw[k*2]?=some (.string nm)∧jw[k*2+1]?=some (.func (.func fk) #[] #[]) ∧
  ∀w:World,Calls Tryz.prog fk #[stV c 0 1 1] w λe w'=>e = .returned (.bool true)∧Below w.heap.size w w':=by
 match k,hk with
 | 0,_=>exact⟨_,_,enters_of Tryz.func256 (by kernel_rfl) rfl,rfl,rfl,λw=>dp w c h0 h1⟩
 | 1,_=>exact⟨_,_,enters_of Tryz.func257 (by kernel_rfl) rfl,rfl,rfl,λw=>dr w c 0 1 1⟩
 | 2,_=>exact⟨_,_,enters_of Tryz.func258 (by kernel_rfl) rfl,rfl,rfl,λw=>dt w c 0 1 1⟩
 | 3,_=>exact⟨_,_,enters_of Tryz.func259 (by kernel_rfl) rfl,rfl,rfl,λw=>dy w c 0 1 1⟩
 | 4,_=>exact⟨_,_,enters_of Tryz.func260 (by kernel_rfl) rfl,rfl,rfl,λw=>dA w c 0 1 1⟩
 | 5,_=>exact⟨_,_,enters_of Tryz.func261 (by kernel_rfl) rfl,rfl,rfl,λw=>dB w c 0 1 1⟩
 | 6,_=>exact⟨_,_,enters_of Tryz.func262 (by kernel_rfl) rfl,rfl,rfl,λw=>dG w c 0 1 1⟩
set_option maxRecDepth 100000 in
theorem jz (w:World)(c:Int)(h0:0≤c)(h1:c≤1000):Calls Tryz.prog 167 #[stV c 0 1 1] w λe w'=>e = .returned (.string ⟨#[]⟩)∧Below w.heap.size w w':=by
 unfold stV
 go_enter Tryz.func167,Tryz.ntmps167
 go_wp2_with fail
 refine(jx _).mono ?_;rintro e w1 ⟨rfl,rfl⟩;obtain⟨b,hb⟩:∃b,b=w.heap.size:=⟨_,rfl⟩;obtain⟨W0,hW0⟩:∃W0,W0=(w.alloc (.cells #[.int .i64 c,.int .i64 0,.int .i64 1,.int .i64 1,.slice none 0 0,.slice none 0 0,.slice none 0 0,.slice none 0 0,.slice none 0 0] 29)).alloc (.cells jw 295):=⟨_,rfl⟩;have hsz:W0.heap.size=b+2:=by rw[hW0,hb];simp
 have k0:W0.heap[b]?=some (.cells (stC c 0 1 1) 29 (0,0)):=by rw[hW0,hb];exact(Below.heap_alloc _ _ _ (by simp)).trans (heap_alloc_new _ _)
 have k1:W0.heap[b+1]?=some (.cells jw 295 (0,0)):=by rw[hW0,hb];exact cK _ _ (by simp)
 have hbel:Below w.heap.size w W0:=by rw[hW0];exact((Below.refl _ _).alloc (Nat.le_refl _) _).alloc (by simp) _
 have K0:=hid k0;have K1:=hid k1;have HB:=hid hbel
 try simp only[World.size_alloc]
 rw[← hW0,← hb];have HBS:=hid hb;clear hW0 hb k0 k1 hbel;go_wp2
 go_loopw [7] (λi wr=>∃k:Nat,i = .int .i64 k∧k≤7∧Hid (Below W0.heap.size W0 wr)) (λi _=>7-(intOf i).toNat)
 case atStart=>exact⟨0,rfl,by omega,hid (Below.refl _ _)⟩
 case round=>
  obtain⟨k,rfl,hk,HF⟩:=hrel;by_cases hlt:k<7
  ·obtain⟨fk,nm,hent,ha1,ha2,hcon⟩:=jy k hlt c h0 h1
   have he:∀(args:Array Value) (w:World),(callFunc fk args).run Tryz.prog w = .ok (.enter fk args) w:=hent;have r1:=(HF.out.block _ (lt_of_block K1.out)).trans K1.out;have r0:=(HF.out.block _ (lt_of_block K0.out)).trans K0.out;have g1:wr.cell? ⟨b+1,k*2,none⟩=some (.string nm):=(cell_of_row _ _ _ _ _ _ r1).trans ha1;have g2:wr.cell? ⟨b+1,k*2+1,none⟩=some (.func (.func fk) #[] #[]):=(cell_of_row _ _ _ _ _ _ r1).trans ha2;have HX:=hid (λj v (h:(stC c 0 1 1)[j]?=some v)=>((cell_of_row _ _ _ _ _ _ r0).trans h:wr.cell? ⟨b,j,none⟩=some v));have x0:=HX.out 0 _ rfl;have x1:=HX.out 1 _ rfl;have x2:=HX.out 2 _ rfl;have x3:=HX.out 3 _ rfl;have x4:=HX.out 4 _ rfl;have x5:=HX.out 5 _ rfl;have x6:=HX.out 6 _ rfl;have x7:=HX.out 7 _ rfl;have x8:=HX.out 8 _ rfl;have HCON:=hid hcon;have hwz:W0.heap.size≤wr.heap.size:=HF.out.size;have hbl:b<wr.heap.size:=aD x0;have hbl1:b+1<wr.heap.size:=aD g1;clear r0 r1 hent ha1 ha2 hcon
   go_wp2_with fail
   refine(HCON.out _).mono ?_;rintro e w4 ⟨rfl,hb4⟩;have HF4:=hid ((HF.out.alloc hwz _).trans (hb4.mono (by simp;omega)));clear hb4;go_wp2
   go_roundw
   case rel=>exact⟨k+1,by go_num,by omega,HF4⟩
   case measure=>simp[intOf];omega
  ·go_wp2
   go_ret;exact⟨rfl,HB.out.trans (HF.out.mono (by have:=HBS.out;omega))⟩
set_option maxRecDepth 100000 in
theorem jA (w:World)(c:Int)(h0:0≤c)(h1:c≤1000):Calls Tryz.prog 109 #[stV c 0 1 1] w λe w'=>e = .returned (.bool true)∧Below w.heap.size w w':=by
 unfold stV
 go_enter Tryz.func109,Tryz.ntmps109
 go_wp2_with fail
 refine(show Calls Tryz.prog 167 #[.agg #[.int .i64 c,.int .i64 0,.int .i64 1,.int .i64 1,.slice none 0 0,.slice none 0 0,.slice none 0 0,.slice none 0 0,.slice none 0 0]] _ _ from jz _ c h0 h1).mono ?_;rintro e w1 ⟨rfl,hb1⟩;have HB:=hid (di hb1);clear hb1;go_wp2;go_ret;exact⟨rfl,HB.out⟩
end
section
open Go.RowKit Go.Sort Go.Shelf
theorem jB (w:World):Calls Tryz.prog 223 #[.slice none 0 0] w λe w'=>e = .returned (.tuple #[])∧w'=w:=
 AnyM.slices_Sort_int_none Tryz.laysSlM5X none 0 w
theorem jC (w:World):Calls Tryz.prog 224 #[.slice none 0 0] w λe w'=>e = .returned (.slice none 0 0)∧w=w':=by
 go_enter Tryz.func224,Tryz.ntmps224
 go_wp2;go_ret;exact⟨rfl,rfl⟩
theorem jD (w:World)(fv:Value):Calls Tryz.prog 218 #[.slice none 0 0,fv] w λe w'=>e = .returned (.bool true)∧w=w':=by
 go_enter Tryz.func218,Tryz.ntmps218
 go_wp2
 go_loopw [5] (λi wr=>i = .int .i64 1∧wr=w) (λ_ _=>0)
 case atStart=>exact⟨rfl,rfl⟩
 case round=>
  obtain⟨rfl,rfl⟩:=hrel;go_wp2;go_ret;exact⟨rfl,rfl⟩
theorem jE (w:World)(fv:Value):Calls Tryz.prog 220 #[.slice none 0 0,fv] w λe w'=>e = .returned (.bool true)∧w=w':=by
 go_enter Tryz.func220,Tryz.ntmps220
 go_wp2
 go_loopw [5] (λi wr=>i = .int .i64 1∧wr=w) (λ_ _=>0)
 case atStart=>exact⟨rfl,rfl⟩
 case round=>
  obtain⟨rfl,rfl⟩:=hrel;go_wp2;go_ret;exact⟨rfl,rfl⟩
set_option maxRecDepth 100000 in
theorem jF (w:World):Calls Tryz.prog 168 #[.slice none 0 0,.slice none 0 0] w λe w'=>e = .returned (.bool true)∧Below w.heap.size w w':=by
 have hmf:∀(fn:Fn) (first cap:Array Value) (w:World),(Instr.makeFunc fn first cap).run Tryz.prog w = .ok (.func fn first cap) w:=λ_ _ _ _=>rfl
 go_enter Tryz.func168,Tryz.ntmps168
 go_wp2_with fail
 refine(jD w _).mono ?_;rintro e w1 ⟨rfl,rfl⟩
 go_wp2_with fail
 refine(jE w _).mono ?_;rintro e w1 ⟨rfl,rfl⟩;go_wp2
 go_loopw [5,28] (λl i wr=>l = .slice none 0 0∧i = .int .i64 0∧wr=w) (λ_ _ _=>0)
 case atStart=>exact⟨rfl,rfl,rfl⟩
 case round=>
  obtain⟨rfl,rfl,rfl⟩:=hrel
  go_wp2_with fail
  refine(jB _).mono ?_;rintro e w1 ⟨rfl,rfl⟩
  go_wp2_with fail
  refine(jC _).mono ?_;rintro e w1 ⟨rfl,rfl⟩
  go_wp2_with fail
  refine(cY _ _).mono ?_;rintro e w1 ⟨rfl,rfl⟩;go_wp2;go_ret;exact⟨rfl,Below.refl _ _⟩
set_option maxRecDepth 100000 in
theorem jG (w:World):Calls Tryz.prog 169 #[.slice none 0 0] w λe w'=>e = .returned (.bool true)∧Below w.heap.size w w':=by
 go_enter Tryz.func169,Tryz.ntmps169
 go_wp2
 go_loopw [8] (λi wr=>i = .int .i64 0∧wr=w) (λ_ _=>0)
 case atStart=>exact⟨rfl,rfl⟩
 case round=>
  obtain⟨rfl,rfl⟩:=hrel;go_wp2;go_ret;exact⟨rfl,Below.refl _ _⟩
set_option maxRecDepth 100000 in
theorem jH (w:World):Calls Tryz.prog 170 #[.slice none 0 0] w λe w'=>e = .returned (.bool true)∧Below w.heap.size w w':=by
 have hmm:=@run_makeMap Tryz.prog
 go_enter Tryz.func170,Tryz.ntmps170
 go_wp2
 go_loopw [12] (λi wr=>i = .int .i64 0∧Hid (Below w.heap.size w wr)) (λ_ _=>0)
 case atStart=>exact⟨rfl,hid ((Below.refl _ _).alloc (Nat.le_refl _) _)⟩
 case round=>
  obtain⟨rfl,HB⟩:=hrel;go_wp2;go_ret;exact⟨rfl,HB.out⟩
set_option maxRecDepth 100000 in
theorem jI (w:World):Calls Tryz.prog 110 #[dl] w λe w'=>e = .returned (.bool true)∧Below w.heap.size w w':=by
 unfold dl
 go_enter Tryz.func110,Tryz.ntmps110
 go_wp2_with fail
 refine(jF _).mono ?_;rintro e w1 ⟨rfl,hb1⟩;have c2:=dh hb1 2 _ rfl;have HB1:=hid hb1;clear hb1
 go_wp2_with fail
 refine(jG _).mono ?_;rintro e w2 ⟨rfl,hb2⟩;have HB2:=hid (dj HB1.out hb2);have c3:=dh HB2.out 3 _ rfl;clear hb2
 go_wp2_with fail
 refine(jH _).mono ?_;rintro e w3 ⟨rfl,hb3⟩;have HB3:=hid (dj HB2.out hb3);clear hb3;go_wp2;go_ret;exact⟨rfl,di HB3.out⟩
end
section
open Go.RowKit
theorem jJ (k n:Nat)(h:n<256 ^ k):val (be k n)=n:=by
 induction k generalizing n with
 | zero=>simp at h;subst h;rfl
 | succ k ih=>
  simp only[be];rw[aO,ih (n / 256) (by rw[Nat.pow_succ]at h;omega)];have:(UInt8.ofNat (n % 256)).toNat=n % 256:=by simp
  rw[this];omega
theorem jK (n:Nat)(p:Nat)(v:Value)(L:List UInt8)(w:World)(hn:n<4294967296)(h:IsWr w p v L)(hL:L.length≤1073741824) :
  Calls Tryz.prog 76 #[.pointer (some ⟨p,0,none⟩),.int .u32 (n:Int)] w λe w'=>e = .returned (.tuple #[])∧∃v',WrTo p w w' v v' (L++be 4 n):=by
 have H:=hid h;clear h
 go_enter Tryz.func76,Tryz.ntmps76
 go_wp2_with fail
 refine(bu n p v L _ H.out hL).mono ?_;rintro e w1 ⟨rfl,h1⟩;have H1:=hid h1;clear h1;go_wp2
 go_end0
 exact⟨rfl,H1.out⟩
theorem jL {l:List UInt8}(h:l.length≤4):val l<4294967296:=by
 have h1:=aQ l;have h2:256 ^ l.length≤256 ^ 4:=Nat.pow_le_pow_right (by decide) h;exact Nat.lt_of_lt_of_le h1 h2
theorem jM (w:World)(p:Nat)(s:ByteArray)(st:RdSt)(h:IsRd w p s st) :
  Calls Tryz.prog 105 #[.pointer (some ⟨p,0,none⟩),.int .i64 4] w λe w'=>e = .returned (.int .u32 ((st.fixed s.data.toList 4).1:Int))∧IsRd w' p s (st.fixed s.data.toList 4).2∧Fr (λk=>k=p) w w':=by
 unfold RdSt.fixed;have H:=hid h;clear h
 go_enter Tryz.func105,Tryz.ntmps105
 go_wp2_with fail
 refine(aN _ p s st H.out 4 (by omega)).mono ?_;rintro e w1 ⟨r,hr,rfl,h1,hf1⟩;have hrs:r.size≤4:=by rw[ay hr];exact aS st s.data.toList 4
 have HR:=hid hr;have H1:=hid h1;clear hr h1;go_wp2
 go_loop [7,17] (λv i=>∃(j n:Nat),j≤r.size∧i = .int .i64 j∧v = .int .u64 (n:Int)∧n=val (r.data.toList.take j)) (λ_ i=>r.size-(intOf i).toNat)
 case atStart=>exact⟨0,0,by omega,rfl,rfl,rfl⟩
 case round=>
  obtain⟨j,n,hj,rfl,rfl,hn⟩:=hrel;by_cases hlt:j<r.size
  ·have hb7:n<72057594037927936:=by rw[hn];exact aR (by rw[List.length_take];omega)
   have HO:=hid (aU n r[j] hb7);have HN:=hid hn;clear hn;go_wp2
   go_round
   case rel=>exact⟨j+1,n*256+r[j].toNat,by omega,by go_num,by rw[HO.out],by rw[aV r j hlt,HN.out]⟩
   case measure=>simp[intOf];omega
  ·have hb2:n<4294967296:=by rw[hn];exact jL (by rw[List.length_take,aq];omega)
   have HN:=hid hn;clear hn;go_wp2;go_ret;exact⟨by rw[← HR.out,HN.out,List.take_of_length_le (by rw[aq];omega)];rfl,H1.out,hf1⟩
theorem jN (w:World)(p:Nat)(s:ByteArray)(st:RdSt)(h:IsRd w p s st) :
  Calls Tryz.prog 68 #[.pointer (some ⟨p,0,none⟩)] w λe w'=>e = .returned (.int .u32 ((st.fixed s.data.toList 4).1:Int))∧IsRd w' p s (st.fixed s.data.toList 4).2∧Fr (λk=>k=p) w w':=by
 have H:=hid h;clear h
 go_enter Tryz.func68,Tryz.ntmps68
 go_wp2_with fail
 refine(jM _ p s st H.out).mono ?_;rintro e w1 ⟨rfl,h1,hf1⟩;have H1:=hid h1;clear h1;go_wp2;go_ret;exact⟨rfl,H1.out,hf1⟩
theorem jO (c:BitVec 32):bits BinOp.and IntKind.u32 (c.toNat:Int) 1=if c.getLsbD 0 then 1 else 0:=by
 have h:=ae c 1#32;rw[show((1#32).toNat:Int)=1 from rfl]at h;rw[h];rw[BitVec.and_one_eq_setWidth_ofBool_getLsbD];cases c.getLsbD 0<;>rfl
theorem jP (c:BitVec 32):bits BinOp.xor IntKind.u32 ((c.toNat:Int) / 2) 3988292384=((c >>> 1 ^^^ Crc.poly).toNat:Int):=by
 have h:=af (c >>> 1) Crc.poly;rw[ah]at h;exact h
theorem jQ (c:BitVec 32)(w:World) :
  Calls Tryz.prog 272 #[.int .u32 (c.toNat:Int)] w λe w'=>e = .returned (.int .u32 ((Crc.step c).toNat:Int))∧w=w':=by
 have hb:=jO c;have HX:=hid (jP c);cases h0:c.getLsbD 0
 ·rw[h0]at hb
  have HS:Hid ((Crc.step c).toNat=(c >>> 1).toNat):=by unfold Crc.step;rw[h0];rfl
  clear h0
  go_enter Tryz.func272,Tryz.ntmps272
  go_wp2;go_ret;exact⟨aa (by rw[HS.out,ah];rfl),rfl⟩
 ·rw[h0]at hb
  have HS:Hid ((Crc.step c).toNat=(c >>> 1 ^^^ Crc.poly).toNat):=by unfold Crc.step;rw[h0];rfl
  clear h0
  go_enter Tryz.func272,Tryz.ntmps272
  go_wp2;go_ret;exact⟨aa (by rw[HS.out,HX.out]),rfl⟩
def jR (c:BitVec 32):Value:=.int .u32 (c.toNat:Int)
def jS (k:Nat)(c:Array Value):Prop:=c.size=256∧∀i,i<k→c[i]?=some (jR (Crc.tab (BitVec.ofNat 8 i)))
def jT (w:World)(v:Value)(wr:World):Prop:=
 ∃(k:Nat) (c:Array Value),k≤256∧v = .int .i64 k∧jS k c∧wr=(w.alloc (.cells Tryz.zeroCells312 312)).alloc (.cells c 312)
def jU (w:World)(k:Nat)(v:Value)(wr:World):Prop:=
 ∃(j:Nat) (c:Array Value) (x:BitVec 32),j≤8∧v = .int .i64 j∧jS k c∧c[k]?=some (jR x)∧x=Crc.steps j (BitVec.ofNat 32 k)∧wr=(w.alloc (.cells Tryz.zeroCells312 312)).alloc (.cells c 312)
theorem jV {k:Nat}{c:Array Value}(hk:k<256)(h:jS k c):jS k (c.setIfInBounds k (.int .u32 (k:Int)))∧(c.setIfInBounds k (.int .u32 (k:Int)))[k]?=some (jR (Crc.steps 0 (BitVec.ofNat 32 k))):=by
 obtain⟨h1,h2⟩:=h;refine⟨⟨by simp[h1],λi hi=>?_⟩,?_⟩
 ·rw[Array.getElem?_setIfInBounds_ne (by omega)];exact h2 i hi
 ·rw[Array.getElem?_setIfInBounds_self_of_lt (by omega)]
  simp[jR,Crc.steps,BitVec.toNat_ofNat,Nat.mod_eq_of_lt (show k<4294967296 from by omega)]
theorem jW {k j:Nat}{c:Array Value}{x:BitVec 32}(hk:k<256)(h:jS k c)(hx:x=Crc.steps j (BitVec.ofNat 32 k)) :
  jS k (c.setIfInBounds k (.int .u32 ((Crc.step x).toNat:Int)))∧(c.setIfInBounds k (.int .u32 ((Crc.step x).toNat:Int)))[k]?=some (jR (Crc.step x))∧Crc.step x=Crc.steps (j+1) (BitVec.ofNat 32 k):=by
 obtain⟨h1,h2⟩:=h;refine⟨⟨by simp[h1],λi hi=>?_⟩,?_,?_⟩
 ·rw[Array.getElem?_setIfInBounds_ne (by omega)];exact h2 i hi
 ·rw[Array.getElem?_setIfInBounds_self_of_lt (by omega)];rfl
 ·rw[Crc.steps_succ',hx]
theorem jX {k:Nat}{c:Array Value}(hk:k<256)(h:jS k c)(hx:c[k]?=some (jR (Crc.steps 8 (BitVec.ofNat 32 k)))):jS (k+1) c:=by
 refine⟨h.1,λi hi=>?_⟩;by_cases e:i=k
 ·subst e
  rw[hx];have:(BitVec.ofNat 8 i).zeroExtend 32=BitVec.ofNat 32 i:=by
   apply BitVec.eq_of_toNat_eq;simp;omega
  simp only[Crc.tab,this]
 ·exact h.2 i (by omega)
theorem jY {c:Array Value}(h:jS 256 c):c.all (·.oneCell')=true:=by
 rw[Array.all_eq_true];intro i hi;have h2:=h.2 i (by have:=h.1;omega);rw[Array.getElem?_eq_getElem hi]at h2;rw[Option.some.inj h2];rfl
theorem Tryz.info256:(Tryz.prog.info? 312).map (·.size)=some 256:=by kernel_rfl
theorem Tryz.zero256:Tryz.zeroCells312.size=256:=by kernel_rfl
set_option maxRecDepth 100000 in
theorem jZ (w:World) :
  Calls Tryz.prog 237 #[] w λe w'=>∃c,jS 256 c∧e = .returned (.agg c)∧Below w.heap.size w w':=by
 go_enter Tryz.func237,Tryz.ntmps237
 go_wp2
 go_loopw [3] (λv wr=>jT w v wr) (λv _=>256-(intOf v).toNat)
 case atStart=>exact⟨0,_,by omega,rfl,⟨Tryz.zero256,λi hi=>by omega⟩,rfl⟩
 case round=>
  obtain⟨k,c,hk,rfl,hc,rfl⟩:=hrel;have HC:=hid hc;clear hc;by_cases hlt:k<256
  ·obtain⟨v0,hv0⟩:∃v,c[k]?=some v:=⟨c[k]'(by rw[HC.out.1];exact hlt),Array.getElem?_eq_getElem _⟩
   have hd4:decide ((k:Int)<256)=true:=by rw[decide_eq_true_iff];omega
   go_wp2
   go_loopw [10] (λv wr=>jU w k v wr) (λv _=>8-(intOf v).toNat)
   case atStart=>exact⟨0,_,_,by omega,rfl,(jV hlt HC.out).1,(jV hlt HC.out).2,rfl,rfl⟩
   case round=>
    obtain⟨j,c2,x,hj,rfl,hc2,hx,hxe,rfl⟩:=hrel;have HC2:=hid hc2;have HX:=hid hx;have HXE:=hid hxe;clear hc2 hxe;unfold jR at hx;by_cases hlt2:j<8
    ·go_wp2_with (go_at_call 272;refine(jQ x _).mono ?_;rintro e w' ⟨rfl,rfl⟩)
     go_roundw
     case rel=>
      have h:=jW hlt HC2.out HXE.out;exact⟨j+1,_,_,by omega,by go_num,h.1,h.2.1,h.2.2,rfl⟩
     case measure=>simp[intOf];omega
    ·obtain rfl:j=8:=by omega
     clear hx;go_wp2
     go_roundw
     case rel=>exact⟨k+1,_,by omega,by go_num,jX hlt HC2.out (by rw[← HXE.out];exact HX.out),rfl⟩
     case measure=>simp[intOf];omega
  ·obtain rfl:k=256:=by omega
   have h1:=hid HC.out.1
   go_wp2_with (first
    | (with_reducible refine wpList_load_row rfl 312 _ rfl (w.heap.size+1) rfl 312 c (0,0) _ (heap_alloc2_new _ _ _) Tryz.underlying312 rfl (by rw[Tryz.info256,h1.out]) ?_)
    | (with_reducible refine wpList_store_row rfl 312 _ _ rfl w.heap.size c rfl rfl 312 Tryz.zeroCells312 (heap_alloc2_old _ _ _) (by rw[Tryz.info256,h1.out]) (by rw[Tryz.zero256,h1.out]) (jY HC.out) ?_))
   exact bodyPost_ret (v:=.agg c) (results_cell_row Tryz.results237 _ _ w.heap.size 312 c (0,0) _ rfl (setRow_heap _ _ _ _ _ _ (heap_alloc2_old _ _ _)) Tryz.underlying312 rfl (by rw[Tryz.info256,h1.out])) rfl ⟨c,HC.out,rfl,below_setRow (((Below.refl _ _).alloc (Nat.le_refl _) _).alloc (by simp) _) (Nat.le_refl _) _⟩
end
end Go.Proofs.YtaeakdichkhjaaaGreatDoor
