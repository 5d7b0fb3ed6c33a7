/- slices.Index, Contains of bytes; stmt.kinds. -/
import Derived.Test.YtaeakdichkhjaaaGreatDoorQAh
set_option maxHeartbeats 1000000
open Go.Lib(hid)
namespace Go.Proofs.YtaeakdichkhjaaaGreatDoor
section
open Go.RowKit
set_option maxRecDepth 100000 in
theorem sK (w:World)(g c:Nat)(ks:List Int)(hc:∀i (h:i<ks.length),w.cell? ⟨g,i,none⟩=some (.int .u8 ks[i]))(hl:ks.length≤4398046511104)(x:Int) :
  Calls Tryz.prog 271 #[.slice (some ⟨g,0,none⟩) ks.length c,.int .u8 x] w λe w'=>(∃r:Int,e = .returned (.int .i64 r)∧(0≤r↔x∈ks))∧w=w':=by
 have HC:=hid hc;clear hc
 go_enter Tryz.func271,Tryz.ntmps271
 go_wp2
 go_loopw [8] (λi wr=>∃k:Nat,i = .int .i64 (k:Int)∧k≤ks.length∧wr=w∧Hid (∀j (h:j<ks.length),j<k→ks[j]≠x)) (λi _=>ks.length-(intOf i).toNat)
 case atStart=>exact⟨0,rfl,by omega,rfl,hid (λj _ h=>absurd h (Nat.not_lt_zero _))⟩
 case round=>
  obtain⟨k,rfl,hk,rfl,HN⟩:=hrel;by_cases hlt:k<ks.length
  ·have h1:=HC.out k hlt
   obtain⟨y,hy⟩:∃y,y=ks[k]:=⟨_,rfl⟩;rw[← hy]at h1;by_cases hxy:x=y
   ·have hq:(x == y)=true:=by simpa using hxy
    have HIN:=hid (show x∈ks from by rw[hxy,hy];exact List.getElem_mem hlt);clear hxy hy;go_wp2;go_ret;exact⟨⟨_,rfl,⟨λ_=>HIN.out,λ_=>by omega⟩⟩,rfl⟩
   ·have hq:(x == y)=false:=by simpa using hxy
    have HN2:=hid (show ∀j (h:j<ks.length),j<k+1→ks[j]≠x from λj hj hj2=>by
     by_cases hjk:j=k
     ·subst hjk;rw[← hy];exact λe=>hxy e.symm
     ·exact HN.out j hj (by omega))
    clear hxy hy;go_wp2
    go_roundw
    case rel=>exact⟨k+1,by go_num,by omega,trivial,HN2⟩
    case measure=>simp[intOf];omega
  ·have HNO:=hid (show ¬x∈ks from λh=>by
    obtain⟨j,hj,e⟩:=List.getElem_of_mem h;exact HN.out j hj (by omega) e)
   go_wp2;go_ret;exact⟨⟨_,rfl,⟨λh=>by omega,λh=>absurd h HNO.out⟩⟩,rfl⟩
theorem sL (w:World)(g c:Nat)(ks:List Int)(hc:∀i (h:i<ks.length),w.cell? ⟨g,i,none⟩=some (.int .u8 ks[i]))(hl:ks.length≤4398046511104)(x:Int) :
  Calls Tryz.prog 232 #[.slice (some ⟨g,0,none⟩) ks.length c,.int .u8 x] w λe w'=>TB (x∈ks) e∧w=w':=by
 have H:=hid (sK w g c ks hc hl x);clear hc
 go_enter Tryz.func232,Tryz.ntmps232
 go_wp2_with fail
 refine H.out.mono ?_;rintro e w1 ⟨⟨r,rfl,hr⟩,rfl⟩;have HR:=hid hr;clear hr;go_wp2;go_ret;exact⟨⟨_,by rw[← HR.out];simp,rfl⟩,rfl⟩
theorem sM (w:World):Calls Tryz.prog 233 #[] w λe w'=>e = .returned (.slice (some ⟨w.heap.size,0,none⟩) 5 5)∧w'=w.alloc (.cells #[.int .u8 6,.int .u8 7,.int .u8 13,.int .u8 18,.int .u8 21] 5):=by
 go_enter Tryz.func233,Tryz.ntmps233
 go_wp2;go_ret;exact⟨rfl,rfl⟩
end
end Go.Proofs.YtaeakdichkhjaaaGreatDoor
