/- The walks of Create and Delete, each with what it does. -/
import Derived.Test.YtaeakdichkhjaaaGreatDoorQAd
import Derived.Test.YtaeakdichkhjaaaGreatDoorShelf
import Derived.Shelf.Strings.SlTrimAscii
set_option maxHeartbeats 1500000
open Go.Lib(hid)
namespace Go.Proofs.YtaeakdichkhjaaaGreatDoor
section
open Go.RowKit Go.Maps
def ew (fs:Fs)(left:Lit→Bool):Nat:=ec (fs.filter λf=>!left (.string f.name))
theorem ex (fs:Fs):ew fs (Maps.has (fsD fs))=0:=by
 have:fs.filter (λf=>!Maps.has (fsD fs) (.string f.name))=[]:=by
  rw[List.filter_eq_nil_iff];intro f hf;rw[dY];simp only[Bool.not_eq_true',Bool.not_eq_false];unfold dR;rw[List.find?_isSome];exact⟨f,hf,by simp⟩
 unfold ew;rw[this];rfl
theorem ey (fs:Fs){left:Lit→Bool}(h:∀k,left k=false):ew fs left=ec fs:=by
 unfold ew;rw[List.filter_eq_self.2 (λf _=>by simp[h])]
theorem ez {a b:List UInt8}(h:bytesBefore a b=true):a≠b:=by
 intro e;subst e;have:(Lit.string a).before (.string a)=true:=h;have hx:=apart_of_rising (H:=Unit) (es:=[(.string a,.nil),(.string a,.nil)]) (by simp[this]);simp at hx
theorem eA {fs:Fs}(h:FsOk fs):fs.Pairwise (λf g=>f.name≠g.name):=h.sorted.imp λh=>ez h
theorem eC {fs:Fs}(hp:fs.Pairwise (λf g=>f.name≠g.name)){left:Lit→Bool}{n:List UInt8}{f:FileS}(hl:left (.string n)=true)(hg:dR fs n=some f) :
  ew fs (λz=>left z && !z.sameKey (.string n))=ew fs left+(f.firm.length+f.pend.length):=by
 induction fs with
 | nil=>simp[dR]at hg
 | cons g r ih=>
  obtain⟨h1,h2⟩:=List.pairwise_cons.1 hp;have cons:∀(l:Lit→Bool),ew (g::r) l=(if l (.string g.name) then 0 else g.firm.length+g.pend.length)+ew r l:=by
   intro l;unfold ew;rw[List.filter_cons];cases l (.string g.name)<;>simp[ec]
  rw[cons,cons];by_cases e:g.name=n
  ·have hgf:g=f:=by
    unfold dR at hg;rw[List.find?_cons,show(g.name == n)=true from by simp[e]]at hg;exact Option.some.inj hg
   have hr:ew r (λz=>left z && !z.sameKey (.string n))=ew r left:=by
    unfold ew;congr 1;apply List.filter_congr;intro x hx;have hne:x.name≠n:=λe2=>h1 x hx (e.trans e2.symm);have:(Lit.string x.name).sameKey (.string n)=false:=by show(x.name == n)=false;simpa using hne
    simp only[this];simp
   have hs:(Lit.string g.name).sameKey (.string n)=true:=by show(g.name == n)=true;simp[e]
   rw[hr,hs,e,hl,← hgf];simp;omega
  ·have hgr:dR r n=some f:=by
    unfold dR at hg ⊢;rw[List.find?_cons,show(g.name == n)=false from by simpa using e]at hg;exact hg
   have hs:(Lit.string g.name).sameKey (.string n)=false:=by show(g.name == n)=false;simpa using e
   rw[ih h2 hgr,hs];simp;omega
theorem eD {w w':World}(h:Below w.heap.size w w')(row:Option Nat):w.grownBy w' row:=⟨h.os,h.tape,h.output,h.size,λk hk _=>h.block k hk⟩
theorem eE {P:Program}{k:TypeId}(hk:P.underlying k=some .string){key:Value}{kl:Lit}(h:keyOf P k key=some kl):∃s:ByteArray,key = .string s∧kl = .string s.data.toList∧s.size≤maxLen:=by
 cases key<;>simp[keyOf,hk,mapKey]at h
 rename_i s
 obtain⟨hs,rfl⟩:=h;exact⟨s,rfl,rfl,hs⟩
theorem eF (w:World){ops:Array Oper}{rest:List Oper}{o:Oper}{a:Act}{Q:Exit→Act→World→Prop}(hg:o.guard=none)(it:Operand)(hop:o.op=Op.next it false)
  (b r:Nat) (fs:Fs) (left:Lit→Bool) (cnt:Nat) (hit:a.eval it = .pointer (some ⟨r,0,none⟩)) (h:w.ranges Tryz.prog 9 dJ b r fs.length (fsD fs) left cnt)
  (hDone:(∀kl,left kl=false)→wpList Tryz.prog ops Q rest (a.put o.dst (.tuple #[.bool false])) w)
  (hMore:∀(x f1 f2:ByteArray) (f:FileS) (w':World) (cnt':Nat),dR fs x.data.toList=some f→f1.data.toList=f.firm→f2.data.toList=f.pend→left (.string x.data.toList)=true →
   w'.ranges Tryz.prog 9 dJ b r fs.length (fsD fs) (λz=>left z && !z.sameKey (.string x.data.toList)) cnt'→cnt'<cnt→w.grownBy w' (some r)→w'.heap.size=w.heap.size →
   (Instr.entry (.pointer (some ⟨r,0,none⟩))).run Tryz.prog w' = .ok (.tuple #[.string x,.agg #[.string f1,.string f2]]) w'→wpList Tryz.prog ops Q rest (a.put o.dst (.tuple #[.bool true,.string x,.agg #[.string f1,.string f2]])) w') :
  wpList Tryz.prog ops Q (o::rest) a w:=
 wpList_next_ranges w hg it hop 9 Tryz.strKey dJ (λx:ByteArray=>.string x) (λc:ByteArray×ByteArray=>dK c.1 c.2)
  (λkey kl hk=>by obtain⟨s,rfl,_⟩:=eE Tryz.underlying9 hk;exact⟨s,rfl⟩) (λv y h=>dM h) b r fs.length (fsD fs) left cnt hit h (λ_ hl=>hDone hl)
  (λx c kl y w' cnt' hk hl hv hat hrg hlt hgr hsz hen=>by
   obtain⟨s,hs,rfl,_⟩:=eE Tryz.underlying9 hk;cases hs;have hhas:=Maps.has_true_of_atKey hat;rw[dY]at hhas;obtain⟨f,hf⟩:=Option.isSome_iff_exists.1 hhas;have hy:=hat .nil;rw[dX,hf]at hy;simp only at hy;obtain⟨f1,f2,hv2,h1,h2⟩:=dN (v:=dK c.1 c.2) (f:=f) (ps:=y.2) (by rw[hv,hy]);have e1:c.1=f1∧c.2=f2:=by simpa[dK]using hv2
   rw[← e1.1]at h1;rw[← e1.2]at h2;exact hMore x c.1 c.2 f w' cnt' hf h1 h2 hl hrg hlt hgr hsz hen)
theorem eG {fs:Fs}(hp:fs.Pairwise (λf g=>f.name≠g.name))(left:Lit→Bool):ew fs left≤ec fs:=by
 unfold ew ec
 induction fs with
 | nil=>simp
 | cons f r ih=>
  have:=ih (List.pairwise_cons.1 hp).2;rw[List.filter_cons]
  split<;>simp<;>omega
set_option maxRecDepth 100000 in
theorem eH (w:World)(p b:Nat)(st:DkSt)(hcell:w.heap[p]?=some (.cells (st.cells b) 78 (0,0)))(hown:w.ownsMap Tryz.prog 9 dJ b st.fs.length (fsD st.fs))(hfs:FsOk st.fs) :
  Calls Tryz.prog 27 #[.pointer (some ⟨p,0,none⟩)] w λe w'=>e = .returned (.int .i64 (ec st.fs:Int))∧Below w.heap.size w w':=by
 have H:=hid hown;have HS:=hid hfs;have c0:w.cell? ⟨p,0,none⟩=some (.map (some b)):=by rw[cell_of_row w p _ _ _ _ hcell];rfl
 have hap:=hid (eA hfs);have hul:=ee hfs;clear hown hfs hcell
 go_enter Tryz.func27,Tryz.ntmps27
 go_wp2_with (at_range;refine wpList_range_own _ rfl _ _ rfl 9 81 Tryz.strKey Tryz.underlying76 dJ b st.fs.length (fsD st.fs) rfl H.out ?_;intro w0 hrg0 hg0 hs0;clear c0)
 go_frame
 go_loopw [3] (λx wr=>∃left cnt,x = .int .i64 (ew st.fs left:Int)∧wr.ranges Tryz.prog 9 dJ b w.heap.size st.fs.length (fsD st.fs) left cnt∧Below w.heap.size w wr) (λ_ wr=>wr.rangeLeft b w.heap.size)
 case atStart=>exact⟨_,_,by rw[ex];rfl,hrg0,⟨hg0.os,hg0.tape,hg0.output,hg0.size,λk hk=>hg0.block k hk (by simp)⟩⟩
 case round=>
  obtain⟨left,cnt,rfl,hrg,hbw⟩:=hrel;have hle:ew st.fs left≤67108864:=Nat.le_trans (eG hap.out left) hul
  go_wp2_with (at_next;refine eF _ rfl _ rfl b w.heap.size st.fs _ _ rfl hrg ?_ ?_)
  ·intro hl0
   have HE:=hid (ey st.fs hl0);go_wp2;go_ret;exact⟨aa (by rw[HE.out]),hbw⟩
  ·intro x f1 f2 f w1 cnt1 hget h1 h2 hlx hrg1 hlt hg1 hs1 hen
   have HG:=hid hget;have HST:=hid (eC hap.out hlx hget);have hsm:f1.size+f2.size≤1048576:=by
    rw[ay h1,ay h2];exact HS.out.small f (d9 hget).2
   have HFS:=hid (show f1.size+f2.size=f.firm.length+f.pend.length from by rw[ay h1,ay h2]);clear hget h1 h2 hlx;have hnlt:ew st.fs (λz=>left z && !z.sameKey (.string x.data.toList))≤67108864:=Nat.le_trans (eG hap.out _) hul;have hbw1:=hbw.grown hg1 hbw.size (λk e=>by cases e;exact Nat.le_refl _)
   go_wp2_with fail
   refine(eu _ f1 f2 (by omega)).mono ?_;rintro e w2 ⟨rfl,hb2⟩;have hrg2:=(hrg1.alloc (.cells #[.string f1,.string f2] 81)).kept (eD hb2 none) (by simp) (by simp);have hbw2:=(hbw1.alloc hbw1.size (.cells #[.string f1,.string f2] 81)).trans (hb2.mono (by simp;have:=hbw1.size;omega));go_wp2
   go_roundw
   case rel=>exact⟨_,cnt1,by rw[HST.out,← HFS.out];go_num,hrg2,hbw2⟩
   case measure=>rw[hrg2.left_eq,hrg.left_eq];exact hlt
theorem eI (w:World)(p b:Nat)(st:DkSt)(h:IsDk w p b st) :
  Calls Tryz.prog 27 #[.pointer (some ⟨p,0,none⟩)] w λe w'=>e = .returned (.int .i64 (ec st.fs:Int))∧Below w.heap.size w w':=eH w p b st h.cell h.own h.ok.fs
theorem eJ {p:UInt8→Bool}:∀{l:List UInt8},l.all p=false→∃x r,l.dropWhile p=x::r∧p x=false
 | [],h=>by simp at h
 | a::l,h=>by
  cases ha:p a
  ·exact⟨a,l,by rw[List.dropWhile_cons,ha];rfl,ha⟩
  ·rw[List.all_cons,ha,Bool.true_and]at h
   obtain⟨x,r,h1,h2⟩:=eJ h;exact⟨x,r,by rw[List.dropWhile_cons,ha];exact h1,h2⟩
theorem eK {p:UInt8→Bool}:∀{l:List UInt8},l.all p=true→l.dropWhile p=[]
 | [],_=>rfl
 | a::l,h=>by
  rw[List.all_cons,Bool.and_eq_true]at h;rw[List.dropWhile_cons,h.1];exact eK h.2
theorem eL (l cs:List UInt8):(Lib.trimS l cs=[])↔l.all (λc=>cs.contains c)=true:=by
 unfold Lib.trimS Lib.trimRightS Lib.trimLeftS;constructor
 ·intro h
  cases hall:l.all (λc=>cs.contains c)
  ·have hr:(l.reverse.all (λc=>cs.contains c))=false:=by
    rw[List.all_reverse];exact hall
   obtain⟨x,r,h1,h2⟩:=eJ hr;rw[h1]at h;have hx:((x::r).reverse.all (λc=>cs.contains c))=false:=by
    rw[List.all_eq_false];exact⟨x,by simp,by simp only[h2];simp⟩
   obtain⟨y,q,h3,_⟩:=eJ hx;rw[h3]at h;simp at h
  ·rfl
 ·intro h
  have hr:(l.reverse.all (λc=>cs.contains c))=true:=by rw[List.all_reverse];exact h
  rw[eK hr];rfl
set_option maxRecDepth 100000 in
theorem eM (s:ByteArray)(w:World)(hs:s.size≤9223372036854775807) :
  Calls Tryz.prog 26 #[.string s] w λe w'=>e = .returned (.bool (ed s.data.toList))∧Below w.heap.size w w':=by
 by_cases h1:1≤s.size
 ·by_cases h24:s.size≤24
  ·go_enter Tryz.func26,Tryz.ntmps26
   go_wp2_with fail
   refine(Any.strings_Trim_laid Tryz.lays160 (by kernel_rfl) s ⟨letters.toArray⟩ _ hs (by decide) (ascii_of_all (by decide))).mono ?_;rintro e w1 ⟨rfl,hb1⟩;go_wp2;go_ret;refine⟨aE ?_,hb1⟩;have e1:=eL s.data.toList letters;unfold ed;rw[aq,decide_eq_true h1,decide_eq_true h24,Bool.true_and,Bool.true_and,Bool.eq_iff_iff,List.isEmpty_iff];exact e1
  ·have HM:=hid (show ed s.data.toList=false from by unfold ed;rw[aq];simp[h24])
   go_enter Tryz.func26,Tryz.ntmps26
   go_wp2;go_ret;exact⟨aE HM.out.symm,Below.refl _ _⟩
 ·have HM:=hid (show ed s.data.toList=false from by unfold ed;rw[aq];simp[h1])
  go_enter Tryz.func26,Tryz.ntmps26
  go_wp2;go_ret;exact⟨aE HM.out.symm,Below.refl _ _⟩
theorem eN {w w':World}{b:Nat}(h:w.mapTurned w' b):Fr (λk=>k=b) w w':=
 ⟨h.grown.os,h.grown.tape,h.grown.output,h.grown.size,λk hk hs=>h.grown.block k hk (λe=>hs (Option.some.inj e))⟩
theorem IsDk.setLeft {w:World}{p b:Nat}{st:DkSt}(h:IsDk w p b st)(n:Int)(h0 : -1≤n)(h1:n≤9223372036854775807):IsDk (w.setCell ⟨p,2,none⟩ (.int .i64 n)) p b { st with left:=n }:=
 ⟨by rw[heap_setCell_same w p 2 _ _ _ h.cell];rfl,h.own.setCell (by show b≠p;exact h.ne) _,⟨h.ok.fs,h.ok.cap0,h.ok.cap1,h.ok.fits,h0,h1⟩⟩
theorem IsDk.setDark {w:World}{p b:Nat}{st:DkSt}(h:IsDk w p b st)(d:Bool):IsDk (w.setCell ⟨p,3,none⟩ (.bool d)) p b { st with dark:=d }:=
 ⟨by rw[heap_setCell_same w p 3 _ _ _ h.cell];rfl,h.own.setCell (by show b≠p;exact h.ne) _,⟨h.ok.fs,h.ok.cap0,h.ok.cap1,h.ok.fits,h.ok.left0,h.ok.left1⟩⟩
theorem eO {w:World}(a:Addr)(u:Value):Fr (λk=>k=a.block) w (w.setCell a u):=(Fr.refl (λk=>k=a.block) w).setCell a (λ_=>rfl) u
def dec (n:Int):Int:=if n = -1 then -1 else n-1
set_option maxRecDepth 100000 in
theorem eP (fk:FuncId)(caps:Array Value)(w:World)(p b:Nat)(st:DkSt)(h:IsDk w p b st)(hent:Enters Tryz.prog fk)(Q:World→Prop)
  (hact:st.left≠0→∀w1,Fr (λk=>k=p) w w1→w1.heap.size=w.heap.size→IsDk w1 p b { st with left:=dec st.left }→Calls Tryz.prog fk caps w1 λe w2=>e = .returned (.tuple #[])∧Q w2) :
  Calls Tryz.prog 55 #[.pointer (some ⟨p,0,none⟩),.func (.func fk) #[] caps] w λe w'=>
   (st.left=0∧e = .returned (.int .i64 45)∧Fr (λk=>k=p) w w'∧IsDk w' p b { st with dark:=true })∨(st.left≠0∧e = .returned (.int .i64 0)∧Q w'):=by
 have he:∀(args:Array Value) (w:World),(callFunc fk args).run Tryz.prog w = .ok (.enter fk args) w:=hent;have hp:=h.lt;obtain⟨c0,c1,c2,c3⟩:=h.cs;have z3:=h.fz 3;have z2:=h.fz 2;by_cases h0:st.left=0
 ·have HD:=hid (h.setDark true)
  have H0:=hid h0;clear hact h;rw[h0]at c2;clear h0
  go_enter Tryz.func55,Tryz.ntmps55
  go_wp2;go_ret;exact .inl ⟨H0.out,rfl,eO ⟨p,3,none⟩ _,HD.out⟩
 ·by_cases h1:st.left = -1
  ·have HA:=hid (hact h0 w (Fr.refl _ _) rfl (by rw[h1];have:=h;cases st;simp only at h1;subst h1;exact this))
   have H0:=hid h0;clear hact h;rw[h1]at c2;clear h0 h1
   go_enter Tryz.func55,Tryz.ntmps55
   go_wp2_with fail
   refine HA.out.mono ?_;rintro e w2 ⟨rfl,hq⟩;have HQ:=hid hq;clear hq;go_wp2;go_ret;exact .inr ⟨H0.out,rfl,HQ.out⟩
  ·have hl0:=h.ok.left0
   have hl1:=h.ok.left1;have HA:=hid (hact h0 _ (eO ⟨p,2,none⟩ (.int .i64 (st.left-1))) (by simp) (by
    rw[show dec st.left=st.left-1 from by unfold dec;rw[if_neg h1]];exact h.setLeft _ (by omega) (by omega)))
   have H0:=hid h0;clear hact h
   go_enter Tryz.func55,Tryz.ntmps55
   go_wp2_with fail
   refine HA.out.mono ?_;rintro e w2 ⟨rfl,hq⟩;have HQ:=hid hq;clear hq;go_wp2;go_ret;exact .inr ⟨H0.out,rfl,HQ.out⟩
theorem eQ {w:World}{b n:Nat}{fs:Fs}(h:w.ownsMap Tryz.prog 9 dJ b n (fsD fs)):fs.Pairwise (λf g=>bytesBefore f.name g.name=true):=by
 obtain⟨es,clock,_,F,_,e⟩:=h;have h1:=WideShapes.rising_pairwise _ (fit_rising Tryz.strKey F);have e3:(DataW.map (fs.map dI):DataW Unit)=fsD fs:=rfl;rw[e]at e3;have e2:=DataW.map.inj e3;rw[← e2,List.pairwise_map]at h1;exact h1
theorem eR (f:FileS)(fs:Fs):ec (f::fs)=(f.firm.length+f.pend.length)+ec fs:=by simp[ec]
theorem eS {f g:FileS}{fs:Fs}:g∈dO f fs↔g=f∨g∈fs:=by
 induction fs with
 | nil=>simp[dO]
 | cons h r ih=>
  unfold dO
  split
  ·simp
  ·simp only[List.mem_cons,ih]
   constructor
   ·rintro(h|h|h)<;>simp[h]
   ·rintro(h|h|h)<;>simp[h]
theorem eT (f:FileS)(fs:Fs):(dO f fs).length=fs.length+1:=by
 induction fs with
 | nil=>rfl
 | cons h r ih=>unfold dO;split<;>simp[ih]
theorem eU (f:FileS)(fs:Fs):ec (dO f fs)=(f.firm.length+f.pend.length)+ec fs:=by
 induction fs with
 | nil=>rfl
 | cons h r ih=>
  unfold dO
  split
  ·exact eR _ _
  ·rw[eR,ih,eR];omega
theorem eV {g:FileS}{fs:Fs}{n:List UInt8}:g∈dP fs n↔g∈fs∧g.name≠n:=by
 unfold dP;rw[List.mem_filter];simp
theorem eW (fs:Fs)(n:List UInt8):(dP fs n).length≤fs.length:=List.length_filter_le _ _
theorem eX (fs:Fs)(n:List UInt8):ec (dP fs n)≤ec fs:=by
 induction fs with
 | nil=>simp[dP]
 | cons g r ih=>
  unfold dP at ih ⊢;rw[List.filter_cons,eR]
  split
  ·rw[eR];omega
  ·omega
theorem eY {fs:Fs}{n:List UInt8}(h:dR fs n=none):dP fs n=fs:=by
 unfold dP;rw[List.filter_eq_self];intro g hg;have:=List.find?_eq_none.1 h g hg;simpa using this
theorem eZ {fs:Fs}(hp:fs.Pairwise (λf g=>f.name≠g.name)){n:List UInt8}{f:FileS}(h:dR fs n=some f):ec (dP fs n)+(f.firm.length+f.pend.length)=ec fs∧(dP fs n).length+1=fs.length:=by
 induction fs with
 | nil=>simp[dR]at h
 | cons g r ih=>
  obtain⟨h1,h2⟩:=List.pairwise_cons.1 hp;unfold dR at h;rw[List.find?_cons]at h;unfold dP;rw[List.filter_cons];by_cases e:g.name=n
  ·rw[show(g.name == n)=true from by simp[e]]at h ⊢
   have hgf:g=f:=Option.some.inj h;subst hgf;have hr:r.filter (λg=>!(g.name == n))=r:=by
    rw[List.filter_eq_self];intro x hx;have:x.name≠n:=λe2=>h1 x hx (e.trans e2.symm);simpa using this
   rw[if_neg (by simp),hr,eR];exact⟨by omega,rfl⟩
  ·rw[show(g.name == n)=false from by simpa using e]at h ⊢
   have:=ih h2 h;rw[if_pos (by rfl),eR,eR,List.length_cons,List.length_cons];unfold dP at this;exact⟨by omega,by omega⟩
structure FsKeep (fs:Fs):Prop where
 few:fs.length≤64
 small:∀f∈fs,f.firm.length+f.pend.length≤1048576
 names:∀f∈fs,f.name.length≤24
theorem FsOk.keep {fs:Fs}(h:FsOk fs):FsKeep fs:=⟨h.few,h.small,h.names⟩
theorem FsKeep.del {fs:Fs}(h:FsKeep fs)(n:List UInt8):FsKeep (dP fs n):=
 ⟨Nat.le_trans (eW _ _) h.few,λf hf=>h.small f (eV.1 hf).1,λf hf=>h.names f (eV.1 hf).1⟩
theorem FsKeep.put {fs:Fs}(h:FsKeep fs){f:FileS}(hl:(dP fs f.name).length<64)(hs:f.firm.length+f.pend.length≤1048576)(hn:f.name.length≤24):FsKeep (dQ fs f):=by
 refine⟨by unfold dQ;rw[eT];omega,?_,?_⟩<;>intro g hg<;>unfold dQ at hg<;>rw[eS,eV]at hg<;>rcases hg with rfl|hg
 ·exact hs
 ·exact h.small g hg.1
 ·exact hn
 ·exact h.names g hg.1
theorem fg (fs:Fs)(f:FileS):ec (dQ fs f)=(f.firm.length+f.pend.length)+ec (dP fs f.name):=by unfold dQ;rw[eU]
theorem IsDk.turned {w w':World}{p b n:Nat}{st:DkSt}{fs':Fs}(h:IsDk w p b st)(own:w'.ownsMap Tryz.prog 9 dJ b n (fsD fs'))(ht:w.mapTurned w' b)(hk:FsKeep fs')(hf:(ec fs':Int)≤st.cap):IsDk w' p b { st with fs:=fs' }:=
 ⟨(eN ht).heapAt h.cell (λe=>h.ne e.symm),(by have:=eh own;rw[dZ]at this;exact this),⟨⟨eQ own,hk.few,hk.small,hk.names⟩,h.ok.cap0,h.ok.cap1,hf,h.ok.left0,h.ok.left1⟩⟩
theorem IsDk.fewer {w:World}{p b:Nat}{st:DkSt}(h:IsDk w p b st):st.fs.length<maxLen:=by have:=h.ok.fs.few;unfold maxLen;omega
abbrev DFr (p b:Nat):World→World→Prop:=Fr (λk=>k=p∨k=b)
theorem Fr.toD {p b:Nat}{w w':World}(h:Fr (λk=>k=b) w w'):DFr p b w w':=h.mono (λ_ _ e=>.inr e)
theorem Fr.toD1 {p b:Nat}{w w':World}(h:Fr (λk=>k=p) w w'):DFr p b w w':=h.mono (λ_ _ e=>.inl e)
theorem fh {f:FileS}{r:Fs}{n:List UInt8}(h:f.name≠n):dR (f::r) n=dR r n:=by
 unfold dR;rw[List.find?_cons,show(f.name == n)=false from by simpa using h]
theorem fi {f:FileS}{r:Fs}:dR (f::r) f.name=some f:=by
 unfold dR;rw[List.find?_cons,show(f.name == f.name)=true from by simp]
theorem fj {f:FileS}{n:List UInt8}(h:f.name≠n)(fs:Fs):dR (dO f fs) n=dR fs n:=by
 induction fs with
 | nil=>exact fh h
 | cons g r ih=>
  unfold dO
  split
  ·exact fh h
  ·by_cases hg:g.name=n
   ·subst hg;rw[fi,fi]
   ·rw[fh hg,fh hg,ih]
theorem fl {f:FileS}{fs:Fs}(h:dR fs f.name=none):dR (dO f fs) f.name=some f:=by
 induction fs with
 | nil=>exact fi
 | cons g r ih=>
  unfold dO
  split
  ·exact fi
  ·by_cases hg:g.name=f.name
   ·rw[← hg,fi]at h;cases h
   ·rw[fh hg]at h ⊢;exact ih h
theorem fm {n m:List UInt8}(h:m≠n)(fs:Fs):dR (dP fs m) n=dR fs n:=by
 induction fs with
 | nil=>rfl
 | cons g r ih=>
  by_cases hg:g.name=m
  ·rw[show dP (g::r) m=dP r m from by unfold dP;rw[List.filter_cons,show(g.name == m)=true from by simpa using hg];rfl,ih,fh (by rw[hg];exact h)]
  ·rw[show dP (g::r) m=g::dP r m from by unfold dP;rw[List.filter_cons,show(g.name == m)=false from by simpa using hg];rfl]
   by_cases hn:g.name=n
   ·subst hn;rw[fi,fi]
   ·rw[fh hn,fh hn,ih]
theorem fq (n:List UInt8)(fs:Fs):dR (dP fs n) n=none:=by
 unfold dR dP;rw[List.find?_eq_none];intro g hg;have:=(List.mem_filter.1 hg).2;simpa using this
theorem ft {f:FileS}{n:List UInt8}(h:f.name≠n)(fs:Fs):dR (dQ fs f) n=dR fs n:=by
 unfold dQ;rw[fj h,fm h]
theorem fu (f:FileS)(fs:Fs):dR (dQ fs f) f.name=some f:=by
 unfold dQ;exact fl (fq _ _)
def fw (st:DkSt)(fs':Fs):DkSt×Int:=if st.left=0 then ({ st with dark:=true },45) else ({ st with left:=dec st.left,fs:=fs' },0)
def fx (p b:Nat)(r:DkSt×Int)(w:World)(e:Ending)(w':World):Prop:=e = .returned (.int .i64 r.2)∧IsDk w' p b r.1∧DFr p b w w'
def fy (p b:Nat)(st:DkSt)(w:World)(e:Ending)(w':World):Prop:=e = .returned (.tuple #[])∧IsDk w' p b st∧DFr p b w w'
def fB (st:DkSt)(n:List UInt8):DkSt×Int:=
 if st.dark then (st,45) else if !ed n then (st,4) else if (dR st.fs n).isSome then (st,6) else if 64≤st.fs.length then (st,44) else fw st (dQ st.fs ⟨n,[],[]⟩)
def fC (st:DkSt)(n:List UInt8):DkSt×Int:=
 if st.dark then (st,45) else match dR st.fs n with|none=>(st,5)|some _=>fw st (dP st.fs n)
theorem fD {n:List UInt8}(h:ed n=true):n.length≤24:=by
 unfold ed at h;simp at h;exact h.1.2
structure Capt (w:World) (q r p:Nat) (n:ByteArray):Prop where
 cq:w.cell? ⟨q,0,none⟩=some (.pointer (some ⟨p,0,none⟩))
 cr:w.cell? ⟨r,0,none⟩=some (.string n)
theorem IsDk.drew {w:World}{p b:Nat}{st:DkSt}(h:IsDk w p b st):IsDk w.drew p b st:=⟨h.cell,h.own,h.ok⟩
set_option maxRecDepth 100000 in
theorem fE (w:World)(q r p b:Nat)(st:DkSt)(n:ByteArray)(hc:Capt w q r p n)(h:IsDk w p b st)(hn:n.size≤24)(hl:st.fs.length<64)(hg:dR st.fs n.data.toList=none) :
  Calls Tryz.prog 56 #[.pointer (some ⟨q,0,none⟩),.pointer (some ⟨r,0,none⟩)] w λe w'=>fy p b { st with fs:=dQ st.fs ⟨n.data.toList,[],[]⟩ } w e w':=by
 have H:=hid h;have hx1:=hc.cq;have hx2:=hc.cr;obtain⟨c0,c1,c2,c3⟩:=h.cs;have HK:=hid (WideMaps.keyOf_string_mk Tryz.underlying9 (Nat.le_trans hn (by unfold maxLen;omega):n.size≤maxLen));have HF:=hid h.fewer;have HE:=hid (show FsKeep (dQ st.fs ⟨n.data.toList,[],[]⟩)∧(ec (dQ st.fs ⟨n.data.toList,[],[]⟩):Int)≤st.cap from⟨h.ok.fs.keep.put (by show(dP st.fs n.data.toList).length<64;rw[eY hg];exact hl) (by simp) (by rw[aq];exact hn),by rw[fg,eY hg];have:=h.ok.fits;simpa using this⟩);clear hc h hn hl hg;obtain⟨w1,hrun,hown1,hturn1⟩:=H.out.drew.own.store (t:=76) (e:=81) Tryz.strKey Tryz.underlying76 HF.out (key:=.string n) (val:=.agg #[.string ⟨#[]⟩,.string ⟨#[]⟩]) HK.out (dL _ _);have HO:=hid (H.out.drew.turned (fs':=dQ st.fs ⟨n.data.toList,[],[]⟩) (by rw[← dV];exact hown1) hturn1 HE.out.1 HE.out.2);have HT:=hid (eN hturn1);clear hown1 hturn1
 go_enter Tryz.func56,Tryz.ntmps56
 go_region
 go_wp2
 go_end0
 exact⟨rfl,HO.out,((Fr.refl _ w).drew.trans HT.out).toD⟩
theorem fF (w:World)(o1 o2:Obj):Below w.heap.size w ((w.alloc o1).alloc o2):=((Below.refl _ _).alloc (Nat.le_refl _) _).alloc (by simp) _
theorem fG {w w':World}{p:Nat}{n:ByteArray}{S:Nat→Prop}{t1 t2:TypeId}(h:Fr S ((w.alloc (.cells #[.pointer (some ⟨p,0,none⟩)] t1)).alloc (.cells #[.string n] t2)) w')(h1:¬S w.heap.size)(h2:¬S (w.heap.size+1)):Capt w' w.heap.size (w.heap.size+1) p n:=
 ⟨h.cellAt (by rw[World.cell?_alloc_past _ _ _ (by simp),World.cell?_alloc_at _ _ _ _ rfl];rfl) h1,h.cellAt (by rw[World.cell?_alloc_at _ _ _ _ (by simp)];rfl) h2⟩
theorem Capt.fr {S:Nat→Prop}{w w':World}{q r p:Nat}{n:ByteArray}(h:Capt w q r p n)(hf:Fr S w w')(h1:¬S q)(h2:¬S r):Capt w' q r p n:=⟨hf.cellAt h.cq h1,hf.cellAt h.cr h2⟩
theorem fH (w:World)(b:Nat)(fs:Fs)(hown:w.ownsMap Tryz.prog 9 dJ b fs.length (fsD fs))(n:ByteArray)(hn:n.size≤maxLen) :
  ∃f1 f2,(Instr.lookup 76 (.map (some b)) (.string n) true).run Tryz.prog w = .ok (.tuple #[.agg #[.string f1,.string f2],.bool (dR fs n.data.toList).isSome]) w:=by
 obtain⟨v,ps,hrun,hv⟩:=hown.look_ok Tryz.strKey Tryz.underlying76 (Tryz.zeroFile w) (dL _ _) (WideMaps.keyOf_string_mk Tryz.underlying9 hn);obtain⟨f1,f2,rfl,hf⟩:=en hv;rw[dY]at hrun;exact⟨f1,f2,hrun⟩
set_option maxRecDepth 100000 in
theorem fI (w:World)(p b:Nat)(st:DkSt)(h:IsDk w p b st)(n:ByteArray)(hn:n.size≤maxLen) :
  Calls Tryz.prog 25 #[.pointer (some ⟨p,0,none⟩),.string n] w λe w'=>fx p b (fB st n.data.toList) w e w':=by
 have hmf:∀(fn:Fn) (first cap:Array Value) (w:World),(Instr.makeFunc fn first cap).run Tryz.prog w = .ok (.func fn first cap) w:=λ_ _ _ _=>rfl;have hp:=h.lt;have hbl:=h.own.lt;have HN:=hid (show n.size≤9223372036854775807 from by unfold maxLen at hn;omega);have H:=hid h;have H1:=hid (h.pure (fF w (.cells #[.pointer (some ⟨p,0,none⟩)] 39) (.cells #[.string n] 9)));obtain⟨c0,c1,c2,c3⟩:=H1.out.cs;clear h;cases hd:st.dark
 ·have HD:=hid hd
  clear hd
  go_enter Tryz.func25,Tryz.ntmps25
  go_wp2_with fail
  refine(ei _ p b st H1.out).mono ?_;rintro e w1 ⟨rfl,rfl⟩;rw[HD.out];obtain⟨f1,f2,hr1⟩:=fH (((w.alloc (.cells #[.pointer (some ⟨p,0,none⟩)] 39)).alloc (.cells #[.string n] 9)).drew) b st.fs H1.out.drew.own n hn;obtain⟨g1,g2,hr2⟩:=fH ((((w.alloc (.cells #[.pointer (some ⟨p,0,none⟩)] 39)).alloc (.cells #[.string n] 9)).alloc (.cells #[.string ⟨#[]⟩,.string ⟨#[]⟩] 81)).drew) b st.fs (H1.out.pure ((Below.refl _ _).alloc (Nat.le_refl _) _)).drew.own n hn;obtain⟨d0,d1,d2,d3⟩:=(H1.out.pure ((Below.refl _ _).alloc (Nat.le_refl _) (.cells #[.string ⟨#[]⟩,.string ⟨#[]⟩] 81))).cs;have D0:=hid d0;clear d1 d2 d3;go_wp2
  go_region
  all_goals (go_wp2_with fail)
  all_goals
   refine(eM n _ HN.out).mono ?_;rintro e w5 ⟨rfl,hb5⟩;clear hr1 hr2 d0 c0 c1 c2 c3;have hb6:Below w.heap.size w w5:=(((fF w _ _).alloc (by simp;omega) _).drew).trans (hb5.mono (by simp;omega));have H6:=hid (H.out.pure hb6);have HC:=hid (fG (S:=λ_=>False) ((((Fr.refl _ _).alloc _).drew).andPure hb5) (λhf=>hf) (λhf=>hf));have HB:=hid hb6;have hs5:w.heap.size+1<w5.heap.size:=by have:=hb5.size;simp at this;omega
   clear hb5 hb6;cases hm:ed n.data.toList
   ·have HM:=hid hm
    clear hm;go_wp2;go_ret;have e1:fB st n.data.toList=(st,4):=by unfold fB;rw[HD.out,HM.out];rfl
    rw[e1];exact⟨rfl,H6.out,Fr.pure HB.out⟩
   ·have HM:=hid hm
    clear hm;cases hs:dR st.fs n.data.toList with
    | some f=>
     have HS:=hid hs;clear hs;go_wp2;go_ret;have e1:fB st n.data.toList=(st,6):=by unfold fB;rw[HD.out,HM.out,HS.out];rfl
     rw[e1];exact⟨rfl,H6.out,Fr.pure HB.out⟩
    | none=>
     have HS:=hid hs;clear hs;obtain⟨c0,c1,c2,c3⟩:=H6.out.cs;have hx1:=HC.out.cq;have hx2:=HC.out.cr;by_cases hl:64≤st.fs.length
     ·go_wp2_with (at_len;refine wpList_len_own _ rfl _ 76 rfl 9 81 Tryz.underlying76 dJ b st.fs.length (fsD st.fs) rfl H6.out.own ?_;rw[dZ])
      go_ret;have e1:fB st n.data.toList=(st,44):=by unfold fB;rw[HD.out,HM.out,HS.out,if_pos hl];rfl
      rw[e1];exact⟨rfl,H6.out,Fr.pure HB.out⟩
     ·go_wp2_with (first|(at_len;refine wpList_len_own _ rfl _ 76 rfl 9 81 Tryz.underlying76 dJ b st.fs.length (fsD st.fs) rfl H6.out.own ?_;rw[dZ]))
      refine(eP 56 _ w5 p b st H6.out (enters_of Tryz.func56 (by kernel_rfl) rfl) (λw2=>IsDk w2 p b { st with left:=dec st.left,fs:=dQ st.fs ⟨n.data.toList,[],[]⟩ }∧DFr p b w5 w2) (λ_ w1 hf1 hs1 hd1=>(fE w1 _ _ p b { st with left:=dec st.left } n (HC.out.fr hf1 (by omega) (by omega)) hd1 (by have:=fD HM.out;rw[aq]at this;exact this) (by show st.fs.length<64;omega) HS.out).mono (λe w2 h2=>⟨h2.1,h2.2.1,hf1.toD1.trans h2.2.2⟩))).mono ?_;rintro e w7 (⟨h0,rfl,hf7,hd7⟩|⟨h0,rfl,hd7,hf7⟩)
      ·have H7:=hid hd7
       have F7:=hid hf7;have H0:=hid h0;clear hd7 hf7 h0;go_wp2;go_ret;have e1:fB st n.data.toList=({ st with dark:=true },45):=by unfold fB fw;rw[HD.out,HM.out,HS.out,if_neg hl,if_pos H0.out];rfl
       rw[e1];exact⟨rfl,H7.out,(Fr.pure HB.out).trans F7.out.toD1⟩
      ·have H7:=hid hd7
       have F7:=hid hf7;have H0:=hid h0;clear hd7 hf7 h0;go_wp2;go_ret;have e1:fB st n.data.toList=({ st with left:=dec st.left,fs:=dQ st.fs ⟨n.data.toList,[],[]⟩ },0):=by unfold fB fw;rw[HD.out,HM.out,HS.out,if_neg hl,if_neg H0.out];rfl
       rw[e1];exact⟨rfl,H7.out,(Fr.pure HB.out).trans F7.out⟩
 ·have HD:=hid hd
  clear hd
  go_enter Tryz.func25,Tryz.ntmps25
  go_wp2_with fail
  refine(ei _ p b st H1.out).mono ?_;rintro e w1 ⟨rfl,rfl⟩;rw[HD.out];go_wp2;go_ret;have e1:fB st n.data.toList=(st,45):=by unfold fB;rw[HD.out];rfl
  rw[e1];exact⟨rfl,H1.out,Fr.pure (fF w _ _)⟩
end
end Go.Proofs.YtaeakdichkhjaaaGreatDoor
