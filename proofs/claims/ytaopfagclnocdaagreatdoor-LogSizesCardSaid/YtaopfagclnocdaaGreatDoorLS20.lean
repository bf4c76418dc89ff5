/- Rows.LogSizesCardSaid -/
import Derived.Test.YtaopfagclnocdaaGreatDoorLS6
import Derived.Test.YtaopfagclnocdaaGreatDoorShelfI
import Derived.Test.YtaopfagclnocdaaGreatDoorChecked
import Derived.Test.YtaopfagclnocdaaGreatDoorLS17
import Derived.Test.YtaopfagclnocdaaGreatDoorLS19
import Derived.Deep.DeepCutAuto
import Derived.Deep.RegionHeld3
namespace Go.Proofs.YtaopfagclnocdaaGreatDoor
open Go.RowKit Go.Shelf
open Go.RowKit
set_option linter.unusedVariables false
set_option maxHeartbeats 64000000
set_option maxRecDepth 100000
theorem q_itoa (i:Nat) (hi:i < 100) (w:World):Calls Tryz.prog 52 #[.int .i64 i] w fun e w'=>e=.returned (.string ⟨(Lib.decDigits i).toArray⟩)∧w'=w:=Any.strconv_Itoa_small Tryz.itoaS i hi w
theorem dec_small {i:Nat} (hi:i < 100):∃ z,Lib.decDigits i=z∧1≤z.length∧z.length≤2∧List.replicate (6 - z.length) 48++z=[dig i 5,dig i 4,dig i 3,dig i 2,dig i 1,dig i 0]:=by
 refine⟨_,rfl,?_⟩
 have p5:i / 10 ^ 5=i / 100000:=rfl
 have p4:i / 10 ^ 4=i / 10000:=rfl
 have p3:i / 10 ^ 3=i / 1000:=rfl
 have p2:i / 10 ^ 2=i / 100:=rfl
 have d5:dig i 5=48:=by unfold dig;rw [p5,show i / 100000 % 10=0 by omega];rfl
 have d4:dig i 4=48:=by unfold dig;rw [p4,show i / 10000 % 10=0 by omega];rfl
 have d3:dig i 3=48:=by unfold dig;rw [p3,show i / 1000 % 10=0 by omega];rfl
 have d2:dig i 2=48:=by unfold dig;rw [p2,show i / 100 % 10=0 by omega];rfl
 have d0:dig i 0=UInt8.ofNat (48+i % 10):=by unfold dig;rw [Nat.pow_zero,Nat.div_one]
 by_cases h:i < 10
 ·have e:Lib.decDigits i=[UInt8.ofNat (48+i)]:=by unfold Lib.decDigits;rw [dif_pos h]
  have d1:dig i 1=48:=by unfold dig;rw [Nat.pow_one,show i / 10 % 10=0 by omega];rfl
  rw [e,d5,d4,d3,d2,d1,d0,show i % 10=i by omega]
  exact⟨by simp,by simp,rfl⟩
 ·have e:Lib.decDigits i=[UInt8.ofNat (48+i / 10),UInt8.ofNat (48+i % 10)]:=by
   rw [Lib.decDigits,dif_neg h]
   rw [Lib.decDigits,dif_pos (by omega)];rfl
  have d1:dig i 1=UInt8.ofNat (48+i / 10):=by unfold dig;rw [Nat.pow_one,show i / 10 % 10=i / 10 by omega]
  rw [e,d5,d4,d3,d2,d1,d0]
  exact⟨by simp,by simp,rfl⟩
theorem ba_app (a b:Array UInt8):((⟨a⟩:ByteArray)++⟨b⟩)=⟨a++b⟩:=ByteArray.ext (by simp)
def SegRel (z:List UInt8) (s:Value) (w wr:World):Prop:=∃ k:Nat,k+z.length≤6∧s=.string ⟨(List.replicate k 48++z).toArray⟩∧wr=w
theorem q_segname {s:Nat} (h1:1≤s) (h2:s < 100) (w:World):Calls Tryz.prog 12 #[.int .i64 s] w fun e w'=>e=.returned (.string (segName s))∧w'=w:=by
 obtain⟨z,hz,z1,z2,hrep⟩:=dec_small h2
 have KI:=Lib.hid (q_itoa s h2 w)
 rw [hz] at KI
 have hs1:¬ ((s:Int) < 1):=by omega
 have hs2:¬ ((999999:Int) < (s:Int)):=by omega
 clear hz
 go_enter Tryz.func12,Tryz.ntmps12
 go_wp2_with fail
 refine KI.out.mono ?_
 rintro e w1 ⟨rfl,rfl⟩
 clear KI
 go_wp2_with fail
 go_loopw [3] (fun s wr=>SegRel z s w1 wr) (fun s _=>match s with | .string b=>6 - b.size | _=>0)
 case atStart=>exact⟨0,by omega,by simp,rfl⟩
 case round=>
  obtain⟨k,hk,rfl,rfl⟩:=hrel
  by_cases hlt:k+z.length < 6
  ·go_wp2_with fail
   refine⟨⟨k+1,by omega,?_,rfl⟩,?_⟩
   ·rw [ba_app,List.replicate_succ];simp
   ·simp only [ba_app,ByteArray.size]
    simp
    omega
  ·go_wp2_with fail
   go_ret
   refine⟨?_,rfl⟩
   rw [ba_app]
   have hk2:k=6 - z.length:=by omega
   subst hk2
   unfold segName
   rw [if_neg (by omega),hrep]
   rfl
theorem SzInv.start {d:DiskD} {l:LogD} (h:Firm d l.m [] 0) (h1:l.m.segs.length=1):SzInv d l:=by
 obtain⟨_,_,C,L,k,g1,g2,_⟩:=h.now
 have hc:C=[]:=by have:=g1.len;exact List.length_eq_zero_iff.1 (by omega)
 subst hc
 have hL:L=[]:=by simpa using g2.symm
 subst hL
 intro s hs
 obtain⟨x,hx⟩:=List.length_eq_one_iff.1 h1
 have h0:=g1.last.read
 rw [hx] at hs h0
 simp at hs;subst hs
 exact⟨[],by simpa [frJoin] using h0,[],rfl,by simp,Or.inl (Nat.zero_le _)⟩
theorem mod_of (n m:Int) (h:0 < m) (h2:m < 1000):0≤wrap64 ((IntKind.u64.wrap n).tmod m)∧wrap64 ((IntKind.u64.wrap n).tmod m) < m:=by
 have e:IntKind.u64.wrap n=n % 18446744073709551616:=rfl
 rw [e]
 have h1:(n % 18446744073709551616).tmod m=(n % 18446744073709551616) % m:=Int.tmod_eq_emod_of_nonneg (by omega)
 rw [h1]
 have h2:=Int.emod_nonneg (n % 18446744073709551616) (show m≠0 by omega)
 have h3:=Int.emod_lt_of_pos (n % 18446744073709551616) h
 generalize (n % 18446744073709551616) % m=r at *
 unfold wrap64;omega
def frS (b:List UInt8):FrD:=⟨9,3,b⟩
def SzRel (bd lb:Nat) (size:Nat) (L:List (List UInt8)) (W:World) (v i:Value) (wr:World):Prop:=
 ∃ (k:Nat) (d:DiskD) (l:LogD) (vs:List Value) (a:Option Addr) (c:Nat),k≤L.length∧v=.slice a k c∧i=.int .i64 k∧OpSt 30 k 9 3 size L d l∧SzInv d l∧vs.length=((L.take k).map frS).length∧(∀ (j:Nat) (f:FrD) (v:Value),((L.take k).map frS)[j]?=some f→vs[j]?=some v→AB W v f.body) ∧
  In [] W wr [LgA lb bd l,DkA bd d,RowA 35 3 (.slice a k c) ((L.take k).map frS).length (flatFr ((L.take k).map frS) vs)]
def SzRel2 (bd lb:Nat) (l:LogD) (d:DiskD) (sa:Option Addr) (sc:Nat) (X:Asrt) (W:World) (i:Value) (wr:World):Prop:=
 ∃ k:Nat,k≤l.m.segs.length∧i=.int .i64 k∧In [] W wr [IntsR (.slice sa l.m.segs.length sc) l.m.segs,LgA lb bd l,DkA bd d,X]
theorem walk_LogSizes (W:World) (size:Int) (wsz:(Lit.int .i64 size).wf=true) {a1:Option Addr} {len1 cap1:Nat} {L:List (List UInt8)} (h1:ArgBss W a1 len1 cap1 L) :
  Calls Tryz.prog 3 #[.int .i64 size,.slice a1 len1 cap1] W (TrueP W):=by
 have hl1:=h1.length
 have hmost:=h1.most
 have hroom:=h1.room
 unfold maxLen at hmost
 have HAW:=Lib.hid (fun w' (R:List Asrt) (h':In [] W w' R)=>o_awake6 h')
 have H0:=Lib.hid (Own.nil W)
 by_cases k1:30 < len1
 ·have q1:(30:Int) < (len1:Int):=by omega
  have K:=Lib.hid (HAW.out W [] H0.out)
  clear h1 HAW H0 k1 wsz
  go_enter Tryz.func3,Tryz.ntmps3
  go_wp2_with fail
  refine K.out.mono ?_
  rintro e w1 ⟨rfl,g⟩
  have G:=Lib.hid g.mod
  clear g K
  go_wp2_with fail
  go_ret
  exact⟨rfl,G.out⟩
 have q1:decide ((30:Int) < (len1:Int))=false:=by simp;omega
 have KN:=Lib.hid (o_dnew H0.out 200000 (by omega) (by omega))
 have H1:=Lib.hid h1
 have HM:=Lib.hid (mod_of size 300 (by decide) (by decide))
 clear h1 H0
 go_enter Tryz.func3,Tryz.ntmps3
 go_wp2_with fail
 refine KN.out.mono ?_
 rintro e w1 ⟨bd,rfl,g1⟩
 generalize wrap64 ((IntKind.u64.wrap size).tmod 300)=z at *
 obtain⟨d0,hc0,hst⟩:=OpSt.start (M:=30) (ver:=3) L 9 z (by omega) (by omega)
 have C1:=Lib.hid (o_create g1 (by decide) 3 z)
 have hc0':createD 3 z (dNew 200000)=(d0,some ⟨sized z,firstM 3,false⟩,0):=hc0
 rw [hc0'] at C1
 have hsz0:SzInv d0 ⟨sized z,firstM 3,false⟩:=SzInv.start (by simpa using hst.firm) rfl
 have HST:=Lib.hid (And.intro hst hsz0)
 clear g1 hc0 hc0' hst KN hsz0
 go_wp2_with fail
 refine C1.out.mono ?_
 intro e w2 hp
 obtain⟨lb,rfl,g2⟩:=hp.some rfl
 have HR:Hid (SzRel bd lb (sized z) L W (.slice none 0 0) (.int .i64 0) w2):=Lib.hid ⟨0,d0,_,[],none,0,Nat.zero_le _,rfl,rfl,HST.out.1,HST.out.2,rfl,by simp,(g2.rownil 35 3).sel2 (R1:=[_,_,_]) (R2:=[]) [1,2,0] (by decide) rfl⟩
 clear hp g2 C1 HST
 go_wp2_with fail
 go_loopw [8,42] (SzRel bd lb (sized z) L W) (fun _ k _=>len1 - (intOf k).toNat)
 case atStart=>exact HR.out
 case round=>
  obtain⟨k,d,l,vs,a,c,hk,rfl,rfl,hst,hsz,hvs,hvb,ho⟩:=hrel
  clear HR
  by_cases hlt:k < len1
  ·obtain⟨x,hx⟩:∃ x,L[k]?=some x:=⟨L[k]'(by omega),List.getElem?_eq_getElem _⟩
   obtain⟨gx,ox,vx,rfl,cx,hax⟩:=H1.out.at' k x hx
   have HAX:=Lib.hid hax
   obtain⟨ax,capx,rfl,sx,hxc,hxm⟩:=hax.ex
   have cx':=cell_old ho cx
   have hlt':(k:Int) < (len1:Int):=by omega
   have hw2:wrap64 ((k:Int)+1)=(k:Int)+1:=by unfold wrap64;omega
   unfold maxLen at hxm
   by_cases h3:300 < x.length
   ·have q3:(300:Int) < (x.length:Int):=by omega
    have K:=Lib.hid (HAW.out wr _ ho)
    clear ho hst hsz hvs hvb hax cx sx hx h3
    go_wp2_with fail
    refine K.out.mono ?_
    rintro e w3 ⟨rfl,g⟩
    have G:=Lib.hid g.mod
    clear g K
    go_wp2_with fail
    go_ret
    exact⟨rfl,G.out⟩
   ·have q3:decide ((300:Int) < (x.length:Int))=false:=by simp;omega
    obtain⟨b1,b2⟩:=hst.step hx (by omega) (by omega) (by omega) (by omega) (by omega)
    have b3:=SzInv.step hst.firm hst.loose hsz b1
    have KA:=Lib.hid (o_append (c:=capx) ho (hst.ok (sized_ok z)) (by have:=hst.ops;omega) 9 (A:=ax) (body:=x) (by omega) (fun w' h'=>sx.old h'))
    rw [show ((9:Nat):Int)=9 from rfl] at b1 b2 b3
    rw [b1] at KA
    have htk:(L.take (k+1)).map frS=(L.take k).map frS++[frS x]:=by rw [List.take_add_one,hx];simp
    have hlk:((L.take k).map frS).length=k:=by simp;omega
    have HS:Hid (∀ (a':Option Addr) (c':Nat) (w':World),In [] W w' [LgA lb bd (appendL 9 x (d,l)).1.2,DkA bd (appendL 9 x (d,l)).1.1,RowA 35 3 (.slice a' (k+1) c') (((L.take k).map frS).length+1) (flatFr ((L.take k).map frS) vs++[.int .i64 9,.int .i64 3,.slice ax x.length capx])]→SzRel bd lb (sized z) L W (.slice a' (k+1) c') (.int .i64 ((k:Int)+1)) w'):=Lib.hid fun a' c' w' h'=>by
     refine⟨k+1,_,_,vs++[.slice ax x.length capx],a',c',by omega,rfl,by go_num,b2,b3,by rw [htk,List.length_append,List.length_append,hvs];rfl,fun j f v hf hv=>?_,?_⟩
     ·rw [htk] at hf
      by_cases hj:j < k
      ·rw [List.getElem?_append_left (by omega)] at hf hv
       exact hvb j f v hf hv
      ·rw [List.getElem?_append_right (by omega)] at hf hv
       rw [hlk] at hf
       rw [hvs,hlk] at hv
       have hj0:j=k:=by
        have:=(List.getElem?_eq_some_iff.1 hf).1
        simp at this;omega
       subst hj0
       simp at hf hv
       subst hf hv
       exact HAX.out
     ·rw [htk,flatFr_snoc _ _ hvs,List.length_append]
      exact h'
    have HLK:=Lib.hid hlk
    have HLE:Hid (((L.take k).map frS).length+1≤1000000000):=Lib.hid (by omega)
    clear hst hsz hvs hvb hax cx sx hx h3 b1 b2 b3 htk ho
    generalize (L.take k).map frS=Fr at *
    clear hlk
    generalize appendL 9 x (d,l)=r at *
    go_wp2_with fail
    refine KA.out.mono ?_
    rintro e w3 ⟨rfl,g⟩
    have G5:=Lib.hid (g.cells #[.int .i64 9,.int .i64 3,.slice ax x.length capx] 35)
    have SB:=Lib.hid (Src.of_block (k:=3) (G5.out.block 0 rfl) rfl)
    clear g KA
    go_wp2_with (at_builtin;refine app_list rfl G5.out 3 rfl (.tmp 54) (.tmp 57) 31 (by rfl) Tryz.underlying31 infoFrame (by decide) (by decide) (by rfl) (by rfl) SB.out (fun u hu=>by simp at hu;rcases hu with rfl | rfl | rfl <;> rfl) HLE.out ?_)
    intro v' w5 ho5 hg5
    have g6:=ho5.sel2 (R1:=[_,_,_,_]) (R2:=[]) [1,2,3] (by decide) rfl
    obtain⟨Fv,rv⟩:=g6.get 2 rfl
    obtain⟨a',c',rfl,-,-,-⟩:=RowA.shape rv
    have HS2:Hid (SzRel bd lb (sized z) L W (.slice a' (Fr.length+1) c') (.int .i64 ((k:Int)+1)) w5):=Lib.hid (by
     have:=HS.out a' c' w5
     rw [← HLK.out] at this ⊢
     exact this g6)
    clear ho5 hg5 G5 SB HS HLE g6 rv
    go_wp2_with fail
    go_roundw
    case rel=>(try rw [hw2]);exact HS2.out
    case measure=>(try rw [hw2]);simp [intOf];omega
  ·have hge:(len1:Int)≤(k:Int):=by omega
   obtain rfl:k=len1:=by omega
   obtain⟨Fr,hFr⟩:∃ Fr,Fr=(L.take k).map frS:=⟨_,rfl⟩
   have hFl:Fr.length=k:=by rw [hFr];simp;omega
   have hfirm:Firm d l.m Fr 0:=by rw [hFr];exact hst.firm
   rw [← hFr] at hvs hvb ho
   obtain⟨d1,e1,f1,p1⟩:=told_on (hfirm.now.on hfirm.ok) hst.rm.fail z
   have hops:=hst.ops
   have KT:=Lib.hid (fun w' (R:List Asrt) (h':In [] W w' (DkA bd d::R))=>o_told h' (by omega) z)
   rw [show openL tellF z d []=_ from e1] at KT
   simp only at KT
   have KS:=Lib.hid (o_lgsegs (hst.ok (sized_ok z)) ho)
   have HSG:Hid (∀ s∈l.m.segs,1≤s∧s < 100):=Lib.hid (fun s hs=>by
    have h1:=mayM_seg hfirm.now.1 hs
    have h2:=hst.next
    omega)
   have HSZ:Hid (∀ s∈l.m.segs,∃ (b:List UInt8) (F:List FrD),dRead d (segName s)=some b∧b.length≤1048576∧frScan b=(F,b.length,0)∧(b.length≤sized z∨F.length=1)):=Lib.hid (fun s hs=>by
    obtain⟨b,h1,F,rfl,hF,h3⟩:=hsz s hs
    have h4:=bytesD_le hfirm.ok (segName s)
    unfold bytesD at h4
    rw [h1] at h4
    rw [hst.size] at h3
    exact⟨_,F,h1,h4,frScan_all hF,h3⟩)
   have HMX:Hid (((sized z:Nat):Int)=max z 16):=Lib.hid (by have:=HM.out;unfold sized;omega)
   have HLEN:Hid (l.m.segs.length≤64):=Lib.hid (by have:=hst.segs;omega)
   have HVB:=Lib.hid (And.intro hvs hvb)
   have HFL:=Lib.hid hFl
   clear ho hst hsz hvs hvb hfirm e1 f1 p1 hops hFr hlt hFl
   go_wp2_with fail
   refine KS.out.mono ?_
   rintro e w3 ⟨sa,sc,rfl,g3⟩
   have HR:Hid (SzRel2 bd lb l d sa sc (RowA 35 3 (.slice a k c) Fr.length (flatFr Fr vs)) W (.int .i64 0) w3):=Lib.hid ⟨0,Nat.zero_le _,rfl,g3⟩
   clear g3 KS
   go_wp2_with fail
   go_loopw [63] (SzRel2 bd lb l d sa sc (RowA 35 3 (.slice a k c) Fr.length (flatFr Fr vs)) W) (fun i _=>l.m.segs.length - (intOf i).toNat)
   case atStart=>exact HR.out
   case round=>
    obtain⟨j,hj,rfl,ho⟩:=hrel
    clear HR
    by_cases hlt:j < l.m.segs.length
    ·obtain⟨s,hs⟩:∃ s,l.m.segs[j]?=some s:=⟨l.m.segs[j],List.getElem?_eq_getElem hlt⟩
     have hms:=List.mem_of_getElem? hs
     obtain⟨s1,s2⟩:=HSG.out s hms
     obtain⟨b,F,r1,r2,r3,r4⟩:=HSZ.out s hms
     obtain⟨Fi,hi⟩:=ho.get 0 rfl
     obtain⟨gs,rfl,cs⟩:=hi.at.2 j (.int .i64 s) (by simp [segV,hs])
     have hlt':(j:Int) < (l.m.segs.length:Int):=by omega
     have hw2:wrap64 ((j:Int)+1)=(j:Int)+1:=by have:=HLEN.out;unfold wrap64;omega
     have KN2:=Lib.hid (q_segname s1 s2 wr)
     have KR:Hid (Calls Tryz.prog 11 #[dptr bd,.string (segName s)] wr fun e w'=>∃ v,e=.returned (.tuple #[v,.bool true])∧In [] W w' (RowA 5 1 v b.length (u8s b)::[IntsR (.slice (some ⟨gs,0,none⟩) l.m.segs.length sc) l.m.segs,LgA lb bd l,DkA bd d,RowA 35 3 (.slice a k c) Fr.length (flatFr Fr vs)])):=Lib.hid ((o_dread ho 2 rfl (segName s) (segName_size _)).mono (fun e w' hp=>by unfold ReadPost at hp;rw [r1] at hp;exact hp))
     have HSC:=Lib.hid r3
     have HBL:=Lib.hid r2
     have HR4:=Lib.hid r4
     have HM2:=Lib.hid (meas_lt hlt')
     have HJ:Hid (j+1≤l.m.segs.length):=Lib.hid hlt
     clear ho hi hs hms s1 s2 r1 r2 r3 r4 hlt hj
     go_wp2_with fail
     refine KN2.out.mono ?_
     rintro e w4 ⟨rfl,rfl⟩
     clear KN2
     go_wp2_with fail
     refine KR.out.mono ?_
     rintro e w5 ⟨v5,rfl,g5⟩
     obtain⟨ba,bc,rfl,hbb⟩:=row_bytes g5 (i:=0) rfl
     have KQ:=o_qscan g5 hbb (Nat.le_trans HBL.out (by decide))
     have KQ2:Hid (Calls Tryz.prog 13 #[.slice ba b.length bc] w5 fun e w'=>∃ fa fc,e=.returned (.tuple #[.slice fa F.length fc,.int .i64 b.length,.int .i64 0])∧In [] W w' [IntsR (.slice (some ⟨gs,0,none⟩) l.m.segs.length sc) l.m.segs,LgA lb bd l,DkA bd d,RowA 35 3 (.slice a k c) Fr.length (flatFr Fr vs)]):=Lib.hid (KQ.mono (fun e w' hp=>by
      unfold ScanPost at hp
      rw [HSC.out] at hp
      obtain⟨v,e1,e2⟩:=hp
      obtain⟨Fv,rv⟩:=e2.get 0 rfl
      obtain⟨fa,fc,rfl⟩:=frsA_shape rv
      exact⟨fa,fc,e1,e2.drop.drop⟩))
     clear g5 KQ hbb KR
     go_wp2_with fail
     refine KQ2.out.mono ?_
     rintro e w6 ⟨fa,fc,rfl,g6⟩
     have HR:Hid (SzRel2 bd lb l d (some ⟨gs,0,none⟩) sc (RowA 35 3 (.slice a k c) Fr.length (flatFr Fr vs)) W (.int .i64 ((j:Int)+1)) w6):=Lib.hid ⟨j+1,HJ.out,by go_num,g6⟩
     clear g6 KQ2
     by_cases hle:b.length≤sized z
     ·have q3:¬ (max z 16 < (b.length:Int)):=by have:=HMX.out;omega
      have q4:decide (max z 16 < (b.length:Int))=false:=decide_eq_false q3
      clear hle
      go_wp2_with fail
      go_roundw
      case rel=>(try rw [hw2]);exact HR.out
      case measure=>(try rw [hw2]);exact HM2.out
     ·have hF1:F.length=1:=by rcases HR4.out with h | h;exact absurd h hle;exact h
      have q3:max z 16 < (b.length:Int):=by have:=HMX.out;omega
      have q4:decide (max z 16 < (b.length:Int))=true:=decide_eq_true q3
      have q5:((F.length:Int) != 1)=false:=by rw [hF1];rfl
      clear hle hF1
      go_wp2_with fail
      go_roundw
      case rel=>(try rw [hw2]);exact HR.out
      case measure=>(try rw [hw2]);exact HM2.out
    ·have hge2:(l.m.segs.length:Int)≤(j:Int):=by omega
     have K1:=Lib.hid (KT.out wr _ (ho.sel2 (R1:=[_,_,_,_]) (R2:=[]) [2,3] (by decide) rfl))
     clear ho hlt hj KT HSG HSZ
     go_wp2_with fail
     refine K1.out.mono ?_
     rintro e w4 ⟨v1,rfl,g4⟩
     obtain⟨F1,q1'⟩:=g4.get 0 rfl
     obtain⟨A1,C1,rfl⟩:=frsA_shape q1'
     have G3:=Lib.hid (o_samefs (ca:=C1) (cb:=c) (fs:=Fr) (gs:=Fr) (a:=A1) (b:=a) g4 (fun w' h'=>(frsA_at (h'.get 0 rfl).choose_spec).2) (fun w' h'=>frArg_at h' (h'.get 2 rfl).choose_spec HVB.out.1 HVB.out.2) (by have:=HFL.out;omega) (by have:=HFL.out;omega))
     simp only [decide_true] at G3
     rw [HFL.out] at G3 ⊢
     clear g4 q1' K1
     go_wp2_with fail
     refine G3.out.mono ?_
     rintro e w5 ⟨rfl,g5⟩
     have G5:=Lib.hid (HAW.out w5 _ g5)
     clear g5 G3
     go_wp2_with fail
     refine G5.out.mono ?_
     rintro e w6 ⟨rfl,g6⟩
     have G6:=Lib.hid g6.mod
     clear g6 G5
     go_wp2_with fail
     go_ret
     exact⟨rfl,G6.out⟩
end Go.Proofs.YtaopfagclnocdaaGreatDoor
