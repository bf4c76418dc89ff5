/- Rows.LogCleansCardSaid -/
import Derived.Test.YtaopfagclnocdaaGreatDoorLC19
import Derived.Test.YtaopfagclnocdaaGreatDoorLC20
import Derived.Test.YtaopfagclnocdaaGreatDoorLC17
namespace Go.Proofs.YtaopfagclnocdaaGreatDoor
open Go.RowKit
set_option linter.unusedVariables false
set_option maxHeartbeats 64000000
set_option maxRecDepth 100000
def mineB (l:LogD) (n:ByteArray):Bool:=l.m.segs.any (fun s=>decide (segName s=n)) || decide (n=nmHead)
theorem eq_bytes (a b:ByteArray):(a.toList == b.toList)=decide (a=b):=by
 by_cases h:a=b
 ·rw [h];simp
 ·rw [decide_eq_false h,beq_eq_false_iff_ne]
  intro e
  apply h
  cases a with
  | mk x=>cases b with
   | mk y=>
    rw [ByteArray.toList_mk,ByteArray.toList_mk] at e
    congr
    exact Array.toList_inj.1 e
section
variable {F0:List Nat} {w0 w:World} {R:List Asrt} {bd lb gx:Nat} {d:DiskD} {l:LogD}
def MineRel (l:LogD) (n:ByteArray) (lb bd gx:Nat) (a:Option Addr) (c:Nat) (F0:List Nat) (w0:World) (R:List Asrt) (i:Value) (wr:World):Prop:=
 ∃ k:Nat,k≤l.m.segs.length∧i=.int .i64 k∧(l.m.segs.take k).any (fun s=>decide (segName s=n))=false∧In F0 w0 wr (IntsR (.slice a l.m.segs.length c) l.m.segs::LgA lb bd l::Cells gx #[dptr lb] 27::R)
theorem o_mine (hl:LgOk l) (hsg:∀ s∈l.m.segs,1≤s∧s < 100) (n:ByteArray) (h:In F0 w0 w (LgA lb bd l::Cells gx #[dptr lb] 27::R)) :
  Calls Tryz.prog 16 #[.string n,.pointer (some ⟨gx,0,none⟩)] w fun e w'=>e=.returned (.bool (mineB l n))∧In F0 w0 w' (LgA lb bd l::Cells gx #[dptr lb] 27::R):=by
 have hn:=(mayM_iff.1 hl.2.2).1.2.2.2.1
 have K:=Lib.hid (o_lgsegs hl h)
 have c0:w.cell? ⟨gx,0,none⟩=some (dptr lb):=cell_of (h.block 1 rfl) rfl
 have HSG:=Lib.hid hsg
 have HLN:=Lib.hid hn
 clear h hl hsg hn
 go_enter Tryz.func16,Tryz.ntmps16
 go_wp2_with fail
 refine K.out.mono ?_
 rintro e w1 ⟨a,c,rfl,g⟩
 have HR:Hid (MineRel l n lb bd gx a c F0 w0 R (.int .i64 0) w1):=Lib.hid ⟨0,Nat.zero_le _,rfl,rfl,g⟩
 clear g K c0
 go_wp2_with fail
 go_loopw [9] (MineRel l n lb bd gx a c F0 w0 R) (fun k _=>l.m.segs.length - (intOf k).toNat)
 case atStart=>exact HR.out
 case round=>
  obtain⟨k,hk,rfl,hno,ho⟩:=hrel
  clear HR
  by_cases hlt:k < l.m.segs.length
  ·obtain⟨s,hs⟩:∃ s,l.m.segs[k]?=some s:=⟨l.m.segs[k],List.getElem?_eq_getElem hlt⟩
   obtain⟨s1,s2⟩:=HSG.out s (List.mem_of_getElem? hs)
   obtain⟨Fi,hi⟩:=ho.get 0 rfl
   obtain⟨gs,rfl,cs⟩:=hi.at.2 k (.int .i64 s) (by simp [segV,hs])
   have hlt':(k:Int) < (l.m.segs.length:Int):=by omega
   have hw2:wrap64 ((k:Int)+1)=(k:Int)+1:=by have:=HLN.out;unfold wrap64;omega
   have KN:=Lib.hid (q_segname s1 s2 wr)
   have HM:=Lib.hid (meas_lt hlt')
   have HO:=Lib.hid ho
   have HNO:=Lib.hid hno
   have HS:=Lib.hid hs
   have HK:Hid (k+1≤l.m.segs.length):=Lib.hid hlt
   clear ho hi hs hno s1 s2 hk hlt
   go_wp2_with fail
   refine KN.out.mono ?_
   rintro e w2 ⟨rfl,rfl⟩
   clear KN
   have q0:=eq_bytes (segName s) n
   by_cases he:segName s=n
   ·have q:((segName s).toList == n.toList)=true:=by rw [q0];exact decide_eq_true he
    have HB:Hid (mineB l n=true):=Lib.hid (by
     unfold mineB
     rw [Bool.or_eq_true];left
     exact List.any_eq_true.2 ⟨s,List.mem_of_getElem? HS.out,decide_eq_true he⟩)
    clear he q0
    generalize segName s=sn at *
    go_wp2_with fail
    go_ret
    exact⟨by rw [HB.out];rfl,HO.out.drop⟩
   ·have q:((segName s).toList == n.toList)=false:=by rw [q0];exact decide_eq_false he
    have HR:Hid (MineRel l n lb bd gx (some ⟨gs,0,none⟩) c F0 w0 R (.int .i64 ((k:Int)+1)) w2):=Lib.hid ⟨k+1,HK.out,by rw [Int.natCast_add];rfl,by rw [List.take_add_one,HS.out,List.any_append,HNO.out];simp [he],HO.out⟩
    clear he q0 HO HNO
    generalize segName s=sn at *
    go_wp2_with fail
    go_roundw
    case rel=>(try rw [hw2]);exact HR.out
    case measure=>(try rw [hw2]);exact HM.out
  ·have hkl:k=l.m.segs.length:=by omega
   subst hkl
   have hge:¬ ((l.m.segs.length:Int) < (l.m.segs.length:Int)):=by omega
   rw [List.take_length] at hno
   have q0:=eq_bytes n nmHead
   have hm:nmHead.toList=[109]:=by unfold nmHead;rw [ByteArray.toList_mk]
   rw [hm] at q0
   obtain⟨bq,hbq⟩:∃ bq,bq=decide (n=nmHead):=⟨_,rfl⟩
   rw [← hbq] at q0
   have HB:Hid (mineB l n=bq):=Lib.hid (by unfold mineB;rw [hno,hbq];rfl)
   have HO:=Lib.hid ho
   clear ho hno hlt hk hbq hm
   go_wp2_with fail
   go_ret
   exact⟨by rw [HB.out];rfl,HO.out.drop⟩
end
section
variable {F0:List Nat} {w0 w:World} {R:List Asrt} {bd lb:Nat} {d:DiskD} {l:LogD}
def cleanC (l:LogD):List ByteArray→DiskD→Nat
 | [],_=>0
 | n::r,d=>(if dirtyD l n=true∧(dRemove d n).2=0 then 1 else 0)+cleanC l r (if dirtyD l n=true then (dRemove d n).1 else d)
theorem cleanC_snoc (l:LogD):∀ (L:List ByteArray) (n:ByteArray) (d:DiskD),cleanC l (L++[n]) d=cleanC l L d+(if dirtyD l n=true∧(dRemove (cleanD l L d) n).2=0 then 1 else 0)
 | [],n,d=>(Nat.add_comm _ _:(if dirtyD l n=true∧(dRemove d n).2=0 then 1 else 0)+0=0+(if dirtyD l n=true∧(dRemove d n).2=0 then 1 else 0))
 | x::r,n,d=>by
  have ih:=cleanC_snoc l r n (if dirtyD l x=true then (dRemove d x).1 else d)
  show _+cleanC l (r++[n]) _=_+cleanC l r _+_
  rw [ih,Nat.add_assoc];rfl
theorem cleanC_le (l:LogD):∀ (L:List ByteArray) (d:DiskD),cleanC l L d≤L.length
 | [],d=>Nat.le_refl _
 | x::r,d=>by
  have ih:=cleanC_le l r (if dirtyD l x=true then (dRemove d x).1 else d)
  show (if _ then 1 else 0)+cleanC l r _≤r.length+1
  split <;> omega
theorem clean_cnt {d:DiskD} {k:Nat} {x:ByteArray×Nat} (hx:d.now[k]?=some x):cleanC l ((dNames d).take (k+1)) d=cleanC l ((dNames d).take k) d+(if dirtyD l x.1=true∧(dRemove (cleanD l ((dNames d).take k) d) x.1).2=0 then 1 else 0):=by
 have:(dNames d)[k]?=some x.1:=by simp [dNames,hx]
 rw [List.take_add_one,this,Option.toList_some,cleanC_snoc]
def CleanRelC (lb bd:Nat) (l:LogD) (d:DiskD) (a:Option Addr) (c:Nat) (F0:List Nat) (w0:World) (R:List Asrt) (n i:Value) (wr:World):Prop:=
 ∃ (k:Nat),k≤d.now.length∧i=.int .i64 k∧n=.int .i64 ((cleanC l ((dNames d).take k) d:Nat):Int)∧In F0 w0 wr (LgA lb bd l::DkA bd (cleanD l ((dNames d).take k) d)::NmRowA (.slice a d.now.length c) d.now::R)
theorem clean_stepC {d:DiskD} {k:Nat} {x:ByteArray×Nat} (hx:d.now[k]?=some x):cleanD l ((dNames d).take (k+1)) d=if dirtyD l x.1=true then (dRemove (cleanD l ((dNames d).take k) d) x.1).1 else cleanD l ((dNames d).take k) d:=by
 have:(dNames d)[k]?=some x.1:=by simp [dNames,hx]
 rw [List.take_add_one,this,Option.toList_some,cleanD_snoc]
theorem clean_relC {a:Option Addr} {c k:Nat} {z:Int} {x:ByteArray×Nat} {d2:DiskD} (hx:d.now[k]?=some x) (hd:cleanD l ((dNames d).take (k+1)) d=d2) (hz:z=((cleanC l ((dNames d).take (k+1)) d:Nat):Int)) (h:In F0 w0 w (LgA lb bd l::DkA bd d2::NmRowA (.slice a d.now.length c) d.now::R)):CleanRelC lb bd l d a c F0 w0 R (.int .i64 z) (.int .i64 ((k:Int)+1)) w:=
 ⟨k+1,(List.getElem?_eq_some_iff.1 hx).1,by rw [Int.natCast_add];rfl,by rw [hz],by rw [hd];exact h⟩
theorem o_lgcleanC (hl:LgOk l) (ho:d.ops≤99990000) (h:In F0 w0 w (LgA lb bd l::DkA bd d::R)):Calls Tryz.prog 19 #[dptr lb] w fun e w'=>e=.returned (.int .i64 ((cleanC l (dNames d) d:Nat):Int))∧In F0 w0 w' (LgA lb bd l::DkA bd (cleanD l (dNames d) d)::R):=by
 have hdk:DiskOk d:=by
  obtain⟨F,hF⟩:=h.get 1 rfl
  exact hF.1
 have hn:=(mayM_iff.1 hl.2.2).1.2.2.2.1
 obtain⟨a0,c0,h0⟩:=h.lgOpen
 have d0:w.cell? ⟨lb,0,none⟩=some (dptr bd):=cell_of (h0.block 1 rfl) rfl
 have K:=Lib.hid (o_dnames h 1 rfl)
 have HDK:=Lib.hid hdk
 have HLN:=Lib.hid hn
 have HOP:=Lib.hid ho
 clear h h0 hdk hn ho
 go_enter Tryz.func19,Tryz.ntmps19
 go_wp2_with fail
 refine K.out.mono ?_
 rintro e w1 ⟨a,c,rfl,g⟩
 have HR:Hid (CleanRelC lb bd l d a c F0 w0 R (.int .i64 0) (.int .i64 0) w1):=Lib.hid ⟨0,Nat.zero_le _,rfl,rfl,g.sel2 (R1:=[_,_,_]) [1,2,0] (by decide) rfl⟩
 clear g K d0
 go_wp2_with fail
 go_loopw [3,16] (CleanRelC lb bd l d a c F0 w0 R) (fun _ k _=>d.now.length - (intOf k).toNat)
 case atStart=>exact HR.out
 case round=>
  obtain⟨k,hk,rfl,rfl,hio⟩:=hrel
  obtain⟨z,hzz⟩:∃ z,z=cleanC l ((dNames d).take k) d:=⟨_,rfl⟩
  rw [← hzz]
  clear HR
  by_cases hlt:k < d.now.length
  ·obtain⟨x,hx⟩:∃ x,d.now[k]?=some x:=⟨d.now[k],List.getElem?_eq_getElem hlt⟩
   obtain⟨F2,r2⟩:=hio.get 2 rfl
   obtain⟨g1,rfl,e1⟩:=nm_row_at r2 hx
   have hlt':(k:Int) < (d.now.length:Int):=Int.ofNat_lt.2 hlt
   have hw2:wrap64 ((k:Int)+1)=(k:Int)+1:=by have:=HDK.out.now.few;unfold wrap64;omega
   have hsz:x.1.size≤maxLen:=by
    have:=HDK.out.now.named x (List.mem_of_getElem? hx)
    simp only [namedB,decide_eq_true_eq] at this
    unfold maxLen;omega
   have hops:(cleanD l ((dNames d).take k) d).ops≤100000000:=by
    have h1:=clean_ops l ((dNames d).take k) d
    have h2:=HDK.out.now.few
    have h3:=HOP.out
    rw [List.length_take] at h1;omega
   obtain⟨a1,c1,h1⟩:=hio.lgOpen
   have e4:wr.cell? ⟨lb,4,none⟩=some (.slice a1 l.m.segs.length c1):=cell_of (h1.block 1 rfl) rfl
   have e0:wr.cell? ⟨lb,0,none⟩=some (dptr bd):=cell_of (h1.block 1 rfl) rfl
   obtain⟨F3,r3⟩:=h1.get 0 rfl
   have KN:=Lib.hid (o_number x.1 hsz wr)
   have hst:=clean_stepC (l:=l) hx
   have hcnt:=clean_cnt (l:=l) hx
   have hzb:z≤2000:=by rw [hzz];have:=cleanC_le l ((dNames d).take k) d;rw [List.length_take] at this;have:=HDK.out.now.few;omega
   have HWZ:Hid (wrap64 ((z:Int)+1)=((z+1:Nat):Int)):=Lib.hid (by unfold wrap64;omega)
   rw [← hzz] at hcnt
   clear hzb hzz
   have HM:=Lib.hid (meas_lt hlt')
   have HC:=Lib.hid (fun s=>o_icont (c:=c1) (x:=s) r3.all (by have:=HLN.out;omega))
   have KR:=Lib.hid (o_dremove hio 1 rfl hops x.1 hsz)
   have HO:=Lib.hid hio
   have HX:=Lib.hid hx
   clear hio hx hlt hk r2 r3 h1 hops
   obtain⟨nm,hnm⟩:∃ nm,nm=x.1:=⟨_,rfl⟩
   rw [← hnm] at KN hst KR e1 hsz hcnt
   have HNM:=Lib.hid hnm
   clear hnm
   by_cases hf:nm=nmFresh
   ·have hdt:dirtyD l nm=true:=by unfold dirtyD;simp [hf]
    rw [if_pos hdt] at hst
    have HZ1:Hid ((dRemove (cleanD l ((dNames d).take k) d) nm).2=0→wrap64 ((z:Int)+1)=((cleanC l ((dNames d).take (k+1)) d:Nat):Int)):=Lib.hid (fun h0=>by rw [HWZ.out,hcnt,if_pos ⟨hdt,h0⟩])
    have HZ0:Hid ((dRemove (cleanD l ((dNames d).take k) d) nm).2≠0→(z:Int)=((cleanC l ((dNames d).take (k+1)) d:Nat):Int)):=Lib.hid (fun h0=>by rw [hcnt,if_neg (fun h=>h0 h.2)];rfl)
    clear hcnt HWZ
    have HST:=Lib.hid hst
    have q:(nm.toList == [109,46,110,101,119])=true:=by rw [hf];unfold nmFresh;rw [ByteArray.toList_mk];rfl
    clear hst hdt hf
    generalize numD nm=on at *
    go_wp2_with fail
    refine KN.out.mono ?_
    rintro e w2 ⟨rfl,rfl⟩
    clear KN
    go_wp2_with fail
    refine KR.out.mono ?_
    rintro e w3 ⟨rfl,g3⟩
    have HR:Hid (∀ z':Int,z'=((cleanC l ((dNames d).take (k+1)) d:Nat):Int)→CleanRelC lb bd l d (some ⟨g1,0,none⟩) c F0 w0 R (.int .i64 z') (.int .i64 ((k:Int)+1)) w3):=Lib.hid (fun z' hz'=>clean_relC HX.out HST.out hz' g3)
    clear g3 KR
    by_cases hz:(dRemove (cleanD l ((dNames d).take k) d) nm).2=0
    ·have HZ:=Lib.hid (HZ1.out hz)
     rw [hz]
     clear hz HZ1 HZ0
     go_wp2_with fail
     go_roundw
     case rel=>(try rw [hw2]);exact HR.out _ HZ.out
     case measure=>(try rw [hw2]);exact HM.out
    ·have HZ:=Lib.hid (HZ0.out hz)
     have qz:((dRemove (cleanD l ((dNames d).take k) d) nm).2 == 0)=false:=by rw [beq_eq_false_iff_ne];exact hz
     clear hz HZ1 HZ0
     go_wp2_with fail
     go_roundw
     case rel=>(try rw [hw2]);exact HR.out _ HZ.out
     case measure=>(try rw [hw2]);exact HM.out
   ·have q:(nm.toList == [109,46,110,101,119])=false:=by
     rw [beq_eq_false_iff_ne]
     intro e
     apply hf
     cases nm with
     | mk data=>
      rw [ByteArray.toList_mk] at e
      unfold nmFresh
      congr
      exact Array.toList_inj.1 e
    cases hnum:numD nm with
    | none=>
     have hdt:¬ dirtyD l nm=true:=by unfold dirtyD;rw [hnum];simp [hf]
     rw [if_neg hdt] at hst
     have HZ0:Hid ((z:Int)=((cleanC l ((dNames d).take (k+1)) d:Nat):Int)):=Lib.hid (by rw [hcnt,if_neg (fun h=>hdt h.1)];rfl)
     clear hcnt HWZ
     have HST:=Lib.hid hst
     rw [hnum] at KN
     clear hst hdt hf hnum
     go_wp2_with fail
     refine KN.out.mono ?_
     rintro e w2 ⟨rfl,rfl⟩
     clear KN
     have HR:Hid (CleanRelC lb bd l d (some ⟨g1,0,none⟩) c F0 w0 R (.int .i64 (z:Int)) (.int .i64 ((k:Int)+1)) w2):=Lib.hid (clean_relC HX.out HST.out HZ0.out HO.out)
     clear KR HO HC
     go_wp2_with fail
     go_roundw
     case rel=>(try rw [hw2]);exact HR.out
     case measure=>(try rw [hw2]);exact HM.out
    | some sg=>
     rw [hnum] at KN
     have KC:=Lib.hid (HC.out sg)
     clear HC
     cases hct:l.m.segs.contains sg with
     | true=>
      have hdt:¬ dirtyD l nm=true:=by unfold dirtyD;rw [hnum];simp only [hct];simp [hf]
      rw [if_neg hdt] at hst
      have HZ0:Hid ((z:Int)=((cleanC l ((dNames d).take (k+1)) d:Nat):Int)):=Lib.hid (by rw [hcnt,if_neg (fun h=>hdt h.1)];rfl)
      clear hcnt HWZ
      have HST:=Lib.hid hst
      rw [hct] at KC
      clear hst hdt hf hnum hct
      go_wp2_with fail
      refine KN.out.mono ?_
      rintro e w2 ⟨rfl,rfl⟩
      clear KN
      have HR:Hid (CleanRelC lb bd l d (some ⟨g1,0,none⟩) c F0 w0 R (.int .i64 (z:Int)) (.int .i64 ((k:Int)+1)) w2):=Lib.hid (clean_relC HX.out HST.out HZ0.out HO.out)
      clear KR HO
      go_wp2_with fail
      refine KC.out.mono ?_
      rintro e w3 ⟨rfl,rfl⟩
      clear KC
      go_wp2_with fail
      go_roundw
      case rel=>(try rw [hw2]);exact HR.out
      case measure=>(try rw [hw2]);exact HM.out
     | false=>
      have hdt:dirtyD l nm=true:=by unfold dirtyD;rw [hnum];simp only [hct];simp
      rw [if_pos hdt] at hst
      have HZ1:Hid ((dRemove (cleanD l ((dNames d).take k) d) nm).2=0→wrap64 ((z:Int)+1)=((cleanC l ((dNames d).take (k+1)) d:Nat):Int)):=Lib.hid (fun h0=>by rw [HWZ.out,hcnt,if_pos ⟨hdt,h0⟩])
      have HZ0:Hid ((dRemove (cleanD l ((dNames d).take k) d) nm).2≠0→(z:Int)=((cleanC l ((dNames d).take (k+1)) d:Nat):Int)):=Lib.hid (fun h0=>by rw [hcnt,if_neg (fun h=>h0 h.2)];rfl)
      clear hcnt HWZ
      have HST:=Lib.hid hst
      rw [hct] at KC
      clear hst hdt hf hnum hct
      go_wp2_with fail
      refine KN.out.mono ?_
      rintro e w2 ⟨rfl,rfl⟩
      clear KN
      go_wp2_with fail
      refine KC.out.mono ?_
      rintro e w3 ⟨rfl,rfl⟩
      clear KC
      go_wp2_with fail
      refine KR.out.mono ?_
      rintro e w3 ⟨rfl,g3⟩
      have HR:Hid (∀ z':Int,z'=((cleanC l ((dNames d).take (k+1)) d:Nat):Int)→CleanRelC lb bd l d (some ⟨g1,0,none⟩) c F0 w0 R (.int .i64 z') (.int .i64 ((k:Int)+1)) w3):=Lib.hid (fun z' hz'=>clean_relC HX.out HST.out hz' g3)
      clear g3 KR
      by_cases hz:(dRemove (cleanD l ((dNames d).take k) d) nm).2=0
      ·have HZ:=Lib.hid (HZ1.out hz)
       rw [hz]
       clear hz HZ1 HZ0
       go_wp2_with fail
       go_roundw
       case rel=>(try rw [hw2]);exact HR.out _ HZ.out
       case measure=>(try rw [hw2]);exact HM.out
      ·have HZ:=Lib.hid (HZ0.out hz)
       have qz:((dRemove (cleanD l ((dNames d).take k) d) nm).2 == 0)=false:=by rw [beq_eq_false_iff_ne];exact hz
       clear hz HZ1 HZ0
       go_wp2_with fail
       go_roundw
       case rel=>(try rw [hw2]);exact HR.out _ HZ.out
       case measure=>(try rw [hw2]);exact HM.out
  ·have hge:(d.now.length:Int)≤(k:Int):=Int.ofNat_le.2 (Nat.le_of_not_lt hlt)
   have G:Hid (In F0 w0 wr (LgA lb bd l::DkA bd (cleanD l (dNames d) d)::R)):=Lib.hid (by
    have:=hio.sel2 (R1:=[_,_,_]) [0,1] (by decide) rfl
    rw [List.take_of_length_le (by simp [dNames];omega)] at this
    exact this)
   have HZE:Hid ((z:Int)=((cleanC l (dNames d) d:Nat):Int)):=Lib.hid (by rw [hzz,List.take_of_length_le (by simp [dNames];omega)])
   clear hio hlt hk hzz
   go_wp2_with fail
   go_ret
   exact⟨by rw [← HZE.out];rfl,G.out⟩
end
theorem mine_iff {l:LogD} {n:ByteArray}:mineB l n=true↔Mine l.m.segs n:=by
 unfold mineB Mine
 rw [Bool.or_eq_true,List.any_eq_true,decide_eq_true_eq]
 constructor
 ·rintro (⟨s,hs,e⟩ | h)
  ·exact Or.inr ⟨s,hs,(of_decide_eq_true e).symm⟩
  ·exact Or.inl h
 ·rintro (h | ⟨s,hs,e⟩)
  ·exact Or.inr h
  ·exact Or.inl ⟨s,hs,decide_eq_true e.symm⟩
theorem dirty_iff {l:LogD} {n:ByteArray} (h:¬ Mine l.m.segs n):dirtyD l n=(decide (n=nmFresh) || (numD n).isSome):=by
 unfold dirtyD
 cases e:numD n with
 | none=>rfl
 | some k=>
  have hk:l.m.segs.contains k=false:=by
   cases hc:l.m.segs.contains k with
   | false=>rfl
   | true=>exact absurd (Or.inr ⟨k,by simpa using hc,(numD_seg e).1⟩) h
  simp only [hk];rfl
theorem fails_of {d:DiskD} (h:d.fail=0):¬ dFails d:=by unfold dFails;omega
theorem clean_all {l:LogD}:∀ (L:List ByteArray) (d:DiskD),DiskOk d→d.fail=0→L.Nodup→(∀ n∈L,nmAt d.now n≠none) →
  cleanC l L d=(L.filter (dirtyD l)).length∧DiskOk (cleanD l L d)∧(cleanD l L d).fail=0∧(∀ n,(n∈L∧dirtyD l n=true→nmAt (cleanD l L d).now n=none)∧(¬ (n∈L∧dirtyD l n=true)→nmAt (cleanD l L d).now n=nmAt d.now n))
 | [],d,hok,hf,_,_=>⟨rfl,hok,hf,fun n=>⟨fun h=>absurd h.1 List.not_mem_nil,fun _=>rfl⟩⟩
 | x::r,d,hok,hf,hnd,hat=>by
  have hx:=hat x (by simp)
  obtain⟨hxr,hnr⟩:=List.nodup_cons.1 hnd
  by_cases hd:dirtyD l x=true
  ·rcases dRemove_cases d x with ⟨e,h1,he⟩|⟨_,_,h1⟩
   ·exfalso
    unfold dRemove at h1
    rw [if_neg (fails_of hf)] at h1
    cases e2:nmAt d.now x with
    | none=>exact hx e2
    | some i=>rw [e2] at h1;simp at h1;omega
   ·have hok1:=dRemove_ok hok x
    have hf1:(dRemove d x).1.fail=0:=by rw [h1];show d.fail - 1=0;omega
    have hn1:∀ n,nmAt (dRemove d x).1.now n=if n=x then none else nmAt d.now n:=fun n=>by
     rw [h1];exact nmAt_del hok.now.row x n
    obtain⟨c1,c2,c3,c4⟩:=clean_all r (dRemove d x).1 hok1 hf1 hnr (fun n hn=>by
     rw [hn1,if_neg (fun e=>hxr (by rw [← e];exact hn))];exact hat n (List.mem_cons_of_mem _ hn))
    have e0:(dRemove d x).2=0:=by rw [h1]
    have ed:cleanD l (x::r) d=cleanD l r (dRemove d x).1:=by show cleanD l r _=_;rw [if_pos hd]
    refine⟨?_,by rw [ed];exact c2,by rw [ed];exact c3,fun n=>?_⟩
    ·show (if _ then 1 else 0)+cleanC l r _=_
     rw [if_pos ⟨hd,e0⟩,if_pos hd,c1,List.filter_cons_of_pos hd,List.length_cons];omega
    ·rw [ed]
     by_cases en:n=x
     ·subst en
      refine⟨fun _=>?_,fun q=>absurd ⟨List.mem_cons_self,hd⟩ q⟩
      rw [(c4 n).2 (fun q=>hxr q.1),hn1 n,if_pos rfl]
     ·constructor
      ·exact fun q=>(c4 n).1 ⟨(List.mem_cons.1 q.1).resolve_left en,q.2⟩
      ·intro q
       rw [(c4 n).2 (fun z=>q ⟨List.mem_cons_of_mem _ z.1,z.2⟩),hn1 n,if_neg en]
  ·obtain⟨c1,c2,c3,c4⟩:=clean_all r d hok hf hnr (fun n hn=>hat n (List.mem_cons_of_mem _ hn))
   have ed:cleanD l (x::r) d=cleanD l r d:=by show cleanD l r _=_;rw [if_neg hd]
   refine⟨?_,by rw [ed];exact c2,by rw [ed];exact c3,fun n=>?_⟩
   ·show (if _ then 1 else 0)+cleanC l r _=_
    rw [if_neg (fun h=>hd h.1),if_neg hd,c1,List.filter_cons_of_neg hd];omega
   ·rw [ed]
    constructor
    ·intro q
     rcases List.mem_cons.1 q.1 with en | z
     ·subst en;exact absurd q.2 hd
     ·exact (c4 n).1 ⟨z,q.2⟩
    ·exact fun q=>(c4 n).2 (fun z=>q ⟨List.mem_cons_of_mem _ z.1,z.2⟩)
structure LcN (l:LogD) (Fr:List FrD) (d:DiskD) (K:List ByteArray):Prop where
 firm:Firm d l.m Fr 0
 fail:d.fail=0
 nodup:K.Nodup
 want:∀ n,n∈K↔(dirtyD l n=true∧nmAt d.now n≠none)
theorem LcN.start {l:LogD} {Fr:List FrD} {d:DiskD} (h:Firm d l.m Fr 0) (hf:d.fail=0) (ho:Only d (Mine l.m.segs)):LcN l Fr d []:=
 ⟨h,hf,List.nodup_nil,fun n=>by
  simp only [List.not_mem_nil,false_iff,not_and]
  exact fun h1 h2=>dirty_not h.valid h1 (ho n h2)⟩
theorem append_at {d:DiskD} (hok:DiskOk d) (n:ByteArray) (b:List UInt8):((dAppend d n b).2≠0∧(dAppend d n b).1.now=d.now)∨((dAppend d n b).2=0∧∀ x,(nmAt (dAppend d n b).1.now x≠none↔(x=n∨nmAt d.now x≠none))):=by
 rcases dAppend_cases d n b with ⟨e,h1,he⟩|⟨_,_,_,⟨i,h4,h5⟩|⟨h4,h5⟩⟩
 ·left;rw [h1];exact⟨by simp only;omega,rfl⟩
 ·right
  rw [h5]
  refine⟨rfl,fun x=>?_⟩
  show nmAt d.now x≠none↔_
  constructor
  ·exact Or.inr
  ·rintro (rfl | h)
   ·rw [h4];simp
   ·exact h
 ·right
  rw [h5]
  refine⟨rfl,fun x=>?_⟩
  show nmAt (nmPut d.now n d.files.length) x≠none↔_
  rw [nmAt_put hok.now.row]
  by_cases e:x=n
  ·rw [if_pos e];simp [e]
  ·rw [if_neg e];simp [e]
theorem LcN.step {l:LogD} {Fr:List FrD} {d:DiskD} {K:List ByteArray} (h:LcN l Fr d K) {n:ByteArray} (hm:¬ Mine l.m.segs n) (b:List UInt8) :
  ((dAppend d n b).2≠0∧LcN l Fr (dAppend d n b).1 K)∨((dAppend d n b).2=0∧(dirtyD l n=true→n∈K→LcN l Fr (dAppend d n b).1 K)∧(dirtyD l n=true→n ∉ K→LcN l Fr (dAppend d n b).1 (n::K))∧(¬ dirtyD l n=true→LcN l Fr (dAppend d n b).1 K)):=by
 have hf:Firm (dAppend d n b).1 l.m Fr 0:=h.firm.other (fun _ hn=>hn) (Other.append h.firm.ok hm b) (dAppend_ok h.firm.ok n b)
 have hz:(dAppend d n b).1.fail=0:=by
  rcases dAppend_cases d n b with ⟨e,h1,he⟩|⟨_,_,_,⟨i,h4,h5⟩|⟨h4,h5⟩⟩
  ·rw [h1];show d.fail - 1=0;have:=h.fail;omega
  ·rw [h5];show d.fail - 1=0;have:=h.fail;omega
  ·rw [h5];show d.fail - 1=0;have:=h.fail;omega
 rcases append_at h.firm.ok n b with ⟨h1,h2⟩|⟨h1,h2⟩
 ·exact Or.inl ⟨h1,hf,hz,h.nodup,fun x=>by rw [h2];exact h.want x⟩
 ·refine Or.inr ⟨h1,fun hd hk=>⟨hf,hz,h.nodup,fun x=>?_⟩,fun hd hk=>⟨hf,hz,List.nodup_cons.2 ⟨hk,h.nodup⟩,fun x=>?_⟩,fun hd=>⟨hf,hz,h.nodup,fun x=>?_⟩⟩
  ·rw [h2,h.want]
   constructor
   ·exact fun hh=>⟨hh.1,Or.inr hh.2⟩
   ·rintro ⟨q1,q2 | q2⟩
    ·subst q2;exact (h.want x).1 hk
    ·exact⟨q1,q2⟩
  ·rw [h2,List.mem_cons,h.want]
   constructor
   ·rintro (rfl | hh)
    ·exact⟨hd,Or.inl rfl⟩
    ·exact⟨hh.1,Or.inr hh.2⟩
   ·rintro ⟨q1,q2 | q2⟩
    ·exact Or.inl q2
    ·exact Or.inr ⟨q1,q2⟩
  ·rw [h2,h.want]
   constructor
   ·exact fun hh=>⟨hh.1,Or.inr hh.2⟩
   ·rintro ⟨q1,q2 | q2⟩
    ·subst q2;exact absurd q1 hd
    ·exact⟨q1,q2⟩
theorem LcN.clean {l:LogD} {Fr:List FrD} {d:DiskD} {K:List ByteArray} (h:LcN l Fr d K) :
  cleanC l (dNames d) d=K.length∧Firm (cleanD l (dNames d) d) l.m Fr 0∧(cleanD l (dNames d) d).fail=0∧(∀ n∈K,dRead (cleanD l (dNames d) d) n=none) ∧
  cleanC l (dNames (cleanD l (dNames d) d)) (cleanD l (dNames d) d)=0∧cleanD l (dNames (cleanD l (dNames d) d)) (cleanD l (dNames d) d)=cleanD l (dNames d) d:=by
 have hnd:(dNames d).Nodup:=NmRow.keys h.firm.ok.now.row
 have hmem:∀ n,n∈dNames d↔nmAt d.now n≠none:=fun n=>by
  rw [Ne,nmAt_none]
  simp only [dNames,List.mem_map]
  constructor
  ·rintro ⟨x,hx,e⟩ hh;exact hh x hx e
  ·intro hh
   refine Classical.byContradiction (fun hc=>hh (fun x hx e=>hc ⟨x,hx,e⟩))
 obtain⟨c1,c2,c3,c4⟩:=clean_all (l:=l) (dNames d) d h.firm.ok h.fail hnd (fun n hn=>(hmem n).1 hn)
 have hp:((dNames d).filter (dirtyD l)).Perm K:=(List.perm_ext_iff_of_nodup (hnd.sublist List.filter_sublist) h.nodup).2 (fun n=>by
  rw [List.mem_filter,h.want,hmem];exact And.comm)
 have hno:∀ n,dirtyD l n=true→nmAt (cleanD l (dNames d) d).now n=none:=fun n hn=>by
  refine Classical.byContradiction (fun hc=>?_)
  by_cases hq:nmAt d.now n=none
  ·exact hc (by rw [(c4 n).2 (fun z=>(hmem n).1 z.1 hq)];exact hq)
  ·exact hc ((c4 n).1 ⟨(hmem n).2 hq,hn⟩)
 have h2:∀ (L:List ByteArray) (e:DiskD),(∀ n∈L,¬ dirtyD l n=true)→cleanC l L e=0∧cleanD l L e=e:=by
  intro L
  induction L with
  | nil=>exact fun e _=>⟨rfl,rfl⟩
  | cons x r ih=>
   intro e hx
   have hd:=hx x (by simp)
   obtain⟨i1,i2⟩:=ih e (fun n hn=>hx n (List.mem_cons_of_mem _ hn))
   constructor
   ·show (if _ then 1 else 0)+cleanC l r _=0
    rw [if_neg (fun h=>hd h.1),if_neg hd,i1]
   ·show cleanD l r _=e
    rw [if_neg hd,i2]
 have h3:∀ n∈dNames (cleanD l (dNames d) d),¬ dirtyD l n=true:=fun n hn hd=>by
  have:=hno n hd
  rw [nmAt_none] at this
  simp only [dNames,List.mem_map] at hn
  obtain⟨x,hx,e⟩:=hn
  exact this x hx e
 obtain⟨k1,k2⟩:=h2 _ (cleanD l (dNames d) d) h3
 exact⟨by rw [c1];exact hp.length_eq,clean_firm _ _ h.firm,c3,fun n hn=>by unfold dRead;rw [hno n ((h.want n).1 hn).1];rfl,k1,k2⟩
theorem start_names:(createD 1 100 (dNew 200000)).1.now.all (fun x=>decide (x.1=nmHead∨x.1=segName 1))=true:=by decide +kernel
theorem start_only {d:DiskD} {o:Option LogD} {e:Int} (h:createD 1 100 (dNew 200000)=(d,o,e)):Only d (Mine [1]):=by
 have hd:d=(createD 1 100 (dNew 200000)).1:=by rw [h]
 subst hd
 intro n hn
 refine Classical.byContradiction (fun hc=>hn (nmAt_none.2 (fun x hx e=>hc ?_)))
 rcases of_decide_eq_true (List.all_eq_true.1 start_names x hx) with q | q
 ·exact Or.inl (by rw [← e];exact q)
 ·exact Or.inr ⟨1,by simp,by rw [← e];exact q⟩
theorem cleanD_ops (l:LogD):∀ (L:List ByteArray) (d:DiskD),(cleanD l L d).ops≤d.ops+L.length
 | [],d=>Nat.le_refl _
 | x::r,d=>by
  have ih:=cleanD_ops l r (if dirtyD l x=true then (dRemove d x).1 else d)
  have h1:(if dirtyD l x=true then (dRemove d x).1 else d).ops≤d.ops+1:=by
   split
   ·exact Nat.le_of_eq (dOps d x x [] 0).2.2.2.2.1
   ·omega
  show (cleanD l r _).ops≤d.ops+(r.length+1)
  omega
def ekW (x:ByteArray×Int):Value:=.string x.1
def evW (x:ByteArray×Int):Value:=.int .i64 x.2
theorem ekW_inj {M:List (ByteArray×Int)} (h:(M.map (·.1)).Nodup):(M.map ekW).Nodup:=by
 have e:M.map ekW=(M.map (·.1)).map Value.string:=by rw [List.map_map];rfl
 rw [e]
 exact h.map Value.string (fun a b hab hc=>hab (Value.string.inj hc))
theorem LcN.put {l:LogD} {Fr:List FrD} {d:DiskD} {M:List (ByteArray×Int)} (h:LcN l Fr d (M.map (·.1))) {n:ByteArray} (hm:¬ Mine l.m.segs n) {b:List UInt8} (h0:(dAppend d n b).2=0) (hd:dirtyD l n=true) (z:Int) :
  LcN l Fr (dAppend d n b).1 (((n,z)::M.filter (fun x=>decide (x.1≠n))).map (·.1)):=by
 have e:((n,z)::M.filter (fun x=>decide (x.1≠n))).map (·.1)=n::(M.map (·.1)).filter (fun y=>decide (y≠n)):=by
  rw [List.map_cons,List.filter_map];rfl
 rw [e]
 generalize hK:M.map (·.1)=K at *
 have hnd:(n::K.filter (fun y=>decide (y≠n))).Nodup:=List.nodup_cons.2 ⟨fun hc=>by simp at hc,h.nodup.sublist List.filter_sublist⟩
 have hw:∀ L:List ByteArray,(∀ x,x∈L↔x=n∨x∈K)→L.Nodup→(LcN l Fr (dAppend d n b).1 L↔LcN l Fr (dAppend d n b).1 (n::K.filter (fun y=>decide (y≠n)))):=fun L hL hn=>by
  have hiff:∀ x,x∈n::K.filter (fun y=>decide (y≠n))↔x∈L:=fun x=>by
   rw [hL,List.mem_cons,List.mem_filter,decide_eq_true_eq]
   constructor
   ·rintro (q | ⟨q,_⟩)
    ·exact Or.inl q
    ·exact Or.inr q
   ·rintro (q | q)
    ·exact Or.inl q
    ·by_cases hx:x=n
     ·exact Or.inl hx
     ·exact Or.inr ⟨q,hx⟩
  constructor
  ·exact fun t=>⟨t.firm,t.fail,hnd,fun x=>by rw [hiff];exact t.want x⟩
  ·exact fun t=>⟨t.firm,t.fail,hn,fun x=>by rw [← hiff];exact t.want x⟩
 rcases h.step hm b with ⟨q,_⟩|⟨_,q1,q2,_⟩
 ·exact absurd h0 q
 ·by_cases hk:n∈K
  ·refine (hw K (fun x=>⟨Or.inr,?_⟩) h.nodup).1 (q1 hd hk)
   rintro (rfl | q)
   ·exact hk
   ·exact q
  ·exact (hw (n::K) (fun x=>List.mem_cons) (List.nodup_cons.2 ⟨hk,h.nodup⟩)).1 (q2 hd hk)
theorem LcN.skip {l:LogD} {Fr:List FrD} {d:DiskD} {K:List ByteArray} (h:LcN l Fr d K) {n:ByteArray} (hm:¬ Mine l.m.segs n) {b:List UInt8} (hq:(dAppend d n b).2≠0∨¬ dirtyD l n=true):LcN l Fr (dAppend d n b).1 K:=by
 rcases h.step hm b with ⟨_,q⟩|⟨q0,_,_,q3⟩
 ·exact q
 ·rcases hq with hq | hq
  ·exact absurd q0 hq
  ·exact q3 hq
theorem frsA_shape {v:Value} {fs:List FrD} {w:World} {F:List Nat} (h:FrsA v fs w F):∃ a c,v=.slice a fs.length c:=by
 obtain⟨vs,hl,F1,F2,h1,_⟩:=h
 obtain⟨a,c,e,-,-,-⟩:=h1.shape
 exact⟨a,c,e⟩
end Go.Proofs.YtaopfagclnocdaaGreatDoor
