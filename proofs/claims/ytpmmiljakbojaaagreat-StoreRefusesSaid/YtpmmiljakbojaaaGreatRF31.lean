/- Rows.StoreRefusesSaid -/
import Derived.Test.YtpmmiljakbojaaaGreatRF29
import Derived.Test.YtpmmiljakbojaaaGreatRF30
import Derived.Test.YtpmmiljakbojaaaGreatRF28
import Derived.Test.YtpmmiljakbojaaaGreatRF27
namespace Go.Proofs.YtpmmiljakbojaaaGreat
open Go.RowKit
set_option linter.unusedVariables false
set_option maxHeartbeats 64000000
set_option maxRecDepth 100000
section
variable {F0:List Nat} {w0 w:World} {R:List Asrt} {bd lb:Nat} {d:DiskD} {l:LogD}
def SizeRelL (lb bd:Nat) (l:LogD) (d:DiskD) (a:Option Addr) (c:Nat) (F0:List Nat) (w0:World) (R:List Asrt) (n i:Value) (wr:World):Prop:=
 ∃ k:Nat,k≤l.m.segs.length∧i=.int .i64 k∧n=.int .i64 (((l.m.segs.take k).map (fun x=>bytesD d (segName x))).sum:Nat)∧In F0 w0 wr (LgA lb bd l::DkA bd d::IntsR (.slice a l.m.segs.length c) l.m.segs::R)
end
section
variable {F0:List Nat} {w0 w:World} {R:List Asrt} {bd lb:Nat} {d:DiskD} {l:LogD}
def CleanRel (lb bd:Nat) (l:LogD) (d:DiskD) (a:Option Addr) (c:Nat) (F0:List Nat) (w0:World) (R:List Asrt) (n i:Value) (wr:World):Prop:=
 ∃ (k:Nat) (z:Int),k≤d.now.length∧i=.int .i64 k∧n=.int .i64 z∧In F0 w0 wr (LgA lb bd l::DkA bd (cleanD l ((dNames d).take k) d)::NmRowA (.slice a d.now.length c) d.now::R)
theorem clean_step {d:DiskD} {k:Nat} {x:ByteArray×Nat} (hx:d.now[k]?=some x):cleanD l ((dNames d).take (k+1)) d=if dirtyD l x.1=true then (dRemove (cleanD l ((dNames d).take k) d) x.1).1 else cleanD l ((dNames d).take k) d:=by
 have:(dNames d)[k]?=some x.1:=by simp [dNames,hx]
 rw [List.take_add_one,this,Option.toList_some,cleanD_snoc]
theorem clean_rel {a:Option Addr} {c k:Nat} {z:Int} {x:ByteArray×Nat} {d2:DiskD} (hx:d.now[k]?=some x) (hd:cleanD l ((dNames d).take (k+1)) d=d2) (h:In F0 w0 w (LgA lb bd l::DkA bd d2::NmRowA (.slice a d.now.length c) d.now::R)):CleanRel lb bd l d a c F0 w0 R (.int .i64 z) (.int .i64 ((k:Int)+1)) w:=
 ⟨k+1,z,(List.getElem?_eq_some_iff.1 hx).1,by rw [Int.natCast_add];rfl,rfl,by rw [hd];exact h⟩
theorem o_lgclean (hl:LgOk l) (ho:d.ops≤99990000) (h:In F0 w0 w (LgA lb bd l::DkA bd d::R)):Calls Tryz.prog 34 #[dptr lb] w fun e w'=>∃ z,e=.returned (.int .i64 z)∧In F0 w0 w' (LgA lb bd l::DkA bd (cleanD l (dNames d) d)::R):=by
 have hdk:DiskOk d:=by
  obtain⟨F,hF⟩:=h.get 1 rfl
  exact hF.1
 have hn:=(mayM_iff.1 hl.2.2).1.2.2.2.1
 obtain⟨a0,c0,h0⟩:=h.lgOpen
 have d0:w.cell? ⟨lb,0,none⟩=some (dptr bd):=cell_of (h0.block 1 rfl) rfl
 have K:=Lib.hid (o_dnames h 1 rfl)
 have HDK:=Lib.hid hdk
 have HLN:=Lib.hid hn
 have HOP:=Lib.hid ho
 clear h h0 hdk hn ho
 go_enter Tryz.func34,Tryz.ntmps34
 go_wp2_with fail
 refine K.out.mono ?_
 rintro e w1 ⟨a,c,rfl,g⟩
 have HR:Hid (CleanRel lb bd l d a c F0 w0 R (.int .i64 0) (.int .i64 0) w1):=Lib.hid ⟨0,0,Nat.zero_le _,rfl,rfl,g.sel2 (R1:=[_,_,_]) [1,2,0] (by decide) rfl⟩
 clear g K d0
 go_wp2_with fail
 go_loopw [3,16] (CleanRel lb bd l d a c F0 w0 R) (fun _ k _=>d.now.length - (intOf k).toNat)
 case atStart=>exact HR.out
 case round=>
  obtain⟨k,z,hk,rfl,rfl,hio⟩:=hrel
  clear HR
  by_cases hlt:k < d.now.length
  ·obtain⟨x,hx⟩:∃ x,d.now[k]?=some x:=⟨d.now[k],List.getElem?_eq_getElem hlt⟩
   obtain⟨F2,r2⟩:=hio.get 2 rfl
   obtain⟨g1,rfl,e1⟩:=nm_row_at r2 hx
   have hlt':(k:Int) < (d.now.length:Int):=Int.ofNat_lt.2 hlt
   have hw2:wrap64 ((k:Int)+1)=(k:Int)+1:=by have:=HDK.out.now.few;unfold wrap64;omega
   have hsz:x.1.size≤maxLen:=by
    have:=HDK.out.now.named x (List.mem_of_getElem? hx)
    simp only [namedB,decide_eq_true_eq] at this
    unfold maxLen;omega
   have hops:(cleanD l ((dNames d).take k) d).ops≤100000000:=by
    have h1:=clean_ops l ((dNames d).take k) d
    have h2:=HDK.out.now.few
    have h3:=HOP.out
    rw [List.length_take] at h1;omega
   obtain⟨a1,c1,h1⟩:=hio.lgOpen
   have e4:wr.cell? ⟨lb,4,none⟩=some (.slice a1 l.m.segs.length c1):=cell_of (h1.block 1 rfl) rfl
   have e0:wr.cell? ⟨lb,0,none⟩=some (dptr bd):=cell_of (h1.block 1 rfl) rfl
   obtain⟨F3,r3⟩:=h1.get 0 rfl
   have KN:=Lib.hid (o_number x.1 hsz wr)
   have hst:=clean_step (l:=l) hx
   have HM:=Lib.hid (meas_lt hlt')
   have HC:=Lib.hid (fun s=>o_icont (c:=c1) (x:=s) r3.all (by have:=HLN.out;omega))
   have KR:=Lib.hid (o_dremove hio 1 rfl hops x.1 hsz)
   have HO:=Lib.hid hio
   have HX:=Lib.hid hx
   clear hio hx hlt hk r2 r3 h1 hops
   obtain⟨nm,hnm⟩:∃ nm,nm=x.1:=⟨_,rfl⟩
   rw [← hnm] at KN hst KR e1 hsz
   have HNM:=Lib.hid hnm
   clear hnm
   by_cases hf:nm=nmFresh
   ·have hdt:dirtyD l nm=true:=by unfold dirtyD;simp [hf]
    rw [if_pos hdt] at hst
    have HST:=Lib.hid hst
    have q:(nm.toList == [109,46,110,101,119])=true:=by rw [hf];unfold nmFresh;rw [ByteArray.toList_mk];rfl
    clear hst hdt hf
    generalize numD nm=on at *
    go_wp2_with fail
    refine KN.out.mono ?_
    rintro e w2 ⟨rfl,rfl⟩
    clear KN
    go_wp2_with fail
    refine KR.out.mono ?_
    rintro e w3 ⟨rfl,g3⟩
    have HR:Hid (∀ z,CleanRel lb bd l d (some ⟨g1,0,none⟩) c F0 w0 R (.int .i64 z) (.int .i64 ((k:Int)+1)) w3):=Lib.hid (fun z=>clean_rel HX.out HST.out g3)
    clear g3 KR
    by_cases hz:(dRemove (cleanD l ((dNames d).take k) d) nm).2=0
    ·rw [hz]
     clear hz
     go_wp2_with fail
     go_roundw
     case rel=>(try rw [hw2]);exact HR.out _
     case measure=>(try rw [hw2]);exact HM.out
    ·have qz:((dRemove (cleanD l ((dNames d).take k) d) nm).2 == 0)=false:=by rw [beq_eq_false_iff_ne];exact hz
     clear hz
     go_wp2_with fail
     go_roundw
     case rel=>(try rw [hw2]);exact HR.out _
     case measure=>(try rw [hw2]);exact HM.out
   ·have q:(nm.toList == [109,46,110,101,119])=false:=by
     rw [beq_eq_false_iff_ne]
     intro e
     apply hf
     cases nm with
     | mk data=>
      rw [ByteArray.toList_mk] at e
      unfold nmFresh
      congr
      exact Array.toList_inj.1 e
    cases hnum:numD nm with
    | none=>
     have hdt:¬ dirtyD l nm=true:=by unfold dirtyD;rw [hnum];simp [hf]
     rw [if_neg hdt] at hst
     have HST:=Lib.hid hst
     rw [hnum] at KN
     clear hst hdt hf hnum
     go_wp2_with fail
     refine KN.out.mono ?_
     rintro e w2 ⟨rfl,rfl⟩
     clear KN
     have HR:Hid (CleanRel lb bd l d (some ⟨g1,0,none⟩) c F0 w0 R (.int .i64 z) (.int .i64 ((k:Int)+1)) w2):=Lib.hid (clean_rel HX.out HST.out HO.out)
     clear KR HO HC
     go_wp2_with fail
     go_roundw
     case rel=>(try rw [hw2]);exact HR.out
     case measure=>(try rw [hw2]);exact HM.out
    | some sg=>
     rw [hnum] at KN
     have KC:=Lib.hid (HC.out sg)
     clear HC
     cases hct:l.m.segs.contains sg with
     | true=>
      have hdt:¬ dirtyD l nm=true:=by unfold dirtyD;rw [hnum];simp only [hct];simp [hf]
      rw [if_neg hdt] at hst
      have HST:=Lib.hid hst
      rw [hct] at KC
      clear hst hdt hf hnum hct
      go_wp2_with fail
      refine KN.out.mono ?_
      rintro e w2 ⟨rfl,rfl⟩
      clear KN
      have HR:Hid (CleanRel lb bd l d (some ⟨g1,0,none⟩) c F0 w0 R (.int .i64 z) (.int .i64 ((k:Int)+1)) w2):=Lib.hid (clean_rel HX.out HST.out HO.out)
      clear KR HO
      go_wp2_with fail
      refine KC.out.mono ?_
      rintro e w3 ⟨rfl,rfl⟩
      clear KC
      go_wp2_with fail
      go_roundw
      case rel=>(try rw [hw2]);exact HR.out
      case measure=>(try rw [hw2]);exact HM.out
     | false=>
      have hdt:dirtyD l nm=true:=by unfold dirtyD;rw [hnum];simp only [hct];simp
      rw [if_pos hdt] at hst
      have HST:=Lib.hid hst
      rw [hct] at KC
      clear hst hdt hf hnum hct
      go_wp2_with fail
      refine KN.out.mono ?_
      rintro e w2 ⟨rfl,rfl⟩
      clear KN
      go_wp2_with fail
      refine KC.out.mono ?_
      rintro e w3 ⟨rfl,rfl⟩
      clear KC
      go_wp2_with fail
      refine KR.out.mono ?_
      rintro e w3 ⟨rfl,g3⟩
      have HR:Hid (∀ z,CleanRel lb bd l d (some ⟨g1,0,none⟩) c F0 w0 R (.int .i64 z) (.int .i64 ((k:Int)+1)) w3):=Lib.hid (fun z=>clean_rel HX.out HST.out g3)
      clear g3 KR
      by_cases hz:(dRemove (cleanD l ((dNames d).take k) d) nm).2=0
      ·rw [hz]
       clear hz
       go_wp2_with fail
       go_roundw
       case rel=>(try rw [hw2]);exact HR.out _
       case measure=>(try rw [hw2]);exact HM.out
      ·have qz:((dRemove (cleanD l ((dNames d).take k) d) nm).2 == 0)=false:=by rw [beq_eq_false_iff_ne];exact hz
       clear hz
       go_wp2_with fail
       go_roundw
       case rel=>(try rw [hw2]);exact HR.out _
       case measure=>(try rw [hw2]);exact HM.out
  ·have hge:(d.now.length:Int)≤(k:Int):=Int.ofNat_le.2 (Nat.le_of_not_lt hlt)
   have G:Hid (In F0 w0 wr (LgA lb bd l::DkA bd (cleanD l (dNames d) d)::R)):=Lib.hid (by
    have:=hio.sel2 (R1:=[_,_,_]) [0,1] (by decide) rfl
    rw [List.take_of_length_le (by simp [dNames];omega)] at this
    exact this)
   clear hio hlt hk
   go_wp2_with fail
   go_ret
   exact⟨_,rfl,G.out⟩
end
theorem created {v size:Int} {d:DiskD}:((createD v size d).2.1=none→(createD v size d).2.2≠0)∧(∀ l,(createD v size d).2.1=some l→(createD v size d).2.2=0):=by
 unfold createD
 by_cases h1:v < 1∨3 < v
 ·rw [if_pos h1];exact⟨fun _=>by simp,fun l h=>by cases h⟩
 rw [if_neg h1]
 by_cases h2:(nmAt d.now nmHead).isSome=true
 ·rw [if_pos h2];exact⟨fun _=>by simp,fun l h=>by cases h⟩
 rw [if_neg h2]
 simp only
 split
 ·rename_i h3;exact⟨fun _=>h3,fun l h=>by cases h⟩
 ·exact⟨(fun h=>by cases h),fun l h=>rfl⟩
section
variable {F0:List Nat} {w0 w:World} {R:List Asrt} {bd:Nat} {d:DiskD}
def SoCrPost (bd:Nat) (r:DiskD×Option StoreD×Int) (F0:List Nat) (w0:World) (R:List Asrt) (e:Ending) (w':World):Prop:=
 match r.2.1 with
 | none=>e=.returned (.tuple #[.pointer none,.int .i64 r.2.2])∧In F0 w0 w' (DkA bd r.1::R)
 | some so=>∃ sb lb stb,e=.returned (.tuple #[pR sb,.int .i64 r.2.2])∧In F0 w0 w' (SoL sb lb bd stb (r.1,so) R)
theorem o_socreate (h:In F0 w0 w (DkA bd d::R)) (ho:d.ops≤99999000) (v size:Int):Calls Tryz.prog 7 #[dptr bd,.int .i64 v,.int .i64 size] w (SoCrPost bd (createS v size d) F0 w0 R):=by
 have K1:=Lib.hid (o_create h ho v size)
 obtain⟨hn,hs⟩:=created (v:=v) (size:=size) (d:=d)
 have hP:∀ e w',CreatePost bd (createD v size d) F0 w0 R e w'→((createD v size d).2.1=none∧e=.returned (.tuple #[.pointer none,.int .i64 (createD v size d).2.2])∧In F0 w0 w' (DkA bd (createD v size d).1::R))∨(∃ l lb,(createD v size d).2.1=some l∧e=.returned (.tuple #[dptr lb,.int .i64 0])∧In F0 w0 w' (LgA lb bd l::DkA bd (createD v size d).1::R)):=by
  intro e w' hp
  unfold CreatePost at hp
  cases ec:(createD v size d).2.1 with
  | none=>rw [ec] at hp;exact Or.inl ⟨rfl,hp.1,hp.2⟩
  | some l=>
   rw [ec] at hp
   obtain⟨lb,g1,g2⟩:=hp
   rw [hs l ec] at g1
   exact Or.inr ⟨l,lb,rfl,g1,g2⟩
 have HP:=Lib.hid hP
 have HN:=Lib.hid hn
 have hC:∀ x,(createD v size d).2.1=x→createS v size d=match x with | none=>((createD v size d).1,none,(createD v size d).2.2) | some l=>((createD v size d).1,some ⟨l,zeroSt,zeroSt⟩,0):=by
  intro x hx;unfold createS;rw [hx];cases x <;> rfl
 have HC:=Lib.hid hC
 clear h hn hs hP hC
 go_enter Tryz.func7,Tryz.ntmps7
 go_wp2_with fail
 refine K1.out.mono ?_
 intro e w1 hp
 rcases HP.out e w1 hp with ⟨e1,rfl,g⟩|⟨l,lb,e1,rfl,g⟩
 ·have hne:=HN.out e1
  have q:((createD v size d).2.2 != 0)=true:=by rw [bne_iff_ne];exact hne
  have q2:decide ((createD v size d).2.2=0)=false:=decide_eq_false hne
  have G:Hid (SoCrPost bd (createS v size d) F0 w0 R (.returned (.tuple #[.pointer none,.int .i64 (createD v size d).2.2])) w1):=Lib.hid (by rw [HC.out none e1];exact⟨rfl,g⟩)
  clear g hp K1 HP HC hne HN e1
  generalize (createD v size d).2.2=er at *
  go_wp2_with fail
  go_ret2
  exact G.out
 ·have K2:=Lib.hid (o_stnew g)
  have E1:=Lib.hid e1
  clear g hp K1 HP HN e1
  go_wp2_with fail
  refine K2.out.mono ?_
  rintro e w2 ⟨stb,rfl,g2⟩
  have g3:=g2.cells #[dptr lb,pR stb,.int .i64 0,.slice none 0 0,.slice none 0 0,.slice none 0 0] 71
  have d1:(w2.alloc (.cells #[dptr lb,pR stb,.int .i64 0,.slice none 0 0,.slice none 0 0,.slice none 0 0] 71)).cell? ⟨w2.heap.size,1,none⟩=some (pR stb):=cell_of (g3.block 0 rfl) rfl
  have K3:=Lib.hid (o_stview' (g3.sel2 (R1:=[_,_]) [1,0] (by decide) rfl))
  clear g2 g3 K2
  go_wp2_with fail
  refine K3.out.mono ?_
  rintro e w3 ⟨A1,a1,D1,e1',F1,f1,rfl,g4⟩
  have Q1:=Lib.hid (there_at (g4.block 4 rfl) 2 4 (Nat.le_refl 6))
  have g5:=g4.setCs [.int .i64 zeroSt.gen,.slice A1 zeroSt.bks.length a1,.slice D1 zeroSt.drs.length e1',.slice F1 zeroSt.fls.length f1] 2 (b:=w2.heap.size) (T:=71) (C:=#[dptr lb,pR stb,.int .i64 0,.slice none 0 0,.slice none 0 0,.slice none 0 0]) 4 rfl
  have G:Hid (SoCrPost bd (createS v size d) F0 w0 R (.returned (.tuple #[pR w2.heap.size,.int .i64 0])) (w3.setCells w2.heap.size 2 [.int .i64 zeroSt.gen,.slice A1 zeroSt.bks.length a1,.slice D1 zeroSt.drs.length e1',.slice F1 zeroSt.fls.length f1])):=Lib.hid (by
   rw [HC.out _ E1.out]
   exact⟨_,_,_,rfl,In.soClose (s:=zeroSt) (lb:=lb) (stb:=stb) (g5.sel2 (R1:=[_,_,_,_,_,_,_]) (R2:=R) [4,0,1,2,5,6,3] (by decide) rfl)⟩)
  clear g4 g5 K3 d1 HC
  go_wp2_with (refine wpList_store_mid (op:=⟨none,Op.store 59 (.tmp 32) (.tmp 30),_,_,_,_⟩) (by rfl) 59 (.tmp 32) (.tmp 30) rfl w2.heap.size 2 #[.int .i64 zeroSt.gen,.slice A1 zeroSt.bks.length a1,.slice D1 zeroSt.drs.length e1',.slice F1 zeroSt.fls.length f1] (by rfl) (by rfl) Q1.out (by kernel_rfl) (st4_all2 _ _ _ _ _ _ _ _ _ _) ?_)
  go_ret2
  exact G.out
theorem o_sopeek (h:In F0 w0 w R) (i:Nat) (hA:R[i]?=some (DkA bd d)):Calls Tryz.prog 31 #[dptr bd] w fun e w'=>e=.returned (.tuple #[.int .i64 (peekS d).1,.int .i64 (peekS d).2])∧In F0 w0 w' R:=by
 have hdk:DiskOk d:=by
  obtain⟨F,hF⟩:=h.get i hA
  exact hF.1
 have hb:=bytesD_le hdk nmHead
 unfold bytesD at hb
 have C1:=Lib.hid (o_dread h i hA nmHead nmHead_size)
 clear h hA hdk
 cases hd:dRead d nmHead with
 | none=>
  have hp:peekS d=(0,6):=by unfold peekS;rw [hd]
  have HD:=Lib.hid hd
  rw [hp]
  clear hd hb hp
  go_enter Tryz.func31,Tryz.ntmps31
  go_wp2_with fail
  refine C1.out.mono ?_
  rintro e w1 ⟨v,rfl,g1⟩
  rw [HD.out] at g1 ⊢
  have G:=Lib.hid g1.drop
  clear g1 C1
  go_wp2_with fail
  go_ret2
  exact⟨rfl,G.out⟩
 | some b=>
  have hp:peekS d=(((manDec b).1.ver:Int),(manDec b).2):=by unfold peekS;rw [hd]
  have HD:=Lib.hid hd
  have HBL:Hid (b.length≤1048576):=Lib.hid (by rw [hd] at hb;exact hb)
  rw [hp]
  clear hd hb hp
  go_enter Tryz.func31,Tryz.ntmps31
  go_wp2_with fail
  refine C1.out.mono ?_
  rintro e w1 ⟨v,rfl,g1⟩
  rw [HD.out] at g1 ⊢
  simp only [Option.getD_some,Option.isSome_some] at g1 ⊢
  obtain⟨ab,cb,rfl,hbb⟩:=row_bytes (b:=b) (i:=0) g1 rfl
  have K2:=Lib.hid (o_mfdec g1 hbb (by have:=HBL.out;omega))
  clear g1 C1 hbb
  go_wp2_with fail
  refine K2.out.mono ?_
  rintro e w2 ⟨v,rfl,g2⟩
  have G:=Lib.hid (fun o=>(g2.drop.drop.alloc o))
  obtain⟨F2,r2⟩:=g2.get 0 rfl
  obtain⟨a2,c2,rfl,-,-,-⟩:=r2.shape
  clear g2 K2 r2
  go_wp2_with fail
  go_ret2
  exact⟨rfl,G.out _⟩
end
theorem openFs_ops {l:LogD} {n:Nat} {d:DiskD}:(foldD (openFs l n) d).1.ops≤d.ops+3:=by
 refine foldD_ops (g:=openFs l n) (d:=d) ?_
 intro f hf d
 simp only [openFs,List.mem_cons,List.not_mem_nil,or_false] at hf
 rcases hf with rfl | rfl | rfl
 ·exact cutIf_ops l n d
 ·exact dSync_ops d (lastS l)
 ·exact dDir_ops d
theorem opened_facts {σ:Type} (ef:σ→FrD→σ×Int) (size:Int) (d:DiskD) (s:σ):((openL ef size d s).2.2.1=none→(openL ef size d s).2.2.2≠0)∧(∀ l,(openL ef size d s).2.2.1=some l→(openL ef size d s).2.2.2=0∧LgOk l)∧(openL ef size d s).2.1.ops≤d.ops+3:=by
 cases hb:dRead d nmHead with
 | none=>
  have e:openL ef size d s=(s,d,none,6):=by unfold openL;rw [hb]
  rw [e];exact⟨(fun _=>by simp),(fun l h=>by cases h),Nat.le_add_right _ _⟩
 | some b=>
  by_cases hm:(manDec b).2=0
  ·rw [openL_eq ef size d s b hb hm]
   split
   ·rename_i h;exact⟨(fun _=>h),(fun l h=>by cases h),Nat.le_add_right _ _⟩
   ·split
    ·rename_i h;exact⟨(fun _=>h),(fun l h=>by cases h),openFs_ops⟩
    ·refine⟨(fun h=>by cases h),(fun l h=>?_),openFs_ops⟩
     simp only [Option.some.injEq] at h
     subst h
     have:=sized_bounds size
     exact⟨rfl,this.1,this.2,manDec_may hm⟩
  ·have e:openL ef size d s=(s,d,none,(manDec b).2):=by unfold openL;rw [hb];simp only;rw [if_pos hm]
   rw [e];exact⟨(fun _=>hm),(fun l h=>by cases h),Nat.le_add_right _ _⟩
section
variable {F0:List Nat} {w0 w:World} {R:List Asrt} {bd:Nat} {d:DiskD}
theorem o_soopen (h:In F0 w0 w (DkA bd d::R)) (ho:d.ops≤99980000) (ver size:Int):Calls Tryz.prog 10 #[dptr bd,.int .i64 ver,.int .i64 size] w (SoCrPost bd (openS ver size d) F0 w0 R):=by
 have K1:=Lib.hid (o_sopeek h 0 rfl)
 have HO:Hid (openS ver size d=if (peekS d).2≠0 then (d,none,(peekS d).2) else if ver < (peekS d).1∨3 < ver then (d,none,10) else match (openL rdFr size d zeroSt).2.2.1 with
  | none=>((openL rdFr size d zeroSt).2.1,none,(openL rdFr size d zeroSt).2.2.2)
  | some l=>(cleanD l (dNames (openL rdFr size d zeroSt).2.1) (openL rdFr size d zeroSt).2.1,some ⟨l,(openL rdFr size d zeroSt).1,(openL rdFr size d zeroSt).1⟩,0)):=Lib.hid rfl
 clear h
 by_cases hp:(peekS d).2=0
 case neg=>
  have q:((peekS d).2 != 0)=true:=by rw [bne_iff_ne];exact hp
  have e:openS ver size d=(d,none,(peekS d).2):=by rw [HO.out,if_pos hp]
  rw [e]
  clear e hp HO
  generalize (peekS d).2=er at *
  generalize (peekS d).1=vv at *
  go_enter Tryz.func10,Tryz.ntmps10
  go_wp2_with fail
  refine K1.out.mono ?_
  rintro e w1 ⟨rfl,g1⟩
  have G:=Lib.hid g1
  clear g1 K1
  go_wp2_with fail
  go_ret2
  exact⟨rfl,G.out⟩
 rw [hp] at K1
 generalize hv:(peekS d).1=vv at *
 by_cases h1:ver < vv
 ·have q:decide (ver < vv)=true:=decide_eq_true h1
  have e:openS ver size d=(d,none,10):=by rw [HO.out,if_neg (by simp [hp]),if_pos (Or.inl h1)]
  rw [e]
  clear e hp HO h1 hv
  go_enter Tryz.func10,Tryz.ntmps10
  go_wp2_with fail
  refine K1.out.mono ?_
  rintro e w1 ⟨rfl,g1⟩
  have G:=Lib.hid g1
  clear g1 K1
  go_wp2_with fail
  go_ret2
  exact⟨rfl,G.out⟩
 by_cases h3:3 < ver
 ·have q:decide (ver < vv)=false:=decide_eq_false h1
  have q3:decide (3 < ver)=true:=decide_eq_true h3
  have e:openS ver size d=(d,none,10):=by rw [HO.out,if_neg (by simp [hp]),if_pos (Or.inr h3)]
  rw [e]
  clear e hp HO h1 h3 hv
  go_enter Tryz.func10,Tryz.ntmps10
  go_wp2_with fail
  refine K1.out.mono ?_
  rintro e w1 ⟨rfl,g1⟩
  have G:=Lib.hid g1
  clear g1 K1
  go_wp2_with fail
  go_ret2
  exact⟨rfl,G.out⟩
 have q:decide (ver < vv)=false:=decide_eq_false h1
 have q3:decide (3 < ver)=false:=decide_eq_false h3
 obtain⟨f1,f2,f3⟩:=opened_facts rdFr size d zeroSt
 have HO2:Hid (∀ x,(openL rdFr size d zeroSt).2.2.1=x→openS ver size d=match x with
  | none=>((openL rdFr size d zeroSt).2.1,none,(openL rdFr size d zeroSt).2.2.2)
  | some l=>(cleanD l (dNames (openL rdFr size d zeroSt).2.1) (openL rdFr size d zeroSt).2.1,some ⟨l,(openL rdFr size d zeroSt).1,(openL rdFr size d zeroSt).1⟩,0)):=Lib.hid (fun x hx=>by
   rw [HO.out,if_neg (by simp [hp]),if_neg (fun hh=>hh.elim h1 h3),hx])
 have KO:Hid (∀ stb (R':List Asrt) w',In F0 w0 w' (StA stb zeroSt::DkA bd d::R')→Calls Tryz.prog 32 #[dptr bd,.int .i64 size,.func (.func 33) #[.agg #[pR stb]] #[]] w' (OpenPost (StA stb) bd (openL rdFr size d zeroSt) F0 w0 R')):=Lib.hid (fun stb R' w' h'=>o_open (frame_each stb) zeroSt (by decide) h' (by omega) size)
 have HP:Hid (∀ stb (R':List Asrt) e w',OpenPost (StA stb) bd (openL rdFr size d zeroSt) F0 w0 R' e w'→((openL rdFr size d zeroSt).2.2.1=none∧e=.returned (.tuple #[.pointer none,.int .i64 (openL rdFr size d zeroSt).2.2.2])∧In F0 w0 w' (StA stb (openL rdFr size d zeroSt).1::DkA bd (openL rdFr size d zeroSt).2.1::R'))∨(∃ l lb,(openL rdFr size d zeroSt).2.2.1=some l∧e=.returned (.tuple #[dptr lb,.int .i64 0])∧In F0 w0 w' (LgA lb bd l::StA stb (openL rdFr size d zeroSt).1::DkA bd (openL rdFr size d zeroSt).2.1::R'))):=Lib.hid (by
  intro stb R' e w' hp
  unfold OpenPost at hp
  cases ec:(openL rdFr size d zeroSt).2.2.1 with
  | none=>rw [ec] at hp;exact Or.inl ⟨rfl,hp.1,hp.2⟩
  | some l=>
   rw [ec] at hp
   obtain⟨lb,g1,g2⟩:=hp
   rw [(f2 l ec).1] at g1
   exact Or.inr ⟨l,lb,rfl,g1,g2⟩)
 have HF1:=Lib.hid f1
 have HF2:=Lib.hid f2
 have HF3:=Lib.hid f3
 have HOP:=Lib.hid ho
 have hmf:∀ (fn:Fn) (first cap:Array Value) (w:World),(Instr.makeFunc fn first cap).run Tryz.prog w=.ok (.func fn first cap) w:=fun _ _ _ _=>rfl
 clear hp HO h1 h3 hv f1 f2 f3 ho
 go_enter Tryz.func10,Tryz.ntmps10
 go_wp2_with fail
 refine K1.out.mono ?_
 rintro e w1 ⟨rfl,g1⟩
 have K2:=Lib.hid (o_stnew g1)
 clear g1 K1
 go_wp2_with fail
 refine K2.out.mono ?_
 rintro e w2 ⟨stb,rfl,g2⟩
 have g3:=g2.cells #[pR stb] 90
 have K3:=Lib.hid (KO.out stb (Cells w2.heap.size #[pR stb] 90::R) _ (g3.sel2 (R1:=[_,_,_]) [1,2,0] (by decide) rfl))
 clear g2 g3 K2 KO
 go_wp2_with fail
 refine K3.out.mono ?_
 intro e w3 hp
 rcases HP.out stb _ e w3 hp with ⟨e1,rfl,g4⟩|⟨l,lb,e1,rfl,g4⟩
 ·have hne:=HF1.out e1
  have qn:((openL rdFr size d zeroSt).2.2.2 != 0)=true:=by rw [bne_iff_ne];exact hne
  have G:Hid (SoCrPost bd (openS ver size d) F0 w0 R (.returned (.tuple #[.pointer none,.int .i64 (openL rdFr size d zeroSt).2.2.2])) w3):=Lib.hid (by rw [HO2.out none e1];exact⟨rfl,g4.sel2 (R1:=[_,_,_]) [1] (by decide) rfl⟩)
  clear g4 hp K3 HP HO2 hne HF1 HF2 HF3 e1
  generalize (openL rdFr size d zeroSt).2.2.2=er at *
  go_wp2_with fail
  go_ret2
  exact G.out
 ·obtain⟨-,hlo⟩:=HF2.out l e1
  have E1:=Lib.hid e1
  have K4:=Lib.hid (o_lgclean hlo (by have:=HF3.out;have:=HOP.out;omega) (g4.sel2 (R1:=[_,_,_,_]) [0,2,1,3] (by decide) rfl))
  have hd0:w3.cell? ⟨w2.heap.size,0,none⟩=some (pR stb):=cell_of (g4.block 3 rfl) rfl
  clear g4 hp K3 HP HF1 HF2 HF3 e1 hd0
  go_wp2_with fail
  refine K4.out.mono ?_
  rintro e w4 ⟨z,rfl,g5⟩
  have hz0:(w4.drewN 1).cell? ⟨w2.heap.size,0,none⟩=some (pR stb):=cell_of ((g5.drewN 1).block 3 rfl) rfl
  have K5:=Lib.hid (o_stview' ((g5.drewN 1).sel2 (R1:=[_,_,_,_]) [2,0,1,3] (by decide) rfl))
  clear g5 K4
  go_wp2_with fail
  go_region_held3 (fun w'=>w'.cell? ⟨w2.heap.size,0,none⟩=some (pR stb)) (first | exact hz1 | exact hz0 | go_keep) (first
   | (go_at_call 21;refine K5.out.mono ?_;rintro e w5 ⟨A1,a1,D1,d1,F1,f1,rfl,g6⟩;have hz1:w5.cell? ⟨w2.heap.size,0,none⟩=some (pR stb):=cell_of (g6.block 6 rfl) rfl;have G6:=Lib.hid g6;clear g6))
  have g7:=G6.out.cells (soC lb stb (openL rdFr size d zeroSt).1.gen (.slice A1 (openL rdFr size d zeroSt).1.bks.length a1) (.slice D1 (openL rdFr size d zeroSt).1.drs.length d1) (.slice F1 (openL rdFr size d zeroSt).1.fls.length f1)) 71
  have G:Hid (SoCrPost bd (openS ver size d) F0 w0 R (.returned (.tuple #[pR w5.heap.size,.int .i64 0])) _):=Lib.hid (by
   rw [HO2.out _ E1.out]
   exact⟨_,_,_,rfl,In.soClose (s:=(openL rdFr size d zeroSt).1) (lb:=lb) (stb:=stb) (g7.sel2 (R1:=[_,_,_,_,_,_,_,_]) (R2:=R) [0,1,2,3,5,6,4] (by decide) rfl)⟩)
  clear g7 G6 K5 HO2 hz0 hz1
  go_wp2_with fail
  go_ret2
  exact G.out
end
end Go.Proofs.YtpmmiljakbojaaaGreat
