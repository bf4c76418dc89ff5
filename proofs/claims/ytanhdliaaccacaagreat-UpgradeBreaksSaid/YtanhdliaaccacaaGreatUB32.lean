/- .. -/
import Derived.Test.YtanhdliaaccacaaGreatUB30
import Derived.Test.YtanhdliaaccacaaGreatUB31
import Derived.Test.YtanhdliaaccacaaGreatUB29
import Derived.Test.YtanhdliaaccacaaGreatUB28
namespace Go.Proofs.YtanhdliaaccacaaGreat
open Go.RowKit
set_option linter.unusedVariables false
set_option maxHeartbeats 64000000
set_option maxRecDepth 100000
section
variable {F0:List Nat} {w0 w:World} {R:List ax} {bd lb:Nat} {d:ae} {l:bI}
theorem BX (hl:ib l) (h:In F0 w0 w (eH lb bd l::R)):Calls Tryz.prog 78 #[aF lb] w fun e w'=>∃ a c,e=.returned (.slice a l.m.aa.length c)∧In F0 w0 w' (za (.slice a l.m.aa.length c) l.m.aa::eH lb bd l::R):=by
 obtain⟨a,c,h1⟩:=h.lX
 have c4:w.cell? ⟨lb,4,none⟩=some (.slice a l.m.aa.length c):=cell_of (h1.block 1 rfl) rfl
 obtain⟨F1,r1⟩:=h1.get 0 rfl
 have hn:=(bQ.1 hl.2.2).1.2.2.2.1
 have K:=Lib.hid (SI h (fun e=>ay.Jz r1 e) r1.all (by omega))
 clear h h1 r1
 go_enter Tryz.func78,Tryz.ntmps78
 go_wp2_with fail
 refine K.out.mono ?_
 rintro e w1 ⟨a',c',rfl,g⟩
 have G:=Lib.hid g
 clear g K c4
 go_wp2_with fail
 go_ret
 exact⟨_,_,rfl,G.out⟩
def aap (lb bd:Nat) (l:bI) (d:ae) (a:Option Addr) (c:Nat) (F0:List Nat) (w0:World) (R:List ax) (n i:Value) (wr:World):Prop:=
 ∃ k:Nat,k≤l.m.aa.length∧i=.int .i64 k∧n=.int .i64 (((l.m.aa.take k).map (fun x=>bytesD d (ai x))).sum:Nat)∧In F0 w0 wr (eH lb bd l::bJ bd d::za (.slice a l.m.aa.length c) l.m.aa::R)
end
section
variable {F0:List Nat} {w0 w:World} {R:List ax} {bd lb:Nat} {d:ae} {l:bI}
def CleanRel (lb bd:Nat) (l:bI) (d:ae) (a:Option Addr) (c:Nat) (F0:List Nat) (w0:World) (R:List ax) (n i:Value) (wr:World):Prop:=
 ∃ (k:Nat) (z:Int),k≤d.now.length∧i=.int .i64 k∧n=.int .i64 z∧In F0 w0 wr (eH lb bd l::bJ bd (iC l ((iA d).take k) d)::ng (.slice a d.now.length c) d.now::R)
theorem LJ {d:ae} {k:Nat} {x:ByteArray×Nat} (hx:d.now[k]?=some x):iC l ((iA d).take (k+1)) d=if dirtyD l x.1=true then (cO (iC l ((iA d).take k) d) x.1).1 else iC l ((iA d).take k) d:=by
 have:(iA d)[k]?=some x.1:=by simp [iA,hx]
 rw [List.take_add_one,this,Option.toList_some,yR]
theorem clean_rel {a:Option Addr} {c k:Nat} {z:Int} {x:ByteArray×Nat} {d2:ae} (hx:d.now[k]?=some x) (hd:iC l ((iA d).take (k+1)) d=d2) (h:In F0 w0 w (eH lb bd l::bJ bd d2::ng (.slice a d.now.length c) d.now::R)):CleanRel lb bd l d a c F0 w0 R (.int .i64 z) (.int .i64 ((k:Int)+1)) w:=
 ⟨k+1,z,(List.getElem?_eq_some_iff.1 hx).1,by rw [Int.natCast_add];rfl,rfl,by rw [hd];exact h⟩
theorem OO (hl:ib l) (ho:d.ops≤99990000) (h:In F0 w0 w (eH lb bd l::bJ bd d::R)):Calls Tryz.prog 82 #[aF lb] w fun e w'=>∃ z,e=.returned (.int .i64 z)∧In F0 w0 w' (eH lb bd l::bJ bd (iC l (iA d) d)::R):=by
 have hdk:aO d:=by
  obtain⟨F,hF⟩:=h.get 1 rfl
  exact hF.1
 have hn:=(bQ.1 hl.2.2).1.2.2.2.1
 obtain⟨a0,c0,h0⟩:=h.lX
 have d0:w.cell? ⟨lb,0,none⟩=some (aF bd):=cell_of (h0.block 1 rfl) rfl
 have K:=Lib.hid (SN h 1 rfl)
 have HDK:=Lib.hid hdk
 have iT:=Lib.hid hn
 have SQ:=Lib.hid ho
 clear h h0 hdk hn ho
 go_enter Tryz.func82,Tryz.ntmps82
 go_wp2_with fail
 refine K.out.mono ?_
 rintro e w1 ⟨a,c,rfl,g⟩
 have HR:Hid (CleanRel lb bd l d a c F0 w0 R (.int .i64 0) (.int .i64 0) w1):=Lib.hid ⟨0,0,Nat.zero_le _,rfl,rfl,g.aL (R1:=[_,_,_]) [1,2,0] (by decide) rfl⟩
 clear g K d0
 go_wp2_with fail
 go_loopw [3,16] (CleanRel lb bd l d a c F0 w0 R) (fun _ k _=>d.now.length - (intOf k).toNat)
 case atStart=>exact HR.out
 case round=>
  obtain⟨k,z,hk,rfl,rfl,dh⟩:=hrel
  clear HR
  by_cases hlt:k < d.now.length
  ·obtain⟨x,hx⟩:∃ x,d.now[k]?=some x:=⟨d.now[k],List.getElem?_eq_getElem hlt⟩
   obtain⟨F2,r2⟩:=dh.get 2 rfl
   obtain⟨g1,rfl,e1⟩:=Dz r2 hx
   have hlt':(k:Int) < (d.now.length:Int):=Int.ofNat_lt.2 hlt
   have hw2:wrap64 ((k:Int)+1)=(k:Int)+1:=by have:=HDK.out.now.few;unfold wrap64;omega
   have hsz:x.1.size≤maxLen:=by
    have:=HDK.out.now.named x (List.mem_of_getElem? hx)
    simp only [gU,decide_eq_true_eq] at this
    unfold maxLen;omega
   have hops:(iC l ((iA d).take k) d).ops≤100000000:=by
    have h1:=xU l ((iA d).take k) d
    have h2:=HDK.out.now.few
    have h3:=SQ.out
    rw [List.length_take] at h1;omega
   obtain⟨a1,c1,h1⟩:=dh.lX
   have e4:wr.cell? ⟨lb,4,none⟩=some (.slice a1 l.m.aa.length c1):=cell_of (h1.block 1 rfl) rfl
   have e0:wr.cell? ⟨lb,0,none⟩=some (aF bd):=cell_of (h1.block 1 rfl) rfl
   obtain⟨F3,r3⟩:=h1.get 0 rfl
   have KN:=Lib.hid (SL x.1 hsz wr)
   have hst:=LJ (l:=l) hx
   have HM:=Lib.hid (dS hlt')
   have HC:=Lib.hid (fun s=>VJ (c:=c1) (x:=s) r3.all (by have:=iT.out;omega))
   have KR:=Lib.hid (yg dh 1 rfl hops x.1 hsz)
   have HO:=Lib.hid dh
   have HX:=Lib.hid hx
   clear dh hx hlt hk r2 r3 h1 hops
   obtain⟨nm,hnm⟩:∃ nm,nm=x.1:=⟨_,rfl⟩
   rw [← hnm] at KN hst KR e1 hsz
   have HNM:=Lib.hid hnm
   clear hnm
   by_cases hf:nm=az
   ·have hdt:dirtyD l nm=true:=by unfold dirtyD;simp [hf]
    rw [if_pos hdt] at hst
    have HST:=Lib.hid hst
    have q:(nm.toList == [109,46,110,101,119])=true:=by rw [hf];unfold az;rw [ByteArray.toList_mk];rfl
    clear hst hdt hf
    generalize sZ nm=on at *
    go_wp2_with fail
    refine KN.out.mono ?_
    rintro e w2 ⟨rfl,rfl⟩
    clear KN
    go_wp2_with fail
    refine KR.out.mono ?_
    rintro e w3 ⟨rfl,g3⟩
    have HR:Hid (∀ z,CleanRel lb bd l d (some ⟨g1,0,none⟩) c F0 w0 R (.int .i64 z) (.int .i64 ((k:Int)+1)) w3):=Lib.hid (fun z=>clean_rel HX.out HST.out g3)
    clear g3 KR
    by_cases hz:(cO (iC l ((iA d).take k) d) nm).2=0
    ·rw [hz]
     clear hz
     go_wp2_with fail
     go_roundw
     case rel=>(try rw [hw2]);exact HR.out _
     case measure=>(try rw [hw2]);exact HM.out
    ·have qz:((cO (iC l ((iA d).take k) d) nm).2 == 0)=false:=by rw [beq_eq_false_iff_ne];exact hz
     clear hz
     go_wp2_with fail
     go_roundw
     case rel=>(try rw [hw2]);exact HR.out _
     case measure=>(try rw [hw2]);exact HM.out
   ·have q:(nm.toList == [109,46,110,101,119])=false:=by
     rw [beq_eq_false_iff_ne]
     intro e
     apply hf
     cases nm with
     | mk data=>
      rw [ByteArray.toList_mk] at e
      unfold az
      congr
      exact Array.toList_inj.1 e
    cases Jd:sZ nm with
    | none=>
     have hdt:¬ dirtyD l nm=true:=by unfold dirtyD;rw [Jd];simp [hf]
     rw [if_neg hdt] at hst
     have HST:=Lib.hid hst
     rw [Jd] at KN
     clear hst hdt hf Jd
     go_wp2_with fail
     refine KN.out.mono ?_
     rintro e w2 ⟨rfl,rfl⟩
     clear KN
     have HR:Hid (CleanRel lb bd l d (some ⟨g1,0,none⟩) c F0 w0 R (.int .i64 z) (.int .i64 ((k:Int)+1)) w2):=Lib.hid (clean_rel HX.out HST.out HO.out)
     clear KR HO HC
     go_wp2_with fail
     go_roundw
     case rel=>(try rw [hw2]);exact HR.out
     case measure=>(try rw [hw2]);exact HM.out
    | some sg=>
     rw [Jd] at KN
     have KC:=Lib.hid (HC.out sg)
     clear HC
     cases hct:l.m.aa.contains sg with
     | true=>
      have hdt:¬ dirtyD l nm=true:=by unfold dirtyD;rw [Jd];simp only [hct];simp [hf]
      rw [if_neg hdt] at hst
      have HST:=Lib.hid hst
      rw [hct] at KC
      clear hst hdt hf Jd hct
      go_wp2_with fail
      refine KN.out.mono ?_
      rintro e w2 ⟨rfl,rfl⟩
      clear KN
      have HR:Hid (CleanRel lb bd l d (some ⟨g1,0,none⟩) c F0 w0 R (.int .i64 z) (.int .i64 ((k:Int)+1)) w2):=Lib.hid (clean_rel HX.out HST.out HO.out)
      clear KR HO
      go_wp2_with fail
      refine KC.out.mono ?_
      rintro e w3 ⟨rfl,rfl⟩
      clear KC
      go_wp2_with fail
      go_roundw
      case rel=>(try rw [hw2]);exact HR.out
      case measure=>(try rw [hw2]);exact HM.out
     | false=>
      have hdt:dirtyD l nm=true:=by unfold dirtyD;rw [Jd];simp only [hct];simp
      rw [if_pos hdt] at hst
      have HST:=Lib.hid hst
      rw [hct] at KC
      clear hst hdt hf Jd hct
      go_wp2_with fail
      refine KN.out.mono ?_
      rintro e w2 ⟨rfl,rfl⟩
      clear KN
      go_wp2_with fail
      refine KC.out.mono ?_
      rintro e w3 ⟨rfl,rfl⟩
      clear KC
      go_wp2_with fail
      refine KR.out.mono ?_
      rintro e w3 ⟨rfl,g3⟩
      have HR:Hid (∀ z,CleanRel lb bd l d (some ⟨g1,0,none⟩) c F0 w0 R (.int .i64 z) (.int .i64 ((k:Int)+1)) w3):=Lib.hid (fun z=>clean_rel HX.out HST.out g3)
      clear g3 KR
      by_cases hz:(cO (iC l ((iA d).take k) d) nm).2=0
      ·rw [hz]
       clear hz
       go_wp2_with fail
       go_roundw
       case rel=>(try rw [hw2]);exact HR.out _
       case measure=>(try rw [hw2]);exact HM.out
      ·have qz:((cO (iC l ((iA d).take k) d) nm).2 == 0)=false:=by rw [beq_eq_false_iff_ne];exact hz
       clear hz
       go_wp2_with fail
       go_roundw
       case rel=>(try rw [hw2]);exact HR.out _
       case measure=>(try rw [hw2]);exact HM.out
  ·have hge:(d.now.length:Int)≤(k:Int):=Int.ofNat_le.2 (Nat.le_of_not_lt hlt)
   have G:Hid (In F0 w0 wr (eH lb bd l::bJ bd (iC l (iA d) d)::R)):=Lib.hid (by
    have:=dh.aL (R1:=[_,_,_]) [0,1] (by decide) rfl
    rw [List.take_of_length_le (by simp [iA];omega)] at this
    exact this)
   clear dh hlt hk
   go_wp2_with fail
   go_ret
   exact⟨_,rfl,G.out⟩
end
theorem created {v size:Int} {d:ae}:((cu v size d).2.1=none→(cu v size d).2.2≠0)∧(∀ l,(cu v size d).2.1=some l→(cu v size d).2.2=0):=by
 unfold cu
 by_cases h1:v < 1∨3 < v
 ·rw [if_pos h1];exact⟨fun _=>by simp,fun l h=>by cases h⟩
 rw [if_neg h1]
 by_cases h2:(bP d.now bG).isSome=true
 ·rw [if_pos h2];exact⟨fun _=>by simp,fun l h=>by cases h⟩
 rw [if_neg h2]
 simp only
 split
 ·rename_i h3;exact⟨fun _=>h3,fun l h=>by cases h⟩
 ·exact⟨(fun h=>by cases h),fun l h=>rfl⟩
section
variable {F0:List Nat} {w0 w:World} {R:List ax} {bd:Nat} {d:ae}
def jP (bd:Nat) (r:ae×Option pK×Int) (F0:List Nat) (w0:World) (R:List ax) (e:Ending) (w':World):Prop:=
 match r.2.1 with
 | none=>e=.returned (.tuple #[.pointer none,.int .i64 r.2.2])∧In F0 w0 w' (bJ bd r.1::R)
 | some so=>∃ sb lb dA,e=.returned (.tuple #[pR sb,.int .i64 r.2.2])∧In F0 w0 w' (vQ sb lb bd dA (r.1,so) R)
theorem o_socreate (h:In F0 w0 w (bJ bd d::R)) (ho:d.ops≤99999000) (v size:Int):Calls Tryz.prog 22 #[aF bd,.int .i64 v,.int .i64 size] w (jP bd (createS v size d) F0 w0 R):=by
 have K1:=Lib.hid (Sz h ho v size)
 obtain⟨hn,hs⟩:=created (v:=v) (size:=size) (d:=d)
 have hP:∀ e w',mI bd (cu v size d) F0 w0 R e w'→((cu v size d).2.1=none∧e=.returned (.tuple #[.pointer none,.int .i64 (cu v size d).2.2])∧In F0 w0 w' (bJ bd (cu v size d).1::R))∨(∃ l lb,(cu v size d).2.1=some l∧e=.returned (.tuple #[aF lb,.int .i64 0])∧In F0 w0 w' (eH lb bd l::bJ bd (cu v size d).1::R)):=by
  intro e w' hp
  unfold mI at hp
  cases ec:(cu v size d).2.1 with
  | none=>rw [ec] at hp;exact Or.inl ⟨rfl,hp.1,hp.2⟩
  | some l=>
   rw [ec] at hp
   obtain⟨lb,g1,g2⟩:=hp
   rw [hs l ec] at g1
   exact Or.inr ⟨l,lb,rfl,g1,g2⟩
 have HP:=Lib.hid hP
 have HN:=Lib.hid hn
 have hC:∀ x,(cu v size d).2.1=x→createS v size d=match x with | none=>((cu v size d).1,none,(cu v size d).2.2) | some l=>((cu v size d).1,some ⟨l,aH,aH⟩,0):=by
  intro x hx;unfold createS;rw [hx];cases x <;> rfl
 have HC:=Lib.hid hC
 clear h hn hs hP hC
 go_enter Tryz.func22,Tryz.ntmps22
 go_wp2_with fail
 refine K1.out.mono ?_
 intro e w1 hp
 rcases HP.out e w1 hp with ⟨e1,rfl,g⟩|⟨l,lb,e1,rfl,g⟩
 ·have hne:=HN.out e1
  have q:((cu v size d).2.2 != 0)=true:=by rw [bne_iff_ne];exact hne
  have q2:decide ((cu v size d).2.2=0)=false:=decide_eq_false hne
  have G:Hid (jP bd (createS v size d) F0 w0 R (.returned (.tuple #[.pointer none,.int .i64 (cu v size d).2.2])) w1):=Lib.hid (by rw [HC.out none e1];exact⟨rfl,g⟩)
  clear g hp K1 HP HC hne HN e1
  generalize (cu v size d).2.2=er at *
  go_wp2_with fail
  go_ret2
  exact G.out
 ·have K2:=Lib.hid (zP g)
  have E1:=Lib.hid e1
  clear g hp K1 HP HN e1
  go_wp2_with fail
  refine K2.out.mono ?_
  rintro e w2 ⟨dA,rfl,g2⟩
  have g3:=g2.cells #[aF lb,pR dA,.int .i64 0,.slice none 0 0,.slice none 0 0,.slice none 0 0] 96
  have d1:(w2.alloc (.cells #[aF lb,pR dA,.int .i64 0,.slice none 0 0,.slice none 0 0,.slice none 0 0] 96)).cell? ⟨w2.heap.size,1,none⟩=some (pR dA):=cell_of (g3.block 0 rfl) rfl
  have K3:=Lib.hid (uC (g3.aL (R1:=[_,_]) [1,0] (by decide) rfl))
  clear g2 g3 K2
  go_wp2_with fail
  refine K3.out.mono ?_
  rintro e w3 ⟨A1,a1,D1,e1',F1,f1,rfl,g4⟩
  have Q1:=Lib.hid (BU (g4.block 4 rfl) 2 4 (Nat.le_refl 6))
  have g5:=g4.ku [.int .i64 aH.gen,.slice A1 aH.au.length a1,.slice D1 aH.bL.length e1',.slice F1 aH.bS.length f1] 2 (b:=w2.heap.size) (T:=96) (C:=#[aF lb,pR dA,.int .i64 0,.slice none 0 0,.slice none 0 0,.slice none 0 0]) 4 rfl
  have G:Hid (jP bd (createS v size d) F0 w0 R (.returned (.tuple #[pR w2.heap.size,.int .i64 0])) (w3.setCells w2.heap.size 2 [.int .i64 aH.gen,.slice A1 aH.au.length a1,.slice D1 aH.bL.length e1',.slice F1 aH.bS.length f1])):=Lib.hid (by
   rw [HC.out _ E1.out]
   exact⟨_,_,_,rfl,In.lY (s:=aH) (lb:=lb) (dA:=dA) (g5.aL (R1:=[_,_,_,_,_,_,_]) (R2:=R) [4,0,1,2,5,6,3] (by decide) rfl)⟩)
  clear g4 g5 K3 d1 HC
  go_wp2_with (refine wpList_store_mid (op:=⟨none,Op.store 26 (.tmp 32) (.tmp 30),_,_,_,_⟩) (by rfl) 26 (.tmp 32) (.tmp 30) rfl w2.heap.size 2 #[.int .i64 aH.gen,.slice A1 aH.au.length a1,.slice D1 aH.bL.length e1',.slice F1 aH.bS.length f1] (by rfl) (by rfl) Q1.out (by kernel_rfl) (oC _ _ _ _ _ _ _ _ _ _) ?_)
  go_ret2
  exact G.out
theorem SV (h:In F0 w0 w R) (i:Nat) (hA:R[i]?=some (bJ bd d)):Calls Tryz.prog 79 #[aF bd] w fun e w'=>e=.returned (.tuple #[.int .i64 (kX d).1,.int .i64 (kX d).2])∧In F0 w0 w' R:=by
 have hdk:aO d:=by
  obtain⟨F,hF⟩:=h.get i hA
  exact hF.1
 have hb:=mH hdk bG
 unfold bytesD at hb
 have C1:=Lib.hid (wY h i hA bG oU)
 clear h hA hdk
 cases hd:iy d bG with
 | none=>
  have hp:kX d=(0,6):=by unfold kX;rw [hd]
  have HD:=Lib.hid hd
  rw [hp]
  clear hd hb hp
  go_enter Tryz.func79,Tryz.ntmps79
  go_wp2_with fail
  refine C1.out.mono ?_
  rintro e w1 ⟨v,rfl,g1⟩
  rw [HD.out] at g1 ⊢
  have G:=Lib.hid g1.drop
  clear g1 C1
  go_wp2_with fail
  go_ret2
  exact⟨rfl,G.out⟩
 | some b=>
  have hp:kX d=(((bE b).1.ak:Int),(bE b).2):=by unfold kX;rw [hd]
  have HD:=Lib.hid hd
  have Gx:Hid (b.length≤1048576):=Lib.hid (by rw [hd] at hb;exact hb)
  rw [hp]
  clear hd hb hp
  go_enter Tryz.func79,Tryz.ntmps79
  go_wp2_with fail
  refine C1.out.mono ?_
  rintro e w1 ⟨v,rfl,g1⟩
  rw [HD.out] at g1 ⊢
  simp only [Option.getD_some,Option.isSome_some] at g1 ⊢
  obtain⟨ab,cb,rfl,hbb⟩:=nP (b:=b) (i:=0) g1 rfl
  have K2:=Lib.hid (Ex g1 hbb (by have:=Gx.out;omega))
  clear g1 C1 hbb
  go_wp2_with fail
  refine K2.out.mono ?_
  rintro e w2 ⟨v,rfl,g2⟩
  have G:=Lib.hid (fun o=>(g2.drop.drop.alloc o))
  obtain⟨F2,r2⟩:=g2.get 0 rfl
  obtain⟨a2,c2,rfl,-,-,-⟩:=r2.shape
  clear g2 K2 r2
  go_wp2_with fail
  go_ret2
  exact⟨rfl,G.out _⟩
end
theorem BZ {l:bI} {n:Nat} {d:ae}:(bK (ko l n) d).1.ops≤d.ops+3:=by
 refine yn (g:=ko l n) (d:=d) ?_
 intro f hf d
 simp only [ko,List.mem_cons,List.not_mem_nil,or_false] at hf
 rcases hf with rfl | rfl | rfl
 ·exact yz l n d
 ·exact fP d (bz l)
 ·exact tJ d
theorem Gb {σ:Type} (ef:σ→cz→σ×Int) (size:Int) (d:ae) (s:σ):((df ef size d s).2.2.1=none→(df ef size d s).2.2.2≠0)∧(∀ l,(df ef size d s).2.2.1=some l→(df ef size d s).2.2.2=0∧ib l)∧(df ef size d s).2.1.ops≤d.ops+3:=by
 cases hb:iy d bG with
 | none=>
  have e:df ef size d s=(s,d,none,6):=by unfold df;rw [hb]
  rw [e];exact⟨(fun _=>by simp),(fun l h=>by cases h),Nat.le_add_right _ _⟩
 | some b=>
  by_cases hm:(bE b).2=0
  ·rw [Jb ef size d s b hb hm]
   split
   ·rename_i h;exact⟨(fun _=>h),(fun l h=>by cases h),Nat.le_add_right _ _⟩
   ·split
    ·rename_i h;exact⟨(fun _=>h),(fun l h=>by cases h),BZ⟩
    ·refine⟨(fun h=>by cases h),(fun l h=>?_),BZ⟩
     simp only [Option.some.injEq] at h
     subst h
     have:=rO size
     exact⟨rfl,this.1,this.2,BS hm⟩
  ·have e:df ef size d s=(s,d,none,(bE b).2):=by unfold df;rw [hb];simp only;rw [if_pos hm]
   rw [e];exact⟨(fun _=>hm),(fun l h=>by cases h),Nat.le_add_right _ _⟩
section
variable {F0:List Nat} {w0 w:World} {R:List ax} {bd:Nat} {d:ae}
theorem o_soopen (h:In F0 w0 w (bJ bd d::R)) (ho:d.ops≤99980000) (ak size:Int):Calls Tryz.prog 27 #[aF bd,.int .i64 ak,.int .i64 size] w (jP bd (mg ak size d) F0 w0 R):=by
 have K1:=Lib.hid (SV h 0 rfl)
 have HO:Hid (mg ak size d=if (kX d).2≠0 then (d,none,(kX d).2) else if ak < (kX d).1∨3 < ak then (d,none,10) else match (df eP size d aH).2.2.1 with
  | none=>((df eP size d aH).2.1,none,(df eP size d aH).2.2.2)
  | some l=>(iC l (iA (df eP size d aH).2.1) (df eP size d aH).2.1,some ⟨l,(df eP size d aH).1,(df eP size d aH).1⟩,0)):=Lib.hid rfl
 clear h
 by_cases hp:(kX d).2=0
 case neg=>
  have q:((kX d).2 != 0)=true:=by rw [bne_iff_ne];exact hp
  have e:mg ak size d=(d,none,(kX d).2):=by rw [HO.out,if_pos hp]
  rw [e]
  clear e hp HO
  generalize (kX d).2=er at *
  generalize (kX d).1=vv at *
  go_enter Tryz.func27,Tryz.ntmps27
  go_wp2_with fail
  refine K1.out.mono ?_
  rintro e w1 ⟨rfl,g1⟩
  have G:=Lib.hid g1
  clear g1 K1
  go_wp2_with fail
  go_ret2
  exact⟨rfl,G.out⟩
 rw [hp] at K1
 generalize hv:(kX d).1=vv at *
 by_cases h1:ak < vv
 ·have q:decide (ak < vv)=true:=decide_eq_true h1
  have e:mg ak size d=(d,none,10):=by rw [HO.out,if_neg (by simp [hp]),if_pos (Or.inl h1)]
  rw [e]
  clear e hp HO h1 hv
  go_enter Tryz.func27,Tryz.ntmps27
  go_wp2_with fail
  refine K1.out.mono ?_
  rintro e w1 ⟨rfl,g1⟩
  have G:=Lib.hid g1
  clear g1 K1
  go_wp2_with fail
  go_ret2
  exact⟨rfl,G.out⟩
 by_cases h3:3 < ak
 ·have q:decide (ak < vv)=false:=decide_eq_false h1
  have q3:decide (3 < ak)=true:=decide_eq_true h3
  have e:mg ak size d=(d,none,10):=by rw [HO.out,if_neg (by simp [hp]),if_pos (Or.inr h3)]
  rw [e]
  clear e hp HO h1 h3 hv
  go_enter Tryz.func27,Tryz.ntmps27
  go_wp2_with fail
  refine K1.out.mono ?_
  rintro e w1 ⟨rfl,g1⟩
  have G:=Lib.hid g1
  clear g1 K1
  go_wp2_with fail
  go_ret2
  exact⟨rfl,G.out⟩
 have q:decide (ak < vv)=false:=decide_eq_false h1
 have q3:decide (3 < ak)=false:=decide_eq_false h3
 obtain⟨f1,f2,f3⟩:=Gb eP size d aH
 have HO2:Hid (∀ x,(df eP size d aH).2.2.1=x→mg ak size d=match x with
  | none=>((df eP size d aH).2.1,none,(df eP size d aH).2.2.2)
  | some l=>(iC l (iA (df eP size d aH).2.1) (df eP size d aH).2.1,some ⟨l,(df eP size d aH).1,(df eP size d aH).1⟩,0)):=Lib.hid (fun x hx=>by
   rw [HO.out,if_neg (by simp [hp]),if_neg (fun hh=>hh.elim h1 h3),hx])
 have KO:Hid (∀ dA (R':List ax) w',In F0 w0 w' (iF dA aH::bJ bd d::R')→Calls Tryz.prog 80 #[aF bd,.int .i64 size,.func (.func 81) #[.agg #[pR dA]] #[]] w' (OpenPost (iF dA) bd (df eP size d aH) F0 w0 R')):=Lib.hid (fun dA R' w' h'=>Yw (LH dA) aH (by decide) h' (by omega) size)
 have HP:Hid (∀ dA (R':List ax) e w',OpenPost (iF dA) bd (df eP size d aH) F0 w0 R' e w'→((df eP size d aH).2.2.1=none∧e=.returned (.tuple #[.pointer none,.int .i64 (df eP size d aH).2.2.2])∧In F0 w0 w' (iF dA (df eP size d aH).1::bJ bd (df eP size d aH).2.1::R'))∨(∃ l lb,(df eP size d aH).2.2.1=some l∧e=.returned (.tuple #[aF lb,.int .i64 0])∧In F0 w0 w' (eH lb bd l::iF dA (df eP size d aH).1::bJ bd (df eP size d aH).2.1::R'))):=Lib.hid (by
  intro dA R' e w' hp
  unfold OpenPost at hp
  cases ec:(df eP size d aH).2.2.1 with
  | none=>rw [ec] at hp;exact Or.inl ⟨rfl,hp.1,hp.2⟩
  | some l=>
   rw [ec] at hp
   obtain⟨lb,g1,g2⟩:=hp
   rw [(f2 l ec).1] at g1
   exact Or.inr ⟨l,lb,rfl,g1,g2⟩)
 have HF1:=Lib.hid f1
 have Xt:=Lib.hid f2
 have HF3:=Lib.hid f3
 have SQ:=Lib.hid ho
 have Pw:∀ (fn:Fn) (first cap:Array Value) (w:World),(Instr.makeFunc fn first cap).run Tryz.prog w=.ok (.func fn first cap) w:=fun _ _ _ _=>rfl
 clear hp HO h1 h3 hv f1 f2 f3 ho
 go_enter Tryz.func27,Tryz.ntmps27
 go_wp2_with fail
 refine K1.out.mono ?_
 rintro e w1 ⟨rfl,g1⟩
 have K2:=Lib.hid (zP g1)
 clear g1 K1
 go_wp2_with fail
 refine K2.out.mono ?_
 rintro e w2 ⟨dA,rfl,g2⟩
 have g3:=g2.cells #[pR dA] 148
 have K3:=Lib.hid (KO.out dA (Cells w2.heap.size #[pR dA] 148::R) _ (g3.aL (R1:=[_,_,_]) [1,2,0] (by decide) rfl))
 clear g2 g3 K2 KO
 go_wp2_with fail
 refine K3.out.mono ?_
 intro e w3 hp
 rcases HP.out dA _ e w3 hp with ⟨e1,rfl,g4⟩|⟨l,lb,e1,rfl,g4⟩
 ·have hne:=HF1.out e1
  have qn:((df eP size d aH).2.2.2 != 0)=true:=by rw [bne_iff_ne];exact hne
  have G:Hid (jP bd (mg ak size d) F0 w0 R (.returned (.tuple #[.pointer none,.int .i64 (df eP size d aH).2.2.2])) w3):=Lib.hid (by rw [HO2.out none e1];exact⟨rfl,g4.aL (R1:=[_,_,_]) [1] (by decide) rfl⟩)
  clear g4 hp K3 HP HO2 hne HF1 Xt HF3 e1
  generalize (df eP size d aH).2.2.2=er at *
  go_wp2_with fail
  go_ret2
  exact G.out
 ·obtain⟨-,hlo⟩:=Xt.out l e1
  have E1:=Lib.hid e1
  have K4:=Lib.hid (OO hlo (by have:=HF3.out;have:=SQ.out;omega) (g4.aL (R1:=[_,_,_,_]) [0,2,1,3] (by decide) rfl))
  have hd0:w3.cell? ⟨w2.heap.size,0,none⟩=some (pR dA):=cell_of (g4.block 3 rfl) rfl
  clear g4 hp K3 HP HF1 Xt HF3 e1 hd0
  go_wp2_with fail
  refine K4.out.mono ?_
  rintro e w4 ⟨z,rfl,g5⟩
  have hz0:(w4.drewN 1).cell? ⟨w2.heap.size,0,none⟩=some (pR dA):=cell_of ((g5.drewN 1).block 3 rfl) rfl
  have K5:=Lib.hid (uC ((g5.drewN 1).aL (R1:=[_,_,_,_]) [2,0,1,3] (by decide) rfl))
  clear g5 K4
  go_wp2_with fail
  go_region_held3 (fun w'=>w'.cell? ⟨w2.heap.size,0,none⟩=some (pR dA)) (first | exact hz1 | exact hz0 | go_keep) (first
   | (go_at_call 16;refine K5.out.mono ?_;rintro e w5 ⟨A1,a1,D1,d1,F1,f1,rfl,g6⟩;have hz1:w5.cell? ⟨w2.heap.size,0,none⟩=some (pR dA):=cell_of (g6.block 6 rfl) rfl;have G6:=Lib.hid g6;clear g6))
  have g7:=G6.out.cells (IZ lb dA (df eP size d aH).1.gen (.slice A1 (df eP size d aH).1.au.length a1) (.slice D1 (df eP size d aH).1.bL.length d1) (.slice F1 (df eP size d aH).1.bS.length f1)) 96
  have G:Hid (jP bd (mg ak size d) F0 w0 R (.returned (.tuple #[pR w5.heap.size,.int .i64 0])) _):=Lib.hid (by
   rw [HO2.out _ E1.out]
   exact⟨_,_,_,rfl,In.lY (s:=(df eP size d aH).1) (lb:=lb) (dA:=dA) (g7.aL (R1:=[_,_,_,_,_,_,_,_]) (R2:=R) [0,1,2,3,5,6,4] (by decide) rfl)⟩)
  clear g7 G6 K5 HO2 hz0 hz1
  go_wp2_with fail
  go_ret2
  exact G.out
end
end Go.Proofs.YtanhdliaaccacaaGreat
