/- Rows.CompactBoundsSaid -/
import Derived.Test.YtaopfagclnocdaaGreatCU16
import Derived.Deep.DeepCutAuto
namespace Go.Proofs.YtaopfagclnocdaaGreat
open Go.RowKit
set_option linter.unusedVariables false
set_option maxHeartbeats 64000000
set_option maxRecDepth 100000
theorem q_id (x:Int) (w:World):Calls Tryz.prog 118 #[.int .i64 x] w fun e w'=>e=.returned (.bool (inB x 65535))∧w'=w:=by
 by_cases h0:0≤x
 ·by_cases h1:x≤65535
  ·have e:inB x 65535=true:=decide_eq_true ⟨h0,h1⟩
   rw [e];clear e
   go_enter Tryz.func118,Tryz.ntmps118
   go_wp2_with fail
   go_ret
   exact⟨rfl,rfl⟩
  ·have e:inB x 65535=false:=decide_eq_false (fun h=>h1 h.2)
   have q:decide (x≤65535)=false:=decide_eq_false h1
   rw [e];clear e h1
   go_enter Tryz.func118,Tryz.ntmps118
   go_wp2_with fail
   go_ret
   exact⟨rfl,rfl⟩
 ·have e:inB x 65535=false:=decide_eq_false (fun h=>h0 h.1)
  have q:decide (0≤x)=false:=decide_eq_false h0
  rw [e];clear e h0
  go_enter Tryz.func118,Tryz.ntmps118
  go_wp2_with fail
  go_ret
  exact⟨rfl,rfl⟩
theorem q_count (x:Int) (w:World):Calls Tryz.prog 119 #[.int .i64 x] w fun e w'=>e=.returned (.bool (inB x 1000000))∧w'=w:=by
 by_cases h0:0≤x
 ·by_cases h1:x≤1000000
  ·have e:inB x 1000000=true:=decide_eq_true ⟨h0,h1⟩
   rw [e];clear e
   go_enter Tryz.func119,Tryz.ntmps119
   go_wp2_with fail
   go_ret
   exact⟨rfl,rfl⟩
  ·have e:inB x 1000000=false:=decide_eq_false (fun h=>h1 h.2)
   have q:decide (x≤1000000)=false:=decide_eq_false h1
   rw [e];clear e h1
   go_enter Tryz.func119,Tryz.ntmps119
   go_wp2_with fail
   go_ret
   exact⟨rfl,rfl⟩
 ·have e:inB x 1000000=false:=decide_eq_false (fun h=>h0 h.1)
  have q:decide (0≤x)=false:=decide_eq_false h0
  rw [e];clear e h0
  go_enter Tryz.func119,Tryz.ntmps119
  go_wp2_with fail
  go_ret
  exact⟨rfl,rfl⟩
theorem q_time (x:Int) (w:World):Calls Tryz.prog 120 #[.int .i64 x] w fun e w'=>e=.returned (.bool (inB x 1099511627776))∧w'=w:=by
 by_cases h0:0≤x
 ·by_cases h1:x≤1099511627776
  ·have e:inB x 1099511627776=true:=decide_eq_true ⟨h0,h1⟩
   rw [e];clear e
   go_enter Tryz.func120,Tryz.ntmps120
   go_wp2_with fail
   go_ret
   exact⟨rfl,rfl⟩
  ·have e:inB x 1099511627776=false:=decide_eq_false (fun h=>h1 h.2)
   have q:decide (x≤1099511627776)=false:=decide_eq_false h1
   rw [e];clear e h1
   go_enter Tryz.func120,Tryz.ntmps120
   go_wp2_with fail
   go_ret
   exact⟨rfl,rfl⟩
 ·have e:inB x 1099511627776=false:=decide_eq_false (fun h=>h0 h.1)
  have q:decide (0≤x)=false:=decide_eq_false h0
  rw [e];clear e h0
  go_enter Tryz.func120,Tryz.ntmps120
  go_wp2_with fail
  go_ret
  exact⟨rfl,rfl⟩
theorem q_version (x:Int) (w:World):Calls Tryz.prog 51 #[.int .i64 x] w fun e w'=>e=.returned (.bool (verOk x))∧w'=w:=by
 by_cases h0:1≤x
 ·by_cases h1:x≤3
  ·have e:verOk x=true:=decide_eq_true ⟨h0,h1⟩
   rw [e];clear e
   go_enter Tryz.func51,Tryz.ntmps51
   go_wp2_with fail
   go_ret
   exact⟨rfl,rfl⟩
  ·have e:verOk x=false:=decide_eq_false (fun h=>h1 h.2)
   have q:decide (x≤3)=false:=decide_eq_false h1
   rw [e];clear e h1
   go_enter Tryz.func51,Tryz.ntmps51
   go_wp2_with fail
   go_ret
   exact⟨rfl,rfl⟩
 ·have e:verOk x=false:=decide_eq_false (fun h=>h0 h.1)
  have q:decide (1≤x)=false:=decide_eq_false h0
  rw [e];clear e h0
  go_enter Tryz.func51,Tryz.ntmps51
  go_wp2_with fail
  go_ret
  exact⟨rfl,rfl⟩
section
variable {F0:List Nat} {w0 w:World} {R:List Asrt}
instance (t:Tup):Decidable (MayT t):=inferInstance
theorem o_qmayt (t:Tup) (h:In F0 w0 w R):Calls Tryz.prog 116 #[.agg (encT t)] w fun e w'=>e=.returned (.bool (decide (MayT t)))∧In F0 w0 w' R:=by
 have G:=Lib.hid ((h.cells (encT t) 41).drop)
 clear h
 by_cases hm:MayT t
 ·rw [decide_eq_true hm]
  obtain⟨h1,h2,h3,h4,h5⟩:=hm
  by_cases hp:t.proto=6
  ·have hp':(t.proto == 6)=true:=by simpa using hp
   clear h1 hp
   go_enter Tryz.func116,Tryz.ntmps116
   go_wp2_with fail
   go_ret
   exact⟨rfl,G.out⟩
  ·have hp':(t.proto == 6)=false:=by simpa using hp
   have hq':(t.proto == 17)=true:=by have:=h1;simp;omega
   clear h1 hp
   go_enter Tryz.func116,Tryz.ntmps116
   go_wp2_with fail
   go_ret
   exact⟨rfl,G.out⟩
 ·rw [decide_eq_false hm]
  have hb:((t.proto == 6)=false∧(t.proto == 17)=false)∨(((t.proto == 6)=true∨((t.proto == 6)=false∧(t.proto == 17)=true))∧(decide (0≤t.sport)=false∨(0≤t.sport∧(decide (t.sport≤65535)=false∨(t.sport≤65535∧(decide (0≤t.dport)=false∨(0≤t.dport∧decide (t.dport≤65535)=false))))))):=by
   have hm':¬ ((t.proto=6∨t.proto=17)∧0≤t.sport∧t.sport≤65535∧0≤t.dport∧t.dport≤65535):=fun ⟨a,b,c,d,e⟩=>hm ⟨a,b,c,d,e⟩
   simp only [beq_eq_false_iff_ne,beq_iff_eq,decide_eq_false_iff_not];omega
  clear hm
  rcases hb with ⟨p1,p2⟩|⟨p,q⟩
  ·go_enter Tryz.func116,Tryz.ntmps116
   go_wp2_with fail
   go_ret
   exact⟨rfl,G.out⟩
  ·rcases p with p | ⟨p,p2⟩ <;> rcases q with q | ⟨q,q2 | ⟨q2,q3 | ⟨q3,q4⟩⟩⟩
   all_goals
    go_enter Tryz.func116,Tryz.ntmps116
    go_wp2_with fail
    go_ret
    exact⟨rfl,G.out⟩
theorem o_qmaybk (b:Bk) (h:In F0 w0 w R):Calls Tryz.prog 117 #[.agg (encB b).toArray] w fun e w'=>e=.returned (.bool (mayBk b))∧In F0 w0 w' R:=by
 have G:=Lib.hid ((h.cells (encB b).toArray 108).drop)
 have K:=Lib.hid (q_id b.id)
 rw [mayBk_eq]
 obtain⟨id,addr,wt⟩:=b
 simp only at K ⊢
 clear h
 cases hi:inB id 65535 with
 | false=>
  rw [hi] at K;clear hi
  go_enter Tryz.func117,Tryz.ntmps117
  go_wp2_with fail
  refine (K.out _).mono ?_
  rintro e w1 ⟨rfl,rfl⟩
  clear K
  go_wp2_with fail
  go_ret
  exact⟨rfl,G.out⟩
 | true=>
  rw [hi] at K;clear hi
  by_cases h1:1≤wt
  ·by_cases h2:wt≤10
   ·have e:(true && decide (1≤wt∧wt≤10))=true:=by simp [h1,h2]
    rw [e];clear e
    go_enter Tryz.func117,Tryz.ntmps117
    go_wp2_with fail
    refine (K.out _).mono ?_
    rintro e w1 ⟨rfl,rfl⟩
    clear K
    go_wp2_with fail
    go_ret
    exact⟨rfl,G.out⟩
   ·have e:(true && decide (1≤wt∧wt≤10))=false:=by simp [h1,h2]
    have q:decide (wt≤10)=false:=decide_eq_false h2
    rw [e];clear e h2
    go_enter Tryz.func117,Tryz.ntmps117
    go_wp2_with fail
    refine (K.out _).mono ?_
    rintro e w1 ⟨rfl,rfl⟩
    clear K
    go_wp2_with fail
    go_ret
    exact⟨rfl,G.out⟩
  ·have e:(true && decide (1≤wt∧wt≤10))=false:=by simp [h1]
   have q:decide (1≤wt)=false:=decide_eq_false h1
   rw [e];clear e h1
   go_enter Tryz.func117,Tryz.ntmps117
   go_wp2_with fail
   refine (K.out _).mono ?_
   rintro e w1 ⟨rfl,rfl⟩
   clear K
   go_wp2_with fail
   go_ret
   exact⟨rfl,G.out⟩
theorem recCells {W:World} {g:Nat} {p:Rec} {pv:Value} (h:W.heap[g]?=some (.cells (encRL p pv).toArray 45 (0,0))):W.cell? ⟨g,0,none⟩=some (.int .i64 p.kind)∧W.cell? ⟨g,1,none⟩=some (.int .u32 p.fl.t.src)∧W.cell? ⟨g,2,none⟩=some (.int .u32 p.fl.t.dst)∧W.cell? ⟨g,3,none⟩=some (.int .i64 p.fl.t.proto)∧W.cell? ⟨g,4,none⟩=some (.int .i64 p.fl.t.sport)∧W.cell? ⟨g,5,none⟩=some (.int .i64 p.fl.t.dport)∧W.cell? ⟨g,6,none⟩=some (.int .i64 p.fl.bk)∧W.cell? ⟨g,7,none⟩=some (.int .i64 p.fl.gen)∧W.cell? ⟨g,8,none⟩=some (.int .i64 p.fl.seen)∧W.cell? ⟨g,9,none⟩=some (.int .i64 p.gen)∧W.cell? ⟨g,10,none⟩=some (pv)∧W.cell? ⟨g,11,none⟩=some (.int .i64 p.bk)∧W.cell? ⟨g,12,none⟩=some (.int .i64 p.till)∧W.cell? ⟨g,13,none⟩=some (.int .i64 p.count):=
 ⟨cell_of h rfl,cell_of h rfl,cell_of h rfl,cell_of h rfl,cell_of h rfl,cell_of h rfl,cell_of h rfl,cell_of h rfl,cell_of h rfl,cell_of h rfl,cell_of h rfl,cell_of h rfl,cell_of h rfl,cell_of h rfl⟩
def qMay (r:Rec):Bool:=
 decide (1≤r.kind∧r.kind≤6) && (!(decide (r.kind=1∨r.kind=2) && !decide (MayT (plainRec r).fl.t)) && (decide ((plainRec r).bks.length≤16) && ((plainRec r).bks.all mayBk && (inB (plainRec r).fl.bk 65535 && (inB (plainRec r).fl.gen 1000000 && (inB (plainRec r).fl.seen 1099511627776 && (inB (plainRec r).gen 1000000 && (inB (plainRec r).bk 65535 && (inB (plainRec r).till 1099511627776 && inB (plainRec r).count 1000000)))))))))
theorem qMay_eq (r:Rec):qMay r=mayRec r:=by
 rw [Bool.eq_iff_iff,mayRec_iff]
 unfold qMay plainRec
 obtain⟨kind,fl,gen,bks,bk,till,count⟩:=r
 simp only
 by_cases k1:kind=1
 ·subst k1;simp [inB,mayF_iff,zeroF,and_assoc]
 by_cases k2:kind=2
 ·subst k2;simp [inB,mayF_iff,zeroF,and_assoc]
 by_cases k3:kind=3
 ·subst k3;simp [inB,mayF_iff,zeroF,and_assoc,List.all_eq_true]
  constructor
  ·rintro ⟨a,b,c,d⟩;exact⟨c,d,a,b⟩
  ·rintro ⟨c,d,a,b⟩;exact⟨a,b,c,d⟩
 by_cases k4:kind=4
 ·subst k4;simp [inB,mayF_iff,zeroF,and_assoc]
 by_cases k5:kind=5
 ·subst k5;simp [inB,mayF_iff,zeroF,and_assoc]
 by_cases k6:kind=6
 ·subst k6;simp [inB,mayF_iff,zeroF,and_assoc]
 ·have:¬ (1≤kind∧kind≤6):=by omega
  simp [k1,k2,k3,k4,k5,k6,this]
end
def qPre (p:Rec):Bool:=(decide (p.kind=1∨p.kind=2) && !decide (MayT p.fl.t)) || decide (16 < p.bks.length)
def qLast (p:Rec):Bool:=inB p.fl.bk 65535 && (inB p.fl.gen 1000000 && (inB p.fl.seen 1099511627776 && (inB p.gen 1000000 && (inB p.bk 65535 && (inB p.till 1099511627776 && inB p.count 1000000)))))
theorem qMay_no {r:Rec} (h:¬ (1≤r.kind∧r.kind≤6)):qMay r=false:=by unfold qMay;rw [decide_eq_false h];rfl
theorem qMay_parts {r:Rec} (h:1≤r.kind∧r.kind≤6):qMay r=(!qPre (plainRec r) && ((plainRec r).bks.all mayBk && qLast (plainRec r))):=by
 unfold qMay qPre qLast
 rw [decide_eq_true h,plain_kind,Bool.true_and,Bool.not_or,Bool.and_assoc]
 congr 2
 simp only [Nat.not_lt,decide_not.symm]
theorem qMay_bad {r:Rec} {k:Nat} {b:Bk} (h:1≤r.kind∧r.kind≤6) (hb:(plainRec r).bks[k]?=some b) (hm:mayBk b=false):qMay r=false:=by
 rw [qMay_parts h]
 have:(plainRec r).bks.all mayBk=false:=by
  rw [List.all_eq_false]
  exact⟨b,List.mem_of_getElem? hb,by simp [hm]⟩
 rw [this];simp
section
variable {F0:List Nat} {w0 w:World} {R:List Asrt}
def QMayRel (p:Rec) (g:Nat) (pv:Value) (F0:List Nat) (w0:World) (R:List Asrt) (i:Value) (wr:World):Prop:=
 ∃ k:Nat,k≤p.bks.length∧i=.int .i64 k∧(∀ b∈p.bks.take k,mayBk b=true)∧In F0 w0 wr (BkR pv p.bks::Cells g (encRL p pv).toArray 45::R)
theorem o_qmay {r:Rec} {A:Option Addr} {c:Nat} (hs:BksAt F0 w0 R A r.bks) (hl:r.bks.length≤1000000) (h:In F0 w0 w R):Calls Tryz.prog 41 #[agR r A c] w fun e w'=>e=.returned (.bool (mayRec r))∧In F0 w0 w' R:=by
 rw [← qMay_eq]
 have hb1:(plainRec r).bks.length≤1000000:=by
  unfold plainRec
  repeat' split
  all_goals first | exact hl | exact Nat.zero_le _
 have hpk:(plainRec r).kind=r.kind:=plain_kind r
 have h2:=h.cells (encRL r (.slice A r.bks.length c)).toArray 45
 have K1:=o_qplain (c:=c) (fun w' h'=>hs w' h'.drop) hl h2
 have H2:=Lib.hid h2.drop
 by_cases hk:1≤r.kind∧r.kind≤6
 case neg=>
  rw [qMay_no hk]
  clear K1 h2 hb1 hpk hs hl h
  obtain⟨kind,⟨⟨src,dst,proto,sport,dport⟩,fbk,fgen,fseen⟩,gen,bks,bk,till,count⟩:=r
  simp only at hk
  have hd:kind < 1∨(decide (kind < 1)=false∧6 < kind):=by
   by_cases h:kind < 1
   ·exact Or.inl h
   ·exact Or.inr ⟨decide_eq_false h,by omega⟩
  clear hk
  rcases hd with d0 | ⟨d0,d1⟩
  all_goals
   go_enter Tryz.func41,Tryz.ntmps41
   go_wp2_with fail
   go_ret
   exact⟨rfl,H2.out⟩
 have HQ:=Lib.hid (qMay_parts hk)
 have HQB:=Lib.hid (fun (k:Nat) (b:Bk) (h1:(plainRec r).bks[k]?=some b) (h2:mayBk b=false)=>qMay_bad hk h1 h2)
 unfold RecPost at K1
 obtain⟨p,hp⟩:∃ p,p=plainRec r:=⟨_,rfl⟩
 obtain⟨qr,hqr⟩:∃ qr,qr=qMay r:=⟨_,rfl⟩
 rw [← hp] at K1 HQ HQB hb1 hpk
 rw [← hqr] at HQ HQB ⊢
 have K1':=Lib.hid K1
 have HB1:=Lib.hid hb1
 have HK:=Lib.hid hk
 have HPK:=Lib.hid hpk
 clear K1 hp hqr hs hl h h2 H2 hb1 hpk
 obtain⟨kind,⟨⟨src,dst,proto,sport,dport⟩,fbk,fgen,fseen⟩,gen,bks,bk,till,count⟩:=r
 simp only at hk HPK
 have d0:decide (kind < 1)=false:=decide_eq_false (by omega)
 have d1:decide (6 < kind)=false:=decide_eq_false (by omega)
 clear hk
 go_enter Tryz.func41,Tryz.ntmps41
 go_wp2_with fail
 generalize w.heap.size=g at *
 refine K1'.out.mono ?_
 rintro e w1 ⟨pv,rfl,g1⟩
 have ht:=there_of (g1.block 1 rfl)
 have g2:=g1.setFull 1 rfl (xs:=encRL p pv) (b:=g) (T:=45) rfl
 obtain⟨Fp,rp⟩:=g1.get 0 rfl
 obtain⟨pa,pc,rfl,-,-,-⟩:=RowA.shape rp
 have G2:=Lib.hid g2
 clear K1' g1 g2 rp
 go_upto_region 4 with (refine wpList_store_mid (op:=⟨none,Op.store 45 (.tmp 1) (.tmp 14),_,_,_,_⟩) (by rfl) 45 (.tmp 1) (.tmp 14) rfl g 0 (encRL p (.slice pa p.bks.length pc)).toArray (by rfl) (by rfl) ht (by kernel_rfl) (encRL_all _ _ _ _) ?_)
 clear ht
 simp only [Act.put]
 go_cut [35] (fun x35 wx=>x35=.bool (qPre p)∧In F0 w0 wx (BkR (.slice pa p.bks.length pc) p.bks::Cells g (encRL p (.slice pa p.bks.length pc)).toArray 45::R))
 case first=>
  obtain⟨y0,y1,y2,y3,y4,y5,y6,y7,y8,y9,y10,y11,y12,y13⟩:=recCells (G2.out.block 1 rfl)
  generalize w1.setCells g 0 (encRL p (.slice pa p.bks.length pc))=w2 at *
  have KM:=Lib.hid (o_qmayt p.fl.t G2.out)
  by_cases kt:p.kind=1∨p.kind=2
  ·have hkt:((p.kind == 1)=true)∨((p.kind == 1)=false∧(p.kind == 2)=true):=by
    simp only [beq_iff_eq,beq_eq_false_iff_ne];omega
   have HKT:Hid (decide (p.kind=1∨p.kind=2)=true):=Lib.hid (decide_eq_true kt)
   clear kt
   by_cases hm:MayT p.fl.t
   ·have HM:Hid (decide (MayT p.fl.t)=true):=Lib.hid (decide_eq_true hm)
    rw [HM.out] at KM
    by_cases hl:16 < p.bks.length
    ·have HE:Hid (qPre p=true):=Lib.hid (by unfold qPre;rw [decide_eq_true hl];simp)
     have hl':(16:Int) < (p.bks.length:Int):=by omega
     clear hm hl
     rcases hkt with k1 | ⟨k1,k2⟩
     all_goals
      go_wp2_with fail
      refine KM.out.mono ?_
      rintro e w3 ⟨rfl,g3⟩
      obtain⟨z0,z1,z2,z3,z4,z5,z6,z7,z8,z9,z10,z11,z12,z13⟩:=recCells (g3.block 1 rfl)
      have G3:=Lib.hid g3
      clear g3
      go_wp2_with fail
      go_meet
      exact⟨by rw [HE.out],G3.out⟩
    ·have HE:Hid (qPre p=false):=Lib.hid (by unfold qPre;rw [decide_eq_false hl,HM.out];simp)
     have hl':decide ((16:Int) < (p.bks.length:Int))=false:=decide_eq_false (by omega)
     clear hm hl
     rcases hkt with k1 | ⟨k1,k2⟩
     all_goals
      go_wp2_with fail
      refine KM.out.mono ?_
      rintro e w3 ⟨rfl,g3⟩
      obtain⟨z0,z1,z2,z3,z4,z5,z6,z7,z8,z9,z10,z11,z12,z13⟩:=recCells (g3.block 1 rfl)
      have G3:=Lib.hid g3
      clear g3
      go_wp2_with fail
      go_meet
      exact⟨by rw [HE.out],G3.out⟩
   ·have HM:Hid (decide (MayT p.fl.t)=false):=Lib.hid (decide_eq_false hm)
    rw [HM.out] at KM
    have HE:Hid (qPre p=true):=Lib.hid (by unfold qPre;rw [HM.out,HKT.out];simp)
    clear hm
    rcases hkt with k1 | ⟨k1,k2⟩
    all_goals
     go_wp2_with fail
     refine KM.out.mono ?_
     rintro e w3 ⟨rfl,g3⟩
     have G3:=Lib.hid g3
     clear g3
     go_wp2_with fail
     go_meet
     exact⟨by rw [HE.out],G3.out⟩
  ·have k1:(p.kind == 1)=false:=beq_eq_false_iff_ne.2 (fun h=>kt (Or.inl h))
   have k2:(p.kind == 2)=false:=beq_eq_false_iff_ne.2 (fun h=>kt (Or.inr h))
   by_cases hl:16 < p.bks.length
   ·have HE:Hid (qPre p=true):=Lib.hid (by unfold qPre;rw [decide_eq_true hl];simp)
    have hl':(16:Int) < (p.bks.length:Int):=by omega
    clear hl kt KM
    go_wp2_with fail
    go_meet
    exact⟨by rw [HE.out],G2.out⟩
   ·have HE:Hid (qPre p=false):=Lib.hid (by unfold qPre;rw [decide_eq_false hl,decide_eq_false kt];simp)
    have hl':decide ((16:Int) < (p.bks.length:Int))=false:=decide_eq_false (by omega)
    clear hl kt KM
    go_wp2_with fail
    go_meet
    exact⟨by rw [HE.out],G2.out⟩
 case rest=>
 obtain⟨rfl,g3⟩:=hcut
 clear G2
 cases hqp:qPre p with
 | true=>
  have HE:Hid (qr=false):=Lib.hid (by rw [HQ.out,hqp];rfl)
  have G3:=Lib.hid g3.drop.drop
  clear g3 hqp
  go_wp2_with fail
  go_ret
  exact⟨by rw [HE.out];rfl,G3.out⟩
 | false=>
  have HE:Hid (qr=(p.bks.all mayBk && qLast p)):=Lib.hid (by rw [HQ.out,hqp];rfl)
  have y10:wc.cell? ⟨g,10,none⟩=some (.slice pa p.bks.length pc):=cell_of (g3.block 1 rfl) rfl
  have HR:Hid (QMayRel p g (.slice pa p.bks.length pc) F0 w0 R (.int .i64 0) wc):=Lib.hid ⟨0,Nat.zero_le _,rfl,by simp,g3⟩
  clear g3 HQ hqp
  go_wp2_with fail
  go_loopw [39] (QMayRel p g (.slice pa p.bks.length pc) F0 w0 R) (fun k _=>p.bks.length - (intOf k).toNat)
  case atStart=>exact HR.out
  case round=>
   obtain⟨k,hk,rfl,hall,hio⟩:=hrel
   clear HR y10
   by_cases hlt:k < p.bks.length
   ·obtain⟨b,hb⟩:∃ b,p.bks[k]?=some b:=⟨p.bks[k],List.getElem?_eq_getElem hlt⟩
    obtain⟨Fr,rr⟩:=hio.get 0 rfl
    obtain⟨gr,fo,rfl,sc⟩:=rr.all.plain (by omega) (by decide)
    have c0:wr.cell? ⟨gr,fo+k * 3,none⟩=some (.int .i64 b.id):=by
     have:=sc (k * 3+0) _ (by unfold bkV;rw [flat_at (enc:=encB) (k:=3) (fun _=>rfl) hb 0 (by decide)];rfl)
     rwa [← Nat.add_assoc] at this
    have c1:wr.cell? ⟨gr,fo+k * 3+1,none⟩=some (.int .u32 b.addr):=by
     have:=sc (k * 3+1) _ (by unfold bkV;rw [flat_at (enc:=encB) (k:=3) (fun _=>rfl) hb 1 (by decide)];rfl)
     rwa [← Nat.add_assoc] at this
    have c2:wr.cell? ⟨gr,fo+k * 3+2,none⟩=some (.int .i64 b.weight):=by
     have:=sc (k * 3+2) _ (by unfold bkV;rw [flat_at (enc:=encB) (k:=3) (fun _=>rfl) hb 2 (by decide)];rfl)
     rwa [← Nat.add_assoc] at this
    have hlt':(k:Int) < (p.bks.length:Int):=Int.ofNat_lt.2 hlt
    have hw2:wrap64 ((k:Int)+1)=(k:Int)+1:=by have:=HB1.out;unfold wrap64;omega
    have KB:=Lib.hid (o_qmaybk b (hio.cells (encB b).toArray 108).drop)
    have HBB:=Lib.hid hb
    have HAL:=Lib.hid hall
    have HM:=Lib.hid (meas_lt hlt')
    clear hio rr sc hb hall hlt hk
    go_wp2_with fail
    refine KB.out.mono ?_
    rintro e w4 ⟨rfl,g4⟩
    clear KB c0 c1 c2
    cases hmb:mayBk b with
    | false=>
     have HE2:Hid (qr=false):=Lib.hid (HQB.out k b HBB.out hmb)
     have G4:=Lib.hid g4.drop.drop
     clear g4 hmb
     go_wp2_with fail
     go_ret
     exact⟨by rw [HE2.out];rfl,G4.out⟩
    | true=>
     have HR:Hid (QMayRel p g (.slice (some ⟨gr,fo,none⟩) p.bks.length pc) F0 w0 R (.int .i64 ((k:Int)+1)) w4):=Lib.hid ⟨k+1,(List.getElem?_eq_some_iff.1 HBB.out).1,by rw [Int.natCast_add];rfl,fun x hx=>by
      rw [List.take_add_one,HBB.out] at hx
      rcases List.mem_append.1 hx with hx | hx
      ·exact HAL.out x hx
      ·simp at hx;subst hx;exact hmb,g4⟩
     clear g4 hmb HAL HBB
     go_wp2_with fail
     go_roundw
     case rel=>(try rw [hw2]);exact HR.out
     case measure=>(try rw [hw2]);exact HM.out
   ·have hge:(p.bks.length:Int)≤(k:Int):=by omega
    obtain rfl:k=p.bks.length:=by omega
    rw [List.take_length] at hall
    have hE:=HE.out
    rw [show p.bks.all mayBk=true from List.all_eq_true.2 hall,Bool.true_and] at hE
    obtain⟨y0,y1,y2,y3,y4,y5,y6,y7,y8,y9,y10,y11,y12,y13⟩:=recCells (hio.block 1 rfl)
    have G:=Lib.hid hio.drop.drop
    unfold qLast at hE
    have Q0:=q_id p.fl.bk
    obtain⟨b0,hb0⟩:∃ b,b=inB p.fl.bk 65535:=⟨_,rfl⟩
    rw [← hb0] at hE Q0
    have KQ0:=Lib.hid Q0
    have Q1:=q_count p.fl.gen
    obtain⟨b1,hb1⟩:∃ b,b=inB p.fl.gen 1000000:=⟨_,rfl⟩
    rw [← hb1] at hE Q1
    have KQ1:=Lib.hid Q1
    have Q2:=q_time p.fl.seen
    obtain⟨b2,hb2⟩:∃ b,b=inB p.fl.seen 1099511627776:=⟨_,rfl⟩
    rw [← hb2] at hE Q2
    have KQ2:=Lib.hid Q2
    have Q3:=q_count p.gen
    obtain⟨b3,hb3⟩:∃ b,b=inB p.gen 1000000:=⟨_,rfl⟩
    rw [← hb3] at hE Q3
    have KQ3:=Lib.hid Q3
    have Q4:=q_id p.bk
    obtain⟨b4,hb4⟩:∃ b,b=inB p.bk 65535:=⟨_,rfl⟩
    rw [← hb4] at hE Q4
    have KQ4:=Lib.hid Q4
    have Q5:=q_time p.till
    obtain⟨b5,hb5⟩:∃ b,b=inB p.till 1099511627776:=⟨_,rfl⟩
    rw [← hb5] at hE Q5
    have KQ5:=Lib.hid Q5
    have Q6:=q_count p.count
    obtain⟨b6,hb6⟩:∃ b,b=inB p.count 1000000:=⟨_,rfl⟩
    rw [← hb6] at hE Q6
    have KQ6:=Lib.hid Q6
    have HEE:=Lib.hid hE
    clear hio hE hall hk hlt HE Q0 hb0 Q1 hb1 Q2 hb2 Q3 hb3 Q4 hb4 Q5 hb5 Q6 hb6
    go_wp2_with fail
    refine (KQ0.out _).mono ?_
    rintro e w5 ⟨rfl,rfl⟩
    cases b0 with
    | false=>
     go_wp2_with fail
     go_ret
     exact⟨by rw [HEE.out];first | (simp;done) | (simp;rfl),G.out⟩
    | true=>
     go_wp2_with fail
     refine (KQ1.out _).mono ?_
     rintro e w5 ⟨rfl,rfl⟩
     cases b1 with
     | false=>
      go_wp2_with fail
      go_ret
      exact⟨by rw [HEE.out];first | (simp;done) | (simp;rfl),G.out⟩
     | true=>
      go_wp2_with fail
      refine (KQ2.out _).mono ?_
      rintro e w5 ⟨rfl,rfl⟩
      cases b2 with
      | false=>
       go_wp2_with fail
       go_ret
       exact⟨by rw [HEE.out];first | (simp;done) | (simp;rfl),G.out⟩
      | true=>
       go_wp2_with fail
       refine (KQ3.out _).mono ?_
       rintro e w5 ⟨rfl,rfl⟩
       cases b3 with
       | false=>
        go_wp2_with fail
        go_ret
        exact⟨by rw [HEE.out];first | (simp;done) | (simp;rfl),G.out⟩
       | true=>
        go_wp2_with fail
        refine (KQ4.out _).mono ?_
        rintro e w5 ⟨rfl,rfl⟩
        cases b4 with
        | false=>
         go_wp2_with fail
         go_ret
         exact⟨by rw [HEE.out];first | (simp;done) | (simp;rfl),G.out⟩
        | true=>
         go_wp2_with fail
         refine (KQ5.out _).mono ?_
         rintro e w5 ⟨rfl,rfl⟩
         cases b5 with
         | false=>
          go_wp2_with fail
          go_ret
          exact⟨by rw [HEE.out];first | (simp;done) | (simp;rfl),G.out⟩
         | true=>
          go_wp2_with fail
          refine (KQ6.out _).mono ?_
          rintro e w5 ⟨rfl,rfl⟩
          go_wp2_with fail
          go_ret
          exact⟨by rw [HEE.out];first | (simp;done) | (simp;rfl),G.out⟩
end
end Go.Proofs.YtaopfagclnocdaaGreat
