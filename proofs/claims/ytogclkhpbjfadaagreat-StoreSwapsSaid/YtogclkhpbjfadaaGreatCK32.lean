/- Parts of the proofs that a compaction keeps what lives, and done again is as once. -/
import Derived.Test.YtogclkhpbjfadaaGreatCK30
import Derived.Test.YtogclkhpbjfadaaGreatCK31
import Derived.Test.YtogclkhpbjfadaaGreatCK29
import Derived.Test.YtogclkhpbjfadaaGreatCK28
namespace Go.Proofs.YtogclkhpbjfadaaGreat
open Go.RowKit
set_option linter.unusedVariables false
set_option maxHeartbeats 64000000
set_option maxRecDepth 100000
section
variable {F0:List Nat} {w0 w:World} {R:List az} {bd lb:Nat} {d:ae} {l:bK}
theorem tC (hl:gH l) (h:In F0 w0 w (eB lb bd l::R)):Calls Tryz.prog 123 #[aD lb] w fun e w'=>∃ a c,e=.returned (.slice a l.m.aa.length c)∧In F0 w0 w' (xh (.slice a l.m.aa.length c) l.m.aa::eB lb bd l::R):=by
 obtain⟨a,c,h1⟩:=h.lX
 have c4:w.cell? ⟨lb,4,none⟩=some (.slice a l.m.aa.length c):=cell_of (h1.block 1 rfl) rfl
 obtain⟨F1,r1⟩:=h1.get 0 rfl
 have hn:=(bH.1 hl.2.2).1.2.2.2.1
 have K:=Lib.hid (SF h (fun e=>ay.Hy r1 e) r1.all (by omega))
 clear h h1 r1
 go_enter Tryz.func123,Tryz.ntmps123
 go_wp2_with fail
 refine K.out.mono ?_
 rintro e w1 ⟨a',c',rfl,g⟩
 have G:=Lib.hid g
 clear g K c4
 go_wp2_with fail
 go_ret
 exact⟨_,_,rfl,G.out⟩
def Ca (lb bd:Nat) (l:bK) (d:ae) (a:Option Addr) (c:Nat) (F0:List Nat) (w0:World) (R:List az) (n i:Value) (wr:World):Prop:=
 ∃ k:Nat,k≤l.m.aa.length∧i=.int .i64 k∧n=.int .i64 (((l.m.aa.take k).map (fun x=>bytesD d (ai x))).sum:Nat)∧In F0 w0 wr (eB lb bd l::bJ bd d::xh (.slice a l.m.aa.length c) l.m.aa::R)
theorem yZ {d:ae} (h:aP d) (n:ByteArray):bytesD d n≤1048576:=by
 unfold bytesD gY
 cases e:bQ d.now n with
 | none=>simp
 | some i=>simp only [Option.map_some,Option.getD_some];exact (h.file _ (jf (h.at e))).1
theorem Cb {α:Type} {f:α→Nat} {b:Nat} (h:∀ x,f x≤b):∀ L:List α,(L.map f).sum≤L.length * b
 | []=>by simp
 | x::L=>by
  have h1:=h x
  have h2:=Cb h L
  rw [List.map_cons,List.sum_cons,List.length_cons,Nat.succ_mul]
  omega
theorem SI (hl:gH l) (h:In F0 w0 w (eB lb bd l::bJ bd d::R)):Calls Tryz.prog 142 #[aD lb] w fun e w'=>e=.returned (.int .i64 (jX (d,l)))∧In F0 w0 w' (eB lb bd l::bJ bd d::R):=by
 have hdk:aP d:=by
  obtain⟨F,hF⟩:=h.get 1 rfl
  exact hF.1
 have hn:=(bH.1 hl.2.2).1.2.2.2.1
 have hsg:∀ x∈l.m.aa,x < 4611686018427387904:=fun x hx=>by have:=(dW hl.2.2 hx).2.2;omega
 have K:=Lib.hid (tC hl h)
 clear h
 have HD:=Lib.hid hdk
 have HS:=Lib.hid hsg
 clear hdk hsg
 go_enter Tryz.func142,Tryz.ntmps142
 go_wp2_with fail
 refine K.out.mono ?_
 rintro e w1 ⟨a,c,rfl,g⟩
 have HR:Hid (Ca lb bd l d a c F0 w0 R (.int .i64 0) (.int .i64 0) w1):=Lib.hid ⟨0,Nat.zero_le _,rfl,rfl,g.aI (R1:=[_,_,_]) [1,2,0] (by decide) rfl⟩
 clear g K
 go_wp2_with fail
 go_loopw [3,9] (Ca lb bd l d a c F0 w0 R) (fun _ k _=>l.m.aa.length - (intOf k).toNat)
 case atStart=>exact HR.out
 case round=>
  obtain⟨k,hk,rfl,rfl,dC⟩:=hrel
  clear HR
  by_cases hlt:k < l.m.aa.length
  ·obtain⟨x,hx⟩:∃ x,l.m.aa[k]?=some x:=⟨l.m.aa[k],List.getElem?_eq_getElem hlt⟩
   obtain⟨F2,r2⟩:=dC.get 2 rfl
   obtain⟨g1,o1,rfl,s1⟩:=r2.all.plain (by omega) (by decide)
   have c0:=s1 k _ (zS hx)
   have hlt':(k:Int) < (l.m.aa.length:Int):=Int.ofNat_lt.2 hlt
   have hw2:wrap64 ((k:Int)+1)=(k:Int)+1:=by unfold wrap64;omega
   have hb:=yZ HD.out (ai x)
   have hsum:((l.m.aa.take k).map (fun x=>bytesD d (ai x))).sum≤64 * 1048576:=by
    refine Nat.le_trans (Cb (yZ HD.out <| ai ·) _) (Nat.mul_le_mul_right _ ?_)
    rw [List.length_take];omega
   have hst:((l.m.aa.take (k+1)).map (fun x=>bytesD d (ai x))).sum=((l.m.aa.take k).map (fun x=>bytesD d (ai x))).sum+bytesD d (ai x):=by
    rw [List.take_add_one,hx];simp
   have hw3:wrap64 (((((l.m.aa.take k).map (fun x=>bytesD d (ai x))).sum:Nat):Int)+(bytesD d (ai x):Int))=((((l.m.aa.take (k+1)).map (fun x=>bytesD d (ai x))).sum:Nat):Int):=by
    rw [hst];unfold wrap64;omega
   have K1:=Lib.hid (nU dC x (HS.out x (List.mem_of_getElem? hx)))
   have K2:=Lib.hid (fun w' (h':In F0 w0 w' (eB lb bd l::bJ bd d::xh (.slice (some ⟨g1,o1,none⟩) l.m.aa.length c) l.m.aa::R))=>FP h' (ai x) (df x))
   have HKK:Hid (k+1≤l.m.aa.length):=Lib.hid hlt
   have HM:=Lib.hid (dV hlt')
   clear dC hx hlt hk r2 s1 hb hsum hst
   generalize ai x=nm at *
   generalize ((l.m.aa.take k).map (fun x=>bytesD d (ai x))).sum=S0 at *
   generalize hS1:((l.m.aa.take (k+1)).map (fun x=>bytesD d (ai x))).sum=S1 at *
   have HS1:=Lib.hid hS1
   clear hS1
   go_wp2_with fail
   refine K1.out.mono ?_
   rintro e w2 ⟨rfl,g2⟩
   have K3:=Lib.hid (K2.out w2 g2)
   clear g2 K1 K2 c0
   go_wp2_with fail
   refine K3.out.mono ?_
   rintro e w3 ⟨rfl,g3⟩
   have HR:Hid (Ca lb bd l d (some ⟨g1,o1,none⟩) c F0 w0 R (.int .i64 S1) (.int .i64 ((k:Int)+1)) w3):=Lib.hid ⟨k+1,HKK.out,by rw [Int.natCast_add];rfl,by rw [HS1.out],g3⟩
   clear g3 K3
   go_wp2_with fail
   go_roundw
   case rel=>(try rw [hw3]);(try rw [hw2]);exact HR.out
   case measure=>(try rw [hw2]);exact HM.out
  ·have hge:(l.m.aa.length:Int)≤(k:Int):=Int.ofNat_le.2 (Nat.le_of_not_lt hlt)
   have G:Hid (In F0 w0 wr (eB lb bd l::bJ bd d::R)):=Lib.hid (dC.aI (R1:=[_,_,_]) [0,1] (by decide) rfl)
   have HE:Hid (((l.m.aa.take k).map (fun x=>bytesD d (ai x))).sum=jX (d,l)):=Lib.hid (by rw [List.take_of_length_le (Nat.le_of_not_lt hlt)];rfl)
   clear dC hlt hk
   go_wp2_with fail
   go_ret
   exact⟨by rw [← HE.out];rfl,G.out⟩
end
section
variable {F0:List Nat} {w0 w:World} {R:List az} {bd lb:Nat} {d:ae} {l:bK}
def CleanRel (lb bd:Nat) (l:bK) (d:ae) (a:Option Addr) (c:Nat) (F0:List Nat) (w0:World) (R:List az) (n i:Value) (wr:World):Prop:=
 ∃ (k:Nat) (z:Int),k≤d.now.length∧i=.int .i64 k∧n=.int .i64 z∧In F0 w0 wr (eB lb bd l::bJ bd (iA l ((iR d).take k) d)::ni (.slice a d.now.length c) d.now::R)
theorem Ls {d:ae} {k:Nat} {x:ByteArray×Nat} (hx:d.now[k]?=some x):iA l ((iR d).take (k+1)) d=if dirtyD l x.1=true then (cZ (iA l ((iR d).take k) d) x.1).1 else iA l ((iR d).take k) d:=by
 have:(iR d)[k]?=some x.1:=by simp [iR,hx]
 rw [List.take_add_one,this,Option.toList_some,yQ]
theorem clean_rel {a:Option Addr} {c k:Nat} {z:Int} {x:ByteArray×Nat} {d2:ae} (hx:d.now[k]?=some x) (hd:iA l ((iR d).take (k+1)) d=d2) (h:In F0 w0 w (eB lb bd l::bJ bd d2::ni (.slice a d.now.length c) d.now::R)):CleanRel lb bd l d a c F0 w0 R (.int .i64 z) (.int .i64 ((k:Int)+1)) w:=
 ⟨k+1,z,(List.getElem?_eq_some_iff.1 hx).1,by rw [Int.natCast_add];rfl,rfl,by rw [hd];exact h⟩
theorem Oz (hl:gH l) (ho:d.ops≤99990000) (h:In F0 w0 w (eB lb bd l::bJ bd d::R)):Calls Tryz.prog 127 #[aD lb] w fun e w'=>∃ z,e=.returned (.int .i64 z)∧In F0 w0 w' (eB lb bd l::bJ bd (iA l (iR d) d)::R):=by
 have hdk:aP d:=by
  obtain⟨F,hF⟩:=h.get 1 rfl
  exact hF.1
 have hn:=(bH.1 hl.2.2).1.2.2.2.1
 obtain⟨a0,c0,h0⟩:=h.lX
 have d0:w.cell? ⟨lb,0,none⟩=some (aD bd):=cell_of (h0.block 1 rfl) rfl
 have K:=Lib.hid (IV h 1 rfl)
 have HDK:=Lib.hid hdk
 have jw:=Lib.hid hn
 have OA:=Lib.hid ho
 clear h h0 hdk hn ho
 go_enter Tryz.func127,Tryz.ntmps127
 go_wp2_with fail
 refine K.out.mono ?_
 rintro e w1 ⟨a,c,rfl,g⟩
 have HR:Hid (CleanRel lb bd l d a c F0 w0 R (.int .i64 0) (.int .i64 0) w1):=Lib.hid ⟨0,0,Nat.zero_le _,rfl,rfl,g.aI (R1:=[_,_,_]) [1,2,0] (by decide) rfl⟩
 clear g K d0
 go_wp2_with fail
 go_loopw [3,16] (CleanRel lb bd l d a c F0 w0 R) (fun _ k _=>d.now.length - (intOf k).toNat)
 case atStart=>exact HR.out
 case round=>
  obtain⟨k,z,hk,rfl,rfl,dC⟩:=hrel
  clear HR
  by_cases hlt:k < d.now.length
  ·obtain⟨x,hx⟩:∃ x,d.now[k]?=some x:=⟨d.now[k],List.getElem?_eq_getElem hlt⟩
   obtain⟨F2,r2⟩:=dC.get 2 rfl
   obtain⟨g1,rfl,e1⟩:=Dz r2 hx
   have hlt':(k:Int) < (d.now.length:Int):=Int.ofNat_lt.2 hlt
   have hw2:wrap64 ((k:Int)+1)=(k:Int)+1:=by have:=HDK.out.now.few;unfold wrap64;omega
   have hsz:x.1.size≤maxLen:=by
    have:=HDK.out.now.named x (List.mem_of_getElem? hx)
    simp only [gQ,decide_eq_true_eq] at this
    unfold maxLen;omega
   have hops:(iA l ((iR d).take k) d).ops≤100000000:=by
    have h1:=Dq l ((iR d).take k) d
    have h2:=HDK.out.now.few
    have h3:=OA.out
    rw [List.length_take] at h1;omega
   obtain⟨a1,c1,h1⟩:=dC.lX
   have e4:wr.cell? ⟨lb,4,none⟩=some (.slice a1 l.m.aa.length c1):=cell_of (h1.block 1 rfl) rfl
   have e0:wr.cell? ⟨lb,0,none⟩=some (aD bd):=cell_of (h1.block 1 rfl) rfl
   obtain⟨F3,r3⟩:=h1.get 0 rfl
   have KN:=Lib.hid (SH x.1 hsz wr)
   have hst:=Ls (l:=l) hx
   have HM:=Lib.hid (dV hlt')
   have HC:=Lib.hid (fun s=>VF (c:=c1) (x:=s) r3.all (by have:=jw.out;omega))
   have KR:=Lib.hid (yh dC 1 rfl hops x.1 hsz)
   have HO:=Lib.hid dC
   have HX:=Lib.hid hx
   clear dC hx hlt hk r2 r3 h1 hops
   obtain⟨nm,hnm⟩:∃ nm,nm=x.1:=⟨_,rfl⟩
   rw [← hnm] at KN hst KR e1 hsz
   have HNM:=Lib.hid hnm
   clear hnm
   by_cases hf:nm=aB
   ·have hdt:dirtyD l nm=true:=by unfold dirtyD;simp [hf]
    rw [if_pos hdt] at hst
    have HST:=Lib.hid hst
    have q:(nm.toList == [109,46,110,101,119])=true:=by rw [hf];unfold aB;rw [ByteArray.toList_mk];rfl
    clear hst hdt hf
    generalize sQ nm=on at *
    go_wp2_with fail
    refine KN.out.mono ?_
    rintro e w2 ⟨rfl,rfl⟩
    clear KN
    go_wp2_with fail
    refine KR.out.mono ?_
    rintro e w3 ⟨rfl,g3⟩
    have HR:Hid (∀ z,CleanRel lb bd l d (some ⟨g1,0,none⟩) c F0 w0 R (.int .i64 z) (.int .i64 ((k:Int)+1)) w3):=Lib.hid (fun z=>clean_rel HX.out HST.out g3)
    clear g3 KR
    by_cases hz:(cZ (iA l ((iR d).take k) d) nm).2=0
    ·rw [hz]
     clear hz
     go_wp2_with fail
     go_roundw
     case rel=>(try rw [hw2]);exact HR.out _
     case measure=>(try rw [hw2]);exact HM.out
    ·have qz:((cZ (iA l ((iR d).take k) d) nm).2 == 0)=false:=by rw [beq_eq_false_iff_ne];exact hz
     clear hz
     go_wp2_with fail
     go_roundw
     case rel=>(try rw [hw2]);exact HR.out _
     case measure=>(try rw [hw2]);exact HM.out
   ·have q:(nm.toList == [109,46,110,101,119])=false:=by
     rw [beq_eq_false_iff_ne]
     intro e
     apply hf
     cases nm with
     | mk data=>
      rw [ByteArray.toList_mk] at e
      unfold aB
      congr
      exact Array.toList_inj.1 e
    cases IW:sQ nm with
    | none=>
     have hdt:¬ dirtyD l nm=true:=by unfold dirtyD;rw [IW];simp [hf]
     rw [if_neg hdt] at hst
     have HST:=Lib.hid hst
     rw [IW] at KN
     clear hst hdt hf IW
     go_wp2_with fail
     refine KN.out.mono ?_
     rintro e w2 ⟨rfl,rfl⟩
     clear KN
     have HR:Hid (CleanRel lb bd l d (some ⟨g1,0,none⟩) c F0 w0 R (.int .i64 z) (.int .i64 ((k:Int)+1)) w2):=Lib.hid (clean_rel HX.out HST.out HO.out)
     clear KR HO HC
     go_wp2_with fail
     go_roundw
     case rel=>(try rw [hw2]);exact HR.out
     case measure=>(try rw [hw2]);exact HM.out
    | some sg=>
     rw [IW] at KN
     have KC:=Lib.hid (HC.out sg)
     clear HC
     cases hct:l.m.aa.contains sg with
     | true=>
      have hdt:¬ dirtyD l nm=true:=by unfold dirtyD;rw [IW];simp only [hct];simp [hf]
      rw [if_neg hdt] at hst
      have HST:=Lib.hid hst
      rw [hct] at KC
      clear hst hdt hf IW hct
      go_wp2_with fail
      refine KN.out.mono ?_
      rintro e w2 ⟨rfl,rfl⟩
      clear KN
      have HR:Hid (CleanRel lb bd l d (some ⟨g1,0,none⟩) c F0 w0 R (.int .i64 z) (.int .i64 ((k:Int)+1)) w2):=Lib.hid (clean_rel HX.out HST.out HO.out)
      clear KR HO
      go_wp2_with fail
      refine KC.out.mono ?_
      rintro e w3 ⟨rfl,rfl⟩
      clear KC
      go_wp2_with fail
      go_roundw
      case rel=>(try rw [hw2]);exact HR.out
      case measure=>(try rw [hw2]);exact HM.out
     | false=>
      have hdt:dirtyD l nm=true:=by unfold dirtyD;rw [IW];simp only [hct];simp
      rw [if_pos hdt] at hst
      have HST:=Lib.hid hst
      rw [hct] at KC
      clear hst hdt hf IW hct
      go_wp2_with fail
      refine KN.out.mono ?_
      rintro e w2 ⟨rfl,rfl⟩
      clear KN
      go_wp2_with fail
      refine KC.out.mono ?_
      rintro e w3 ⟨rfl,rfl⟩
      clear KC
      go_wp2_with fail
      refine KR.out.mono ?_
      rintro e w3 ⟨rfl,g3⟩
      have HR:Hid (∀ z,CleanRel lb bd l d (some ⟨g1,0,none⟩) c F0 w0 R (.int .i64 z) (.int .i64 ((k:Int)+1)) w3):=Lib.hid (fun z=>clean_rel HX.out HST.out g3)
      clear g3 KR
      by_cases hz:(cZ (iA l ((iR d).take k) d) nm).2=0
      ·rw [hz]
       clear hz
       go_wp2_with fail
       go_roundw
       case rel=>(try rw [hw2]);exact HR.out _
       case measure=>(try rw [hw2]);exact HM.out
      ·have qz:((cZ (iA l ((iR d).take k) d) nm).2 == 0)=false:=by rw [beq_eq_false_iff_ne];exact hz
       clear hz
       go_wp2_with fail
       go_roundw
       case rel=>(try rw [hw2]);exact HR.out _
       case measure=>(try rw [hw2]);exact HM.out
  ·have hge:(d.now.length:Int)≤(k:Int):=Int.ofNat_le.2 (Nat.le_of_not_lt hlt)
   have G:Hid (In F0 w0 wr (eB lb bd l::bJ bd (iA l (iR d) d)::R)):=Lib.hid (by
    have:=dC.aI (R1:=[_,_,_]) [0,1] (by decide) rfl
    rw [List.take_of_length_le (by simp [iR];omega)] at this
    exact this)
   clear dC hlt hk
   go_wp2_with fail
   go_ret
   exact⟨_,rfl,G.out⟩
end
theorem created {v size:Int} {d:ae}:((cu v size d).2.1=none→(cu v size d).2.2≠0)∧(∀ l,(cu v size d).2.1=some l→(cu v size d).2.2=0):=by
 unfold cu
 by_cases h1:v < 1∨3 < v
 ·rw [if_pos h1];exact⟨fun _=>by simp,fun l h=>by cases h⟩
 rw [if_neg h1]
 by_cases h2:(bQ d.now bL).isSome=true
 ·rw [if_pos h2];exact⟨fun _=>by simp,fun l h=>by cases h⟩
 rw [if_neg h2]
 simp only
 split
 ·rename_i h3;exact⟨fun _=>h3,fun l h=>by cases h⟩
 ·exact⟨(fun h=>by cases h),fun l h=>rfl⟩
section
variable {F0:List Nat} {w0 w:World} {R:List az} {bd:Nat} {d:ae}
def kD (bd:Nat) (r:ae×Option pK×Int) (F0:List Nat) (w0:World) (R:List az) (e:Ending) (w':World):Prop:=
 match r.2.1 with
 | none=>e=.returned (.tuple #[.pointer none,.int .i64 r.2.2])∧In F0 w0 w' (bJ bd r.1::R)
 | some so=>∃ sb lb dz,e=.returned (.tuple #[pR sb,.int .i64 r.2.2])∧In F0 w0 w' (oG sb lb bd dz (r.1,so) R)
theorem o_socreate (h:In F0 w0 w (bJ bd d::R)) (ho:d.ops≤99999000) (v size:Int):Calls Tryz.prog 30 #[aD bd,.int .i64 v,.int .i64 size] w (kD bd (createS v size d) F0 w0 R):=by
 have K1:=Lib.hid (Sq h ho v size)
 obtain⟨hn,hs⟩:=created (v:=v) (size:=size) (d:=d)
 have hP:∀ e w',mG bd (cu v size d) F0 w0 R e w'→((cu v size d).2.1=none∧e=.returned (.tuple #[.pointer none,.int .i64 (cu v size d).2.2])∧In F0 w0 w' (bJ bd (cu v size d).1::R))∨(∃ l lb,(cu v size d).2.1=some l∧e=.returned (.tuple #[aD lb,.int .i64 0])∧In F0 w0 w' (eB lb bd l::bJ bd (cu v size d).1::R)):=by
  intro e w' hp
  unfold mG at hp
  cases ec:(cu v size d).2.1 with
  | none=>rw [ec] at hp;exact Or.inl ⟨rfl,hp.1,hp.2⟩
  | some l=>
   rw [ec] at hp
   obtain⟨lb,g1,g2⟩:=hp
   rw [hs l ec] at g1
   exact Or.inr ⟨l,lb,rfl,g1,g2⟩
 have HP:=Lib.hid hP
 have HN:=Lib.hid hn
 have hC:∀ x,(cu v size d).2.1=x→createS v size d=match x with | none=>((cu v size d).1,none,(cu v size d).2.2) | some l=>((cu v size d).1,some ⟨l,aJ,aJ⟩,0):=by
  intro x hx;unfold createS;rw [hx];cases x <;> rfl
 have HC:=Lib.hid hC
 clear h hn hs hP hC
 go_enter Tryz.func30,Tryz.ntmps30
 go_wp2_with fail
 refine K1.out.mono ?_
 intro e w1 hp
 rcases HP.out e w1 hp with ⟨e1,rfl,g⟩|⟨l,lb,e1,rfl,g⟩
 ·have hne:=HN.out e1
  have q:((cu v size d).2.2 != 0)=true:=by rw [bne_iff_ne];exact hne
  have q2:decide ((cu v size d).2.2=0)=false:=decide_eq_false hne
  have G:Hid (kD bd (createS v size d) F0 w0 R (.returned (.tuple #[.pointer none,.int .i64 (cu v size d).2.2])) w1):=Lib.hid (by rw [HC.out none e1];exact⟨rfl,g⟩)
  clear g hp K1 HP HC hne HN e1
  generalize (cu v size d).2.2=er at *
  go_wp2_with fail
  go_ret2
  exact G.out
 ·have K2:=Lib.hid (zO g)
  have E1:=Lib.hid e1
  clear g hp K1 HP HN e1
  go_wp2_with fail
  refine K2.out.mono ?_
  rintro e w2 ⟨dz,rfl,g2⟩
  have g3:=g2.cells #[aD lb,pR dz,.int .i64 0,.slice none 0 0,.slice none 0 0,.slice none 0 0] 150
  have d1:(w2.alloc (.cells #[aD lb,pR dz,.int .i64 0,.slice none 0 0,.slice none 0 0,.slice none 0 0] 150)).cell? ⟨w2.heap.size,1,none⟩=some (pR dz):=cell_of (g3.block 0 rfl) rfl
  have K3:=Lib.hid (ig (g3.aI (R1:=[_,_]) [1,0] (by decide) rfl))
  clear g2 g3 K2
  go_wp2_with fail
  refine K3.out.mono ?_
  rintro e w3 ⟨A1,a1,D1,e1',F1,f1,rfl,g4⟩
  have Q1:=Lib.hid (BX (g4.block 4 rfl) 2 4 (Nat.le_refl 6))
  have g5:=g4.ku [.int .i64 aJ.gen,.slice A1 aJ.ax.length a1,.slice D1 aJ.bN.length e1',.slice F1 aJ.bU.length f1] 2 (b:=w2.heap.size) (T:=150) (C:=#[aD lb,pR dz,.int .i64 0,.slice none 0 0,.slice none 0 0,.slice none 0 0]) 4 rfl
  have G:Hid (kD bd (createS v size d) F0 w0 R (.returned (.tuple #[pR w2.heap.size,.int .i64 0])) (w3.setCells w2.heap.size 2 [.int .i64 aJ.gen,.slice A1 aJ.ax.length a1,.slice D1 aJ.bN.length e1',.slice F1 aJ.bU.length f1])):=Lib.hid (by
   rw [HC.out _ E1.out]
   exact⟨_,_,_,rfl,In.kF (s:=aJ) (lb:=lb) (dz:=dz) (g5.aI (R1:=[_,_,_,_,_,_,_]) (R2:=R) [4,0,1,2,5,6,3] (by decide) rfl)⟩)
  clear g4 g5 K3 d1 HC
  go_wp2_with (refine wpList_store_mid (op:=⟨none,Op.store 62 (.tmp 32) (.tmp 30),_,_,_,_⟩) (by rfl) 62 (.tmp 32) (.tmp 30) rfl w2.heap.size 2 #[.int .i64 aJ.gen,.slice A1 aJ.ax.length a1,.slice D1 aJ.bN.length e1',.slice F1 aJ.bU.length f1] (by rfl) (by rfl) Q1.out (by kernel_rfl) (qG _ _ _ _ _ _ _ _ _ _) ?_)
  go_ret2
  exact G.out
theorem SK (h:In F0 w0 w R) (i:Nat) (hA:R[i]?=some (bJ bd d)):Calls Tryz.prog 125 #[aD bd] w fun e w'=>e=.returned (.tuple #[.int .i64 (kY d).1,.int .i64 (kY d).2])∧In F0 w0 w' R:=by
 have hdk:aP d:=by
  obtain⟨F,hF⟩:=h.get i hA
  exact hF.1
 have hb:=mF hdk bL
 unfold bytesD at hb
 have C1:=Lib.hid (wR h i hA bL oV)
 clear h hA hdk
 cases hd:gY d bL with
 | none=>
  have hp:kY d=(0,6):=by unfold kY;rw [hd]
  have HD:=Lib.hid hd
  rw [hp]
  clear hd hb hp
  go_enter Tryz.func125,Tryz.ntmps125
  go_wp2_with fail
  refine C1.out.mono ?_
  rintro e w1 ⟨v,rfl,g1⟩
  rw [HD.out] at g1 ⊢
  have G:=Lib.hid g1.drop
  clear g1 C1
  go_wp2_with fail
  go_ret2
  exact⟨rfl,G.out⟩
 | some b=>
  have hp:kY d=(((bD b).1.aj:Int),(bD b).2):=by unfold kY;rw [hd]
  have HD:=Lib.hid hd
  have Gr:Hid (b.length≤1048576):=Lib.hid (by rw [hd] at hb;exact hb)
  rw [hp]
  clear hd hb hp
  go_enter Tryz.func125,Tryz.ntmps125
  go_wp2_with fail
  refine C1.out.mono ?_
  rintro e w1 ⟨v,rfl,g1⟩
  rw [HD.out] at g1 ⊢
  simp only [Option.getD_some,Option.isSome_some] at g1 ⊢
  obtain⟨ab,cb,rfl,hbb⟩:=nJ (b:=b) (i:=0) g1 rfl
  have K2:=Lib.hid (EB g1 hbb (by have:=Gr.out;omega))
  clear g1 C1 hbb
  go_wp2_with fail
  refine K2.out.mono ?_
  rintro e w2 ⟨v,rfl,g2⟩
  have G:=Lib.hid (fun o=>(g2.drop.drop.alloc o))
  obtain⟨F2,r2⟩:=g2.get 0 rfl
  obtain⟨a2,c2,rfl,-,-,-⟩:=r2.shape
  clear g2 K2 r2
  go_wp2_with fail
  go_ret2
  exact⟨rfl,G.out _⟩
end
theorem Cc {l:bK} {n:Nat} {d:ae}:(bM (kr l n) d).1.ops≤d.ops+3:=by
 refine yo (g:=kr l n) (d:=d) ?_
 intro f hf d
 simp only [kr,List.mem_cons,List.not_mem_nil,or_false] at hf
 rcases hf with rfl | rfl | rfl
 ·exact DR l n d
 ·exact fZ d (bA l)
 ·exact wZ d
theorem Gb {σ:Type} (ef:σ→cB→σ×Int) (size:Int) (d:ae) (s:σ):((dB ef size d s).2.2.1=none→(dB ef size d s).2.2.2≠0)∧(∀ l,(dB ef size d s).2.2.1=some l→(dB ef size d s).2.2.2=0∧gH l)∧(dB ef size d s).2.1.ops≤d.ops+3:=by
 cases hb:gY d bL with
 | none=>
  have e:dB ef size d s=(s,d,none,6):=by unfold dB;rw [hb]
  rw [e];exact⟨(fun _=>by simp),(fun l h=>by cases h),Nat.le_add_right _ _⟩
 | some b=>
  by_cases hm:(bD b).2=0
  ·rw [IQ ef size d s b hb hm]
   split
   ·rename_i h;exact⟨(fun _=>h),(fun l h=>by cases h),Nat.le_add_right _ _⟩
   ·split
    ·rename_i h;exact⟨(fun _=>h),(fun l h=>by cases h),Cc⟩
    ·refine⟨(fun h=>by cases h),(fun l h=>?_),Cc⟩
     simp only [Option.some.injEq] at h
     subst h
     have:=rM size
     exact⟨rfl,this.1,this.2,BU hm⟩
  ·have e:dB ef size d s=(s,d,none,(bD b).2):=by unfold dB;rw [hb];simp only;rw [if_pos hm]
   rw [e];exact⟨(fun _=>hm),(fun l h=>by cases h),Nat.le_add_right _ _⟩
section
variable {F0:List Nat} {w0 w:World} {R:List az} {bd:Nat} {d:ae}
theorem o_soopen (h:In F0 w0 w (bJ bd d::R)) (ho:d.ops≤99980000) (aj size:Int):Calls Tryz.prog 40 #[aD bd,.int .i64 aj,.int .i64 size] w (kD bd (nW aj size d) F0 w0 R):=by
 have K1:=Lib.hid (SK h 0 rfl)
 have HO:Hid (nW aj size d=if (kY d).2≠0 then (d,none,(kY d).2) else if aj < (kY d).1∨3 < aj then (d,none,10) else match (dB eO size d aJ).2.2.1 with
  | none=>((dB eO size d aJ).2.1,none,(dB eO size d aJ).2.2.2)
  | some l=>(iA l (iR (dB eO size d aJ).2.1) (dB eO size d aJ).2.1,some ⟨l,(dB eO size d aJ).1,(dB eO size d aJ).1⟩,0)):=Lib.hid rfl
 clear h
 by_cases hp:(kY d).2=0
 case neg=>
  have q:((kY d).2 != 0)=true:=by rw [bne_iff_ne];exact hp
  have e:nW aj size d=(d,none,(kY d).2):=by rw [HO.out,if_pos hp]
  rw [e]
  clear e hp HO
  generalize (kY d).2=er at *
  generalize (kY d).1=vv at *
  go_enter Tryz.func40,Tryz.ntmps40
  go_wp2_with fail
  refine K1.out.mono ?_
  rintro e w1 ⟨rfl,g1⟩
  have G:=Lib.hid g1
  clear g1 K1
  go_wp2_with fail
  go_ret2
  exact⟨rfl,G.out⟩
 rw [hp] at K1
 generalize hv:(kY d).1=vv at *
 by_cases h1:aj < vv
 ·have q:decide (aj < vv)=true:=decide_eq_true h1
  have e:nW aj size d=(d,none,10):=by rw [HO.out,if_neg (by simp [hp]),if_pos (Or.inl h1)]
  rw [e]
  clear e hp HO h1 hv
  go_enter Tryz.func40,Tryz.ntmps40
  go_wp2_with fail
  refine K1.out.mono ?_
  rintro e w1 ⟨rfl,g1⟩
  have G:=Lib.hid g1
  clear g1 K1
  go_wp2_with fail
  go_ret2
  exact⟨rfl,G.out⟩
 by_cases h3:3 < aj
 ·have q:decide (aj < vv)=false:=decide_eq_false h1
  have q3:decide (3 < aj)=true:=decide_eq_true h3
  have e:nW aj size d=(d,none,10):=by rw [HO.out,if_neg (by simp [hp]),if_pos (Or.inr h3)]
  rw [e]
  clear e hp HO h1 h3 hv
  go_enter Tryz.func40,Tryz.ntmps40
  go_wp2_with fail
  refine K1.out.mono ?_
  rintro e w1 ⟨rfl,g1⟩
  have G:=Lib.hid g1
  clear g1 K1
  go_wp2_with fail
  go_ret2
  exact⟨rfl,G.out⟩
 have q:decide (aj < vv)=false:=decide_eq_false h1
 have q3:decide (3 < aj)=false:=decide_eq_false h3
 obtain⟨f1,f2,f3⟩:=Gb eO size d aJ
 have HO2:Hid (∀ x,(dB eO size d aJ).2.2.1=x→nW aj size d=match x with
  | none=>((dB eO size d aJ).2.1,none,(dB eO size d aJ).2.2.2)
  | some l=>(iA l (iR (dB eO size d aJ).2.1) (dB eO size d aJ).2.1,some ⟨l,(dB eO size d aJ).1,(dB eO size d aJ).1⟩,0)):=Lib.hid (fun x hx=>by
   rw [HO.out,if_neg (by simp [hp]),if_neg (fun hh=>hh.elim h1 h3),hx])
 have KO:Hid (∀ dz (R':List az) w',In F0 w0 w' (iH dz aJ::bJ bd d::R')→Calls Tryz.prog 20 #[aD bd,.int .i64 size,.func (.func 126) #[.agg #[pR dz]] #[]] w' (OpenPost (iH dz) bd (dB eO size d aJ) F0 w0 R')):=Lib.hid (fun dz R' w' h'=>Yq (Lr dz) aJ (by decide) h' (by omega) size)
 have HP:Hid (∀ dz (R':List az) e w',OpenPost (iH dz) bd (dB eO size d aJ) F0 w0 R' e w'→((dB eO size d aJ).2.2.1=none∧e=.returned (.tuple #[.pointer none,.int .i64 (dB eO size d aJ).2.2.2])∧In F0 w0 w' (iH dz (dB eO size d aJ).1::bJ bd (dB eO size d aJ).2.1::R'))∨(∃ l lb,(dB eO size d aJ).2.2.1=some l∧e=.returned (.tuple #[aD lb,.int .i64 0])∧In F0 w0 w' (eB lb bd l::iH dz (dB eO size d aJ).1::bJ bd (dB eO size d aJ).2.1::R'))):=Lib.hid (by
  intro dz R' e w' hp
  unfold OpenPost at hp
  cases ec:(dB eO size d aJ).2.2.1 with
  | none=>rw [ec] at hp;exact Or.inl ⟨rfl,hp.1,hp.2⟩
  | some l=>
   rw [ec] at hp
   obtain⟨lb,g1,g2⟩:=hp
   rw [(f2 l ec).1] at g1
   exact Or.inr ⟨l,lb,rfl,g1,g2⟩)
 have HF1:=Lib.hid f1
 have Xq:=Lib.hid f2
 have HF3:=Lib.hid f3
 have OA:=Lib.hid ho
 have QK:∀ (fn:Fn) (first cap:Array Value) (w:World),(Instr.makeFunc fn first cap).run Tryz.prog w=.ok (.func fn first cap) w:=fun _ _ _ _=>rfl
 clear hp HO h1 h3 hv f1 f2 f3 ho
 go_enter Tryz.func40,Tryz.ntmps40
 go_wp2_with fail
 refine K1.out.mono ?_
 rintro e w1 ⟨rfl,g1⟩
 have K2:=Lib.hid (zO g1)
 clear g1 K1
 go_wp2_with fail
 refine K2.out.mono ?_
 rintro e w2 ⟨dz,rfl,g2⟩
 have g3:=g2.cells #[pR dz] 195
 have K3:=Lib.hid (KO.out dz (Cells w2.heap.size #[pR dz] 195::R) _ (g3.aI (R1:=[_,_,_]) [1,2,0] (by decide) rfl))
 clear g2 g3 K2 KO
 go_wp2_with fail
 refine K3.out.mono ?_
 intro e w3 hp
 rcases HP.out dz _ e w3 hp with ⟨e1,rfl,g4⟩|⟨l,lb,e1,rfl,g4⟩
 ·have hne:=HF1.out e1
  have qn:((dB eO size d aJ).2.2.2 != 0)=true:=by rw [bne_iff_ne];exact hne
  have G:Hid (kD bd (nW aj size d) F0 w0 R (.returned (.tuple #[.pointer none,.int .i64 (dB eO size d aJ).2.2.2])) w3):=Lib.hid (by rw [HO2.out none e1];exact⟨rfl,g4.aI (R1:=[_,_,_]) [1] (by decide) rfl⟩)
  clear g4 hp K3 HP HO2 hne HF1 Xq HF3 e1
  generalize (dB eO size d aJ).2.2.2=er at *
  go_wp2_with fail
  go_ret2
  exact G.out
 ·obtain⟨-,hlo⟩:=Xq.out l e1
  have E1:=Lib.hid e1
  have K4:=Lib.hid (Oz hlo (by have:=HF3.out;have:=OA.out;omega) (g4.aI (R1:=[_,_,_,_]) [0,2,1,3] (by decide) rfl))
  have hd0:w3.cell? ⟨w2.heap.size,0,none⟩=some (pR dz):=cell_of (g4.block 3 rfl) rfl
  clear g4 hp K3 HP HF1 Xq HF3 e1 hd0
  go_wp2_with fail
  refine K4.out.mono ?_
  rintro e w4 ⟨z,rfl,g5⟩
  have hz0:(w4.drewN 1).cell? ⟨w2.heap.size,0,none⟩=some (pR dz):=cell_of ((g5.drewN 1).block 3 rfl) rfl
  have K5:=Lib.hid (ig ((g5.drewN 1).aI (R1:=[_,_,_,_]) [2,0,1,3] (by decide) rfl))
  clear g5 K4
  go_wp2_with fail
  go_region_held3 (fun w'=>w'.cell? ⟨w2.heap.size,0,none⟩=some (pR dz)) (first | exact hz1 | exact hz0 | go_keep) (first
   | (go_at_call 34;refine K5.out.mono ?_;rintro e w5 ⟨A1,a1,D1,d1,F1,f1,rfl,g6⟩;have hz1:w5.cell? ⟨w2.heap.size,0,none⟩=some (pR dz):=cell_of (g6.block 6 rfl) rfl;have G6:=Lib.hid g6;clear g6))
  have g7:=G6.out.cells (IM lb dz (dB eO size d aJ).1.gen (.slice A1 (dB eO size d aJ).1.ax.length a1) (.slice D1 (dB eO size d aJ).1.bN.length d1) (.slice F1 (dB eO size d aJ).1.bU.length f1)) 150
  have G:Hid (kD bd (nW aj size d) F0 w0 R (.returned (.tuple #[pR w5.heap.size,.int .i64 0])) _):=Lib.hid (by
   rw [HO2.out _ E1.out]
   exact⟨_,_,_,rfl,In.kF (s:=(dB eO size d aJ).1) (lb:=lb) (dz:=dz) (g7.aI (R1:=[_,_,_,_,_,_,_,_]) (R2:=R) [0,1,2,3,5,6,4] (by decide) rfl)⟩)
  clear g7 G6 K5 HO2 hz0 hz1
  go_wp2_with fail
  go_ret2
  exact G.out
end
end Go.Proofs.YtogclkhpbjfadaaGreat
