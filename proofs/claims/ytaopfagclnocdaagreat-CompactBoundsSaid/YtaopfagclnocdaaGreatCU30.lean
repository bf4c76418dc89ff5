/- Rows.CompactBoundsSaid -/
import Derived.Test.YtaopfagclnocdaaGreatCU7
import Derived.Test.YtaopfagclnocdaaGreatCU29
import Derived.Deep.RegionHeld3
import Derived.Deep.RegionLaw
namespace Go.Proofs.YtaopfagclnocdaaGreat
open Go.RowKit
set_option linter.unusedVariables false
set_option maxHeartbeats 64000000
set_option maxRecDepth 100000
def dgv (s k j:Nat):Value:=if 6 - k < j then .int .u8 ((48+s / 10 ^ (6 - j) % 10:Nat):Int) else .int .u8 0
def nmArr (s k:Nat):Array Value:=#[.int .u8 115,dgv s k 1,dgv s k 2,dgv s k 3,dgv s k 4,dgv s k 5,dgv s k 6]
theorem nmArr_step {s k:Nat} (h:k < 6):(nmArr s k).setIfInBounds (6 - k) (.int .u8 ((48+s / 10 ^ k % 10:Nat):Int))=nmArr s (k+1):=by
 rcases k with _ | _ | _ | _ | _ | _ | k
 ·rfl
 ·rfl
 ·rfl
 ·rfl
 ·rfl
 ·rfl
 ·omega
theorem nmArr_at {s k:Nat} (h:k < 6):(nmArr s k)[6 - k]?=some (.int .u8 0):=by
 rcases k with _ | _ | _ | _ | _ | _ | k
 ·rfl
 ·rfl
 ·rfl
 ·rfl
 ·rfl
 ·rfl
 ·omega
def nmBytes (s:Nat):List UInt8:=[115,dig s 5,dig s 4,dig s 3,dig s 2,dig s 1,dig s 0]
theorem dig_val (s k:Nat):((48+s / 10 ^ k % 10:Nat):Int)=((dig s k).toNat:Int):=by
 unfold dig
 have:s / 10 ^ k % 10 < 10:=Nat.mod_lt _ (by omega)
 simp;omega
theorem nmArr_full (s:Nat):(nmArr s 6).toList=u8s (nmBytes s):=by
 unfold nmArr nmBytes u8s dgv
 simp only [List.map_cons,List.map_nil]
 simp only [Nat.sub_self,Nat.reduceSub,Nat.lt_add_one,Nat.reduceLT,if_true,dig_val]
 rfl
section
variable {F0:List Nat} {w0 w:World} {R:List Asrt}
def NameRel (s g:Nat) (F0:List Nat) (w0:World) (R:List Asrt) (q i:Value) (wr:World):Prop:=
 ∃ k:Nat,k≤6∧q=.int .i64 ((s / 10 ^ k:Nat):Int)∧i=.int .i64 ((6 - k:Nat):Int)∧In F0 w0 wr (Cells g (nmArr s k) 5::R)
theorem o_name (h:In F0 w0 w R) (s:Nat) (hs:s < 4611686018427387904):Calls Tryz.prog 89 #[.int .i64 s] w fun e w'=>e=.returned (.string (segName s))∧In F0 w0 w' R:=by
 by_cases hb:s < 1∨1000000≤s
 ·have HE:Hid (segName s=ByteArray.empty):=Lib.hid (by unfold segName;rw [if_pos hb])
  have H:=Lib.hid h
  clear h
  by_cases h1:s < 1
  ·have h1':(s:Int) < 1:=by omega
   clear hb h1
   go_enter Tryz.func89,Tryz.ntmps89
   go_wp2_with fail
   go_ret
   exact⟨by rw [HE.out];rfl,H.out⟩
  ·have h1':(1:Int)≤(s:Int):=by omega
   have h2':(1000000:Int)≤(s:Int):=by omega
   clear hb h1
   go_enter Tryz.func89,Tryz.ntmps89
   go_wp2_with fail
   go_ret
   exact⟨by rw [HE.out];rfl,H.out⟩
 ·have HE:Hid (segName s=⟨(nmBytes s).toArray⟩):=Lib.hid (by unfold segName;rw [if_neg hb];rfl)
  have h1':(1:Int)≤(s:Int):=by omega
  have h2':(s:Int) < 1000000:=by omega
  have hs2:s < 1000000:=by omega
  have h1:=h.cells #[.int .u8 115,.int .u8 0,.int .u8 0,.int .u8 0,.int .u8 0,.int .u8 0,.int .u8 0] 5
  have HS:Hid (NameRel s w.heap.size F0 w0 R (.int .i64 s) (.int .i64 6) (w.alloc (.cells #[.int .u8 115,.int .u8 0,.int .u8 0,.int .u8 0,.int .u8 0,.int .u8 0,.int .u8 0] 5))):=Lib.hid ⟨0,by omega,by simp,rfl,h1⟩
  have HS2:=Lib.hid hs2
  have q2:decide ((1000000:Int)≤(s:Int))=false:=by simp;omega
  have q1:decide ((s:Int) < 1)=false:=by simp;omega
  clear h h1 hb hs hs2 h1' h2'
  have hmk:∀ w,(Instr.makeSlice 61 (.int .i64 7) (.int .i64 7)).run Tryz.prog w=.ok (.slice (some ⟨w.heap.size,0,none⟩) 7 7) (w.alloc (.cells #[.int .u8 0,.int .u8 0,.int .u8 0,.int .u8 0,.int .u8 0,.int .u8 0,.int .u8 0] 5)):=fun _=>by kernel_rfl
  go_enter Tryz.func89,Tryz.ntmps89
  go_wp2_with fail
  go_loopw [0,4] (NameRel s w.heap.size F0 w0 R) (fun _ i _=>(intOf i).toNat)
  case atStart=>exact HS.out
  case round=>
   obtain⟨k,hk,rfl,rfl,ho⟩:=hrel
   clear HS
   by_cases hlt:k < 6
   ·have c0:wr.cell? ⟨w.heap.size,6 - k,none⟩=some (.int .u8 0):=cell_of (ho.block 0 rfl) (nmArr_at hlt)
    have f0:wr.frozen? ⟨w.heap.size,6 - k,none⟩=false:=free_of (ho.block 0 rfl)
    have h2:=ho.put 0 rfl (6 - k) (.int .u8 ((48+s / 10 ^ k % 10:Nat):Int))
    rw [nmArr_step hlt] at h2
    have HR:Hid (NameRel s w.heap.size F0 w0 R (.int .i64 (((s / 10 ^ k:Nat):Int) / 10)) (.int .i64 ((6 - k:Nat) - 1:Int)) (wr.setCell ⟨w.heap.size,6 - k,none⟩ (.int .u8 (48+((s / 10 ^ k:Nat):Int) % 10)))):=
     Lib.hid ⟨k+1,by omega,by rw [Nat.pow_succ,← Nat.div_div_eq_div_mul];congr 1,by congr 1;omega,by
      rw [show (48+((s / 10 ^ k:Nat):Int) % 10)=((48+s / 10 ^ k % 10:Nat):Int) by omega];exact h2⟩
    have hq:s / 10 ^ k < 1000000:=Nat.lt_of_le_of_lt (Nat.div_le_self _ _) HS2.out
    have b1:(0:Int) < ((6 - k:Nat):Int):=by omega
    have b2:((6 - k:Nat):Int) < 7:=by omega
    clear ho h2
    generalize s / 10 ^ k=q at *
    generalize 6 - k=i at *
    go_wp2_with fail
    exact⟨HR.out,by simp [intOf];omega⟩
   ·have hk6:k=6:=by omega
    subst hk6
    have sb:=src_bytes (bs:=nmBytes s) (ho.block 0 rfl) (nmArr_full s)
    have cv:=conv_str (w:=wr) (cap:=7) (n:=7) sb (fun e=>by cases e)
    have HO:=Lib.hid ho.drop
    clear ho hlt
    go_wp2_with fail
    go_ret
    exact⟨by rw [HE.out];rfl,HO.out⟩
end
def segV (l:List Nat):List Value:=l.map (fun s:Nat=>Value.int .i64 (s:Int))
theorem segV_one (l:List Nat):∀ u∈segV l,u.oneCell'=true:=by
 intro u hu
 obtain⟨b,_,rfl⟩:=List.mem_map.1 hu
 rfl
section
variable {F0:List Nat} {w0 w:World} {R:List Asrt}
def Segs (F0:List Nat) (w0:World) (R:List Asrt) (A:Option Addr) (l:List Nat):Prop:=∀ w',In F0 w0 w' R→Src w' A l.length 1 (segV l)
def UpRel (m:ManD) (F0:List Nat) (w0:World) (R:List Asrt) (q i:Value) (wr:World):Prop:=
 ∃ (k was:Nat),k≤m.segs.length∧q=.int .i64 was∧i=.int .i64 k∧upB m.next 0 m.segs=upB m.next was (m.segs.drop k)∧In F0 w0 wr R
def manAgg (m:ManD) (A:Option Addr) (c:Nat):Value:=.agg #[.int .i64 m.ver,.int .i64 m.next,.slice A m.segs.length c]
theorem o_may (h:In F0 w0 w R) (m:ManD) {A:Option Addr} {c:Nat} (hs:Segs F0 w0 R A m.segs) (hn:m.segs.length≤1000000000) :
  Calls Tryz.prog 195 #[manAgg m A c] w fun e w'=>e=.returned (.bool (mayM m))∧In F0 w0 w' R:=by
 have H1:=Lib.hid (h.cells #[.int .i64 m.ver,.int .i64 m.next,.slice A m.segs.length c] 160)
 have HF:Hid (∀ b,mayM m=b→(Ending.returned (.bool b)=Ending.returned (.bool (mayM m))∧In F0 w0 (w.alloc (.cells #[.int .i64 m.ver,.int .i64 m.next,.slice A m.segs.length c] 160)) R)):=Lib.hid fun b hb=>⟨by rw [hb],H1.out.drop⟩
 have HS:=Lib.hid hs
 have HM:Hid (mayM m=(decide (1≤m.ver∧m.ver≤3∧1≤m.segs.length∧m.segs.length≤64∧1≤m.next∧m.next≤1000000) && upB m.next 0 m.segs)):=Lib.hid rfl
 unfold manAgg
 clear h hs
 by_cases k1:m.ver < 1
 ·have HE:=Lib.hid (HF.out false (by rw [HM.out,decide_eq_false (by omega)];rfl))
  have q1:decide ((m.ver:Int) < 1)=true:=by simp;omega
  clear HF HM H1 k1
  go_enter Tryz.func195,Tryz.ntmps195
  go_wp2_with fail
  go_ret
  exact HE.out
 have q1:decide ((m.ver:Int) < 1)=false:=by simp;omega
 by_cases k2:3 < m.ver
 ·have HE:=Lib.hid (HF.out false (by rw [HM.out,decide_eq_false (by omega)];rfl))
  have q2:decide ((3:Int) < (m.ver:Int))=true:=by simp;omega
  clear HF HM H1 k1 k2
  go_enter Tryz.func195,Tryz.ntmps195
  go_wp2_with fail
  go_ret
  exact HE.out
 have q2:decide ((3:Int) < (m.ver:Int))=false:=by simp;omega
 by_cases k3:m.segs.length < 1
 ·have HE:=Lib.hid (HF.out false (by rw [HM.out,decide_eq_false (by omega)];rfl))
  have q3:decide ((m.segs.length:Int) < 1)=true:=by simp;omega
  clear HF HM H1 k1 k2 k3
  go_enter Tryz.func195,Tryz.ntmps195
  go_wp2_with fail
  go_ret
  exact HE.out
 have q3:decide ((m.segs.length:Int) < 1)=false:=by simp;omega
 by_cases k4:64 < m.segs.length
 ·have HE:=Lib.hid (HF.out false (by rw [HM.out,decide_eq_false (by omega)];rfl))
  have q4:decide ((64:Int) < (m.segs.length:Int))=true:=by simp;omega
  clear HF HM H1 k1 k2 k3 k4
  go_enter Tryz.func195,Tryz.ntmps195
  go_wp2_with fail
  go_ret
  exact HE.out
 have q4:decide ((64:Int) < (m.segs.length:Int))=false:=by simp;omega
 by_cases k5:m.next < 1
 ·have HE:=Lib.hid (HF.out false (by rw [HM.out,decide_eq_false (by omega)];rfl))
  have q5:decide ((m.next:Int) < 1)=true:=by simp;omega
  clear HF HM H1 k1 k2 k3 k4 k5
  go_enter Tryz.func195,Tryz.ntmps195
  go_wp2_with fail
  go_ret
  exact HE.out
 have q5:decide ((m.next:Int) < 1)=false:=by simp;omega
 by_cases k6:1000000 < m.next
 ·have HE:=Lib.hid (HF.out false (by rw [HM.out,decide_eq_false (by omega)];rfl))
  have q6:decide ((1000000:Int) < (m.next:Int))=true:=by simp;omega
  clear HF HM H1 k1 k2 k3 k4 k5 k6
  go_enter Tryz.func195,Tryz.ntmps195
  go_wp2_with fail
  go_ret
  exact HE.out
 have q6:decide ((1000000:Int) < (m.next:Int))=false:=by simp;omega
 have HM2:Hid (mayM m=upB m.next 0 m.segs):=Lib.hid (by rw [HM.out,decide_eq_true (by omega)];rfl)
 have hl64:m.segs.length≤64:=by omega
 have HST:Hid (UpRel m F0 w0 (Cells w.heap.size #[.int .i64 m.ver,.int .i64 m.next,.slice A m.segs.length c] 160::R) (.int .i64 0) (.int .i64 0) (w.alloc (.cells #[.int .i64 m.ver,.int .i64 m.next,.slice A m.segs.length c] 160))):=Lib.hid ⟨0,0,Nat.zero_le _,rfl,rfl,rfl,H1.out⟩
 clear HF HM H1 k1 k2 k3 k4 k5 k6 hn
 go_enter Tryz.func195,Tryz.ntmps195
 go_wp2_with fail
 clear q1 q2 q3 q4 q5 q6
 go_loopw [3,39] (UpRel m F0 w0 (Cells w.heap.size #[.int .i64 m.ver,.int .i64 m.next,.slice A m.segs.length c] 160::R)) (fun _ k _=>m.segs.length - (intOf k).toNat)
 case atStart=>exact HST.out
 case round=>
  obtain⟨k,was,hk,rfl,rfl,hup,ho⟩:=hrel
  clear HST
  by_cases hlt:k < m.segs.length
  ·obtain⟨s,hx⟩:∃ s,m.segs[k]?=some s:=⟨m.segs[k],List.getElem?_eq_getElem hlt⟩
   have hdr:m.segs.drop k=s::m.segs.drop (k+1):=by rw [List.drop_eq_getElem_cons hlt];congr 1;rw [List.getElem?_eq_getElem hlt] at hx;exact Option.some.inj hx
   obtain⟨ad,rfl,hc⟩:=(HS.out wr ho.drop).at' (by omega)
   have c0:=hc k (.int .i64 s) (by simp [segV,hx])
   have d1:wr.cell? ⟨w.heap.size,1,none⟩=some (.int .i64 m.next):=cell_of (ho.block 0 rfl) rfl
   have hlt':(k:Int) < (m.segs.length:Int):=by omega
   rw [hdr] at hup
   by_cases hs1:s≤was
   ·have HE:Hid (Ending.returned (.bool false)=Ending.returned (.bool (mayM m))∧In F0 w0 wr R):=Lib.hid ⟨by
     rw [HM2.out,hup];unfold upB;rw [decide_eq_false (by omega)];rfl,ho.drop⟩
    have q1:decide ((s:Int)≤(was:Int))=true:=by simp;omega
    have q1':decide (s≤was)=true:=by simp;omega
    clear ho hup hx hdr hc hlt
    go_wp2_with fail
    go_ret
    exact HE.out
   ·have q1:decide (s≤was)=false:=by simp;omega
    by_cases hs2:m.next≤s
    ·have HE:Hid (Ending.returned (.bool false)=Ending.returned (.bool (mayM m))∧In F0 w0 wr R):=Lib.hid ⟨by
      rw [HM2.out,hup];unfold upB;rw [decide_eq_false (by omega)];rfl,ho.drop⟩
     have q2:decide (m.next≤s)=true:=by simp;omega
     clear ho hup hx hdr hc hlt hs1
     go_wp2_with fail
     go_ret
     exact HE.out
    ·have q2:decide (m.next≤s)=false:=by simp;omega
     have HR:Hid (UpRel m F0 w0 (Cells w.heap.size #[.int .i64 m.ver,.int .i64 m.next,.slice (some ad) m.segs.length c] 160::R) (.int .i64 s) (.int .i64 (k+1)) wr):=Lib.hid ⟨k+1,s,by omega,rfl,by go_num,by
      rw [hup];conv=>lhs;unfold upB
      rw [decide_eq_true (by omega),Bool.true_and],ho⟩
     clear ho hup hx hdr hc hlt hs1 hs2
     go_wp2_with fail
     go_roundw
     case rel=>exact HR.out
     case measure=>simp [intOf];omega
  ·have hge:(m.segs.length:Int)≤(k:Int):=by omega
   have HE:Hid (Ending.returned (.bool true)=Ending.returned (.bool (mayM m))∧In F0 w0 wr R):=Lib.hid ⟨by
    rw [HM2.out,hup,List.drop_eq_nil_of_le (by omega)];rfl,ho.drop⟩
   clear ho hup hlt
   go_wp2_with fail
   go_ret
   exact HE.out
end
theorem upB_mem {b:Nat}:∀ {l:List Nat} {was:Nat},upB b was l=true→∀ s∈l,was < s∧s < b
 | [],_,_,s,hs=>by simp at hs
 | x::r,was,h,s,hs=>by
  unfold upB at h
  rw [Bool.and_eq_true,decide_eq_true_eq] at h
  rcases List.mem_cons.1 hs with rfl | hs
  ·exact h.1
  ·have:=upB_mem h.2 s hs
   omega
theorem mayM_iff {m:ManD}:mayM m=true↔(1≤m.ver∧m.ver≤3∧1≤m.segs.length∧m.segs.length≤64∧1≤m.next∧m.next≤1000000)∧upB m.next 0 m.segs=true:=by
 unfold mayM;rw [Bool.and_eq_true,decide_eq_true_eq]
theorem mayM_seg {m:ManD} (h:mayM m=true) {s:Nat} (hs:s∈m.segs):1≤s∧s < m.next∧s < 1000000:=by
 obtain⟨h1,h2⟩:=mayM_iff.1 h
 have:=upB_mem h2 s hs
 omega
def segB (l:List Nat):List UInt8:=(l.map (fun s=>be s 4)).flatten
theorem segB_length (l:List Nat):(segB l).length=4 * l.length:=by
 induction l with
 | nil=>rfl
 | cons s r ih=>
  have:segB (s::r)=be s 4++segB r:=rfl
  rw [this,List.length_append,ih,be_length,List.length_cons];omega
theorem segB_snoc (l:List Nat) (s:Nat):segB (l++[s])=segB l++be s 4:=by simp [segB]
theorem manBody_eq (m:ManD):manBody m=be m.next 4++be m.segs.length 2++segB m.segs:=rfl
theorem manBody_length (m:ManD):(manBody m).length=6+4 * m.segs.length:=by
 rw [manBody_eq,List.length_append,List.length_append,segB_length,be_length,be_length]
section
variable {F0:List Nat} {w0 w:World} {R:List Asrt}
def EncPost (m:ManD) (F0:List Nat) (w0:World) (R:List Asrt) (e:Ending) (w':World):Prop:=
 ∃ v,e=.returned (.tuple #[v,.int .i64 (manEnc m).2])∧In F0 w0 w' (RowA 5 1 v (manEnc m).1.length (u8s (manEnc m).1)::R)
def EncRel (m:ManD) (g b:Nat) (A:Option Addr) (c:Nat) (F0:List Nat) (w0:World) (R:List Asrt) (i:Value) (wr:World):Prop:=
 ∃ k:Nat,k≤m.segs.length∧i=.int .i64 k∧In F0 w0 wr (WA g (be m.next 4++be m.segs.length 2++segB (m.segs.take k))::Cells b #[.int .i64 m.ver,.int .i64 m.next,.slice A m.segs.length c] 160::R)
theorem u64_of {n:Nat} (h:n < 18446744073709551616):u64 (n:Int)=n:=by unfold u64;omega
theorem o_mfenc (h:In F0 w0 w R) (m:ManD) {A:Option Addr} {c:Nat} (hs:Segs F0 w0 R A m.segs) (hn:m.segs.length≤1000000000) :
  Calls Tryz.prog 164 #[manAgg m A c] w (EncPost m F0 w0 R):=by
 have h1:=h.cells #[.int .i64 m.ver,.int .i64 m.next,.slice A m.segs.length c] 160
 have H1:=Lib.hid h1
 have HS:=Lib.hid hs
 have C1:=Lib.hid (o_may h1 m (A:=A) (c:=c) (fun w' h'=>hs w' h'.drop) hn)
 unfold manAgg at C1 ⊢
 clear h hs
 by_cases hm:mayM m=false
 ·have HF:Hid (∀ w',In F0 w0 w' R→EncPost m F0 w0 R (.returned (.tuple #[.slice none 0 0,.int .i64 1])) w'):=Lib.hid fun w' h'=>by
   have e:manEnc m=([],1):=by unfold manEnc;rw [hm];rfl
   exact⟨_,by rw [e],by rw [e];exact h'.rownil _ _⟩
  have HM:=Lib.hid hm
  clear hm h1
  go_enter Tryz.func164,Tryz.ntmps164
  go_wp2_with fail
  refine C1.out.mono ?_
  rintro e w1 ⟨rfl,g1⟩
  rw [HM.out]
  have HE:=Lib.hid (HF.out w1 g1.drop)
  clear g1 C1 HF HM
  go_wp2_with fail
  go_ret2
  exact HE.out
 ·have hm':mayM m=true:=by simpa using hm
  obtain⟨hb,hup⟩:=mayM_iff.1 hm'
  have HM:=Lib.hid hm'
  have hv:m.ver≤3:=hb.2.1
  have hl64:m.segs.length≤64:=hb.2.2.2.1
  have hnx:m.next < 4294967296:=by omega
  have HE2:Hid (manEnc m=(frBytes (manFr m),0)):=Lib.hid (by unfold manEnc;rw [hm'];rfl)
  have HSG:Hid (∀ s∈m.segs,s < 1000000):=Lib.hid fun s hs=>(mayM_seg hm' hs).2.2
  have HU:Hid (u64 (m.next:Int)=m.next∧u64 (m.segs.length:Int)=m.segs.length):=Lib.hid ⟨u64_of (by omega),u64_of (by omega)⟩
  clear hm hm' h1 hb hup hn
  go_enter Tryz.func164,Tryz.ntmps164
  go_wp2_with fail
  refine C1.out.mono ?_
  rintro e w1 ⟨rfl,g1⟩
  rw [HM.out]
  have d1:(w1.alloc (.cells #[.slice none 0 0] 176)).cell? ⟨w.heap.size,1,none⟩=some (.int .i64 m.next):=cell_of ((g1.cells #[.slice none 0 0] 176).block 1 rfl) rfl
  have g2:=w_new (g1.cells #[.slice none 0 0] 176)
  have C2:=o_wu32 g2 0 rfl (by simp) (n:=(m.next:Int)) (by omega) (by omega)
  rw [HU.out.1] at C2
  have K2:=Lib.hid C2
  clear C1 C2 g1 g2
  go_wp2_with fail
  refine K2.out.mono ?_
  rintro e w2 ⟨rfl,g2⟩
  have d2:w2.cell? ⟨w.heap.size,2,none⟩=some (.slice A m.segs.length c):=cell_of (g2.block 1 rfl) rfl
  have C3:=o_wu16 g2 0 rfl (by rw [List.nil_append,be_length];omega) (m.segs.length:Int)
  rw [HU.out.2,List.nil_append] at C3
  have K3:=Lib.hid C3
  clear C3 g2 K2 d1
  go_wp2_with fail
  refine K3.out.mono ?_
  rintro e w3 ⟨rfl,g3⟩
  have d2:w3.cell? ⟨w.heap.size,2,none⟩=some (.slice A m.segs.length c):=cell_of (g3.block 1 rfl) rfl
  have HR:Hid (EncRel m w1.heap.size w.heap.size A c F0 w0 R (.int .i64 0) w3):=Lib.hid ⟨0,Nat.zero_le _,rfl,by simpa [segB] using g3⟩
  clear g3 K3
  go_wp2_with fail
  go_loopw [25] (EncRel m w1.heap.size w.heap.size A c F0 w0 R) (fun k _=>m.segs.length - (intOf k).toNat)
  case atStart=>exact HR.out
  case round=>
   obtain⟨k,hk,rfl,ho⟩:=hrel
   clear HR d2
   by_cases hlt:k < m.segs.length
   ·obtain⟨s,hx⟩:∃ s,m.segs[k]?=some s:=⟨m.segs[k],List.getElem?_eq_getElem hlt⟩
    obtain⟨ad,rfl,hc⟩:=(HS.out wr ho.drop.drop).at' (by omega)
    have c0:=hc k (.int .i64 s) (by simp [segV,hx])
    have hs6:=HSG.out s (List.mem_of_getElem? hx)
    have hs32:s < 4294967296:=by omega
    have hlen:(be m.next 4++be m.segs.length 2++segB (m.segs.take k)).length≤1000000:=by
     simp only [List.length_append,be_length,segB_length,List.length_take];omega
    have C4:=o_wu32 ho 0 rfl hlen (n:=(s:Int)) (by omega) (by omega)
    rw [u64_of (show s < 18446744073709551616 by omega)] at C4
    have K4:=Lib.hid C4
    have HT:Hid (segB (m.segs.take (k+1))=segB (m.segs.take k)++be s 4):=Lib.hid (by rw [List.take_add_one,hx];exact segB_snoc _ _)
    have hlt':(k:Int) < (m.segs.length:Int):=by omega
    clear ho C4 hc hx hs6 hlen hlt
    go_wp2_with fail
    refine K4.out.mono ?_
    rintro e w4 ⟨rfl,g4⟩
    have HR:Hid (EncRel m w1.heap.size w.heap.size (some ad) c F0 w0 R (.int .i64 (k+1)) w4):=Lib.hid ⟨k+1,by omega,by go_num,by rw [HT.out,← List.append_assoc];exact g4⟩
    clear g4 K4 HT
    go_wp2_with fail
    go_roundw
    case rel=>exact HR.out
    case measure=>simp [intOf];omega
   ·have hge:(m.segs.length:Int)≤(k:Int):=by omega
    have hkl:k=m.segs.length:=by omega
    have ho2:In F0 w0 wr (WA w1.heap.size (manBody m)::Cells w.heap.size #[.int .i64 m.ver,.int .i64 m.next,.slice A m.segs.length c] 160::R):=by
     rw [manBody_eq];rw [hkl,List.take_length] at ho;exact ho
    have hml:=manBody_length m
    have C5:=Lib.hid (fun n=>o_wbytes (ho2.drewN n) 0 rfl (by omega))
    have dv:wr.cell? ⟨w.heap.size,0,none⟩=some (.int .i64 m.ver):=cell_of (ho2.block 1 rfl) rfl
    have HO:=Lib.hid ho2
    have HML:=Lib.hid hml
    clear ho ho2 hlt hkl hml
    go_wp2_with fail
    have HP:Hid (∀ w5 v5,In F0 w0 w5 (RowA 5 1 v5 (manBody m).length (u8s (manBody m))::WA w1.heap.size (manBody m)::Cells w.heap.size #[.int .i64 m.ver,.int .i64 m.next,.slice A m.segs.length c] 160::R) →
      w5.cell? ⟨w.heap.size,0,none⟩=some (.int .i64 m.ver)∧∃ a5 c5,v5=.slice a5 (manBody m).length c5∧Calls Tryz.prog 106 #[.agg #[.int .i64 100,.int .i64 m.ver,.slice a5 (manBody m).length c5]] w5 fun e w'=>∃ v,e=.returned (.tuple #[v,.int .i64 0])∧w'.cell? ⟨w.heap.size,0,none⟩=some (.int .i64 m.ver)∧EncPost m F0 w0 R (.returned (.tuple #[v,.int .i64 0])) w'):=Lib.hid fun w5 v5 h5=>by
     obtain⟨F5,r5⟩:=h5.get 0 rfl
     obtain⟨a5,c5,rfl,-,-,-⟩:=r5.shape
     refine⟨cell_of (h5.block 2 rfl) rfl,a5,c5,rfl,(o_frput h5 100 m.ver (A:=a5) (c:=c5) (body:=manBody m) (by rw [HML.out];omega) (fun w' h'=>by obtain⟨F',r'⟩:=h'.get 0 rfl;exact r'.all)).mono fun e w' ⟨v,he,h6⟩=>?_⟩
     have e0:putErr 100 m.ver (manBody m).length=0:=by unfold putErr;rw [if_neg (by omega),if_neg (by rw [HML.out];omega)]
     have e1:putB 100 m.ver (manBody m)=frBytes (manFr m):=by unfold putB;rw [if_pos e0];rfl
     rw [e0] at he
     rw [e1] at h6
     refine⟨v,he,cell_of (h6.block 3 rfl) rfl,v,by rw [HE2.out],?_⟩
     rw [HE2.out]
     exact h6.sel2 (R1:=[_,_,_,_]) [0] (by decide) rfl
    go_region_held3 (fun w'=>w'.cell? ⟨w.heap.size,0,none⟩=some (.int .i64 m.ver)) (first | exact hc2 | exact hc1 | go_keep) (first | (go_at_call 105;refine (C5.out 1).mono ?_;rintro e w5 ⟨v5,rfl,g5⟩;obtain⟨hc1,a5,c5,rfl,hput⟩:=HP.out w5 v5 g5;have HPUT:=Lib.hid hput;clear hput g5) | (go_at_call 106;refine HPUT.out.mono ?_;rintro e w6 ⟨v6,rfl,hc2,hfin⟩;have HFIN:=Lib.hid hfin;clear hfin))
    go_wp2_with fail
    go_ret2
    exact HFIN.out
end
def rdAt:Nat→List UInt8→Int→List Nat×List UInt8×Int
 | 0,l,e=>([],l,e)
 | j+1,l,e=>((rdAt j l e).1++[num (rdTake (rdAt j l e).2.1 (rdAt j l e).2.2 4).1],(rdTake (rdAt j l e).2.1 (rdAt j l e).2.2 4).2.1,(rdTake (rdAt j l e).2.1 (rdAt j l e).2.2 4).2.2)
def decR (ver:Nat) (x:List UInt8):ManD×List UInt8×Int:=
 let t0:=rdTake x 0 4
 let t1:=rdTake t0.2.1 t0.2.2 2
 let st:=rdAt (min (num t1.1) 65) t1.2.1 t1.2.2
 (⟨ver,num t0.1,st.1⟩,st.2)
section
variable {F0:List Nat} {w0 w:World} {R:List Asrt}
def zeroMan:ManD:=⟨0,0,[]⟩
theorem infoInt:(Tryz.prog.info? 3).map (fun i=>(i.zero.map (fun z=>z.cells.size),i.size,i.bytes))=some (some 1,1,8):=by kernel_rfl
def DecPost (b:List UInt8) (F0:List Nat) (w0:World) (R:List Asrt) (e:Ending) (w':World):Prop:=
 ∃ v,e=.returned (.tuple #[.agg #[.int .i64 (manDec b).1.ver,.int .i64 (manDec b).1.next,v],.int .i64 (manDec b).2]) ∧
  In F0 w0 w' (RowA 3 1 v (manDec b).1.segs.length (segV (manDec b).1.segs)::R)
def DecRel (br mb:Nat) (ver:Nat) (nx:Nat) (x:List UInt8) (e0:Int) (n:Nat) (F0:List Nat) (w0:World) (R:List Asrt) (k:Value) (wr:World):Prop:=
 ∃ (j:Nat) (v:Value),k=.int .i64 j∧j≤n ∧
  In F0 w0 wr (RdA br (rdAt j x e0).2.1 (rdAt j x e0).2.2::Cells mb #[.int .i64 ver,.int .i64 nx,v] 160::RowA 3 1 v (rdAt j x e0).1.length (segV (rdAt j x e0).1)::R)
end
end Go.Proofs.YtaopfagclnocdaaGreat
